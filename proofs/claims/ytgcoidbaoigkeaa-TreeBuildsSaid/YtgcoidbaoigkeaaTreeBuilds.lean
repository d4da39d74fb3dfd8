/-
  The law TreeBuilds is answered with true, whatever its arguments, which stay as they were.
-/
import Derived.Test.YtgcoidbaoigkeaaRows
import Derived.Test.YtgcoidbaoigkeaaFFacts
import Derived.Test.YtgcoidbaoigkeaaQTBuild
import Derived.Test.YtgcoidbaoigkeaaKSame
set_option linter.unusedVariables false
set_option linter.unusedSimpArgs false
namespace Go.Proofs.Ytgcoidbaoigkeaa.treeBuilds
open Go.RowKit Go.ChangeShapes Go.WideShapes Go.ChangeAt Go.Sx fix

noncomputable def G_TreeBuilds : List Sum := [s_tbuild, s_rtbuild, s_rsame16]
def I_TreeBuilds : List Inf := [i_tbuild, i_rtbuild, i_rsame16]
def t_TreeBuilds : TX := (.ite (.lt (.c 400) (.ln (.v 0))) (.ret [(.c 1)])
(.asrt (.le (.ln (.v 0)) (.c 1000000)) (.call 0 [(.v 0)] (.call 1 [(.v 0)] (.loop 2 [none, none] [(.c 0), (.c 0)] (.ite (.lt (.v 6) (.ln (.v 0))) (.asrt (.le (.c 0) (.v 6)) (.ite (.or (.or (.not (.eq (.l2 .at (.l2 .at (.v 0) (.v 6)) (.c 0)) (.l2 .at (.l2 .at (.v 0) (.v 6)) (.c 0)))) (.or (.not (.eq (.l2 .at (.l2 .at (.v 0) (.v 6)) (.c 1)) (.l2 .at (.l2 .at (.v 0) (.v 6)) (.c 1)))) (.not (.eq (.l2 .at (.l2 .at (.v 0) (.v 6)) (.c 2)) (.l2 .at (.l2 .at (.v 0) (.v 6)) (.c 2)))))) (.or (.not (.eq (.l2 .at (.l2 .at (.v 0) (.v 6)) (.c 3)) (.l2 .at (.l2 .at (.v 0) (.v 6)) (.c 3)))) (.or (.not (.eq (.l2 .at (.l2 .at (.v 0) (.v 6)) (.c 4)) (.l2 .at (.l2 .at (.v 0) (.v 6)) (.c 4)))) (.not (.eq (.l2 .at (.l2 .at (.v 0) (.v 6)) (.c 5)) (.l2 .at (.l2 .at (.v 0) (.v 6)) (.c 5))))))) (.ret [(.c 0)])
(.back 0 [(.v 5), (.wr .i64 (.add (.v 6) (.c 1)))])))
(.call 2 [(.v 1), (.v 3)] (.ite (.not (.nz (.v 7))) (.ret [(.c 0)])
(.ite (.eq (.v 2) (.v 4)) (.ret [(.c 1)])
(.ret [(.c 0)]))))))))))
theorem tree_TreeBuilds : merge (optFL [] I_TreeBuilds [] ([none]) (symFnL Try.prog (openAt Try.prog [(7, 24)]) gl0 G_TreeBuilds 1000 5 [Bs] [Bo])) = t_TreeBuilds := by kernel_rfl
theorem g_TreeBuilds : Gok Try.prog G_TreeBuilds := (more ok_tbuild (more ok_rtbuild (fix.one ok_rsame16)))
theorem o_TreeBuilds : outsOK G_TreeBuilds I_TreeBuilds := (outsOK_cons inf_tbuild (outsOK_cons inf_rtbuild (outsOK_cons inf_rsame16 outsOK_nil)))
theorem sameB_refl (a : List Int) : sameB a a = true := sameB_yes rfl fun _ _ => rfl
theorem pins (l0 : List Int) (hr0 : ∀ x ∈ l0, rangeOK Bs_ks (elt Bs_ks x)) : vsOK ([none]) ([cod l0] ++ []) :=
  vsOK_cons trivial vsOK_nil
theorem plain (l0 : List Int) (hr0 : ∀ x ∈ l0, rangeOK Bs_ks (elt Bs_ks x)) : t_TreeBuilds.sat G_TreeBuilds [] (fun ys => ys = [1]) [] ([cod l0] ++ []) := by
  have hel0 : ∀ x ∈ l0, rangeOK Bs_ks (dec x) := hr0
  simp only [t_TreeBuilds, G_TreeBuilds, s_tbuild, s_rtbuild, s_rsame16, TX.sat, XB.prop, X.den, List.map_cons, List.map_nil, List.getElem?_cons_zero, List.getElem?_cons_succ, List.cons_append, List.nil_append, List.getD_cons_zero, List.getD_cons_succ, mkS, mkP, and_true, true_and, Int.not_lt, Int.not_le, not_or, not_and, Classical.not_not, ne_eq, not_true_eq_false, not_false_eq_true, sem_tbuild, sem_rtbuild, sem_rsame16, L2.den, dec_cod]
  refine ⟨fun _ => trivial, fun hbig => ?_⟩
  have hl0 : l0.length ≤ 400 := by omega
  have hp : pre_tbuild [cod l0] := ⟨vs_none (n := 1) rfl, by show ∀ b ∈ dec (cod l0), _; rw [dec_cod]; exact hel0⟩
  have hA : (dec (if boxesE l0 = 0 then cod (treeL l0) else cod [])).length ≤ 1000 := by
    split
    · rename_i h
      have := boxesE_ok h
      rw [dec_cod]
      by_cases h0 : l0.length = 0
      · rw [nil_tree h0]; simp
      · unfold treeL
        rw [built_len _ _ _ (by rw [idx_len]; omega) (by rw [idx_len]; omega), idx_len]
        omega
    · rw [dec_cod]; simp
  generalize (if boxesE l0 = 0 then cod (treeL l0) else cod []) = A at hA ⊢
  refine ⟨by omega, hp, hp, fun xs => ∃ i : Nat, xs.getD 1 0 = (i : Int) ∧ i ≤ l0.length, fun xs => l0.length - (xs.getD 1 0).toNat, fun xs hx _ => vs_none (n := 2) hx, ⟨0, rfl, by omega⟩, ?_⟩
  intro xs hx hI
  obtain ⟨d0, d1, rfl⟩ := len2 hx
  obtain ⟨i, hi, hil⟩ := hI
  simp only [List.getD_cons_zero, List.getD_cons_succ, List.cons_append, List.nil_append] at hi ⊢
  subst hi
  refine ⟨fun hlt => ⟨by omega, fun h => ?_, fun _ => ?_⟩, fun hge => ?_⟩
  · simp at h
  · have hw : IntKind.i64.wrap ((i : Int) + 1) = ((i + 1 : Nat) : Int) := by rw [wrap64 (by omega) (by omega)]; omega
    rw [hw]
    exact ⟨⟨i + 1, rfl, by omega⟩, by simp only [Int.toNat_natCast]; omega⟩
  · refine ⟨⟨vs_none (n := 2) rfl, by show (dec A).length ≤ 1000000; omega⟩, ?_⟩
    rw [sameB_refl]
    exact ⟨fun h => by simp [b01] at h, fun _ => ⟨fun _ => trivial, fun h => by simp at h⟩⟩
set_option maxRecDepth 100000 in
theorem lifted (os : Os) (started : os.Started) (H : Type) (enc : TypeId × Value → H) :
    ReturnsInHanded {} Try.checked os 5 .any (Rows.treeBuildsSpec.pre6 enc Try.prog Try.f5 Rows.treeBuildsRow.domain false) (Rows.treeBuildsSpec.post enc Try.prog Try.f5 false true false false) := by
  refine returnsInHanded_of_change (C := Try.checked) facts.own started (by kernel_rfl) Try.func5
    (ChangeSpec.witness6 (enc := enc) (C := Try.checked) false ⟨#[], #[.slice none 0 0], []⟩ 8 (by kernel_rfl) (by kernel_rfl) (by kernel_rfl) (by kernel_rfl)) ?_
  intro W base args ds gs before hval0 hW hcnd _
  have hval : ∀ (j : Nat) t v, Try.f5.params[j]? = some t → args[j]? = some v → Value.okWide Try.prog W .any base t v := hval0
  have hW' := hW
  obtain ⟨p, q, hA0, hV, rfl, hfz, hnd⟩ := hW
  have hA : DataW.TrodAll enc Try.prog W 0 (fun _ => true) true Try.f5.params.toList args.toList ds p := hA0
  rw [Try.params5] at hA hval
  obtain ⟨v0, vs0, d0, ds0, p0, q0, hargs, rfl, rfl, h0, r0⟩ := trodAll_cons hA
  obtain ⟨rfl, rfl, rfl⟩ := trodAll_nil r0
  obtain rfl : args = #[v0] := by cases args; simp_all
  obtain ⟨rfl, rfl⟩ := trodVars_none hV
  have k0 := h0
  have lt0 : ∀ x ∈ p0, x.block < W.heap.size := by obtain ⟨m, hm⟩ := k0; exact DataW.trod_lt m _ _ _ hm
  obtain ⟨l0, hs0, hr0⟩ := open_slT (ks := Bs_ks) Try.underlying50 (by kernel_rfl) (by kernel_rfl) (hval 0 50 v0 rfl rfl) h0
  clear hA0 hval0
  have hx : ShsR (fun _ ks u n => SlOK W ks u n) [Bs] [v0] ([cod l0] ++ []) := ⟨_, _, _, _, rfl, rfl, hs0, ⟨rfl, rfl⟩⟩
  have hcalls := lawFL facts.mixed g_TreeBuilds o_TreeBuilds tree_TreeBuilds W hx (pins l0 hr0) (plain l0 hr0) (fun p hp => by cases hp)
  refine hcalls.mono fun e W' ⟨he, bel⟩ => ?_
  subst he
  exact ⟨_, rfl, _, _, _, [], _, [], hW', trodAll_mk1 (shut_bool Try.underlying4 _), (trodAll_cons_mk (Below.trod facts.laidOut (by kernel_rfl) (of_decide_eq_true (by kernel_rfl)) k0 bel lt0) trodAll_mk0), rfl, bel.frame _, fun h => by cases h⟩

theorem over : Rows.treeBuildsRow.holds Try.pinned (OpenSpec.ofChange Rows.treeBuildsSpec) :=
  OpenClaim.holds_of_wide 5 Try.f5 rfl rfl rfl rfl rfl rfl rfl ⟨rfl, rfl, rfl, rfl, rfl⟩ rfl rfl rfl rfl rfl (by kernel_rfl) Try.func5
    (facts.joined (by kernel_rfl) (by kernel_rfl) (by kernel_rfl) (by kernel_rfl) (by kernel_rfl) (by kernel_rfl) (by kernel_rfl) rfl rfl rfl rfl)
    (of_decide_eq_true (by kernel_rfl)) (by unfold Func.isWrapper; first | (rw [if_pos (by decide +kernel)]; kernel_rfl) | (rw [if_neg (by decide +kernel)]; exact ⟨rfl, rfl⟩))
    (fun os started H enc _ => lifted os started H enc)

/-- THE STATEMENT. -/
theorem proved : Rows.TreeBuildsSaid := over
#print axioms proved

end Go.Proofs.Ytgcoidbaoigkeaa.treeBuilds
