/-
  The law TreeHolds is answered with true, whatever its arguments, which stay as they were.
-/
import Derived.Test.YtgcoidbaoigkeaaRows
import Derived.Test.YtgcoidbaoigkeaaFFacts
import Derived.Test.YtgcoidbaoigkeaaQTLaw
set_option linter.unusedVariables false
set_option linter.unusedSimpArgs false
namespace Go.Proofs.Ytgcoidbaoigkeaa.treeHolds
open Go.RowKit Go.ChangeShapes Go.WideShapes Go.ChangeAt Go.Sx fix

noncomputable def G_TreeHolds : List Sum := [s_alive16, s_tbuild, s_refit, s_rsame16, s_tcheck, s_holds]
def I_TreeHolds : List Inf := [i_alive16, i_tbuild, i_refit, i_rsame16, i_tcheck, i_holds]
def t_TreeHolds : TX := (.callp 0 [] (.ite (.eq (.v 2) (.c 0)) (.ret [(.c 0)])
(.ite (.or (.lt (.c 256) (.ln (.v 0))) (.lt (.c 256) (.ln (.v 1)))) (.ret [(.c 1)])
(.call 1 [(.v 0)] (.ite (.not (.eq (.v 4) (.c 0))) (.ite (.eq (.ln (.v 3)) (.c 0)) (.ret [(.c 1)])
(.ret [(.c 0)]))
(.call 2 [(.v 3), (.v 0)] (.ite (.not (.eq (.v 6) (.c 0))) (.ret [(.c 0)])
(.call 3 [(.v 3), (.v 5)] (.ite (.eq (.v 7) (.c 0)) (.ret [(.c 0)])
(.call 4 [(.v 3), (.v 0)] (.ite (.not (.eq (.v 8) (.c 0))) (.ret [(.c 0)])
(.call 5 [(.v 3), (.v 0)] (.ite (.eq (.v 9) (.c 0)) (.ret [(.c 0)])
(.call 2 [(.v 3), (.v 1)] (.ite (.not (.eq (.v 11) (.c 0))) (.ite (.eq (.ln (.v 10)) (.c 0)) (.ret [(.c 1)])
(.ret [(.c 0)]))
(.ite (.not (.eq (.ln (.v 1)) (.ln (.v 0)))) (.ret [(.c 0)])
(.call 4 [(.v 10), (.v 1)] (.ite (.not (.eq (.v 12) (.c 0))) (.ret [(.c 0)])
(.call 5 [(.v 10), (.v 1)] (.ite (.nz (.v 13)) (.ret [(.c 1)])
(.ret [(.c 0)])))))))))))))))))))))
theorem tree_TreeHolds : merge (optFL [] I_TreeHolds [] ([none, none]) (symFnL Try.prog noLp gl0 G_TreeHolds 1000 8 [Bs, Bs] [Bo])) = t_TreeHolds := by kernel_rfl
theorem g_TreeHolds : Gok Try.prog G_TreeHolds := (more ok_alive16 (more ok_tbuild (more ok_refit (more ok_rsame16 (more ok_tcheck (fix.one ok_holds))))))
theorem o_TreeHolds : outsOK G_TreeHolds I_TreeHolds := (outsOK_cons inf_alive16 (outsOK_cons inf_tbuild (outsOK_cons inf_refit (outsOK_cons inf_rsame16 (outsOK_cons inf_tcheck (outsOK_cons inf_holds outsOK_nil))))))
theorem pins (l0 : List Int) (hr0 : ∀ x ∈ l0, rangeOK Bs_ks (elt Bs_ks x)) (l1 : List Int) (hr1 : ∀ x ∈ l1, rangeOK Bs_ks (elt Bs_ks x)) : vsOK ([none, none]) ([cod l0] ++ ([cod l1] ++ [])) :=
  vsOK_cons trivial (vsOK_cons trivial vsOK_nil)
theorem boxE_of_refit {t l : List Int} (h : refitE t l = 0) : boxesE l = 0 ∧ shapedB t (l.length : Int) = true := by
  unfold refitE at h
  split at h
  · rename_i h1
    refine ⟨h1, ?_⟩
    split at h
    · assumption
    · exact absurd h (by decide)
  · rename_i h1
    exact absurd h h1
theorem plain (l0 : List Int) (hr0 : ∀ x ∈ l0, rangeOK Bs_ks (elt Bs_ks x)) (l1 : List Int) (hr1 : ∀ x ∈ l1, rangeOK Bs_ks (elt Bs_ks x)) : t_TreeHolds.sat G_TreeHolds [] (fun ys => ys = [1]) [] ([cod l0] ++ ([cod l1] ++ [])) := by
  have hel0 : ∀ x ∈ l0, rangeOK Bs_ks (dec x) := hr0
  have hel1 : ∀ x ∈ l1, rangeOK Bs_ks (dec x) := hr1
  simp only [t_TreeHolds, G_TreeHolds, s_alive16, s_tbuild, s_refit, s_rsame16, s_tcheck, s_holds, TX.sat, XB.prop, X.den, List.map_cons, List.map_nil, List.getElem?_cons_zero, List.getElem?_cons_succ, List.cons_append, List.nil_append, List.getD_cons_zero, List.getD_cons_succ, mkS, mkP, and_true, true_and, Int.not_lt, Int.not_le, not_or, not_and, Classical.not_not, ne_eq, not_true_eq_false, not_false_eq_true, sem_alive16, sem_tbuild, sem_refit, sem_rsame16, sem_tcheck, sem_holds, L2.den, dec_cod]
  refine ⟨fun h => by first | exact h.elim | simp at h, fun _ => ⟨fun _ => trivial, fun hbig => ?_⟩⟩
  have hl0 : l0.length ≤ 256 := by omega
  have hl1 : l1.length ≤ 256 := by omega
  have hp : pre_tbuild [cod l0] := ⟨vs_none (n := 1) rfl, by show ∀ b ∈ dec (cod l0), _; rw [dec_cod]; exact hel0⟩
  refine ⟨hp, fun he => ?_, fun he => ?_⟩
  · rw [if_neg he, dec_cod]
    exact ⟨fun _ => trivial, fun h => absurd rfl h⟩
  obtain ⟨hbl, hbok⟩ := boxesE_ok he
  have hT := tree_at l0
  have hTl := tree_len (L := l0)
  have hTr := tree_range hbok (by omega) (by omega) hT
  have hTo := tree_okB hbok hT
  have hE := refitE_at he hT
  have hF := refit_fix hT
  have hC := chkE_at he hT
  have hH := holds_at hT
  simp only [he, if_true, dec_cod]
  generalize treeL l0 = T at *
  simp only [hE, hF, hC, if_true, dec_cod, sameB_self]
  have hp0 : pre_refit [cod T, cod l0] := ⟨vs_none (n := 2) rfl, ⟨by show (dec (cod T)).length ≤ 1000; rw [dec_cod]; omega, by show (dec (cod l0)).length ≤ 1000; rw [dec_cod]; omega⟩, by show ∀ b ∈ dec (cod T), _; rw [dec_cod]; exact hTr, by show ∀ b ∈ dec (cod l0), _; rw [dec_cod]; exact hel0⟩
  have hp1 : pre_refit [cod T, cod l1] := ⟨vs_none (n := 2) rfl, ⟨by show (dec (cod T)).length ≤ 1000; rw [dec_cod]; omega, by show (dec (cod l1)).length ≤ 1000; rw [dec_cod]; omega⟩, by show ∀ b ∈ dec (cod T), _; rw [dec_cod]; exact hTr, by show ∀ b ∈ dec (cod l1), _; rw [dec_cod]; exact hel1⟩
  have hs0 : pre_rsame16 [cod T, cod T] := ⟨vs_none (n := 2) rfl, by show (dec (cod T)).length ≤ 1000000; rw [dec_cod]; omega⟩
  have hh0 : pre_holds [cod T, cod l0] := ⟨vs_none (n := 2) rfl, by
    show HoldsW (dec (cod T)) (dec (cod l0))
    rw [dec_cod, dec_cod]
    exact ⟨by omega, by omega, hH, hTo, hbok⟩⟩
  refine ⟨hp0, fun h => by first | exact h.elim | simp at h, fun _ => ⟨hs0, fun h => by first | exact h.elim | simp [b01] at h, fun _ => ⟨hp0, fun h => by first | exact h.elim | simp at h, fun _ => ⟨hh0, fun h => by first | exact h.elim | simp at h, fun _ => ⟨hp1, fun he1 => ?_, fun he1 => ?_⟩⟩⟩⟩⟩
  · rw [if_neg he1, dec_cod]
    exact ⟨fun _ => trivial, fun h => absurd rfl h⟩
  obtain ⟨hb1, hsh⟩ := boxE_of_refit he1
  obtain ⟨hbl1, hbok1⟩ := boxesE_ok hb1
  have hU := refit_at hsh
  have hUl : (refitL l1 T).length = T.length := rf_len l1 T T.length
  have hUr := tree_range hbok1 (by omega) (by omega) hU
  have hUo := tree_okB hbok1 hU
  have hUH := holds_at hU
  have hUC := chkE_at hb1 hU
  have hlen := shaped_len hsh
  simp only [he1, if_true, dec_cod]
  generalize refitL l1 T = U at *
  have hp2 : pre_refit [cod U, cod l1] := ⟨vs_none (n := 2) rfl, ⟨by show (dec (cod U)).length ≤ 1000; rw [dec_cod]; omega, by show (dec (cod l1)).length ≤ 1000; rw [dec_cod]; omega⟩, by show ∀ b ∈ dec (cod U), _; rw [dec_cod]; exact hUr, by show ∀ b ∈ dec (cod l1), _; rw [dec_cod]; exact hel1⟩
  have hh1 : pre_holds [cod U, cod l1] := ⟨vs_none (n := 2) rfl, by
    show HoldsW (dec (cod U)) (dec (cod l1))
    rw [dec_cod, dec_cod]
    exact ⟨by omega, by omega, hUH, hUo, hbok1⟩⟩
  simp only [hUC]
  exact ⟨fun h => absurd h (by omega), fun _ => ⟨hp2, fun h => by first | exact h.elim | simp at h, fun _ => ⟨hh1, fun _ => trivial, fun h => by first | exact h.elim | simp at h⟩⟩⟩
set_option maxRecDepth 100000 in
theorem lifted (os : Os) (started : os.Started) (H : Type) (enc : TypeId × Value → H) :
    ReturnsInHanded {} Try.checked os 8 .any (Rows.treeHoldsSpec.pre6 enc Try.prog Try.f8 Rows.treeHoldsRow.domain false) (Rows.treeHoldsSpec.post enc Try.prog Try.f8 false true false false) := by
  refine returnsInHanded_of_change (C := Try.checked) facts.own started (by kernel_rfl) Try.func8
    (ChangeSpec.witness6 (enc := enc) (C := Try.checked) false ⟨#[], #[.slice none 0 0, .slice none 0 0], []⟩ 8 (by kernel_rfl) (by kernel_rfl) (by kernel_rfl) (by kernel_rfl)) ?_
  intro W base args ds gs before hval0 hW hcnd _
  have hval : ∀ (j : Nat) t v, Try.f8.params[j]? = some t → args[j]? = some v → Value.okWide Try.prog W .any base t v := hval0
  have hW' := hW
  obtain ⟨p, q, hA0, hV, rfl, hfz, hnd⟩ := hW
  have hA : DataW.TrodAll enc Try.prog W 0 (fun _ => true) true Try.f8.params.toList args.toList ds p := hA0
  rw [Try.params8] at hA hval
  obtain ⟨v0, vs0, d0, ds0, p0, q0, hargs, rfl, rfl, h0, r0⟩ := trodAll_cons hA
  obtain ⟨v1, vs1, d1, ds1, p1, q1, rfl, rfl, rfl, h1, r1⟩ := trodAll_cons r0
  obtain ⟨rfl, rfl, rfl⟩ := trodAll_nil r1
  obtain rfl : args = #[v0, v1] := by cases args; simp_all
  obtain ⟨rfl, rfl⟩ := trodVars_none hV
  have k0 := h0
  have lt0 : ∀ x ∈ p0, x.block < W.heap.size := by obtain ⟨m, hm⟩ := k0; exact DataW.trod_lt m _ _ _ hm
  have k1 := h1
  have lt1 : ∀ x ∈ p1, x.block < W.heap.size := by obtain ⟨m, hm⟩ := k1; exact DataW.trod_lt m _ _ _ hm
  obtain ⟨l0, hs0, hr0⟩ := open_slT (ks := Bs_ks) Try.underlying50 (by kernel_rfl) (by kernel_rfl) (hval 0 50 v0 rfl rfl) h0
  obtain ⟨l1, hs1, hr1⟩ := open_slT (ks := Bs_ks) Try.underlying50 (by kernel_rfl) (by kernel_rfl) (hval 1 50 v1 rfl rfl) h1
  clear hA0 hval0
  have hx : ShsR (fun _ ks u n => SlN W ks u n) [Bs, Bs] [v0, v1] ([cod l0] ++ ([cod l1] ++ [])) := ⟨_, _, _, _, rfl, rfl, hs0, ⟨_, _, _, _, rfl, rfl, hs1, ⟨rfl, rfl⟩⟩⟩
  have hcalls := lawFL facts.mixed g_TreeHolds o_TreeHolds tree_TreeHolds W hx (pins l0 hr0 l1 hr1) (plain l0 hr0 l1 hr1) (fun p hp => by cases hp)
  refine hcalls.mono fun e W' ⟨he, bel⟩ => ?_
  subst he
  exact ⟨_, rfl, _, _, _, [], _, [], hW', trodAll_mk1 (shut_bool Try.underlying4 _), (trodAll_cons_mk (Below.trod facts.laidOut (by kernel_rfl) (of_decide_eq_true (by kernel_rfl)) k0 bel lt0) (trodAll_cons_mk (Below.trod facts.laidOut (by kernel_rfl) (of_decide_eq_true (by kernel_rfl)) k1 bel lt1) trodAll_mk0)), rfl, bel.frame _, fun h => by cases h⟩

theorem over : Rows.treeHoldsRow.holds Try.pinned (OpenSpec.ofChange Rows.treeHoldsSpec) :=
  OpenClaim.holds_of_wide 8 Try.f8 rfl rfl rfl rfl rfl rfl rfl ⟨rfl, rfl, rfl, rfl, rfl⟩ rfl rfl rfl rfl rfl (by kernel_rfl) Try.func8
    (facts.joined (by kernel_rfl) (by kernel_rfl) (by kernel_rfl) (by kernel_rfl) (by kernel_rfl) (by kernel_rfl) (by kernel_rfl) rfl rfl rfl rfl)
    (of_decide_eq_true (by kernel_rfl)) (by unfold Func.isWrapper; first | (rw [if_pos (by decide +kernel)]; kernel_rfl) | (rw [if_neg (by decide +kernel)]; exact ⟨rfl, rfl⟩))
    (fun os started H enc _ => lifted os started H enc)

/-- THE STATEMENT. -/
theorem proved : Rows.TreeHoldsSaid := over
#print axioms proved

end Go.Proofs.Ytgcoidbaoigkeaa.treeHolds
