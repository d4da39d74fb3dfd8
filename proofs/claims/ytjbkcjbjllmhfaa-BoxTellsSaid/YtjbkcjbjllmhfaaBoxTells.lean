/-
  The law BoxTells is answered with true, whatever its arguments, which stay as they were.
-/
import Derived.Test.YtjbkcjbjllmhfaaRows
import Derived.Test.YtjbkcjbjllmhfaaZFacts
import Derived.Test.YtjbkcjbjllmhfaaZLists
set_option linter.unusedVariables false
set_option linter.unusedSimpArgs false
namespace Go.Proofs.Ytjbkcjbjllmhfaa.boxTells
open Go.RowKit Go.ChangeShapes Go.WideShapes Go.ChangeAt Go.Sx fix

noncomputable def G_BoxTells : List Sum := [s_bof, s_rbof, s_bjoin, s_rbjoin, s_bcheck, s_rbmay, s_inside]
def I_BoxTells : List Inf := [i_bof, i_rbof, i_bjoin, i_rbjoin, i_bcheck, i_rbmay, i_inside]
def t_BoxTells : TX := (.ite (.lt (.c 5000) (.ln (.v 0))) (.ret [(.c 1)])
(.asrt (.le (.ln (.v 0)) (.c 1000000)) (.callp 0 [(.v 0)] (.callp 1 [(.v 0)] (.callp 2 [(.v 1), (.v 2), (.v 3), (.v 4), (.v 5), (.v 6), (.v 7), (.v 8), (.v 9), (.v 10), (.v 11), (.v 12)] (.callp 3 [(.v 1), (.v 2), (.v 3), (.v 4), (.v 5), (.v 6), (.v 7), (.v 8), (.v 9), (.v 10), (.v 11), (.v 12)] (.loop 2 [none, none] [(.c 0), (.c 0)] (.ite (.lt (.v 42) (.ln (.v 0))) (.asrt (.le (.c 0) (.v 42)) (.ite (.or (.not (.eq (.l2 .at (.l2 .at (.v 0) (.v 42)) (.c 0)) (.l2 .at (.l2 .at (.v 0) (.v 42)) (.c 0)))) (.or (.not (.eq (.l2 .at (.l2 .at (.v 0) (.v 42)) (.c 1)) (.l2 .at (.l2 .at (.v 0) (.v 42)) (.c 1)))) (.not (.eq (.l2 .at (.l2 .at (.v 0) (.v 42)) (.c 2)) (.l2 .at (.l2 .at (.v 0) (.v 42)) (.c 2)))))) (.ret [(.c 0)])
(.back 0 [(.v 41), (.wr .i64 (.add (.v 42) (.c 1)))])))
(.ite (.or (.or (.or (.not (.eq (.v 13) (.v 20))) (.or (.not (.eq (.v 14) (.v 21))) (.not (.eq (.v 15) (.v 22))))) (.or (.not (.eq (.v 16) (.v 23))) (.or (.not (.eq (.v 17) (.v 24))) (.not (.eq (.v 18) (.v 25)))))) (.or (.not (.eq (.v 19) (.v 26))) (.or (.or (.or (.not (.eq (.v 27) (.v 34))) (.or (.not (.eq (.v 28) (.v 35))) (.not (.eq (.v 29) (.v 36))))) (.or (.not (.eq (.v 30) (.v 37))) (.or (.not (.eq (.v 31) (.v 38))) (.not (.eq (.v 32) (.v 39)))))) (.not (.eq (.v 33) (.v 40)))))) (.ret [(.c 0)])
(.callp 4 [(.v 1), (.v 2), (.v 3), (.v 4), (.v 5), (.v 6)] (.callp 5 [(.v 1), (.v 2), (.v 3), (.v 4), (.v 5), (.v 6)] (.ite (.not (.iff (.eq (.v 43) (.c 0)) (.nz (.v 44)))) (.ret [(.c 0)])
(.callp 6 [(.v 1), (.v 2), (.v 3), (.v 4), (.v 5), (.v 6), (.v 7), (.v 8), (.v 9), (.v 10), (.v 11), (.v 12)] (.ite (.and (.eq (.mn (.v 1) (.v 7)) (.v 7)) (.and (.eq (.mn (.v 2) (.v 8)) (.v 8)) (.eq (.mn (.v 3) (.v 9)) (.v 9)))) (.ite (.iff (.nz (.v 45)) (.and (.eq (.mx (.v 4) (.v 10)) (.v 10)) (.and (.eq (.mx (.v 5) (.v 11)) (.v 11)) (.eq (.mx (.v 6) (.v 12)) (.v 12))))) (.ret [(.c 1)])
(.ret [(.c 0)]))
(.ite (.eq (.v 45) (.c 0)) (.ret [(.c 1)])
(.ret [(.c 0)]))))))))))))))))
theorem tree_BoxTells : merge (optFL [] I_BoxTells [] ([none] ++ zs 12) (symFnL Try.prog (openAt Try.prog [(9, 44)]) gl0 G_BoxTells 1000 4 [Vs, An 6, An 6] [Bo])) = t_BoxTells := by kernel_rfl
theorem g_BoxTells : Gok Try.prog G_BoxTells := (more ok_bof (more ok_rbof (more ok_bjoin (more ok_rbjoin (more ok_bcheck (more ok_rbmay (one ok_inside)))))))
theorem o_BoxTells : outsOK G_BoxTells I_BoxTells := (outsOK_cons inf_bof (outsOK_cons inf_rbof (outsOK_cons inf_bjoin (outsOK_cons inf_rbjoin (outsOK_cons inf_bcheck (outsOK_cons inf_rbmay (outsOK_cons inf_inside outsOK_nil)))))))
theorem range_nil : rangeOK [] [] := trivial
def Vs_ks : List K := [.i .i64, .i .i64, .i .i64]
theorem pins (l0 : List Int) (hr0 : ∀ x ∈ l0, rangeOK Vs_ks (elt Vs_ks x)) (xs1 : List Int) (hr1 : rangeOK (An 6).ks xs1) (xs2 : List Int) (hr2 : rangeOK (An 6).ks xs2) : vsOK ([none] ++ zs 12) ([cod l0] ++ (xs1 ++ (xs2 ++ []))) :=
  vsOK_cons trivial (range_vs (rangeOK_app hr1 (rangeOK_app hr2 range_nil)))
theorem plain (l0 : List Int) (hr0 : ∀ x ∈ l0, rangeOK Vs_ks (elt Vs_ks x)) (xs1 : List Int) (hr1 : rangeOK (An 6).ks xs1) (xs2 : List Int) (hr2 : rangeOK (An 6).ks xs2) : t_BoxTells.sat G_BoxTells [] (fun ys => ys = [1]) [] ([cod l0] ++ (xs1 ++ (xs2 ++ []))) := by
  obtain ⟨n1, i1⟩ := An_inv hr1
  obtain ⟨a0, a1, a2, a3, a4, a5, rfl⟩ := len6 n1
  obtain ⟨n2, i2⟩ := An_inv hr2
  obtain ⟨b0, b1, b2, b3, b4, b5, rfl⟩ := len6 n2
  simp only [t_BoxTells, G_BoxTells, s_bof, s_rbof, s_bjoin, s_rbjoin, s_bcheck, s_rbmay, s_inside, TX.sat, XB.prop, X.den, List.map_cons, List.map_nil, List.getElem?_cons_zero, List.getElem?_cons_succ, List.cons_append, List.nil_append, List.getD_cons_zero, List.getD_cons_succ, mkS, mkP, and_true, true_and, Int.not_lt, Int.not_le, not_or, not_and, Classical.not_not, ne_eq, not_true_eq_false, not_false_eq_true, sem_bof, sem_rbof, sem_bjoin, sem_rbjoin, sem_bcheck, sem_rbmay, sem_inside, ex7]
  simp only [dec_cod]
  refine ⟨fun _ => trivial, fun h => ⟨by omega, fun xs => ∃ i : Nat, xs.getD 1 0 = (i : Int) ∧ i ≤ l0.length, fun xs => l0.length - (xs.getD 1 0).toNat, fun xs hx _ => vs_none (n := 2) hx, ⟨0, rfl, by omega⟩, ?_⟩⟩
  intro xs hx hI
  obtain ⟨c0, c1, rfl⟩ := len2 hx
  obtain ⟨i, hi, hle⟩ := hI
  simp only [List.getD_cons_zero, List.getD_cons_succ, List.cons_append, List.nil_append] at hi ⊢
  subst hi
  refine ⟨fun hlt => ⟨by omega, fun h => by simp at h, fun _ => ?_⟩, fun hge => ⟨fun h => by simp at h, fun _ => ?_⟩⟩
  · rw [wrap64 (by omega) (by omega)]
    exact ⟨⟨i + 1, by omega, by omega⟩, by simp only [Int.toNat_natCast]; omega⟩
  · have e1 : er (boxB [a0, a1, a2, a3, a4, a5] 0) 8 = 0 ↔ boxB [a0, a1, a2, a3, a4, a5] 0 = true := er_zero _ (by omega)
    have e2 := b01_zero (boxB [a0, a1, a2, a3, a4, a5] 0)
    have e3 := b01_zero (insideB [a0, a1, a2, a3, a4, a5, b0, b1, b2, b3, b4, b5])
    rw [e1, e2, e3]
    have e4 : insideB [a0, a1, a2, a3, a4, a5, b0, b1, b2, b3, b4, b5] = true ↔ (min a0 b0 = b0 ∧ min a1 b1 = b1 ∧ min a2 b2 = b2) ∧ (max a3 b3 = b3 ∧ max a4 b4 = b4 ∧ max a5 b5 = b5) := by
      simp only [insideB, List.getD_cons_zero, List.getD_cons_succ, decide_eq_true_eq, Bool.and_eq_true]
      omega
    have e5 : insideB [a0, a1, a2, a3, a4, a5, b0, b1, b2, b3, b4, b5] = false ↔ ¬((min a0 b0 = b0 ∧ min a1 b1 = b1 ∧ min a2 b2 = b2) ∧ (max a3 b3 = b3 ∧ max a4 b4 = b4 ∧ max a5 b5 = b5)) := by
      rw [← e4]; simp
    rw [e5]
    generalize boxB [a0, a1, a2, a3, a4, a5] 0 = bb
    refine ⟨fun h => absurd (by cases bb <;> simp) h, fun _ => ⟨fun h1 => ⟨fun _ => trivial, fun h2 => absurd ?_ h2⟩, fun h1 => ⟨fun _ => trivial, fun h2 => absurd ?_ h2⟩⟩⟩
    · rw [Classical.not_not]
      exact ⟨fun h => h.2, fun h => ⟨h1, h⟩⟩
    · intro h
      exact h1 h.1.1 h.1.2.1 h.1.2.2
set_option maxRecDepth 100000 in
theorem lifted (os : Os) (started : os.Started) (H : Type) (enc : TypeId × Value → H) :
    ReturnsInHanded {} Try.checked os 4 .any (Rows.boxTellsSpec.pre6 enc Try.prog Try.f4 Rows.boxTellsRow.domain false) (Rows.boxTellsSpec.post enc Try.prog Try.f4 false true false false) := by
  refine returnsInHanded_of_change (C := Try.checked) facts.own started (by kernel_rfl) Try.func4
    (ChangeSpec.witness6 (enc := enc) (C := Try.checked) false ⟨#[], #[.slice none 0 0, .agg #[.int .i64 0, .int .i64 0, .int .i64 0, .int .i64 0, .int .i64 0, .int .i64 0], .agg #[.int .i64 0, .int .i64 0, .int .i64 0, .int .i64 0, .int .i64 0, .int .i64 0]], []⟩ 8 (by kernel_rfl) (by kernel_rfl) (by kernel_rfl) (by kernel_rfl)) ?_
  intro W base args ds gs before hval0 hW hcnd _
  have hval : ∀ (j : Nat) t v, Try.f4.params[j]? = some t → args[j]? = some v → Value.okWide Try.prog W .any base t v := hval0
  have hW' := hW
  obtain ⟨p, q, hA0, hV, rfl, hfz, hnd⟩ := hW
  have hA : DataW.TrodAll enc Try.prog W 0 (fun _ => true) true Try.f4.params.toList args.toList ds p := hA0
  rw [Try.params4] at hA hval
  obtain ⟨v0, vs0, d0, ds0, p0, q0, hargs, rfl, rfl, h0, r0⟩ := trodAll_cons hA
  obtain ⟨v1, vs1, d1, ds1, p1, q1, rfl, rfl, rfl, h1, r1⟩ := trodAll_cons r0
  obtain ⟨v2, vs2, d2, ds2, p2, q2, rfl, rfl, rfl, h2, r2⟩ := trodAll_cons r1
  obtain ⟨rfl, rfl, rfl⟩ := trodAll_nil r2
  obtain rfl : args = #[v0, v1, v2] := by cases args; simp_all
  obtain ⟨rfl, rfl⟩ := trodVars_none hV
  have k0 := h0
  have lt0 : ∀ x ∈ p0, x.block < W.heap.size := by obtain ⟨m, hm⟩ := k0; exact DataW.trod_lt m _ _ _ hm
  have k1 := h1
  have lt1 : ∀ x ∈ p1, x.block < W.heap.size := by obtain ⟨m, hm⟩ := k1; exact DataW.trod_lt m _ _ _ hm
  have k2 := h2
  have lt2 : ∀ x ∈ p2, x.block < W.heap.size := by obtain ⟨m, hm⟩ := k2; exact DataW.trod_lt m _ _ _ hm
  obtain ⟨l0, hs0, hr0⟩ := open_slT (ks := Vs_ks) Try.underlying34 (by kernel_rfl) (by kernel_rfl) (hval 0 34 v0 rfl rfl) h0
  obtain ⟨xs1, hv1, hr1⟩ := open_sh (sh := An 6) (by kernel_rfl) (by kernel_rfl) (hval 1 36 v1 rfl rfl) h1
  have hs1 : ShR (fun _ ks u n => SlOK W ks u n) (An 6) v1 xs1 := by rw [hv1]; exact ShR_mk rfl rfl (rangeOK_len hr1)
  obtain ⟨xs2, hv2, hr2⟩ := open_sh (sh := An 6) (by kernel_rfl) (by kernel_rfl) (hval 2 36 v2 rfl rfl) h2
  have hs2 : ShR (fun _ ks u n => SlOK W ks u n) (An 6) v2 xs2 := by rw [hv2]; exact ShR_mk rfl rfl (rangeOK_len hr2)
  clear hA0 hval0
  have hx : ShsR (fun _ ks u n => SlOK W ks u n) [Vs, An 6, An 6] [v0, v1, v2] ([cod l0] ++ (xs1 ++ (xs2 ++ []))) := ⟨_, _, _, _, rfl, rfl, hs0, ⟨_, _, _, _, rfl, rfl, hs1, ⟨_, _, _, _, rfl, rfl, hs2, ⟨rfl, rfl⟩⟩⟩⟩
  have hcalls := lawFL facts.mixed g_BoxTells o_BoxTells tree_BoxTells W hx (pins l0 hr0 xs1 hr1 xs2 hr2) (plain l0 hr0 xs1 hr1 xs2 hr2) (fun p hp => by cases hp)
  refine hcalls.mono fun e W' ⟨he, bel⟩ => ?_
  subst he
  exact ⟨_, rfl, _, _, _, [], _, [], hW', trodAll_mk1 (shut_bool Try.underlying4 _), (trodAll_cons_mk (Below.trod facts.laidOut (by kernel_rfl) (of_decide_eq_true (by kernel_rfl)) k0 bel lt0) (trodAll_cons_mk (Below.trod facts.laidOut (by kernel_rfl) (of_decide_eq_true (by kernel_rfl)) k1 bel lt1) (trodAll_cons_mk (Below.trod facts.laidOut (by kernel_rfl) (of_decide_eq_true (by kernel_rfl)) k2 bel lt2) trodAll_mk0))), rfl, bel.frame _, fun h => by cases h⟩

theorem over : Rows.boxTellsRow.holds Try.pinned (OpenSpec.ofChange Rows.boxTellsSpec) :=
  OpenClaim.holds_of_wide 4 Try.f4 rfl rfl rfl rfl rfl rfl rfl ⟨rfl, rfl, rfl, rfl, rfl⟩ rfl rfl rfl rfl rfl (by kernel_rfl) Try.func4
    (facts.joined (by kernel_rfl) (by kernel_rfl) (by kernel_rfl) (by kernel_rfl) (by kernel_rfl) (by kernel_rfl) (by kernel_rfl) rfl rfl rfl rfl)
    (of_decide_eq_true (by kernel_rfl)) (by unfold Func.isWrapper; first | (rw [if_pos (by decide +kernel)]; kernel_rfl) | (rw [if_neg (by decide +kernel)]; exact ⟨rfl, rfl⟩))
    (fun os started H enc _ => lifted os started H enc)

/-- THE STATEMENT. -/
theorem proved : Rows.BoxTellsSaid := over
#print axioms proved

end Go.Proofs.Ytjbkcjbjllmhfaa.boxTells
