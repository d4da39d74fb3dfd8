/-
  What clipping comes to.
-/
import Derived.Test.YtjbkcjbjllmhfaaZBase
set_option linter.unusedVariables false
set_option linter.unusedSimpArgs false
namespace Go.Proofs.Ytjbkcjbjllmhfaa.fix
open Go.RowKit Go.Sx

theorem point_in {x : List Int} {o : Nat} (h : pointB x o = true) : (-32768 ≤ x.getD o 0 ∧ x.getD o 0 ≤ 32768) ∧ (-32768 ≤ x.getD (o + 1) 0 ∧ x.getD (o + 1) 0 ≤ 32768) ∧ (-32768 ≤ x.getD (o + 2) 0 ∧ x.getD (o + 2) 0 ≤ 32768) ∧ (0 ≤ x.getD (o + 3) 0 ∧ x.getD (o + 3) 0 ≤ 255) ∧ (0 ≤ x.getD (o + 4) 0 ∧ x.getD (o + 4) 0 ≤ 255) := by
  simp only [pointB, Bool.and_eq_true, all3_true, dec_true] at h
  exact ⟨h.1.1, h.1.2.1, h.1.2.2, h.2.1, h.2.2⟩
theorem pin_dn {a b : Int} (h1 : -9223372036854775808 ≤ a) (h2 : a ≤ 9223372036854775807) (h3 : 1 ≤ b) (h4 : b ≤ 9223372036854775807) : vsOK [zz, pos] [a, b] := vsOK_cons ⟨h1, h2⟩ (vsOK_cons ⟨h3, h4⟩ vsOK_nil)

/-- What is cut lies between. -/
theorem part_mid {d p q : Int} (hp : 0 ≤ p) (hq : p ≤ q) (h0 : 0 < q) : min 0 d ≤ d * p / q ∧ d * p / q ≤ max 0 d := by
  rcases Int.le_total 0 d with hd | hd
  · have h1 : 0 ≤ d * p := Int.mul_nonneg hd hp
    have h2 : d * p ≤ d * q := Int.mul_le_mul_of_nonneg_left hq hd
    have h3 : 0 ≤ d * p / q := Int.ediv_nonneg h1 (by omega)
    have h4 : d * p / q ≤ d := by
      apply Int.ediv_le_of_le_mul h0
      exact h2
    omega
  · have h1 : d * p ≤ 0 := Int.mul_nonpos_of_nonpos_of_nonneg hd hp
    have h2 : d * q ≤ d * p := Int.mul_le_mul_of_nonpos_left hd hq
    have h3 : d ≤ d * p / q := by
      rw [Int.le_ediv_iff_mul_le h0]
      exact h2
    have h4 : d * p / q ≤ 0 := by
      apply Int.ediv_le_of_le_mul h0
      omega
    omega
theorem cut_mid {a b p q : Int} (hp : 0 ≤ p) (hq : p ≤ q) (h0 : 0 < q) : min a b ≤ a + (b - a) * p / q ∧ a + (b - a) * p / q ≤ max a b := by
  have := part_mid (d := b - a) hp hq h0
  omega

noncomputable def G_rbetw : List Sum := [s_down]
def I_rbetw : List Inf := [i_down]
def t_rbetw : TX := (.callp 0 [(.mul (.sub (.v 1) (.v 0)) (.v 2)), (.v 3)] (.ret [(.add (.v 0) (.v 4))]))
theorem tree_rbetw : merge (optFL [] I_rbetw [] pin_rbetw (symFnL Try.prog noLp gl0 G_rbetw 1000 66 [I1, I1, I1, I1] [I1])) = t_rbetw := by kernel_rfl
theorem g_rbetw : Gok Try.prog G_rbetw := (one ok_down)
theorem o_rbetw : outsOK G_rbetw I_rbetw := (outsOK_cons inf_down outsOK_nil)
theorem ok_rbetw : s_rbetw.ok Try.prog := Sum.okPF (pin := pin_rbetw) facts.mixed g_rbetw o_rbetw tree_rbetw rfl (fun _ => rfl) (fun xs h => h.1) (by
  intro xs hx hp
  obtain ⟨a0, a1, a2, a3, rfl⟩ := len4 hx
  simp only [t_rbetw, G_rbetw, s_down, TX.sat, XB.prop, X.den, List.map_cons, List.map_nil, List.getElem?_cons_zero, List.getElem?_cons_succ, List.cons_append, List.nil_append, List.getD_cons_zero, List.getD_cons_succ, mkS, mkP, and_true, true_and, Int.not_lt, Int.not_le, not_or, not_and, Classical.not_not, ne_eq, not_true_eq_false, not_false_eq_true, sem_rbetw, sem_down])
theorem inf_rbetw : InfOK s_rbetw i_rbetw := ⟨fun xs h => by
    have h1 : 1 ≤ xs.getD 0 0 ∧ xs.getD 0 0 ≤ 0 := h.2 0
    omega, fun vs xs h hp => by
    have h0 : -32768 ≤ xs.getD 0 0 ∧ xs.getD 0 0 ≤ 32768 := hp.1.2 0
    have h1 : -32768 ≤ xs.getD 1 0 ∧ xs.getD 1 0 ≤ 32768 := hp.1.2 1
    have h2 : 0 ≤ xs.getD 2 0 ∧ xs.getD 2 0 ≤ 65536 := hp.1.2 2
    have h3 : 1 ≤ xs.getD 3 0 ∧ xs.getD 3 0 ≤ 65536 := hp.1.2 3
    have := cut_mid (a := xs.getD 0 0) (b := xs.getD 1 0) (p := xs.getD 2 0) (q := xs.getD 3 0) (by omega) hp.2 (by omega)
    exact vsOK_cons (iv_def.2 (by omega)) vsOK_nil⟩
noncomputable def G_rcut0 : List Sum := [s_rbetw]
def I_rcut0 : List Inf := [i_rbetw]
def t_rcut0 : TX := (.call 0 [(.v 1), (.v 6), (.sub (.v 0) (.v 3)), (.sub (.v 8) (.v 3))] (.call 0 [(.v 2), (.v 7), (.sub (.v 0) (.v 3)), (.sub (.v 8) (.v 3))] (.call 0 [(.v 4), (.v 9), (.sub (.v 0) (.v 3)), (.sub (.v 8) (.v 3))] (.call 0 [(.v 5), (.v 10), (.sub (.v 0) (.v 3)), (.sub (.v 8) (.v 3))] (.ret [(.v 11), (.v 12), (.v 0), (.v 13), (.v 14)])))))
theorem tree_rcut0 : merge (optFL [] I_rcut0 [] pin_rcut0 (symFnL Try.prog noLp gl0 G_rcut0 1000 51 [I1, An 5, An 5] [An 5])) = t_rcut0 := by kernel_rfl
theorem g_rcut0 : Gok Try.prog G_rcut0 := (one ok_rbetw)
theorem o_rcut0 : outsOK G_rcut0 I_rcut0 := (outsOK_cons inf_rbetw outsOK_nil)
theorem behind_in {x : List Int} (h : behindB x = true) : x.getD 3 0 < x.getD 0 0 ∧ x.getD 0 0 ≤ x.getD 8 0 := by simpa only [behindB, dec_true] using h
theorem ok_rcut0 : s_rcut0.ok Try.prog := Sum.okPF (pin := pin_rcut0) facts.mixed g_rcut0 o_rcut0 tree_rcut0 rfl (fun _ => rfl) (fun xs h => h.1) (by
  intro xs hx hp
  obtain ⟨a0, a1, a2, a3, a4, a5, a6, a7, a8, a9, a10, rfl⟩ := len11 hx
  obtain ⟨hp, hb⟩ := hp
  have hb := behind_in hb
  simp only [TX.sat, XB.prop, X.den, List.map_cons, List.map_nil, List.getElem?_cons_zero, List.getElem?_cons_succ, List.cons_append, List.nil_append, List.getD_cons_zero, List.getD_cons_succ, mkS, mkP, and_true, true_and, Int.not_lt, Int.not_le, not_or, not_and, Classical.not_not, ne_eq, not_true_eq_false, not_false_eq_true] at hb
  have k0 : 256 ≤ a0 ∧ a0 ≤ 4096 := hp.2 0
  have k1 : -32768 ≤ a1 ∧ a1 ≤ 32768 := hp.2 1
  have k2 : -32768 ≤ a2 ∧ a2 ≤ 32768 := hp.2 2
  have k3 : -32768 ≤ a3 ∧ a3 ≤ 32768 := hp.2 3
  have k4 : 0 ≤ a4 ∧ a4 ≤ 255 := hp.2 4
  have k5 : 0 ≤ a5 ∧ a5 ≤ 255 := hp.2 5
  have k6 : -32768 ≤ a6 ∧ a6 ≤ 32768 := hp.2 6
  have k7 : -32768 ≤ a7 ∧ a7 ≤ 32768 := hp.2 7
  have k8 : -32768 ≤ a8 ∧ a8 ≤ 32768 := hp.2 8
  have k9 : 0 ≤ a9 ∧ a9 ≤ 255 := hp.2 9
  have k10 : 0 ≤ a10 ∧ a10 ≤ 255 := hp.2 10
  have pin : ∀ a b : Int, -32768 ≤ a ∧ a ≤ 32768 → -32768 ≤ b ∧ b ≤ 32768 → vsOK pin_rbetw [a, b, a0 - a3, a8 - a3] := fun a b ha hb' => vsOK_cons ha (vsOK_cons hb' (vsOK_cons (iv_def.2 (by omega)) (vsOK_cons (iv_def.2 (by omega)) vsOK_nil)))
  simp only [t_rcut0, G_rcut0, s_rbetw, TX.sat, XB.prop, X.den, List.map_cons, List.map_nil, List.getElem?_cons_zero, List.getElem?_cons_succ, List.cons_append, List.nil_append, List.getD_cons_zero, List.getD_cons_succ, mkS, mkP, and_true, true_and, Int.not_lt, Int.not_le, not_or, not_and, Classical.not_not, ne_eq, not_true_eq_false, not_false_eq_true, sem_rcut0, sem_rbetw, pre_rbetw, cutV, Nat.reduceAdd]
  exact ⟨⟨pin _ _ k1 k6, by omega⟩, ⟨pin _ _ k2 k7, by omega⟩, ⟨pin _ _ (by omega) (by omega), by omega⟩, pin _ _ (by omega) (by omega), by omega⟩)
/-- A cut's numbers lie between. -/
theorem cutV_mid {x : List Int} {o : Nat} (hb : behindB x = true) : min (x.getD o 0) (x.getD (o + 5) 0) ≤ cutV x o ∧ cutV x o ≤ max (x.getD o 0) (x.getD (o + 5) 0) := by
  have := behind_in hb
  exact cut_mid (by omega) (by omega) (by omega)
theorem inf_rcut0 : InfOK s_rcut0 i_rcut0 := ⟨fun xs h => by
    have h1 : 1 ≤ xs.getD 0 0 ∧ xs.getD 0 0 ≤ 0 := h.2 0
    omega, fun vs xs h hp => by
    obtain ⟨hp, hb⟩ := hp
    have k0 : 256 ≤ xs.getD 0 0 ∧ xs.getD 0 0 ≤ 4096 := hp.2 0
    have k1 : -32768 ≤ xs.getD 1 0 ∧ xs.getD 1 0 ≤ 32768 := hp.2 1
    have k2 : -32768 ≤ xs.getD 2 0 ∧ xs.getD 2 0 ≤ 32768 := hp.2 2
    have k4 : 0 ≤ xs.getD 4 0 ∧ xs.getD 4 0 ≤ 255 := hp.2 4
    have k5 : 0 ≤ xs.getD 5 0 ∧ xs.getD 5 0 ≤ 255 := hp.2 5
    have k6 : -32768 ≤ xs.getD 6 0 ∧ xs.getD 6 0 ≤ 32768 := hp.2 6
    have k7 : -32768 ≤ xs.getD 7 0 ∧ xs.getD 7 0 ≤ 32768 := hp.2 7
    have k9 : 0 ≤ xs.getD 9 0 ∧ xs.getD 9 0 ≤ 255 := hp.2 9
    have k10 : 0 ≤ xs.getD 10 0 ∧ xs.getD 10 0 ≤ 255 := hp.2 10
    have m1 : min (xs.getD 1 0) (xs.getD 6 0) ≤ cutV xs 1 ∧ cutV xs 1 ≤ max (xs.getD 1 0) (xs.getD 6 0) := cutV_mid hb
    have m2 : min (xs.getD 2 0) (xs.getD 7 0) ≤ cutV xs 2 ∧ cutV xs 2 ≤ max (xs.getD 2 0) (xs.getD 7 0) := cutV_mid hb
    have m4 : min (xs.getD 4 0) (xs.getD 9 0) ≤ cutV xs 4 ∧ cutV xs 4 ≤ max (xs.getD 4 0) (xs.getD 9 0) := cutV_mid hb
    have m5 : min (xs.getD 5 0) (xs.getD 10 0) ≤ cutV xs 5 ∧ cutV xs 5 ≤ max (xs.getD 5 0) (xs.getD 10 0) := cutV_mid hb
    exact vsOK_cons (iv_def.2 (by omega)) (vsOK_cons (iv_def.2 (by omega)) (vsOK_cons (iv_def.2 (by omega)) (vsOK_cons (iv_def.2 (by omega)) (vsOK_cons (iv_def.2 (by omega)) vsOK_nil))))⟩
/-- A cut, wherever it is told. -/
theorem cut_ok {x : List Int} (h : (cutL x).getD 5 0 = 0) : nearB x = true ∧ pointB x 1 = true ∧ pointB x 6 = true ∧ behindB x = true ∧ cutL x = cutP x := by
  unfold cutL at h ⊢
  split
  · rename_i h1
    rw [if_pos h1] at h
    split
    · rename_i h2
      rw [if_pos h2] at h
      split
      · rename_i h3
        simp only [Bool.and_eq_true] at h2
        exact ⟨h1, h2.1, h2.2, h3, rfl⟩
      · rename_i h3
        rw [if_neg h3] at h
        exact absurd h (by decide)
    · rename_i h2
      rw [if_neg h2] at h
      exact absurd h (by decide)
  · rename_i h1
    rw [if_neg h1] at h
    exact absurd h (by decide)
theorem near_in {x : List Int} (h : nearB x = true) : 256 ≤ x.getD 0 0 ∧ x.getD 0 0 ≤ 4096 := by simpa only [nearB, dec_true] using h
/-- All numbers of a cut. -/
theorem cut_facts {x : List Int} (hn : nearB x = true) (h1 : pointB x 1 = true) (h6 : pointB x 6 = true) (hb : behindB x = true) :
    (-32768 ≤ cutV x 1 ∧ cutV x 1 ≤ 32768) ∧ (-32768 ≤ cutV x 2 ∧ cutV x 2 ≤ 32768) ∧ (0 ≤ cutV x 4 ∧ cutV x 4 ≤ 255) ∧ (0 ≤ cutV x 5 ∧ cutV x 5 ≤ 255) := by
  have p := point_in h1
  have q := point_in h6
  simp only [Nat.reduceAdd] at p q
  have m1 : min (x.getD 1 0) (x.getD 6 0) ≤ cutV x 1 ∧ cutV x 1 ≤ max (x.getD 1 0) (x.getD 6 0) := cutV_mid hb
  have m2 : min (x.getD 2 0) (x.getD 7 0) ≤ cutV x 2 ∧ cutV x 2 ≤ max (x.getD 2 0) (x.getD 7 0) := cutV_mid hb
  have m4 : min (x.getD 4 0) (x.getD 9 0) ≤ cutV x 4 ∧ cutV x 4 ≤ max (x.getD 4 0) (x.getD 9 0) := cutV_mid hb
  have m5 : min (x.getD 5 0) (x.getD 10 0) ≤ cutV x 5 ∧ cutV x 5 ≤ max (x.getD 5 0) (x.getD 10 0) := cutV_mid hb
  omega
theorem inf_cut : InfOK s_cut i_cut := ⟨fun _ h => h, fun vs xs h hp => by
  show vsOK (ivs 2 (-32768) 32768 ++ [iv 0 4096] ++ ivs 2 0 255 ++ [iv 0 8]) (ex6 (cutL xs))
  have z : ∀ e : Int, 0 ≤ e → e ≤ 8 → vsOK (ivs 2 (-32768) 32768 ++ [iv 0 4096] ++ ivs 2 0 255 ++ [iv 0 8]) (ex6 [0, 0, 0, 0, 0, e]) := fun e h1 h2 =>
    vsOK_cons (iv_def.2 (by simp)) (vsOK_cons (iv_def.2 (by simp)) (vsOK_cons (iv_def.2 (by simp)) (vsOK_cons (iv_def.2 (by simp)) (vsOK_cons (iv_def.2 (by simp)) (vsOK_cons ⟨h1, h2⟩ vsOK_nil)))))
  unfold cutL
  split
  · rename_i hn
    split
    · rename_i hpp
      simp only [Bool.and_eq_true] at hpp
      split
      · rename_i hb
        obtain ⟨f1, f2, f4, f5⟩ := cut_facts hn hpp.1 hpp.2 hb
        have := near_in hn
        exact vsOK_cons f1 (vsOK_cons f2 (vsOK_cons (iv_def.2 (by show 0 ≤ xs.getD 0 0 ∧ xs.getD 0 0 ≤ 4096; omega)) (vsOK_cons f4 (vsOK_cons f5 (vsOK_cons (iv_def.2 (by simp [cutP])) vsOK_nil)))))
      · exact z 6 (by omega) (by omega)
    · exact z 8 (by omega) (by omega)
  · exact z 2 (by omega) (by omega)⟩
theorem inf_rcut : InfOK s_rcut i_rcut := inf_cut
/-- What a cut multiplies fits. -/
theorem cut_wrap {a b p q : Int} (ha : -32768 ≤ a ∧ a ≤ 32768) (hb : -32768 ≤ b ∧ b ≤ 32768) (hp : 0 ≤ p ∧ p ≤ 65536) (hq : p ≤ q ∧ q ≤ 65536) (h0 : 0 < q) :
    IntKind.i64.wrap (b - a) = b - a ∧ IntKind.i64.wrap ((b - a) * p) = (b - a) * p ∧ IntKind.i64.wrap (a + (b - a) * p / q) = a + (b - a) * p / q ∧ vsOK [zz, pos] [(b - a) * p, q] := by
  have h1 := mul_abs_le (x := b - a) (y := p) (m := 65536) (n := 65536) (by omega) (by omega)
  have h2 := cut_mid (a := a) (b := b) hp.1 hq.1 h0
  exact ⟨wrap64 (by omega) (by omega), wrap64 (by omega) (by omega), wrap64 (by omega) (by omega), pin_dn (by omega) (by omega) (by omega) (by omega)⟩
noncomputable def G_cut : List Sum := [s_pcheck, s_floor]
def I_cut : List Inf := [i_pcheck, i_floor]
def t_cut : TX := (.ite (.or (.lt (.v 0) (.c 256)) (.lt (.c 4096) (.v 0))) (.ret [(.c 0), (.c 0), (.c 0), (.c 0), (.c 0), (.c 2)])
(.callp 0 [(.v 1), (.v 2), (.v 3), (.v 4), (.v 5)] (.ite (.not (.eq (.v 11) (.c 0))) (.ret [(.c 0), (.c 0), (.c 0), (.c 0), (.c 0), (.v 11)])
(.callp 0 [(.v 6), (.v 7), (.v 8), (.v 9), (.v 10)] (.ite (.not (.eq (.v 12) (.c 0))) (.ret [(.c 0), (.c 0), (.c 0), (.c 0), (.c 0), (.v 12)])
(.ite (.or (.le (.v 0) (.v 3)) (.lt (.v 8) (.v 0))) (.ret [(.c 0), (.c 0), (.c 0), (.c 0), (.c 0), (.c 6)])
(.call 1 [(.wr .i64 (.mul (.wr .i64 (.sub (.v 6) (.v 1))) (.wr .i64 (.sub (.v 0) (.v 3))))), (.wr .i64 (.sub (.v 8) (.v 3)))] (.call 1 [(.wr .i64 (.mul (.wr .i64 (.sub (.v 7) (.v 2))) (.wr .i64 (.sub (.v 0) (.v 3))))), (.wr .i64 (.sub (.v 8) (.v 3)))] (.call 1 [(.wr .i64 (.mul (.wr .i64 (.sub (.v 9) (.v 4))) (.wr .i64 (.sub (.v 0) (.v 3))))), (.wr .i64 (.sub (.v 8) (.v 3)))] (.call 1 [(.wr .i64 (.mul (.wr .i64 (.sub (.v 10) (.v 5))) (.wr .i64 (.sub (.v 0) (.v 3))))), (.wr .i64 (.sub (.v 8) (.v 3)))] (.ret [(.wr .i64 (.add (.v 1) (.v 13))), (.wr .i64 (.add (.v 2) (.v 15))), (.v 0), (.wr .i64 (.add (.v 4) (.v 17))), (.wr .i64 (.add (.v 5) (.v 19))), (.c 0)])))))))))))
theorem tree_cut : merge (optFL [] I_cut [] pin_cut (symFnL Try.prog noLp gl0 G_cut 1000 15 [I1, An 5, An 5] [An 5, I1])) = t_cut := by kernel_rfl
theorem g_cut : Gok Try.prog G_cut := (more ok_pcheck (one ok_floor))
theorem o_cut : outsOK G_cut I_cut := (outsOK_cons inf_pcheck (outsOK_cons inf_floor outsOK_nil))
theorem ok_cut : s_cut.ok Try.prog := Sum.okF facts.mixed g_cut o_cut tree_cut rfl (fun _ => rfl) (by
  intro xs hx hp
  obtain ⟨a0, a1, a2, a3, a4, a5, a6, a7, a8, a9, a10, rfl⟩ := len11 hx
  have e1 : pointB [a1, a2, a3, a4, a5] 0 = pointB [a0, a1, a2, a3, a4, a5, a6, a7, a8, a9, a10] 1 := rfl
  have e2 : pointB [a6, a7, a8, a9, a10] 0 = pointB [a0, a1, a2, a3, a4, a5, a6, a7, a8, a9, a10] 6 := rfl
  clear hx hp
  by_cases hn : nearB [a0, a1, a2, a3, a4, a5, a6, a7, a8, a9, a10] = true
  · have kn := near_in hn
    simp only [TX.sat, XB.prop, X.den, List.map_cons, List.map_nil, List.getElem?_cons_zero, List.getElem?_cons_succ, List.cons_append, List.nil_append, List.getD_cons_zero, List.getD_cons_succ, mkS, mkP, and_true, true_and, Int.not_lt, Int.not_le, not_or, not_and, Classical.not_not, ne_eq, not_true_eq_false, not_false_eq_true] at kn
    by_cases h1 : pointB [a0, a1, a2, a3, a4, a5, a6, a7, a8, a9, a10] 1 = true
    · by_cases h6 : pointB [a0, a1, a2, a3, a4, a5, a6, a7, a8, a9, a10] 6 = true
      · have k1 := point_in h1
        have k6 := point_in h6
        simp only [TX.sat, XB.prop, X.den, List.map_cons, List.map_nil, List.getElem?_cons_zero, List.getElem?_cons_succ, List.cons_append, List.nil_append, List.getD_cons_zero, List.getD_cons_succ, mkS, mkP, and_true, true_and, Int.not_lt, Int.not_le, not_or, not_and, Classical.not_not, ne_eq, not_true_eq_false, not_false_eq_true, Nat.reduceAdd] at k1 k6
        by_cases hb : behindB [a0, a1, a2, a3, a4, a5, a6, a7, a8, a9, a10] = true
        · have kb := behind_in hb
          simp only [TX.sat, XB.prop, X.den, List.map_cons, List.map_nil, List.getElem?_cons_zero, List.getElem?_cons_succ, List.cons_append, List.nil_append, List.getD_cons_zero, List.getD_cons_succ, mkS, mkP, and_true, true_and, Int.not_lt, Int.not_le, not_or, not_and, Classical.not_not, ne_eq, not_true_eq_false, not_false_eq_true] at kb
          have w0 : IntKind.i64.wrap (a0 - a3) = a0 - a3 := wrap64 (by omega) (by omega)
          have w8 : IntKind.i64.wrap (a8 - a3) = a8 - a3 := wrap64 (by omega) (by omega)
          obtain ⟨u1, v1, x1, p1⟩ := cut_wrap (a := a1) (b := a6) (p := a0 - a3) (q := a8 - a3) k1.1 k6.1 (by omega) (by omega) (by omega)
          obtain ⟨u2, v2, x2, p2⟩ := cut_wrap (a := a2) (b := a7) (p := a0 - a3) (q := a8 - a3) k1.2.1 k6.2.1 (by omega) (by omega) (by omega)
          obtain ⟨u4, v4, x4, p4⟩ := cut_wrap (a := a4) (b := a9) (p := a0 - a3) (q := a8 - a3) (by omega) (by omega) (by omega) (by omega) (by omega)
          obtain ⟨u5, v5, x5, p5⟩ := cut_wrap (a := a5) (b := a10) (p := a0 - a3) (q := a8 - a3) (by omega) (by omega) (by omega) (by omega) (by omega)
          simp only [t_cut, G_cut, s_pcheck, s_floor, TX.sat, XB.prop, X.den, List.map_cons, List.map_nil, List.getElem?_cons_zero, List.getElem?_cons_succ, List.cons_append, List.nil_append, List.getD_cons_zero, List.getD_cons_succ, mkS, mkP, and_true, true_and, Int.not_lt, Int.not_le, not_or, not_and, Classical.not_not, ne_eq, not_true_eq_false, not_false_eq_true, sem_cut, sem_pcheck, sem_floor, e1, e2, cutL, hn, h1, h6, hb, er, cutP, ex6, cutV, Nat.reduceAdd, if_true, reduceIte, Bool.and_self, w0, w8, u1, u2, u4, u5, v1, v2, v4, v5, x1, x2, x4, x5]
          repeat' first | exact trivial | assumption | refine And.intro ?_ ?_ | intro _
          all_goals first | trivial | assumption | omega | (simp; done)
        · have kb : ¬ (a3 < a0 ∧ a0 ≤ a8) := fun h => hb (by simp only [behindB, dec_true, TX.sat, XB.prop, X.den, List.map_cons, List.map_nil, List.getElem?_cons_zero, List.getElem?_cons_succ, List.cons_append, List.nil_append, List.getD_cons_zero, List.getD_cons_succ, mkS, mkP, and_true, true_and, Int.not_lt, Int.not_le, not_or, not_and, Classical.not_not, ne_eq, not_true_eq_false, not_false_eq_true]; exact h)
          simp only [t_cut, G_cut, s_pcheck, s_floor, TX.sat, XB.prop, X.den, List.map_cons, List.map_nil, List.getElem?_cons_zero, List.getElem?_cons_succ, List.cons_append, List.nil_append, List.getD_cons_zero, List.getD_cons_succ, mkS, mkP, and_true, true_and, Int.not_lt, Int.not_le, not_or, not_and, Classical.not_not, ne_eq, not_true_eq_false, not_false_eq_true, sem_cut, sem_pcheck, sem_floor, e1, e2, cutL, hn, h1, h6, hb, er, cutP, ex6, cutV, Nat.reduceAdd, if_true, if_false, reduceIte, Bool.and_self]
          repeat' first | exact trivial | assumption | refine And.intro ?_ ?_ | intro _
          all_goals first | trivial | assumption | omega | (simp; done)
      · simp only [t_cut, G_cut, s_pcheck, s_floor, TX.sat, XB.prop, X.den, List.map_cons, List.map_nil, List.getElem?_cons_zero, List.getElem?_cons_succ, List.cons_append, List.nil_append, List.getD_cons_zero, List.getD_cons_succ, mkS, mkP, and_true, true_and, Int.not_lt, Int.not_le, not_or, not_and, Classical.not_not, ne_eq, not_true_eq_false, not_false_eq_true, sem_cut, sem_pcheck, sem_floor, e1, e2, cutL, hn, h1, h6, er, cutP, ex6, cutV, Nat.reduceAdd, if_true, if_false, reduceIte, Bool.and_false, Bool.false_eq_true]
        repeat' first | exact trivial | assumption | refine And.intro ?_ ?_ | intro _
        all_goals first | trivial | assumption | omega | (simp; done)
    · simp only [t_cut, G_cut, s_pcheck, s_floor, TX.sat, XB.prop, X.den, List.map_cons, List.map_nil, List.getElem?_cons_zero, List.getElem?_cons_succ, List.cons_append, List.nil_append, List.getD_cons_zero, List.getD_cons_succ, mkS, mkP, and_true, true_and, Int.not_lt, Int.not_le, not_or, not_and, Classical.not_not, ne_eq, not_true_eq_false, not_false_eq_true, sem_cut, sem_pcheck, sem_floor, e1, e2, cutL, hn, h1, er, cutP, ex6, cutV, Nat.reduceAdd, if_true, if_false, reduceIte, Bool.false_and, Bool.false_eq_true]
      repeat' first | exact trivial | assumption | refine And.intro ?_ ?_ | intro _
      all_goals first | trivial | assumption | omega | (simp; done)
  · have kn : ¬ (256 ≤ a0 ∧ a0 ≤ 4096) := fun h => hn (by simp only [nearB, dec_true, TX.sat, XB.prop, X.den, List.map_cons, List.map_nil, List.getElem?_cons_zero, List.getElem?_cons_succ, List.cons_append, List.nil_append, List.getD_cons_zero, List.getD_cons_succ, mkS, mkP, and_true, true_and, Int.not_lt, Int.not_le, not_or, not_and, Classical.not_not, ne_eq, not_true_eq_false, not_false_eq_true]; exact h)
    simp only [t_cut, G_cut, s_pcheck, s_floor, TX.sat, XB.prop, X.den, List.map_cons, List.map_nil, List.getElem?_cons_zero, List.getElem?_cons_succ, List.cons_append, List.nil_append, List.getD_cons_zero, List.getD_cons_succ, mkS, mkP, and_true, true_and, Int.not_lt, Int.not_le, not_or, not_and, Classical.not_not, ne_eq, not_true_eq_false, not_false_eq_true, sem_cut, sem_pcheck, sem_floor, e1, e2, cutL, hn, er, cutP, ex6, cutV, Nat.reduceAdd, if_true, if_false, reduceIte, Bool.false_and, Bool.false_eq_true]
    repeat' first | exact trivial | assumption | refine And.intro ?_ ?_ | intro _
    all_goals first | trivial | assumption | omega | (simp; done))
noncomputable def G_rcut : List Sum := [s_rpmay, s_rcut0]
def I_rcut : List Inf := [i_rpmay, i_rcut0]
def t_rcut : TX := (.ite (.or (.lt (.v 0) (.c 256)) (.lt (.c 4096) (.v 0))) (.ret [(.c 0), (.c 0), (.c 0), (.c 0), (.c 0), (.c 2)])
(.callp 0 [(.v 1), (.v 2), (.v 3), (.v 4), (.v 5)] (.ite (.eq (.v 11) (.c 0)) (.ret [(.c 0), (.c 0), (.c 0), (.c 0), (.c 0), (.c 8)])
(.callp 0 [(.v 6), (.v 7), (.v 8), (.v 9), (.v 10)] (.ite (.eq (.v 12) (.c 0)) (.ret [(.c 0), (.c 0), (.c 0), (.c 0), (.c 0), (.c 8)])
(.ite (.or (.le (.v 0) (.v 3)) (.lt (.v 8) (.v 0))) (.ret [(.c 0), (.c 0), (.c 0), (.c 0), (.c 0), (.c 6)])
(.call 1 [(.v 0), (.v 1), (.v 2), (.v 3), (.v 4), (.v 5), (.v 6), (.v 7), (.v 8), (.v 9), (.v 10)] (.ret [(.v 13), (.v 14), (.v 15), (.v 16), (.v 17), (.c 0)]))))))))
theorem tree_rcut : merge (optFL [] I_rcut [] pin_rcut (symFnL Try.prog noLp gl0 G_rcut 1000 31 [I1, An 5, An 5] [An 5, I1])) = t_rcut := by kernel_rfl
theorem g_rcut : Gok Try.prog G_rcut := (more ok_rpmay (one ok_rcut0))
theorem o_rcut : outsOK G_rcut I_rcut := (outsOK_cons inf_rpmay (outsOK_cons inf_rcut0 outsOK_nil))
theorem pt_vs {a b c d e : Int} (h : pointB [a, b, c, d, e] 0 = true) : vsOK pin_pt [a, b, c, d, e] := by
  have := point_in h
  simp only [TX.sat, XB.prop, X.den, List.map_cons, List.map_nil, List.getElem?_cons_zero, List.getElem?_cons_succ, List.cons_append, List.nil_append, List.getD_cons_zero, List.getD_cons_succ, mkS, mkP, and_true, true_and, Int.not_lt, Int.not_le, not_or, not_and, Classical.not_not, ne_eq, not_true_eq_false, not_false_eq_true, Nat.reduceAdd, Nat.zero_add] at this
  exact vsOK_cons (iv_def.2 (by omega)) (vsOK_cons (iv_def.2 (by omega)) (vsOK_cons (iv_def.2 (by omega)) (vsOK_cons (iv_def.2 (by omega)) (vsOK_cons (iv_def.2 (by omega)) vsOK_nil))))
theorem ok_rcut : s_rcut.ok Try.prog := Sum.okF facts.mixed g_rcut o_rcut tree_rcut rfl (fun _ => rfl) (by
  intro xs hx hp
  obtain ⟨a0, a1, a2, a3, a4, a5, a6, a7, a8, a9, a10, rfl⟩ := len11 hx
  have e1 : pointB [a1, a2, a3, a4, a5] 0 = pointB [a0, a1, a2, a3, a4, a5, a6, a7, a8, a9, a10] 1 := rfl
  have e2 : pointB [a6, a7, a8, a9, a10] 0 = pointB [a0, a1, a2, a3, a4, a5, a6, a7, a8, a9, a10] 6 := rfl
  clear hx hp
  by_cases hn : nearB [a0, a1, a2, a3, a4, a5, a6, a7, a8, a9, a10] = true
  · have kn := near_in hn
    simp only [TX.sat, XB.prop, X.den, List.map_cons, List.map_nil, List.getElem?_cons_zero, List.getElem?_cons_succ, List.cons_append, List.nil_append, List.getD_cons_zero, List.getD_cons_succ, mkS, mkP, and_true, true_and, Int.not_lt, Int.not_le, not_or, not_and, Classical.not_not, ne_eq, not_true_eq_false, not_false_eq_true] at kn
    by_cases h1 : pointB [a0, a1, a2, a3, a4, a5, a6, a7, a8, a9, a10] 1 = true
    · by_cases h6 : pointB [a0, a1, a2, a3, a4, a5, a6, a7, a8, a9, a10] 6 = true
      · by_cases hb : behindB [a0, a1, a2, a3, a4, a5, a6, a7, a8, a9, a10] = true
        · have kb := behind_in hb
          simp only [TX.sat, XB.prop, X.den, List.map_cons, List.map_nil, List.getElem?_cons_zero, List.getElem?_cons_succ, List.cons_append, List.nil_append, List.getD_cons_zero, List.getD_cons_succ, mkS, mkP, and_true, true_and, Int.not_lt, Int.not_le, not_or, not_and, Classical.not_not, ne_eq, not_true_eq_false, not_false_eq_true] at kb
          have hv : vsOK pin_rcut0 [a0, a1, a2, a3, a4, a5, a6, a7, a8, a9, a10] := vsOK_app (us := pin_pt) (x := [a6, a7, a8, a9, a10]) (vsOK_app (us := pin_pt) (x := [a1, a2, a3, a4, a5]) (vs := [iv 256 4096]) (r := [a0]) (vsOK_cons kn vsOK_nil) (pt_vs (e1.trans h1))) (pt_vs (e2.trans h6))
          simp only [t_rcut, G_rcut, s_rpmay, s_rcut0, TX.sat, XB.prop, X.den, List.map_cons, List.map_nil, List.getElem?_cons_zero, List.getElem?_cons_succ, List.cons_append, List.nil_append, List.getD_cons_zero, List.getD_cons_succ, mkS, mkP, and_true, true_and, Int.not_lt, Int.not_le, not_or, not_and, Classical.not_not, ne_eq, not_true_eq_false, not_false_eq_true, sem_rcut, sem_cut, sem_rpmay, sem_rcut0, pre_rcut0, e1, e2, cutL, hn, h1, h6, hb, b01, cutP, ex6, cutV, Nat.reduceAdd, if_true, reduceIte, Bool.and_self]
          repeat' first | exact trivial | assumption | refine And.intro ?_ ?_ | intro _
          all_goals first | trivial | assumption | omega | (simp; done)
        · have kb : ¬ (a3 < a0 ∧ a0 ≤ a8) := fun h => hb (by simp only [behindB, dec_true, TX.sat, XB.prop, X.den, List.map_cons, List.map_nil, List.getElem?_cons_zero, List.getElem?_cons_succ, List.cons_append, List.nil_append, List.getD_cons_zero, List.getD_cons_succ, mkS, mkP, and_true, true_and, Int.not_lt, Int.not_le, not_or, not_and, Classical.not_not, ne_eq, not_true_eq_false, not_false_eq_true]; exact h)
          simp only [t_rcut, G_rcut, s_rpmay, s_rcut0, TX.sat, XB.prop, X.den, List.map_cons, List.map_nil, List.getElem?_cons_zero, List.getElem?_cons_succ, List.cons_append, List.nil_append, List.getD_cons_zero, List.getD_cons_succ, mkS, mkP, and_true, true_and, Int.not_lt, Int.not_le, not_or, not_and, Classical.not_not, ne_eq, not_true_eq_false, not_false_eq_true, sem_rcut, sem_cut, sem_rpmay, sem_rcut0, e1, e2, cutL, hn, h1, h6, hb, b01, cutP, ex6, cutV, Nat.reduceAdd, if_true, if_false, reduceIte, Bool.and_self]
          repeat' first | exact trivial | assumption | refine And.intro ?_ ?_ | intro _
          all_goals first | trivial | assumption | omega | (simp; done)
      · simp only [t_rcut, G_rcut, s_rpmay, s_rcut0, TX.sat, XB.prop, X.den, List.map_cons, List.map_nil, List.getElem?_cons_zero, List.getElem?_cons_succ, List.cons_append, List.nil_append, List.getD_cons_zero, List.getD_cons_succ, mkS, mkP, and_true, true_and, Int.not_lt, Int.not_le, not_or, not_and, Classical.not_not, ne_eq, not_true_eq_false, not_false_eq_true, sem_rcut, sem_cut, sem_rpmay, sem_rcut0, e1, e2, cutL, hn, h1, h6, b01, cutP, ex6, cutV, Nat.reduceAdd, if_true, if_false, reduceIte, Bool.and_false, Bool.false_eq_true]
        repeat' first | exact trivial | assumption | refine And.intro ?_ ?_ | intro _
        all_goals first | trivial | assumption | omega | (simp; done)
    · simp only [t_rcut, G_rcut, s_rpmay, s_rcut0, TX.sat, XB.prop, X.den, List.map_cons, List.map_nil, List.getElem?_cons_zero, List.getElem?_cons_succ, List.cons_append, List.nil_append, List.getD_cons_zero, List.getD_cons_succ, mkS, mkP, and_true, true_and, Int.not_lt, Int.not_le, not_or, not_and, Classical.not_not, ne_eq, not_true_eq_false, not_false_eq_true, sem_rcut, sem_cut, sem_rpmay, sem_rcut0, e1, e2, cutL, hn, h1, b01, cutP, ex6, cutV, Nat.reduceAdd, if_true, if_false, reduceIte, Bool.false_and, Bool.false_eq_true]
      repeat' first | exact trivial | assumption | refine And.intro ?_ ?_ | intro _
      all_goals first | trivial | assumption | omega | (simp; done)
  · have kn : ¬ (256 ≤ a0 ∧ a0 ≤ 4096) := fun h => hn (by simp only [nearB, dec_true, TX.sat, XB.prop, X.den, List.map_cons, List.map_nil, List.getElem?_cons_zero, List.getElem?_cons_succ, List.cons_append, List.nil_append, List.getD_cons_zero, List.getD_cons_succ, mkS, mkP, and_true, true_and, Int.not_lt, Int.not_le, not_or, not_and, Classical.not_not, ne_eq, not_true_eq_false, not_false_eq_true]; exact h)
    simp only [t_rcut, G_rcut, s_rpmay, s_rcut0, TX.sat, XB.prop, X.den, List.map_cons, List.map_nil, List.getElem?_cons_zero, List.getElem?_cons_succ, List.cons_append, List.nil_append, List.getD_cons_zero, List.getD_cons_succ, mkS, mkP, and_true, true_and, Int.not_lt, Int.not_le, not_or, not_and, Classical.not_not, ne_eq, not_true_eq_false, not_false_eq_true, sem_rcut, sem_cut, sem_rpmay, sem_rcut0, e1, e2, cutL, hn, b01, cutP, ex6, cutV, Nat.reduceAdd, if_true, if_false, reduceIte, Bool.false_and, Bool.false_eq_true]
    repeat' first | exact trivial | assumption | refine And.intro ?_ ?_ | intro _
    all_goals first | trivial | assumption | omega | (simp; done))
noncomputable def G_alive19 : List Sum := [s_cut]
def I_alive19 : List Inf := [i_cut]
def t_alive19 : TX := (.callp 0 [(.c 256), (.c 0), (.c 0), (.c 0), (.c 0), (.c 0), (.c 100), (.c (-7)), (.c 512), (.c 200), (.c 1)] (.ite (.not (.eq (.v 5) (.c 0))) (.ret [(.c 0)])
(.ite (.and (.and (.eq (.v 0) (.c 50)) (.and (.eq (.v 1) (.c (-4))) (.eq (.v 2) (.c 256)))) (.and (.eq (.v 3) (.c 100)) (.eq (.v 4) (.c 0)))) (.ret [(.c 1)])
(.ret [(.c 0)]))))
theorem tree_alive19 : merge (optFL [] I_alive19 [] pin_alive19 (symFnL Try.prog noLp gl0 G_alive19 1000 14 [] [Bo])) = t_alive19 := by kernel_rfl
theorem g_alive19 : Gok Try.prog G_alive19 := (one ok_cut)
theorem o_alive19 : outsOK G_alive19 I_alive19 := (outsOK_cons inf_cut outsOK_nil)
theorem ok_alive19 : s_alive19.ok Try.prog := Sum.okF facts.mixed g_alive19 o_alive19 tree_alive19 rfl (fun _ => rfl) (by
  intro xs hx hp
  obtain rfl : xs = [] := List.eq_nil_of_length_eq_zero hx
  have h1 : cutL [256, 0, 0, 0, 0, 0, 100, -7, 512, 200, 1] = [50, -4, 256, 100, 0, 0] := by decide +kernel
  simp only [t_alive19, G_alive19, s_cut, TX.sat, XB.prop, X.den, List.map_cons, List.map_nil, List.getElem?_cons_zero, List.getElem?_cons_succ, List.cons_append, List.nil_append, List.getD_cons_zero, List.getD_cons_succ, mkS, mkP, and_true, true_and, Int.not_lt, Int.not_le, not_or, not_and, Classical.not_not, ne_eq, not_true_eq_false, not_false_eq_true, sem_cut, ex6, h1, sem_alive19, sem_alive]
  simp)
theorem inf_alive19 : InfOK s_alive19 i_alive19 := ⟨fun _ h => h, fun _ _ _ _ => vsOK_cons ⟨by decide, by decide⟩ vsOK_nil⟩
end Go.Proofs.Ytjbkcjbjllmhfaa.fix
