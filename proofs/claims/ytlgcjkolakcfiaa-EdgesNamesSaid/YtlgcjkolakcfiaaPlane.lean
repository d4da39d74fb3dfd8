/-
  What a triangle has at a pixel, as the functions of the plane come to it.
-/
import Derived.Test.YtlgcjkolakcfiaaEdges
set_option linter.unusedVariables false
set_option linter.unusedSimpArgs false
namespace Go.Proofs.Ytlgcjkolakcfiaa.fix
open Go.RowKit Go.Sx

theorem w_sum (x : List Int) : wgt x 5 10 15 + wgt x 10 0 15 + wgt x 0 5 15 = twiceV x := by
  simp only [wgt, twiceV, Nat.reduceAdd, Nat.zero_add]
  grind
theorem w_nonneg {x : List Int} (h : hasB x = true) : 0 ≤ wgt x 5 10 15 ∧ 0 ≤ wgt x 10 0 15 ∧ 0 ≤ wgt x 0 5 15 := by
  rw [hasB_iff] at h
  omega
theorem between_mul {w d m n : Int} (hw : 0 ≤ w) (h1 : m ≤ d) (h2 : d ≤ n) : w * m ≤ w * d ∧ w * d ≤ w * n :=
  ⟨Int.mul_le_mul_of_nonneg_left h1 hw, Int.mul_le_mul_of_nonneg_left h2 hw⟩
/-- Three numbers, weighed, lie between. -/
theorem weighed {w0 w1 w2 d0 d1 d2 m n : Int} (h0 : 0 ≤ w0) (h1 : 0 ≤ w1) (h2 : 0 ≤ w2) (k0 : m ≤ d0 ∧ d0 ≤ n) (k1 : m ≤ d1 ∧ d1 ≤ n) (k2 : m ≤ d2 ∧ d2 ≤ n) :
    (w0 + w1 + w2) * m ≤ w0 * d0 + w1 * d1 + w2 * d2 ∧ w0 * d0 + w1 * d1 + w2 * d2 ≤ (w0 + w1 + w2) * n := by
  have e0 := between_mul h0 k0.1 k0.2
  have e1 := between_mul h1 k1.1 k1.2
  have e2 := between_mul h2 k2.1 k2.2
  rw [Int.add_mul, Int.add_mul, Int.add_mul, Int.add_mul]
  omega
theorem tri_spots {x : List Int} (h : triB x = true) : ((-131072 ≤ x.getD 0 0 ∧ x.getD 0 0 ≤ 131072) ∧ (-131072 ≤ x.getD 1 0 ∧ x.getD 1 0 ≤ 131072) ∧ (1 ≤ x.getD 2 0 ∧ x.getD 2 0 ≤ 65536) ∧ (0 ≤ x.getD 3 0 ∧ x.getD 3 0 ≤ 255) ∧ (0 ≤ x.getD 4 0 ∧ x.getD 4 0 ≤ 255)) ∧
    ((-131072 ≤ x.getD 5 0 ∧ x.getD 5 0 ≤ 131072) ∧ (-131072 ≤ x.getD 6 0 ∧ x.getD 6 0 ≤ 131072) ∧ (1 ≤ x.getD 7 0 ∧ x.getD 7 0 ≤ 65536) ∧ (0 ≤ x.getD 8 0 ∧ x.getD 8 0 ≤ 255) ∧ (0 ≤ x.getD 9 0 ∧ x.getD 9 0 ≤ 255)) ∧
    ((-131072 ≤ x.getD 10 0 ∧ x.getD 10 0 ≤ 131072) ∧ (-131072 ≤ x.getD 11 0 ∧ x.getD 11 0 ≤ 131072) ∧ (1 ≤ x.getD 12 0 ∧ x.getD 12 0 ≤ 65536) ∧ (0 ≤ x.getD 13 0 ∧ x.getD 13 0 ≤ 255) ∧ (0 ≤ x.getD 14 0 ∧ x.getD 14 0 ≤ 255)) := by
  simp only [triB, Bool.and_eq_true, spotB_true, Nat.reduceAdd, Nat.zero_add] at h
  exact h
theorem deep_in {x : List Int} (h : triB x = true) (hh : hasB x = true) : twiceV x ≤ deepV x ∧ deepV x ≤ twiceV x * 65536 := by
  obtain ⟨⟨_, _, h2, _⟩, ⟨_, _, h7, _⟩, _, _, h12, _⟩ := tri_spots h
  obtain ⟨w0, w1, w2⟩ := w_nonneg hh
  have := weighed w0 w1 w2 h2 h7 h12
  rw [w_sum] at this
  unfold deepV
  omega
theorem tex_in {x : List Int} {o : Nat} (h : triB x = true) (hh : hasB x = true) (h3 : 0 ≤ x.getD o 0 ∧ x.getD o 0 ≤ 255) (h8 : 0 ≤ x.getD (o + 5) 0 ∧ x.getD (o + 5) 0 ≤ 255) (h13 : 0 ≤ x.getD (o + 10) 0 ∧ x.getD (o + 10) 0 ≤ 255) : 0 ≤ texV x o ∧ texV x o ≤ deepV x * 255 := by
  obtain ⟨⟨_, _, h2, _⟩, ⟨_, _, h7, _⟩, _, _, h12, _⟩ := tri_spots h
  obtain ⟨w0, w1, w2⟩ := w_nonneg hh
  have := weighed (Int.mul_nonneg w0 (by omega : 0 ≤ x.getD 2 0)) (Int.mul_nonneg w1 (by omega : 0 ≤ x.getD 7 0)) (Int.mul_nonneg w2 (by omega : 0 ≤ x.getD 12 0)) h3 h8 h13
  unfold texV deepV
  omega
/-- All that is asked of rounding at a pixel that is covered. -/
theorem at_facts {x : List Int} (h : triB x = true) (ht : 0 < twiceV x) (hh : hasB x = true) : 1 ≤ twiceV x ∧ twiceV x ≤ 137438953472 ∧ 1 ≤ deepV x ∧ deepV x ≤ 9007199254740992 ∧ (0 ≤ texV x 3 ∧ texV x 3 ≤ deepV x * 255) ∧ (0 ≤ texV x 4 ∧ texV x 4 ≤ deepV x * 255) := by
  have k1 := twice_in h
  have k2 := deep_in h hh
  obtain ⟨⟨_, _, _, h3, h4⟩, ⟨_, _, _, h8, h9⟩, _, _, _, h13, h14⟩ := tri_spots h
  have k3 := tex_in (o := 3) h hh h3 h8 h13
  have k4 := tex_in (o := 4) h hh h4 h9 h14
  omega
theorem pin_dn {a b : Int} (h1 : -9223372036854775808 ≤ a) (h2 : a ≤ 9223372036854775807) (h3 : 1 ≤ b) (h4 : b ≤ 9223372036854775807) : vsOK [zz, pos] [a, b] := vsOK_cons ⟨h1, h2⟩ (vsOK_cons ⟨h3, h4⟩ vsOK_nil)

def G_of : List Sum := [s_weights, s_down]
def I_of : List Inf := [i_weights, i_down]
def t_of : TX := (.callp 0 [(.v 0), (.v 1), (.v 2), (.v 3), (.v 4), (.v 5), (.v 6), (.v 7), (.v 8), (.v 9), (.v 10), (.v 11), (.v 12), (.v 13), (.v 14), (.v 15), (.v 16)] (.call 1 [(.add (.add (.add (.c 0) (.mul (.v 17) (.v 2))) (.mul (.v 18) (.v 7))) (.mul (.v 19) (.v 12))), (.add (.add (.add (.c 0) (.v 17)) (.v 18)) (.v 19))] (.call 1 [(.add (.add (.add (.c 0) (.mul (.mul (.v 17) (.v 2)) (.v 3))) (.mul (.mul (.v 18) (.v 7)) (.v 8))) (.mul (.mul (.v 19) (.v 12)) (.v 13))), (.add (.add (.add (.c 0) (.mul (.v 17) (.v 2))) (.mul (.v 18) (.v 7))) (.mul (.v 19) (.v 12)))] (.call 1 [(.add (.add (.add (.c 0) (.mul (.mul (.v 17) (.v 2)) (.v 4))) (.mul (.mul (.v 18) (.v 7)) (.v 9))) (.mul (.mul (.v 19) (.v 12)) (.v 14))), (.add (.add (.add (.c 0) (.mul (.v 17) (.v 2))) (.mul (.v 18) (.v 7))) (.mul (.v 19) (.v 12)))] (.ret [(.add (.mul (.c 8) (.v 15)) (.c 4)), (.add (.mul (.c 8) (.v 16)) (.c 4)), (.v 20), (.v 21), (.v 22)])))))
theorem tree_of : merge (opt I_of pin_of (symFn Try.prog G_of 1000 133 [An 15, I1, I1] [An 5])) = t_of := by kernel_rfl
theorem g_of : Gok Try.prog G_of := (more ok_weights (one ok_down))
theorem o_of : outsOK G_of I_of := (outsOK_cons inf_weights (outsOK_cons inf_down outsOK_nil))
theorem ok_of : s_of.ok Try.prog := Sum.ok_optP (pin := pin_of) facts.mixed g_of o_of tree_of rfl (fun _ => rfl) (fun xs h => h.1) (by
  intro xs hx hp
  obtain ⟨a0, a1, a2, a3, a4, a5, a6, a7, a8, a9, a10, a11, a12, a13, a14, a15, a16, rfl⟩ := len17 hx
  obtain ⟨hp, hh, ht⟩ := hp
  obtain ⟨s0, s5, s10, _⟩ := pin_wgt_in hp
  have hT : triB [a0, a1, a2, a3, a4, a5, a6, a7, a8, a9, a10, a11, a12, a13, a14, a15, a16] = true := by
    unfold triB; rw [s0, s5, s10]; rfl
  obtain ⟨f1, f2, f3, f4, f5, f6⟩ := at_facts hT ht hh
  have hs := w_sum [a0, a1, a2, a3, a4, a5, a6, a7, a8, a9, a10, a11, a12, a13, a14, a15, a16]
  simp only [t_of, G_of, s_weights, s_down, TX.sat, XB.prop, X.den, List.map_cons, List.map_nil, List.getElem?_cons_zero, List.getElem?_cons_succ, List.cons_append, List.nil_append, List.getD_cons_zero, List.getD_cons_succ, mkS, mkP, and_true, true_and, Int.not_lt, Int.not_le, not_or, not_and, Classical.not_not, ne_eq, not_true_eq_false, not_false_eq_true, sem_weights, sem_down, Int.zero_add, hs]
  have e1 : wgt [a0, a1, a2, a3, a4, a5, a6, a7, a8, a9, a10, a11, a12, a13, a14, a15, a16] 5 10 15 * a2 + wgt [a0, a1, a2, a3, a4, a5, a6, a7, a8, a9, a10, a11, a12, a13, a14, a15, a16] 10 0 15 * a7 + wgt [a0, a1, a2, a3, a4, a5, a6, a7, a8, a9, a10, a11, a12, a13, a14, a15, a16] 0 5 15 * a12 = deepV [a0, a1, a2, a3, a4, a5, a6, a7, a8, a9, a10, a11, a12, a13, a14, a15, a16] := rfl
  have e2 : wgt [a0, a1, a2, a3, a4, a5, a6, a7, a8, a9, a10, a11, a12, a13, a14, a15, a16] 5 10 15 * a2 * a3 + wgt [a0, a1, a2, a3, a4, a5, a6, a7, a8, a9, a10, a11, a12, a13, a14, a15, a16] 10 0 15 * a7 * a8 + wgt [a0, a1, a2, a3, a4, a5, a6, a7, a8, a9, a10, a11, a12, a13, a14, a15, a16] 0 5 15 * a12 * a13 = texV [a0, a1, a2, a3, a4, a5, a6, a7, a8, a9, a10, a11, a12, a13, a14, a15, a16] 3 := rfl
  have e3 : wgt [a0, a1, a2, a3, a4, a5, a6, a7, a8, a9, a10, a11, a12, a13, a14, a15, a16] 5 10 15 * a2 * a4 + wgt [a0, a1, a2, a3, a4, a5, a6, a7, a8, a9, a10, a11, a12, a13, a14, a15, a16] 10 0 15 * a7 * a9 + wgt [a0, a1, a2, a3, a4, a5, a6, a7, a8, a9, a10, a11, a12, a13, a14, a15, a16] 0 5 15 * a12 * a14 = texV [a0, a1, a2, a3, a4, a5, a6, a7, a8, a9, a10, a11, a12, a13, a14, a15, a16] 4 := rfl
  rw [e1, e2, e3]
  exact ⟨pin_dn (by omega) (by omega) (by omega) (by omega), pin_dn (by omega) (by omega) (by omega) (by omega), pin_dn (by omega) (by omega) (by omega) (by omega), rfl⟩)
theorem inf_of : InfOK s_of i_of := ⟨fun xs h => by
    have h1 := h.2 0
    have h2 : 1 ≤ xs.getD 0 0 ∧ xs.getD 0 0 ≤ 0 := h1
    omega, fun vs xs h hp => by
    have h15 : 0 ≤ xs.getD 15 0 ∧ xs.getD 15 0 ≤ 63 := hp.1.2 15
    have h16 : 0 ≤ xs.getD 16 0 ∧ xs.getD 16 0 ≤ 63 := hp.1.2 16
    have k1 : -9223372036854775808 ≤ 8 * xs.getD 15 0 + 4 ∧ 8 * xs.getD 15 0 + 4 ≤ 9223372036854775807 := by omega
    have k2 : -9223372036854775808 ≤ 8 * xs.getD 16 0 + 4 ∧ 8 * xs.getD 16 0 + 4 ≤ 9223372036854775807 := by omega
    exact vsOK_cons k1 (vsOK_cons k2 (vsOK_cons trivial (vsOK_cons trivial (vsOK_cons trivial vsOK_nil))))⟩
def G_rplat : List Sum := [s_rcovers, s_of]
def I_rplat : List Inf := [i_rcovers, i_of]
def t_rplat : TX := (.callp 0 [(.v 0), (.v 1), (.v 2), (.v 3), (.v 4), (.v 5), (.v 6), (.v 7), (.v 8), (.v 9), (.v 10), (.v 11), (.v 12), (.v 13), (.v 14), (.v 15), (.v 16)] (.ite (.not (.eq (.v 18) (.c 0))) (.ret [(.c 0), (.c 0), (.c 0), (.c 0), (.c 0), (.v 18)])
(.ite (.eq (.v 17) (.c 0)) (.ret [(.c 0), (.c 0), (.c 0), (.c 0), (.c 0), (.c 6)])
(.call 1 [(.v 0), (.v 1), (.v 2), (.v 3), (.v 4), (.v 5), (.v 6), (.v 7), (.v 8), (.v 9), (.v 10), (.v 11), (.v 12), (.v 13), (.v 14), (.v 15), (.v 16)] (.ret [(.v 19), (.v 20), (.v 21), (.v 22), (.v 23), (.c 0)])))))
theorem tree_rplat : merge (opt I_rplat pin_rplat (symFn Try.prog G_rplat 1000 95 [An 15, I1, I1] [An 5, I1])) = t_rplat := by kernel_rfl
theorem g_rplat : Gok Try.prog G_rplat := (more ok_rcovers (one ok_of))
theorem o_rplat : outsOK G_rplat I_rplat := (outsOK_cons inf_rcovers (outsOK_cons inf_of outsOK_nil))
theorem ok_rplat : s_rplat.ok Try.prog := Sum.ok_opt facts.mixed g_rplat o_rplat tree_rplat rfl (fun _ => rfl) (by
  intro xs hx hp
  obtain ⟨a0, a1, a2, a3, a4, a5, a6, a7, a8, a9, a10, a11, a12, a13, a14, a15, a16, rfl⟩ := len17 hx
  have hE := @edges_ok [a0, a1, a2, a3, a4, a5, a6, a7, a8, a9, a10, a11, a12, a13, a14, a15, a16]
  have hq := @wgt_pin a0 a1 a2 a3 a4 a5 a6 a7 a8 a9 a10 a11 a12 a13 a14 a15 a16
  simp only [t_rplat, G_rplat, s_rcovers, s_of, TX.sat, XB.prop, X.den, List.map_cons, List.map_nil, List.getElem?_cons_zero, List.getElem?_cons_succ, List.cons_append, List.nil_append, List.getD_cons_zero, List.getD_cons_succ, mkS, mkP, and_true, true_and, Int.not_lt, Int.not_le, not_or, not_and, Classical.not_not, ne_eq, not_true_eq_false, not_false_eq_true, sem_rcovers, sem_covers, coversL, sem_of, ofL, sem_rplat, sem_plat, atL, pre_of]
  clear hp hx
  by_cases he : (edgesL [a0, a1, a2, a3, a4, a5, a6, a7, a8, a9, a10, a11, a12, a13, a14, a15, a16]).getD 3 0 = 0
  · obtain ⟨h1, h2, h3, hv⟩ := hE he
    have hq' : vsOK pin_of [a0, a1, a2, a3, a4, a5, a6, a7, a8, a9, a10, a11, a12, a13, a14, a15, a16] := hq h1 h3
    rw [if_pos he, if_pos he]
    cases hh : hasB [a0, a1, a2, a3, a4, a5, a6, a7, a8, a9, a10, a11, a12, a13, a14, a15, a16] with
    | true => simp [hq', h2, b01, ex6]
    | false => simp [b01, ex6]
  · rw [if_neg he, if_neg he]
    simp only [ex6, TX.sat, XB.prop, X.den, List.map_cons, List.map_nil, List.getElem?_cons_zero, List.getElem?_cons_succ, List.cons_append, List.nil_append, List.getD_cons_zero, List.getD_cons_succ, mkS, mkP, and_true, true_and, Int.not_lt, Int.not_le, not_or, not_and, Classical.not_not, ne_eq, not_true_eq_false, not_false_eq_true]
    exact ⟨fun _ => trivial, fun h => absurd h he⟩)
def G_plat : List Sum := [s_covers, s_floor]
def I_plat : List Inf := [i_covers, i_floor]
def t_plat : TX := (.callp 0 [(.v 0), (.v 1), (.v 2), (.v 3), (.v 4), (.v 5), (.v 6), (.v 7), (.v 8), (.v 9), (.v 10), (.v 11), (.v 12), (.v 13), (.v 14), (.v 15), (.v 16)] (.ite (.not (.eq (.v 18) (.c 0))) (.ret [(.c 0), (.c 0), (.c 0), (.c 0), (.c 0), (.v 18)])
(.ite (.eq (.v 17) (.c 0)) (.ret [(.c 0), (.c 0), (.c 0), (.c 0), (.c 0), (.c 6)])
(.ite (.or (.or (.lt (.v 0) (.c (-131072))) (.lt (.c 131072) (.v 0))) (.or (.or (.lt (.v 1) (.c (-131072))) (.lt (.c 131072) (.v 1))) (.or (.or (.lt (.v 2) (.c 1)) (.lt (.c 65536) (.v 2))) (.or (.or (.lt (.v 3) (.c 0)) (.lt (.c 255) (.v 3))) (.or (.or (.lt (.v 4) (.c 0)) (.lt (.c 255) (.v 4))) (.or (.or (.lt (.v 5) (.c (-131072))) (.lt (.c 131072) (.v 5))) (.or (.or (.lt (.v 6) (.c (-131072))) (.lt (.c 131072) (.v 6))) (.or (.or (.lt (.v 7) (.c 1)) (.lt (.c 65536) (.v 7))) (.or (.or (.lt (.v 8) (.c 0)) (.lt (.c 255) (.v 8))) (.or (.or (.lt (.v 9) (.c 0)) (.lt (.c 255) (.v 9))) (.or (.or (.lt (.v 10) (.c (-131072))) (.lt (.c 131072) (.v 10))) (.or (.or (.lt (.v 11) (.c (-131072))) (.lt (.c 131072) (.v 11))) (.or (.or (.lt (.v 12) (.c 1)) (.lt (.c 65536) (.v 12))) (.or (.or (.lt (.v 13) (.c 0)) (.lt (.c 255) (.v 13))) (.or (.lt (.v 14) (.c 0)) (.lt (.c 255) (.v 14))))))))))))))))) (.ret [(.c 0), (.c 0), (.c 0), (.c 0), (.c 0), (.c 8)])
(.ite (.le (.sub (.mul (.sub (.v 5) (.v 0)) (.sub (.v 11) (.v 1))) (.mul (.sub (.v 10) (.v 0)) (.sub (.v 6) (.v 1)))) (.c 0)) (.ret [(.c 0), (.c 0), (.c 0), (.c 0), (.c 0), (.c 6)])
(.ite (.or (.lt (.mn (.v 15) (.v 16)) (.c 0)) (.le (.c 64) (.mx (.v 15) (.v 16)))) (.ret [(.c 0), (.c 0), (.c 0), (.c 0), (.c 0), (.c 2)])
(.call 1 [(.add (.add (.add (.c 0) (.mul (.mul (.sub (.mul (.sub (.v 10) (.v 5)) (.sub (.add (.mul (.c 8) (.v 16)) (.c 4)) (.v 6))) (.mul (.sub (.add (.mul (.c 8) (.v 15)) (.c 4)) (.v 5)) (.sub (.v 11) (.v 6)))) (.v 2)) (.c 1))) (.mul (.mul (.sub (.mul (.sub (.v 0) (.v 10)) (.sub (.add (.mul (.c 8) (.v 16)) (.c 4)) (.v 11))) (.mul (.sub (.add (.mul (.c 8) (.v 15)) (.c 4)) (.v 10)) (.sub (.v 1) (.v 11)))) (.v 7)) (.c 1))) (.mul (.mul (.sub (.mul (.sub (.v 5) (.v 0)) (.sub (.add (.mul (.c 8) (.v 16)) (.c 4)) (.v 1))) (.mul (.sub (.add (.mul (.c 8) (.v 15)) (.c 4)) (.v 0)) (.sub (.v 6) (.v 1)))) (.v 12)) (.c 1))), (.add (.add (.add (.c 0) (.sub (.mul (.sub (.v 10) (.v 5)) (.sub (.add (.mul (.c 8) (.v 16)) (.c 4)) (.v 6))) (.mul (.sub (.add (.mul (.c 8) (.v 15)) (.c 4)) (.v 5)) (.sub (.v 11) (.v 6))))) (.sub (.mul (.sub (.v 0) (.v 10)) (.sub (.add (.mul (.c 8) (.v 16)) (.c 4)) (.v 11))) (.mul (.sub (.add (.mul (.c 8) (.v 15)) (.c 4)) (.v 10)) (.sub (.v 1) (.v 11))))) (.sub (.mul (.sub (.v 5) (.v 0)) (.sub (.add (.mul (.c 8) (.v 16)) (.c 4)) (.v 1))) (.mul (.sub (.add (.mul (.c 8) (.v 15)) (.c 4)) (.v 0)) (.sub (.v 6) (.v 1)))))] (.call 1 [(.add (.add (.add (.c 0) (.mul (.mul (.sub (.mul (.sub (.v 10) (.v 5)) (.sub (.add (.mul (.c 8) (.v 16)) (.c 4)) (.v 6))) (.mul (.sub (.add (.mul (.c 8) (.v 15)) (.c 4)) (.v 5)) (.sub (.v 11) (.v 6)))) (.v 2)) (.v 3))) (.mul (.mul (.sub (.mul (.sub (.v 0) (.v 10)) (.sub (.add (.mul (.c 8) (.v 16)) (.c 4)) (.v 11))) (.mul (.sub (.add (.mul (.c 8) (.v 15)) (.c 4)) (.v 10)) (.sub (.v 1) (.v 11)))) (.v 7)) (.v 8))) (.mul (.mul (.sub (.mul (.sub (.v 5) (.v 0)) (.sub (.add (.mul (.c 8) (.v 16)) (.c 4)) (.v 1))) (.mul (.sub (.add (.mul (.c 8) (.v 15)) (.c 4)) (.v 0)) (.sub (.v 6) (.v 1)))) (.v 12)) (.v 13))), (.add (.add (.add (.c 0) (.mul (.mul (.sub (.mul (.sub (.v 10) (.v 5)) (.sub (.add (.mul (.c 8) (.v 16)) (.c 4)) (.v 6))) (.mul (.sub (.add (.mul (.c 8) (.v 15)) (.c 4)) (.v 5)) (.sub (.v 11) (.v 6)))) (.v 2)) (.c 1))) (.mul (.mul (.sub (.mul (.sub (.v 0) (.v 10)) (.sub (.add (.mul (.c 8) (.v 16)) (.c 4)) (.v 11))) (.mul (.sub (.add (.mul (.c 8) (.v 15)) (.c 4)) (.v 10)) (.sub (.v 1) (.v 11)))) (.v 7)) (.c 1))) (.mul (.mul (.sub (.mul (.sub (.v 5) (.v 0)) (.sub (.add (.mul (.c 8) (.v 16)) (.c 4)) (.v 1))) (.mul (.sub (.add (.mul (.c 8) (.v 15)) (.c 4)) (.v 0)) (.sub (.v 6) (.v 1)))) (.v 12)) (.c 1)))] (.call 1 [(.add (.add (.add (.c 0) (.mul (.mul (.sub (.mul (.sub (.v 10) (.v 5)) (.sub (.add (.mul (.c 8) (.v 16)) (.c 4)) (.v 6))) (.mul (.sub (.add (.mul (.c 8) (.v 15)) (.c 4)) (.v 5)) (.sub (.v 11) (.v 6)))) (.v 2)) (.v 4))) (.mul (.mul (.sub (.mul (.sub (.v 0) (.v 10)) (.sub (.add (.mul (.c 8) (.v 16)) (.c 4)) (.v 11))) (.mul (.sub (.add (.mul (.c 8) (.v 15)) (.c 4)) (.v 10)) (.sub (.v 1) (.v 11)))) (.v 7)) (.v 9))) (.mul (.mul (.sub (.mul (.sub (.v 5) (.v 0)) (.sub (.add (.mul (.c 8) (.v 16)) (.c 4)) (.v 1))) (.mul (.sub (.add (.mul (.c 8) (.v 15)) (.c 4)) (.v 0)) (.sub (.v 6) (.v 1)))) (.v 12)) (.v 14))), (.add (.add (.add (.c 0) (.mul (.mul (.sub (.mul (.sub (.v 10) (.v 5)) (.sub (.add (.mul (.c 8) (.v 16)) (.c 4)) (.v 6))) (.mul (.sub (.add (.mul (.c 8) (.v 15)) (.c 4)) (.v 5)) (.sub (.v 11) (.v 6)))) (.v 2)) (.c 1))) (.mul (.mul (.sub (.mul (.sub (.v 0) (.v 10)) (.sub (.add (.mul (.c 8) (.v 16)) (.c 4)) (.v 11))) (.mul (.sub (.add (.mul (.c 8) (.v 15)) (.c 4)) (.v 10)) (.sub (.v 1) (.v 11)))) (.v 7)) (.c 1))) (.mul (.mul (.sub (.mul (.sub (.v 5) (.v 0)) (.sub (.add (.mul (.c 8) (.v 16)) (.c 4)) (.v 1))) (.mul (.sub (.add (.mul (.c 8) (.v 15)) (.c 4)) (.v 0)) (.sub (.v 6) (.v 1)))) (.v 12)) (.c 1)))] (.ret [(.add (.mul (.c 8) (.v 15)) (.c 4)), (.add (.mul (.c 8) (.v 16)) (.c 4)), (.v 19), (.v 21), (.v 23), (.c 0)]))))))))))
theorem tree_plat : merge (opt I_plat pin_plat (symFn Try.prog G_plat 1000 92 [An 15, I1, I1] [An 5, I1])) = t_plat := by kernel_rfl
theorem g_plat : Gok Try.prog G_plat := (more ok_covers (one ok_floor))
theorem o_plat : outsOK G_plat I_plat := (outsOK_cons inf_covers (outsOK_cons inf_floor outsOK_nil))
theorem ok_plat : s_plat.ok Try.prog := Sum.ok_opt facts.mixed g_plat o_plat tree_plat rfl (fun _ => rfl) (by
  intro xs hx hp
  obtain ⟨a0, a1, a2, a3, a4, a5, a6, a7, a8, a9, a10, a11, a12, a13, a14, a15, a16, rfl⟩ := len17 hx
  have hE := @edges_ok [a0, a1, a2, a3, a4, a5, a6, a7, a8, a9, a10, a11, a12, a13, a14, a15, a16]
  clear hp hx
  by_cases he : (edgesL [a0, a1, a2, a3, a4, a5, a6, a7, a8, a9, a10, a11, a12, a13, a14, a15, a16]).getD 3 0 = 0
  · obtain ⟨h1, h2, h3, hv⟩ := hE he
    have hc : coversL [a0, a1, a2, a3, a4, a5, a6, a7, a8, a9, a10, a11, a12, a13, a14, a15, a16] = _ := if_pos he
    have hA : atL [a0, a1, a2, a3, a4, a5, a6, a7, a8, a9, a10, a11, a12, a13, a14, a15, a16] = _ := if_pos he
    cases hh : hasB [a0, a1, a2, a3, a4, a5, a6, a7, a8, a9, a10, a11, a12, a13, a14, a15, a16] with
    | true =>
      rw [hh] at hc
      rw [if_pos hh] at hA
      obtain ⟨f1, f2, f3, f4, f5, f6⟩ := at_facts h1 h2 hh
      have hs := w_sum [a0, a1, a2, a3, a4, a5, a6, a7, a8, a9, a10, a11, a12, a13, a14, a15, a16]
      have g0 : (a10 - a5) * (8 * a16 + 4 - a6) - (8 * a15 + 4 - a5) * (a11 - a6) = wgt [a0, a1, a2, a3, a4, a5, a6, a7, a8, a9, a10, a11, a12, a13, a14, a15, a16] 5 10 15 := rfl
      have g1 : (a0 - a10) * (8 * a16 + 4 - a11) - (8 * a15 + 4 - a10) * (a1 - a11) = wgt [a0, a1, a2, a3, a4, a5, a6, a7, a8, a9, a10, a11, a12, a13, a14, a15, a16] 10 0 15 := rfl
      have g2 : (a5 - a0) * (8 * a16 + 4 - a1) - (8 * a15 + 4 - a0) * (a6 - a1) = wgt [a0, a1, a2, a3, a4, a5, a6, a7, a8, a9, a10, a11, a12, a13, a14, a15, a16] 0 5 15 := rfl
      have g3 : (a5 - a0) * (a11 - a1) - (a10 - a0) * (a6 - a1) = twiceV [a0, a1, a2, a3, a4, a5, a6, a7, a8, a9, a10, a11, a12, a13, a14, a15, a16] := rfl
      have e1 : wgt [a0, a1, a2, a3, a4, a5, a6, a7, a8, a9, a10, a11, a12, a13, a14, a15, a16] 5 10 15 * a2 + wgt [a0, a1, a2, a3, a4, a5, a6, a7, a8, a9, a10, a11, a12, a13, a14, a15, a16] 10 0 15 * a7 + wgt [a0, a1, a2, a3, a4, a5, a6, a7, a8, a9, a10, a11, a12, a13, a14, a15, a16] 0 5 15 * a12 = deepV [a0, a1, a2, a3, a4, a5, a6, a7, a8, a9, a10, a11, a12, a13, a14, a15, a16] := rfl
      have e2 : wgt [a0, a1, a2, a3, a4, a5, a6, a7, a8, a9, a10, a11, a12, a13, a14, a15, a16] 5 10 15 * a2 * a3 + wgt [a0, a1, a2, a3, a4, a5, a6, a7, a8, a9, a10, a11, a12, a13, a14, a15, a16] 10 0 15 * a7 * a8 + wgt [a0, a1, a2, a3, a4, a5, a6, a7, a8, a9, a10, a11, a12, a13, a14, a15, a16] 0 5 15 * a12 * a13 = texV [a0, a1, a2, a3, a4, a5, a6, a7, a8, a9, a10, a11, a12, a13, a14, a15, a16] 3 := rfl
      have e3 : wgt [a0, a1, a2, a3, a4, a5, a6, a7, a8, a9, a10, a11, a12, a13, a14, a15, a16] 5 10 15 * a2 * a4 + wgt [a0, a1, a2, a3, a4, a5, a6, a7, a8, a9, a10, a11, a12, a13, a14, a15, a16] 10 0 15 * a7 * a9 + wgt [a0, a1, a2, a3, a4, a5, a6, a7, a8, a9, a10, a11, a12, a13, a14, a15, a16] 0 5 15 * a12 * a14 = texV [a0, a1, a2, a3, a4, a5, a6, a7, a8, a9, a10, a11, a12, a13, a14, a15, a16] 4 := rfl
      have ht := tri_spots h1
      simp only [TX.sat, XB.prop, X.den, List.map_cons, List.map_nil, List.getElem?_cons_zero, List.getElem?_cons_succ, List.cons_append, List.nil_append, List.getD_cons_zero, List.getD_cons_succ, mkS, mkP, and_true, true_and, Int.not_lt, Int.not_le, not_or, not_and, Classical.not_not, ne_eq, not_true_eq_false, not_false_eq_true] at ht
      have hpx := pixB_true.1 h3
      simp only [TX.sat, XB.prop, X.den, List.map_cons, List.map_nil, List.getElem?_cons_zero, List.getElem?_cons_succ, List.cons_append, List.nil_append, List.getD_cons_zero, List.getD_cons_succ, mkS, mkP, and_true, true_and, Int.not_lt, Int.not_le, not_or, not_and, Classical.not_not, ne_eq, not_true_eq_false, not_false_eq_true, Nat.reduceAdd] at hpx
      simp only [t_plat, G_plat, s_covers, s_floor, TX.sat, XB.prop, X.den, List.map_cons, List.map_nil, List.getElem?_cons_zero, List.getElem?_cons_succ, List.cons_append, List.nil_append, List.getD_cons_zero, List.getD_cons_succ, mkS, mkP, and_true, true_and, Int.not_lt, Int.not_le, not_or, not_and, Classical.not_not, ne_eq, not_true_eq_false, not_false_eq_true, sem_covers, sem_floor, sem_plat, hc, hA, ex6, b01, g0, g1, g2, g3, Int.zero_add, Int.mul_one, e1, e2, e3, hs]
      clear hE hc hA hv he g0 g1 g2 g3 e1 e2 e3 hs h1 h3 hh
      simp only [if_true, reduceIte]
      refine ⟨fun h => h.elim, fun _ => ⟨fun h => absurd h (by decide), fun _ => ⟨fun h => ?_, fun _ => ⟨fun h => ?_, fun _ => ⟨fun h => ?_, fun _ => ?_⟩⟩⟩⟩⟩
      · omega
      · omega
      · omega
      · exact ⟨pin_dn (by omega) (by omega) (by omega) (by omega), pin_dn (by omega) (by omega) (by omega) (by omega), pin_dn (by omega) (by omega) (by omega) (by omega)⟩
    | false =>
      rw [hh] at hc
      rw [if_neg (by rw [hh]; simp)] at hA
      simp only [t_plat, G_plat, s_covers, s_floor, TX.sat, XB.prop, X.den, List.map_cons, List.map_nil, List.getElem?_cons_zero, List.getElem?_cons_succ, List.cons_append, List.nil_append, List.getD_cons_zero, List.getD_cons_succ, mkS, mkP, and_true, true_and, Int.not_lt, Int.not_le, not_or, not_and, Classical.not_not, ne_eq, not_true_eq_false, not_false_eq_true, sem_covers, sem_floor, sem_plat, hc, hA, ex6, b01]
      exact ⟨fun h => h.elim, fun _ => ⟨fun _ => trivial, fun h => absurd rfl h⟩⟩
  · have hc : coversL [a0, a1, a2, a3, a4, a5, a6, a7, a8, a9, a10, a11, a12, a13, a14, a15, a16] = _ := if_neg he
    have hA : atL [a0, a1, a2, a3, a4, a5, a6, a7, a8, a9, a10, a11, a12, a13, a14, a15, a16] = _ := if_neg he
    simp only [t_plat, G_plat, s_covers, s_floor, TX.sat, XB.prop, X.den, List.map_cons, List.map_nil, List.getElem?_cons_zero, List.getElem?_cons_succ, List.cons_append, List.nil_append, List.getD_cons_zero, List.getD_cons_succ, mkS, mkP, and_true, true_and, Int.not_lt, Int.not_le, not_or, not_and, Classical.not_not, ne_eq, not_true_eq_false, not_false_eq_true, sem_covers, sem_floor, sem_plat, hc, hA, ex6, b01]
    exact ⟨fun _ => trivial, fun h => absurd h he⟩)
/-- A quotient lies between, where the dividend does. -/
theorem div_between {a b m n : Int} (hb : 0 < b) (h1 : b * m ≤ a) (h2 : a ≤ b * n) : m ≤ a / b ∧ a / b ≤ n := by
  constructor
  · rw [Int.le_ediv_iff_mul_le hb, Int.mul_comm]
    exact h1
  · refine Int.ediv_le_of_le_mul hb ?_
    rw [Int.mul_comm]
    exact h2
theorem at_between {x : List Int} (h : triB x = true) (ht : 0 < twiceV x) (hh : hasB x = true) : (1 ≤ deepV x / twiceV x ∧ deepV x / twiceV x ≤ 65536) ∧ (0 ≤ texV x 3 / deepV x ∧ texV x 3 / deepV x ≤ 255) ∧ (0 ≤ texV x 4 / deepV x ∧ texV x 4 / deepV x ≤ 255) := by
  obtain ⟨f1, f2, f3, f4, f5, f6⟩ := at_facts h ht hh
  have k := deep_in h hh
  exact ⟨div_between ht (by omega) k.2, div_between (by omega) (by omega) (by omega), div_between (by omega) (by omega) (by omega)⟩
theorem at_z {e : Int} (h1 : 0 ≤ e) (h2 : e ≤ 8) : vsOK (out_plat []) (ex6 [0, 0, 0, 0, 0, e]) :=
  vsOK_cons (iv_def.2 (by simp)) (vsOK_cons (iv_def.2 (by simp)) (vsOK_cons (iv_def.2 (by simp)) (vsOK_cons (iv_def.2 (by simp)) (vsOK_cons (iv_def.2 (by simp)) (vsOK_cons ⟨h1, h2⟩ vsOK_nil)))))
theorem inf_plat : InfOK s_plat i_plat := ⟨fun _ h => h, fun vs xs h hp => by
  show vsOK (out_plat []) (ex6 (atL xs))
  have h8 : 0 ≤ (edgesL xs).getD 3 0 ∧ (edgesL xs).getD 3 0 ≤ 8 := (inf_edges.2 vs xs h hp).2 3
  unfold atL
  split
  · rename_i he
    obtain ⟨h1, h2, h3, _⟩ := edges_ok he
    split
    · rename_i hh
      obtain ⟨k1, k2, k3⟩ := at_between h1 h2 hh
      rw [pixB_true] at h3
      have h3' : 0 ≤ xs.getD 15 0 ∧ xs.getD 15 0 < 64 ∧ 0 ≤ xs.getD 16 0 ∧ xs.getD 16 0 < 64 := h3
      have w1 : 0 ≤ 8 * xs.getD 15 0 + 4 ∧ 8 * xs.getD 15 0 + 4 ≤ 511 := by omega
      have w2 : 0 ≤ 8 * xs.getD 16 0 + 4 ∧ 8 * xs.getD 16 0 + 4 ≤ 511 := by omega
      exact vsOK_cons w1 (vsOK_cons w2 (vsOK_cons ⟨by show 0 ≤ deepV xs / twiceV xs; omega, k1.2⟩ (vsOK_cons k2 (vsOK_cons k3 (vsOK_cons (iv_def.2 (by simp)) vsOK_nil)))))
    · exact at_z (by omega) (by omega)
  · exact at_z h8.1 h8.2⟩
theorem inf_rplat : InfOK s_rplat i_rplat := inf_plat
end Go.Proofs.Ytlgcjkolakcfiaa.fix
