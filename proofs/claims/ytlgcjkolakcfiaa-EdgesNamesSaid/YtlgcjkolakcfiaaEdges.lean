/-
  What the functions on pixels and sides come to.
-/
import Derived.Test.YtlgcjkolakcfiaaArea
set_option linter.unusedVariables false
set_option linter.unusedSimpArgs false
namespace Go.Proofs.Ytlgcjkolakcfiaa.fix
open Go.RowKit Go.Sx

theorem pixB_true {x : List Int} {o : Nat} : pixB x o = true ↔ (0 ≤ x.getD o 0 ∧ x.getD o 0 < 64 ∧ 0 ≤ x.getD (o + 1) 0 ∧ x.getD (o + 1) 0 < 64) := decide_eq_true_iff
def G_efront : List Sum := [s_area]
def I_efront : List Inf := [i_area]
def t_efront : TX := (.callp 0 [(.v 0), (.v 1), (.v 2), (.v 3), (.v 4), (.v 5), (.v 6), (.v 7), (.v 8), (.v 9), (.v 10), (.v 11), (.v 12), (.v 13), (.v 14)] (.ite (.and (.eq (.v 16) (.c 0)) (.le (.v 15) (.c 0))) (.ret [(.c 6)])
(.ret [(.v 16)])))
theorem tree_efront : merge (opt I_efront pin_efront (symFn Try.prog G_efront 1000 109 [An 15] [I1])) = t_efront := by kernel_rfl
theorem g_efront : Gok Try.prog G_efront := (one ok_area)
theorem o_efront : outsOK G_efront I_efront := (outsOK_cons inf_area outsOK_nil)
def G_refront : List Sum := [s_rall, s_twice]
def I_refront : List Inf := [i_rall, i_twice]
def t_refront : TX := (.callp 0 [(.v 0), (.v 1), (.v 2), (.v 3), (.v 4), (.v 5), (.v 6), (.v 7), (.v 8), (.v 9), (.v 10), (.v 11), (.v 12), (.v 13), (.v 14)] (.ite (.eq (.v 15) (.c 0)) (.ret [(.c 8)])
(.call 1 [(.v 0), (.v 1), (.v 2), (.v 3), (.v 4), (.v 5), (.v 6), (.v 7), (.v 8), (.v 9), (.v 10), (.v 11), (.v 12), (.v 13), (.v 14)] (.ite (.le (.v 16) (.c 0)) (.ret [(.c 6)])
(.ret [(.c 0)])))))
theorem tree_refront : merge (opt I_refront pin_refront (symFn Try.prog G_refront 1000 135 [An 15] [I1])) = t_refront := by kernel_rfl
theorem g_refront : Gok Try.prog G_refront := (more ok_rall (one ok_twice))
theorem o_refront : outsOK G_refront I_refront := (outsOK_cons inf_rall (outsOK_cons inf_twice outsOK_nil))
theorem ok_efront : s_efront.ok Try.prog := Sum.ok_opt facts.mixed g_efront o_efront tree_efront rfl (fun _ => rfl) (by
  intro xs hx hp
  obtain ⟨a0, a1, a2, a3, a4, a5, a6, a7, a8, a9, a10, a11, a12, a13, a14, rfl⟩ := len15 hx
  simp only [t_efront, G_efront, s_area, TX.sat, XB.prop, X.den, List.map_cons, List.map_nil, List.getElem?_cons_zero, List.getElem?_cons_succ, List.cons_append, List.nil_append, List.getD_cons_zero, List.getD_cons_succ, mkS, mkP, and_true, true_and, Int.not_lt, Int.not_le, not_or, not_and, Classical.not_not, ne_eq, not_true_eq_false, not_false_eq_true, sem_area, areaL, sem_efront, efrontV]
  generalize twiceV _ = n
  clear hp hx
  cases triB _ with
  | true =>
    rcases Int.lt_or_le 0 n with hn | hn
    · have h1 : ¬ n ≤ 0 := by omega
      simp [hn, h1]
    · have h1 : ¬ 0 < n := by omega
      simp [hn, h1]
  | false => simp)
theorem ok_refront : s_refront.ok Try.prog := Sum.ok_opt facts.mixed g_refront o_refront tree_refront rfl (fun _ => rfl) (by
  intro xs hx hp
  obtain ⟨a0, a1, a2, a3, a4, a5, a6, a7, a8, a9, a10, a11, a12, a13, a14, rfl⟩ := len15 hx
  have hq := @tri_pin a0 a1 a2 a3 a4 a5 a6 a7 a8 a9 a10 a11 a12 a13 a14
  simp only [t_refront, G_refront, s_rall, s_twice, TX.sat, XB.prop, X.den, List.map_cons, List.map_nil, List.getElem?_cons_zero, List.getElem?_cons_succ, List.cons_append, List.nil_append, List.getD_cons_zero, List.getD_cons_succ, mkS, mkP, and_true, true_and, Int.not_lt, Int.not_le, not_or, not_and, Classical.not_not, ne_eq, not_true_eq_false, not_false_eq_true, sem_rall, sem_twice, sem_refront, sem_efront, efrontV]
  generalize twiceV _ = n
  clear hp hx
  cases h : triB [a0, a1, a2, a3, a4, a5, a6, a7, a8, a9, a10, a11, a12, a13, a14] with
  | true =>
    have hq' := hq h
    rcases Int.lt_or_le 0 n with hn | hn
    · have h1 : ¬ n ≤ 0 := by omega
      simp [hn, h1, hq', b01]
    · have h1 : ¬ 0 < n := by omega
      simp [hn, h1, hq', b01]
  | false => simp [b01])
theorem inf_efront : InfOK s_efront i_efront := ⟨fun _ h => h, fun vs xs h hp => vsOK_cons (iv_def.2 (by unfold efrontV; split; split <;> simp; simp)) vsOK_nil⟩
theorem inf_refront : InfOK s_refront i_refront := inf_efront

def G_weight : List Sum := []
def I_weight : List Inf := []
def t_weight : TX := (.ret [(.sub (.mul (.sub (.v 5) (.v 0)) (.sub (.add (.mul (.c 8) (.v 11)) (.c 4)) (.v 1))) (.mul (.sub (.add (.mul (.c 8) (.v 10)) (.c 4)) (.v 0)) (.sub (.v 6) (.v 1))))])
theorem tree_weight : merge (opt I_weight pin_weight (symFn Try.prog G_weight 1000 143 [An 5, An 5, I1, I1] [I1])) = t_weight := by kernel_rfl
theorem g_weight : Gok Try.prog G_weight := noG
theorem o_weight : outsOK G_weight I_weight := outsOK_nil
theorem ok_weight : s_weight.ok Try.prog := Sum.ok_opt facts.mixed g_weight o_weight tree_weight rfl (fun _ => rfl) (by
  intro xs hx hp
  obtain ⟨a0, a1, a2, a3, a4, a5, a6, a7, a8, a9, a10, a11, rfl⟩ := len12 hx
  simp only [t_weight, G_weight, TX.sat, XB.prop, X.den, List.map_cons, List.map_nil, List.getElem?_cons_zero, List.getElem?_cons_succ, List.cons_append, List.nil_append, List.getD_cons_zero, List.getD_cons_succ, mkS, mkP, and_true, true_and, Int.not_lt, Int.not_le, not_or, not_and, Classical.not_not, ne_eq, not_true_eq_false, not_false_eq_true, wgt, sem_weight, ex3, ex4, ex5, ex6, ex13, ex16, er, b01, dec_true, if_true, if_false, reduceIte, Bool.false_eq_true, Nat.reduceAdd, Nat.zero_add]
  repeat' first | exact trivial | refine And.intro ?_ ?_ | intro _
  all_goals first | trivial | rfl | omega | (simp [Int.max_comm, Int.min_comm]; done) | (simp only [List.cons.injEq, and_true, true_and]; omega) | (split <;> first | trivial | rfl | omega))
theorem wgt_in {x : List Int} {a b p : Nat} (ha : spotB x a = true) (hb : spotB x b = true) (hp : pixB x p = true) : -137438953472 ≤ wgt x a b p ∧ wgt x a b p ≤ 137438953472 := by
  rw [spotB_true] at ha hb
  rw [pixB_true] at hp
  have k1 := mul_abs_le (x := x.getD b 0 - x.getD a 0) (y := 8 * x.getD (p + 1) 0 + 4 - x.getD (a + 1) 0) (m := 262144) (n := 262144) (by omega) (by omega)
  have k2 := mul_abs_le (x := 8 * x.getD p 0 + 4 - x.getD a 0) (y := x.getD (b + 1) 0 - x.getD (a + 1) 0) (m := 262144) (n := 262144) (by omega) (by omega)
  unfold wgt
  omega
theorem inf_weight : InfOK s_weight i_weight := ⟨fun _ h => h, fun vs xs h hp => by
  have g : ∀ i, ivHas (pin_weight.getD i none) (xs.getD i 0) := hp.2
  have g0 : -131072 ≤ xs.getD 0 0 ∧ xs.getD 0 0 ≤ 131072 := g 0
  have g1 : -131072 ≤ xs.getD 1 0 ∧ xs.getD 1 0 ≤ 131072 := g 1
  have g5 : -131072 ≤ xs.getD 5 0 ∧ xs.getD 5 0 ≤ 131072 := g 5
  have g6 : -131072 ≤ xs.getD 6 0 ∧ xs.getD 6 0 ≤ 131072 := g 6
  have g10 : 0 ≤ xs.getD 10 0 ∧ xs.getD 10 0 ≤ 63 := g 10
  have g11 : 0 ≤ xs.getD 11 0 ∧ xs.getD 11 0 ≤ 63 := g 11
  refine vsOK_cons (iv_def.2 (wgt_in ?_ ?_ ?_)) vsOK_nil
  · rw [spotB_true]; exact ⟨g 0, g 1, g 2, g 3, g 4⟩
  · rw [spotB_true]; exact ⟨g 5, g 6, g 7, g 8, g 9⟩
  · rw [pixB_true]; show 0 ≤ xs.getD 10 0 ∧ xs.getD 10 0 < 64 ∧ 0 ≤ xs.getD 11 0 ∧ xs.getD 11 0 < 64; omega⟩
def G_weights : List Sum := [s_weight]
def I_weights : List Inf := [i_weight]
def t_weights : TX := (.callp 0 [(.v 5), (.v 6), (.v 7), (.v 8), (.v 9), (.v 10), (.v 11), (.v 12), (.v 13), (.v 14), (.v 15), (.v 16)] (.callp 0 [(.v 10), (.v 11), (.v 12), (.v 13), (.v 14), (.v 0), (.v 1), (.v 2), (.v 3), (.v 4), (.v 15), (.v 16)] (.callp 0 [(.v 0), (.v 1), (.v 2), (.v 3), (.v 4), (.v 5), (.v 6), (.v 7), (.v 8), (.v 9), (.v 15), (.v 16)] (.ret [(.v 17), (.v 18), (.v 19)]))))
theorem tree_weights : merge (opt I_weights pin_weights (symFn Try.prog G_weights 1000 137 [An 15, I1, I1] [An 3])) = t_weights := by kernel_rfl
theorem g_weights : Gok Try.prog G_weights := (one ok_weight)
theorem o_weights : outsOK G_weights I_weights := (outsOK_cons inf_weight outsOK_nil)
theorem ok_weights : s_weights.ok Try.prog := Sum.ok_opt facts.mixed g_weights o_weights tree_weights rfl (fun _ => rfl) (by
  intro xs hx hp
  obtain ⟨a0, a1, a2, a3, a4, a5, a6, a7, a8, a9, a10, a11, a12, a13, a14, a15, a16, rfl⟩ := len17 hx
  simp only [t_weights, G_weights, s_weight, TX.sat, XB.prop, X.den, List.map_cons, List.map_nil, List.getElem?_cons_zero, List.getElem?_cons_succ, List.cons_append, List.nil_append, List.getD_cons_zero, List.getD_cons_succ, mkS, mkP, and_true, true_and, Int.not_lt, Int.not_le, not_or, not_and, Classical.not_not, ne_eq, not_true_eq_false, not_false_eq_true, sem_weight, wgt, sem_weights, ex3, ex4, ex5, ex6, ex13, ex16, er, b01, dec_true, if_true, if_false, reduceIte, Bool.false_eq_true, Nat.reduceAdd, Nat.zero_add]
  repeat' first | exact trivial | refine And.intro ?_ ?_ | intro _
  all_goals first | trivial | rfl | omega | (simp [Int.max_comm, Int.min_comm]; done) | (simp only [List.cons.injEq, and_true, true_and]; omega) | (split <;> first | trivial | rfl | omega))
theorem pin_wgt_in {x : List Int} (h : vsOK pin_wgt x) : spotB x 0 = true ∧ spotB x 5 = true ∧ spotB x 10 = true ∧ pixB x 15 = true := by
  have g : ∀ i, ivHas (pin_wgt.getD i none) (x.getD i 0) := h.2
  have g15 : 0 ≤ x.getD 15 0 ∧ x.getD 15 0 ≤ 63 := g 15
  have g16 : 0 ≤ x.getD 16 0 ∧ x.getD 16 0 ≤ 63 := g 16
  refine ⟨?_, ?_, ?_, ?_⟩
  · rw [spotB_true]; exact ⟨g 0, g 1, g 2, g 3, g 4⟩
  · rw [spotB_true]; exact ⟨g 5, g 6, g 7, g 8, g 9⟩
  · rw [spotB_true]; exact ⟨g 10, g 11, g 12, g 13, g 14⟩
  · rw [pixB_true]; show 0 ≤ x.getD 15 0 ∧ x.getD 15 0 < 64 ∧ 0 ≤ x.getD 16 0 ∧ x.getD 16 0 < 64; omega
theorem wgt_pin {a0 a1 a2 a3 a4 a5 a6 a7 a8 a9 a10 a11 a12 a13 a14 a15 a16 : Int} (h : triB [a0, a1, a2, a3, a4, a5, a6, a7, a8, a9, a10, a11, a12, a13, a14, a15, a16] = true) (h' : pixB [a0, a1, a2, a3, a4, a5, a6, a7, a8, a9, a10, a11, a12, a13, a14, a15, a16] 15 = true) : vsOK pin_wgt [a0, a1, a2, a3, a4, a5, a6, a7, a8, a9, a10, a11, a12, a13, a14, a15, a16] := by
  rw [pixB_true] at h'
  have h'' : 0 ≤ a15 ∧ a15 < 64 ∧ 0 ≤ a16 ∧ a16 < 64 := h'
  have k1 : 0 ≤ a15 ∧ a15 ≤ 63 := by omega
  have k2 : 0 ≤ a16 ∧ a16 ≤ 63 := by omega
  exact vsOK_app (vs := pin_twice) (us := ivs 2 0 63) (x := [a15, a16]) (tri_pin h) (vsOK_cons k1 (vsOK_cons k2 vsOK_nil))
theorem inf_weights : InfOK s_weights i_weights := ⟨fun _ h => h, fun vs xs h hp => by
  obtain ⟨h0, h5, h10, h15⟩ := pin_wgt_in hp
  exact vsOK_cons (iv_def.2 (wgt_in h5 h10 h15)) (vsOK_cons (iv_def.2 (wgt_in h10 h0 h15)) (vsOK_cons (iv_def.2 (wgt_in h0 h5 h15)) vsOK_nil))⟩
def G_has : List Sum := [s_weights]
def I_has : List Inf := [i_weights]
def t_has : TX := (.callp 0 [(.v 0), (.v 1), (.v 2), (.v 3), (.v 4), (.v 5), (.v 6), (.v 7), (.v 8), (.v 9), (.v 10), (.v 11), (.v 12), (.v 13), (.v 14), (.v 15), (.v 16)] (.ite (.lt (.v 17) (.c 0)) (.ret [(.c 0)])
(.ite (.eq (.v 17) (.c 0)) (.ite (.or (.and (.le (.v 6) (.v 11)) (.or (.not (.eq (.v 11) (.v 6))) (.le (.v 10) (.v 5)))) (.lt (.v 18) (.c 0))) (.ret [(.c 0)])
(.ite (.eq (.v 18) (.c 0)) (.ite (.or (.and (.le (.v 11) (.v 1)) (.or (.not (.eq (.v 1) (.v 11))) (.le (.v 0) (.v 10)))) (.lt (.v 19) (.c 0))) (.ret [(.c 0)])
(.ite (.not (.eq (.v 19) (.c 0))) (.ret [(.c 1)])
(.ite (.and (.le (.v 1) (.v 6)) (.or (.not (.eq (.v 6) (.v 1))) (.le (.v 5) (.v 0)))) (.ret [(.c 0)])
(.ret [(.c 1)]))))
(.ite (.lt (.v 19) (.c 0)) (.ret [(.c 0)])
(.ite (.not (.eq (.v 19) (.c 0))) (.ret [(.c 1)])
(.ite (.and (.le (.v 1) (.v 6)) (.or (.not (.eq (.v 6) (.v 1))) (.le (.v 5) (.v 0)))) (.ret [(.c 0)])
(.ret [(.c 1)]))))))
(.ite (.lt (.v 18) (.c 0)) (.ret [(.c 0)])
(.ite (.eq (.v 18) (.c 0)) (.ite (.or (.and (.le (.v 11) (.v 1)) (.or (.not (.eq (.v 1) (.v 11))) (.le (.v 0) (.v 10)))) (.lt (.v 19) (.c 0))) (.ret [(.c 0)])
(.ite (.not (.eq (.v 19) (.c 0))) (.ret [(.c 1)])
(.ite (.and (.le (.v 1) (.v 6)) (.or (.not (.eq (.v 6) (.v 1))) (.le (.v 5) (.v 0)))) (.ret [(.c 0)])
(.ret [(.c 1)]))))
(.ite (.lt (.v 19) (.c 0)) (.ret [(.c 0)])
(.ite (.not (.eq (.v 19) (.c 0))) (.ret [(.c 1)])
(.ite (.and (.le (.v 1) (.v 6)) (.or (.not (.eq (.v 6) (.v 1))) (.le (.v 5) (.v 0)))) (.ret [(.c 0)])
(.ret [(.c 1)])))))))))
theorem tree_has : merge (opt I_has pin_has (symFn Try.prog G_has 1000 138 [An 15, I1, I1] [Bo])) = t_has := by kernel_rfl
theorem g_has : Gok Try.prog G_has := (one ok_weights)
theorem o_has : outsOK G_has I_has := (outsOK_cons inf_weights outsOK_nil)
theorem ok_has : s_has.ok Try.prog := Sum.ok_opt facts.mixed g_has o_has tree_has rfl (fun _ => rfl) (by
  intro xs hx hp
  obtain ⟨a0, a1, a2, a3, a4, a5, a6, a7, a8, a9, a10, a11, a12, a13, a14, a15, a16, rfl⟩ := len17 hx
  by_cases hc0 : hasB [a0, a1, a2, a3, a4, a5, a6, a7, a8, a9, a10, a11, a12, a13, a14, a15, a16] = true
  · have hd0 := hc0
    try simp only [hasB, sideB, ownsB, Bool.and_eq_true, dec_true, TX.sat, XB.prop, X.den, List.map_cons, List.map_nil, List.getElem?_cons_zero, List.getElem?_cons_succ, List.cons_append, List.nil_append, List.getD_cons_zero, List.getD_cons_succ, mkS, mkP, and_true, true_and, Int.not_lt, Int.not_le, not_or, not_and, Classical.not_not, ne_eq, not_true_eq_false, not_false_eq_true, Nat.reduceAdd, Nat.zero_add] at hd0
    simp only [t_has, G_has, s_weights, TX.sat, XB.prop, X.den, List.map_cons, List.map_nil, List.getElem?_cons_zero, List.getElem?_cons_succ, List.cons_append, List.nil_append, List.getD_cons_zero, List.getD_cons_succ, mkS, mkP, and_true, true_and, Int.not_lt, Int.not_le, not_or, not_and, Classical.not_not, ne_eq, not_true_eq_false, not_false_eq_true, sem_weights, sem_has, hc0, ex3, ex4, ex5, ex6, ex13, ex16, er, b01, dec_true, if_true, if_false, reduceIte, Bool.false_eq_true, Nat.reduceAdd, Nat.zero_add]
    clear hc0
    repeat' first | exact trivial | refine And.intro ?_ ?_ | intro _
    all_goals first | trivial | rfl | omega | (simp [Int.max_comm, Int.min_comm]; done) | (simp only [List.cons.injEq, and_true, true_and]; omega) | (split <;> first | trivial | rfl | omega)
  · have hd0 := hc0
    try simp only [hasB, sideB, ownsB, Bool.and_eq_true, dec_true, TX.sat, XB.prop, X.den, List.map_cons, List.map_nil, List.getElem?_cons_zero, List.getElem?_cons_succ, List.cons_append, List.nil_append, List.getD_cons_zero, List.getD_cons_succ, mkS, mkP, and_true, true_and, Int.not_lt, Int.not_le, not_or, not_and, Classical.not_not, ne_eq, not_true_eq_false, not_false_eq_true, Nat.reduceAdd, Nat.zero_add] at hd0
    simp only [t_has, G_has, s_weights, TX.sat, XB.prop, X.den, List.map_cons, List.map_nil, List.getElem?_cons_zero, List.getElem?_cons_succ, List.cons_append, List.nil_append, List.getD_cons_zero, List.getD_cons_succ, mkS, mkP, and_true, true_and, Int.not_lt, Int.not_le, not_or, not_and, Classical.not_not, ne_eq, not_true_eq_false, not_false_eq_true, sem_weights, sem_has, hc0, ex3, ex4, ex5, ex6, ex13, ex16, er, b01, dec_true, if_true, if_false, reduceIte, Bool.false_eq_true, Nat.reduceAdd, Nat.zero_add]
    clear hc0
    repeat' first | exact trivial | refine And.intro ?_ ?_ | intro _
    all_goals first | trivial | rfl | omega | (simp [Int.max_comm, Int.min_comm]; done) | (simp only [List.cons.injEq, and_true, true_and]; omega) | (split <;> first | trivial | rfl | omega))
theorem inf_has : InfOK s_has i_has := ⟨fun _ h => h, fun vs xs h hp => vsOK_cons (b01_iv _) vsOK_nil⟩

def G_edges : List Sum := []
def I_edges : List Inf := []
def t_edges : TX := (.ite (.or (.or (.lt (.v 0) (.c (-131072))) (.lt (.c 131072) (.v 0))) (.or (.or (.lt (.v 1) (.c (-131072))) (.lt (.c 131072) (.v 1))) (.or (.or (.lt (.v 2) (.c 1)) (.lt (.c 65536) (.v 2))) (.or (.or (.lt (.v 3) (.c 0)) (.lt (.c 255) (.v 3))) (.or (.or (.lt (.v 4) (.c 0)) (.lt (.c 255) (.v 4))) (.or (.or (.lt (.v 5) (.c (-131072))) (.lt (.c 131072) (.v 5))) (.or (.or (.lt (.v 6) (.c (-131072))) (.lt (.c 131072) (.v 6))) (.or (.or (.lt (.v 7) (.c 1)) (.lt (.c 65536) (.v 7))) (.or (.or (.lt (.v 8) (.c 0)) (.lt (.c 255) (.v 8))) (.or (.or (.lt (.v 9) (.c 0)) (.lt (.c 255) (.v 9))) (.or (.or (.lt (.v 10) (.c (-131072))) (.lt (.c 131072) (.v 10))) (.or (.or (.lt (.v 11) (.c (-131072))) (.lt (.c 131072) (.v 11))) (.or (.or (.lt (.v 12) (.c 1)) (.lt (.c 65536) (.v 12))) (.or (.or (.lt (.v 13) (.c 0)) (.lt (.c 255) (.v 13))) (.or (.lt (.v 14) (.c 0)) (.lt (.c 255) (.v 14))))))))))))))))) (.ret [(.c 0), (.c 0), (.c 0), (.c 8)])
(.ite (.le (.sub (.mul (.sub (.v 5) (.v 0)) (.sub (.v 11) (.v 1))) (.mul (.sub (.v 10) (.v 0)) (.sub (.v 6) (.v 1)))) (.c 0)) (.ret [(.c 0), (.c 0), (.c 0), (.c 6)])
(.ite (.or (.lt (.mn (.v 15) (.v 16)) (.c 0)) (.le (.c 64) (.mx (.v 15) (.v 16)))) (.ret [(.c 0), (.c 0), (.c 0), (.c 2)])
(.ret [(.sub (.mul (.sub (.v 10) (.v 5)) (.sub (.add (.mul (.c 8) (.v 16)) (.c 4)) (.v 6))) (.mul (.sub (.add (.mul (.c 8) (.v 15)) (.c 4)) (.v 5)) (.sub (.v 11) (.v 6)))), (.sub (.mul (.sub (.v 0) (.v 10)) (.sub (.add (.mul (.c 8) (.v 16)) (.c 4)) (.v 11))) (.mul (.sub (.add (.mul (.c 8) (.v 15)) (.c 4)) (.v 10)) (.sub (.v 1) (.v 11)))), (.sub (.mul (.sub (.v 5) (.v 0)) (.sub (.add (.mul (.c 8) (.v 16)) (.c 4)) (.v 1))) (.mul (.sub (.add (.mul (.c 8) (.v 15)) (.c 4)) (.v 0)) (.sub (.v 6) (.v 1)))), (.c 0)]))))
theorem tree_edges : merge (opt I_edges pin_edges (symFn Try.prog G_edges 1000 47 [An 15, I1, I1] [An 3, I1])) = t_edges := by kernel_rfl
theorem g_edges : Gok Try.prog G_edges := noG
theorem o_edges : outsOK G_edges I_edges := outsOK_nil
def G_redges : List Sum := [s_refront, s_weights]
def I_redges : List Inf := [i_refront, i_weights]
def t_redges : TX := (.callp 0 [(.v 0), (.v 1), (.v 2), (.v 3), (.v 4), (.v 5), (.v 6), (.v 7), (.v 8), (.v 9), (.v 10), (.v 11), (.v 12), (.v 13), (.v 14)] (.ite (.eq (.v 17) (.c 0)) (.ite (.or (.or (.or (.lt (.v 15) (.c 0)) (.le (.c 64) (.v 15))) (.lt (.v 16) (.c 0))) (.le (.c 64) (.v 16))) (.ret [(.c 0), (.c 0), (.c 0), (.c 2)])
(.call 1 [(.v 0), (.v 1), (.v 2), (.v 3), (.v 4), (.v 5), (.v 6), (.v 7), (.v 8), (.v 9), (.v 10), (.v 11), (.v 12), (.v 13), (.v 14), (.v 15), (.v 16)] (.ret [(.v 18), (.v 19), (.v 20), (.c 0)])))
(.ite (.not (.eq (.v 17) (.c 0))) (.ret [(.c 0), (.c 0), (.c 0), (.v 17)])
(.call 1 [(.v 0), (.v 1), (.v 2), (.v 3), (.v 4), (.v 5), (.v 6), (.v 7), (.v 8), (.v 9), (.v 10), (.v 11), (.v 12), (.v 13), (.v 14), (.v 15), (.v 16)] (.ret [(.v 18), (.v 19), (.v 20), (.c 0)])))))
theorem tree_redges : merge (opt I_redges pin_redges (symFn Try.prog G_redges 1000 99 [An 15, I1, I1] [An 3, I1])) = t_redges := by kernel_rfl
theorem g_redges : Gok Try.prog G_redges := (more ok_refront (one ok_weights))
theorem o_redges : outsOK G_redges I_redges := (outsOK_cons inf_refront (outsOK_cons inf_weights outsOK_nil))
theorem ok_edges : s_edges.ok Try.prog := Sum.ok_opt facts.mixed g_edges o_edges tree_edges rfl (fun _ => rfl) (by
  intro xs hx hp
  obtain ⟨a0, a1, a2, a3, a4, a5, a6, a7, a8, a9, a10, a11, a12, a13, a14, a15, a16, rfl⟩ := len17 hx
  by_cases hc0 : triB [a0, a1, a2, a3, a4, a5, a6, a7, a8, a9, a10, a11, a12, a13, a14, a15, a16] = true
  · by_cases hc1 : 0 < (a5 - a0) * (a11 - a1) - (a10 - a0) * (a6 - a1)
    · by_cases hc2 : pixB [a0, a1, a2, a3, a4, a5, a6, a7, a8, a9, a10, a11, a12, a13, a14, a15, a16] 15 = true
      · have hd0 := hc0
        try simp only [triB, Bool.and_eq_true, spotB_true, pixB_true, TX.sat, XB.prop, X.den, List.map_cons, List.map_nil, List.getElem?_cons_zero, List.getElem?_cons_succ, List.cons_append, List.nil_append, List.getD_cons_zero, List.getD_cons_succ, mkS, mkP, and_true, true_and, Int.not_lt, Int.not_le, not_or, not_and, Classical.not_not, ne_eq, not_true_eq_false, not_false_eq_true, Nat.reduceAdd, Nat.zero_add] at hd0
        have hd1 := hc1
        try simp only [triB, Bool.and_eq_true, spotB_true, pixB_true, TX.sat, XB.prop, X.den, List.map_cons, List.map_nil, List.getElem?_cons_zero, List.getElem?_cons_succ, List.cons_append, List.nil_append, List.getD_cons_zero, List.getD_cons_succ, mkS, mkP, and_true, true_and, Int.not_lt, Int.not_le, not_or, not_and, Classical.not_not, ne_eq, not_true_eq_false, not_false_eq_true, Nat.reduceAdd, Nat.zero_add] at hd1
        have hd2 := hc2
        try simp only [triB, Bool.and_eq_true, spotB_true, pixB_true, TX.sat, XB.prop, X.den, List.map_cons, List.map_nil, List.getElem?_cons_zero, List.getElem?_cons_succ, List.cons_append, List.nil_append, List.getD_cons_zero, List.getD_cons_succ, mkS, mkP, and_true, true_and, Int.not_lt, Int.not_le, not_or, not_and, Classical.not_not, ne_eq, not_true_eq_false, not_false_eq_true, Nat.reduceAdd, Nat.zero_add] at hd2
        simp only [t_edges, G_edges, TX.sat, XB.prop, X.den, List.map_cons, List.map_nil, List.getElem?_cons_zero, List.getElem?_cons_succ, List.cons_append, List.nil_append, List.getD_cons_zero, List.getD_cons_succ, mkS, mkP, and_true, true_and, Int.not_lt, Int.not_le, not_or, not_and, Classical.not_not, ne_eq, not_true_eq_false, not_false_eq_true, efrontV, twiceV, wgt, sem_edges, edgesL, hc0, hc1, hc2, ex3, ex4, ex5, ex6, ex13, ex16, er, b01, dec_true, if_true, if_false, reduceIte, Bool.false_eq_true, Nat.reduceAdd, Nat.zero_add]
        clear hc0 hc1 hc2
        repeat' first | exact trivial | refine And.intro ?_ ?_ | intro _
        all_goals first | trivial | rfl | omega | (simp [Int.max_comm, Int.min_comm]; done) | (simp only [List.cons.injEq, and_true, true_and]; omega) | (split <;> first | trivial | rfl | omega)
      · have hd0 := hc0
        try simp only [triB, Bool.and_eq_true, spotB_true, pixB_true, TX.sat, XB.prop, X.den, List.map_cons, List.map_nil, List.getElem?_cons_zero, List.getElem?_cons_succ, List.cons_append, List.nil_append, List.getD_cons_zero, List.getD_cons_succ, mkS, mkP, and_true, true_and, Int.not_lt, Int.not_le, not_or, not_and, Classical.not_not, ne_eq, not_true_eq_false, not_false_eq_true, Nat.reduceAdd, Nat.zero_add] at hd0
        have hd1 := hc1
        try simp only [triB, Bool.and_eq_true, spotB_true, pixB_true, TX.sat, XB.prop, X.den, List.map_cons, List.map_nil, List.getElem?_cons_zero, List.getElem?_cons_succ, List.cons_append, List.nil_append, List.getD_cons_zero, List.getD_cons_succ, mkS, mkP, and_true, true_and, Int.not_lt, Int.not_le, not_or, not_and, Classical.not_not, ne_eq, not_true_eq_false, not_false_eq_true, Nat.reduceAdd, Nat.zero_add] at hd1
        have hd2 := hc2
        try simp only [triB, Bool.and_eq_true, spotB_true, pixB_true, TX.sat, XB.prop, X.den, List.map_cons, List.map_nil, List.getElem?_cons_zero, List.getElem?_cons_succ, List.cons_append, List.nil_append, List.getD_cons_zero, List.getD_cons_succ, mkS, mkP, and_true, true_and, Int.not_lt, Int.not_le, not_or, not_and, Classical.not_not, ne_eq, not_true_eq_false, not_false_eq_true, Nat.reduceAdd, Nat.zero_add] at hd2
        simp only [t_edges, G_edges, TX.sat, XB.prop, X.den, List.map_cons, List.map_nil, List.getElem?_cons_zero, List.getElem?_cons_succ, List.cons_append, List.nil_append, List.getD_cons_zero, List.getD_cons_succ, mkS, mkP, and_true, true_and, Int.not_lt, Int.not_le, not_or, not_and, Classical.not_not, ne_eq, not_true_eq_false, not_false_eq_true, efrontV, twiceV, wgt, sem_edges, edgesL, hc0, hc1, hc2, ex3, ex4, ex5, ex6, ex13, ex16, er, b01, dec_true, if_true, if_false, reduceIte, Bool.false_eq_true, Nat.reduceAdd, Nat.zero_add]
        clear hc0 hc1 hc2
        repeat' first | exact trivial | refine And.intro ?_ ?_ | intro _
        all_goals first | trivial | rfl | omega | (simp [Int.max_comm, Int.min_comm]; done) | (simp only [List.cons.injEq, and_true, true_and]; omega) | (split <;> first | trivial | rfl | omega)
    · have hd0 := hc0
      try simp only [triB, Bool.and_eq_true, spotB_true, pixB_true, TX.sat, XB.prop, X.den, List.map_cons, List.map_nil, List.getElem?_cons_zero, List.getElem?_cons_succ, List.cons_append, List.nil_append, List.getD_cons_zero, List.getD_cons_succ, mkS, mkP, and_true, true_and, Int.not_lt, Int.not_le, not_or, not_and, Classical.not_not, ne_eq, not_true_eq_false, not_false_eq_true, Nat.reduceAdd, Nat.zero_add] at hd0
      have hd1 := hc1
      try simp only [triB, Bool.and_eq_true, spotB_true, pixB_true, TX.sat, XB.prop, X.den, List.map_cons, List.map_nil, List.getElem?_cons_zero, List.getElem?_cons_succ, List.cons_append, List.nil_append, List.getD_cons_zero, List.getD_cons_succ, mkS, mkP, and_true, true_and, Int.not_lt, Int.not_le, not_or, not_and, Classical.not_not, ne_eq, not_true_eq_false, not_false_eq_true, Nat.reduceAdd, Nat.zero_add] at hd1
      simp only [t_edges, G_edges, TX.sat, XB.prop, X.den, List.map_cons, List.map_nil, List.getElem?_cons_zero, List.getElem?_cons_succ, List.cons_append, List.nil_append, List.getD_cons_zero, List.getD_cons_succ, mkS, mkP, and_true, true_and, Int.not_lt, Int.not_le, not_or, not_and, Classical.not_not, ne_eq, not_true_eq_false, not_false_eq_true, efrontV, twiceV, wgt, sem_edges, edgesL, hc0, hc1, ex3, ex4, ex5, ex6, ex13, ex16, er, b01, dec_true, if_true, if_false, reduceIte, Bool.false_eq_true, Nat.reduceAdd, Nat.zero_add]
      clear hc0 hc1
      repeat' first | exact trivial | refine And.intro ?_ ?_ | intro _
      all_goals first | trivial | rfl | omega | (simp [Int.max_comm, Int.min_comm]; done) | (simp only [List.cons.injEq, and_true, true_and]; omega) | (split <;> first | trivial | rfl | omega)
  · have hd0 := hc0
    try simp only [triB, Bool.and_eq_true, spotB_true, pixB_true, TX.sat, XB.prop, X.den, List.map_cons, List.map_nil, List.getElem?_cons_zero, List.getElem?_cons_succ, List.cons_append, List.nil_append, List.getD_cons_zero, List.getD_cons_succ, mkS, mkP, and_true, true_and, Int.not_lt, Int.not_le, not_or, not_and, Classical.not_not, ne_eq, not_true_eq_false, not_false_eq_true, Nat.reduceAdd, Nat.zero_add] at hd0
    simp only [t_edges, G_edges, TX.sat, XB.prop, X.den, List.map_cons, List.map_nil, List.getElem?_cons_zero, List.getElem?_cons_succ, List.cons_append, List.nil_append, List.getD_cons_zero, List.getD_cons_succ, mkS, mkP, and_true, true_and, Int.not_lt, Int.not_le, not_or, not_and, Classical.not_not, ne_eq, not_true_eq_false, not_false_eq_true, efrontV, twiceV, wgt, sem_edges, edgesL, hc0, ex3, ex4, ex5, ex6, ex13, ex16, er, b01, dec_true, if_true, if_false, reduceIte, Bool.false_eq_true, Nat.reduceAdd, Nat.zero_add]
    clear hc0
    repeat' first | exact trivial | refine And.intro ?_ ?_ | intro _
    all_goals first | trivial | rfl | omega | (simp [Int.max_comm, Int.min_comm]; done) | (simp only [List.cons.injEq, and_true, true_and]; omega) | (split <;> first | trivial | rfl | omega))
theorem efront_zero {x : List Int} (h : efrontV x = 0) : triB x = true ∧ 0 < twiceV x := by
  unfold efrontV at h
  split at h
  · split at h
    · rename_i h1 h2; exact ⟨h1, h2⟩
    · omega
  · omega
theorem edges_ok {x : List Int} (h : (edgesL x).getD 3 0 = 0) : triB x = true ∧ 0 < twiceV x ∧ pixB x 15 = true ∧ edgesL x = [wgt x 5 10 15, wgt x 10 0 15, wgt x 0 5 15, 0] := by
  unfold edgesL at h ⊢
  split at h
  · rename_i he
    rw [if_pos he]
    obtain ⟨h1, h2⟩ := efront_zero he
    split at h
    · rename_i hp
      rw [if_pos hp]
      exact ⟨h1, h2, hp, rfl⟩
    · simp at h
  · rename_i he
    exact absurd h he
theorem ok_redges : s_redges.ok Try.prog := Sum.ok_opt facts.mixed g_redges o_redges tree_redges rfl (fun _ => rfl) (by
  intro xs hx hp
  obtain ⟨a0, a1, a2, a3, a4, a5, a6, a7, a8, a9, a10, a11, a12, a13, a14, a15, a16, rfl⟩ := len17 hx
  have e1 : efrontV [a0, a1, a2, a3, a4, a5, a6, a7, a8, a9, a10, a11, a12, a13, a14] = efrontV [a0, a1, a2, a3, a4, a5, a6, a7, a8, a9, a10, a11, a12, a13, a14, a15, a16] := rfl
  have hq := @wgt_pin a0 a1 a2 a3 a4 a5 a6 a7 a8 a9 a10 a11 a12 a13 a14 a15 a16
  have ht := @efront_zero [a0, a1, a2, a3, a4, a5, a6, a7, a8, a9, a10, a11, a12, a13, a14, a15, a16]
  have hx' := @pixB_true [a0, a1, a2, a3, a4, a5, a6, a7, a8, a9, a10, a11, a12, a13, a14, a15, a16] 15
  simp only [TX.sat, XB.prop, X.den, List.map_cons, List.map_nil, List.getElem?_cons_zero, List.getElem?_cons_succ, List.cons_append, List.nil_append, List.getD_cons_zero, List.getD_cons_succ, mkS, mkP, and_true, true_and, Int.not_lt, Int.not_le, not_or, not_and, Classical.not_not, ne_eq, not_true_eq_false, not_false_eq_true, Nat.reduceAdd] at hx'
  simp only [t_redges, G_redges, s_refront, s_weights, TX.sat, XB.prop, X.den, List.map_cons, List.map_nil, List.getElem?_cons_zero, List.getElem?_cons_succ, List.cons_append, List.nil_append, List.getD_cons_zero, List.getD_cons_succ, mkS, mkP, and_true, true_and, Int.not_lt, Int.not_le, not_or, not_and, Classical.not_not, ne_eq, not_true_eq_false, not_false_eq_true, sem_refront, sem_efront, sem_weights, sem_redges, sem_edges, edgesL, e1]
  clear hp hx e1
  by_cases he : efrontV [a0, a1, a2, a3, a4, a5, a6, a7, a8, a9, a10, a11, a12, a13, a14, a15, a16] = 0
  · have ht' := ht he
    by_cases hpx : pixB [a0, a1, a2, a3, a4, a5, a6, a7, a8, a9, a10, a11, a12, a13, a14, a15, a16] 15 = true
    · have hq' := hq ht'.1 hpx
      rw [hx'] at hpx
      simp only [he, if_true, reduceIte, hx', hpx, and_self, ex4, TX.sat, XB.prop, X.den, List.map_cons, List.map_nil, List.getElem?_cons_zero, List.getElem?_cons_succ, List.cons_append, List.nil_append, List.getD_cons_zero, List.getD_cons_succ, mkS, mkP, and_true, true_and, Int.not_lt, Int.not_le, not_or, not_and, Classical.not_not, ne_eq, not_true_eq_false, not_false_eq_true]
      refine ⟨fun _ => ⟨fun h => ?_, fun _ => hq'⟩, fun h => ?_⟩
      · omega
      · exact h.elim
    · rw [hx'] at hpx
      simp only [he, if_true, reduceIte, hx', hpx, ex4, TX.sat, XB.prop, X.den, List.map_cons, List.map_nil, List.getElem?_cons_zero, List.getElem?_cons_succ, List.cons_append, List.nil_append, List.getD_cons_zero, List.getD_cons_succ, mkS, mkP, and_true, true_and, Int.not_lt, Int.not_le, not_or, not_and, Classical.not_not, ne_eq, not_true_eq_false, not_false_eq_true, if_false]
      refine ⟨fun _ => ⟨fun h => trivial, fun h => ?_⟩, fun h => ?_⟩
      · omega
      · exact h.elim
  · simp only [he, if_false, reduceIte, ex4, TX.sat, XB.prop, X.den, List.map_cons, List.map_nil, List.getElem?_cons_zero, List.getElem?_cons_succ, List.cons_append, List.nil_append, List.getD_cons_zero, List.getD_cons_succ, mkS, mkP, and_true, true_and, Int.not_lt, Int.not_le, not_or, not_and, Classical.not_not, ne_eq, not_true_eq_false, not_false_eq_true]
    simp)
theorem inf_edges : InfOK s_edges i_edges := ⟨fun _ h => h, fun vs xs h hp => by
  show vsOK (ivs 3 (-137438953472) 137438953472 ++ [iv 0 8]) (ex4 (edgesL xs))
  unfold edgesL
  split
  · rename_i he
    obtain ⟨h1, h2⟩ := efront_zero he
    split
    · rename_i hpx
      simp only [triB, Bool.and_eq_true] at h1
      exact vsOK_cons (iv_def.2 (wgt_in h1.2.1 h1.2.2 hpx)) (vsOK_cons (iv_def.2 (wgt_in h1.2.2 h1.1 hpx)) (vsOK_cons (iv_def.2 (wgt_in h1.1 h1.2.1 hpx)) (vsOK_cons (iv_def.2 (by simp)) vsOK_nil)))
    · exact vsOK_cons (iv_def.2 (by simp)) (vsOK_cons (iv_def.2 (by simp)) (vsOK_cons (iv_def.2 (by simp)) (vsOK_cons (iv_def.2 (by simp)) vsOK_nil)))
  · have h8 : 0 ≤ efrontV xs ∧ efrontV xs ≤ 8 := by unfold efrontV; split; split <;> simp; simp
    exact vsOK_cons (iv_def.2 (by simp)) (vsOK_cons (iv_def.2 (by simp)) (vsOK_cons (iv_def.2 (by simp)) (vsOK_cons h8 vsOK_nil)))⟩
theorem inf_redges : InfOK s_redges i_redges := inf_edges

def G_covers : List Sum := [s_edges]
def I_covers : List Inf := [i_edges]
def t_covers : TX := (.callp 0 [(.v 0), (.v 1), (.v 2), (.v 3), (.v 4), (.v 5), (.v 6), (.v 7), (.v 8), (.v 9), (.v 10), (.v 11), (.v 12), (.v 13), (.v 14), (.v 15), (.v 16)] (.ite (.not (.eq (.v 20) (.c 0))) (.ret [(.c 0), (.v 20)])
(.ite (.or (.or (.lt (.v 17) (.c 0)) (.and (.eq (.v 17) (.c 0)) (.and (.le (.v 6) (.v 11)) (.or (.not (.eq (.v 11) (.v 6))) (.le (.v 10) (.v 5)))))) (.or (.or (.lt (.v 18) (.c 0)) (.and (.eq (.v 18) (.c 0)) (.and (.le (.v 11) (.v 1)) (.or (.not (.eq (.v 1) (.v 11))) (.le (.v 0) (.v 10)))))) (.or (.lt (.v 19) (.c 0)) (.and (.eq (.v 19) (.c 0)) (.and (.le (.v 1) (.v 6)) (.or (.not (.eq (.v 6) (.v 1))) (.le (.v 5) (.v 0)))))))) (.ret [(.c 0), (.c 0)])
(.ret [(.c 1), (.c 0)]))))
theorem tree_covers : merge (opt I_covers pin_covers (symFn Try.prog G_covers 1000 48 [An 15, I1, I1] [Bo, I1])) = t_covers := by kernel_rfl
theorem g_covers : Gok Try.prog G_covers := (one ok_edges)
theorem o_covers : outsOK G_covers I_covers := (outsOK_cons inf_edges outsOK_nil)
def G_rcovers : List Sum := [s_redges, s_has]
def I_rcovers : List Inf := [i_redges, i_has]
def t_rcovers : TX := (.callp 0 [(.v 0), (.v 1), (.v 2), (.v 3), (.v 4), (.v 5), (.v 6), (.v 7), (.v 8), (.v 9), (.v 10), (.v 11), (.v 12), (.v 13), (.v 14), (.v 15), (.v 16)] (.ite (.not (.eq (.v 20) (.c 0))) (.ret [(.c 0), (.v 20)])
(.call 1 [(.v 0), (.v 1), (.v 2), (.v 3), (.v 4), (.v 5), (.v 6), (.v 7), (.v 8), (.v 9), (.v 10), (.v 11), (.v 12), (.v 13), (.v 14), (.v 15), (.v 16)] (.ite (.nz (.v 21)) (.ret [(.c 1), (.c 0)])
(.ret [(.c 0), (.c 0)])))))
theorem tree_rcovers : merge (opt I_rcovers pin_rcovers (symFn Try.prog G_rcovers 1000 100 [An 15, I1, I1] [Bo, I1])) = t_rcovers := by kernel_rfl
theorem g_rcovers : Gok Try.prog G_rcovers := (more ok_redges (one ok_has))
theorem o_rcovers : outsOK G_rcovers I_rcovers := (outsOK_cons inf_redges (outsOK_cons inf_has outsOK_nil))
theorem hasB_iff {x : List Int} : hasB x = true ↔ (0 < wgt x 5 10 15 ∨ (wgt x 5 10 15 = 0 ∧ (x.getD 11 0 < x.getD 6 0 ∨ (x.getD 11 0 = x.getD 6 0 ∧ x.getD 5 0 < x.getD 10 0)))) ∧
    (0 < wgt x 10 0 15 ∨ (wgt x 10 0 15 = 0 ∧ (x.getD 1 0 < x.getD 11 0 ∨ (x.getD 1 0 = x.getD 11 0 ∧ x.getD 10 0 < x.getD 0 0)))) ∧
    (0 < wgt x 0 5 15 ∨ (wgt x 0 5 15 = 0 ∧ (x.getD 6 0 < x.getD 1 0 ∨ (x.getD 6 0 = x.getD 1 0 ∧ x.getD 0 0 < x.getD 5 0)))) := by
  simp only [hasB, sideB, ownsB, Bool.and_eq_true, dec_true, Nat.reduceAdd, Nat.zero_add]
theorem ok_covers : s_covers.ok Try.prog := Sum.ok_opt facts.mixed g_covers o_covers tree_covers rfl (fun _ => rfl) (by
  intro xs hx hp
  obtain ⟨a0, a1, a2, a3, a4, a5, a6, a7, a8, a9, a10, a11, a12, a13, a14, a15, a16, rfl⟩ := len17 hx
  have hE := @edges_ok [a0, a1, a2, a3, a4, a5, a6, a7, a8, a9, a10, a11, a12, a13, a14, a15, a16]
  have hh := @hasB_iff [a0, a1, a2, a3, a4, a5, a6, a7, a8, a9, a10, a11, a12, a13, a14, a15, a16]
  simp only [TX.sat, XB.prop, X.den, List.map_cons, List.map_nil, List.getElem?_cons_zero, List.getElem?_cons_succ, List.cons_append, List.nil_append, List.getD_cons_zero, List.getD_cons_succ, mkS, mkP, and_true, true_and, Int.not_lt, Int.not_le, not_or, not_and, Classical.not_not, ne_eq, not_true_eq_false, not_false_eq_true] at hh
  simp only [t_covers, G_covers, s_edges, TX.sat, XB.prop, X.den, List.map_cons, List.map_nil, List.getElem?_cons_zero, List.getElem?_cons_succ, List.cons_append, List.nil_append, List.getD_cons_zero, List.getD_cons_succ, mkS, mkP, and_true, true_and, Int.not_lt, Int.not_le, not_or, not_and, Classical.not_not, ne_eq, not_true_eq_false, not_false_eq_true, sem_edges, sem_covers, coversL, ex4]
  clear hp hx
  by_cases he : (edgesL [a0, a1, a2, a3, a4, a5, a6, a7, a8, a9, a10, a11, a12, a13, a14, a15, a16]).getD 3 0 = 0
  · obtain ⟨_, _, _, hv⟩ := hE he
    rw [hv]
    simp only [TX.sat, XB.prop, X.den, List.map_cons, List.map_nil, List.getElem?_cons_zero, List.getElem?_cons_succ, List.cons_append, List.nil_append, List.getD_cons_zero, List.getD_cons_succ, mkS, mkP, and_true, true_and, Int.not_lt, Int.not_le, not_or, not_and, Classical.not_not, ne_eq, not_true_eq_false, not_false_eq_true, if_true, reduceIte]
    generalize wgt _ 5 10 15 = w0 at *
    generalize wgt _ 10 0 15 = w1 at *
    generalize wgt _ 0 5 15 = w2 at *
    refine ⟨fun h => h.elim, fun _ => ⟨fun h => ?_, fun h => ?_⟩⟩
    · have : hasB [a0, a1, a2, a3, a4, a5, a6, a7, a8, a9, a10, a11, a12, a13, a14, a15, a16] = false := by
        rw [← Bool.not_eq_true, hh]; omega
      rw [this]; rfl
    · have : hasB [a0, a1, a2, a3, a4, a5, a6, a7, a8, a9, a10, a11, a12, a13, a14, a15, a16] = true := by
        rw [hh]; omega
      rw [this]; rfl
  · rw [if_neg he]
    exact ⟨fun _ => rfl, fun h => absurd h he⟩)
theorem ok_rcovers : s_rcovers.ok Try.prog := Sum.ok_opt facts.mixed g_rcovers o_rcovers tree_rcovers rfl (fun _ => rfl) (by
  intro xs hx hp
  obtain ⟨a0, a1, a2, a3, a4, a5, a6, a7, a8, a9, a10, a11, a12, a13, a14, a15, a16, rfl⟩ := len17 hx
  have hE := @edges_ok [a0, a1, a2, a3, a4, a5, a6, a7, a8, a9, a10, a11, a12, a13, a14, a15, a16]
  have hq := @wgt_pin a0 a1 a2 a3 a4 a5 a6 a7 a8 a9 a10 a11 a12 a13 a14 a15 a16
  simp only [t_rcovers, G_rcovers, s_redges, s_has, TX.sat, XB.prop, X.den, List.map_cons, List.map_nil, List.getElem?_cons_zero, List.getElem?_cons_succ, List.cons_append, List.nil_append, List.getD_cons_zero, List.getD_cons_succ, mkS, mkP, and_true, true_and, Int.not_lt, Int.not_le, not_or, not_and, Classical.not_not, ne_eq, not_true_eq_false, not_false_eq_true, sem_redges, sem_edges, sem_has, sem_rcovers, sem_covers, coversL, ex4]
  clear hp hx
  by_cases he : (edgesL [a0, a1, a2, a3, a4, a5, a6, a7, a8, a9, a10, a11, a12, a13, a14, a15, a16]).getD 3 0 = 0
  · obtain ⟨h1, _, h3, hv⟩ := hE he
    have hq' : vsOK pin_has [a0, a1, a2, a3, a4, a5, a6, a7, a8, a9, a10, a11, a12, a13, a14, a15, a16] := hq h1 h3
    rw [hv]
    simp only [TX.sat, XB.prop, X.den, List.map_cons, List.map_nil, List.getElem?_cons_zero, List.getElem?_cons_succ, List.cons_append, List.nil_append, List.getD_cons_zero, List.getD_cons_succ, mkS, mkP, and_true, true_and, Int.not_lt, Int.not_le, not_or, not_and, Classical.not_not, ne_eq, not_true_eq_false, not_false_eq_true, if_true, reduceIte]
    clear he hv hE hq
    generalize hasB _ = b at *
    cases b <;> simp [hq', b01]
  · rw [if_neg he]
    exact ⟨fun _ => rfl, fun h => absurd h he⟩)
theorem inf_covers : InfOK s_covers i_covers := ⟨fun _ h => h, fun vs xs h hp => by
  show vsOK [iv 0 1, iv 0 8] [(coversL xs).getD 0 0, (coversL xs).getD 1 0]
  have h8 := (inf_edges.2 vs xs h hp).2 3
  unfold coversL
  split
  · exact vsOK_cons (b01_iv _) (vsOK_cons (iv_def.2 (by simp)) vsOK_nil)
  · exact vsOK_cons (iv_def.2 (by simp)) (vsOK_cons h8 vsOK_nil)⟩
theorem inf_rcovers : InfOK s_rcovers i_rcovers := inf_covers
end Go.Proofs.Ytlgcjkolakcfiaa.fix
