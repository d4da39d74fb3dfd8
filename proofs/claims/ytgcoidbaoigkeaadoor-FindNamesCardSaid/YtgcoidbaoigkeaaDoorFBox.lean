/-
  What boxes come to.
-/
import Derived.Test.YtgcoidbaoigkeaaDoorFBase
set_option linter.unusedVariables false
set_option linter.unusedSimpArgs false
namespace Go.Proofs.YtgcoidbaoigkeaaDoor.fix
open Go.RowKit Go.Sx

theorem boxB_true {x : List Int} {o : Nat} : boxB x o = true ↔ (((-32768 ≤ x.getD o 0 ∧ x.getD o 0 ≤ 32768) ∧ (-32768 ≤ x.getD (o + 1) 0 ∧ x.getD (o + 1) 0 ≤ 32768) ∧ (-32768 ≤ x.getD (o + 2) 0 ∧ x.getD (o + 2) 0 ≤ 32768)) ∧
    ((-32768 ≤ x.getD (o + 3) 0 ∧ x.getD (o + 3) 0 ≤ 32768) ∧ (-32768 ≤ x.getD (o + 4) 0 ∧ x.getD (o + 4) 0 ≤ 32768) ∧ (-32768 ≤ x.getD (o + 5) 0 ∧ x.getD (o + 5) 0 ≤ 32768)) ∧
    (x.getD o 0 ≤ x.getD (o + 3) 0 ∧ x.getD (o + 1) 0 ≤ x.getD (o + 4) 0 ∧ x.getD (o + 2) 0 ≤ x.getD (o + 5) 0)) := by
  simp only [boxB, Bool.and_eq_true, all3_true, dec_true, Nat.add_assoc, Nat.reduceAdd]
theorem small_not (xs : List Int) (h : vsOK [some ⟨1, 0⟩] xs) : False := by
  have h1 : 1 ≤ xs.getD 0 0 ∧ xs.getD 0 0 ≤ 0 := h.2 0
  omega

noncomputable def G_fscaleT : List Sum := []
def I_fscaleT : List Inf := []
def t_fscaleT : TX := (.ite (.or (.or (.lt (.v 0) (.c (-1099511627776))) (.lt (.c 1099511627776) (.v 1))) (.lt (.v 1) (.v 0))) (.ret [(.c 0), (.c 0), (.c 8)])
(.ite (.lt (.v 2) (.c 0)) (.ite (.or (.or (.lt (.mul (.v 2) (.v 1)) (.c (-1099511627776))) (.lt (.c 1099511627776) (.mul (.v 2) (.v 0)))) (.lt (.mul (.v 2) (.v 0)) (.mul (.v 2) (.v 1)))) (.ret [(.c 0), (.c 0), (.c 20)])
(.ret [(.mul (.v 2) (.v 1)), (.mul (.v 2) (.v 0)), (.c 0)]))
(.ite (.or (.or (.lt (.mul (.v 2) (.v 0)) (.c (-1099511627776))) (.lt (.c 1099511627776) (.mul (.v 2) (.v 1)))) (.lt (.mul (.v 2) (.v 1)) (.mul (.v 2) (.v 0)))) (.ret [(.c 0), (.c 0), (.c 20)])
(.ret [(.mul (.v 2) (.v 0)), (.mul (.v 2) (.v 1)), (.c 0)]))))
theorem tree_fscaleT : merge (optFL [] I_fscaleT [] pin_fscaleT (symFnL Tryd.prog noLp gl0 G_fscaleT 1000 51 [An 2, I1] [An 2, I1])) = t_fscaleT := by kernel_rfl
theorem g_fscaleT : Gok Tryd.prog G_fscaleT := noG
theorem o_fscaleT : outsOK G_fscaleT I_fscaleT := outsOK_nil
theorem ok_fscaleT : s_fscaleT.ok Tryd.prog := Sum.okPF (pin := pin_fscaleT) facts.mixed g_fscaleT o_fscaleT tree_fscaleT rfl (fun _ => rfl) (fun xs h => h.1) (by
  intro xs hx hp
  obtain ⟨a0, a1, a2, rfl⟩ := len3 hx
  obtain ⟨hp, hl⟩ := hp
  have k0 : -32768 ≤ a0 ∧ a0 ≤ 32768 := hp.2 0
  have k1 : -32768 ≤ a1 ∧ a1 ≤ 32768 := hp.2 1
  have k2 : -1024 ≤ a2 ∧ a2 ≤ 1024 := hp.2 2
  have hl : a0 ≤ a1 := hl
  have m0 := mul_abs_le (x := a2) (y := a0) k2 k0
  have m1 := mul_abs_le (x := a2) (y := a1) k2 k1
  have n0 : a2 < 0 → a2 * a1 ≤ a2 * a0 := fun h => Int.mul_le_mul_of_nonpos_left (by omega) hl
  have n1 : 0 ≤ a2 → a2 * a0 ≤ a2 * a1 := fun h => Int.mul_le_mul_of_nonneg_left hl h
  simp only [t_fscaleT, TX.sat, XB.prop, X.den, List.map_cons, List.map_nil, List.getElem?_cons_zero, List.getElem?_cons_succ, List.cons_append, List.nil_append, List.getD_cons_zero, List.getD_cons_succ, mkS, mkP, and_true, true_and, Int.not_lt, Int.not_le, not_or, not_and, Classical.not_not, ne_eq, not_true_eq_false, not_false_eq_true, sem_fscaleT, scB]
  clear hx hp
  generalize a2 * a0 = p at *
  generalize a2 * a1 = q at *
  refine ⟨fun h => absurd h (by omega), fun _ => ⟨fun h => ⟨fun h' => absurd h' (by omega), fun _ => ?_⟩, fun h => ⟨fun h' => absurd h' (by omega), fun _ => ?_⟩⟩⟩
  · have := n0 h
    rw [Int.min_eq_right this, Int.max_eq_left this]
  · have := n1 (by omega)
    rw [Int.min_eq_left this, Int.max_eq_right this])
theorem inf_fscaleT : InfOK s_fscaleT i_fscaleT := ⟨fun xs h => (small_not xs h).elim, fun vs xs h hp => by
    have k0 : -32768 ≤ xs.getD 0 0 ∧ xs.getD 0 0 ≤ 32768 := hp.1.2 0
    have k1 : -32768 ≤ xs.getD 1 0 ∧ xs.getD 1 0 ≤ 32768 := hp.1.2 1
    have k2 : -1024 ≤ xs.getD 2 0 ∧ xs.getD 2 0 ≤ 1024 := hp.1.2 2
    have m0 := mul_abs_le (x := xs.getD 2 0) (y := xs.getD 0 0) k2 k0
    have m1 := mul_abs_le (x := xs.getD 2 0) (y := xs.getD 1 0) k2 k1
    exact vsOK_cons (iv_def.2 (by omega)) (vsOK_cons (iv_def.2 (by omega)) (vsOK_cons (iv_def.2 (by omega)) vsOK_nil))⟩
noncomputable def G_faddT : List Sum := []
def I_faddT : List Inf := []
def t_faddT : TX := (.ite (.or (.or (.or (.lt (.v 0) (.c (-1099511627776))) (.lt (.c 1099511627776) (.v 1))) (.lt (.v 1) (.v 0))) (.or (.or (.lt (.v 2) (.c (-1099511627776))) (.lt (.c 1099511627776) (.v 3))) (.lt (.v 3) (.v 2)))) (.ret [(.c 0), (.c 0), (.c 8)])
(.ite (.or (.or (.lt (.add (.v 0) (.v 2)) (.c (-1099511627776))) (.lt (.c 1099511627776) (.add (.v 1) (.v 3)))) (.lt (.add (.v 1) (.v 3)) (.add (.v 0) (.v 2)))) (.ret [(.c 0), (.c 0), (.c 20)])
(.ret [(.add (.v 0) (.v 2)), (.add (.v 1) (.v 3)), (.c 0)])))
theorem tree_faddT : merge (optFL [] I_faddT [] pin_faddT (symFnL Tryd.prog noLp gl0 G_faddT 1000 52 [An 2, An 2] [An 2, I1])) = t_faddT := by kernel_rfl
theorem g_faddT : Gok Tryd.prog G_faddT := noG
theorem o_faddT : outsOK G_faddT I_faddT := outsOK_nil
theorem ok_faddT : s_faddT.ok Tryd.prog := Sum.okPF (pin := pin_faddT) facts.mixed g_faddT o_faddT tree_faddT rfl (fun _ => rfl) (fun xs h => h.1) (by
  intro xs hx hp
  obtain ⟨a0, a1, a2, a3, rfl⟩ := len4 hx
  obtain ⟨hp, hl⟩ := hp
  have k0 : -1073741824 ≤ a0 ∧ a0 ≤ 1073741824 := hp.2 0
  have k1 : -1073741824 ≤ a1 ∧ a1 ≤ 1073741824 := hp.2 1
  have k2 : -1073741824 ≤ a2 ∧ a2 ≤ 1073741824 := hp.2 2
  have k3 : -1073741824 ≤ a3 ∧ a3 ≤ 1073741824 := hp.2 3
  have hl : a0 ≤ a1 ∧ a2 ≤ a3 := hl
  simp only [t_faddT, TX.sat, XB.prop, X.den, List.map_cons, List.map_nil, List.getElem?_cons_zero, List.getElem?_cons_succ, List.cons_append, List.nil_append, List.getD_cons_zero, List.getD_cons_succ, mkS, mkP, and_true, true_and, Int.not_lt, Int.not_le, not_or, not_and, Classical.not_not, ne_eq, not_true_eq_false, not_false_eq_true, sem_faddT]
  exact ⟨fun h => absurd h (by omega), fun _ => ⟨fun h' => absurd h' (by omega), fun _ => trivial⟩⟩)
theorem inf_faddT : InfOK s_faddT i_faddT := ⟨fun xs h => (small_not xs h).elim, fun vs xs h hp => by
    have k0 : -1073741824 ≤ xs.getD 0 0 ∧ xs.getD 0 0 ≤ 1073741824 := hp.1.2 0
    have k1 : -1073741824 ≤ xs.getD 1 0 ∧ xs.getD 1 0 ≤ 1073741824 := hp.1.2 1
    have k2 : -1073741824 ≤ xs.getD 2 0 ∧ xs.getD 2 0 ≤ 1073741824 := hp.1.2 2
    have k3 : -1073741824 ≤ xs.getD 3 0 ∧ xs.getD 3 0 ≤ 1073741824 := hp.1.2 3
    exact vsOK_cons (iv_def.2 (by omega)) (vsOK_cons (iv_def.2 (by omega)) (vsOK_cons (iv_def.2 (by omega)) vsOK_nil))⟩
noncomputable def G_fdivT : List Sum := [s_floor]
def I_fdivT : List Inf := [i_floor]
def t_fdivT : TX := (.ite (.or (.or (.lt (.v 0) (.c (-1099511627776))) (.lt (.c 1099511627776) (.v 1))) (.lt (.v 1) (.v 0))) (.ret [(.c 0), (.c 0), (.c 8)])
(.callp 0 [(.v 0), (.v 2)] (.callp 0 [(.v 1), (.v 2)] (.ret [(.v 3), (.v 5), (.c 0)]))))
theorem tree_fdivT : merge (optFL [] I_fdivT [] pin_fdivT (symFnL Tryd.prog noLp gl0 G_fdivT 1000 53 [An 2, I1] [An 2, I1])) = t_fdivT := by kernel_rfl
theorem g_fdivT : Gok Tryd.prog G_fdivT := (fix.one ok_floor)
theorem o_fdivT : outsOK G_fdivT I_fdivT := (outsOK_cons inf_floor outsOK_nil)
theorem ok_fdivT : s_fdivT.ok Tryd.prog := Sum.okPF (pin := pin_fdivT) facts.mixed g_fdivT o_fdivT tree_fdivT rfl (fun _ => rfl) (fun xs h => h.1) (by
  intro xs hx hp
  obtain ⟨a0, a1, a2, rfl⟩ := len3 hx
  obtain ⟨hp, hl⟩ := hp
  have k0 : -1073741824 ≤ a0 ∧ a0 ≤ 1073741824 := hp.2 0
  have k1 : -1073741824 ≤ a1 ∧ a1 ≤ 1073741824 := hp.2 1
  have k2 : 256 ≤ a2 ∧ a2 ≤ 256 := hp.2 2
  have hl : a0 ≤ a1 := hl
  obtain rfl : a2 = 256 := by omega
  simp only [t_fdivT, G_fdivT, s_floor, TX.sat, XB.prop, X.den, List.map_cons, List.map_nil, List.getElem?_cons_zero, List.getElem?_cons_succ, List.cons_append, List.nil_append, List.getD_cons_zero, List.getD_cons_succ, mkS, mkP, and_true, true_and, Int.not_lt, Int.not_le, not_or, not_and, Classical.not_not, ne_eq, not_true_eq_false, not_false_eq_true, sem_fdivT, sem_floor]
  exact ⟨fun h => absurd h (by omega), fun _ => trivial⟩)
theorem inf_fdivT : InfOK s_fdivT i_fdivT := ⟨fun xs h => (small_not xs h).elim, fun vs xs h hp => by
    have k0 : -1073741824 ≤ xs.getD 0 0 ∧ xs.getD 0 0 ≤ 1073741824 := hp.1.2 0
    have k1 : -1073741824 ≤ xs.getD 1 0 ∧ xs.getD 1 0 ≤ 1073741824 := hp.1.2 1
    exact vsOK_cons (iv_def.2 (by omega)) (vsOK_cons (iv_def.2 (by omega)) (vsOK_cons (iv_def.2 (by omega)) vsOK_nil))⟩

noncomputable def G_bcheck : List Sum := []
def I_bcheck : List Inf := []
def t_bcheck : TX := (.ite (.or (.or (.lt (.v 0) (.c (-32768))) (.lt (.c 32768) (.v 0))) (.or (.or (.lt (.v 3) (.c (-32768))) (.lt (.c 32768) (.v 3))) (.or (.lt (.v 3) (.v 0)) (.or (.or (.lt (.v 1) (.c (-32768))) (.lt (.c 32768) (.v 1))) (.or (.or (.lt (.v 4) (.c (-32768))) (.lt (.c 32768) (.v 4))) (.or (.lt (.v 4) (.v 1)) (.or (.or (.lt (.v 2) (.c (-32768))) (.lt (.c 32768) (.v 2))) (.or (.or (.lt (.v 5) (.c (-32768))) (.lt (.c 32768) (.v 5))) (.lt (.v 5) (.v 2)))))))))) (.ret [(.c 8)])
(.ret [(.c 0)]))
theorem tree_bcheck : merge (optFL [] I_bcheck [] pin_bcheck (symFnL Tryd.prog noLp gl0 G_bcheck 1000 31 [An 6] [I1])) = t_bcheck := by kernel_rfl
theorem g_bcheck : Gok Tryd.prog G_bcheck := noG
theorem o_bcheck : outsOK G_bcheck I_bcheck := outsOK_nil
theorem ok_bcheck : s_bcheck.ok Tryd.prog := Sum.okF facts.mixed g_bcheck o_bcheck tree_bcheck rfl (fun _ => rfl) (by
  intro xs hx hp
  obtain ⟨a0, a1, a2, a3, a4, a5, rfl⟩ := len6 hx
  by_cases hc0 : boxB [a0, a1, a2, a3, a4, a5] 0 = true
  · have hd0 := hc0
    try simp only [boxB_true, TX.sat, XB.prop, X.den, List.map_cons, List.map_nil, List.getElem?_cons_zero, List.getElem?_cons_succ, List.cons_append, List.nil_append, List.getD_cons_zero, List.getD_cons_succ, mkS, mkP, and_true, true_and, Int.not_lt, Int.not_le, not_or, not_and, Classical.not_not, ne_eq, not_true_eq_false, not_false_eq_true, Nat.reduceAdd, Nat.zero_add] at hd0
    simp only [t_bcheck, G_bcheck, TX.sat, XB.prop, X.den, List.map_cons, List.map_nil, List.getElem?_cons_zero, List.getElem?_cons_succ, List.cons_append, List.nil_append, List.getD_cons_zero, List.getD_cons_succ, mkS, mkP, and_true, true_and, Int.not_lt, Int.not_le, not_or, not_and, Classical.not_not, ne_eq, not_true_eq_false, not_false_eq_true, sem_bcheck, hc0, ex3, ex4, ex5, ex6, ex13, ex16, er, b01, dec_true, if_true, if_false, reduceIte, Bool.false_eq_true, Nat.reduceAdd, Nat.zero_add]
    clear hc0
    repeat' first | exact trivial | refine And.intro ?_ ?_ | intro _
    all_goals first | trivial | rfl | omega | (simp [Int.max_comm, Int.min_comm]; done) | (simp only [List.cons.injEq, and_true, true_and]; omega) | (split <;> first | trivial | rfl | omega)
  · have hd0 := hc0
    try simp only [boxB_true, TX.sat, XB.prop, X.den, List.map_cons, List.map_nil, List.getElem?_cons_zero, List.getElem?_cons_succ, List.cons_append, List.nil_append, List.getD_cons_zero, List.getD_cons_succ, mkS, mkP, and_true, true_and, Int.not_lt, Int.not_le, not_or, not_and, Classical.not_not, ne_eq, not_true_eq_false, not_false_eq_true, Nat.reduceAdd, Nat.zero_add] at hd0
    simp only [t_bcheck, G_bcheck, TX.sat, XB.prop, X.den, List.map_cons, List.map_nil, List.getElem?_cons_zero, List.getElem?_cons_succ, List.cons_append, List.nil_append, List.getD_cons_zero, List.getD_cons_succ, mkS, mkP, and_true, true_and, Int.not_lt, Int.not_le, not_or, not_and, Classical.not_not, ne_eq, not_true_eq_false, not_false_eq_true, sem_bcheck, hc0, ex3, ex4, ex5, ex6, ex13, ex16, er, b01, dec_true, if_true, if_false, reduceIte, Bool.false_eq_true, Nat.reduceAdd, Nat.zero_add]
    clear hc0
    repeat' first | exact trivial | refine And.intro ?_ ?_ | intro _
    all_goals first | trivial | rfl | omega | (simp [Int.max_comm, Int.min_comm]; done) | (simp only [List.cons.injEq, and_true, true_and]; omega) | (split <;> first | trivial | rfl | omega))
theorem inf_bcheck : InfOK s_bcheck i_bcheck := ⟨fun _ h => h, fun vs xs h hp => vsOK_cons (er_iv _ (by omega)) vsOK_nil⟩
theorem z7_vs {e : Int} (h : 0 ≤ e ∧ e ≤ 20) : vsOK (ivs 6 (-32768) 32768 ++ [iv 0 20]) (ex7 (z7 e)) :=
  vsOK_cons (iv_def.2 (by simp [z7])) (vsOK_cons (iv_def.2 (by simp [z7])) (vsOK_cons (iv_def.2 (by simp [z7])) (vsOK_cons (iv_def.2 (by simp [z7])) (vsOK_cons (iv_def.2 (by simp [z7])) (vsOK_cons (iv_def.2 (by simp [z7])) (vsOK_cons (iv_def.2 (by simp [z7, h])) vsOK_nil))))))
noncomputable def G_inside : List Sum := []
def I_inside : List Inf := []
def t_inside : TX := (.ite (.or (.lt (.v 0) (.v 6)) (.or (.lt (.v 9) (.v 3)) (.or (.lt (.v 1) (.v 7)) (.or (.lt (.v 10) (.v 4)) (.or (.lt (.v 2) (.v 8)) (.lt (.v 11) (.v 5))))))) (.ret [(.c 0)])
(.ret [(.c 1)]))
theorem tree_inside : merge (optFL [] I_inside [] pin_inside (symFnL Tryd.prog noLp gl0 G_inside 1000 32 [An 6, An 6] [Bo])) = t_inside := by kernel_rfl
theorem g_inside : Gok Tryd.prog G_inside := noG
theorem o_inside : outsOK G_inside I_inside := outsOK_nil
theorem ok_inside : s_inside.ok Tryd.prog := Sum.okF facts.mixed g_inside o_inside tree_inside rfl (fun _ => rfl) (by
  intro xs hx hp
  obtain ⟨a0, a1, a2, a3, a4, a5, a6, a7, a8, a9, a10, a11, rfl⟩ := len12 hx
  by_cases hc0 : insideB [a0, a1, a2, a3, a4, a5, a6, a7, a8, a9, a10, a11] = true
  · have hd0 := hc0
    try simp only [insideB, dec_true, TX.sat, XB.prop, X.den, List.map_cons, List.map_nil, List.getElem?_cons_zero, List.getElem?_cons_succ, List.cons_append, List.nil_append, List.getD_cons_zero, List.getD_cons_succ, mkS, mkP, and_true, true_and, Int.not_lt, Int.not_le, not_or, not_and, Classical.not_not, ne_eq, not_true_eq_false, not_false_eq_true, Nat.reduceAdd, Nat.zero_add] at hd0
    simp only [t_inside, G_inside, TX.sat, XB.prop, X.den, List.map_cons, List.map_nil, List.getElem?_cons_zero, List.getElem?_cons_succ, List.cons_append, List.nil_append, List.getD_cons_zero, List.getD_cons_succ, mkS, mkP, and_true, true_and, Int.not_lt, Int.not_le, not_or, not_and, Classical.not_not, ne_eq, not_true_eq_false, not_false_eq_true, sem_inside, hc0, ex3, ex4, ex5, ex6, ex13, ex16, er, b01, dec_true, if_true, if_false, reduceIte, Bool.false_eq_true, Nat.reduceAdd, Nat.zero_add]
    clear hc0
    repeat' first | exact trivial | refine And.intro ?_ ?_ | intro _
    all_goals first | trivial | rfl | omega | (simp [Int.max_comm, Int.min_comm]; done) | (simp only [List.cons.injEq, and_true, true_and]; omega) | (split <;> first | trivial | rfl | omega)
  · have hd0 := hc0
    try simp only [insideB, dec_true, TX.sat, XB.prop, X.den, List.map_cons, List.map_nil, List.getElem?_cons_zero, List.getElem?_cons_succ, List.cons_append, List.nil_append, List.getD_cons_zero, List.getD_cons_succ, mkS, mkP, and_true, true_and, Int.not_lt, Int.not_le, not_or, not_and, Classical.not_not, ne_eq, not_true_eq_false, not_false_eq_true, Nat.reduceAdd, Nat.zero_add] at hd0
    simp only [t_inside, G_inside, TX.sat, XB.prop, X.den, List.map_cons, List.map_nil, List.getElem?_cons_zero, List.getElem?_cons_succ, List.cons_append, List.nil_append, List.getD_cons_zero, List.getD_cons_succ, mkS, mkP, and_true, true_and, Int.not_lt, Int.not_le, not_or, not_and, Classical.not_not, ne_eq, not_true_eq_false, not_false_eq_true, sem_inside, hc0, ex3, ex4, ex5, ex6, ex13, ex16, er, b01, dec_true, if_true, if_false, reduceIte, Bool.false_eq_true, Nat.reduceAdd, Nat.zero_add]
    clear hc0
    repeat' first | exact trivial | refine And.intro ?_ ?_ | intro _
    all_goals first | trivial | rfl | omega | (simp [Int.max_comm, Int.min_comm]; done) | (simp only [List.cons.injEq, and_true, true_and]; omega) | (split <;> first | trivial | rfl | omega))
theorem inf_inside : InfOK s_inside i_inside := ⟨fun _ h => h, fun vs xs h hp => vsOK_cons (b01_iv _) vsOK_nil⟩
/-! ### turned -/
theorem rows_in {x : List Int} (h : rows9 1024 x 0 = true) : ((-1024 ≤ x.getD 0 0 ∧ x.getD 0 0 ≤ 1024) ∧ (-1024 ≤ x.getD 1 0 ∧ x.getD 1 0 ≤ 1024) ∧ (-1024 ≤ x.getD 2 0 ∧ x.getD 2 0 ≤ 1024)) ∧
    ((-1024 ≤ x.getD 3 0 ∧ x.getD 3 0 ≤ 1024) ∧ (-1024 ≤ x.getD 4 0 ∧ x.getD 4 0 ≤ 1024) ∧ (-1024 ≤ x.getD 5 0 ∧ x.getD 5 0 ≤ 1024)) ∧
    ((-1024 ≤ x.getD 6 0 ∧ x.getD 6 0 ≤ 1024) ∧ (-1024 ≤ x.getD 7 0 ∧ x.getD 7 0 ≤ 1024) ∧ (-1024 ≤ x.getD 8 0 ∧ x.getD 8 0 ≤ 1024)) := by
  simp only [rows9, Bool.and_eq_true, all3_true, Nat.reduceAdd, Nat.zero_add] at h
  exact h
theorem pre_sc {a b m : Int} (h1 : -32768 ≤ a) (h2 : b ≤ 32768) (h3 : a ≤ b) (h4 : -1024 ≤ m ∧ m ≤ 1024) : pre_fscaleT [a, b, m] :=
  ⟨vsOK_cons (iv_def.2 (by omega)) (vsOK_cons (iv_def.2 (by omega)) (vsOK_cons (iv_def.2 (by omega)) vsOK_nil)), h3⟩
theorem pre_ad {a b c d : Int} (h1 : -1073741824 ≤ a) (h2 : b ≤ 1073741824) (h3 : a ≤ b) (h4 : -1073741824 ≤ c) (h5 : d ≤ 1073741824) (h6 : c ≤ d) : pre_faddT [a, b, c, d] :=
  ⟨vsOK_cons (iv_def.2 (by omega)) (vsOK_cons (iv_def.2 (by omega)) (vsOK_cons (iv_def.2 (by omega)) (vsOK_cons (iv_def.2 (by omega)) vsOK_nil))), h3, h6⟩
theorem pre_di {a b : Int} (h1 : -1073741824 ≤ a) (h2 : b ≤ 1073741824) (h3 : a ≤ b) : pre_fdivT [a, b, 256] :=
  ⟨vsOK_cons (iv_def.2 (by omega)) (vsOK_cons (iv_def.2 (by omega)) (vsOK_cons (iv_def.2 (by omega)) vsOK_nil)), h3⟩
theorem prod_in {m a : Int} (h4 : -1024 ≤ m ∧ m ≤ 1024) (h : -32768 ≤ a ∧ a ≤ 32768) : -33554432 ≤ m * a ∧ m * a ≤ 33554432 := by
  have := mul_abs_le h4 h
  omega
noncomputable def G_bturned : List Sum := [s_bcheck, s_fscaleT, s_faddT, s_fdivT]
def I_bturned : List Inf := [i_bcheck, i_fscaleT, i_faddT, i_fdivT]
def t_bturned : TX := (.ite (.or (.or (.lt (.v 0) (.c (-1024))) (.lt (.c 1024) (.v 0))) (.or (.or (.lt (.v 1) (.c (-1024))) (.lt (.c 1024) (.v 1))) (.or (.or (.lt (.v 2) (.c (-1024))) (.lt (.c 1024) (.v 2))) (.or (.or (.lt (.v 3) (.c (-1024))) (.lt (.c 1024) (.v 3))) (.or (.or (.lt (.v 4) (.c (-1024))) (.lt (.c 1024) (.v 4))) (.or (.or (.lt (.v 5) (.c (-1024))) (.lt (.c 1024) (.v 5))) (.or (.or (.lt (.v 6) (.c (-1024))) (.lt (.c 1024) (.v 6))) (.or (.or (.lt (.v 7) (.c (-1024))) (.lt (.c 1024) (.v 7))) (.or (.lt (.v 8) (.c (-1024))) (.lt (.c 1024) (.v 8))))))))))) (.ret [(.c 0), (.c 0), (.c 0), (.c 0), (.c 0), (.c 0), (.c 2)])
(.callp 0 [(.v 9), (.v 10), (.v 11), (.v 12), (.v 13), (.v 14)] (.ite (.not (.eq (.v 15) (.c 0))) (.ret [(.c 0), (.c 0), (.c 0), (.c 0), (.c 0), (.c 0), (.v 15)])
(.call 1 [(.v 9), (.v 12), (.v 0)] (.call 2 [(.c 0), (.c 0), (.v 16), (.v 17)] (.call 1 [(.v 10), (.v 13), (.v 1)] (.call 2 [(.v 19), (.v 20), (.v 22), (.v 23)] (.call 1 [(.v 11), (.v 14), (.v 2)] (.call 2 [(.v 25), (.v 26), (.v 28), (.v 29)] (.call 3 [(.v 31), (.v 32), (.c 256)] (.call 1 [(.v 9), (.v 12), (.v 3)] (.call 2 [(.c 0), (.c 0), (.v 37), (.v 38)] (.call 1 [(.v 10), (.v 13), (.v 4)] (.call 2 [(.v 40), (.v 41), (.v 43), (.v 44)] (.call 1 [(.v 11), (.v 14), (.v 5)] (.call 2 [(.v 46), (.v 47), (.v 49), (.v 50)] (.call 3 [(.v 52), (.v 53), (.c 256)] (.call 1 [(.v 9), (.v 12), (.v 6)] (.call 2 [(.c 0), (.c 0), (.v 58), (.v 59)] (.call 1 [(.v 10), (.v 13), (.v 7)] (.call 2 [(.v 61), (.v 62), (.v 64), (.v 65)] (.call 1 [(.v 11), (.v 14), (.v 8)] (.call 2 [(.v 67), (.v 68), (.v 70), (.v 71)] (.call 3 [(.v 73), (.v 74), (.c 256)] (.callp 0 [(.v 34), (.v 55), (.v 76), (.v 35), (.v 56), (.v 77)] (.ite (.not (.eq (.v 79) (.c 0))) (.ret [(.c 0), (.c 0), (.c 0), (.c 0), (.c 0), (.c 0), (.c 20)])
(.ret [(.v 34), (.v 55), (.v 76), (.v 35), (.v 56), (.v 77), (.c 0)])))))))))))))))))))))))))))
theorem tree_bturned : merge (optFL [] I_bturned [] pin_bturned (symFnL Tryd.prog noLp gl0 G_bturned 1000 33 [An 9, An 6] [An 6, I1])) = t_bturned := by kernel_rfl
theorem g_bturned : Gok Tryd.prog G_bturned := (more ok_bcheck (more ok_fscaleT (more ok_faddT (fix.one ok_fdivT))))
theorem o_bturned : outsOK G_bturned I_bturned := (outsOK_cons inf_bcheck (outsOK_cons inf_fscaleT (outsOK_cons inf_faddT (outsOK_cons inf_fdivT outsOK_nil))))
theorem ok_bturned : s_bturned.ok Tryd.prog := Sum.okF facts.mixed g_bturned o_bturned tree_bturned rfl (fun _ => rfl) (by
  intro xs hx hp
  obtain ⟨a0, a1, a2, a3, a4, a5, a6, a7, a8, a9, a10, a11, a12, a13, a14, rfl⟩ := len15 hx
  have e1 : boxB [a9, a10, a11, a12, a13, a14] 0 = boxB [a0, a1, a2, a3, a4, a5, a6, a7, a8, a9, a10, a11, a12, a13, a14] 9 := rfl
  clear hx hp
  by_cases hr : rows9 1024 [a0, a1, a2, a3, a4, a5, a6, a7, a8, a9, a10, a11, a12, a13, a14] 0 = true
  · have kr := rows_in hr
    simp only [TX.sat, XB.prop, X.den, List.map_cons, List.map_nil, List.getElem?_cons_zero, List.getElem?_cons_succ, List.cons_append, List.nil_append, List.getD_cons_zero, List.getD_cons_succ, mkS, mkP, and_true, true_and, Int.not_lt, Int.not_le, not_or, not_and, Classical.not_not, ne_eq, not_true_eq_false, not_false_eq_true] at kr
    by_cases hb : boxB [a0, a1, a2, a3, a4, a5, a6, a7, a8, a9, a10, a11, a12, a13, a14] 9 = true
    · have kb := boxB_true.1 hb
      simp only [TX.sat, XB.prop, X.den, List.map_cons, List.map_nil, List.getElem?_cons_zero, List.getElem?_cons_succ, List.cons_append, List.nil_append, List.getD_cons_zero, List.getD_cons_succ, mkS, mkP, and_true, true_and, Int.not_lt, Int.not_le, not_or, not_and, Classical.not_not, ne_eq, not_true_eq_false, not_false_eq_true, Nat.reduceAdd] at kb
      have e2 : boxB [tLow [a0, a1, a2, a3, a4, a5, a6, a7, a8, a9, a10, a11, a12, a13, a14] 0, tLow [a0, a1, a2, a3, a4, a5, a6, a7, a8, a9, a10, a11, a12, a13, a14] 3, tLow [a0, a1, a2, a3, a4, a5, a6, a7, a8, a9, a10, a11, a12, a13, a14] 6, tHigh [a0, a1, a2, a3, a4, a5, a6, a7, a8, a9, a10, a11, a12, a13, a14] 0, tHigh [a0, a1, a2, a3, a4, a5, a6, a7, a8, a9, a10, a11, a12, a13, a14] 3, tHigh [a0, a1, a2, a3, a4, a5, a6, a7, a8, a9, a10, a11, a12, a13, a14] 6] 0 =
        boxB (turnedP [a0, a1, a2, a3, a4, a5, a6, a7, a8, a9, a10, a11, a12, a13, a14]) 0 := rfl
      simp only [tLow, tHigh, TX.sat, XB.prop, X.den, List.map_cons, List.map_nil, List.getElem?_cons_zero, List.getElem?_cons_succ, List.cons_append, List.nil_append, List.getD_cons_zero, List.getD_cons_succ, mkS, mkP, and_true, true_and, Int.not_lt, Int.not_le, not_or, not_and, Classical.not_not, ne_eq, not_true_eq_false, not_false_eq_true, Nat.reduceAdd, Nat.zero_add] at e2
      simp only [t_bturned, G_bturned, s_bcheck, s_fscaleT, s_faddT, s_fdivT, TX.sat, XB.prop, X.den, List.map_cons, List.map_nil, List.getElem?_cons_zero, List.getElem?_cons_succ, List.cons_append, List.nil_append, List.getD_cons_zero, List.getD_cons_succ, mkS, mkP, and_true, true_and, Int.not_lt, Int.not_le, not_or, not_and, Classical.not_not, ne_eq, not_true_eq_false, not_false_eq_true, sem_bcheck, sem_fscaleT, scB, sem_faddT, sem_fdivT, Int.zero_add, e1, e2, hb, er, if_true, reduceIte, sem_bturned, turnedL, hr]
      have q0 := prod_in kr.1.1 kb.1.1
      have q1 := prod_in kr.1.2.1 kb.1.2.1
      have q2 := prod_in kr.1.2.2 kb.1.2.2
      have q3 := prod_in kr.2.1.1 kb.1.1
      have q4 := prod_in kr.2.1.2.1 kb.1.2.1
      have q5 := prod_in kr.2.1.2.2 kb.1.2.2
      have q6 := prod_in kr.2.2.1 kb.1.1
      have q7 := prod_in kr.2.2.2.1 kb.1.2.1
      have q8 := prod_in kr.2.2.2.2 kb.1.2.2
      have r0 := prod_in kr.1.1 kb.2.1.1
      have r1 := prod_in kr.1.2.1 kb.2.1.2.1
      have r2 := prod_in kr.1.2.2 kb.2.1.2.2
      have r3 := prod_in kr.2.1.1 kb.2.1.1
      have r4 := prod_in kr.2.1.2.1 kb.2.1.2.1
      have r5 := prod_in kr.2.1.2.2 kb.2.1.2.2
      have r6 := prod_in kr.2.2.1 kb.2.1.1
      have r7 := prod_in kr.2.2.2.1 kb.2.1.2.1
      have r8 := prod_in kr.2.2.2.2 kb.2.1.2.2
      refine ⟨fun h => absurd h (by omega), fun _ => ⟨fun h => absurd h (by simp), fun _ => ?_⟩⟩
      refine ⟨pre_sc (by omega) (by omega) (by omega) (by omega), pre_ad (by omega) (by omega) (by omega) (by omega) (by omega) (by omega), pre_sc (by omega) (by omega) (by omega) (by omega), pre_ad (by omega) (by omega) (by omega) (by omega) (by omega) (by omega), pre_sc (by omega) (by omega) (by omega) (by omega), pre_ad (by omega) (by omega) (by omega) (by omega) (by omega) (by omega), pre_di (by omega) (by omega) (by omega),
        pre_sc (by omega) (by omega) (by omega) (by omega), pre_ad (by omega) (by omega) (by omega) (by omega) (by omega) (by omega), pre_sc (by omega) (by omega) (by omega) (by omega), pre_ad (by omega) (by omega) (by omega) (by omega) (by omega) (by omega), pre_sc (by omega) (by omega) (by omega) (by omega), pre_ad (by omega) (by omega) (by omega) (by omega) (by omega) (by omega), pre_di (by omega) (by omega) (by omega),
        pre_sc (by omega) (by omega) (by omega) (by omega), pre_ad (by omega) (by omega) (by omega) (by omega) (by omega) (by omega), pre_sc (by omega) (by omega) (by omega) (by omega), pre_ad (by omega) (by omega) (by omega) (by omega) (by omega) (by omega), pre_sc (by omega) (by omega) (by omega) (by omega), pre_ad (by omega) (by omega) (by omega) (by omega) (by omega) (by omega), pre_di (by omega) (by omega) (by omega), ?_⟩
      clear q0 q1 q2 q3 q4 q5 q6 q7 q8 r0 r1 r2 r3 r4 r5 r6 r7 r8 e1 e2
      refine ⟨fun h => ?_, fun h => ?_⟩
      · have : boxB (turnedP [a0, a1, a2, a3, a4, a5, a6, a7, a8, a9, a10, a11, a12, a13, a14]) 0 = false := by
          cases hh : boxB (turnedP [a0, a1, a2, a3, a4, a5, a6, a7, a8, a9, a10, a11, a12, a13, a14]) 0 with
          | false => rfl
          | true => rw [hh] at h; exact absurd h (by simp)
        rw [this]; rfl
      · have : boxB (turnedP [a0, a1, a2, a3, a4, a5, a6, a7, a8, a9, a10, a11, a12, a13, a14]) 0 = true := by
          cases hh : boxB (turnedP [a0, a1, a2, a3, a4, a5, a6, a7, a8, a9, a10, a11, a12, a13, a14]) 0 with
          | true => rfl
          | false => rw [hh] at h; exact absurd h (by simp)
        rw [this]; rfl
    · simp only [t_bturned, G_bturned, s_bcheck, TX.sat, XB.prop, X.den, List.map_cons, List.map_nil, List.getElem?_cons_zero, List.getElem?_cons_succ, List.cons_append, List.nil_append, List.getD_cons_zero, List.getD_cons_succ, mkS, mkP, and_true, true_and, Int.not_lt, Int.not_le, not_or, not_and, Classical.not_not, ne_eq, not_true_eq_false, not_false_eq_true, sem_bcheck, e1, hb, er, if_false, reduceIte, sem_bturned, turnedL, hr, if_true, Bool.false_eq_true, z7, ex7]
      refine ⟨fun h => absurd h (by omega), fun _ => ⟨fun _ => ?_, fun h => absurd h (by simp)⟩⟩
      trivial
  · have kr : ¬ (((-1024 ≤ a0 ∧ a0 ≤ 1024) ∧ (-1024 ≤ a1 ∧ a1 ≤ 1024) ∧ (-1024 ≤ a2 ∧ a2 ≤ 1024)) ∧ ((-1024 ≤ a3 ∧ a3 ≤ 1024) ∧ (-1024 ≤ a4 ∧ a4 ≤ 1024) ∧ (-1024 ≤ a5 ∧ a5 ≤ 1024)) ∧ ((-1024 ≤ a6 ∧ a6 ≤ 1024) ∧ (-1024 ≤ a7 ∧ a7 ≤ 1024) ∧ (-1024 ≤ a8 ∧ a8 ≤ 1024))) := fun h => hr (by
      simp only [rows9, Bool.and_eq_true, all3_true, Nat.reduceAdd, Nat.zero_add, TX.sat, XB.prop, X.den, List.map_cons, List.map_nil, List.getElem?_cons_zero, List.getElem?_cons_succ, List.cons_append, List.nil_append, List.getD_cons_zero, List.getD_cons_succ, mkS, mkP, and_true, true_and, Int.not_lt, Int.not_le, not_or, not_and, Classical.not_not, ne_eq, not_true_eq_false, not_false_eq_true]; exact h)
    simp only [t_bturned, TX.sat, XB.prop, X.den, List.map_cons, List.map_nil, List.getElem?_cons_zero, List.getElem?_cons_succ, List.cons_append, List.nil_append, List.getD_cons_zero, List.getD_cons_succ, mkS, mkP, and_true, true_and, Int.not_lt, Int.not_le, not_or, not_and, Classical.not_not, ne_eq, not_true_eq_false, not_false_eq_true, sem_bturned, turnedL, hr, if_false, reduceIte, Bool.false_eq_true, z7, ex7]
    exact ⟨fun _ => trivial, fun h => absurd h (by omega)⟩)
theorem inf_bturned : InfOK s_bturned i_bturned := ⟨fun _ h => h, fun vs xs h hp => by
  show vsOK (ivs 6 (-32768) 32768 ++ [iv 0 20]) (ex7 (turnedL xs))
  unfold turnedL
  split
  · split
    · split
      · rename_i hc
        have kb := boxB_true.1 hc
        exact vsOK_cons kb.1.1 (vsOK_cons kb.1.2.1 (vsOK_cons kb.1.2.2 (vsOK_cons kb.2.1.1 (vsOK_cons kb.2.1.2.1 (vsOK_cons kb.2.1.2.2 (vsOK_cons (iv_def.2 (by simp [turnedP])) vsOK_nil))))))
      · exact z7_vs (by omega)
    · exact z7_vs (by omega)
  · exact z7_vs (by omega)⟩

/-! ### by corners -/
end Go.Proofs.YtgcoidbaoigkeaaDoor.fix
