/-
  What the functions on corners and spots come to.
-/
import Derived.Test.YtlgcjkolakcfiaaCam
set_option linter.unusedVariables false
set_option linter.unusedSimpArgs false
namespace Go.Proofs.Ytlgcjkolakcfiaa.fix
open Go.RowKit Go.Sx

def G_pcheck : List Sum := []
def I_pcheck : List Inf := []
def t_pcheck : TX := (.ite (.or (.or (.lt (.v 0) (.c (-32768))) (.lt (.c 32768) (.v 0))) (.or (.or (.lt (.v 1) (.c (-32768))) (.lt (.c 32768) (.v 1))) (.or (.or (.lt (.v 2) (.c (-32768))) (.lt (.c 32768) (.v 2))) (.or (.or (.lt (.v 3) (.c 0)) (.lt (.c 255) (.v 3))) (.or (.lt (.v 4) (.c 0)) (.lt (.c 255) (.v 4))))))) (.ret [(.c 8)])
(.ret [(.c 0)]))
theorem tree_pcheck : merge (opt I_pcheck pin_pcheck (symFn Try.prog G_pcheck 1000 113 [An 5] [I1])) = t_pcheck := by kernel_rfl
theorem g_pcheck : Gok Try.prog G_pcheck := noG
theorem o_pcheck : outsOK G_pcheck I_pcheck := outsOK_nil
def G_rpmay : List Sum := []
def I_rpmay : List Inf := []
def t_rpmay : TX := (.ite (.or (.or (.lt (.v 0) (.c (-32768))) (.lt (.c 32768) (.v 0))) (.or (.or (.lt (.v 1) (.c (-32768))) (.lt (.c 32768) (.v 1))) (.or (.or (.lt (.v 2) (.c (-32768))) (.lt (.c 32768) (.v 2))) (.or (.lt (.v 3) (.c 0)) (.or (.lt (.c 255) (.v 3)) (.lt (.v 4) (.c 0))))))) (.ret [(.c 0)])
(.ite (.le (.v 4) (.c 255)) (.ret [(.c 1)])
(.ret [(.c 0)])))
theorem tree_rpmay : merge (opt I_rpmay pin_rpmay (symFn Try.prog G_rpmay 1000 114 [An 5] [Bo])) = t_rpmay := by kernel_rfl
theorem g_rpmay : Gok Try.prog G_rpmay := noG
theorem o_rpmay : outsOK G_rpmay I_rpmay := outsOK_nil
theorem ok_pcheck : s_pcheck.ok Try.prog := Sum.ok_opt facts.mixed g_pcheck o_pcheck tree_pcheck rfl (fun _ => rfl) (by
  intro xs hx hp
  obtain ⟨a0, a1, a2, a3, a4, rfl⟩ := len5 hx
  by_cases hc0 : pointB [a0, a1, a2, a3, a4] 0 = true
  · have hd0 := hc0
    try simp only [pointB, Bool.and_eq_true, all3_true, dec_true, TX.sat, XB.prop, X.den, List.map_cons, List.map_nil, List.getElem?_cons_zero, List.getElem?_cons_succ, List.cons_append, List.nil_append, List.getD_cons_zero, List.getD_cons_succ, mkS, mkP, and_true, true_and, Int.not_lt, Int.not_le, not_or, not_and, Classical.not_not, ne_eq, not_true_eq_false, not_false_eq_true, Nat.reduceAdd, Nat.zero_add] at hd0
    simp only [t_pcheck, G_pcheck, TX.sat, XB.prop, X.den, List.map_cons, List.map_nil, List.getElem?_cons_zero, List.getElem?_cons_succ, List.cons_append, List.nil_append, List.getD_cons_zero, List.getD_cons_succ, mkS, mkP, and_true, true_and, Int.not_lt, Int.not_le, not_or, not_and, Classical.not_not, ne_eq, not_true_eq_false, not_false_eq_true, sem_pcheck, hc0, ex3, ex4, ex5, ex6, ex13, ex16, er, b01, dec_true, if_true, if_false, reduceIte, Bool.false_eq_true, Nat.reduceAdd, Nat.zero_add]
    clear hc0
    repeat' first | exact trivial | refine And.intro ?_ ?_ | intro _
    all_goals first | trivial | rfl | omega | (simp [Int.max_comm, Int.min_comm]; done) | (simp only [List.cons.injEq, and_true, true_and]; omega) | (split <;> first | trivial | rfl | omega)
  · have hd0 := hc0
    try simp only [pointB, Bool.and_eq_true, all3_true, dec_true, TX.sat, XB.prop, X.den, List.map_cons, List.map_nil, List.getElem?_cons_zero, List.getElem?_cons_succ, List.cons_append, List.nil_append, List.getD_cons_zero, List.getD_cons_succ, mkS, mkP, and_true, true_and, Int.not_lt, Int.not_le, not_or, not_and, Classical.not_not, ne_eq, not_true_eq_false, not_false_eq_true, Nat.reduceAdd, Nat.zero_add] at hd0
    simp only [t_pcheck, G_pcheck, TX.sat, XB.prop, X.den, List.map_cons, List.map_nil, List.getElem?_cons_zero, List.getElem?_cons_succ, List.cons_append, List.nil_append, List.getD_cons_zero, List.getD_cons_succ, mkS, mkP, and_true, true_and, Int.not_lt, Int.not_le, not_or, not_and, Classical.not_not, ne_eq, not_true_eq_false, not_false_eq_true, sem_pcheck, hc0, ex3, ex4, ex5, ex6, ex13, ex16, er, b01, dec_true, if_true, if_false, reduceIte, Bool.false_eq_true, Nat.reduceAdd, Nat.zero_add]
    clear hc0
    repeat' first | exact trivial | refine And.intro ?_ ?_ | intro _
    all_goals first | trivial | rfl | omega | (simp [Int.max_comm, Int.min_comm]; done) | (simp only [List.cons.injEq, and_true, true_and]; omega) | (split <;> first | trivial | rfl | omega))
theorem ok_rpmay : s_rpmay.ok Try.prog := Sum.ok_opt facts.mixed g_rpmay o_rpmay tree_rpmay rfl (fun _ => rfl) (by
  intro xs hx hp
  obtain ⟨a0, a1, a2, a3, a4, rfl⟩ := len5 hx
  by_cases hc0 : pointB [a0, a1, a2, a3, a4] 0 = true
  · have hd0 := hc0
    try simp only [pointB, Bool.and_eq_true, all3_true, dec_true, TX.sat, XB.prop, X.den, List.map_cons, List.map_nil, List.getElem?_cons_zero, List.getElem?_cons_succ, List.cons_append, List.nil_append, List.getD_cons_zero, List.getD_cons_succ, mkS, mkP, and_true, true_and, Int.not_lt, Int.not_le, not_or, not_and, Classical.not_not, ne_eq, not_true_eq_false, not_false_eq_true, Nat.reduceAdd, Nat.zero_add] at hd0
    simp only [t_rpmay, G_rpmay, TX.sat, XB.prop, X.den, List.map_cons, List.map_nil, List.getElem?_cons_zero, List.getElem?_cons_succ, List.cons_append, List.nil_append, List.getD_cons_zero, List.getD_cons_succ, mkS, mkP, and_true, true_and, Int.not_lt, Int.not_le, not_or, not_and, Classical.not_not, ne_eq, not_true_eq_false, not_false_eq_true, sem_rpmay, hc0, ex3, ex4, ex5, ex6, ex13, ex16, er, b01, dec_true, if_true, if_false, reduceIte, Bool.false_eq_true, Nat.reduceAdd, Nat.zero_add]
    clear hc0
    repeat' first | exact trivial | refine And.intro ?_ ?_ | intro _
    all_goals first | trivial | rfl | omega | (simp [Int.max_comm, Int.min_comm]; done) | (simp only [List.cons.injEq, and_true, true_and]; omega) | (split <;> first | trivial | rfl | omega)
  · have hd0 := hc0
    try simp only [pointB, Bool.and_eq_true, all3_true, dec_true, TX.sat, XB.prop, X.den, List.map_cons, List.map_nil, List.getElem?_cons_zero, List.getElem?_cons_succ, List.cons_append, List.nil_append, List.getD_cons_zero, List.getD_cons_succ, mkS, mkP, and_true, true_and, Int.not_lt, Int.not_le, not_or, not_and, Classical.not_not, ne_eq, not_true_eq_false, not_false_eq_true, Nat.reduceAdd, Nat.zero_add] at hd0
    simp only [t_rpmay, G_rpmay, TX.sat, XB.prop, X.den, List.map_cons, List.map_nil, List.getElem?_cons_zero, List.getElem?_cons_succ, List.cons_append, List.nil_append, List.getD_cons_zero, List.getD_cons_succ, mkS, mkP, and_true, true_and, Int.not_lt, Int.not_le, not_or, not_and, Classical.not_not, ne_eq, not_true_eq_false, not_false_eq_true, sem_rpmay, hc0, ex3, ex4, ex5, ex6, ex13, ex16, er, b01, dec_true, if_true, if_false, reduceIte, Bool.false_eq_true, Nat.reduceAdd, Nat.zero_add]
    clear hc0
    repeat' first | exact trivial | refine And.intro ?_ ?_ | intro _
    all_goals first | trivial | rfl | omega | (simp [Int.max_comm, Int.min_comm]; done) | (simp only [List.cons.injEq, and_true, true_and]; omega) | (split <;> first | trivial | rfl | omega))
theorem inf_pcheck : InfOK s_pcheck i_pcheck := ⟨fun _ h => h, fun vs xs h hp => vsOK_cons (er_iv _ (by omega)) vsOK_nil⟩
theorem inf_rpmay : InfOK s_rpmay i_rpmay := ⟨fun _ h => h, fun vs xs h hp => vsOK_cons (b01_iv _) vsOK_nil⟩
def G_scheck : List Sum := []
def I_scheck : List Inf := []
def t_scheck : TX := (.ite (.or (.or (.lt (.v 0) (.c (-131072))) (.lt (.c 131072) (.v 0))) (.or (.or (.lt (.v 1) (.c (-131072))) (.lt (.c 131072) (.v 1))) (.or (.or (.lt (.v 2) (.c 1)) (.lt (.c 65536) (.v 2))) (.or (.or (.lt (.v 3) (.c 0)) (.lt (.c 255) (.v 3))) (.or (.lt (.v 4) (.c 0)) (.lt (.c 255) (.v 4))))))) (.ret [(.c 8)])
(.ret [(.c 0)]))
theorem tree_scheck : merge (opt I_scheck pin_scheck (symFn Try.prog G_scheck 1000 44 [An 5] [I1])) = t_scheck := by kernel_rfl
theorem g_scheck : Gok Try.prog G_scheck := noG
theorem o_scheck : outsOK G_scheck I_scheck := outsOK_nil
def G_rsmay : List Sum := []
def I_rsmay : List Inf := []
def t_rsmay : TX := (.ite (.and (.and (.and (.and (.and (.and (.and (.and (.and (.le (.c (-131072)) (.v 0)) (.le (.v 0) (.c 131072))) (.le (.c (-131072)) (.v 1))) (.le (.v 1) (.c 131072))) (.le (.c 1) (.v 2))) (.le (.v 2) (.c 65536))) (.le (.c 0) (.v 3))) (.le (.v 3) (.c 255))) (.le (.c 0) (.v 4))) (.le (.v 4) (.c 255))) (.ret [(.c 1)])
(.ret [(.c 0)]))
theorem tree_rsmay : merge (opt I_rsmay pin_rsmay (symFn Try.prog G_rsmay 1000 45 [An 5] [Bo])) = t_rsmay := by kernel_rfl
theorem g_rsmay : Gok Try.prog G_rsmay := noG
theorem o_rsmay : outsOK G_rsmay I_rsmay := outsOK_nil
theorem ok_scheck : s_scheck.ok Try.prog := Sum.ok_opt facts.mixed g_scheck o_scheck tree_scheck rfl (fun _ => rfl) (by
  intro xs hx hp
  obtain ⟨a0, a1, a2, a3, a4, rfl⟩ := len5 hx
  by_cases hc0 : spotB [a0, a1, a2, a3, a4] 0 = true
  · have hd0 := hc0
    try simp only [spotB_true, TX.sat, XB.prop, X.den, List.map_cons, List.map_nil, List.getElem?_cons_zero, List.getElem?_cons_succ, List.cons_append, List.nil_append, List.getD_cons_zero, List.getD_cons_succ, mkS, mkP, and_true, true_and, Int.not_lt, Int.not_le, not_or, not_and, Classical.not_not, ne_eq, not_true_eq_false, not_false_eq_true, Nat.reduceAdd, Nat.zero_add] at hd0
    simp only [t_scheck, G_scheck, TX.sat, XB.prop, X.den, List.map_cons, List.map_nil, List.getElem?_cons_zero, List.getElem?_cons_succ, List.cons_append, List.nil_append, List.getD_cons_zero, List.getD_cons_succ, mkS, mkP, and_true, true_and, Int.not_lt, Int.not_le, not_or, not_and, Classical.not_not, ne_eq, not_true_eq_false, not_false_eq_true, sem_scheck, hc0, ex3, ex4, ex5, ex6, ex13, ex16, er, b01, dec_true, if_true, if_false, reduceIte, Bool.false_eq_true, Nat.reduceAdd, Nat.zero_add]
    clear hc0
    repeat' first | exact trivial | refine And.intro ?_ ?_ | intro _
    all_goals first | trivial | rfl | omega | (simp [Int.max_comm, Int.min_comm]; done) | (simp only [List.cons.injEq, and_true, true_and]; omega) | (split <;> first | trivial | rfl | omega)
  · have hd0 := hc0
    try simp only [spotB_true, TX.sat, XB.prop, X.den, List.map_cons, List.map_nil, List.getElem?_cons_zero, List.getElem?_cons_succ, List.cons_append, List.nil_append, List.getD_cons_zero, List.getD_cons_succ, mkS, mkP, and_true, true_and, Int.not_lt, Int.not_le, not_or, not_and, Classical.not_not, ne_eq, not_true_eq_false, not_false_eq_true, Nat.reduceAdd, Nat.zero_add] at hd0
    simp only [t_scheck, G_scheck, TX.sat, XB.prop, X.den, List.map_cons, List.map_nil, List.getElem?_cons_zero, List.getElem?_cons_succ, List.cons_append, List.nil_append, List.getD_cons_zero, List.getD_cons_succ, mkS, mkP, and_true, true_and, Int.not_lt, Int.not_le, not_or, not_and, Classical.not_not, ne_eq, not_true_eq_false, not_false_eq_true, sem_scheck, hc0, ex3, ex4, ex5, ex6, ex13, ex16, er, b01, dec_true, if_true, if_false, reduceIte, Bool.false_eq_true, Nat.reduceAdd, Nat.zero_add]
    clear hc0
    repeat' first | exact trivial | refine And.intro ?_ ?_ | intro _
    all_goals first | trivial | rfl | omega | (simp [Int.max_comm, Int.min_comm]; done) | (simp only [List.cons.injEq, and_true, true_and]; omega) | (split <;> first | trivial | rfl | omega))
theorem ok_rsmay : s_rsmay.ok Try.prog := Sum.ok_opt facts.mixed g_rsmay o_rsmay tree_rsmay rfl (fun _ => rfl) (by
  intro xs hx hp
  obtain ⟨a0, a1, a2, a3, a4, rfl⟩ := len5 hx
  by_cases hc0 : spotB [a0, a1, a2, a3, a4] 0 = true
  · have hd0 := hc0
    try simp only [spotB_true, TX.sat, XB.prop, X.den, List.map_cons, List.map_nil, List.getElem?_cons_zero, List.getElem?_cons_succ, List.cons_append, List.nil_append, List.getD_cons_zero, List.getD_cons_succ, mkS, mkP, and_true, true_and, Int.not_lt, Int.not_le, not_or, not_and, Classical.not_not, ne_eq, not_true_eq_false, not_false_eq_true, Nat.reduceAdd, Nat.zero_add] at hd0
    simp only [t_rsmay, G_rsmay, TX.sat, XB.prop, X.den, List.map_cons, List.map_nil, List.getElem?_cons_zero, List.getElem?_cons_succ, List.cons_append, List.nil_append, List.getD_cons_zero, List.getD_cons_succ, mkS, mkP, and_true, true_and, Int.not_lt, Int.not_le, not_or, not_and, Classical.not_not, ne_eq, not_true_eq_false, not_false_eq_true, sem_rsmay, hc0, ex3, ex4, ex5, ex6, ex13, ex16, er, b01, dec_true, if_true, if_false, reduceIte, Bool.false_eq_true, Nat.reduceAdd, Nat.zero_add]
    clear hc0
    repeat' first | exact trivial | refine And.intro ?_ ?_ | intro _
    all_goals first | trivial | rfl | omega | (simp [Int.max_comm, Int.min_comm]; done) | (simp only [List.cons.injEq, and_true, true_and]; omega) | (split <;> first | trivial | rfl | omega)
  · have hd0 := hc0
    try simp only [spotB_true, TX.sat, XB.prop, X.den, List.map_cons, List.map_nil, List.getElem?_cons_zero, List.getElem?_cons_succ, List.cons_append, List.nil_append, List.getD_cons_zero, List.getD_cons_succ, mkS, mkP, and_true, true_and, Int.not_lt, Int.not_le, not_or, not_and, Classical.not_not, ne_eq, not_true_eq_false, not_false_eq_true, Nat.reduceAdd, Nat.zero_add] at hd0
    simp only [t_rsmay, G_rsmay, TX.sat, XB.prop, X.den, List.map_cons, List.map_nil, List.getElem?_cons_zero, List.getElem?_cons_succ, List.cons_append, List.nil_append, List.getD_cons_zero, List.getD_cons_succ, mkS, mkP, and_true, true_and, Int.not_lt, Int.not_le, not_or, not_and, Classical.not_not, ne_eq, not_true_eq_false, not_false_eq_true, sem_rsmay, hc0, ex3, ex4, ex5, ex6, ex13, ex16, er, b01, dec_true, if_true, if_false, reduceIte, Bool.false_eq_true, Nat.reduceAdd, Nat.zero_add]
    clear hc0
    repeat' first | exact trivial | refine And.intro ?_ ?_ | intro _
    all_goals first | trivial | rfl | omega | (simp [Int.max_comm, Int.min_comm]; done) | (simp only [List.cons.injEq, and_true, true_and]; omega) | (split <;> first | trivial | rfl | omega))
theorem inf_scheck : InfOK s_scheck i_scheck := ⟨fun _ h => h, fun vs xs h hp => vsOK_cons (er_iv _ (by omega)) vsOK_nil⟩
theorem inf_rsmay : InfOK s_rsmay i_rsmay := ⟨fun _ h => h, fun vs xs h hp => vsOK_cons (b01_iv _) vsOK_nil⟩

def G_across : List Sum := [s_down]
def I_across : List Inf := [i_down]
def t_across : TX := (.callp 0 [(.mul (.mul (.c 8) (.v 12)) (.v 16)), (.v 17)] (.ret [(.add (.v 18) (.mul (.c 4) (.v 14)))]))
theorem tree_across : merge (opt I_across pin_across (symFn Try.prog G_across 1000 141 [An 16, I1, I1] [I1])) = t_across := by kernel_rfl
theorem g_across : Gok Try.prog G_across := (one ok_down)
theorem o_across : outsOK G_across I_across := (outsOK_cons inf_down outsOK_nil)
def G_adown : List Sum := [s_down]
def I_adown : List Inf := [i_down]
def t_adown : TX := (.callp 0 [(.mul (.mul (.c 8) (.v 12)) (.v 16)), (.v 17)] (.ret [(.sub (.mul (.c 4) (.v 15)) (.v 18))]))
theorem tree_adown : merge (opt I_adown pin_adown (symFn Try.prog G_adown 1000 142 [An 16, I1, I1] [I1])) = t_adown := by kernel_rfl
theorem g_adown : Gok Try.prog G_adown := (one ok_down)
theorem o_adown : outsOK G_adown I_adown := (outsOK_cons inf_down outsOK_nil)
theorem ok_across : s_across.ok Try.prog := Sum.ok_opt facts.mixed g_across o_across tree_across rfl (fun _ => rfl) (by
  intro xs hx hp
  obtain ⟨a0, a1, a2, a3, a4, a5, a6, a7, a8, a9, a10, a11, a12, a13, a14, a15, a16, a17, rfl⟩ := len18 hx
  simp only [t_across, G_across, s_down, TX.sat, XB.prop, X.den, List.map_cons, List.map_nil, List.getElem?_cons_zero, List.getElem?_cons_succ, List.cons_append, List.nil_append, List.getD_cons_zero, List.getD_cons_succ, mkS, mkP, and_true, true_and, Int.not_lt, Int.not_le, not_or, not_and, Classical.not_not, ne_eq, not_true_eq_false, not_false_eq_true, sem_down, sem_across, ex3, ex4, ex5, ex6, ex13, ex16, er, b01, dec_true, if_true, if_false, reduceIte, Bool.false_eq_true, Nat.reduceAdd, Nat.zero_add]
  repeat' first | exact trivial | refine And.intro ?_ ?_ | intro _
  all_goals first | trivial | rfl | omega | (simp [Int.max_comm, Int.min_comm]; done) | (simp only [List.cons.injEq, and_true, true_and]; omega) | (split <;> first | trivial | rfl | omega))
theorem ok_adown : s_adown.ok Try.prog := Sum.ok_opt facts.mixed g_adown o_adown tree_adown rfl (fun _ => rfl) (by
  intro xs hx hp
  obtain ⟨a0, a1, a2, a3, a4, a5, a6, a7, a8, a9, a10, a11, a12, a13, a14, a15, a16, a17, rfl⟩ := len18 hx
  simp only [t_adown, G_adown, s_down, TX.sat, XB.prop, X.den, List.map_cons, List.map_nil, List.getElem?_cons_zero, List.getElem?_cons_succ, List.cons_append, List.nil_append, List.getD_cons_zero, List.getD_cons_succ, mkS, mkP, and_true, true_and, Int.not_lt, Int.not_le, not_or, not_and, Classical.not_not, ne_eq, not_true_eq_false, not_false_eq_true, sem_down, sem_adown, ex3, ex4, ex5, ex6, ex13, ex16, er, b01, dec_true, if_true, if_false, reduceIte, Bool.false_eq_true, Nat.reduceAdd, Nat.zero_add]
  repeat' first | exact trivial | refine And.intro ?_ ?_ | intro _
  all_goals first | trivial | rfl | omega | (simp [Int.max_comm, Int.min_comm]; done) | (simp only [List.cons.injEq, and_true, true_and]; omega) | (split <;> first | trivial | rfl | omega))
/-- How far a number shows from the middle. -/
theorem grow_in {f n z : Int} (hf : 0 ≤ f ∧ f ≤ 64) (hn : -32768 ≤ n ∧ n ≤ 32768) (hz : 1 ≤ z) : -16777216 ≤ 8 * f * n / z ∧ 8 * f * n / z ≤ 16777216 := by
  have := mul_abs_le (x := 8 * f) (y := n) (m := 512) (n := 32768) (by omega) hn
  exact div_range (by omega) (by omega) (by omega) (by omega) (by omega)
theorem inf_across : InfOK s_across i_across := ⟨fun _ h => h, fun vs xs h hp => by
  have h1 : 1 ≤ xs.getD 12 0 ∧ xs.getD 12 0 ≤ 64 := hp.2 12
  have h2 : 1 ≤ xs.getD 14 0 ∧ xs.getD 14 0 ≤ 64 := hp.2 14
  have h3 : -32768 ≤ xs.getD 16 0 ∧ xs.getD 16 0 ≤ 32768 := hp.2 16
  have h4 : 1 ≤ xs.getD 17 0 ∧ xs.getD 17 0 ≤ 32768 := hp.2 17
  have := grow_in (f := xs.getD 12 0) (by omega) h3 h4.1
  exact vsOK_cons (iv_def.2 (by show _ ≤ 8 * xs.getD 12 0 * xs.getD 16 0 / xs.getD 17 0 + 4 * xs.getD 14 0 ∧ _ ≤ _; omega)) vsOK_nil⟩
theorem inf_adown : InfOK s_adown i_adown := ⟨fun _ h => h, fun vs xs h hp => by
  have h1 : 1 ≤ xs.getD 12 0 ∧ xs.getD 12 0 ≤ 64 := hp.2 12
  have h2 : 1 ≤ xs.getD 15 0 ∧ xs.getD 15 0 ≤ 64 := hp.2 15
  have h3 : -32768 ≤ xs.getD 16 0 ∧ xs.getD 16 0 ≤ 32768 := hp.2 16
  have h4 : 1 ≤ xs.getD 17 0 ∧ xs.getD 17 0 ≤ 32768 := hp.2 17
  have := grow_in (f := xs.getD 12 0) (by omega) h3 h4.1
  exact vsOK_cons (iv_def.2 (by show _ ≤ 4 * xs.getD 15 0 - 8 * xs.getD 12 0 * xs.getD 16 0 / xs.getD 17 0 ∧ _ ≤ _; omega)) vsOK_nil⟩

theorem tdiv_pos {a b : Int} (hb : 0 < b) (ha : 0 ≤ a) : a.tdiv b = a / b := floor_pos hb (Int.tmod_nonneg b ha)
def G_place : List Sum := [s_floor]
def I_place : List Inf := [i_floor]
def t_place : TX := (.ite (.or (.or (.lt (.v 0) (.c (-4096))) (.lt (.c 4096) (.v 0))) (.or (.or (.lt (.v 1) (.c (-4096))) (.lt (.c 4096) (.v 1))) (.or (.or (.lt (.v 2) (.c (-4096))) (.lt (.c 4096) (.v 2))) (.or (.or (.lt (.v 12) (.c 1)) (.lt (.c 64) (.v 12))) (.or (.or (.lt (.v 13) (.c 256)) (.lt (.c 4096) (.v 13))) (.or (.or (.lt (.v 14) (.c 1)) (.lt (.c 64) (.v 14))) (.or (.or (.lt (.v 15) (.c 1)) (.lt (.c 64) (.v 15))) (.or (.or (.lt (.v 3) (.c (-256))) (.lt (.c 256) (.v 3))) (.or (.or (.lt (.v 4) (.c (-256))) (.lt (.c 256) (.v 4))) (.or (.or (.lt (.v 5) (.c (-256))) (.lt (.c 256) (.v 5))) (.or (.or (.lt (.v 6) (.c (-256))) (.lt (.c 256) (.v 6))) (.or (.or (.lt (.v 7) (.c (-256))) (.lt (.c 256) (.v 7))) (.or (.or (.lt (.v 8) (.c (-256))) (.lt (.c 256) (.v 8))) (.or (.or (.lt (.v 9) (.c (-256))) (.lt (.c 256) (.v 9))) (.or (.or (.lt (.v 10) (.c (-256))) (.lt (.c 256) (.v 10))) (.or (.lt (.v 11) (.c (-256))) (.lt (.c 256) (.v 11)))))))))))))))))) (.ret [(.c 0), (.c 0), (.c 0), (.c 0), (.c 0), (.c 150)])
(.ite (.or (.or (.lt (.v 16) (.c (-32768))) (.lt (.c 32768) (.v 16))) (.or (.or (.lt (.v 17) (.c (-32768))) (.lt (.c 32768) (.v 17))) (.or (.or (.lt (.v 18) (.c (-32768))) (.lt (.c 32768) (.v 18))) (.or (.or (.lt (.v 19) (.c 0)) (.lt (.c 255) (.v 19))) (.or (.lt (.v 20) (.c 0)) (.lt (.c 255) (.v 20))))))) (.ret [(.c 0), (.c 0), (.c 0), (.c 0), (.c 0), (.c 8)])
(.ite (.lt (.v 18) (.v 13)) (.ret [(.c 0), (.c 0), (.c 0), (.c 0), (.c 0), (.c 6)])
(.callp 0 [(.mul (.mul (.c 8) (.v 12)) (.v 16)), (.v 18)] (.callp 0 [(.mul (.mul (.c 8) (.v 12)) (.v 17)), (.v 18)] (.ret [(.add (.v 21) (.mul (.c 4) (.v 14))), (.sub (.mul (.c 4) (.v 15)) (.v 23)), (.quo (.c 16777216) (.v 18)), (.v 19), (.v 20), (.c 0)]))))))
theorem tree_place : merge (opt I_place pin_place (symFn Try.prog G_place 1000 50 [An 16, An 5] [An 5, I1])) = t_place := by kernel_rfl
theorem g_place : Gok Try.prog G_place := (one ok_floor)
theorem o_place : outsOK G_place I_place := (outsOK_cons inf_floor outsOK_nil)
def G_rplace : List Sum := [s_across, s_adown]
def I_rplace : List Inf := [i_across, i_adown]
def t_rplace : TX := (.ite (.or (.or (.lt (.v 0) (.c (-4096))) (.lt (.c 4096) (.v 0))) (.or (.or (.lt (.v 1) (.c (-4096))) (.lt (.c 4096) (.v 1))) (.or (.or (.lt (.v 2) (.c (-4096))) (.lt (.c 4096) (.v 2))) (.or (.or (.lt (.v 3) (.c (-256))) (.lt (.c 256) (.v 3))) (.or (.or (.lt (.v 4) (.c (-256))) (.lt (.c 256) (.v 4))) (.or (.or (.lt (.v 5) (.c (-256))) (.lt (.c 256) (.v 5))) (.or (.or (.lt (.v 6) (.c (-256))) (.lt (.c 256) (.v 6))) (.or (.or (.lt (.v 7) (.c (-256))) (.lt (.c 256) (.v 7))) (.or (.or (.lt (.v 8) (.c (-256))) (.lt (.c 256) (.v 8))) (.or (.or (.lt (.v 9) (.c (-256))) (.lt (.c 256) (.v 9))) (.or (.or (.lt (.v 10) (.c (-256))) (.lt (.c 256) (.v 10))) (.or (.or (.lt (.v 11) (.c (-256))) (.lt (.c 256) (.v 11))) (.or (.lt (.v 12) (.c 1)) (.or (.lt (.c 64) (.v 12)) (.or (.lt (.v 13) (.c 256)) (.or (.lt (.c 4096) (.v 13)) (.or (.lt (.v 14) (.c 1)) (.or (.lt (.c 64) (.v 14)) (.or (.lt (.v 15) (.c 1)) (.lt (.c 64) (.v 15))))))))))))))))))))) (.ret [(.c 0), (.c 0), (.c 0), (.c 0), (.c 0), (.c 150)])
(.ite (.or (.or (.lt (.v 16) (.c (-32768))) (.lt (.c 32768) (.v 16))) (.or (.or (.lt (.v 17) (.c (-32768))) (.lt (.c 32768) (.v 17))) (.or (.or (.lt (.v 18) (.c (-32768))) (.lt (.c 32768) (.v 18))) (.or (.lt (.v 19) (.c 0)) (.or (.lt (.c 255) (.v 19)) (.or (.lt (.v 20) (.c 0)) (.lt (.c 255) (.v 20)))))))) (.ret [(.c 0), (.c 0), (.c 0), (.c 0), (.c 0), (.c 8)])
(.ite (.lt (.v 18) (.v 13)) (.ret [(.c 0), (.c 0), (.c 0), (.c 0), (.c 0), (.c 6)])
(.callp 0 [(.v 0), (.v 1), (.v 2), (.v 3), (.v 4), (.v 5), (.v 6), (.v 7), (.v 8), (.v 9), (.v 10), (.v 11), (.v 12), (.v 13), (.v 14), (.v 15), (.v 16), (.v 18)] (.callp 1 [(.v 0), (.v 1), (.v 2), (.v 3), (.v 4), (.v 5), (.v 6), (.v 7), (.v 8), (.v 9), (.v 10), (.v 11), (.v 12), (.v 13), (.v 14), (.v 15), (.v 17), (.v 18)] (.ret [(.v 21), (.v 22), (.quo (.c 16777216) (.v 18)), (.v 19), (.v 20), (.c 0)]))))))
theorem tree_rplace : merge (opt I_rplace pin_rplace (symFn Try.prog G_rplace 1000 51 [An 16, An 5] [An 5, I1])) = t_rplace := by kernel_rfl
theorem g_rplace : Gok Try.prog G_rplace := (more ok_across (one ok_adown))
theorem o_rplace : outsOK G_rplace I_rplace := (outsOK_cons inf_across (outsOK_cons inf_adown outsOK_nil))
theorem ok_place : s_place.ok Try.prog := Sum.ok_opt facts.mixed g_place o_place tree_place rfl (fun _ => rfl) (by
  intro xs hx hp
  obtain ⟨a0, a1, a2, a3, a4, a5, a6, a7, a8, a9, a10, a11, a12, a13, a14, a15, a16, a17, a18, a19, a20, rfl⟩ := len21 hx
  by_cases hc0 : camB [a0, a1, a2, a3, a4, a5, a6, a7, a8, a9, a10, a11, a12, a13, a14, a15, a16, a17, a18, a19, a20] 0 = true
  · by_cases hc1 : pointB [a0, a1, a2, a3, a4, a5, a6, a7, a8, a9, a10, a11, a12, a13, a14, a15, a16, a17, a18, a19, a20] 16 = true
    · by_cases hc2 : ¬ a18 < a13
      · have hd0 := hc0
        try simp only [camB, rows9, lensB_true, Bool.and_eq_true, all3_true, pointB, dec_true, TX.sat, XB.prop, X.den, List.map_cons, List.map_nil, List.getElem?_cons_zero, List.getElem?_cons_succ, List.cons_append, List.nil_append, List.getD_cons_zero, List.getD_cons_succ, mkS, mkP, and_true, true_and, Int.not_lt, Int.not_le, not_or, not_and, Classical.not_not, ne_eq, not_true_eq_false, not_false_eq_true, Nat.reduceAdd, Nat.zero_add] at hd0
        have hd1 := hc1
        try simp only [camB, rows9, lensB_true, Bool.and_eq_true, all3_true, pointB, dec_true, TX.sat, XB.prop, X.den, List.map_cons, List.map_nil, List.getElem?_cons_zero, List.getElem?_cons_succ, List.cons_append, List.nil_append, List.getD_cons_zero, List.getD_cons_succ, mkS, mkP, and_true, true_and, Int.not_lt, Int.not_le, not_or, not_and, Classical.not_not, ne_eq, not_true_eq_false, not_false_eq_true, Nat.reduceAdd, Nat.zero_add] at hd1
        have hd2 := hc2
        try simp only [camB, rows9, lensB_true, Bool.and_eq_true, all3_true, pointB, dec_true, TX.sat, XB.prop, X.den, List.map_cons, List.map_nil, List.getElem?_cons_zero, List.getElem?_cons_succ, List.cons_append, List.nil_append, List.getD_cons_zero, List.getD_cons_succ, mkS, mkP, and_true, true_and, Int.not_lt, Int.not_le, not_or, not_and, Classical.not_not, ne_eq, not_true_eq_false, not_false_eq_true, Nat.reduceAdd, Nat.zero_add] at hd2
        simp only [t_place, G_place, s_floor, TX.sat, XB.prop, X.den, List.map_cons, List.map_nil, List.getElem?_cons_zero, List.getElem?_cons_succ, List.cons_append, List.nil_append, List.getD_cons_zero, List.getD_cons_succ, mkS, mkP, and_true, true_and, Int.not_lt, Int.not_le, not_or, not_and, Classical.not_not, ne_eq, not_true_eq_false, not_false_eq_true, sem_floor, sem_place, placeL, hc0, hc1, hc2, ex3, ex4, ex5, ex6, ex13, ex16, er, b01, dec_true, if_true, if_false, reduceIte, Bool.false_eq_true, Nat.reduceAdd, Nat.zero_add]
        clear hc0 hc1 hc2
        repeat' first | exact trivial | refine And.intro ?_ ?_ | intro _
        all_goals first | trivial | rfl | omega | (simp [Int.max_comm, Int.min_comm]; done) | (simp only [List.cons.injEq, and_true, true_and]; omega) | (split <;> first | trivial | rfl | omega)
      · have hd0 := hc0
        try simp only [camB, rows9, lensB_true, Bool.and_eq_true, all3_true, pointB, dec_true, TX.sat, XB.prop, X.den, List.map_cons, List.map_nil, List.getElem?_cons_zero, List.getElem?_cons_succ, List.cons_append, List.nil_append, List.getD_cons_zero, List.getD_cons_succ, mkS, mkP, and_true, true_and, Int.not_lt, Int.not_le, not_or, not_and, Classical.not_not, ne_eq, not_true_eq_false, not_false_eq_true, Nat.reduceAdd, Nat.zero_add] at hd0
        have hd1 := hc1
        try simp only [camB, rows9, lensB_true, Bool.and_eq_true, all3_true, pointB, dec_true, TX.sat, XB.prop, X.den, List.map_cons, List.map_nil, List.getElem?_cons_zero, List.getElem?_cons_succ, List.cons_append, List.nil_append, List.getD_cons_zero, List.getD_cons_succ, mkS, mkP, and_true, true_and, Int.not_lt, Int.not_le, not_or, not_and, Classical.not_not, ne_eq, not_true_eq_false, not_false_eq_true, Nat.reduceAdd, Nat.zero_add] at hd1
        have hd2 := hc2
        try simp only [camB, rows9, lensB_true, Bool.and_eq_true, all3_true, pointB, dec_true, TX.sat, XB.prop, X.den, List.map_cons, List.map_nil, List.getElem?_cons_zero, List.getElem?_cons_succ, List.cons_append, List.nil_append, List.getD_cons_zero, List.getD_cons_succ, mkS, mkP, and_true, true_and, Int.not_lt, Int.not_le, not_or, not_and, Classical.not_not, ne_eq, not_true_eq_false, not_false_eq_true, Nat.reduceAdd, Nat.zero_add] at hd2
        simp only [t_place, G_place, s_floor, TX.sat, XB.prop, X.den, List.map_cons, List.map_nil, List.getElem?_cons_zero, List.getElem?_cons_succ, List.cons_append, List.nil_append, List.getD_cons_zero, List.getD_cons_succ, mkS, mkP, and_true, true_and, Int.not_lt, Int.not_le, not_or, not_and, Classical.not_not, ne_eq, not_true_eq_false, not_false_eq_true, sem_floor, sem_place, placeL, hc0, hc1, hc2, ex3, ex4, ex5, ex6, ex13, ex16, er, b01, dec_true, if_true, if_false, reduceIte, Bool.false_eq_true, Nat.reduceAdd, Nat.zero_add]
        clear hc0 hc1 hc2
        repeat' first | exact trivial | refine And.intro ?_ ?_ | intro _
        all_goals first | trivial | rfl | omega | (simp [Int.max_comm, Int.min_comm]; done) | (simp only [List.cons.injEq, and_true, true_and]; omega) | (split <;> first | trivial | rfl | omega)
    · have hd0 := hc0
      try simp only [camB, rows9, lensB_true, Bool.and_eq_true, all3_true, pointB, dec_true, TX.sat, XB.prop, X.den, List.map_cons, List.map_nil, List.getElem?_cons_zero, List.getElem?_cons_succ, List.cons_append, List.nil_append, List.getD_cons_zero, List.getD_cons_succ, mkS, mkP, and_true, true_and, Int.not_lt, Int.not_le, not_or, not_and, Classical.not_not, ne_eq, not_true_eq_false, not_false_eq_true, Nat.reduceAdd, Nat.zero_add] at hd0
      have hd1 := hc1
      try simp only [camB, rows9, lensB_true, Bool.and_eq_true, all3_true, pointB, dec_true, TX.sat, XB.prop, X.den, List.map_cons, List.map_nil, List.getElem?_cons_zero, List.getElem?_cons_succ, List.cons_append, List.nil_append, List.getD_cons_zero, List.getD_cons_succ, mkS, mkP, and_true, true_and, Int.not_lt, Int.not_le, not_or, not_and, Classical.not_not, ne_eq, not_true_eq_false, not_false_eq_true, Nat.reduceAdd, Nat.zero_add] at hd1
      simp only [t_place, G_place, s_floor, TX.sat, XB.prop, X.den, List.map_cons, List.map_nil, List.getElem?_cons_zero, List.getElem?_cons_succ, List.cons_append, List.nil_append, List.getD_cons_zero, List.getD_cons_succ, mkS, mkP, and_true, true_and, Int.not_lt, Int.not_le, not_or, not_and, Classical.not_not, ne_eq, not_true_eq_false, not_false_eq_true, sem_floor, sem_place, placeL, hc0, hc1, ex3, ex4, ex5, ex6, ex13, ex16, er, b01, dec_true, if_true, if_false, reduceIte, Bool.false_eq_true, Nat.reduceAdd, Nat.zero_add]
      clear hc0 hc1
      repeat' first | exact trivial | refine And.intro ?_ ?_ | intro _
      all_goals first | trivial | rfl | omega | (simp [Int.max_comm, Int.min_comm]; done) | (simp only [List.cons.injEq, and_true, true_and]; omega) | (split <;> first | trivial | rfl | omega)
  · have hd0 := hc0
    try simp only [camB, rows9, lensB_true, Bool.and_eq_true, all3_true, pointB, dec_true, TX.sat, XB.prop, X.den, List.map_cons, List.map_nil, List.getElem?_cons_zero, List.getElem?_cons_succ, List.cons_append, List.nil_append, List.getD_cons_zero, List.getD_cons_succ, mkS, mkP, and_true, true_and, Int.not_lt, Int.not_le, not_or, not_and, Classical.not_not, ne_eq, not_true_eq_false, not_false_eq_true, Nat.reduceAdd, Nat.zero_add] at hd0
    simp only [t_place, G_place, s_floor, TX.sat, XB.prop, X.den, List.map_cons, List.map_nil, List.getElem?_cons_zero, List.getElem?_cons_succ, List.cons_append, List.nil_append, List.getD_cons_zero, List.getD_cons_succ, mkS, mkP, and_true, true_and, Int.not_lt, Int.not_le, not_or, not_and, Classical.not_not, ne_eq, not_true_eq_false, not_false_eq_true, sem_floor, sem_place, placeL, hc0, ex3, ex4, ex5, ex6, ex13, ex16, er, b01, dec_true, if_true, if_false, reduceIte, Bool.false_eq_true, Nat.reduceAdd, Nat.zero_add]
    clear hc0
    repeat' first | exact trivial | refine And.intro ?_ ?_ | intro _
    all_goals first | trivial | rfl | omega | (simp [Int.max_comm, Int.min_comm]; done) | (simp only [List.cons.injEq, and_true, true_and]; omega) | (split <;> first | trivial | rfl | omega))
theorem ok_rplace : s_rplace.ok Try.prog := Sum.ok_opt facts.mixed g_rplace o_rplace tree_rplace rfl (fun _ => rfl) (by
  intro xs hx hp
  obtain ⟨a0, a1, a2, a3, a4, a5, a6, a7, a8, a9, a10, a11, a12, a13, a14, a15, a16, a17, a18, a19, a20, rfl⟩ := len21 hx
  by_cases hc0 : camB [a0, a1, a2, a3, a4, a5, a6, a7, a8, a9, a10, a11, a12, a13, a14, a15, a16, a17, a18, a19, a20] 0 = true
  · by_cases hc1 : pointB [a0, a1, a2, a3, a4, a5, a6, a7, a8, a9, a10, a11, a12, a13, a14, a15, a16, a17, a18, a19, a20] 16 = true
    · by_cases hc2 : ¬ a18 < a13
      · have hd0 := hc0
        try simp only [camB, rows9, lensB_true, Bool.and_eq_true, all3_true, pointB, dec_true, TX.sat, XB.prop, X.den, List.map_cons, List.map_nil, List.getElem?_cons_zero, List.getElem?_cons_succ, List.cons_append, List.nil_append, List.getD_cons_zero, List.getD_cons_succ, mkS, mkP, and_true, true_and, Int.not_lt, Int.not_le, not_or, not_and, Classical.not_not, ne_eq, not_true_eq_false, not_false_eq_true, Nat.reduceAdd, Nat.zero_add] at hd0
        have hd1 := hc1
        try simp only [camB, rows9, lensB_true, Bool.and_eq_true, all3_true, pointB, dec_true, TX.sat, XB.prop, X.den, List.map_cons, List.map_nil, List.getElem?_cons_zero, List.getElem?_cons_succ, List.cons_append, List.nil_append, List.getD_cons_zero, List.getD_cons_succ, mkS, mkP, and_true, true_and, Int.not_lt, Int.not_le, not_or, not_and, Classical.not_not, ne_eq, not_true_eq_false, not_false_eq_true, Nat.reduceAdd, Nat.zero_add] at hd1
        have hd2 := hc2
        try simp only [camB, rows9, lensB_true, Bool.and_eq_true, all3_true, pointB, dec_true, TX.sat, XB.prop, X.den, List.map_cons, List.map_nil, List.getElem?_cons_zero, List.getElem?_cons_succ, List.cons_append, List.nil_append, List.getD_cons_zero, List.getD_cons_succ, mkS, mkP, and_true, true_and, Int.not_lt, Int.not_le, not_or, not_and, Classical.not_not, ne_eq, not_true_eq_false, not_false_eq_true, Nat.reduceAdd, Nat.zero_add] at hd2
        simp only [t_rplace, G_rplace, s_across, s_adown, TX.sat, XB.prop, X.den, List.map_cons, List.map_nil, List.getElem?_cons_zero, List.getElem?_cons_succ, List.cons_append, List.nil_append, List.getD_cons_zero, List.getD_cons_succ, mkS, mkP, and_true, true_and, Int.not_lt, Int.not_le, not_or, not_and, Classical.not_not, ne_eq, not_true_eq_false, not_false_eq_true, sem_place, sem_across, sem_adown, sem_rplace, placeL, hc0, hc1, hc2, ex3, ex4, ex5, ex6, ex13, ex16, er, b01, dec_true, if_true, if_false, reduceIte, Bool.false_eq_true, Nat.reduceAdd, Nat.zero_add]
        clear hc0 hc1 hc2
        repeat' first | exact trivial | refine And.intro ?_ ?_ | intro _
        all_goals first | trivial | rfl | omega | (simp [Int.max_comm, Int.min_comm]; done) | (simp only [List.cons.injEq, and_true, true_and]; omega) | (split <;> first | trivial | rfl | omega)
      · have hd0 := hc0
        try simp only [camB, rows9, lensB_true, Bool.and_eq_true, all3_true, pointB, dec_true, TX.sat, XB.prop, X.den, List.map_cons, List.map_nil, List.getElem?_cons_zero, List.getElem?_cons_succ, List.cons_append, List.nil_append, List.getD_cons_zero, List.getD_cons_succ, mkS, mkP, and_true, true_and, Int.not_lt, Int.not_le, not_or, not_and, Classical.not_not, ne_eq, not_true_eq_false, not_false_eq_true, Nat.reduceAdd, Nat.zero_add] at hd0
        have hd1 := hc1
        try simp only [camB, rows9, lensB_true, Bool.and_eq_true, all3_true, pointB, dec_true, TX.sat, XB.prop, X.den, List.map_cons, List.map_nil, List.getElem?_cons_zero, List.getElem?_cons_succ, List.cons_append, List.nil_append, List.getD_cons_zero, List.getD_cons_succ, mkS, mkP, and_true, true_and, Int.not_lt, Int.not_le, not_or, not_and, Classical.not_not, ne_eq, not_true_eq_false, not_false_eq_true, Nat.reduceAdd, Nat.zero_add] at hd1
        have hd2 := hc2
        try simp only [camB, rows9, lensB_true, Bool.and_eq_true, all3_true, pointB, dec_true, TX.sat, XB.prop, X.den, List.map_cons, List.map_nil, List.getElem?_cons_zero, List.getElem?_cons_succ, List.cons_append, List.nil_append, List.getD_cons_zero, List.getD_cons_succ, mkS, mkP, and_true, true_and, Int.not_lt, Int.not_le, not_or, not_and, Classical.not_not, ne_eq, not_true_eq_false, not_false_eq_true, Nat.reduceAdd, Nat.zero_add] at hd2
        simp only [t_rplace, G_rplace, s_across, s_adown, TX.sat, XB.prop, X.den, List.map_cons, List.map_nil, List.getElem?_cons_zero, List.getElem?_cons_succ, List.cons_append, List.nil_append, List.getD_cons_zero, List.getD_cons_succ, mkS, mkP, and_true, true_and, Int.not_lt, Int.not_le, not_or, not_and, Classical.not_not, ne_eq, not_true_eq_false, not_false_eq_true, sem_place, sem_across, sem_adown, sem_rplace, placeL, hc0, hc1, hc2, ex3, ex4, ex5, ex6, ex13, ex16, er, b01, dec_true, if_true, if_false, reduceIte, Bool.false_eq_true, Nat.reduceAdd, Nat.zero_add]
        clear hc0 hc1 hc2
        repeat' first | exact trivial | refine And.intro ?_ ?_ | intro _
        all_goals first | trivial | rfl | omega | (simp [Int.max_comm, Int.min_comm]; done) | (simp only [List.cons.injEq, and_true, true_and]; omega) | (split <;> first | trivial | rfl | omega)
    · have hd0 := hc0
      try simp only [camB, rows9, lensB_true, Bool.and_eq_true, all3_true, pointB, dec_true, TX.sat, XB.prop, X.den, List.map_cons, List.map_nil, List.getElem?_cons_zero, List.getElem?_cons_succ, List.cons_append, List.nil_append, List.getD_cons_zero, List.getD_cons_succ, mkS, mkP, and_true, true_and, Int.not_lt, Int.not_le, not_or, not_and, Classical.not_not, ne_eq, not_true_eq_false, not_false_eq_true, Nat.reduceAdd, Nat.zero_add] at hd0
      have hd1 := hc1
      try simp only [camB, rows9, lensB_true, Bool.and_eq_true, all3_true, pointB, dec_true, TX.sat, XB.prop, X.den, List.map_cons, List.map_nil, List.getElem?_cons_zero, List.getElem?_cons_succ, List.cons_append, List.nil_append, List.getD_cons_zero, List.getD_cons_succ, mkS, mkP, and_true, true_and, Int.not_lt, Int.not_le, not_or, not_and, Classical.not_not, ne_eq, not_true_eq_false, not_false_eq_true, Nat.reduceAdd, Nat.zero_add] at hd1
      simp only [t_rplace, G_rplace, s_across, s_adown, TX.sat, XB.prop, X.den, List.map_cons, List.map_nil, List.getElem?_cons_zero, List.getElem?_cons_succ, List.cons_append, List.nil_append, List.getD_cons_zero, List.getD_cons_succ, mkS, mkP, and_true, true_and, Int.not_lt, Int.not_le, not_or, not_and, Classical.not_not, ne_eq, not_true_eq_false, not_false_eq_true, sem_place, sem_across, sem_adown, sem_rplace, placeL, hc0, hc1, ex3, ex4, ex5, ex6, ex13, ex16, er, b01, dec_true, if_true, if_false, reduceIte, Bool.false_eq_true, Nat.reduceAdd, Nat.zero_add]
      clear hc0 hc1
      repeat' first | exact trivial | refine And.intro ?_ ?_ | intro _
      all_goals first | trivial | rfl | omega | (simp [Int.max_comm, Int.min_comm]; done) | (simp only [List.cons.injEq, and_true, true_and]; omega) | (split <;> first | trivial | rfl | omega)
  · have hd0 := hc0
    try simp only [camB, rows9, lensB_true, Bool.and_eq_true, all3_true, pointB, dec_true, TX.sat, XB.prop, X.den, List.map_cons, List.map_nil, List.getElem?_cons_zero, List.getElem?_cons_succ, List.cons_append, List.nil_append, List.getD_cons_zero, List.getD_cons_succ, mkS, mkP, and_true, true_and, Int.not_lt, Int.not_le, not_or, not_and, Classical.not_not, ne_eq, not_true_eq_false, not_false_eq_true, Nat.reduceAdd, Nat.zero_add] at hd0
    simp only [t_rplace, G_rplace, s_across, s_adown, TX.sat, XB.prop, X.den, List.map_cons, List.map_nil, List.getElem?_cons_zero, List.getElem?_cons_succ, List.cons_append, List.nil_append, List.getD_cons_zero, List.getD_cons_succ, mkS, mkP, and_true, true_and, Int.not_lt, Int.not_le, not_or, not_and, Classical.not_not, ne_eq, not_true_eq_false, not_false_eq_true, sem_place, sem_across, sem_adown, sem_rplace, placeL, hc0, ex3, ex4, ex5, ex6, ex13, ex16, er, b01, dec_true, if_true, if_false, reduceIte, Bool.false_eq_true, Nat.reduceAdd, Nat.zero_add]
    clear hc0
    repeat' first | exact trivial | refine And.intro ?_ ?_ | intro _
    all_goals first | trivial | rfl | omega | (simp [Int.max_comm, Int.min_comm]; done) | (simp only [List.cons.injEq, and_true, true_and]; omega) | (split <;> first | trivial | rfl | omega))
theorem grow_near {f n z : Int} (hf : 0 ≤ f ∧ f ≤ 64) (hn : -32768 ≤ n ∧ n ≤ 32768) (hz : 256 ≤ z) : -65536 ≤ 8 * f * n / z ∧ 8 * f * n / z ≤ 65536 := by
  have := mul_abs_le (x := 8 * f) (y := n) (m := 512) (n := 32768) (by omega) hn
  constructor
  · rw [Int.le_ediv_iff_mul_le (by omega)]
    omega
  · apply Int.ediv_le_of_le_mul (by omega)
    omega
theorem camB_lens {x : List Int} (h : camB x 0 = true) : (1 ≤ x.getD 12 0 ∧ x.getD 12 0 ≤ 64) ∧ (256 ≤ x.getD 13 0 ∧ x.getD 13 0 ≤ 4096) ∧ (1 ≤ x.getD 14 0 ∧ x.getD 14 0 ≤ 64) ∧ (1 ≤ x.getD 15 0 ∧ x.getD 15 0 ≤ 64) := by
  simp only [camB, Bool.and_eq_true, lensB_true, Nat.reduceAdd, Nat.zero_add] at h
  exact h.2.2
theorem point_in {x : List Int} (h : pointB x 16 = true) : (-32768 ≤ x.getD 16 0 ∧ x.getD 16 0 ≤ 32768) ∧ (-32768 ≤ x.getD 17 0 ∧ x.getD 17 0 ≤ 32768) ∧ (-32768 ≤ x.getD 18 0 ∧ x.getD 18 0 ≤ 32768) ∧ (0 ≤ x.getD 19 0 ∧ x.getD 19 0 ≤ 255) ∧ (0 ≤ x.getD 20 0 ∧ x.getD 20 0 ≤ 255) := by
  simp only [pointB, Bool.and_eq_true, all3_true, dec_true, Nat.reduceAdd] at h
  exact ⟨h.1.1, h.1.2.1, h.1.2.2, h.2.1, h.2.2⟩
theorem inf_place : InfOK s_place i_place := ⟨fun _ h => h, fun vs xs h hp => by
  show vsOK (ivs 2 (-65792) 65792 ++ [iv 0 65536] ++ ivs 2 0 255 ++ [iv 0 150]) (ex6 (placeL xs))
  have z : ∀ e : Int, 0 ≤ e → e ≤ 150 → vsOK (ivs 2 (-65792) 65792 ++ [iv 0 65536] ++ ivs 2 0 255 ++ [iv 0 150]) (ex6 [0, 0, 0, 0, 0, e]) := fun e h1 h2 =>
    vsOK_cons (iv_def.2 (by simp)) (vsOK_cons (iv_def.2 (by simp)) (vsOK_cons (iv_def.2 (by simp)) (vsOK_cons (iv_def.2 (by simp)) (vsOK_cons (iv_def.2 (by simp)) (vsOK_cons ⟨h1, h2⟩ vsOK_nil)))))
  unfold placeL
  split
  · rename_i hc
    split
    · rename_i hpt
      split
      · exact z 6 (by omega) (by omega)
      · rename_i hz
        obtain ⟨k1, k2, k3, k4⟩ := camB_lens hc
        obtain ⟨j1, j2, j3, j4, j5⟩ := point_in hpt
        have m1 := grow_near (f := xs.getD 12 0) (z := xs.getD 18 0) (by omega) j1 (by omega)
        have m2 := grow_near (f := xs.getD 12 0) (z := xs.getD 18 0) (by omega) j2 (by omega)
        have m3 : 0 ≤ (16777216 : Int).tdiv (xs.getD 18 0) ∧ (16777216 : Int).tdiv (xs.getD 18 0) ≤ 65536 := by
          rw [tdiv_pos (by omega) (by omega)]
          constructor
          · rw [Int.le_ediv_iff_mul_le (by omega)]; omega
          · apply Int.ediv_le_of_le_mul (by omega); omega
        have w1 : -65792 ≤ 8 * xs.getD 12 0 * xs.getD 16 0 / xs.getD 18 0 + 4 * xs.getD 14 0 ∧ 8 * xs.getD 12 0 * xs.getD 16 0 / xs.getD 18 0 + 4 * xs.getD 14 0 ≤ 65792 := by omega
        have w2 : -65792 ≤ 4 * xs.getD 15 0 - 8 * xs.getD 12 0 * xs.getD 17 0 / xs.getD 18 0 ∧ 4 * xs.getD 15 0 - 8 * xs.getD 12 0 * xs.getD 17 0 / xs.getD 18 0 ≤ 65792 := by omega
        exact vsOK_cons w1 (vsOK_cons w2 (vsOK_cons m3 (vsOK_cons j4 (vsOK_cons j5 (vsOK_cons (iv_def.2 (by simp)) vsOK_nil)))))
    · exact z 8 (by omega) (by omega)
  · exact z 150 (by omega) (by omega)⟩
theorem inf_rplace : InfOK s_rplace i_rplace := inf_place
def G_alive20 : List Sum := []
def I_alive20 : List Inf := []
def t_alive20 : TX := (.ret [(.c 1)])
theorem tree_alive20 : merge (opt I_alive20 pin_alive20 (symFn Try.prog G_alive20 1000 52 [] [Bo])) = t_alive20 := by kernel_rfl
theorem g_alive20 : Gok Try.prog G_alive20 := noG
theorem o_alive20 : outsOK G_alive20 I_alive20 := outsOK_nil
theorem ok_alive20 : s_alive20.ok Try.prog := Sum.ok_opt facts.mixed g_alive20 o_alive20 tree_alive20 rfl (fun _ => rfl) (fun xs hx hp => rfl)
theorem inf_alive20 : InfOK s_alive20 i_alive20 := ⟨fun _ h => h, fun _ _ _ _ => vsOK_cons ⟨by decide, by decide⟩ vsOK_nil⟩
end Go.Proofs.Ytlgcjkolakcfiaa.fix
