/-
  What the functions on spans come to.
-/
import Derived.Test.YtlgcjkolakcfiaaDefsF
set_option linter.unusedVariables false
set_option linter.unusedSimpArgs false
namespace Go.Proofs.Ytlgcjkolakcfiaa.fix
open Go.RowKit Go.Sx

def G_floorG : List Sum := []
def I_floorG : List Inf := []
def t_floorG : TX := (.ite (.lt (.v 1) (.c 1)) (.ret [(.c 0), (.c 2)])
(.ite (.lt (.rem (.v 0) (.v 1)) (.c 0)) (.ret [(.wr .i64 (.sub (.quo (.v 0) (.v 1)) (.c 1))), (.c 0)])
(.ret [(.quo (.v 0) (.v 1)), (.c 0)])))
theorem tree_floorG : merge (opt I_floorG pin_floorG (symFn Try.prog G_floorG 1000 36 [I1, I1] [I1, I1])) = t_floorG := by kernel_rfl
theorem g_floorG : Gok Try.prog G_floorG := noG
theorem o_floorG : outsOK G_floorG I_floorG := outsOK_nil
theorem ok_floorG : s_floorG.ok Try.prog := Sum.ok_opt facts.mixed g_floorG o_floorG tree_floorG rfl (fun _ => rfl) (by
  intro xs hx hp
  obtain ⟨a, b, rfl⟩ := len2 hx
  have ha : In64 a := hp.2 0
  rcases Int.lt_or_le b 1 with hb | hb
  · simp only [t_floorG, TX.sat, XB.prop, X.den, List.map_cons, List.map_nil, List.getElem?_cons_zero, List.getElem?_cons_succ, List.cons_append, List.nil_append, List.getD_cons_zero, List.getD_cons_succ, mkS, mkP, and_true, true_and, Int.not_lt, Int.not_le, not_or, not_and, Classical.not_not, ne_eq, not_true_eq_false, not_false_eq_true, sem_floorG, floorGL, hb, if_true, reduceIte]
    repeat' first | exact trivial | refine And.intro ?_ ?_ | intro _
    all_goals first | trivial | omega
  · have h0 : ¬ b < 1 := by omega
    have hd := div_range (a := a) (b := b) (l := -9223372036854775808) (h := 9223372036854775807) (by omega) (by omega) (by omega) ha.1 ha.2
    simp only [t_floorG, TX.sat, XB.prop, X.den, List.map_cons, List.map_nil, List.getElem?_cons_zero, List.getElem?_cons_succ, List.cons_append, List.nil_append, List.getD_cons_zero, List.getD_cons_succ, mkS, mkP, and_true, true_and, Int.not_lt, Int.not_le, not_or, not_and, Classical.not_not, ne_eq, not_true_eq_false, not_false_eq_true, sem_floorG, floorGL, h0, if_false, reduceIte]
    first
      | (refine ⟨fun h => absurd h (by omega), fun _ => ⟨fun h => ?_, fun h => ?_⟩⟩
         · rw [floor_neg (by omega) h, wrap64 hd.1 hd.2]
         · rw [floor_pos (by omega) h])
      | (refine ⟨fun h => h.elim, fun _ => ⟨fun h => ?_, fun h => ?_⟩⟩
         · rw [floor_neg (by omega) h, wrap64 hd.1 hd.2]
         · rw [floor_pos (by omega) h])
      | (refine ⟨fun h => ?_, fun h => ?_⟩
         · rw [floor_neg (by omega) h, wrap64 hd.1 hd.2]
         · rw [floor_pos (by omega) h]))
theorem inf_floorG : InfOK s_floorG i_floorG := ⟨fun _ h => h, fun vs xs h hp => by
  show vsOK [hull0 (vs.getD 0 none), iv 0 2] [(floorGL xs).getD 0 0, (floorGL xs).getD 1 0]
  unfold floorGL
  split
  · refine vsOK_cons ?_ (vsOK_cons (iv_def.2 (by simp)) vsOK_nil)
    cases vs.getD 0 none with
    | none => trivial
    | some v => exact ⟨by show min v.lo 0 ≤ 0; omega, by show 0 ≤ max v.hi 0; omega⟩
  · exact vsOK_cons (hull0_div (by omega) (h.2 0)) (vsOK_cons (iv_def.2 (by simp)) vsOK_nil)⟩
def G_fcheck : List Sum := []
def I_fcheck : List Inf := []
def t_fcheck : TX := (.ite (.or (.or (.lt (.v 0) (.c (-1099511627776))) (.lt (.c 1099511627776) (.v 1))) (.lt (.v 1) (.v 0))) (.ret [(.c 8)])
(.ret [(.c 0)]))
theorem tree_fcheck : merge (opt I_fcheck pin_fcheck (symFn Try.prog G_fcheck 1000 61 [An 2] [I1])) = t_fcheck := by kernel_rfl
theorem g_fcheck : Gok Try.prog G_fcheck := noG
theorem o_fcheck : outsOK G_fcheck I_fcheck := outsOK_nil
theorem ok_fcheck : s_fcheck.ok Try.prog := Sum.ok_opt facts.mixed g_fcheck o_fcheck tree_fcheck rfl (fun _ => rfl) (by
  intro xs hx hp
  obtain ⟨a0, a1, rfl⟩ := len2 hx
  by_cases hc0 : spanB [a0, a1] 0 = true
  · have hd0 := hc0
    try simp only [spanB_true, TX.sat, XB.prop, X.den, List.map_cons, List.map_nil, List.getElem?_cons_zero, List.getElem?_cons_succ, List.cons_append, List.nil_append, List.getD_cons_zero, List.getD_cons_succ, mkS, mkP, and_true, true_and, Int.not_lt, Int.not_le, not_or, not_and, Classical.not_not, ne_eq, not_true_eq_false, not_false_eq_true, Nat.reduceAdd, Nat.zero_add] at hd0
    simp only [t_fcheck, G_fcheck, TX.sat, XB.prop, X.den, List.map_cons, List.map_nil, List.getElem?_cons_zero, List.getElem?_cons_succ, List.cons_append, List.nil_append, List.getD_cons_zero, List.getD_cons_succ, mkS, mkP, and_true, true_and, Int.not_lt, Int.not_le, not_or, not_and, Classical.not_not, ne_eq, not_true_eq_false, not_false_eq_true, sem_fcheck, hc0, ex3, ex4, ex5, ex6, ex13, ex16, er, b01, dec_true, if_true, if_false, reduceIte, Bool.false_eq_true, Nat.reduceAdd, Nat.zero_add]
    clear hc0
    repeat' first | exact trivial | refine And.intro ?_ ?_ | intro _
    all_goals first | trivial | rfl | omega | (simp [Int.max_comm, Int.min_comm]; done) | (simp only [List.cons.injEq, and_true, true_and]; omega) | (split <;> first | trivial | rfl | omega)
  · have hd0 := hc0
    try simp only [spanB_true, TX.sat, XB.prop, X.den, List.map_cons, List.map_nil, List.getElem?_cons_zero, List.getElem?_cons_succ, List.cons_append, List.nil_append, List.getD_cons_zero, List.getD_cons_succ, mkS, mkP, and_true, true_and, Int.not_lt, Int.not_le, not_or, not_and, Classical.not_not, ne_eq, not_true_eq_false, not_false_eq_true, Nat.reduceAdd, Nat.zero_add] at hd0
    simp only [t_fcheck, G_fcheck, TX.sat, XB.prop, X.den, List.map_cons, List.map_nil, List.getElem?_cons_zero, List.getElem?_cons_succ, List.cons_append, List.nil_append, List.getD_cons_zero, List.getD_cons_succ, mkS, mkP, and_true, true_and, Int.not_lt, Int.not_le, not_or, not_and, Classical.not_not, ne_eq, not_true_eq_false, not_false_eq_true, sem_fcheck, hc0, ex3, ex4, ex5, ex6, ex13, ex16, er, b01, dec_true, if_true, if_false, reduceIte, Bool.false_eq_true, Nat.reduceAdd, Nat.zero_add]
    clear hc0
    repeat' first | exact trivial | refine And.intro ?_ ?_ | intro _
    all_goals first | trivial | rfl | omega | (simp [Int.max_comm, Int.min_comm]; done) | (simp only [List.cons.injEq, and_true, true_and]; omega) | (split <;> first | trivial | rfl | omega))
theorem inf_fcheck : InfOK s_fcheck i_fcheck := ⟨fun _ h => h, fun vs xs h hp => vsOK_cons (er_iv _ (by omega)) vsOK_nil⟩
def G_fholds : List Sum := []
def I_fholds : List Inf := []
def t_fholds : TX := (.ite (.and (.le (.v 0) (.v 2)) (.le (.v 2) (.v 1))) (.ret [(.c 1)])
(.ret [(.c 0)]))
theorem tree_fholds : merge (opt I_fholds pin_fholds (symFn Try.prog G_fholds 1000 63 [An 2, I1] [Bo])) = t_fholds := by kernel_rfl
theorem g_fholds : Gok Try.prog G_fholds := noG
theorem o_fholds : outsOK G_fholds I_fholds := outsOK_nil
theorem ok_fholds : s_fholds.ok Try.prog := Sum.ok_opt facts.mixed g_fholds o_fholds tree_fholds rfl (fun _ => rfl) (by
  intro xs hx hp
  obtain ⟨a0, a1, a2, rfl⟩ := len3 hx
  simp only [t_fholds, G_fholds, TX.sat, XB.prop, X.den, List.map_cons, List.map_nil, List.getElem?_cons_zero, List.getElem?_cons_succ, List.cons_append, List.nil_append, List.getD_cons_zero, List.getD_cons_succ, mkS, mkP, and_true, true_and, Int.not_lt, Int.not_le, not_or, not_and, Classical.not_not, ne_eq, not_true_eq_false, not_false_eq_true, holdsB, dec_true, sem_fholds, ex3, ex4, ex5, ex6, ex13, ex16, er, b01, dec_true, if_true, if_false, reduceIte, Bool.false_eq_true, Nat.reduceAdd, Nat.zero_add]
  repeat' first | exact trivial | refine And.intro ?_ ?_ | intro _
  all_goals first | trivial | rfl | omega | (simp [Int.max_comm, Int.min_comm]; done) | (simp only [List.cons.injEq, and_true, true_and]; omega) | (split <;> first | trivial | rfl | omega))
theorem inf_fholds : InfOK s_fholds i_fholds := ⟨fun _ h => h, fun vs xs h hp => vsOK_cons (b01_iv _) vsOK_nil⟩
theorem wide_e {e : Int} (h1 : 0 ≤ e) (h2 : e ≤ 20) : vsOK wide (ex3 [0, 0, e]) := vsOK_cons (iv_def.2 (by simp)) (vsOK_cons (iv_def.2 (by simp)) (vsOK_cons ⟨h1, h2⟩ vsOK_nil))
theorem wide_ok {a b : Int} (h : spanB [a, b] 0 = true) : vsOK wide [a, b, 0] := by
  rw [spanB_true] at h
  have h' : -1099511627776 ≤ a ∧ b ≤ 1099511627776 ∧ a ≤ b := h
  have k1 : -1099511627776 ≤ a ∧ a ≤ 1099511627776 := by omega
  have k2 : -1099511627776 ≤ b ∧ b ≤ 1099511627776 := by omega
  exact vsOK_cons k1 (vsOK_cons k2 (vsOK_cons (iv_def.2 (by simp)) vsOK_nil))
def G_fadd : List Sum := []
def I_fadd : List Inf := []
def t_fadd : TX := (.ite (.or (.or (.or (.lt (.v 0) (.c (-1099511627776))) (.lt (.c 1099511627776) (.v 1))) (.lt (.v 1) (.v 0))) (.or (.or (.lt (.v 2) (.c (-1099511627776))) (.lt (.c 1099511627776) (.v 3))) (.lt (.v 3) (.v 2)))) (.ret [(.c 0), (.c 0), (.c 8)])
(.ite (.or (.or (.lt (.add (.v 0) (.v 2)) (.c (-1099511627776))) (.lt (.c 1099511627776) (.add (.v 1) (.v 3)))) (.lt (.add (.v 1) (.v 3)) (.add (.v 0) (.v 2)))) (.ret [(.c 0), (.c 0), (.c 20)])
(.ret [(.add (.v 0) (.v 2)), (.add (.v 1) (.v 3)), (.c 0)])))
theorem tree_fadd : merge (opt I_fadd pin_fadd (symFn Try.prog G_fadd 1000 53 [An 2, An 2] [An 2, I1])) = t_fadd := by kernel_rfl
theorem g_fadd : Gok Try.prog G_fadd := noG
theorem o_fadd : outsOK G_fadd I_fadd := outsOK_nil
theorem ok_fadd : s_fadd.ok Try.prog := Sum.ok_opt facts.mixed g_fadd o_fadd tree_fadd rfl (fun _ => rfl) (by
  intro xs hx hp
  obtain ⟨a0, a1, a2, a3, rfl⟩ := len4 hx
  by_cases hc0 : spanB [a0, a1, a2, a3] 0 = true
  · by_cases hc1 : spanB [a0, a1, a2, a3] 2 = true
    · by_cases hc2 : spanB [a0 + a2, a1 + a3] 0 = true
      · have hd0 := hc0
        try simp only [spanB_true, TX.sat, XB.prop, X.den, List.map_cons, List.map_nil, List.getElem?_cons_zero, List.getElem?_cons_succ, List.cons_append, List.nil_append, List.getD_cons_zero, List.getD_cons_succ, mkS, mkP, and_true, true_and, Int.not_lt, Int.not_le, not_or, not_and, Classical.not_not, ne_eq, not_true_eq_false, not_false_eq_true, Nat.reduceAdd, Nat.zero_add] at hd0
        have hd1 := hc1
        try simp only [spanB_true, TX.sat, XB.prop, X.den, List.map_cons, List.map_nil, List.getElem?_cons_zero, List.getElem?_cons_succ, List.cons_append, List.nil_append, List.getD_cons_zero, List.getD_cons_succ, mkS, mkP, and_true, true_and, Int.not_lt, Int.not_le, not_or, not_and, Classical.not_not, ne_eq, not_true_eq_false, not_false_eq_true, Nat.reduceAdd, Nat.zero_add] at hd1
        have hd2 := hc2
        try simp only [spanB_true, TX.sat, XB.prop, X.den, List.map_cons, List.map_nil, List.getElem?_cons_zero, List.getElem?_cons_succ, List.cons_append, List.nil_append, List.getD_cons_zero, List.getD_cons_succ, mkS, mkP, and_true, true_and, Int.not_lt, Int.not_le, not_or, not_and, Classical.not_not, ne_eq, not_true_eq_false, not_false_eq_true, Nat.reduceAdd, Nat.zero_add] at hd2
        simp only [t_fadd, G_fadd, TX.sat, XB.prop, X.den, List.map_cons, List.map_nil, List.getElem?_cons_zero, List.getElem?_cons_succ, List.cons_append, List.nil_append, List.getD_cons_zero, List.getD_cons_succ, mkS, mkP, and_true, true_and, Int.not_lt, Int.not_le, not_or, not_and, Classical.not_not, ne_eq, not_true_eq_false, not_false_eq_true, sem_fadd, faddL, hc0, hc1, hc2, ex3, ex4, ex5, ex6, ex13, ex16, er, b01, dec_true, if_true, if_false, reduceIte, Bool.false_eq_true, Nat.reduceAdd, Nat.zero_add]
        clear hc0 hc1 hc2
        repeat' first | exact trivial | refine And.intro ?_ ?_ | intro _
        all_goals first | trivial | rfl | omega | (simp [Int.max_comm, Int.min_comm]; done) | (simp only [List.cons.injEq, and_true, true_and]; omega) | (split <;> first | trivial | rfl | omega)
      · have hd0 := hc0
        try simp only [spanB_true, TX.sat, XB.prop, X.den, List.map_cons, List.map_nil, List.getElem?_cons_zero, List.getElem?_cons_succ, List.cons_append, List.nil_append, List.getD_cons_zero, List.getD_cons_succ, mkS, mkP, and_true, true_and, Int.not_lt, Int.not_le, not_or, not_and, Classical.not_not, ne_eq, not_true_eq_false, not_false_eq_true, Nat.reduceAdd, Nat.zero_add] at hd0
        have hd1 := hc1
        try simp only [spanB_true, TX.sat, XB.prop, X.den, List.map_cons, List.map_nil, List.getElem?_cons_zero, List.getElem?_cons_succ, List.cons_append, List.nil_append, List.getD_cons_zero, List.getD_cons_succ, mkS, mkP, and_true, true_and, Int.not_lt, Int.not_le, not_or, not_and, Classical.not_not, ne_eq, not_true_eq_false, not_false_eq_true, Nat.reduceAdd, Nat.zero_add] at hd1
        have hd2 := hc2
        try simp only [spanB_true, TX.sat, XB.prop, X.den, List.map_cons, List.map_nil, List.getElem?_cons_zero, List.getElem?_cons_succ, List.cons_append, List.nil_append, List.getD_cons_zero, List.getD_cons_succ, mkS, mkP, and_true, true_and, Int.not_lt, Int.not_le, not_or, not_and, Classical.not_not, ne_eq, not_true_eq_false, not_false_eq_true, Nat.reduceAdd, Nat.zero_add] at hd2
        simp only [t_fadd, G_fadd, TX.sat, XB.prop, X.den, List.map_cons, List.map_nil, List.getElem?_cons_zero, List.getElem?_cons_succ, List.cons_append, List.nil_append, List.getD_cons_zero, List.getD_cons_succ, mkS, mkP, and_true, true_and, Int.not_lt, Int.not_le, not_or, not_and, Classical.not_not, ne_eq, not_true_eq_false, not_false_eq_true, sem_fadd, faddL, hc0, hc1, hc2, ex3, ex4, ex5, ex6, ex13, ex16, er, b01, dec_true, if_true, if_false, reduceIte, Bool.false_eq_true, Nat.reduceAdd, Nat.zero_add]
        clear hc0 hc1 hc2
        repeat' first | exact trivial | refine And.intro ?_ ?_ | intro _
        all_goals first | trivial | rfl | omega | (simp [Int.max_comm, Int.min_comm]; done) | (simp only [List.cons.injEq, and_true, true_and]; omega) | (split <;> first | trivial | rfl | omega)
    · have hd0 := hc0
      try simp only [spanB_true, TX.sat, XB.prop, X.den, List.map_cons, List.map_nil, List.getElem?_cons_zero, List.getElem?_cons_succ, List.cons_append, List.nil_append, List.getD_cons_zero, List.getD_cons_succ, mkS, mkP, and_true, true_and, Int.not_lt, Int.not_le, not_or, not_and, Classical.not_not, ne_eq, not_true_eq_false, not_false_eq_true, Nat.reduceAdd, Nat.zero_add] at hd0
      have hd1 := hc1
      try simp only [spanB_true, TX.sat, XB.prop, X.den, List.map_cons, List.map_nil, List.getElem?_cons_zero, List.getElem?_cons_succ, List.cons_append, List.nil_append, List.getD_cons_zero, List.getD_cons_succ, mkS, mkP, and_true, true_and, Int.not_lt, Int.not_le, not_or, not_and, Classical.not_not, ne_eq, not_true_eq_false, not_false_eq_true, Nat.reduceAdd, Nat.zero_add] at hd1
      simp only [t_fadd, G_fadd, TX.sat, XB.prop, X.den, List.map_cons, List.map_nil, List.getElem?_cons_zero, List.getElem?_cons_succ, List.cons_append, List.nil_append, List.getD_cons_zero, List.getD_cons_succ, mkS, mkP, and_true, true_and, Int.not_lt, Int.not_le, not_or, not_and, Classical.not_not, ne_eq, not_true_eq_false, not_false_eq_true, sem_fadd, faddL, hc0, hc1, ex3, ex4, ex5, ex6, ex13, ex16, er, b01, dec_true, if_true, if_false, reduceIte, Bool.false_eq_true, Nat.reduceAdd, Nat.zero_add]
      clear hc0 hc1
      repeat' first | exact trivial | refine And.intro ?_ ?_ | intro _
      all_goals first | trivial | rfl | omega | (simp [Int.max_comm, Int.min_comm]; done) | (simp only [List.cons.injEq, and_true, true_and]; omega) | (split <;> first | trivial | rfl | omega)
  · have hd0 := hc0
    try simp only [spanB_true, TX.sat, XB.prop, X.den, List.map_cons, List.map_nil, List.getElem?_cons_zero, List.getElem?_cons_succ, List.cons_append, List.nil_append, List.getD_cons_zero, List.getD_cons_succ, mkS, mkP, and_true, true_and, Int.not_lt, Int.not_le, not_or, not_and, Classical.not_not, ne_eq, not_true_eq_false, not_false_eq_true, Nat.reduceAdd, Nat.zero_add] at hd0
    simp only [t_fadd, G_fadd, TX.sat, XB.prop, X.den, List.map_cons, List.map_nil, List.getElem?_cons_zero, List.getElem?_cons_succ, List.cons_append, List.nil_append, List.getD_cons_zero, List.getD_cons_succ, mkS, mkP, and_true, true_and, Int.not_lt, Int.not_le, not_or, not_and, Classical.not_not, ne_eq, not_true_eq_false, not_false_eq_true, sem_fadd, faddL, hc0, ex3, ex4, ex5, ex6, ex13, ex16, er, b01, dec_true, if_true, if_false, reduceIte, Bool.false_eq_true, Nat.reduceAdd, Nat.zero_add]
    clear hc0
    repeat' first | exact trivial | refine And.intro ?_ ?_ | intro _
    all_goals first | trivial | rfl | omega | (simp [Int.max_comm, Int.min_comm]; done) | (simp only [List.cons.injEq, and_true, true_and]; omega) | (split <;> first | trivial | rfl | omega))
theorem inf_fadd : InfOK s_fadd i_fadd := ⟨fun _ h => h, fun vs xs h hp => by
  show vsOK wide (ex3 (faddL xs))
  unfold faddL
  split
  · split
    · split
      · rename_i hs
        exact wide_ok hs
      · exact wide_e (by omega) (by omega)
    · exact wide_e (by omega) (by omega)
  · exact wide_e (by omega) (by omega)⟩
def G_fscale : List Sum := []
def I_fscale : List Inf := []
def t_fscale : TX := (.ite (.or (.or (.lt (.v 0) (.c (-1099511627776))) (.lt (.c 1099511627776) (.v 1))) (.lt (.v 1) (.v 0))) (.ret [(.c 0), (.c 0), (.c 8)])
(.ite (.or (.lt (.v 2) (.c (-1048576))) (.lt (.c 1048576) (.v 2))) (.ret [(.c 0), (.c 0), (.c 2)])
(.ite (.lt (.v 2) (.c 0)) (.ite (.or (.or (.lt (.mul (.v 2) (.v 1)) (.c (-1099511627776))) (.lt (.c 1099511627776) (.mul (.v 2) (.v 0)))) (.lt (.mul (.v 2) (.v 0)) (.mul (.v 2) (.v 1)))) (.ret [(.c 0), (.c 0), (.c 20)])
(.ret [(.mul (.v 2) (.v 1)), (.mul (.v 2) (.v 0)), (.c 0)]))
(.ite (.or (.or (.lt (.mul (.v 2) (.v 0)) (.c (-1099511627776))) (.lt (.c 1099511627776) (.mul (.v 2) (.v 1)))) (.lt (.mul (.v 2) (.v 1)) (.mul (.v 2) (.v 0)))) (.ret [(.c 0), (.c 0), (.c 20)])
(.ret [(.mul (.v 2) (.v 0)), (.mul (.v 2) (.v 1)), (.c 0)])))))
theorem tree_fscale : merge (opt I_fscale pin_fscale (symFn Try.prog G_fscale 1000 55 [An 2, I1] [An 2, I1])) = t_fscale := by kernel_rfl
theorem g_fscale : Gok Try.prog G_fscale := noG
theorem o_fscale : outsOK G_fscale I_fscale := outsOK_nil
theorem ok_fscale : s_fscale.ok Try.prog := Sum.ok_opt facts.mixed g_fscale o_fscale tree_fscale rfl (fun _ => rfl) (by
  intro xs hx hp
  obtain ⟨a0, a1, a2, rfl⟩ := len3 hx
  have hm1 : a0 ≤ a1 → 0 ≤ a2 → a2 * a0 ≤ a2 * a1 := fun h h' => Int.mul_le_mul_of_nonneg_left h h'
  have hm2 : a0 ≤ a1 → a2 < 0 → a2 * a1 ≤ a2 * a0 := fun h h' => Int.mul_le_mul_of_nonpos_left (by omega) h
  by_cases hc0 : spanB [a0, a1, a2] 0 = true
  · by_cases hc1 : (-1048576 ≤ a2 ∧ a2 ≤ 1048576)
    · by_cases hc2 : spanB [min (a2 * a0) (a2 * a1), max (a2 * a0) (a2 * a1), 0] 0 = true
      · have hd0 := hc0
        try simp only [spanB_true, scB, TX.sat, XB.prop, X.den, List.map_cons, List.map_nil, List.getElem?_cons_zero, List.getElem?_cons_succ, List.cons_append, List.nil_append, List.getD_cons_zero, List.getD_cons_succ, mkS, mkP, and_true, true_and, Int.not_lt, Int.not_le, not_or, not_and, Classical.not_not, ne_eq, not_true_eq_false, not_false_eq_true, Nat.reduceAdd, Nat.zero_add] at hd0
        have hd1 := hc1
        try simp only [spanB_true, scB, TX.sat, XB.prop, X.den, List.map_cons, List.map_nil, List.getElem?_cons_zero, List.getElem?_cons_succ, List.cons_append, List.nil_append, List.getD_cons_zero, List.getD_cons_succ, mkS, mkP, and_true, true_and, Int.not_lt, Int.not_le, not_or, not_and, Classical.not_not, ne_eq, not_true_eq_false, not_false_eq_true, Nat.reduceAdd, Nat.zero_add] at hd1
        have hd2 := hc2
        try simp only [spanB_true, scB, TX.sat, XB.prop, X.den, List.map_cons, List.map_nil, List.getElem?_cons_zero, List.getElem?_cons_succ, List.cons_append, List.nil_append, List.getD_cons_zero, List.getD_cons_succ, mkS, mkP, and_true, true_and, Int.not_lt, Int.not_le, not_or, not_and, Classical.not_not, ne_eq, not_true_eq_false, not_false_eq_true, Nat.reduceAdd, Nat.zero_add] at hd2
        simp only [t_fscale, G_fscale, TX.sat, XB.prop, X.den, List.map_cons, List.map_nil, List.getElem?_cons_zero, List.getElem?_cons_succ, List.cons_append, List.nil_append, List.getD_cons_zero, List.getD_cons_succ, mkS, mkP, and_true, true_and, Int.not_lt, Int.not_le, not_or, not_and, Classical.not_not, ne_eq, not_true_eq_false, not_false_eq_true, scB, sem_fscale, fscaleL, hc0, hc1, hc2, ex3, ex4, ex5, ex6, ex13, ex16, er, b01, dec_true, if_true, if_false, reduceIte, Bool.false_eq_true, Nat.reduceAdd, Nat.zero_add]
        clear hc0 hc1 hc2
        repeat' first | exact trivial | refine And.intro ?_ ?_ | intro _
        all_goals first | trivial | rfl | omega | (simp [Int.max_comm, Int.min_comm]; done) | (simp only [List.cons.injEq, and_true, true_and]; omega) | (split <;> first | trivial | rfl | omega)
      · have hd0 := hc0
        try simp only [spanB_true, scB, TX.sat, XB.prop, X.den, List.map_cons, List.map_nil, List.getElem?_cons_zero, List.getElem?_cons_succ, List.cons_append, List.nil_append, List.getD_cons_zero, List.getD_cons_succ, mkS, mkP, and_true, true_and, Int.not_lt, Int.not_le, not_or, not_and, Classical.not_not, ne_eq, not_true_eq_false, not_false_eq_true, Nat.reduceAdd, Nat.zero_add] at hd0
        have hd1 := hc1
        try simp only [spanB_true, scB, TX.sat, XB.prop, X.den, List.map_cons, List.map_nil, List.getElem?_cons_zero, List.getElem?_cons_succ, List.cons_append, List.nil_append, List.getD_cons_zero, List.getD_cons_succ, mkS, mkP, and_true, true_and, Int.not_lt, Int.not_le, not_or, not_and, Classical.not_not, ne_eq, not_true_eq_false, not_false_eq_true, Nat.reduceAdd, Nat.zero_add] at hd1
        have hd2 := hc2
        try simp only [spanB_true, scB, TX.sat, XB.prop, X.den, List.map_cons, List.map_nil, List.getElem?_cons_zero, List.getElem?_cons_succ, List.cons_append, List.nil_append, List.getD_cons_zero, List.getD_cons_succ, mkS, mkP, and_true, true_and, Int.not_lt, Int.not_le, not_or, not_and, Classical.not_not, ne_eq, not_true_eq_false, not_false_eq_true, Nat.reduceAdd, Nat.zero_add] at hd2
        simp only [t_fscale, G_fscale, TX.sat, XB.prop, X.den, List.map_cons, List.map_nil, List.getElem?_cons_zero, List.getElem?_cons_succ, List.cons_append, List.nil_append, List.getD_cons_zero, List.getD_cons_succ, mkS, mkP, and_true, true_and, Int.not_lt, Int.not_le, not_or, not_and, Classical.not_not, ne_eq, not_true_eq_false, not_false_eq_true, scB, sem_fscale, fscaleL, hc0, hc1, hc2, ex3, ex4, ex5, ex6, ex13, ex16, er, b01, dec_true, if_true, if_false, reduceIte, Bool.false_eq_true, Nat.reduceAdd, Nat.zero_add]
        clear hc0 hc1 hc2
        repeat' first | exact trivial | refine And.intro ?_ ?_ | intro _
        all_goals first | trivial | rfl | omega | (simp [Int.max_comm, Int.min_comm]; done) | (simp only [List.cons.injEq, and_true, true_and]; omega) | (split <;> first | trivial | rfl | omega)
    · have hd0 := hc0
      try simp only [spanB_true, scB, TX.sat, XB.prop, X.den, List.map_cons, List.map_nil, List.getElem?_cons_zero, List.getElem?_cons_succ, List.cons_append, List.nil_append, List.getD_cons_zero, List.getD_cons_succ, mkS, mkP, and_true, true_and, Int.not_lt, Int.not_le, not_or, not_and, Classical.not_not, ne_eq, not_true_eq_false, not_false_eq_true, Nat.reduceAdd, Nat.zero_add] at hd0
      have hd1 := hc1
      try simp only [spanB_true, scB, TX.sat, XB.prop, X.den, List.map_cons, List.map_nil, List.getElem?_cons_zero, List.getElem?_cons_succ, List.cons_append, List.nil_append, List.getD_cons_zero, List.getD_cons_succ, mkS, mkP, and_true, true_and, Int.not_lt, Int.not_le, not_or, not_and, Classical.not_not, ne_eq, not_true_eq_false, not_false_eq_true, Nat.reduceAdd, Nat.zero_add] at hd1
      simp only [t_fscale, G_fscale, TX.sat, XB.prop, X.den, List.map_cons, List.map_nil, List.getElem?_cons_zero, List.getElem?_cons_succ, List.cons_append, List.nil_append, List.getD_cons_zero, List.getD_cons_succ, mkS, mkP, and_true, true_and, Int.not_lt, Int.not_le, not_or, not_and, Classical.not_not, ne_eq, not_true_eq_false, not_false_eq_true, scB, sem_fscale, fscaleL, hc0, hc1, ex3, ex4, ex5, ex6, ex13, ex16, er, b01, dec_true, if_true, if_false, reduceIte, Bool.false_eq_true, Nat.reduceAdd, Nat.zero_add]
      clear hc0 hc1
      repeat' first | exact trivial | refine And.intro ?_ ?_ | intro _
      all_goals first | trivial | rfl | omega | (simp [Int.max_comm, Int.min_comm]; done) | (simp only [List.cons.injEq, and_true, true_and]; omega) | (split <;> first | trivial | rfl | omega)
  · have hd0 := hc0
    try simp only [spanB_true, scB, TX.sat, XB.prop, X.den, List.map_cons, List.map_nil, List.getElem?_cons_zero, List.getElem?_cons_succ, List.cons_append, List.nil_append, List.getD_cons_zero, List.getD_cons_succ, mkS, mkP, and_true, true_and, Int.not_lt, Int.not_le, not_or, not_and, Classical.not_not, ne_eq, not_true_eq_false, not_false_eq_true, Nat.reduceAdd, Nat.zero_add] at hd0
    simp only [t_fscale, G_fscale, TX.sat, XB.prop, X.den, List.map_cons, List.map_nil, List.getElem?_cons_zero, List.getElem?_cons_succ, List.cons_append, List.nil_append, List.getD_cons_zero, List.getD_cons_succ, mkS, mkP, and_true, true_and, Int.not_lt, Int.not_le, not_or, not_and, Classical.not_not, ne_eq, not_true_eq_false, not_false_eq_true, scB, sem_fscale, fscaleL, hc0, ex3, ex4, ex5, ex6, ex13, ex16, er, b01, dec_true, if_true, if_false, reduceIte, Bool.false_eq_true, Nat.reduceAdd, Nat.zero_add]
    clear hc0
    repeat' first | exact trivial | refine And.intro ?_ ?_ | intro _
    all_goals first | trivial | rfl | omega | (simp [Int.max_comm, Int.min_comm]; done) | (simp only [List.cons.injEq, and_true, true_and]; omega) | (split <;> first | trivial | rfl | omega))
theorem inf_fscale : InfOK s_fscale i_fscale := ⟨fun _ h => h, fun vs xs h hp => by
  show vsOK wide (ex3 (fscaleL xs))
  unfold fscaleL
  split
  · split
    · split
      · rename_i hs
        exact wide_ok hs
      · exact wide_e (by omega) (by omega)
    · exact wide_e (by omega) (by omega)
  · exact wide_e (by omega) (by omega)⟩
def G_fdiv : List Sum := [s_floor]
def I_fdiv : List Inf := [i_floor]
def t_fdiv : TX := (.ite (.or (.or (.lt (.v 0) (.c (-1099511627776))) (.lt (.c 1099511627776) (.v 1))) (.lt (.v 1) (.v 0))) (.ret [(.c 0), (.c 0), (.c 8)])
(.ite (.or (.lt (.v 2) (.c 1)) (.lt (.c 1099511627776) (.v 2))) (.ret [(.c 0), (.c 0), (.c 2)])
(.callp 0 [(.v 0), (.v 2)] (.callp 0 [(.v 1), (.v 2)] (.ret [(.v 3), (.v 5), (.c 0)])))))
theorem tree_fdiv : merge (opt I_fdiv pin_fdiv (symFn Try.prog G_fdiv 1000 57 [An 2, I1] [An 2, I1])) = t_fdiv := by kernel_rfl
theorem g_fdiv : Gok Try.prog G_fdiv := (one ok_floor)
theorem o_fdiv : outsOK G_fdiv I_fdiv := (outsOK_cons inf_floor outsOK_nil)
theorem ok_fdiv : s_fdiv.ok Try.prog := Sum.ok_opt facts.mixed g_fdiv o_fdiv tree_fdiv rfl (fun _ => rfl) (by
  intro xs hx hp
  obtain ⟨a0, a1, a2, rfl⟩ := len3 hx
  by_cases hc0 : spanB [a0, a1, a2] 0 = true
  · by_cases hc1 : (1 ≤ a2 ∧ a2 ≤ 1099511627776)
    · have hd0 := hc0
      try simp only [spanB_true, TX.sat, XB.prop, X.den, List.map_cons, List.map_nil, List.getElem?_cons_zero, List.getElem?_cons_succ, List.cons_append, List.nil_append, List.getD_cons_zero, List.getD_cons_succ, mkS, mkP, and_true, true_and, Int.not_lt, Int.not_le, not_or, not_and, Classical.not_not, ne_eq, not_true_eq_false, not_false_eq_true, Nat.reduceAdd, Nat.zero_add] at hd0
      have hd1 := hc1
      try simp only [spanB_true, TX.sat, XB.prop, X.den, List.map_cons, List.map_nil, List.getElem?_cons_zero, List.getElem?_cons_succ, List.cons_append, List.nil_append, List.getD_cons_zero, List.getD_cons_succ, mkS, mkP, and_true, true_and, Int.not_lt, Int.not_le, not_or, not_and, Classical.not_not, ne_eq, not_true_eq_false, not_false_eq_true, Nat.reduceAdd, Nat.zero_add] at hd1
      simp only [t_fdiv, G_fdiv, s_floor, TX.sat, XB.prop, X.den, List.map_cons, List.map_nil, List.getElem?_cons_zero, List.getElem?_cons_succ, List.cons_append, List.nil_append, List.getD_cons_zero, List.getD_cons_succ, mkS, mkP, and_true, true_and, Int.not_lt, Int.not_le, not_or, not_and, Classical.not_not, ne_eq, not_true_eq_false, not_false_eq_true, sem_floor, sem_fdiv, fdivL, hc0, hc1, ex3, ex4, ex5, ex6, ex13, ex16, er, b01, dec_true, if_true, if_false, reduceIte, Bool.false_eq_true, Nat.reduceAdd, Nat.zero_add]
      clear hc0 hc1
      repeat' first | exact trivial | refine And.intro ?_ ?_ | intro _
      all_goals first | trivial | rfl | omega | (simp [Int.max_comm, Int.min_comm]; done) | (simp only [List.cons.injEq, and_true, true_and]; omega) | (split <;> first | trivial | rfl | omega)
    · have hd0 := hc0
      try simp only [spanB_true, TX.sat, XB.prop, X.den, List.map_cons, List.map_nil, List.getElem?_cons_zero, List.getElem?_cons_succ, List.cons_append, List.nil_append, List.getD_cons_zero, List.getD_cons_succ, mkS, mkP, and_true, true_and, Int.not_lt, Int.not_le, not_or, not_and, Classical.not_not, ne_eq, not_true_eq_false, not_false_eq_true, Nat.reduceAdd, Nat.zero_add] at hd0
      have hd1 := hc1
      try simp only [spanB_true, TX.sat, XB.prop, X.den, List.map_cons, List.map_nil, List.getElem?_cons_zero, List.getElem?_cons_succ, List.cons_append, List.nil_append, List.getD_cons_zero, List.getD_cons_succ, mkS, mkP, and_true, true_and, Int.not_lt, Int.not_le, not_or, not_and, Classical.not_not, ne_eq, not_true_eq_false, not_false_eq_true, Nat.reduceAdd, Nat.zero_add] at hd1
      simp only [t_fdiv, G_fdiv, s_floor, TX.sat, XB.prop, X.den, List.map_cons, List.map_nil, List.getElem?_cons_zero, List.getElem?_cons_succ, List.cons_append, List.nil_append, List.getD_cons_zero, List.getD_cons_succ, mkS, mkP, and_true, true_and, Int.not_lt, Int.not_le, not_or, not_and, Classical.not_not, ne_eq, not_true_eq_false, not_false_eq_true, sem_floor, sem_fdiv, fdivL, hc0, hc1, ex3, ex4, ex5, ex6, ex13, ex16, er, b01, dec_true, if_true, if_false, reduceIte, Bool.false_eq_true, Nat.reduceAdd, Nat.zero_add]
      clear hc0 hc1
      repeat' first | exact trivial | refine And.intro ?_ ?_ | intro _
      all_goals first | trivial | rfl | omega | (simp [Int.max_comm, Int.min_comm]; done) | (simp only [List.cons.injEq, and_true, true_and]; omega) | (split <;> first | trivial | rfl | omega)
  · have hd0 := hc0
    try simp only [spanB_true, TX.sat, XB.prop, X.den, List.map_cons, List.map_nil, List.getElem?_cons_zero, List.getElem?_cons_succ, List.cons_append, List.nil_append, List.getD_cons_zero, List.getD_cons_succ, mkS, mkP, and_true, true_and, Int.not_lt, Int.not_le, not_or, not_and, Classical.not_not, ne_eq, not_true_eq_false, not_false_eq_true, Nat.reduceAdd, Nat.zero_add] at hd0
    simp only [t_fdiv, G_fdiv, s_floor, TX.sat, XB.prop, X.den, List.map_cons, List.map_nil, List.getElem?_cons_zero, List.getElem?_cons_succ, List.cons_append, List.nil_append, List.getD_cons_zero, List.getD_cons_succ, mkS, mkP, and_true, true_and, Int.not_lt, Int.not_le, not_or, not_and, Classical.not_not, ne_eq, not_true_eq_false, not_false_eq_true, sem_floor, sem_fdiv, fdivL, hc0, ex3, ex4, ex5, ex6, ex13, ex16, er, b01, dec_true, if_true, if_false, reduceIte, Bool.false_eq_true, Nat.reduceAdd, Nat.zero_add]
    clear hc0
    repeat' first | exact trivial | refine And.intro ?_ ?_ | intro _
    all_goals first | trivial | rfl | omega | (simp [Int.max_comm, Int.min_comm]; done) | (simp only [List.cons.injEq, and_true, true_and]; omega) | (split <;> first | trivial | rfl | omega))
theorem inf_fdiv : InfOK s_fdiv i_fdiv := ⟨fun _ h => h, fun vs xs h hp => by
  show vsOK wide (ex3 (fdivL xs))
  unfold fdivL
  split
  · rename_i hs
    rw [spanB_true] at hs
    have hs' : -1099511627776 ≤ xs.getD 0 0 ∧ xs.getD 1 0 ≤ 1099511627776 ∧ xs.getD 0 0 ≤ xs.getD 1 0 := hs
    split
    · rename_i hk
      have k1 := div_range (a := xs.getD 0 0) (b := xs.getD 2 0) (l := -1099511627776) (h := 1099511627776) (by omega) (by omega) (by omega) (by omega) (by omega)
      have k2 := div_range (a := xs.getD 1 0) (b := xs.getD 2 0) (l := -1099511627776) (h := 1099511627776) (by omega) (by omega) (by omega) (by omega) (by omega)
      exact vsOK_cons k1 (vsOK_cons k2 (vsOK_cons (iv_def.2 (by simp)) vsOK_nil))
    · exact wide_e (by omega) (by omega)
  · exact wide_e (by omega) (by omega)⟩
def G_fjoin : List Sum := []
def I_fjoin : List Inf := []
def t_fjoin : TX := (.ite (.or (.or (.or (.lt (.v 0) (.c (-1099511627776))) (.lt (.c 1099511627776) (.v 1))) (.lt (.v 1) (.v 0))) (.or (.or (.lt (.v 2) (.c (-1099511627776))) (.lt (.c 1099511627776) (.v 3))) (.lt (.v 3) (.v 2)))) (.ret [(.c 0), (.c 0), (.c 8)])
(.ret [(.mn (.v 0) (.v 2)), (.mx (.v 1) (.v 3)), (.c 0)]))
theorem tree_fjoin : merge (opt I_fjoin pin_fjoin (symFn Try.prog G_fjoin 1000 59 [An 2, An 2] [An 2, I1])) = t_fjoin := by kernel_rfl
theorem g_fjoin : Gok Try.prog G_fjoin := noG
theorem o_fjoin : outsOK G_fjoin I_fjoin := outsOK_nil
theorem ok_fjoin : s_fjoin.ok Try.prog := Sum.ok_opt facts.mixed g_fjoin o_fjoin tree_fjoin rfl (fun _ => rfl) (by
  intro xs hx hp
  obtain ⟨a0, a1, a2, a3, rfl⟩ := len4 hx
  by_cases hc0 : spanB [a0, a1, a2, a3] 0 = true
  · by_cases hc1 : spanB [a0, a1, a2, a3] 2 = true
    · have hd0 := hc0
      try simp only [spanB_true, TX.sat, XB.prop, X.den, List.map_cons, List.map_nil, List.getElem?_cons_zero, List.getElem?_cons_succ, List.cons_append, List.nil_append, List.getD_cons_zero, List.getD_cons_succ, mkS, mkP, and_true, true_and, Int.not_lt, Int.not_le, not_or, not_and, Classical.not_not, ne_eq, not_true_eq_false, not_false_eq_true, Nat.reduceAdd, Nat.zero_add] at hd0
      have hd1 := hc1
      try simp only [spanB_true, TX.sat, XB.prop, X.den, List.map_cons, List.map_nil, List.getElem?_cons_zero, List.getElem?_cons_succ, List.cons_append, List.nil_append, List.getD_cons_zero, List.getD_cons_succ, mkS, mkP, and_true, true_and, Int.not_lt, Int.not_le, not_or, not_and, Classical.not_not, ne_eq, not_true_eq_false, not_false_eq_true, Nat.reduceAdd, Nat.zero_add] at hd1
      simp only [t_fjoin, G_fjoin, TX.sat, XB.prop, X.den, List.map_cons, List.map_nil, List.getElem?_cons_zero, List.getElem?_cons_succ, List.cons_append, List.nil_append, List.getD_cons_zero, List.getD_cons_succ, mkS, mkP, and_true, true_and, Int.not_lt, Int.not_le, not_or, not_and, Classical.not_not, ne_eq, not_true_eq_false, not_false_eq_true, sem_fjoin, fjoinL, hc0, hc1, ex3, ex4, ex5, ex6, ex13, ex16, er, b01, dec_true, if_true, if_false, reduceIte, Bool.false_eq_true, Nat.reduceAdd, Nat.zero_add]
      clear hc0 hc1
      repeat' first | exact trivial | refine And.intro ?_ ?_ | intro _
      all_goals first | trivial | rfl | omega | (simp [Int.max_comm, Int.min_comm]; done) | (simp only [List.cons.injEq, and_true, true_and]; omega) | (split <;> first | trivial | rfl | omega)
    · have hd0 := hc0
      try simp only [spanB_true, TX.sat, XB.prop, X.den, List.map_cons, List.map_nil, List.getElem?_cons_zero, List.getElem?_cons_succ, List.cons_append, List.nil_append, List.getD_cons_zero, List.getD_cons_succ, mkS, mkP, and_true, true_and, Int.not_lt, Int.not_le, not_or, not_and, Classical.not_not, ne_eq, not_true_eq_false, not_false_eq_true, Nat.reduceAdd, Nat.zero_add] at hd0
      have hd1 := hc1
      try simp only [spanB_true, TX.sat, XB.prop, X.den, List.map_cons, List.map_nil, List.getElem?_cons_zero, List.getElem?_cons_succ, List.cons_append, List.nil_append, List.getD_cons_zero, List.getD_cons_succ, mkS, mkP, and_true, true_and, Int.not_lt, Int.not_le, not_or, not_and, Classical.not_not, ne_eq, not_true_eq_false, not_false_eq_true, Nat.reduceAdd, Nat.zero_add] at hd1
      simp only [t_fjoin, G_fjoin, TX.sat, XB.prop, X.den, List.map_cons, List.map_nil, List.getElem?_cons_zero, List.getElem?_cons_succ, List.cons_append, List.nil_append, List.getD_cons_zero, List.getD_cons_succ, mkS, mkP, and_true, true_and, Int.not_lt, Int.not_le, not_or, not_and, Classical.not_not, ne_eq, not_true_eq_false, not_false_eq_true, sem_fjoin, fjoinL, hc0, hc1, ex3, ex4, ex5, ex6, ex13, ex16, er, b01, dec_true, if_true, if_false, reduceIte, Bool.false_eq_true, Nat.reduceAdd, Nat.zero_add]
      clear hc0 hc1
      repeat' first | exact trivial | refine And.intro ?_ ?_ | intro _
      all_goals first | trivial | rfl | omega | (simp [Int.max_comm, Int.min_comm]; done) | (simp only [List.cons.injEq, and_true, true_and]; omega) | (split <;> first | trivial | rfl | omega)
  · have hd0 := hc0
    try simp only [spanB_true, TX.sat, XB.prop, X.den, List.map_cons, List.map_nil, List.getElem?_cons_zero, List.getElem?_cons_succ, List.cons_append, List.nil_append, List.getD_cons_zero, List.getD_cons_succ, mkS, mkP, and_true, true_and, Int.not_lt, Int.not_le, not_or, not_and, Classical.not_not, ne_eq, not_true_eq_false, not_false_eq_true, Nat.reduceAdd, Nat.zero_add] at hd0
    simp only [t_fjoin, G_fjoin, TX.sat, XB.prop, X.den, List.map_cons, List.map_nil, List.getElem?_cons_zero, List.getElem?_cons_succ, List.cons_append, List.nil_append, List.getD_cons_zero, List.getD_cons_succ, mkS, mkP, and_true, true_and, Int.not_lt, Int.not_le, not_or, not_and, Classical.not_not, ne_eq, not_true_eq_false, not_false_eq_true, sem_fjoin, fjoinL, hc0, ex3, ex4, ex5, ex6, ex13, ex16, er, b01, dec_true, if_true, if_false, reduceIte, Bool.false_eq_true, Nat.reduceAdd, Nat.zero_add]
    clear hc0
    repeat' first | exact trivial | refine And.intro ?_ ?_ | intro _
    all_goals first | trivial | rfl | omega | (simp [Int.max_comm, Int.min_comm]; done) | (simp only [List.cons.injEq, and_true, true_and]; omega) | (split <;> first | trivial | rfl | omega))
theorem inf_fjoin : InfOK s_fjoin i_fjoin := ⟨fun _ h => h, fun vs xs h hp => by
  show vsOK wide (ex3 (fjoinL xs))
  unfold fjoinL
  split
  · rename_i hs
    rw [spanB_true] at hs
    have hs' : -1099511627776 ≤ xs.getD 0 0 ∧ xs.getD 1 0 ≤ 1099511627776 ∧ xs.getD 0 0 ≤ xs.getD 1 0 := hs
    split
    · rename_i ht
      rw [spanB_true] at ht
      have ht' : -1099511627776 ≤ xs.getD 2 0 ∧ xs.getD 3 0 ≤ 1099511627776 ∧ xs.getD 2 0 ≤ xs.getD 3 0 := ht
      have k1 : -1099511627776 ≤ min (xs.getD 0 0) (xs.getD 2 0) ∧ min (xs.getD 0 0) (xs.getD 2 0) ≤ 1099511627776 := by omega
      have k2 : -1099511627776 ≤ max (xs.getD 1 0) (xs.getD 3 0) ∧ max (xs.getD 1 0) (xs.getD 3 0) ≤ 1099511627776 := by omega
      exact vsOK_cons k1 (vsOK_cons k2 (vsOK_cons (iv_def.2 (by simp)) vsOK_nil))
    · exact wide_e (by omega) (by omega)
  · exact wide_e (by omega) (by omega)⟩
def G_alive01 : List Sum := []
def I_alive01 : List Inf := []
def t_alive01 : TX := (.ret [(.c 1)])
theorem tree_alive01 : merge (opt I_alive01 pin_alive01 (symFn Try.prog G_alive01 1000 35 [] [Bo])) = t_alive01 := by kernel_rfl
theorem g_alive01 : Gok Try.prog G_alive01 := noG
theorem o_alive01 : outsOK G_alive01 I_alive01 := outsOK_nil
theorem ok_alive01 : s_alive01.ok Try.prog := Sum.ok_opt facts.mixed g_alive01 o_alive01 tree_alive01 rfl (fun _ => rfl) (fun xs hx hp => rfl)
theorem inf_alive01 : InfOK s_alive01 i_alive01 := ⟨fun _ h => h, fun _ _ _ _ => vsOK_cons ⟨by decide, by decide⟩ vsOK_nil⟩
end Go.Proofs.Ytlgcjkolakcfiaa.fix
