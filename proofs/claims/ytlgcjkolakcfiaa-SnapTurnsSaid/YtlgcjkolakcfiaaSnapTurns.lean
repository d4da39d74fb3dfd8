/-
  The law SnapTurns is answered with true, whatever its arguments, which stay as they were.
-/
import Derived.Test.YtlgcjkolakcfiaaRows
import Derived.Test.YtlgcjkolakcfiaaFacts
import Derived.Test.YtlgcjkolakcfiaaArea
set_option linter.unusedVariables false
set_option linter.unusedSimpArgs false
namespace Go.Proofs.Ytlgcjkolakcfiaa.snapTurns
open Go.RowKit Go.ChangeShapes Go.WideShapes Go.ChangeAt Go.Sx fix

def G_SnapTurns : List Sum := [s_alive20, s_area, s_front]
def I_SnapTurns : List Inf := [i_alive20, i_area, i_front]
def t_SnapTurns : TX := (.callp 0 [] (.callp 1 [(.v 0), (.v 1), (.v 2), (.v 3), (.v 4), (.v 5), (.v 6), (.v 7), (.v 8), (.v 9), (.v 10), (.v 11), (.v 12), (.v 13), (.v 14)] (.ite (.not (.eq (.v 19) (.c 0))) (.ite (.and (.nz (.v 17)) (.eq (.v 18) (.c 0))) (.ret [(.c 1)])
(.ret [(.c 0)]))
(.callp 1 [(.v 5), (.v 6), (.v 7), (.v 8), (.v 9), (.v 10), (.v 11), (.v 12), (.v 13), (.v 14), (.v 0), (.v 1), (.v 2), (.v 3), (.v 4)] (.callp 1 [(.v 0), (.v 1), (.v 2), (.v 3), (.v 4), (.v 10), (.v 11), (.v 12), (.v 13), (.v 14), (.v 5), (.v 6), (.v 7), (.v 8), (.v 9)] (.ite (.or (.or (.or (.not (.eq (.v 21) (.c 0))) (.not (.eq (.v 23) (.c 0)))) (.not (.eq (.v 20) (.v 18)))) (.not (.eq (.v 22) (.sub (.c 0) (.v 18))))) (.ret [(.c 0)])
(.callp 2 [(.v 0), (.v 1), (.v 2), (.v 3), (.v 4), (.v 5), (.v 6), (.v 7), (.v 8), (.v 9), (.v 10), (.v 11), (.v 12), (.v 13), (.v 14)] (.ite (.eq (.v 39) (.c 0)) (.callp 1 [(.v 24), (.v 25), (.v 26), (.v 27), (.v 28), (.v 29), (.v 30), (.v 31), (.v 32), (.v 33), (.v 34), (.v 35), (.v 36), (.v 37), (.v 38)] (.ite (.or (.or (.or (.or (.or (.not (.eq (.v 41) (.c 0))) (.le (.v 40) (.c 0))) (.not (.eq (.v 40) (.mx (.v 18) (.sub (.c 0) (.v 18)))))) (.or (.not (.eq (.v 24) (.v 0))) (.or (.not (.eq (.v 25) (.v 1))) (.or (.not (.eq (.v 26) (.v 2))) (.or (.not (.eq (.v 27) (.v 3))) (.not (.eq (.v 28) (.v 4)))))))) (.and (.or (.not (.eq (.v 29) (.v 5))) (.or (.not (.eq (.v 30) (.v 6))) (.or (.not (.eq (.v 31) (.v 7))) (.or (.not (.eq (.v 32) (.v 8))) (.not (.eq (.v 33) (.v 9))))))) (.or (.not (.eq (.v 29) (.v 10))) (.or (.not (.eq (.v 30) (.v 11))) (.or (.not (.eq (.v 31) (.v 12))) (.or (.not (.eq (.v 32) (.v 13))) (.not (.eq (.v 33) (.v 14))))))))) (.and (.or (.not (.eq (.v 34) (.v 5))) (.or (.not (.eq (.v 35) (.v 6))) (.or (.not (.eq (.v 36) (.v 7))) (.or (.not (.eq (.v 37) (.v 8))) (.not (.eq (.v 38) (.v 9))))))) (.or (.not (.eq (.v 34) (.v 10))) (.or (.not (.eq (.v 35) (.v 11))) (.or (.not (.eq (.v 36) (.v 12))) (.or (.not (.eq (.v 37) (.v 13))) (.not (.eq (.v 38) (.v 14))))))))) (.ret [(.c 0)])
(.ite (.not (.iff (.eq (.v 39) (.c 0)) (.not (.eq (.v 18) (.c 0))))) (.ite (.and (.nz (.v 17)) (.iff (.eq (.v 39) (.c 0)) (.not (.eq (.v 18) (.c 0))))) (.ret [(.c 1)])
(.ret [(.c 0)]))
(.ite (.lt (.v 15) (.c (-262144))) (.ite (.and (.nz (.v 17)) (.iff (.eq (.v 39) (.c 0)) (.not (.eq (.v 18) (.c 0))))) (.ret [(.c 1)])
(.ret [(.c 0)]))
(.ite (.lt (.c 262144) (.v 15)) (.ite (.and (.nz (.v 17)) (.iff (.eq (.v 39) (.c 0)) (.not (.eq (.v 18) (.c 0))))) (.ret [(.c 1)])
(.ret [(.c 0)]))
(.ite (.lt (.v 16) (.c (-262144))) (.ite (.and (.nz (.v 17)) (.iff (.eq (.v 39) (.c 0)) (.not (.eq (.v 18) (.c 0))))) (.ret [(.c 1)])
(.ret [(.c 0)]))
(.ite (.lt (.c 262144) (.v 16)) (.ite (.and (.nz (.v 17)) (.iff (.eq (.v 39) (.c 0)) (.not (.eq (.v 18) (.c 0))))) (.ret [(.c 1)])
(.ret [(.c 0)]))
(.callp 1 [(.add (.v 0) (.v 15)), (.add (.v 1) (.v 16)), (.v 2), (.v 3), (.v 4), (.wr .i64 (.add (.v 5) (.v 15))), (.wr .i64 (.add (.v 6) (.v 16))), (.v 7), (.v 8), (.v 9), (.wr .i64 (.add (.v 10) (.v 15))), (.wr .i64 (.add (.v 11) (.v 16))), (.v 12), (.v 13), (.v 14)] (.ite (.and (.nz (.v 17)) (.or (.not (.eq (.v 43) (.c 0))) (.eq (.v 42) (.v 18)))) (.ret [(.c 1)])
(.ret [(.c 0)]))))))))))
(.ite (.not (.iff (.eq (.v 39) (.c 0)) (.not (.eq (.v 18) (.c 0))))) (.ite (.and (.nz (.v 17)) (.iff (.eq (.v 39) (.c 0)) (.not (.eq (.v 18) (.c 0))))) (.ret [(.c 1)])
(.ret [(.c 0)]))
(.ite (.lt (.v 15) (.c (-262144))) (.ite (.and (.nz (.v 17)) (.iff (.eq (.v 39) (.c 0)) (.not (.eq (.v 18) (.c 0))))) (.ret [(.c 1)])
(.ret [(.c 0)]))
(.ite (.lt (.c 262144) (.v 15)) (.ite (.and (.nz (.v 17)) (.iff (.eq (.v 39) (.c 0)) (.not (.eq (.v 18) (.c 0))))) (.ret [(.c 1)])
(.ret [(.c 0)]))
(.ite (.lt (.v 16) (.c (-262144))) (.ite (.and (.nz (.v 17)) (.iff (.eq (.v 39) (.c 0)) (.not (.eq (.v 18) (.c 0))))) (.ret [(.c 1)])
(.ret [(.c 0)]))
(.ite (.lt (.c 262144) (.v 16)) (.ite (.and (.nz (.v 17)) (.iff (.eq (.v 39) (.c 0)) (.not (.eq (.v 18) (.c 0))))) (.ret [(.c 1)])
(.ret [(.c 0)]))
(.callp 1 [(.wr .i64 (.add (.v 0) (.v 15))), (.wr .i64 (.add (.v 1) (.v 16))), (.v 2), (.v 3), (.v 4), (.wr .i64 (.add (.v 5) (.v 15))), (.wr .i64 (.add (.v 6) (.v 16))), (.v 7), (.v 8), (.v 9), (.wr .i64 (.add (.v 10) (.v 15))), (.wr .i64 (.add (.v 11) (.v 16))), (.v 12), (.v 13), (.v 14)] (.ite (.and (.nz (.v 17)) (.or (.not (.eq (.v 41) (.c 0))) (.eq (.v 40) (.v 18)))) (.ret [(.c 1)])
(.ret [(.c 0)]))))))))))))))))
theorem tree_SnapTurns : merge (opt I_SnapTurns (((An 15).ks ++ (I1.ks ++ (I1.ks ++ []))).map ivK) (symFn Try.prog G_SnapTurns 1000 30 [An 15, I1, I1] [Bo])) = t_SnapTurns := by kernel_rfl
theorem g_SnapTurns : Gok Try.prog G_SnapTurns := (more ok_alive20 (more ok_area (one ok_front)))
theorem o_SnapTurns : outsOK G_SnapTurns I_SnapTurns := (outsOK_cons inf_alive20 (outsOK_cons inf_area (outsOK_cons inf_front outsOK_nil)))
theorem plain (xs0 : List Int) (hr0 : rangeOK (An 15).ks xs0) (xs1 : List Int) (hr1 : rangeOK I1.ks xs1) (xs2 : List Int) (hr2 : rangeOK I1.ks xs2) : t_SnapTurns.sat G_SnapTurns [] (fun ys => ys = [1]) (xs0 ++ (xs1 ++ (xs2 ++ []))) := by
  obtain ⟨l0, i0⟩ := An_inv hr0
  obtain ⟨a0, a1, a2, a3, a4, a5, a6, a7, a8, a9, a10, a11, a12, a13, a14, rfl⟩ := len15 l0
  obtain ⟨a15, rfl, i1⟩ := I1_inv hr1
  obtain ⟨a16, rfl, i2⟩ := I1_inv hr2
  have hr : triB [a5, a6, a7, a8, a9, a10, a11, a12, a13, a14, a0, a1, a2, a3, a4] = triB [a0, a1, a2, a3, a4, a5, a6, a7, a8, a9, a10, a11, a12, a13, a14] := by
    show (spotB [a0, a1, a2, a3, a4, a5, a6, a7, a8, a9, a10, a11, a12, a13, a14] 5 && (spotB [a0, a1, a2, a3, a4, a5, a6, a7, a8, a9, a10, a11, a12, a13, a14] 10 && spotB [a0, a1, a2, a3, a4, a5, a6, a7, a8, a9, a10, a11, a12, a13, a14] 0)) = (spotB [a0, a1, a2, a3, a4, a5, a6, a7, a8, a9, a10, a11, a12, a13, a14] 0 && (spotB [a0, a1, a2, a3, a4, a5, a6, a7, a8, a9, a10, a11, a12, a13, a14] 5 && spotB [a0, a1, a2, a3, a4, a5, a6, a7, a8, a9, a10, a11, a12, a13, a14] 10))
    generalize spotB _ 0 = p
    generalize spotB _ 5 = q
    generalize spotB _ 10 = r
    cases p <;> cases q <;> cases r <;> rfl
  have hs : triB [a0, a1, a2, a3, a4, a10, a11, a12, a13, a14, a5, a6, a7, a8, a9] = triB [a0, a1, a2, a3, a4, a5, a6, a7, a8, a9, a10, a11, a12, a13, a14] := by
    show (spotB [a0, a1, a2, a3, a4, a5, a6, a7, a8, a9, a10, a11, a12, a13, a14] 0 && (spotB [a0, a1, a2, a3, a4, a5, a6, a7, a8, a9, a10, a11, a12, a13, a14] 10 && spotB [a0, a1, a2, a3, a4, a5, a6, a7, a8, a9, a10, a11, a12, a13, a14] 5)) = (spotB [a0, a1, a2, a3, a4, a5, a6, a7, a8, a9, a10, a11, a12, a13, a14] 0 && (spotB [a0, a1, a2, a3, a4, a5, a6, a7, a8, a9, a10, a11, a12, a13, a14] 5 && spotB [a0, a1, a2, a3, a4, a5, a6, a7, a8, a9, a10, a11, a12, a13, a14] 10))
    rw [Bool.and_comm (spotB [a0, a1, a2, a3, a4, a5, a6, a7, a8, a9, a10, a11, a12, a13, a14] 10)]
  have tr : twiceV [a5, a6, a7, a8, a9, a10, a11, a12, a13, a14, a0, a1, a2, a3, a4] = twiceV [a0, a1, a2, a3, a4, a5, a6, a7, a8, a9, a10, a11, a12, a13, a14] := by
    simp only [twiceV, TX.sat, XB.prop, X.den, List.map_cons, List.map_nil, List.getElem?_cons_zero, List.getElem?_cons_succ, List.cons_append, List.nil_append, List.getD_cons_zero, List.getD_cons_succ, mkS, mkP, and_true, true_and, Int.not_lt, Int.not_le, not_or, not_and, Classical.not_not, ne_eq, not_true_eq_false, not_false_eq_true]
    grind
  have ts : twiceV [a0, a1, a2, a3, a4, a10, a11, a12, a13, a14, a5, a6, a7, a8, a9] = - twiceV [a0, a1, a2, a3, a4, a5, a6, a7, a8, a9, a10, a11, a12, a13, a14] := by
    simp only [twiceV, TX.sat, XB.prop, X.den, List.map_cons, List.map_nil, List.getElem?_cons_zero, List.getElem?_cons_succ, List.cons_append, List.nil_append, List.getD_cons_zero, List.getD_cons_succ, mkS, mkP, and_true, true_and, Int.not_lt, Int.not_le, not_or, not_and, Classical.not_not, ne_eq, not_true_eq_false, not_false_eq_true]
    grind
  have th : twiceV [a0 + a15, a1 + a16, a2, a3, a4, a5 + a15, a6 + a16, a7, a8, a9, a10 + a15, a11 + a16, a12, a13, a14] = twiceV [a0, a1, a2, a3, a4, a5, a6, a7, a8, a9, a10, a11, a12, a13, a14] := by
    simp only [twiceV, TX.sat, XB.prop, X.den, List.map_cons, List.map_nil, List.getElem?_cons_zero, List.getElem?_cons_succ, List.cons_append, List.nil_append, List.getD_cons_zero, List.getD_cons_succ, mkS, mkP, and_true, true_and, Int.not_lt, Int.not_le, not_or, not_and, Classical.not_not, ne_eq, not_true_eq_false, not_false_eq_true]
    grind
  simp only [t_SnapTurns, G_SnapTurns, s_alive20, s_area, s_front, TX.sat, XB.prop, X.den, List.map_cons, List.map_nil, List.getElem?_cons_zero, List.getElem?_cons_succ, List.cons_append, List.nil_append, List.getD_cons_zero, List.getD_cons_succ, mkS, mkP, and_true, true_and, Int.not_lt, Int.not_le, not_or, not_and, Classical.not_not, ne_eq, not_true_eq_false, not_false_eq_true, sem_alive20, sem_alive, sem_area, sem_front, areaL]
  cases hb : triB [a0, a1, a2, a3, a4, a5, a6, a7, a8, a9, a10, a11, a12, a13, a14] with
  | true =>
    have ht := hb
    simp only [triB, Bool.and_eq_true, spotB_true, TX.sat, XB.prop, X.den, List.map_cons, List.map_nil, List.getElem?_cons_zero, List.getElem?_cons_succ, List.cons_append, List.nil_append, List.getD_cons_zero, List.getD_cons_succ, mkS, mkP, and_true, true_and, Int.not_lt, Int.not_le, not_or, not_and, Classical.not_not, ne_eq, not_true_eq_false, not_false_eq_true, Nat.reduceAdd, Nat.zero_add] at ht
    rcases (by omega : twiceV [a0, a1, a2, a3, a4, a5, a6, a7, a8, a9, a10, a11, a12, a13, a14] = 0 ∨ twiceV [a0, a1, a2, a3, a4, a5, a6, a7, a8, a9, a10, a11, a12, a13, a14] < 0 ∨ 0 < twiceV [a0, a1, a2, a3, a4, a5, a6, a7, a8, a9, a10, a11, a12, a13, a14]) with h0 | h0 | h0
    · have hf : frontL [a0, a1, a2, a3, a4, a5, a6, a7, a8, a9, a10, a11, a12, a13, a14] = z16 6 := (if_pos hb).trans (if_pos h0)
      rw [hf]
      simp only [ex16, turnT, idT, z16, TX.sat, XB.prop, X.den, List.map_cons, List.map_nil, List.getElem?_cons_zero, List.getElem?_cons_succ, List.cons_append, List.nil_append, List.getD_cons_zero, List.getD_cons_succ, mkS, mkP, and_true, true_and, Int.not_lt, Int.not_le, not_or, not_and, Classical.not_not, ne_eq, not_true_eq_false, not_false_eq_true, hb, hr, hs, tr, ts, if_true, reduceIte]
      by_cases hxy : (-262144 ≤ a15 ∧ a15 ≤ 262144) ∧ (-262144 ≤ a16 ∧ a16 ≤ 262144)
      · rw [wrap64 (x := a5 + a15) (by omega) (by omega), wrap64 (x := a6 + a16) (by omega) (by omega), wrap64 (x := a10 + a15) (by omega) (by omega), wrap64 (x := a11 + a16) (by omega) (by omega)]
        try rw [wrap64 (x := a0 + a15) (by omega) (by omega), wrap64 (x := a1 + a16) (by omega) (by omega)]
        rw [th]
        clear ht hf hb hr hs tr ts th i0 i1 i2 hr0 hr1 hr2 l0
        generalize twiceV _ = n at *
        generalize triB [a0 + a15, a1 + a16, a2, a3, a4, a5 + a15, a6 + a16, a7, a8, a9, a10 + a15, a11 + a16, a12, a13, a14] = b at *
        cases b <;> simp <;> omega
      · clear ht hf hb hr hs tr ts th i0 i1 i2 hr0 hr1 hr2 l0
        generalize twiceV [a0, a1, a2, a3, a4, a5, a6, a7, a8, a9, a10, a11, a12, a13, a14] = n at *
        simp
        omega
    · have hf : frontL [a0, a1, a2, a3, a4, a5, a6, a7, a8, a9, a10, a11, a12, a13, a14] = turnT [a0, a1, a2, a3, a4, a5, a6, a7, a8, a9, a10, a11, a12, a13, a14] := (if_pos hb).trans ((if_neg (by omega)).trans (if_pos h0))
      rw [hf]
      simp only [ex16, turnT, idT, z16, TX.sat, XB.prop, X.den, List.map_cons, List.map_nil, List.getElem?_cons_zero, List.getElem?_cons_succ, List.cons_append, List.nil_append, List.getD_cons_zero, List.getD_cons_succ, mkS, mkP, and_true, true_and, Int.not_lt, Int.not_le, not_or, not_and, Classical.not_not, ne_eq, not_true_eq_false, not_false_eq_true, hb, hr, hs, tr, ts, if_true, reduceIte]
      by_cases hxy : (-262144 ≤ a15 ∧ a15 ≤ 262144) ∧ (-262144 ≤ a16 ∧ a16 ≤ 262144)
      · rw [wrap64 (x := a5 + a15) (by omega) (by omega), wrap64 (x := a6 + a16) (by omega) (by omega), wrap64 (x := a10 + a15) (by omega) (by omega), wrap64 (x := a11 + a16) (by omega) (by omega)]
        try rw [wrap64 (x := a0 + a15) (by omega) (by omega), wrap64 (x := a1 + a16) (by omega) (by omega)]
        rw [th]
        clear ht hf hb hr hs tr ts th i0 i1 i2 hr0 hr1 hr2 l0
        generalize twiceV _ = n at *
        generalize triB [a0 + a15, a1 + a16, a2, a3, a4, a5 + a15, a6 + a16, a7, a8, a9, a10 + a15, a11 + a16, a12, a13, a14] = b at *
        cases b <;> simp <;> omega
      · clear ht hf hb hr hs tr ts th i0 i1 i2 hr0 hr1 hr2 l0
        generalize twiceV [a0, a1, a2, a3, a4, a5, a6, a7, a8, a9, a10, a11, a12, a13, a14] = n at *
        simp
        omega
    · have hf : frontL [a0, a1, a2, a3, a4, a5, a6, a7, a8, a9, a10, a11, a12, a13, a14] = idT [a0, a1, a2, a3, a4, a5, a6, a7, a8, a9, a10, a11, a12, a13, a14] := (if_pos hb).trans ((if_neg (by omega)).trans (if_neg (by omega)))
      rw [hf]
      simp only [ex16, turnT, idT, z16, TX.sat, XB.prop, X.den, List.map_cons, List.map_nil, List.getElem?_cons_zero, List.getElem?_cons_succ, List.cons_append, List.nil_append, List.getD_cons_zero, List.getD_cons_succ, mkS, mkP, and_true, true_and, Int.not_lt, Int.not_le, not_or, not_and, Classical.not_not, ne_eq, not_true_eq_false, not_false_eq_true, hb, hr, hs, tr, ts, if_true, reduceIte]
      by_cases hxy : (-262144 ≤ a15 ∧ a15 ≤ 262144) ∧ (-262144 ≤ a16 ∧ a16 ≤ 262144)
      · rw [wrap64 (x := a5 + a15) (by omega) (by omega), wrap64 (x := a6 + a16) (by omega) (by omega), wrap64 (x := a10 + a15) (by omega) (by omega), wrap64 (x := a11 + a16) (by omega) (by omega)]
        try rw [wrap64 (x := a0 + a15) (by omega) (by omega), wrap64 (x := a1 + a16) (by omega) (by omega)]
        rw [th]
        clear ht hf hb hr hs tr ts th i0 i1 i2 hr0 hr1 hr2 l0
        generalize twiceV _ = n at *
        generalize triB [a0 + a15, a1 + a16, a2, a3, a4, a5 + a15, a6 + a16, a7, a8, a9, a10 + a15, a11 + a16, a12, a13, a14] = b at *
        cases b <;> simp <;> omega
      · clear ht hf hb hr hs tr ts th i0 i1 i2 hr0 hr1 hr2 l0
        generalize twiceV [a0, a1, a2, a3, a4, a5, a6, a7, a8, a9, a10, a11, a12, a13, a14] = n at *
        simp
        omega
  | false =>
    simp

theorem range_nil : rangeOK [] [] := trivial
set_option maxRecDepth 100000 in
theorem lifted (os : Os) (started : os.Started) (H : Type) (enc : TypeId × Value → H) :
    ReturnsInHanded {} Try.checked os 30 .any (Rows.snapTurnsSpec.pre6 enc Try.prog Try.f30 Rows.snapTurnsRow.domain false) (Rows.snapTurnsSpec.post enc Try.prog Try.f30 false true false false) := by
  refine returnsInHanded_of_change (C := Try.checked) facts.own started (by kernel_rfl) Try.func30
    (ChangeSpec.witness6 (enc := enc) (C := Try.checked) false ⟨#[], #[.agg #[.int .i64 0, .int .i64 0, .int .i64 0, .int .i64 0, .int .i64 0, .int .i64 0, .int .i64 0, .int .i64 0, .int .i64 0, .int .i64 0, .int .i64 0, .int .i64 0, .int .i64 0, .int .i64 0, .int .i64 0], .int .i64 0, .int .i64 0], []⟩ 8 (by kernel_rfl) (by kernel_rfl) (by kernel_rfl) (by kernel_rfl)) ?_
  intro W base args ds gs before hval0 hW hcnd _
  have hval : ∀ (j : Nat) t v, Try.f30.params[j]? = some t → args[j]? = some v → Value.okWide Try.prog W .any base t v := hval0
  have hW' := hW
  obtain ⟨p, q, hA0, hV, rfl, hfz, hnd⟩ := hW
  have hA : DataW.TrodAll enc Try.prog W 0 (fun _ => true) true Try.f30.params.toList args.toList ds p := hA0
  rw [Try.params30] at hA hval
  obtain ⟨v0, vs0, d0, ds0, p0, q0, hargs, rfl, rfl, h0, r0⟩ := trodAll_cons hA
  obtain ⟨v1, vs1, d1, ds1, p1, q1, rfl, rfl, rfl, h1, r1⟩ := trodAll_cons r0
  obtain ⟨v2, vs2, d2, ds2, p2, q2, rfl, rfl, rfl, h2, r2⟩ := trodAll_cons r1
  obtain ⟨rfl, rfl, rfl⟩ := trodAll_nil r2
  obtain rfl : args = #[v0, v1, v2] := by cases args; simp_all
  obtain ⟨rfl, rfl⟩ := trodVars_none hV
  have k0 := h0
  have lt0 : ∀ x ∈ p0, x.block < W.heap.size := by obtain ⟨m, hm⟩ := k0; exact DataW.trod_lt m _ _ _ hm
  have k1 := h1
  have lt1 : ∀ x ∈ p1, x.block < W.heap.size := by obtain ⟨m, hm⟩ := k1; exact DataW.trod_lt m _ _ _ hm
  have k2 := h2
  have lt2 : ∀ x ∈ p2, x.block < W.heap.size := by obtain ⟨m, hm⟩ := k2; exact DataW.trod_lt m _ _ _ hm
  obtain ⟨xs0, hv0, hr0⟩ := open_sh (sh := An 15) (by kernel_rfl) (by kernel_rfl) (hval 0 29 v0 rfl rfl) h0
  obtain ⟨xs1, hv1, hr1⟩ := open_sh (sh := I1) (by kernel_rfl) (by kernel_rfl) (hval 1 3 v1 rfl rfl) h1
  obtain ⟨xs2, hv2, hr2⟩ := open_sh (sh := I1) (by kernel_rfl) (by kernel_rfl) (hval 2 3 v2 rfl rfl) h2
  clear hA0 hval0
  have hl0 := rangeOK_len hr0
  have hl1 := rangeOK_len hr1
  have hl2 := rangeOK_len hr2
  have hxs : #[v0, v1, v2] = (mkShs [An 15, I1, I1] (xs0 ++ (xs1 ++ (xs2 ++ [])))).toArray := by
    rw [mkShs_cons hl0, mkShs_cons hl1, mkShs_cons hl2]
    simp [mkShs, hv0, hv1, hv2]
  have hlen : (xs0 ++ (xs1 ++ (xs2 ++ []))).length = total [An 15, I1, I1] := by
    simp only [List.length_append, List.length_nil, hl0, hl1, hl2]
    rfl
  have hcalls := law_opt facts.mixed g_SnapTurns o_SnapTurns tree_SnapTurns hlen (range_vs ((rangeOK_app hr0 (rangeOK_app hr1 (rangeOK_app hr2 range_nil))) : rangeOK _ _)) (plain xs0 hr0 xs1 hr1 xs2 hr2) W
  rw [← hxs] at hcalls
  refine hcalls.mono fun e W' ⟨he, bel⟩ => ?_
  subst he
  exact ⟨_, rfl, _, _, _, [], _, [], hW', trodAll_mk1 (shut_bool Try.underlying4 _), (trodAll_cons_mk (Below.trod facts.laidOut (by kernel_rfl) (of_decide_eq_true (by kernel_rfl)) k0 bel lt0) (trodAll_cons_mk (Below.trod facts.laidOut (by kernel_rfl) (of_decide_eq_true (by kernel_rfl)) k1 bel lt1) (trodAll_cons_mk (Below.trod facts.laidOut (by kernel_rfl) (of_decide_eq_true (by kernel_rfl)) k2 bel lt2) trodAll_mk0))), rfl, bel.frame _, fun h => by cases h⟩

theorem over : Rows.snapTurnsRow.holds Try.pinned (OpenSpec.ofChange Rows.snapTurnsSpec) :=
  OpenClaim.holds_of_wide 30 Try.f30 rfl rfl rfl rfl rfl rfl rfl ⟨rfl, rfl, rfl, rfl, rfl⟩ rfl rfl rfl rfl rfl (by kernel_rfl) Try.func30
    (facts.joined (by kernel_rfl) (by kernel_rfl) (by kernel_rfl) (by kernel_rfl) (by kernel_rfl) (by kernel_rfl) (by kernel_rfl) rfl rfl rfl rfl)
    (of_decide_eq_true (by kernel_rfl)) (by unfold Func.isWrapper; first | (rw [if_pos (by decide +kernel)]; kernel_rfl) | (rw [if_neg (by decide +kernel)]; exact ⟨rfl, rfl⟩))
    (fun os started H enc _ => lifted os started H enc)

/-- THE STATEMENT. -/
theorem proved : Rows.SnapTurnsSaid := over
#print axioms proved

end Go.Proofs.Ytlgcjkolakcfiaa.snapTurns
