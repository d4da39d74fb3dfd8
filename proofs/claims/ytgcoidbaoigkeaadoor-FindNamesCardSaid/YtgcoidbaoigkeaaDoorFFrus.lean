/-
  Where a box can show: what the functions of the frustum come to.
-/
import Derived.Test.YtgcoidbaoigkeaaDoorFCam
set_option linter.unusedVariables false
set_option linter.unusedSimpArgs false
namespace Go.Proofs.YtgcoidbaoigkeaaDoor.fix
open Go.RowKit Go.Sx

theorem world_true {x : List Int} {o : Nat} : worldB x o = true ↔ (((-4096 ≤ x.getD o 0 ∧ x.getD o 0 ≤ 4096) ∧ (-4096 ≤ x.getD (o + 1) 0 ∧ x.getD (o + 1) 0 ≤ 4096) ∧ (-4096 ≤ x.getD (o + 2) 0 ∧ x.getD (o + 2) 0 ≤ 4096)) ∧
    ((-4096 ≤ x.getD (o + 3) 0 ∧ x.getD (o + 3) 0 ≤ 4096) ∧ (-4096 ≤ x.getD (o + 4) 0 ∧ x.getD (o + 4) 0 ≤ 4096) ∧ (-4096 ≤ x.getD (o + 5) 0 ∧ x.getD (o + 5) 0 ≤ 4096)) ∧
    (x.getD o 0 ≤ x.getD (o + 3) 0 ∧ x.getD (o + 1) 0 ≤ x.getD (o + 4) 0 ∧ x.getD (o + 2) 0 ≤ x.getD (o + 5) 0)) := by
  simp only [worldB, Bool.and_eq_true, all3_true, dec_true, Nat.add_assoc, Nat.reduceAdd]
theorem world_in (a0 a1 a2 a3 a4 a5 : Int) : worldB [a0, a1, a2, a3, a4, a5] 0 = (boxB [a0, a1, a2, a3, a4, a5] 0 && insideB [a0, a1, a2, a3, a4, a5, -4096, -4096, -4096, 4096, 4096, 4096]) := by
  rw [Bool.eq_iff_iff]
  simp only [world_true, Bool.and_eq_true, boxB_true, insideB, dec_true, TX.sat, XB.prop, X.den, List.map_cons, List.map_nil, List.getElem?_cons_zero, List.getElem?_cons_succ, List.cons_append, List.nil_append, List.getD_cons_zero, List.getD_cons_succ, mkS, mkP, and_true, true_and, Int.not_lt, Int.not_le, not_or, not_and, Classical.not_not, ne_eq, not_true_eq_false, not_false_eq_true, Nat.add_assoc, Nat.reduceAdd, Nat.zero_add]
  omega
/-! ### a box as a camera sees it -/
theorem camB_all {x : List Int} (h : camB x 0 = true) : ((-4096 ≤ x.getD 0 0 ∧ x.getD 0 0 ≤ 4096) ∧ (-4096 ≤ x.getD 1 0 ∧ x.getD 1 0 ≤ 4096) ∧ (-4096 ≤ x.getD 2 0 ∧ x.getD 2 0 ≤ 4096)) ∧
    (((-256 ≤ x.getD 3 0 ∧ x.getD 3 0 ≤ 256) ∧ (-256 ≤ x.getD 4 0 ∧ x.getD 4 0 ≤ 256) ∧ (-256 ≤ x.getD 5 0 ∧ x.getD 5 0 ≤ 256)) ∧
    ((-256 ≤ x.getD 6 0 ∧ x.getD 6 0 ≤ 256) ∧ (-256 ≤ x.getD 7 0 ∧ x.getD 7 0 ≤ 256) ∧ (-256 ≤ x.getD 8 0 ∧ x.getD 8 0 ≤ 256)) ∧
    ((-256 ≤ x.getD 9 0 ∧ x.getD 9 0 ≤ 256) ∧ (-256 ≤ x.getD 10 0 ∧ x.getD 10 0 ≤ 256) ∧ (-256 ≤ x.getD 11 0 ∧ x.getD 11 0 ≤ 256))) := by
  simp only [camB, rows9, Bool.and_eq_true, all3_true, Nat.reduceAdd, Nat.zero_add] at h
  exact ⟨h.1, h.2.1⟩
theorem prodA {m a : Int} (h4 : -256 ≤ m ∧ m ≤ 256) (h : -8192 ≤ a ∧ a ≤ 8192) : -2097152 ≤ m * a ∧ m * a ≤ 2097152 := by
  have := mul_abs_le h4 h
  omega
theorem lowA {p q r s t u : Int} (hp : -2097152 ≤ p ∧ p ≤ 2097152) (hq : -2097152 ≤ q ∧ q ≤ 2097152) (hr : -2097152 ≤ r ∧ r ≤ 2097152) (hs : -2097152 ≤ s ∧ s ≤ 2097152) (ht : -2097152 ≤ t ∧ t ≤ 2097152) (hu : -2097152 ≤ u ∧ u ≤ 2097152) :
    (-24576 ≤ (min p q + min r s + min t u) / 256 ∧ (min p q + min r s + min t u) / 256 ≤ 24576) ∧ (-24576 ≤ (max p q + max r s + max t u) / 256 ∧ (max p q + max r s + max t u) / 256 ≤ 24576) ∧ (min p q + min r s + min t u) / 256 ≤ (max p q + max r s + max t u) / 256 := by omega
theorem seen_in {x : List Int} (hc : camB x 0 = true) (hw : worldB x 16 = true) : ((-24576 ≤ vw x 0 ∧ vw x 0 ≤ 24576) ∧ (-24576 ≤ vw x 1 ∧ vw x 1 ≤ 24576) ∧ (-24576 ≤ vw x 2 ∧ vw x 2 ≤ 24576)) ∧
    ((-24576 ≤ vw x 3 ∧ vw x 3 ≤ 24576) ∧ (-24576 ≤ vw x 4 ∧ vw x 4 ≤ 24576) ∧ (-24576 ≤ vw x 5 ∧ vw x 5 ≤ 24576)) ∧ (vw x 0 ≤ vw x 3 ∧ vw x 1 ≤ vw x 4 ∧ vw x 2 ≤ vw x 5) := by
  obtain ⟨p, m⟩ := camB_all hc
  have b := world_true.1 hw
  simp only [Nat.reduceAdd] at b
  have d0 : -8192 ≤ x.getD 16 0 - x.getD 0 0 ∧ x.getD 16 0 - x.getD 0 0 ≤ 8192 := by omega
  have d1 : -8192 ≤ x.getD 17 0 - x.getD 1 0 ∧ x.getD 17 0 - x.getD 1 0 ≤ 8192 := by omega
  have d2 : -8192 ≤ x.getD 18 0 - x.getD 2 0 ∧ x.getD 18 0 - x.getD 2 0 ≤ 8192 := by omega
  have e0 : -8192 ≤ x.getD 19 0 - x.getD 0 0 ∧ x.getD 19 0 - x.getD 0 0 ≤ 8192 := by omega
  have e1 : -8192 ≤ x.getD 20 0 - x.getD 1 0 ∧ x.getD 20 0 - x.getD 1 0 ≤ 8192 := by omega
  have e2 : -8192 ≤ x.getD 21 0 - x.getD 2 0 ∧ x.getD 21 0 - x.getD 2 0 ≤ 8192 := by omega
  obtain ⟨l0, h0, o0⟩ := lowA (prodA m.1.1 d0) (prodA m.1.1 e0) (prodA m.1.2.1 d1) (prodA m.1.2.1 e1) (prodA m.1.2.2 d2) (prodA m.1.2.2 e2)
  obtain ⟨l1, h1, o1⟩ := lowA (prodA m.2.1.1 d0) (prodA m.2.1.1 e0) (prodA m.2.1.2.1 d1) (prodA m.2.1.2.1 e1) (prodA m.2.1.2.2 d2) (prodA m.2.1.2.2 e2)
  obtain ⟨l2, h2, o2⟩ := lowA (prodA m.2.2.1 d0) (prodA m.2.2.1 e0) (prodA m.2.2.2.1 d1) (prodA m.2.2.2.1 e1) (prodA m.2.2.2.2 d2) (prodA m.2.2.2.2 e2)
  exact ⟨⟨l0, l1, l2⟩, ⟨h0, h1, h2⟩, o0, o1, o2⟩
theorem aimed_ok {x : List Int} (hc : camB x 0 = true) (hw : worldB x 16 = true) : rows9 1024 (aimed x) 0 = true ∧ boxB (aimed x) 9 = true ∧ boxB (turnedP (aimed x)) 0 = true := by
  have hs := seen_in hc hw
  obtain ⟨p, m⟩ := camB_all hc
  have b := world_true.1 hw
  simp only [Nat.reduceAdd] at b
  refine ⟨?_, ?_, ?_⟩
  · simp only [rows9, Bool.and_eq_true, all3_true, aimed, TX.sat, XB.prop, X.den, List.map_cons, List.map_nil, List.getElem?_cons_zero, List.getElem?_cons_succ, List.cons_append, List.nil_append, List.getD_cons_zero, List.getD_cons_succ, mkS, mkP, and_true, true_and, Int.not_lt, Int.not_le, not_or, not_and, Classical.not_not, ne_eq, not_true_eq_false, not_false_eq_true, Nat.reduceAdd, Nat.zero_add]
    clear hs b p
    omega
  · simp only [boxB_true, aimed, TX.sat, XB.prop, X.den, List.map_cons, List.map_nil, List.getElem?_cons_zero, List.getElem?_cons_succ, List.cons_append, List.nil_append, List.getD_cons_zero, List.getD_cons_succ, mkS, mkP, and_true, true_and, Int.not_lt, Int.not_le, not_or, not_and, Classical.not_not, ne_eq, not_true_eq_false, not_false_eq_true, Nat.reduceAdd, Nat.zero_add]
    clear hs m
    omega
  · rw [boxB_true]
    have hs' : ((-24576 ≤ (turnedP (aimed x)).getD 0 0 ∧ (turnedP (aimed x)).getD 0 0 ≤ 24576) ∧ (-24576 ≤ (turnedP (aimed x)).getD 1 0 ∧ (turnedP (aimed x)).getD 1 0 ≤ 24576) ∧ (-24576 ≤ (turnedP (aimed x)).getD 2 0 ∧ (turnedP (aimed x)).getD 2 0 ≤ 24576)) ∧
      ((-24576 ≤ (turnedP (aimed x)).getD 3 0 ∧ (turnedP (aimed x)).getD 3 0 ≤ 24576) ∧ (-24576 ≤ (turnedP (aimed x)).getD 4 0 ∧ (turnedP (aimed x)).getD 4 0 ≤ 24576) ∧ (-24576 ≤ (turnedP (aimed x)).getD 5 0 ∧ (turnedP (aimed x)).getD 5 0 ≤ 24576)) ∧ ((turnedP (aimed x)).getD 0 0 ≤ (turnedP (aimed x)).getD 3 0 ∧ (turnedP (aimed x)).getD 1 0 ≤ (turnedP (aimed x)).getD 4 0 ∧ (turnedP (aimed x)).getD 2 0 ≤ (turnedP (aimed x)).getD 5 0) := hs
    simp only [Nat.reduceAdd, Nat.zero_add]
    omega
theorem turnedL_aimed {x : List Int} (hc : camB x 0 = true) (hw : worldB x 16 = true) : turnedL (aimed x) = turnedP (aimed x) := by
  obtain ⟨h1, h2, h3⟩ := aimed_ok hc hw
  unfold turnedL
  rw [if_pos h1, if_pos h2, if_pos h3]
noncomputable def G_fview : List Sum := [s_ccheck, s_bcheck, s_inside, s_bturned]
def I_fview : List Inf := [i_ccheck, i_bcheck, i_inside, i_bturned]
def t_fview : TX := (.callp 0 [(.v 0), (.v 1), (.v 2), (.v 3), (.v 4), (.v 5), (.v 6), (.v 7), (.v 8), (.v 9), (.v 10), (.v 11), (.v 12), (.v 13), (.v 14), (.v 15)] (.ite (.not (.eq (.v 22) (.c 0))) (.ret [(.c 0), (.c 0), (.c 0), (.c 0), (.c 0), (.c 0), (.v 22)])
(.callp 1 [(.v 16), (.v 17), (.v 18), (.v 19), (.v 20), (.v 21)] (.ite (.not (.eq (.v 23) (.c 0))) (.ret [(.c 0), (.c 0), (.c 0), (.c 0), (.c 0), (.c 0), (.c 8)])
(.callp 2 [(.v 16), (.v 17), (.v 18), (.v 19), (.v 20), (.v 21), (.c (-4096)), (.c (-4096)), (.c (-4096)), (.c 4096), (.c 4096), (.c 4096)] (.ite (.eq (.v 24) (.c 0)) (.ret [(.c 0), (.c 0), (.c 0), (.c 0), (.c 0), (.c 0), (.c 8)])
(.callp 3 [(.v 3), (.v 4), (.v 5), (.v 6), (.v 7), (.v 8), (.v 9), (.v 10), (.v 11), (.wr .i64 (.sub (.v 16) (.v 0))), (.wr .i64 (.sub (.v 17) (.v 1))), (.wr .i64 (.sub (.v 18) (.v 2))), (.wr .i64 (.sub (.v 19) (.v 0))), (.wr .i64 (.sub (.v 20) (.v 1))), (.wr .i64 (.sub (.v 21) (.v 2)))] (.ret [(.v 25), (.v 26), (.v 27), (.v 28), (.v 29), (.v 30), (.v 31)]))))))))
theorem tree_fview : merge (optFL [] I_fview [] pin_fview (symFnL Tryd.prog noLp gl0 G_fview 1000 20 [An 16, An 6] [An 6, I1])) = t_fview := by kernel_rfl
theorem g_fview : Gok Tryd.prog G_fview := (more ok_ccheck (more ok_bcheck (more ok_inside (fix.one ok_bturned))))
theorem o_fview : outsOK G_fview I_fview := (outsOK_cons inf_ccheck (outsOK_cons inf_bcheck (outsOK_cons inf_inside (outsOK_cons inf_bturned outsOK_nil))))
theorem ok_fview : s_fview.ok Tryd.prog := Sum.okF facts.mixed g_fview o_fview tree_fview rfl (fun _ => rfl) (by
  intro xs hx hp
  obtain ⟨a0, a1, a2, a3, a4, a5, a6, a7, a8, a9, a10, a11, a12, a13, a14, a15, a16, a17, a18, a19, a20, a21, rfl⟩ := len22 hx
  have e1 : camB [a0, a1, a2, a3, a4, a5, a6, a7, a8, a9, a10, a11, a12, a13, a14, a15] 0 = camB [a0, a1, a2, a3, a4, a5, a6, a7, a8, a9, a10, a11, a12, a13, a14, a15, a16, a17, a18, a19, a20, a21] 0 := rfl
  have e2 : worldB [a0, a1, a2, a3, a4, a5, a6, a7, a8, a9, a10, a11, a12, a13, a14, a15, a16, a17, a18, a19, a20, a21] 16 = worldB [a16, a17, a18, a19, a20, a21] 0 := rfl
  have e3 : boxB [a16, a17, a18, a19, a20, a21] 0 = boxB [a0, a1, a2, a3, a4, a5, a6, a7, a8, a9, a10, a11, a12, a13, a14, a15, a16, a17, a18, a19, a20, a21] 16 := rfl
  have hL := @turnedL_aimed [a0, a1, a2, a3, a4, a5, a6, a7, a8, a9, a10, a11, a12, a13, a14, a15, a16, a17, a18, a19, a20, a21]
  have hW := @world_true [a0, a1, a2, a3, a4, a5, a6, a7, a8, a9, a10, a11, a12, a13, a14, a15, a16, a17, a18, a19, a20, a21] 16
  have hC := @camB_all [a0, a1, a2, a3, a4, a5, a6, a7, a8, a9, a10, a11, a12, a13, a14, a15, a16, a17, a18, a19, a20, a21]
  simp only [TX.sat, XB.prop, X.den, List.map_cons, List.map_nil, List.getElem?_cons_zero, List.getElem?_cons_succ, List.cons_append, List.nil_append, List.getD_cons_zero, List.getD_cons_succ, mkS, mkP, and_true, true_and, Int.not_lt, Int.not_le, not_or, not_and, Classical.not_not, ne_eq, not_true_eq_false, not_false_eq_true, Nat.reduceAdd] at hW hC
  simp only [aimed, TX.sat, XB.prop, X.den, List.map_cons, List.map_nil, List.getElem?_cons_zero, List.getElem?_cons_succ, List.cons_append, List.nil_append, List.getD_cons_zero, List.getD_cons_succ, mkS, mkP, and_true, true_and, Int.not_lt, Int.not_le, not_or, not_and, Classical.not_not, ne_eq, not_true_eq_false, not_false_eq_true] at hL
  clear hx hp
  by_cases hc : camB [a0, a1, a2, a3, a4, a5, a6, a7, a8, a9, a10, a11, a12, a13, a14, a15, a16, a17, a18, a19, a20, a21] 0 = true
  · by_cases hw : worldB [a0, a1, a2, a3, a4, a5, a6, a7, a8, a9, a10, a11, a12, a13, a14, a15, a16, a17, a18, a19, a20, a21] 16 = true
    · have b := hW.1 hw
      obtain ⟨p, m⟩ := hC hc
      have v := hL hc hw
      have hw' := hw
      rw [e2, world_in, Bool.and_eq_true] at hw'
      obtain ⟨hb, hi⟩ := hw'
      have w0 : IntKind.i64.wrap (a16 - a0) = a16 - a0 := wrap64 (by omega) (by omega)
      have w1 : IntKind.i64.wrap (a17 - a1) = a17 - a1 := wrap64 (by omega) (by omega)
      have w2 : IntKind.i64.wrap (a18 - a2) = a18 - a2 := wrap64 (by omega) (by omega)
      have w3 : IntKind.i64.wrap (a19 - a0) = a19 - a0 := wrap64 (by omega) (by omega)
      have w4 : IntKind.i64.wrap (a20 - a1) = a20 - a1 := wrap64 (by omega) (by omega)
      have w5 : IntKind.i64.wrap (a21 - a2) = a21 - a2 := wrap64 (by omega) (by omega)
      simp only [t_fview, G_fview, s_ccheck, s_bcheck, s_inside, s_bturned, TX.sat, XB.prop, X.den, List.map_cons, List.map_nil, List.getElem?_cons_zero, List.getElem?_cons_succ, List.cons_append, List.nil_append, List.getD_cons_zero, List.getD_cons_succ, mkS, mkP, and_true, true_and, Int.not_lt, Int.not_le, not_or, not_and, Classical.not_not, ne_eq, not_true_eq_false, not_false_eq_true, sem_ccheck, sem_bcheck, sem_inside, sem_bturned, sem_fview, fviewL, e1, hc, hw, hb, hi, er, b01, if_true, reduceIte, ex7, w0, w1, w2, w3, w4, w5, v, aimed]
      clear hL hW hC b p m v w0 w1 w2 w3 w4 w5 hi hb
      refine ⟨fun h => absurd h (by simp), fun _ => ⟨fun h => absurd h (by simp), fun _ => ⟨fun h => absurd h (by simp), fun _ => ?_⟩⟩⟩
      first | rfl | trivial
    · have hw' := hw
      rw [e2, world_in, Bool.and_eq_true] at hw'
      simp only [t_fview, G_fview, s_ccheck, s_bcheck, s_inside, TX.sat, XB.prop, X.den, List.map_cons, List.map_nil, List.getElem?_cons_zero, List.getElem?_cons_succ, List.cons_append, List.nil_append, List.getD_cons_zero, List.getD_cons_succ, mkS, mkP, and_true, true_and, Int.not_lt, Int.not_le, not_or, not_and, Classical.not_not, ne_eq, not_true_eq_false, not_false_eq_true, sem_ccheck, sem_bcheck, sem_inside, sem_fview, fviewL, e1, hc, hw, er, b01, if_true, if_false, reduceIte, ex7, Bool.false_eq_true, z7]
      clear hL hW hC hw e1 e2 e3 hc
      generalize boxB _ 0 = p at *
      generalize insideB _ = q at *
      cases p <;> cases q <;> simp_all
  · simp only [t_fview, G_fview, s_ccheck, TX.sat, XB.prop, X.den, List.map_cons, List.map_nil, List.getElem?_cons_zero, List.getElem?_cons_succ, List.cons_append, List.nil_append, List.getD_cons_zero, List.getD_cons_succ, mkS, mkP, and_true, true_and, Int.not_lt, Int.not_le, not_or, not_and, Classical.not_not, ne_eq, not_true_eq_false, not_false_eq_true, sem_ccheck, sem_fview, fviewL, e1, hc, er, if_false, reduceIte, ex7, Bool.false_eq_true, z7]
    exact ⟨fun _ => trivial, fun h => absurd h (by decide)⟩)
theorem inf_fview : InfOK s_fview i_fview := ⟨fun _ h => h, fun vs xs h hp => by
  show vsOK (ivs 6 (-24576) 24576 ++ [iv 0 150]) (ex7 (fviewL xs))
  have z : ∀ e : Int, 0 ≤ e → e ≤ 150 → vsOK (ivs 6 (-24576) 24576 ++ [iv 0 150]) (ex7 (z7 e)) := fun e h1 h2 =>
    vsOK_cons (iv_def.2 (by simp [z7])) (vsOK_cons (iv_def.2 (by simp [z7])) (vsOK_cons (iv_def.2 (by simp [z7])) (vsOK_cons (iv_def.2 (by simp [z7])) (vsOK_cons (iv_def.2 (by simp [z7])) (vsOK_cons (iv_def.2 (by simp [z7])) (vsOK_cons ⟨h1, h2⟩ vsOK_nil))))))
  unfold fviewL
  split
  · rename_i hc
    split
    · rename_i hw
      obtain ⟨s1, s2, _⟩ := seen_in hc hw
      exact vsOK_cons s1.1 (vsOK_cons s1.2.1 (vsOK_cons s1.2.2 (vsOK_cons s2.1 (vsOK_cons s2.2.1 (vsOK_cons s2.2.2 (vsOK_cons (iv_def.2 (by simp [turnedP])) vsOK_nil))))))
    · exact z 8 (by omega) (by omega)
  · exact z 150 (by omega) (by omega)⟩
/-! ### places -/
noncomputable def G_fplace : List Sum := [s_floor]
def I_fplace : List Inf := [i_floor]
def t_fplace : TX := (.ite (.iff (.le (.c 0) (.v 4)) (.nz (.v 5))) (.callp 0 [(.mul (.v 0) (.v 4)), (.v 2)] (.ret [(.v 6)]))
(.callp 0 [(.mul (.v 0) (.v 4)), (.v 3)] (.ret [(.v 6)])))
theorem tree_fplace : merge (optFL [] I_fplace [] pin_fplace (symFnL Tryd.prog noLp gl0 G_fplace 1000 23 [An 4, I1, Bo] [I1])) = t_fplace := by kernel_rfl
theorem g_fplace : Gok Tryd.prog G_fplace := (fix.one ok_floor)
theorem o_fplace : outsOK G_fplace I_fplace := (outsOK_cons inf_floor outsOK_nil)
noncomputable def G_fpix : List Sum := [s_floor, s_ceil]
def I_fpix : List Inf := [i_floor, i_ceil]
def t_fpix : TX := (.callp 1 [(.sub (.v 4) (.c 4)), (.c 8)] (.callp 0 [(.sub (.v 5) (.c 4)), (.c 8)] (.ite (.le (.mx (.v 8) (.v 6)) (.mn (.v 10) (.v 7))) (.ret [(.mx (.v 8) (.v 6)), (.mn (.v 10) (.v 7)), (.c 1)])
(.ret [(.mx (.v 8) (.v 6)), (.mn (.v 10) (.v 7)), (.c 0)]))))
theorem tree_fpix : merge (optFL [] I_fpix [] pin_fpix (symFnL Tryd.prog noLp gl0 G_fpix 1000 22 [An 4, I1, I1, I1, I1] [I1, I1, Bo])) = t_fpix := by kernel_rfl
theorem g_fpix : Gok Tryd.prog G_fpix := (more ok_floor (fix.one ok_ceil))
theorem o_fpix : outsOK G_fpix I_fpix := (outsOK_cons inf_floor (outsOK_cons inf_ceil outsOK_nil))
theorem ok_fplace : s_fplace.ok Tryd.prog := Sum.okF facts.mixed g_fplace o_fplace tree_fplace rfl (fun _ => rfl) (by
  intro xs hx hp
  obtain ⟨a0, a1, a2, a3, a4, a5, rfl⟩ := len6 hx
  simp only [t_fplace, G_fplace, s_floor, TX.sat, XB.prop, X.den, List.map_cons, List.map_nil, List.getElem?_cons_zero, List.getElem?_cons_succ, List.cons_append, List.nil_append, List.getD_cons_zero, List.getD_cons_succ, mkS, mkP, and_true, true_and, Int.not_lt, Int.not_le, not_or, not_and, Classical.not_not, ne_eq, not_true_eq_false, not_false_eq_true, sem_fplace, sem_floor]
  exact ⟨fun h => by rw [if_pos h], fun h => by rw [if_neg h]⟩)
theorem inf_fplace : InfOK s_fplace i_fplace := ⟨fun _ h => h, fun vs xs h hp => by
  have h0 : 8 ≤ xs.getD 0 0 ∧ xs.getD 0 0 ≤ 512 := hp.2 0
  have h2 : 256 ≤ xs.getD 2 0 ∧ xs.getD 2 0 ≤ 32768 := hp.2 2
  have h3 : 256 ≤ xs.getD 3 0 ∧ xs.getD 3 0 ≤ 32768 := hp.2 3
  have h4 : -32768 ≤ xs.getD 4 0 ∧ xs.getD 4 0 ≤ 32768 := hp.2 4
  refine vsOK_cons ?_ vsOK_nil
  have hm := mul_abs_le (x := xs.getD 0 0) (y := xs.getD 4 0) (m := 512) (n := 32768) (by omega) h4
  have key : ∀ z : Int, 256 ≤ z → -65536 ≤ xs.getD 0 0 * xs.getD 4 0 / z ∧ xs.getD 0 0 * xs.getD 4 0 / z ≤ 65536 := by
    intro z hz
    constructor
    · rw [Int.le_ediv_iff_mul_le (by omega)]; omega
    · apply Int.ediv_le_of_le_mul (by omega); omega
  show ivHas (iv (-65536) 65536) (xs.getD 0 0 * xs.getD 4 0 / (if (0 ≤ xs.getD 4 0 ↔ xs.getD 5 0 ≠ 0) then xs.getD 2 0 else xs.getD 3 0))
  split
  · exact key _ h2.1
  · exact key _ h3.1⟩
theorem ok_fpix : s_fpix.ok Tryd.prog := Sum.okF facts.mixed g_fpix o_fpix tree_fpix rfl (fun _ => rfl) (by
  intro xs hx hp
  obtain ⟨a0, a1, a2, a3, a4, a5, a6, a7, rfl⟩ := len8 hx
  simp only [t_fpix, G_fpix, s_floor, s_ceil, TX.sat, XB.prop, X.den, List.map_cons, List.map_nil, List.getElem?_cons_zero, List.getElem?_cons_succ, List.cons_append, List.nil_append, List.getD_cons_zero, List.getD_cons_succ, mkS, mkP, and_true, true_and, Int.not_lt, Int.not_le, not_or, not_and, Classical.not_not, ne_eq, not_true_eq_false, not_false_eq_true, sem_fpix, sem_floor, sem_ceil, b01, dec_true]
  exact ⟨fun h => by rw [if_pos h], fun h => by rw [if_neg (by omega)]⟩)
theorem mx_in {a b : Int} (ha : -9223372036854775808 ≤ a ∧ a ≤ 9223372036854775807) (hb : -9223372036854775808 ≤ b ∧ b ≤ 9223372036854775807) : -9223372036854775808 ≤ max a b ∧ max a b ≤ 9223372036854775807 := by omega
theorem mn_in {a b : Int} (ha : -9223372036854775808 ≤ a ∧ a ≤ 9223372036854775807) (hb : -9223372036854775808 ≤ b ∧ b ≤ 9223372036854775807) : -9223372036854775808 ≤ min a b ∧ min a b ≤ 9223372036854775807 := by omega
theorem inf_fpix : InfOK s_fpix i_fpix := ⟨fun _ h => h, fun vs xs h hp => by
  have h4 : -1048576 ≤ xs.getD 4 0 ∧ xs.getD 4 0 ≤ 1048576 := hp.2 4
  have h5 : -1048576 ≤ xs.getD 5 0 ∧ xs.getD 5 0 ≤ 1048576 := hp.2 5
  have u1 := up_range (a := xs.getD 4 0 - 4) (b := 8) (l := -1048580) (h := 1048580) (by omega) (by omega) (by omega) (by omega) (by omega)
  have u2 := div_range (a := xs.getD 5 0 - 4) (b := 8) (l := -1048580) (h := 1048580) (by omega) (by omega) (by omega) (by omega) (by omega)
  exact vsOK_cons (mx_in (by omega) (hp.2 6)) (vsOK_cons (mn_in (by omega) (hp.2 7)) (vsOK_cons (b01_iv _) vsOK_nil))⟩
end Go.Proofs.YtgcoidbaoigkeaaDoor.fix
