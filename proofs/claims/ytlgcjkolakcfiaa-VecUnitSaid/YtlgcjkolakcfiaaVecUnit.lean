/-
  The law VecUnit is answered with true, whatever the matrix and the point, and its arguments stay as they were.
-/
import Derived.Test.YtlgcjkolakcfiaaRows
import Derived.Test.YtlgcjkolakcfiaaFacts
import Derived.Test.YtlgcjkolakcfiaaVec
set_option linter.unusedVariables false
set_option linter.unusedSimpArgs false
namespace Go.Proofs.Ytlgcjkolakcfiaa.vecUnit
open Go.RowKit Go.ChangeShapes Go.WideShapes Go.ChangeAt Go.Sx fix

theorem image_unit {x y z : Int} (h : (-4096 ≤ x ∧ x ≤ 4096) ∧ (-4096 ≤ y ∧ y ≤ 4096) ∧ (-4096 ≤ z ∧ z ≤ 4096)) : imageL [256, 0, 0, 0, 256, 0, 0, 0, 256, 0, 0, 0, x, y, z] = [x, y, z, 0] := by
  have hp : imageP [256, 0, 0, 0, 256, 0, 0, 0, 256, 0, 0, 0, x, y, z] = [x, y, z, 0] := by
    simp only [imageP, dot, TX.sat, XB.prop, X.den, List.map_cons, List.map_nil, List.getElem?_cons_zero, List.getElem?_cons_succ, List.cons_append, List.nil_append, List.getD_cons_zero, List.getD_cons_succ, mkS, mkP, and_true, true_and, Int.not_lt, Int.not_le, not_or, not_and, Classical.not_not, ne_eq, not_true_eq_false, not_false_eq_true, Nat.reduceAdd]
    simp
  unfold imageL
  rw [hp, if_pos]
  simp only [matB, rows9, Bool.and_eq_true, all3_true, TX.sat, XB.prop, X.den, List.map_cons, List.map_nil, List.getElem?_cons_zero, List.getElem?_cons_succ, List.cons_append, List.nil_append, List.getD_cons_zero, List.getD_cons_succ, mkS, mkP, and_true, true_and, Int.not_lt, Int.not_le, not_or, not_and, Classical.not_not, ne_eq, not_true_eq_false, not_false_eq_true, Nat.reduceAdd, Nat.zero_add]
  omega
theorem mul_unit_l {a0 a1 a2 a3 a4 a5 a6 a7 a8 a9 a10 a11 : Int} (h : matB [a0, a1, a2, a3, a4, a5, a6, a7, a8, a9, a10, a11] 0 = true) : mulL [256, 0, 0, 0, 256, 0, 0, 0, 256, 0, 0, 0, a0, a1, a2, a3, a4, a5, a6, a7, a8, a9, a10, a11] = [a0, a1, a2, a3, a4, a5, a6, a7, a8, a9, a10, a11, 0] := by
  have hp : mulP [256, 0, 0, 0, 256, 0, 0, 0, 256, 0, 0, 0, a0, a1, a2, a3, a4, a5, a6, a7, a8, a9, a10, a11] = [a0, a1, a2, a3, a4, a5, a6, a7, a8, a9, a10, a11, 0] := by
    simp only [mulP, dot, dotC, TX.sat, XB.prop, X.den, List.map_cons, List.map_nil, List.getElem?_cons_zero, List.getElem?_cons_succ, List.cons_append, List.nil_append, List.getD_cons_zero, List.getD_cons_succ, mkS, mkP, and_true, true_and, Int.not_lt, Int.not_le, not_or, not_and, Classical.not_not, ne_eq, not_true_eq_false, not_false_eq_true, Nat.reduceAdd]
    simp
  have h' : matB [256, 0, 0, 0, 256, 0, 0, 0, 256, 0, 0, 0, a0, a1, a2, a3, a4, a5, a6, a7, a8, a9, a10, a11] 12 = true := h
  have h'' : matB [a0, a1, a2, a3, a4, a5, a6, a7, a8, a9, a10, a11, 0] 0 = true := h
  have hu : matB [256, 0, 0, 0, 256, 0, 0, 0, 256, 0, 0, 0, a0, a1, a2, a3, a4, a5, a6, a7, a8, a9, a10, a11] 0 = true := by
    simp only [matB, rows9, Bool.and_eq_true, all3_true, TX.sat, XB.prop, X.den, List.map_cons, List.map_nil, List.getElem?_cons_zero, List.getElem?_cons_succ, List.cons_append, List.nil_append, List.getD_cons_zero, List.getD_cons_succ, mkS, mkP, and_true, true_and, Int.not_lt, Int.not_le, not_or, not_and, Classical.not_not, ne_eq, not_true_eq_false, not_false_eq_true, Nat.reduceAdd, Nat.zero_add]
    omega
  unfold mulL
  rw [hp, h', h'', hu]
  rfl
theorem mul_unit_r {a0 a1 a2 a3 a4 a5 a6 a7 a8 a9 a10 a11 : Int} (h : matB [a0, a1, a2, a3, a4, a5, a6, a7, a8, a9, a10, a11] 0 = true) : mulL [a0, a1, a2, a3, a4, a5, a6, a7, a8, a9, a10, a11, 256, 0, 0, 0, 256, 0, 0, 0, 256, 0, 0, 0] = [a0, a1, a2, a3, a4, a5, a6, a7, a8, a9, a10, a11, 0] := by
  have hp : mulP [a0, a1, a2, a3, a4, a5, a6, a7, a8, a9, a10, a11, 256, 0, 0, 0, 256, 0, 0, 0, 256, 0, 0, 0] = [a0, a1, a2, a3, a4, a5, a6, a7, a8, a9, a10, a11, 0] := by
    simp only [mulP, dot, dotC, TX.sat, XB.prop, X.den, List.map_cons, List.map_nil, List.getElem?_cons_zero, List.getElem?_cons_succ, List.cons_append, List.nil_append, List.getD_cons_zero, List.getD_cons_succ, mkS, mkP, and_true, true_and, Int.not_lt, Int.not_le, not_or, not_and, Classical.not_not, ne_eq, not_true_eq_false, not_false_eq_true, Nat.reduceAdd]
    simp
  have h' : matB [a0, a1, a2, a3, a4, a5, a6, a7, a8, a9, a10, a11, 256, 0, 0, 0, 256, 0, 0, 0, 256, 0, 0, 0] 0 = true := h
  have h'' : matB [a0, a1, a2, a3, a4, a5, a6, a7, a8, a9, a10, a11, 0] 0 = true := h
  have hu : matB [a0, a1, a2, a3, a4, a5, a6, a7, a8, a9, a10, a11, 256, 0, 0, 0, 256, 0, 0, 0, 256, 0, 0, 0] 12 = true := by
    simp only [matB, rows9, Bool.and_eq_true, all3_true, TX.sat, XB.prop, X.den, List.map_cons, List.map_nil, List.getElem?_cons_zero, List.getElem?_cons_succ, List.cons_append, List.nil_append, List.getD_cons_zero, List.getD_cons_succ, mkS, mkP, and_true, true_and, Int.not_lt, Int.not_le, not_or, not_and, Classical.not_not, ne_eq, not_true_eq_false, not_false_eq_true, Nat.reduceAdd, Nat.zero_add]
    omega
  unfold mulL
  rw [hp, h', h'', hu]
  rfl
theorem mul_no_l {a0 a1 a2 a3 a4 a5 a6 a7 a8 a9 a10 a11 : Int} (h : matB [a0, a1, a2, a3, a4, a5, a6, a7, a8, a9, a10, a11] 0 = false) : mulL [256, 0, 0, 0, 256, 0, 0, 0, 256, 0, 0, 0, a0, a1, a2, a3, a4, a5, a6, a7, a8, a9, a10, a11] = [0, 0, 0, 0, 0, 0, 0, 0, 0, 0, 0, 0, 20] := by
  have h' : matB [256, 0, 0, 0, 256, 0, 0, 0, 256, 0, 0, 0, a0, a1, a2, a3, a4, a5, a6, a7, a8, a9, a10, a11] 12 = false := h
  unfold mulL
  rw [h', Bool.and_false, Bool.false_and]
  rfl
theorem mul_no_r {a0 a1 a2 a3 a4 a5 a6 a7 a8 a9 a10 a11 : Int} (h : matB [a0, a1, a2, a3, a4, a5, a6, a7, a8, a9, a10, a11] 0 = false) : mulL [a0, a1, a2, a3, a4, a5, a6, a7, a8, a9, a10, a11, 256, 0, 0, 0, 256, 0, 0, 0, 256, 0, 0, 0] = [0, 0, 0, 0, 0, 0, 0, 0, 0, 0, 0, 0, 20] := by
  have h' : matB [a0, a1, a2, a3, a4, a5, a6, a7, a8, a9, a10, a11, 256, 0, 0, 0, 256, 0, 0, 0, 256, 0, 0, 0] 0 = false := h
  unfold mulL
  rw [h', Bool.false_and, Bool.false_and]
  rfl

def G_VecUnit : List Sum := [s_alive02, s_image, s_mul, s_vcheck, s_cmat]
def I_VecUnit : List Inf := [i_alive02, i_image, i_mul, i_vcheck, i_cmat]
def t_VecUnit : TX := (.callp 0 [] (.callp 1 [(.c 256), (.c 0), (.c 0), (.c 0), (.c 256), (.c 0), (.c 0), (.c 0), (.c 256), (.c 0), (.c 0), (.c 0), (.v 12), (.v 13), (.v 14)] (.callp 2 [(.c 256), (.c 0), (.c 0), (.c 0), (.c 256), (.c 0), (.c 0), (.c 0), (.c 256), (.c 0), (.c 0), (.c 0), (.v 0), (.v 1), (.v 2), (.v 3), (.v 4), (.v 5), (.v 6), (.v 7), (.v 8), (.v 9), (.v 10), (.v 11)] (.callp 2 [(.v 0), (.v 1), (.v 2), (.v 3), (.v 4), (.v 5), (.v 6), (.v 7), (.v 8), (.v 9), (.v 10), (.v 11), (.c 256), (.c 0), (.c 0), (.c 0), (.c 256), (.c 0), (.c 0), (.c 0), (.c 256), (.c 0), (.c 0), (.c 0)] (.callp 3 [(.v 12), (.v 13), (.v 14)] (.ite (.eq (.v 46) (.c 0)) (.ite (.or (.not (.eq (.v 19) (.c 0))) (.or (.not (.eq (.v 16) (.v 12))) (.or (.not (.eq (.v 17) (.v 13))) (.not (.eq (.v 18) (.v 14)))))) (.ret [(.c 0)])
(.callp 4 [(.v 0), (.v 1), (.v 2), (.v 3), (.v 4), (.v 5), (.v 6), (.v 7), (.v 8), (.v 9), (.v 10), (.v 11)] (.ite (.not (.eq (.v 47) (.c 0))) (.ite (.and (.and (.nz (.v 15)) (.eq (.v 32) (.c 20))) (.eq (.v 45) (.c 20))) (.ret [(.c 1)])
(.ret [(.c 0)]))
(.ite (.and (.and (.and (.and (.nz (.v 15)) (.eq (.v 32) (.c 0))) (.eq (.v 45) (.c 0))) (.and (.and (.and (.eq (.v 20) (.v 0)) (.and (.eq (.v 21) (.v 1)) (.eq (.v 22) (.v 2)))) (.and (.and (.eq (.v 23) (.v 3)) (.and (.eq (.v 24) (.v 4)) (.eq (.v 25) (.v 5)))) (.and (.eq (.v 26) (.v 6)) (.and (.eq (.v 27) (.v 7)) (.eq (.v 28) (.v 8)))))) (.and (.eq (.v 29) (.v 9)) (.and (.eq (.v 30) (.v 10)) (.eq (.v 31) (.v 11)))))) (.and (.and (.and (.eq (.v 33) (.v 0)) (.and (.eq (.v 34) (.v 1)) (.eq (.v 35) (.v 2)))) (.and (.and (.eq (.v 36) (.v 3)) (.and (.eq (.v 37) (.v 4)) (.eq (.v 38) (.v 5)))) (.and (.eq (.v 39) (.v 6)) (.and (.eq (.v 40) (.v 7)) (.eq (.v 41) (.v 8)))))) (.and (.eq (.v 42) (.v 9)) (.and (.eq (.v 43) (.v 10)) (.eq (.v 44) (.v 11)))))) (.ret [(.c 1)])
(.ret [(.c 0)])))))
(.callp 4 [(.v 0), (.v 1), (.v 2), (.v 3), (.v 4), (.v 5), (.v 6), (.v 7), (.v 8), (.v 9), (.v 10), (.v 11)] (.ite (.not (.eq (.v 47) (.c 0))) (.ite (.and (.and (.nz (.v 15)) (.eq (.v 32) (.c 20))) (.eq (.v 45) (.c 20))) (.ret [(.c 1)])
(.ret [(.c 0)]))
(.ite (.and (.and (.and (.and (.nz (.v 15)) (.eq (.v 32) (.c 0))) (.eq (.v 45) (.c 0))) (.and (.and (.and (.eq (.v 20) (.v 0)) (.and (.eq (.v 21) (.v 1)) (.eq (.v 22) (.v 2)))) (.and (.and (.eq (.v 23) (.v 3)) (.and (.eq (.v 24) (.v 4)) (.eq (.v 25) (.v 5)))) (.and (.eq (.v 26) (.v 6)) (.and (.eq (.v 27) (.v 7)) (.eq (.v 28) (.v 8)))))) (.and (.eq (.v 29) (.v 9)) (.and (.eq (.v 30) (.v 10)) (.eq (.v 31) (.v 11)))))) (.and (.and (.and (.eq (.v 33) (.v 0)) (.and (.eq (.v 34) (.v 1)) (.eq (.v 35) (.v 2)))) (.and (.and (.eq (.v 36) (.v 3)) (.and (.eq (.v 37) (.v 4)) (.eq (.v 38) (.v 5)))) (.and (.eq (.v 39) (.v 6)) (.and (.eq (.v 40) (.v 7)) (.eq (.v 41) (.v 8)))))) (.and (.eq (.v 42) (.v 9)) (.and (.eq (.v 43) (.v 10)) (.eq (.v 44) (.v 11)))))) (.ret [(.c 1)])
(.ret [(.c 0)]))))))))))
theorem tree_VecUnit : merge (opt I_VecUnit (((An 12).ks ++ ((An 3).ks ++ [])).map ivK) (symFn Try.prog G_VecUnit 1000 19 [An 12, An 3] [Bo])) = t_VecUnit := by kernel_rfl
theorem g_VecUnit : Gok Try.prog G_VecUnit := (more ok_alive02 (more ok_image (more ok_mul (more ok_vcheck (one ok_cmat)))))
theorem o_VecUnit : outsOK G_VecUnit I_VecUnit := (outsOK_cons inf_alive02 (outsOK_cons inf_image (outsOK_cons inf_mul (outsOK_cons inf_vcheck (outsOK_cons inf_cmat outsOK_nil)))))
theorem plain (xs0 : List Int) (hr0 : rangeOK (An 12).ks xs0) (xs1 : List Int) (hr1 : rangeOK (An 3).ks xs1) : t_VecUnit.sat G_VecUnit [] (fun ys => ys = [1]) (xs0 ++ (xs1 ++ [])) := by
  obtain ⟨l0, i0⟩ := An_inv hr0
  obtain ⟨a0, a1, a2, a3, a4, a5, a6, a7, a8, a9, a10, a11, rfl⟩ := len12 l0
  obtain ⟨l1, i1⟩ := An_inv hr1
  obtain ⟨a12, a13, a14, rfl⟩ := len3 l1
  cases hm : matB [a0, a1, a2, a3, a4, a5, a6, a7, a8, a9, a10, a11] 0 with
  | true =>
    have e1 := mul_unit_l hm
    have e2 := mul_unit_r hm
    cases hv : all3 4096 [a12, a13, a14] 0 with
    | true =>
      have e3 : imageL [256, 0, 0, 0, 256, 0, 0, 0, 256, 0, 0, 0, a12, a13, a14] = [a12, a13, a14, 0] := image_unit (all3_true.1 hv)
      simp only [t_VecUnit, G_VecUnit, s_alive02, s_image, s_mul, s_vcheck, s_cmat, TX.sat, XB.prop, X.den, List.map_cons, List.map_nil, List.getElem?_cons_zero, List.getElem?_cons_succ, List.cons_append, List.nil_append, List.getD_cons_zero, List.getD_cons_succ, mkS, mkP, and_true, true_and, Int.not_lt, Int.not_le, not_or, not_and, Classical.not_not, ne_eq, not_true_eq_false, not_false_eq_true, sem_alive02, sem_alive, sem_image, sem_mul, sem_vcheck, sem_cmat, ex4, ex13, er_true, er_false, hm, hv, e1, e2, e3]
      simp
    | false =>
      simp only [t_VecUnit, G_VecUnit, s_alive02, s_image, s_mul, s_vcheck, s_cmat, TX.sat, XB.prop, X.den, List.map_cons, List.map_nil, List.getElem?_cons_zero, List.getElem?_cons_succ, List.cons_append, List.nil_append, List.getD_cons_zero, List.getD_cons_succ, mkS, mkP, and_true, true_and, Int.not_lt, Int.not_le, not_or, not_and, Classical.not_not, ne_eq, not_true_eq_false, not_false_eq_true, sem_alive02, sem_alive, sem_image, sem_mul, sem_vcheck, sem_cmat, ex4, ex13, er_true, er_false, hm, hv, e1, e2]
      simp
  | false =>
    have e1 := mul_no_l hm
    have e2 := mul_no_r hm
    cases hv : all3 4096 [a12, a13, a14] 0 with
    | true =>
      have e3 : imageL [256, 0, 0, 0, 256, 0, 0, 0, 256, 0, 0, 0, a12, a13, a14] = [a12, a13, a14, 0] := image_unit (all3_true.1 hv)
      simp only [t_VecUnit, G_VecUnit, s_alive02, s_image, s_mul, s_vcheck, s_cmat, TX.sat, XB.prop, X.den, List.map_cons, List.map_nil, List.getElem?_cons_zero, List.getElem?_cons_succ, List.cons_append, List.nil_append, List.getD_cons_zero, List.getD_cons_succ, mkS, mkP, and_true, true_and, Int.not_lt, Int.not_le, not_or, not_and, Classical.not_not, ne_eq, not_true_eq_false, not_false_eq_true, sem_alive02, sem_alive, sem_image, sem_mul, sem_vcheck, sem_cmat, ex4, ex13, er_true, er_false, hm, hv, e1, e2, e3]
      simp
    | false =>
      simp only [t_VecUnit, G_VecUnit, s_alive02, s_image, s_mul, s_vcheck, s_cmat, TX.sat, XB.prop, X.den, List.map_cons, List.map_nil, List.getElem?_cons_zero, List.getElem?_cons_succ, List.cons_append, List.nil_append, List.getD_cons_zero, List.getD_cons_succ, mkS, mkP, and_true, true_and, Int.not_lt, Int.not_le, not_or, not_and, Classical.not_not, ne_eq, not_true_eq_false, not_false_eq_true, sem_alive02, sem_alive, sem_image, sem_mul, sem_vcheck, sem_cmat, ex4, ex13, er_true, er_false, hm, hv, e1, e2]
      simp

theorem range_nil : rangeOK [] [] := trivial
set_option maxRecDepth 100000 in
theorem lifted (os : Os) (started : os.Started) (H : Type) (enc : TypeId × Value → H) :
    ReturnsInHanded {} Try.checked os 19 .any (Rows.vecUnitSpec.pre6 enc Try.prog Try.f19 Rows.vecUnitRow.domain false) (Rows.vecUnitSpec.post enc Try.prog Try.f19 false true false false) := by
  refine returnsInHanded_of_change (C := Try.checked) facts.own started (by kernel_rfl) Try.func19
    (ChangeSpec.witness6 (enc := enc) (C := Try.checked) false ⟨#[], #[.agg #[.int .i64 0, .int .i64 0, .int .i64 0, .int .i64 0, .int .i64 0, .int .i64 0, .int .i64 0, .int .i64 0, .int .i64 0, .int .i64 0, .int .i64 0, .int .i64 0], .agg #[.int .i64 0, .int .i64 0, .int .i64 0]], []⟩ 8 (by kernel_rfl) (by kernel_rfl) (by kernel_rfl) (by kernel_rfl)) ?_
  intro W base args ds gs before hval0 hW hcnd _
  have hval : ∀ (j : Nat) t v, Try.f19.params[j]? = some t → args[j]? = some v → Value.okWide Try.prog W .any base t v := hval0
  have hW' := hW
  obtain ⟨p, q, hA0, hV, rfl, hfz, hnd⟩ := hW
  have hA : DataW.TrodAll enc Try.prog W 0 (fun _ => true) true Try.f19.params.toList args.toList ds p := hA0
  rw [Try.params19] at hA hval
  obtain ⟨v0, vs0, d0, ds0, p0, q0, hargs, rfl, rfl, h0, r0⟩ := trodAll_cons hA
  obtain ⟨v1, vs1, d1, ds1, p1, q1, rfl, rfl, rfl, h1, r1⟩ := trodAll_cons r0
  obtain ⟨rfl, rfl, rfl⟩ := trodAll_nil r1
  obtain rfl : args = #[v0, v1] := by cases args; simp_all
  obtain ⟨rfl, rfl⟩ := trodVars_none hV
  have k0 := h0
  have lt0 : ∀ x ∈ p0, x.block < W.heap.size := by obtain ⟨m, hm⟩ := k0; exact DataW.trod_lt m _ _ _ hm
  have k1 := h1
  have lt1 : ∀ x ∈ p1, x.block < W.heap.size := by obtain ⟨m, hm⟩ := k1; exact DataW.trod_lt m _ _ _ hm
  obtain ⟨xs0, hv0, hr0⟩ := open_sh (sh := An 12) (by kernel_rfl) (by kernel_rfl) (hval 0 76 v0 rfl rfl) h0
  obtain ⟨xs1, hv1, hr1⟩ := open_sh (sh := An 3) (by kernel_rfl) (by kernel_rfl) (hval 1 51 v1 rfl rfl) h1
  clear hA0 hval0
  have hl0 := rangeOK_len hr0
  have hl1 := rangeOK_len hr1
  have hxs : #[v0, v1] = (mkShs [An 12, An 3] (xs0 ++ (xs1 ++ []))).toArray := by
    rw [mkShs_cons hl0, mkShs_cons hl1]
    simp [mkShs, hv0, hv1]
  have hlen : (xs0 ++ (xs1 ++ [])).length = total [An 12, An 3] := by
    simp only [List.length_append, List.length_nil, hl0, hl1]
    rfl
  have hcalls := law_opt facts.mixed g_VecUnit o_VecUnit tree_VecUnit hlen (range_vs ((rangeOK_app hr0 (rangeOK_app hr1 range_nil)) : rangeOK _ _)) (plain xs0 hr0 xs1 hr1) W
  rw [← hxs] at hcalls
  refine hcalls.mono fun e W' ⟨he, bel⟩ => ?_
  subst he
  exact ⟨_, rfl, _, _, _, [], _, [], hW', trodAll_mk1 (shut_bool Try.underlying4 _), (trodAll_cons_mk (Below.trod facts.laidOut (by kernel_rfl) (of_decide_eq_true (by kernel_rfl)) k0 bel lt0) (trodAll_cons_mk (Below.trod facts.laidOut (by kernel_rfl) (of_decide_eq_true (by kernel_rfl)) k1 bel lt1) trodAll_mk0)), rfl, bel.frame _, fun h => by cases h⟩

theorem over : Rows.vecUnitRow.holds Try.pinned (OpenSpec.ofChange Rows.vecUnitSpec) :=
  OpenClaim.holds_of_wide 19 Try.f19 rfl rfl rfl rfl rfl rfl rfl ⟨rfl, rfl, rfl, rfl, rfl⟩ rfl rfl rfl rfl rfl (by kernel_rfl) Try.func19
    (facts.joined (by kernel_rfl) (by kernel_rfl) (by kernel_rfl) (by kernel_rfl) (by kernel_rfl) (by kernel_rfl) (by kernel_rfl) rfl rfl rfl rfl)
    (of_decide_eq_true (by kernel_rfl)) (by unfold Func.isWrapper; first | (rw [if_pos (by decide +kernel)]; kernel_rfl) | (rw [if_neg (by decide +kernel)]; exact ⟨rfl, rfl⟩))
    (fun os started H enc _ => lifted os started H enc)

/-- THE STATEMENT. -/
theorem proved : Rows.VecUnitSaid := over
#print axioms proved

end Go.Proofs.Ytlgcjkolakcfiaa.vecUnit
