/-
  Where a box can show: shadows.
-/
import Derived.Test.YtgcoidbaoigkeaaDoorFFrus
set_option linter.unusedVariables false
set_option linter.unusedSimpArgs false
namespace Go.Proofs.YtgcoidbaoigkeaaDoor.fix
open Go.RowKit Go.Sx

theorem place_lo (a m c d n : Int) : sem_fplace [8 * a, m, c, d, n, 0] = [goLo a c d n] := by
  unfold sem_fplace goLo
  simp only [TX.sat, XB.prop, X.den, List.map_cons, List.map_nil, List.getElem?_cons_zero, List.getElem?_cons_succ, List.cons_append, List.nil_append, List.getD_cons_zero, List.getD_cons_succ, mkS, mkP, and_true, true_and, Int.not_lt, Int.not_le, not_or, not_and, Classical.not_not, ne_eq, not_true_eq_false, not_false_eq_true]
  by_cases h : 0 ≤ n <;> simp [h]
theorem place_hi (a m c d n : Int) : sem_fplace [8 * a, m, c, d, n, 1] = [goHi a c d n] := by
  unfold sem_fplace goHi
  simp only [TX.sat, XB.prop, X.den, List.map_cons, List.map_nil, List.getElem?_cons_zero, List.getElem?_cons_succ, List.cons_append, List.nil_append, List.getD_cons_zero, List.getD_cons_succ, mkS, mkP, and_true, true_and, Int.not_lt, Int.not_le, not_or, not_and, Classical.not_not, ne_eq, not_true_eq_false, not_false_eq_true]
  by_cases h : 0 ≤ n <;> simp [h]
theorem goLo_in {f a b n : Int} (hf : 0 ≤ f ∧ f ≤ 64) (hn : -32768 ≤ n ∧ n ≤ 32768) (ha : 256 ≤ a) (hb : 256 ≤ b) : -65536 ≤ goLo f a b n ∧ goLo f a b n ≤ 65536 := by
  unfold goLo
  split
  · exact grow_near hf hn hb
  · exact grow_near hf hn ha
theorem goHi_in {f a b n : Int} (hf : 0 ≤ f ∧ f ≤ 64) (hn : -32768 ≤ n ∧ n ≤ 32768) (ha : 256 ≤ a) (hb : 256 ≤ b) : -65536 ≤ goHi f a b n ∧ goHi f a b n ≤ 65536 := by
  unfold goHi
  split
  · exact grow_near hf hn ha
  · exact grow_near hf hn hb
theorem pin_pl {f m c d n k : Int} (hf : 1 ≤ f ∧ f ≤ 64) (hm : 1 ≤ m ∧ m ≤ 64) (hc : 256 ≤ c ∧ c ≤ 32768) (hd : 256 ≤ d ∧ d ≤ 32768) (hn : -32768 ≤ n ∧ n ≤ 32768) (hk : 0 ≤ k ∧ k ≤ 1) : vsOK pin_fplace [8 * f, 4 * m, c, d, n, k] :=
  vsOK_cons (iv_def.2 (by omega)) (vsOK_cons (iv_def.2 (by omega)) (vsOK_cons hc (vsOK_cons hd (vsOK_cons hn (vsOK_cons hk vsOK_nil)))))
theorem pin_px {f m c d l h u v : Int} (hf : 1 ≤ f ∧ f ≤ 64) (hm : 1 ≤ m ∧ m ≤ 64) (hc : 256 ≤ c ∧ c ≤ 32768) (hd : 256 ≤ d ∧ d ≤ 32768) (hl : -1048576 ≤ l ∧ l ≤ 1048576) (hh : -1048576 ≤ h ∧ h ≤ 1048576) (hu : In64 u) (hv : In64 v) : vsOK pin_fpix [8 * f, 4 * m, c, d, l, h, u, v] :=
  vsOK_cons (v := zz) ⟨by show -9223372036854775808 ≤ _; omega, by show _ ≤ 9223372036854775807; omega⟩ (vsOK_cons (v := zz) ⟨by show -9223372036854775808 ≤ _; omega, by show _ ≤ 9223372036854775807; omega⟩ (vsOK_cons (v := zz) ⟨by show -9223372036854775808 ≤ _; omega, by show _ ≤ 9223372036854775807; omega⟩ (vsOK_cons (v := zz) ⟨by show -9223372036854775808 ≤ _; omega, by show _ ≤ 9223372036854775807; omega⟩ (vsOK_cons hl (vsOK_cons hh (vsOK_cons hu (vsOK_cons hv vsOK_nil)))))))
theorem lens_of {x : List Int} (h : camB x 0 = true) : (1 ≤ x.getD 12 0 ∧ x.getD 12 0 ≤ 64) ∧ (256 ≤ x.getD 13 0 ∧ x.getD 13 0 ≤ 4096) ∧ (1 ≤ x.getD 14 0 ∧ x.getD 14 0 ≤ 64) ∧ (1 ≤ x.getD 15 0 ∧ x.getD 15 0 ≤ 64) := camB_lens h
theorem showsB_iff {x : List Int} : showsB x = true ↔ (nearV x ≤ farV x ∧ shX0 x ≤ shX1 x ∧ shY0 x ≤ shY1 x) := decide_eq_true_iff
theorem wr_mul {k n : Int} (hk : 0 ≤ k ∧ k ≤ 8) (h : 1 ≤ n ∧ n ≤ 64) : IntKind.i64.wrap (k * n) = k * n := by
  have := mul_abs_le (x := k) (y := n) (m := 8) (n := 64) (by omega) (by omega)
  exact wrap64 (by omega) (by omega)
noncomputable def G_shadow : List Sum := [s_fview, s_window, s_fplace, s_fpix]
def I_shadow : List Inf := [i_fview, i_window, i_fplace, i_fpix]
def t_shadow : TX := (.callp 0 [(.v 0), (.v 1), (.v 2), (.v 3), (.v 4), (.v 5), (.v 6), (.v 7), (.v 8), (.v 9), (.v 10), (.v 11), (.v 12), (.v 13), (.v 14), (.v 15), (.v 16), (.v 17), (.v 18), (.v 19), (.v 20), (.v 21)] (.ite (.not (.eq (.v 32) (.c 0))) (.ret [(.c 0), (.c 0), (.c 0), (.c 0), (.c 0), (.c 0), (.v 32)])
(.callp 1 [(.v 0), (.v 1), (.v 2), (.v 3), (.v 4), (.v 5), (.v 6), (.v 7), (.v 8), (.v 9), (.v 10), (.v 11), (.v 12), (.v 13), (.v 14), (.v 15), (.v 22), (.v 23), (.v 24), (.v 25)] (.ite (.not (.eq (.v 33) (.c 0))) (.ret [(.c 0), (.c 0), (.c 0), (.c 0), (.c 0), (.c 0), (.v 33)])
(.ite (.lt (.v 31) (.mx (.v 28) (.v 13))) (.ret [(.c 0), (.c 0), (.c 0), (.c 0), (.c 0), (.c 0), (.c 0)])
(.call 2 [(.wr .i64 (.mul (.c 8) (.v 12))), (.wr .i64 (.mul (.c 4) (.v 14))), (.mx (.v 28) (.v 13)), (.v 31), (.v 26), (.c 0)] (.call 2 [(.wr .i64 (.mul (.c 8) (.v 12))), (.wr .i64 (.mul (.c 4) (.v 14))), (.mx (.v 28) (.v 13)), (.v 31), (.v 29), (.c 1)] (.call 3 [(.wr .i64 (.mul (.c 8) (.v 12))), (.wr .i64 (.mul (.c 4) (.v 14))), (.mx (.v 28) (.v 13)), (.v 31), (.wr .i64 (.add (.v 34) (.wr .i64 (.mul (.c 4) (.v 14))))), (.wr .i64 (.add (.v 35) (.wr .i64 (.mul (.c 4) (.v 14))))), (.v 22), (.v 24)] (.call 2 [(.wr .i64 (.mul (.c 8) (.v 12))), (.wr .i64 (.mul (.c 4) (.v 15))), (.mx (.v 28) (.v 13)), (.v 31), (.v 30), (.c 1)] (.call 2 [(.wr .i64 (.mul (.c 8) (.v 12))), (.wr .i64 (.mul (.c 4) (.v 15))), (.mx (.v 28) (.v 13)), (.v 31), (.v 27), (.c 0)] (.call 3 [(.wr .i64 (.mul (.c 8) (.v 12))), (.wr .i64 (.mul (.c 4) (.v 15))), (.mx (.v 28) (.v 13)), (.v 31), (.wr .i64 (.sub (.wr .i64 (.mul (.c 4) (.v 15))) (.v 39))), (.wr .i64 (.sub (.wr .i64 (.mul (.c 4) (.v 15))) (.v 40))), (.v 23), (.v 25)] (.ite (.or (.eq (.v 38) (.c 0)) (.eq (.v 43) (.c 0))) (.ret [(.c 0), (.c 0), (.c 0), (.c 0), (.c 0), (.c 0), (.c 0)])
(.asrt (.not (.eq (.mx (.v 28) (.v 13)) (.c 0))) (.ret [(.v 36), (.v 41), (.v 37), (.v 42), (.wr .i64 (.quo (.c 16777216) (.mx (.v 28) (.v 13)))), (.c 1), (.c 0)]))))))))))))))
theorem tree_shadow : merge (optFL [] I_shadow [] pin_shadow (symFnL Tryd.prog noLp gl0 G_shadow 1000 9 [An 16, An 6, An 4] [An 5, Bo, I1])) = t_shadow := by kernel_rfl
theorem g_shadow : Gok Tryd.prog G_shadow := (more ok_fview (more ok_window (more ok_fplace (fix.one ok_fpix))))
theorem o_shadow : outsOK G_shadow I_shadow := (outsOK_cons inf_fview (outsOK_cons inf_window (outsOK_cons inf_fplace (outsOK_cons inf_fpix outsOK_nil))))
set_option maxRecDepth 4000 in
theorem ok_shadow : s_shadow.ok Tryd.prog := Sum.okF facts.mixed g_shadow o_shadow tree_shadow rfl (fun _ => rfl) (by
  intro xs hx hp
  obtain ⟨a0, a1, a2, a3, a4, a5, a6, a7, a8, a9, a10, a11, a12, a13, a14, a15, a16, a17, a18, a19, a20, a21, a22, a23, a24, a25, rfl⟩ := len26 hx
  have w22 : In64 a22 := hp.2 22
  have w23 : In64 a23 := hp.2 23
  have w24 : In64 a24 := hp.2 24
  have w25 : In64 a25 := hp.2 25
  have e1 : fviewL [a0, a1, a2, a3, a4, a5, a6, a7, a8, a9, a10, a11, a12, a13, a14, a15, a16, a17, a18, a19, a20, a21] = if camB [a0, a1, a2, a3, a4, a5, a6, a7, a8, a9, a10, a11, a12, a13, a14, a15, a16, a17, a18, a19, a20, a21, a22, a23, a24, a25] 0 = true then if worldB [a0, a1, a2, a3, a4, a5, a6, a7, a8, a9, a10, a11, a12, a13, a14, a15, a16, a17, a18, a19, a20, a21, a22, a23, a24, a25] 16 = true then turnedP (aimed [a0, a1, a2, a3, a4, a5, a6, a7, a8, a9, a10, a11, a12, a13, a14, a15, a16, a17, a18, a19, a20, a21, a22, a23, a24, a25]) else z7 8 else z7 150 := rfl
  have e2 : windowV [a0, a1, a2, a3, a4, a5, a6, a7, a8, a9, a10, a11, a12, a13, a14, a15, a22, a23, a24, a25] = if camB [a0, a1, a2, a3, a4, a5, a6, a7, a8, a9, a10, a11, a12, a13, a14, a15, a16, a17, a18, a19, a20, a21, a22, a23, a24, a25] 0 = true then if winC [a0, a1, a2, a3, a4, a5, a6, a7, a8, a9, a10, a11, a12, a13, a14, a15, a16, a17, a18, a19, a20, a21, a22, a23, a24, a25] = true then 0 else 2 else 150 := rfl
  have hn : nearV [a0, a1, a2, a3, a4, a5, a6, a7, a8, a9, a10, a11, a12, a13, a14, a15, a16, a17, a18, a19, a20, a21, a22, a23, a24, a25] = max ((turnedP (aimed [a0, a1, a2, a3, a4, a5, a6, a7, a8, a9, a10, a11, a12, a13, a14, a15, a16, a17, a18, a19, a20, a21, a22, a23, a24, a25])).getD 2 0) a13 := rfl
  have hf : farV [a0, a1, a2, a3, a4, a5, a6, a7, a8, a9, a10, a11, a12, a13, a14, a15, a16, a17, a18, a19, a20, a21, a22, a23, a24, a25] = (turnedP (aimed [a0, a1, a2, a3, a4, a5, a6, a7, a8, a9, a10, a11, a12, a13, a14, a15, a16, a17, a18, a19, a20, a21, a22, a23, a24, a25])).getD 5 0 := rfl
  clear hx hp
  by_cases hc : camB [a0, a1, a2, a3, a4, a5, a6, a7, a8, a9, a10, a11, a12, a13, a14, a15, a16, a17, a18, a19, a20, a21, a22, a23, a24, a25] 0 = true
  · by_cases hw : worldB [a0, a1, a2, a3, a4, a5, a6, a7, a8, a9, a10, a11, a12, a13, a14, a15, a16, a17, a18, a19, a20, a21, a22, a23, a24, a25] 16 = true
    · by_cases hv : winC [a0, a1, a2, a3, a4, a5, a6, a7, a8, a9, a10, a11, a12, a13, a14, a15, a16, a17, a18, a19, a20, a21, a22, a23, a24, a25] = true
      · obtain ⟨s1, s2, s3⟩ := seen_in hc hw
        have kl := lens_of hc
        simp only [TX.sat, XB.prop, X.den, List.map_cons, List.map_nil, List.getElem?_cons_zero, List.getElem?_cons_succ, List.cons_append, List.nil_append, List.getD_cons_zero, List.getD_cons_succ, mkS, mkP, and_true, true_and, Int.not_lt, Int.not_le, not_or, not_and, Classical.not_not, ne_eq, not_true_eq_false, not_false_eq_true] at kl
        obtain ⟨kf, kn, kw, kh⟩ := kl
        have m0 := wr_mul (k := 8) (by omega) kf
        have m1 := wr_mul (k := 4) (by omega) kw
        have m2 := wr_mul (k := 4) (by omega) kh
        simp only [t_shadow, G_shadow, s_fview, s_window, s_fplace, s_fpix, TX.sat, XB.prop, X.den, List.map_cons, List.map_nil, List.getElem?_cons_zero, List.getElem?_cons_succ, List.cons_append, List.nil_append, List.getD_cons_zero, List.getD_cons_succ, mkS, mkP, and_true, true_and, Int.not_lt, Int.not_le, not_or, not_and, Classical.not_not, ne_eq, not_true_eq_false, not_false_eq_true, sem_fview, sem_window, sem_fpix, sem_shadow, shadowL, e1, e2, hc, hw, hv, if_true, reduceIte, ex7, m0, m1, m2, place_lo, place_hi, ← hn, ← hf]
        have q0 : (turnedP (aimed [a0, a1, a2, a3, a4, a5, a6, a7, a8, a9, a10, a11, a12, a13, a14, a15, a16, a17, a18, a19, a20, a21, a22, a23, a24, a25])).getD 0 0 = vw [a0, a1, a2, a3, a4, a5, a6, a7, a8, a9, a10, a11, a12, a13, a14, a15, a16, a17, a18, a19, a20, a21, a22, a23, a24, a25] 0 := rfl
        have q1 : (turnedP (aimed [a0, a1, a2, a3, a4, a5, a6, a7, a8, a9, a10, a11, a12, a13, a14, a15, a16, a17, a18, a19, a20, a21, a22, a23, a24, a25])).getD 1 0 = vw [a0, a1, a2, a3, a4, a5, a6, a7, a8, a9, a10, a11, a12, a13, a14, a15, a16, a17, a18, a19, a20, a21, a22, a23, a24, a25] 1 := rfl
        have q2 : (turnedP (aimed [a0, a1, a2, a3, a4, a5, a6, a7, a8, a9, a10, a11, a12, a13, a14, a15, a16, a17, a18, a19, a20, a21, a22, a23, a24, a25])).getD 2 0 = vw [a0, a1, a2, a3, a4, a5, a6, a7, a8, a9, a10, a11, a12, a13, a14, a15, a16, a17, a18, a19, a20, a21, a22, a23, a24, a25] 2 := rfl
        have q3 : (turnedP (aimed [a0, a1, a2, a3, a4, a5, a6, a7, a8, a9, a10, a11, a12, a13, a14, a15, a16, a17, a18, a19, a20, a21, a22, a23, a24, a25])).getD 3 0 = vw [a0, a1, a2, a3, a4, a5, a6, a7, a8, a9, a10, a11, a12, a13, a14, a15, a16, a17, a18, a19, a20, a21, a22, a23, a24, a25] 3 := rfl
        have q4 : (turnedP (aimed [a0, a1, a2, a3, a4, a5, a6, a7, a8, a9, a10, a11, a12, a13, a14, a15, a16, a17, a18, a19, a20, a21, a22, a23, a24, a25])).getD 4 0 = vw [a0, a1, a2, a3, a4, a5, a6, a7, a8, a9, a10, a11, a12, a13, a14, a15, a16, a17, a18, a19, a20, a21, a22, a23, a24, a25] 4 := rfl
        have q5 : farV [a0, a1, a2, a3, a4, a5, a6, a7, a8, a9, a10, a11, a12, a13, a14, a15, a16, a17, a18, a19, a20, a21, a22, a23, a24, a25] = vw [a0, a1, a2, a3, a4, a5, a6, a7, a8, a9, a10, a11, a12, a13, a14, a15, a16, a17, a18, a19, a20, a21, a22, a23, a24, a25] 5 := rfl
        have q6 : (turnedP (aimed [a0, a1, a2, a3, a4, a5, a6, a7, a8, a9, a10, a11, a12, a13, a14, a15, a16, a17, a18, a19, a20, a21, a22, a23, a24, a25])).getD 6 0 = 0 := rfl
        rw [q2] at hn
        simp only [q0, q1, q3, q4, q6]
        by_cases hz : nearV [a0, a1, a2, a3, a4, a5, a6, a7, a8, a9, a10, a11, a12, a13, a14, a15, a16, a17, a18, a19, a20, a21, a22, a23, a24, a25] ≤ farV [a0, a1, a2, a3, a4, a5, a6, a7, a8, a9, a10, a11, a12, a13, a14, a15, a16, a17, a18, a19, a20, a21, a22, a23, a24, a25]
        · have k1 : 256 ≤ nearV [a0, a1, a2, a3, a4, a5, a6, a7, a8, a9, a10, a11, a12, a13, a14, a15, a16, a17, a18, a19, a20, a21, a22, a23, a24, a25] ∧ nearV [a0, a1, a2, a3, a4, a5, a6, a7, a8, a9, a10, a11, a12, a13, a14, a15, a16, a17, a18, a19, a20, a21, a22, a23, a24, a25] ≤ 32768 := by omega
          have k2 : 256 ≤ farV [a0, a1, a2, a3, a4, a5, a6, a7, a8, a9, a10, a11, a12, a13, a14, a15, a16, a17, a18, a19, a20, a21, a22, a23, a24, a25] ∧ farV [a0, a1, a2, a3, a4, a5, a6, a7, a8, a9, a10, a11, a12, a13, a14, a15, a16, a17, a18, a19, a20, a21, a22, a23, a24, a25] ≤ 32768 := by omega
          have g0 := goLo_in (f := a12) (a := nearV [a0, a1, a2, a3, a4, a5, a6, a7, a8, a9, a10, a11, a12, a13, a14, a15, a16, a17, a18, a19, a20, a21, a22, a23, a24, a25]) (b := farV [a0, a1, a2, a3, a4, a5, a6, a7, a8, a9, a10, a11, a12, a13, a14, a15, a16, a17, a18, a19, a20, a21, a22, a23, a24, a25]) (n := vw [a0, a1, a2, a3, a4, a5, a6, a7, a8, a9, a10, a11, a12, a13, a14, a15, a16, a17, a18, a19, a20, a21, a22, a23, a24, a25] 0) (by omega) (by omega) k1.1 k2.1
          have g3 := goHi_in (f := a12) (a := nearV [a0, a1, a2, a3, a4, a5, a6, a7, a8, a9, a10, a11, a12, a13, a14, a15, a16, a17, a18, a19, a20, a21, a22, a23, a24, a25]) (b := farV [a0, a1, a2, a3, a4, a5, a6, a7, a8, a9, a10, a11, a12, a13, a14, a15, a16, a17, a18, a19, a20, a21, a22, a23, a24, a25]) (n := vw [a0, a1, a2, a3, a4, a5, a6, a7, a8, a9, a10, a11, a12, a13, a14, a15, a16, a17, a18, a19, a20, a21, a22, a23, a24, a25] 3) (by omega) (by omega) k1.1 k2.1
          have g4 := goHi_in (f := a12) (a := nearV [a0, a1, a2, a3, a4, a5, a6, a7, a8, a9, a10, a11, a12, a13, a14, a15, a16, a17, a18, a19, a20, a21, a22, a23, a24, a25]) (b := farV [a0, a1, a2, a3, a4, a5, a6, a7, a8, a9, a10, a11, a12, a13, a14, a15, a16, a17, a18, a19, a20, a21, a22, a23, a24, a25]) (n := vw [a0, a1, a2, a3, a4, a5, a6, a7, a8, a9, a10, a11, a12, a13, a14, a15, a16, a17, a18, a19, a20, a21, a22, a23, a24, a25] 4) (by omega) (by omega) k1.1 k2.1
          have g1 := goLo_in (f := a12) (a := nearV [a0, a1, a2, a3, a4, a5, a6, a7, a8, a9, a10, a11, a12, a13, a14, a15, a16, a17, a18, a19, a20, a21, a22, a23, a24, a25]) (b := farV [a0, a1, a2, a3, a4, a5, a6, a7, a8, a9, a10, a11, a12, a13, a14, a15, a16, a17, a18, a19, a20, a21, a22, a23, a24, a25]) (n := vw [a0, a1, a2, a3, a4, a5, a6, a7, a8, a9, a10, a11, a12, a13, a14, a15, a16, a17, a18, a19, a20, a21, a22, a23, a24, a25] 1) (by omega) (by omega) k1.1 k2.1
          have p0 : IntKind.i64.wrap (goLo a12 (nearV [a0, a1, a2, a3, a4, a5, a6, a7, a8, a9, a10, a11, a12, a13, a14, a15, a16, a17, a18, a19, a20, a21, a22, a23, a24, a25]) (farV [a0, a1, a2, a3, a4, a5, a6, a7, a8, a9, a10, a11, a12, a13, a14, a15, a16, a17, a18, a19, a20, a21, a22, a23, a24, a25]) (vw [a0, a1, a2, a3, a4, a5, a6, a7, a8, a9, a10, a11, a12, a13, a14, a15, a16, a17, a18, a19, a20, a21, a22, a23, a24, a25] 0) + 4 * a14) = leftV [a0, a1, a2, a3, a4, a5, a6, a7, a8, a9, a10, a11, a12, a13, a14, a15, a16, a17, a18, a19, a20, a21, a22, a23, a24, a25] := wrap64 (by omega) (by omega)
          have p3 : IntKind.i64.wrap (goHi a12 (nearV [a0, a1, a2, a3, a4, a5, a6, a7, a8, a9, a10, a11, a12, a13, a14, a15, a16, a17, a18, a19, a20, a21, a22, a23, a24, a25]) (farV [a0, a1, a2, a3, a4, a5, a6, a7, a8, a9, a10, a11, a12, a13, a14, a15, a16, a17, a18, a19, a20, a21, a22, a23, a24, a25]) (vw [a0, a1, a2, a3, a4, a5, a6, a7, a8, a9, a10, a11, a12, a13, a14, a15, a16, a17, a18, a19, a20, a21, a22, a23, a24, a25] 3) + 4 * a14) = rightV [a0, a1, a2, a3, a4, a5, a6, a7, a8, a9, a10, a11, a12, a13, a14, a15, a16, a17, a18, a19, a20, a21, a22, a23, a24, a25] := wrap64 (by omega) (by omega)
          have p4 : IntKind.i64.wrap (4 * a15 - goHi a12 (nearV [a0, a1, a2, a3, a4, a5, a6, a7, a8, a9, a10, a11, a12, a13, a14, a15, a16, a17, a18, a19, a20, a21, a22, a23, a24, a25]) (farV [a0, a1, a2, a3, a4, a5, a6, a7, a8, a9, a10, a11, a12, a13, a14, a15, a16, a17, a18, a19, a20, a21, a22, a23, a24, a25]) (vw [a0, a1, a2, a3, a4, a5, a6, a7, a8, a9, a10, a11, a12, a13, a14, a15, a16, a17, a18, a19, a20, a21, a22, a23, a24, a25] 4)) = topV [a0, a1, a2, a3, a4, a5, a6, a7, a8, a9, a10, a11, a12, a13, a14, a15, a16, a17, a18, a19, a20, a21, a22, a23, a24, a25] := wrap64 (by omega) (by omega)
          have p1 : IntKind.i64.wrap (4 * a15 - goLo a12 (nearV [a0, a1, a2, a3, a4, a5, a6, a7, a8, a9, a10, a11, a12, a13, a14, a15, a16, a17, a18, a19, a20, a21, a22, a23, a24, a25]) (farV [a0, a1, a2, a3, a4, a5, a6, a7, a8, a9, a10, a11, a12, a13, a14, a15, a16, a17, a18, a19, a20, a21, a22, a23, a24, a25]) (vw [a0, a1, a2, a3, a4, a5, a6, a7, a8, a9, a10, a11, a12, a13, a14, a15, a16, a17, a18, a19, a20, a21, a22, a23, a24, a25] 1)) = botV [a0, a1, a2, a3, a4, a5, a6, a7, a8, a9, a10, a11, a12, a13, a14, a15, a16, a17, a18, a19, a20, a21, a22, a23, a24, a25] := wrap64 (by omega) (by omega)
          have r0 : leftV [a0, a1, a2, a3, a4, a5, a6, a7, a8, a9, a10, a11, a12, a13, a14, a15, a16, a17, a18, a19, a20, a21, a22, a23, a24, a25] = goLo a12 (nearV [a0, a1, a2, a3, a4, a5, a6, a7, a8, a9, a10, a11, a12, a13, a14, a15, a16, a17, a18, a19, a20, a21, a22, a23, a24, a25]) (farV [a0, a1, a2, a3, a4, a5, a6, a7, a8, a9, a10, a11, a12, a13, a14, a15, a16, a17, a18, a19, a20, a21, a22, a23, a24, a25]) (vw [a0, a1, a2, a3, a4, a5, a6, a7, a8, a9, a10, a11, a12, a13, a14, a15, a16, a17, a18, a19, a20, a21, a22, a23, a24, a25] 0) + 4 * a14 := rfl
          have r3 : rightV [a0, a1, a2, a3, a4, a5, a6, a7, a8, a9, a10, a11, a12, a13, a14, a15, a16, a17, a18, a19, a20, a21, a22, a23, a24, a25] = goHi a12 (nearV [a0, a1, a2, a3, a4, a5, a6, a7, a8, a9, a10, a11, a12, a13, a14, a15, a16, a17, a18, a19, a20, a21, a22, a23, a24, a25]) (farV [a0, a1, a2, a3, a4, a5, a6, a7, a8, a9, a10, a11, a12, a13, a14, a15, a16, a17, a18, a19, a20, a21, a22, a23, a24, a25]) (vw [a0, a1, a2, a3, a4, a5, a6, a7, a8, a9, a10, a11, a12, a13, a14, a15, a16, a17, a18, a19, a20, a21, a22, a23, a24, a25] 3) + 4 * a14 := rfl
          have r4 : topV [a0, a1, a2, a3, a4, a5, a6, a7, a8, a9, a10, a11, a12, a13, a14, a15, a16, a17, a18, a19, a20, a21, a22, a23, a24, a25] = 4 * a15 - goHi a12 (nearV [a0, a1, a2, a3, a4, a5, a6, a7, a8, a9, a10, a11, a12, a13, a14, a15, a16, a17, a18, a19, a20, a21, a22, a23, a24, a25]) (farV [a0, a1, a2, a3, a4, a5, a6, a7, a8, a9, a10, a11, a12, a13, a14, a15, a16, a17, a18, a19, a20, a21, a22, a23, a24, a25]) (vw [a0, a1, a2, a3, a4, a5, a6, a7, a8, a9, a10, a11, a12, a13, a14, a15, a16, a17, a18, a19, a20, a21, a22, a23, a24, a25] 4) := rfl
          have r1 : botV [a0, a1, a2, a3, a4, a5, a6, a7, a8, a9, a10, a11, a12, a13, a14, a15, a16, a17, a18, a19, a20, a21, a22, a23, a24, a25] = 4 * a15 - goLo a12 (nearV [a0, a1, a2, a3, a4, a5, a6, a7, a8, a9, a10, a11, a12, a13, a14, a15, a16, a17, a18, a19, a20, a21, a22, a23, a24, a25]) (farV [a0, a1, a2, a3, a4, a5, a6, a7, a8, a9, a10, a11, a12, a13, a14, a15, a16, a17, a18, a19, a20, a21, a22, a23, a24, a25]) (vw [a0, a1, a2, a3, a4, a5, a6, a7, a8, a9, a10, a11, a12, a13, a14, a15, a16, a17, a18, a19, a20, a21, a22, a23, a24, a25] 1) := rfl
          have t0 : max (up (leftV [a0, a1, a2, a3, a4, a5, a6, a7, a8, a9, a10, a11, a12, a13, a14, a15, a16, a17, a18, a19, a20, a21, a22, a23, a24, a25] - 4) 8) a22 = shX0 [a0, a1, a2, a3, a4, a5, a6, a7, a8, a9, a10, a11, a12, a13, a14, a15, a16, a17, a18, a19, a20, a21, a22, a23, a24, a25] := rfl
          have t1 : min ((rightV [a0, a1, a2, a3, a4, a5, a6, a7, a8, a9, a10, a11, a12, a13, a14, a15, a16, a17, a18, a19, a20, a21, a22, a23, a24, a25] - 4) / 8) a24 = shX1 [a0, a1, a2, a3, a4, a5, a6, a7, a8, a9, a10, a11, a12, a13, a14, a15, a16, a17, a18, a19, a20, a21, a22, a23, a24, a25] := rfl
          have t2 : max (up (topV [a0, a1, a2, a3, a4, a5, a6, a7, a8, a9, a10, a11, a12, a13, a14, a15, a16, a17, a18, a19, a20, a21, a22, a23, a24, a25] - 4) 8) a23 = shY0 [a0, a1, a2, a3, a4, a5, a6, a7, a8, a9, a10, a11, a12, a13, a14, a15, a16, a17, a18, a19, a20, a21, a22, a23, a24, a25] := rfl
          have t3 : min ((botV [a0, a1, a2, a3, a4, a5, a6, a7, a8, a9, a10, a11, a12, a13, a14, a15, a16, a17, a18, a19, a20, a21, a22, a23, a24, a25] - 4) / 8) a25 = shY1 [a0, a1, a2, a3, a4, a5, a6, a7, a8, a9, a10, a11, a12, a13, a14, a15, a16, a17, a18, a19, a20, a21, a22, a23, a24, a25] := rfl
          have hd : (16777216 : Int).tdiv (nearV [a0, a1, a2, a3, a4, a5, a6, a7, a8, a9, a10, a11, a12, a13, a14, a15, a16, a17, a18, a19, a20, a21, a22, a23, a24, a25]) = 16777216 / nearV [a0, a1, a2, a3, a4, a5, a6, a7, a8, a9, a10, a11, a12, a13, a14, a15, a16, a17, a18, a19, a20, a21, a22, a23, a24, a25] := tdiv_pos (by omega) (by omega)
          have hd2 : 0 ≤ 16777216 / nearV [a0, a1, a2, a3, a4, a5, a6, a7, a8, a9, a10, a11, a12, a13, a14, a15, a16, a17, a18, a19, a20, a21, a22, a23, a24, a25] ∧ 16777216 / nearV [a0, a1, a2, a3, a4, a5, a6, a7, a8, a9, a10, a11, a12, a13, a14, a15, a16, a17, a18, a19, a20, a21, a22, a23, a24, a25] ≤ 16777216 := div_range (by omega) (by omega) (by omega) (by omega) (by omega)
          have hd3 : IntKind.i64.wrap (16777216 / nearV [a0, a1, a2, a3, a4, a5, a6, a7, a8, a9, a10, a11, a12, a13, a14, a15, a16, a17, a18, a19, a20, a21, a22, a23, a24, a25]) = 16777216 / nearV [a0, a1, a2, a3, a4, a5, a6, a7, a8, a9, a10, a11, a12, a13, a14, a15, a16, a17, a18, a19, a20, a21, a22, a23, a24, a25] := wrap64 (by omega) (by omega)
          simp only [p0, p1, p3, p4, t0, t1, t2, t3, hd, hd3]
          have hsh : showsB [a0, a1, a2, a3, a4, a5, a6, a7, a8, a9, a10, a11, a12, a13, a14, a15, a16, a17, a18, a19, a20, a21, a22, a23, a24, a25] = true ↔ (shX0 [a0, a1, a2, a3, a4, a5, a6, a7, a8, a9, a10, a11, a12, a13, a14, a15, a16, a17, a18, a19, a20, a21, a22, a23, a24, a25] ≤ shX1 [a0, a1, a2, a3, a4, a5, a6, a7, a8, a9, a10, a11, a12, a13, a14, a15, a16, a17, a18, a19, a20, a21, a22, a23, a24, a25] ∧ shY0 [a0, a1, a2, a3, a4, a5, a6, a7, a8, a9, a10, a11, a12, a13, a14, a15, a16, a17, a18, a19, a20, a21, a22, a23, a24, a25] ≤ shY1 [a0, a1, a2, a3, a4, a5, a6, a7, a8, a9, a10, a11, a12, a13, a14, a15, a16, a17, a18, a19, a20, a21, a22, a23, a24, a25]) := by
            rw [showsB_iff]
            exact ⟨fun h => h.2, fun h => ⟨hz, h⟩⟩
          have z1 : leftV [a0, a1, a2, a3, a4, a5, a6, a7, a8, a9, a10, a11, a12, a13, a14, a15, a16, a17, a18, a19, a20, a21, a22, a23, a24, a25] - 4 = leftV [a0, a1, a2, a3, a4, a5, a6, a7, a8, a9, a10, a11, a12, a13, a14, a15, a16, a17, a18, a19, a20, a21, a22, a23, a24, a25] - 4 := rfl
          refine ⟨fun h => absurd h (by simp), fun _ => ⟨fun h => absurd h (by simp), fun _ => ⟨fun h => absurd h (by omega), fun _ => ?_⟩⟩⟩
          have v0 := pin_pl (k := 0) kf kw k1 k2 (n := vw [a0, a1, a2, a3, a4, a5, a6, a7, a8, a9, a10, a11, a12, a13, a14, a15, a16, a17, a18, a19, a20, a21, a22, a23, a24, a25] 0) (by omega) (by omega)
          have v3 := pin_pl (k := 1) kf kw k1 k2 (n := vw [a0, a1, a2, a3, a4, a5, a6, a7, a8, a9, a10, a11, a12, a13, a14, a15, a16, a17, a18, a19, a20, a21, a22, a23, a24, a25] 3) (by omega) (by omega)
          have v4 := pin_pl (k := 1) kf kh k1 k2 (n := vw [a0, a1, a2, a3, a4, a5, a6, a7, a8, a9, a10, a11, a12, a13, a14, a15, a16, a17, a18, a19, a20, a21, a22, a23, a24, a25] 4) (by omega) (by omega)
          have v1 := pin_pl (k := 0) kf kh k1 k2 (n := vw [a0, a1, a2, a3, a4, a5, a6, a7, a8, a9, a10, a11, a12, a13, a14, a15, a16, a17, a18, a19, a20, a21, a22, a23, a24, a25] 1) (by omega) (by omega)
          have b0 := pin_px kf kw k1 k2 (l := leftV [a0, a1, a2, a3, a4, a5, a6, a7, a8, a9, a10, a11, a12, a13, a14, a15, a16, a17, a18, a19, a20, a21, a22, a23, a24, a25]) (h := rightV [a0, a1, a2, a3, a4, a5, a6, a7, a8, a9, a10, a11, a12, a13, a14, a15, a16, a17, a18, a19, a20, a21, a22, a23, a24, a25]) (by omega) (by omega) w22 w24
          have b1 := pin_px kf kh k1 k2 (l := topV [a0, a1, a2, a3, a4, a5, a6, a7, a8, a9, a10, a11, a12, a13, a14, a15, a16, a17, a18, a19, a20, a21, a22, a23, a24, a25]) (h := botV [a0, a1, a2, a3, a4, a5, a6, a7, a8, a9, a10, a11, a12, a13, a14, a15, a16, a17, a18, a19, a20, a21, a22, a23, a24, a25]) (by omega) (by omega) w23 w25
          have hnz : ¬ nearV [a0, a1, a2, a3, a4, a5, a6, a7, a8, a9, a10, a11, a12, a13, a14, a15, a16, a17, a18, a19, a20, a21, a22, a23, a24, a25] = 0 := by omega
          have hP : shadowP [a0, a1, a2, a3, a4, a5, a6, a7, a8, a9, a10, a11, a12, a13, a14, a15, a16, a17, a18, a19, a20, a21, a22, a23, a24, a25] = [shX0 [a0, a1, a2, a3, a4, a5, a6, a7, a8, a9, a10, a11, a12, a13, a14, a15, a16, a17, a18, a19, a20, a21, a22, a23, a24, a25], shY0 [a0, a1, a2, a3, a4, a5, a6, a7, a8, a9, a10, a11, a12, a13, a14, a15, a16, a17, a18, a19, a20, a21, a22, a23, a24, a25], shX1 [a0, a1, a2, a3, a4, a5, a6, a7, a8, a9, a10, a11, a12, a13, a14, a15, a16, a17, a18, a19, a20, a21, a22, a23, a24, a25], shY1 [a0, a1, a2, a3, a4, a5, a6, a7, a8, a9, a10, a11, a12, a13, a14, a15, a16, a17, a18, a19, a20, a21, a22, a23, a24, a25], 16777216 / nearV [a0, a1, a2, a3, a4, a5, a6, a7, a8, a9, a10, a11, a12, a13, a14, a15, a16, a17, a18, a19, a20, a21, a22, a23, a24, a25], 1, 0] := rfl
          rw [hP]
          clear r0 r1 r3 r4 p0 p1 p3 p4 t0 t1 t2 t3 g0 g1 g3 g4 hd hd2 hd3 s1 s2 s3 e1 e2 q0 q1 q2 q3 q4 q5 q6 hP
          refine ⟨v0, v3, b0, v4, v1, b1, ?_⟩
          clear v0 v3 b0 v4 v1 b1
          generalize showsB [a0, a1, a2, a3, a4, a5, a6, a7, a8, a9, a10, a11, a12, a13, a14, a15, a16, a17, a18, a19, a20, a21, a22, a23, a24, a25] = S at *
          generalize shX0 [a0, a1, a2, a3, a4, a5, a6, a7, a8, a9, a10, a11, a12, a13, a14, a15, a16, a17, a18, a19, a20, a21, a22, a23, a24, a25] = X0 at *
          generalize shX1 [a0, a1, a2, a3, a4, a5, a6, a7, a8, a9, a10, a11, a12, a13, a14, a15, a16, a17, a18, a19, a20, a21, a22, a23, a24, a25] = X1 at *
          generalize shY0 [a0, a1, a2, a3, a4, a5, a6, a7, a8, a9, a10, a11, a12, a13, a14, a15, a16, a17, a18, a19, a20, a21, a22, a23, a24, a25] = Y0 at *
          generalize shY1 [a0, a1, a2, a3, a4, a5, a6, a7, a8, a9, a10, a11, a12, a13, a14, a15, a16, a17, a18, a19, a20, a21, a22, a23, a24, a25] = Y1 at *
          by_cases h1 : X0 ≤ X1 <;> by_cases h2 : Y0 ≤ Y1 <;> cases S <;> simp_all [b01, z7]
        · have hsh : ¬ showsB [a0, a1, a2, a3, a4, a5, a6, a7, a8, a9, a10, a11, a12, a13, a14, a15, a16, a17, a18, a19, a20, a21, a22, a23, a24, a25] = true := fun h => hz (showsB_iff.1 h).1
          rw [if_neg hsh]
          simp only [z7, TX.sat, XB.prop, X.den, List.map_cons, List.map_nil, List.getElem?_cons_zero, List.getElem?_cons_succ, List.cons_append, List.nil_append, List.getD_cons_zero, List.getD_cons_succ, mkS, mkP, and_true, true_and, Int.not_lt, Int.not_le, not_or, not_and, Classical.not_not, ne_eq, not_true_eq_false, not_false_eq_true]
          refine ⟨fun h => absurd h (by simp), fun _ => ⟨fun h => absurd h (by simp), fun _ => ⟨fun _ => by first | rfl | trivial, fun h => absurd h (by omega)⟩⟩⟩
      · simp only [t_shadow, G_shadow, s_fview, s_window, TX.sat, XB.prop, X.den, List.map_cons, List.map_nil, List.getElem?_cons_zero, List.getElem?_cons_succ, List.cons_append, List.nil_append, List.getD_cons_zero, List.getD_cons_succ, mkS, mkP, and_true, true_and, Int.not_lt, Int.not_le, not_or, not_and, Classical.not_not, ne_eq, not_true_eq_false, not_false_eq_true, sem_fview, sem_window, sem_shadow, shadowL, e1, e2, hc, hw, hv, if_true, if_false, reduceIte, ex7, Bool.false_eq_true, z7]
        have q6 : (turnedP (aimed [a0, a1, a2, a3, a4, a5, a6, a7, a8, a9, a10, a11, a12, a13, a14, a15, a16, a17, a18, a19, a20, a21, a22, a23, a24, a25])).getD 6 0 = 0 := rfl
        rw [q6]
        refine ⟨fun h => absurd h (by simp), fun _ => ⟨fun _ => by first | rfl | trivial, fun h => absurd h (by decide)⟩⟩
    · simp only [t_shadow, G_shadow, s_fview, TX.sat, XB.prop, X.den, List.map_cons, List.map_nil, List.getElem?_cons_zero, List.getElem?_cons_succ, List.cons_append, List.nil_append, List.getD_cons_zero, List.getD_cons_succ, mkS, mkP, and_true, true_and, Int.not_lt, Int.not_le, not_or, not_and, Classical.not_not, ne_eq, not_true_eq_false, not_false_eq_true, sem_fview, sem_shadow, shadowL, e1, hc, hw, if_true, if_false, reduceIte, ex7, Bool.false_eq_true, z7]
      exact ⟨fun _ => trivial, fun h => absurd h (by decide)⟩
  · simp only [t_shadow, G_shadow, s_fview, TX.sat, XB.prop, X.den, List.map_cons, List.map_nil, List.getElem?_cons_zero, List.getElem?_cons_succ, List.cons_append, List.nil_append, List.getD_cons_zero, List.getD_cons_succ, mkS, mkP, and_true, true_and, Int.not_lt, Int.not_le, not_or, not_and, Classical.not_not, ne_eq, not_true_eq_false, not_false_eq_true, sem_fview, sem_shadow, shadowL, e1, hc, if_false, reduceIte, ex7, Bool.false_eq_true, z7]
    exact ⟨fun _ => trivial, fun h => absurd h (by decide)⟩)
theorem inf_shadow : InfOK s_shadow i_shadow := ⟨fun _ h => h, fun vs xs h hp => by
  show vsOK (ivs 4 0 63 ++ [iv 0 65536, iv 0 1, iv 0 150]) (ex7 (shadowL xs))
  have z : ∀ e : Int, 0 ≤ e → e ≤ 150 → vsOK (ivs 4 0 63 ++ [iv 0 65536, iv 0 1, iv 0 150]) (ex7 (z7 e)) := fun e h1 h2 =>
    vsOK_cons (iv_def.2 (by simp [z7])) (vsOK_cons (iv_def.2 (by simp [z7])) (vsOK_cons (iv_def.2 (by simp [z7])) (vsOK_cons (iv_def.2 (by simp [z7])) (vsOK_cons (iv_def.2 (by simp [z7])) (vsOK_cons (iv_def.2 (by simp [z7])) (vsOK_cons ⟨h1, h2⟩ vsOK_nil))))))
  unfold shadowL
  split
  · rename_i hc
    split
    · rename_i hw
      split
      · rename_i hv
        split
        · rename_i hs
          have kl := lens_of hc
          have ks := showsB_iff.1 hs
          have kv := winB_true.1 hv
          simp only [Nat.reduceAdd] at kv
          have x0 : shX0 xs = max (up (leftV xs - 4) 8) (xs.getD 22 0) := rfl
          have y0 : shY0 xs = max (up (topV xs - 4) 8) (xs.getD 23 0) := rfl
          have x1 : shX1 xs = min ((rightV xs - 4) / 8) (xs.getD 24 0) := rfl
          have y1 : shY1 xs = min ((botV xs - 4) / 8) (xs.getD 25 0) := rfl
          have hn : nearV xs = max (vw xs 2) (xs.getD 13 0) := rfl
          have hd : 0 ≤ 16777216 / nearV xs ∧ 16777216 / nearV xs ≤ 65536 := by
            constructor
            · rw [Int.le_ediv_iff_mul_le (by omega)]; omega
            · apply Int.ediv_le_of_le_mul (by omega); omega
          exact vsOK_cons (iv_def.2 (by show 0 ≤ shX0 xs ∧ shX0 xs ≤ 63; omega)) (vsOK_cons (iv_def.2 (by show 0 ≤ shY0 xs ∧ shY0 xs ≤ 63; omega)) (vsOK_cons (iv_def.2 (by show 0 ≤ shX1 xs ∧ shX1 xs ≤ 63; omega)) (vsOK_cons (iv_def.2 (by show 0 ≤ shY1 xs ∧ shY1 xs ≤ 63; omega)) (vsOK_cons hd (vsOK_cons (iv_def.2 (by simp [shadowP])) (vsOK_cons (iv_def.2 (by simp [shadowP])) vsOK_nil))))))
        · exact z 0 (by omega) (by omega)
      · exact z 2 (by omega) (by omega)
    · exact z 8 (by omega) (by omega)
  · exact z 150 (by omega) (by omega)⟩
end Go.Proofs.YtgcoidbaoigkeaaDoor.fix
