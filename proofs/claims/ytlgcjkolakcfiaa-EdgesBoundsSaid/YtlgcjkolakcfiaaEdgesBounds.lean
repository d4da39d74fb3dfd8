/-
  The law EdgesBounds is answered with true, whatever its arguments, which stay as they were.
-/
import Derived.Test.YtlgcjkolakcfiaaRows
import Derived.Test.YtlgcjkolakcfiaaFacts
import Derived.Test.YtlgcjkolakcfiaaLive
import Derived.Test.YtlgcjkolakcfiaaBnd
set_option linter.unusedVariables false
set_option linter.unusedSimpArgs false
namespace Go.Proofs.Ytlgcjkolakcfiaa.edgesBounds
open Go.RowKit Go.ChangeShapes Go.WideShapes Go.ChangeAt Go.Sx fix

theorem centre_x (x : List Int) : wgt x 5 10 15 * x.getD 0 0 + wgt x 10 0 15 * x.getD 5 0 + wgt x 0 5 15 * x.getD 10 0 = twiceV x * (8 * x.getD 15 0 + 4) := by
  simp only [wgt, twiceV, Nat.reduceAdd, Nat.zero_add]
  grind
theorem centre_y (x : List Int) : wgt x 5 10 15 * x.getD 1 0 + wgt x 10 0 15 * x.getD 6 0 + wgt x 0 5 15 * x.getD 11 0 = twiceV x * (8 * x.getD 16 0 + 4) := by
  simp only [wgt, twiceV, Nat.reduceAdd, Nat.zero_add]
  grind
theorem mid {w0 w1 w2 d0 d1 d2 c t : Int} (ht : 0 < t) (hs : w0 + w1 + w2 = t) (h0 : 0 ≤ w0) (h1 : 0 ≤ w1) (h2 : 0 ≤ w2) (hn : w0 * d0 + w1 * d1 + w2 * d2 = t * c) : min (min d0 d1) d2 ≤ c ∧ c ≤ max (max d0 d1) d2 := by
  have := weighed (m := min (min d0 d1) d2) (n := max (max d0 d1) d2) (d0 := d0) (d1 := d1) (d2 := d2) h0 h1 h2 ⟨by omega, by omega⟩ ⟨by omega, by omega⟩ ⟨by omega, by omega⟩
  rw [hs, hn] at this
  exact ⟨Int.le_of_mul_le_mul_left this.1 ht, Int.le_of_mul_le_mul_left this.2 ht⟩
theorem axis {m n x a b : Int} (h : m ≤ 8 * x + 4 ∧ 8 * x + 4 ≤ n) (k0 : a ≤ x) (k1 : x ≤ b) : max a (up (m - 4) 8) ≤ x ∧ x ≤ min b ((n - 4) / 8) := by
  unfold up
  omega

def G_EdgesBounds : List Sum := [s_alive21, s_bounds, s_has21]
def I_EdgesBounds : List Inf := [i_alive21, i_bounds, i_has21]
def t_EdgesBounds : TX := (.callp 0 [] (.callp 1 [(.v 0), (.v 1), (.v 2), (.v 3), (.v 4), (.v 5), (.v 6), (.v 7), (.v 8), (.v 9), (.v 10), (.v 11), (.v 12), (.v 13), (.v 14), (.v 15), (.v 16), (.v 17), (.v 18)] (.ite (.not (.eq (.v 27) (.c 0))) (.ite (.and (.nz (.v 21)) (.or (.eq (.v 27) (.c 0)) (.eq (.v 26) (.c 0)))) (.ret [(.c 1)])
(.ret [(.c 0)]))
(.callp 2 [(.v 0), (.v 1), (.v 2), (.v 3), (.v 4), (.v 5), (.v 6), (.v 7), (.v 8), (.v 9), (.v 10), (.v 11), (.v 12), (.v 13), (.v 14), (.v 19), (.v 20)] (.ite (.or (.eq (.v 28) (.c 0)) (.or (.lt (.v 19) (.v 15)) (.or (.lt (.v 17) (.v 19)) (.or (.lt (.v 20) (.v 16)) (.or (.lt (.v 18) (.v 20)) (.and (.and (.and (.and (.and (.nz (.v 21)) (.nz (.v 26))) (.le (.v 22) (.v 19))) (.le (.v 19) (.v 24))) (.le (.v 23) (.v 20))) (.le (.v 20) (.v 25)))))))) (.ret [(.c 1)])
(.ret [(.c 0)]))))))
theorem tree_EdgesBounds : merge (opt I_EdgesBounds (((An 15).ks ++ ((An 4).ks ++ (I1.ks ++ (I1.ks ++ [])))).map ivK) (symFn Try.prog G_EdgesBounds 1000 33 [An 15, An 4, I1, I1] [Bo])) = t_EdgesBounds := by kernel_rfl
theorem g_EdgesBounds : Gok Try.prog G_EdgesBounds := (more ok_alive21 (more ok_bounds (one ok_has21)))
theorem o_EdgesBounds : outsOK G_EdgesBounds I_EdgesBounds := (outsOK_cons inf_alive21 (outsOK_cons inf_bounds (outsOK_cons inf_has21 outsOK_nil)))
theorem plain (xs0 : List Int) (hr0 : rangeOK (An 15).ks xs0) (xs1 : List Int) (hr1 : rangeOK (An 4).ks xs1) (xs2 : List Int) (hr2 : rangeOK I1.ks xs2) (xs3 : List Int) (hr3 : rangeOK I1.ks xs3) : t_EdgesBounds.sat G_EdgesBounds [] (fun ys => ys = [1]) (xs0 ++ (xs1 ++ (xs2 ++ (xs3 ++ [])))) := by
  obtain ⟨l0, i0⟩ := An_inv hr0
  obtain ⟨a0, a1, a2, a3, a4, a5, a6, a7, a8, a9, a10, a11, a12, a13, a14, rfl⟩ := len15 l0
  obtain ⟨l1, i1⟩ := An_inv hr1
  obtain ⟨a15, a16, a17, a18, rfl⟩ := len4 l1
  obtain ⟨a19, rfl, i2⟩ := I1_inv hr2
  obtain ⟨a20, rfl, i3⟩ := I1_inv hr3
  have hE := @edges_ok [a0, a1, a2, a3, a4, a5, a6, a7, a8, a9, a10, a11, a12, a13, a14, a19, a20]
  have e1 : efrontV [a0, a1, a2, a3, a4, a5, a6, a7, a8, a9, a10, a11, a12, a13, a14, a15, a16, a17, a18] = efrontV [a0, a1, a2, a3, a4, a5, a6, a7, a8, a9, a10, a11, a12, a13, a14] := rfl
  simp only [t_EdgesBounds, G_EdgesBounds, s_alive21, s_bounds, s_has21, TX.sat, XB.prop, X.den, List.map_cons, List.map_nil, List.getElem?_cons_zero, List.getElem?_cons_succ, List.cons_append, List.nil_append, List.getD_cons_zero, List.getD_cons_succ, mkS, mkP, and_true, true_and, Int.not_lt, Int.not_le, not_or, not_and, Classical.not_not, ne_eq, not_true_eq_false, not_false_eq_true, sem_alive21, sem_alive, sem_bounds, sem_has21, ex6]
  clear i0 i1 i2 i3 l0 l1
  have geo : hasB [a0, a1, a2, a3, a4, a5, a6, a7, a8, a9, a10, a11, a12, a13, a14, a19, a20] = true → 0 < twiceV [a0, a1, a2, a3, a4, a5, a6, a7, a8, a9, a10, a11, a12, a13, a14, a19, a20] → (min (min a0 a5) a10 ≤ 8 * a19 + 4 ∧ 8 * a19 + 4 ≤ max (max a0 a5) a10) ∧ (min (min a1 a6) a11 ≤ 8 * a20 + 4 ∧ 8 * a20 + 4 ≤ max (max a1 a6) a11) := by
    intro hb ht
    obtain ⟨w0, w1, w2⟩ := w_nonneg hb
    exact ⟨mid ht (w_sum [a0, a1, a2, a3, a4, a5, a6, a7, a8, a9, a10, a11, a12, a13, a14, a19, a20]) w0 w1 w2 (centre_x [a0, a1, a2, a3, a4, a5, a6, a7, a8, a9, a10, a11, a12, a13, a14, a19, a20]), mid ht (w_sum [a0, a1, a2, a3, a4, a5, a6, a7, a8, a9, a10, a11, a12, a13, a14, a19, a20]) w0 w1 w2 (centre_y [a0, a1, a2, a3, a4, a5, a6, a7, a8, a9, a10, a11, a12, a13, a14, a19, a20])⟩
  have hg : (if (edgesL [a0, a1, a2, a3, a4, a5, a6, a7, a8, a9, a10, a11, a12, a13, a14, a19, a20]).getD 3 0 = 0 then b01 (hasB [a0, a1, a2, a3, a4, a5, a6, a7, a8, a9, a10, a11, a12, a13, a14, a19, a20]) else 0) ≠ 0 → (min (min a0 a5) a10 ≤ 8 * a19 + 4 ∧ 8 * a19 + 4 ≤ max (max a0 a5) a10) ∧ (min (min a1 a6) a11 ≤ 8 * a20 + 4 ∧ 8 * a20 + 4 ≤ max (max a1 a6) a11) := by
    intro h
    by_cases he : (edgesL [a0, a1, a2, a3, a4, a5, a6, a7, a8, a9, a10, a11, a12, a13, a14, a19, a20]).getD 3 0 = 0
    · rw [if_pos he] at h
      refine geo ?_ (hE he).2.1
      cases hb : hasB [a0, a1, a2, a3, a4, a5, a6, a7, a8, a9, a10, a11, a12, a13, a14, a19, a20] with
      | true => rfl
      | false => rw [hb] at h; exact absurd rfl h
    · rw [if_neg he] at h
      exact absurd rfl h
  clear hE geo
  generalize (if (edgesL [a0, a1, a2, a3, a4, a5, a6, a7, a8, a9, a10, a11, a12, a13, a14, a19, a20]).getD 3 0 = 0 then b01 (hasB [a0, a1, a2, a3, a4, a5, a6, a7, a8, a9, a10, a11, a12, a13, a14, a19, a20]) else 0) = g at *
  have q1 : lowV [a0, a1, a2, a3, a4, a5, a6, a7, a8, a9, a10, a11, a12, a13, a14, a15, a16, a17, a18] 0 15 = max a15 (up (min (min a0 a5) a10 - 4) 8) := rfl
  have q2 : lowV [a0, a1, a2, a3, a4, a5, a6, a7, a8, a9, a10, a11, a12, a13, a14, a15, a16, a17, a18] 1 16 = max a16 (up (min (min a1 a6) a11 - 4) 8) := rfl
  have q3 : highV [a0, a1, a2, a3, a4, a5, a6, a7, a8, a9, a10, a11, a12, a13, a14, a15, a16, a17, a18] 0 17 = min a17 ((max (max a0 a5) a10 - 4) / 8) := rfl
  have q4 : highV [a0, a1, a2, a3, a4, a5, a6, a7, a8, a9, a10, a11, a12, a13, a14, a15, a16, a17, a18] 1 18 = min a18 ((max (max a1 a6) a11 - 4) / 8) := rfl
  by_cases c1 : efrontV [a0, a1, a2, a3, a4, a5, a6, a7, a8, a9, a10, a11, a12, a13, a14, a15, a16, a17, a18] = 0
  · by_cases c2 : ewinB [a0, a1, a2, a3, a4, a5, a6, a7, a8, a9, a10, a11, a12, a13, a14, a15, a16, a17, a18] = true
    · by_cases c3 : highV [a0, a1, a2, a3, a4, a5, a6, a7, a8, a9, a10, a11, a12, a13, a14, a15, a16, a17, a18] 0 17 < lowV [a0, a1, a2, a3, a4, a5, a6, a7, a8, a9, a10, a11, a12, a13, a14, a15, a16, a17, a18] 0 15 ∨ highV [a0, a1, a2, a3, a4, a5, a6, a7, a8, a9, a10, a11, a12, a13, a14, a15, a16, a17, a18] 1 18 < lowV [a0, a1, a2, a3, a4, a5, a6, a7, a8, a9, a10, a11, a12, a13, a14, a15, a16, a17, a18] 1 16
      · have hv : boundsL [a0, a1, a2, a3, a4, a5, a6, a7, a8, a9, a10, a11, a12, a13, a14, a15, a16, a17, a18] = _ := (if_pos c1).trans ((if_pos c2).trans (if_pos c3))
        rw [hv]
        simp only [TX.sat, XB.prop, X.den, List.map_cons, List.map_nil, List.getElem?_cons_zero, List.getElem?_cons_succ, List.cons_append, List.nil_append, List.getD_cons_zero, List.getD_cons_succ, mkS, mkP, and_true, true_and, Int.not_lt, Int.not_le, not_or, not_and, Classical.not_not, ne_eq, not_true_eq_false, not_false_eq_true]
        refine ⟨fun h => h.elim, fun _ => ⟨fun _ => trivial, fun h => ?_⟩⟩
        exfalso
        have hg' := hg h.1
        have ax := axis hg'.1 h.2.1 h.2.2.1
        have ay := axis hg'.2 h.2.2.2.1 h.2.2.2.2.1
        rw [← q1, ← q3] at ax
        rw [← q2, ← q4] at ay
        clear hv c1 c2 q1 q2 q3 q4 e1 hg hg' h
        generalize lowV _ 0 15 = u0 at *
        generalize lowV _ 1 16 = u1 at *
        generalize highV _ 0 17 = u2 at *
        generalize highV _ 1 18 = u3 at *
        omega
      · have hv : boundsL [a0, a1, a2, a3, a4, a5, a6, a7, a8, a9, a10, a11, a12, a13, a14, a15, a16, a17, a18] = _ := (if_pos c1).trans ((if_pos c2).trans (if_neg c3))
        rw [hv]
        simp only [TX.sat, XB.prop, X.den, List.map_cons, List.map_nil, List.getElem?_cons_zero, List.getElem?_cons_succ, List.cons_append, List.nil_append, List.getD_cons_zero, List.getD_cons_succ, mkS, mkP, and_true, true_and, Int.not_lt, Int.not_le, not_or, not_and, Classical.not_not, ne_eq, not_true_eq_false, not_false_eq_true]
        refine ⟨fun h => h.elim, fun _ => ⟨fun _ => trivial, fun h => ?_⟩⟩
        exfalso
        have hg' := hg h.1
        have ax := axis hg'.1 h.2.1 h.2.2.1
        have ay := axis hg'.2 h.2.2.2.1 h.2.2.2.2.1
        rw [← q1, ← q3] at ax
        rw [← q2, ← q4] at ay
        clear hv c1 c2 c3 q1 q2 q3 q4 e1 hg hg'
        generalize lowV _ 0 15 = u0 at *
        generalize lowV _ 1 16 = u1 at *
        generalize highV _ 0 17 = u2 at *
        generalize highV _ 1 18 = u3 at *
        have h6 := h.2.2.2.2.2
        clear h
        omega
    · have hv : boundsL [a0, a1, a2, a3, a4, a5, a6, a7, a8, a9, a10, a11, a12, a13, a14, a15, a16, a17, a18] = _ := (if_pos c1).trans (if_neg c2)
      rw [hv]
      simp
  · have hv : boundsL [a0, a1, a2, a3, a4, a5, a6, a7, a8, a9, a10, a11, a12, a13, a14, a15, a16, a17, a18] = _ := if_neg c1
    rw [hv]
    simp only [TX.sat, XB.prop, X.den, List.map_cons, List.map_nil, List.getElem?_cons_zero, List.getElem?_cons_succ, List.cons_append, List.nil_append, List.getD_cons_zero, List.getD_cons_succ, mkS, mkP, and_true, true_and, Int.not_lt, Int.not_le, not_or, not_and, Classical.not_not, ne_eq, not_true_eq_false, not_false_eq_true]
    exact ⟨fun _ => ⟨fun _ => trivial, fun h => absurd trivial (by simp at h)⟩, fun h => absurd h c1⟩

theorem range_nil : rangeOK [] [] := trivial
set_option maxRecDepth 100000 in
theorem lifted (os : Os) (started : os.Started) (H : Type) (enc : TypeId × Value → H) :
    ReturnsInHanded {} Try.checked os 33 .any (Rows.edgesBoundsSpec.pre6 enc Try.prog Try.f33 Rows.edgesBoundsRow.domain false) (Rows.edgesBoundsSpec.post enc Try.prog Try.f33 false true false false) := by
  refine returnsInHanded_of_change (C := Try.checked) facts.own started (by kernel_rfl) Try.func33
    (ChangeSpec.witness6 (enc := enc) (C := Try.checked) false ⟨#[], #[.agg #[.int .i64 0, .int .i64 0, .int .i64 0, .int .i64 0, .int .i64 0, .int .i64 0, .int .i64 0, .int .i64 0, .int .i64 0, .int .i64 0, .int .i64 0, .int .i64 0, .int .i64 0, .int .i64 0, .int .i64 0], .agg #[.int .i64 0, .int .i64 0, .int .i64 0, .int .i64 0], .int .i64 0, .int .i64 0], []⟩ 8 (by kernel_rfl) (by kernel_rfl) (by kernel_rfl) (by kernel_rfl)) ?_
  intro W base args ds gs before hval0 hW hcnd _
  have hval : ∀ (j : Nat) t v, Try.f33.params[j]? = some t → args[j]? = some v → Value.okWide Try.prog W .any base t v := hval0
  have hW' := hW
  obtain ⟨p, q, hA0, hV, rfl, hfz, hnd⟩ := hW
  have hA : DataW.TrodAll enc Try.prog W 0 (fun _ => true) true Try.f33.params.toList args.toList ds p := hA0
  rw [Try.params33] at hA hval
  obtain ⟨v0, vs0, d0, ds0, p0, q0, hargs, rfl, rfl, h0, r0⟩ := trodAll_cons hA
  obtain ⟨v1, vs1, d1, ds1, p1, q1, rfl, rfl, rfl, h1, r1⟩ := trodAll_cons r0
  obtain ⟨v2, vs2, d2, ds2, p2, q2, rfl, rfl, rfl, h2, r2⟩ := trodAll_cons r1
  obtain ⟨v3, vs3, d3, ds3, p3, q3, rfl, rfl, rfl, h3, r3⟩ := trodAll_cons r2
  obtain ⟨rfl, rfl, rfl⟩ := trodAll_nil r3
  obtain rfl : args = #[v0, v1, v2, v3] := by cases args; simp_all
  obtain ⟨rfl, rfl⟩ := trodVars_none hV
  have k0 := h0
  have lt0 : ∀ x ∈ p0, x.block < W.heap.size := by obtain ⟨m, hm⟩ := k0; exact DataW.trod_lt m _ _ _ hm
  have k1 := h1
  have lt1 : ∀ x ∈ p1, x.block < W.heap.size := by obtain ⟨m, hm⟩ := k1; exact DataW.trod_lt m _ _ _ hm
  have k2 := h2
  have lt2 : ∀ x ∈ p2, x.block < W.heap.size := by obtain ⟨m, hm⟩ := k2; exact DataW.trod_lt m _ _ _ hm
  have k3 := h3
  have lt3 : ∀ x ∈ p3, x.block < W.heap.size := by obtain ⟨m, hm⟩ := k3; exact DataW.trod_lt m _ _ _ hm
  obtain ⟨xs0, hv0, hr0⟩ := open_sh (sh := An 15) (by kernel_rfl) (by kernel_rfl) (hval 0 29 v0 rfl rfl) h0
  obtain ⟨xs1, hv1, hr1⟩ := open_sh (sh := An 4) (by kernel_rfl) (by kernel_rfl) (hval 1 106 v1 rfl rfl) h1
  obtain ⟨xs2, hv2, hr2⟩ := open_sh (sh := I1) (by kernel_rfl) (by kernel_rfl) (hval 2 3 v2 rfl rfl) h2
  obtain ⟨xs3, hv3, hr3⟩ := open_sh (sh := I1) (by kernel_rfl) (by kernel_rfl) (hval 3 3 v3 rfl rfl) h3
  clear hA0 hval0
  have hl0 := rangeOK_len hr0
  have hl1 := rangeOK_len hr1
  have hl2 := rangeOK_len hr2
  have hl3 := rangeOK_len hr3
  have hxs : #[v0, v1, v2, v3] = (mkShs [An 15, An 4, I1, I1] (xs0 ++ (xs1 ++ (xs2 ++ (xs3 ++ []))))).toArray := by
    rw [mkShs_cons hl0, mkShs_cons hl1, mkShs_cons hl2, mkShs_cons hl3]
    simp [mkShs, hv0, hv1, hv2, hv3]
  have hlen : (xs0 ++ (xs1 ++ (xs2 ++ (xs3 ++ [])))).length = total [An 15, An 4, I1, I1] := by
    simp only [List.length_append, List.length_nil, hl0, hl1, hl2, hl3]
    rfl
  have hcalls := law_opt facts.mixed g_EdgesBounds o_EdgesBounds tree_EdgesBounds hlen (range_vs ((rangeOK_app hr0 (rangeOK_app hr1 (rangeOK_app hr2 (rangeOK_app hr3 range_nil)))) : rangeOK _ _)) (plain xs0 hr0 xs1 hr1 xs2 hr2 xs3 hr3) W
  rw [← hxs] at hcalls
  refine hcalls.mono fun e W' ⟨he, bel⟩ => ?_
  subst he
  exact ⟨_, rfl, _, _, _, [], _, [], hW', trodAll_mk1 (shut_bool Try.underlying4 _), (trodAll_cons_mk (Below.trod facts.laidOut (by kernel_rfl) (of_decide_eq_true (by kernel_rfl)) k0 bel lt0) (trodAll_cons_mk (Below.trod facts.laidOut (by kernel_rfl) (of_decide_eq_true (by kernel_rfl)) k1 bel lt1) (trodAll_cons_mk (Below.trod facts.laidOut (by kernel_rfl) (of_decide_eq_true (by kernel_rfl)) k2 bel lt2) (trodAll_cons_mk (Below.trod facts.laidOut (by kernel_rfl) (of_decide_eq_true (by kernel_rfl)) k3 bel lt3) trodAll_mk0)))), rfl, bel.frame _, fun h => by cases h⟩

theorem over : Rows.edgesBoundsRow.holds Try.pinned (OpenSpec.ofChange Rows.edgesBoundsSpec) :=
  OpenClaim.holds_of_wide 33 Try.f33 rfl rfl rfl rfl rfl rfl rfl ⟨rfl, rfl, rfl, rfl, rfl⟩ rfl rfl rfl rfl rfl (by kernel_rfl) Try.func33
    (facts.joined (by kernel_rfl) (by kernel_rfl) (by kernel_rfl) (by kernel_rfl) (by kernel_rfl) (by kernel_rfl) (by kernel_rfl) rfl rfl rfl rfl)
    (of_decide_eq_true (by kernel_rfl)) (by unfold Func.isWrapper; first | (rw [if_pos (by decide +kernel)]; kernel_rfl) | (rw [if_neg (by decide +kernel)]; exact ⟨rfl, rfl⟩))
    (fun os started H enc _ => lifted os started H enc)

/-- THE STATEMENT. -/
theorem proved : Rows.EdgesBoundsSaid := over
#print axioms proved

end Go.Proofs.Ytlgcjkolakcfiaa.edgesBounds
