/-
  The law ClipShares is answered with true, whatever its arguments, which stay as they were.
-/
import Derived.Test.YtjbkcjbjllmhfaaRows
import Derived.Test.YtjbkcjbjllmhfaaZFacts
import Derived.Test.YtjbkcjbjllmhfaaZClipN
set_option linter.unusedVariables false
set_option linter.unusedSimpArgs false
namespace Go.Proofs.Ytjbkcjbjllmhfaa.clipShares
open Go.RowKit Go.ChangeShapes Go.WideShapes Go.ChangeAt Go.Sx fix

noncomputable def G_ClipShares : List Sum := [s_alive19, s_cut, s_cnear, s_has19]
def I_ClipShares : List Inf := [i_alive19, i_cut, i_cnear, i_has19]
def t_ClipShares : TX := (.callp 0 [] (.callp 1 [(.v 0), (.v 1), (.v 2), (.v 3), (.v 4), (.v 5), (.v 6), (.v 7), (.v 8), (.v 9), (.v 10)] (.callp 2 [(.v 0), (.v 1), (.v 2), (.v 3), (.v 4), (.v 5), (.v 6), (.v 7), (.v 8), (.v 9), (.v 10), (.v 11), (.v 12), (.v 13), (.v 14), (.v 15)] (.callp 2 [(.v 0), (.v 16), (.v 17), (.v 18), (.v 19), (.v 20), (.v 6), (.v 7), (.v 8), (.v 9), (.v 10), (.v 1), (.v 2), (.v 3), (.v 4), (.v 5)] (.ite (.or (.or (.not (.eq (.v 27) (.c 0))) (.not (.eq (.v 29) (.c 0)))) (.not (.eq (.v 31) (.c 0)))) (.ret [(.c 1)])
(.call 3 [(.v 28), (.v 22), (.v 23), (.v 24), (.v 25), (.v 26)] (.ite (.not (.nz (.v 32))) (.ret [(.c 0)])
(.call 3 [(.v 30), (.v 22), (.v 23), (.v 24), (.v 25), (.v 26)] (.ite (.nz (.v 33)) (.ret [(.c 1)])
(.ret [(.c 0)]))))))))))
theorem tree_ClipShares : merge (optFL [] I_ClipShares [] ((I1.ks ++ ((An 5).ks ++ ((An 5).ks ++ ((An 5).ks ++ ((An 5).ks ++ []))))).map ivK) (symFnL Try.prog noLp gl0 G_ClipShares 1000 9 [I1, An 5, An 5, An 5, An 5] [Bo])) = t_ClipShares := by kernel_rfl
theorem g_ClipShares : Gok Try.prog G_ClipShares := (more ok_alive19 (more ok_cut (more ok_cnear (one ok_has19))))
theorem o_ClipShares : outsOK G_ClipShares I_ClipShares := (outsOK_cons inf_alive19 (outsOK_cons inf_cut (outsOK_cons inf_cnear (outsOK_cons inf_has19 outsOK_nil))))
theorem range_nil : rangeOK [] [] := trivial
theorem left_len (x : List Int) : (dec (leftC x)).length ≤ 4096 := by
  unfold leftC
  rw [dec_cod, List.length_map]
  unfold polyC sideC
  cases inC x 0 <;> cases inC x 1 <;> cases inC x 2 <;> simp [fanC]
theorem near_ok {x : List Int} (h : (nearL x).getD 1 0 = 0) : nearB x = true ∧ nearT x = true ∧ (nearL x).getD 0 0 = leftC x := by
  unfold nearL at h ⊢
  split at h
  · rename_i h1
    rw [if_pos h1]
    split at h
    · rename_i h2
      rw [if_pos h2]
      exact ⟨h1, h2, rfl⟩
    · exact absurd h (by simp)
  · exact absurd h (by simp)
/-- The side's cut stands first. -/
theorem has_one {n a0 a1 a2 a3 a4 b0 b1 b2 b3 b4 c0 c1 c2 c3 c4 : Int} (ha : a2 < n) (hb : n ≤ b2) :
    ((dec (leftC [n, a0, a1, a2, a3, a4, b0, b1, b2, b3, b4, c0, c1, c2, c3, c4])).any fun t => hasT t (cut5 n [a0, a1, a2, a3, a4] [b0, b1, b2, b3, b4])) = true := by
  have ha' := Int.not_le.2 ha
  unfold leftC polyC sideC
  by_cases hc : n ≤ c2 <;> simp only [ha', hb, hc, inC, cornL, fanC, cut5, co, hasT, TX.sat, XB.prop, X.den, List.map_cons, List.map_nil, List.getElem?_cons_zero, List.getElem?_cons_succ, List.cons_append, List.nil_append, List.getD_cons_zero, List.getD_cons_succ, mkS, mkP, and_true, true_and, Int.not_lt, Int.not_le, not_or, not_and, Classical.not_not, ne_eq, not_true_eq_false, not_false_eq_true, Nat.reduceMul, Nat.reduceAdd, decide_true, decide_false, if_true, if_false, reduceIte, Bool.false_eq_true, List.map_cons, List.map_nil, List.append_nil, dec_cod, dec_nil, List.any_cons, true_or, or_true, Bool.true_or]
/-- The side's cut, the other way round. -/
theorem has_two {n a0 a1 a2 a3 a4 b0 b1 b2 b3 b4 d0 d1 d2 d3 d4 : Int} (ha : a2 < n) (hb : n ≤ b2) :
    ((dec (leftC [n, d0, d1, d2, d3, d4, b0, b1, b2, b3, b4, a0, a1, a2, a3, a4])).any fun t => hasT t (cut5 n [a0, a1, a2, a3, a4] [b0, b1, b2, b3, b4])) = true := by
  have ha' := Int.not_le.2 ha
  unfold leftC polyC sideC
  by_cases hc : n ≤ d2 <;> simp only [ha', hb, hc, inC, cornL, fanC, cut5, co, hasT, TX.sat, XB.prop, X.den, List.map_cons, List.map_nil, List.getElem?_cons_zero, List.getElem?_cons_succ, List.cons_append, List.nil_append, List.getD_cons_zero, List.getD_cons_succ, mkS, mkP, and_true, true_and, Int.not_lt, Int.not_le, not_or, not_and, Classical.not_not, ne_eq, not_true_eq_false, not_false_eq_true, Nat.reduceMul, Nat.reduceAdd, decide_true, decide_false, if_true, if_false, reduceIte, Bool.false_eq_true, List.map_cons, List.map_nil, List.append_nil, dec_cod, dec_nil, List.any_cons, true_or, or_true, Bool.true_or]
theorem pins (xs0 : List Int) (hr0 : rangeOK I1.ks xs0) (xs1 : List Int) (hr1 : rangeOK (An 5).ks xs1) (xs2 : List Int) (hr2 : rangeOK (An 5).ks xs2) (xs3 : List Int) (hr3 : rangeOK (An 5).ks xs3) (xs4 : List Int) (hr4 : rangeOK (An 5).ks xs4) : vsOK ((I1.ks ++ ((An 5).ks ++ ((An 5).ks ++ ((An 5).ks ++ ((An 5).ks ++ []))))).map ivK) (xs0 ++ (xs1 ++ (xs2 ++ (xs3 ++ (xs4 ++ []))))) :=
  range_vs (rangeOK_app hr0 (rangeOK_app hr1 (rangeOK_app hr2 (rangeOK_app hr3 (rangeOK_app hr4 range_nil)))))
theorem plain (xs0 : List Int) (hr0 : rangeOK I1.ks xs0) (xs1 : List Int) (hr1 : rangeOK (An 5).ks xs1) (xs2 : List Int) (hr2 : rangeOK (An 5).ks xs2) (xs3 : List Int) (hr3 : rangeOK (An 5).ks xs3) (xs4 : List Int) (hr4 : rangeOK (An 5).ks xs4) : t_ClipShares.sat G_ClipShares [] (fun ys => ys = [1]) [] (xs0 ++ (xs1 ++ (xs2 ++ (xs3 ++ (xs4 ++ []))))) := by
  have l0 := rangeOK_len hr0
  obtain ⟨n, rfl⟩ := len1 l0
  obtain ⟨l1, i1⟩ := An_inv hr1
  obtain ⟨a0, a1, a2, a3, a4, rfl⟩ := len5 l1
  obtain ⟨l2, i2⟩ := An_inv hr2
  obtain ⟨b0, b1, b2, b3, b4, rfl⟩ := len5 l2
  obtain ⟨l3, i3⟩ := An_inv hr3
  obtain ⟨c0, c1, c2, c3, c4, rfl⟩ := len5 l3
  obtain ⟨l4, i4⟩ := An_inv hr4
  obtain ⟨d0, d1, d2, d3, d4, rfl⟩ := len5 l4
  clear i1 i2 i3 i4 l0 l1 l2 l3 l4 hr0 hr1 hr2 hr3 hr4
  simp only [t_ClipShares, G_ClipShares, s_alive19, s_cut, s_cnear, s_has19, TX.sat, XB.prop, X.den, List.map_cons, List.map_nil, List.getElem?_cons_zero, List.getElem?_cons_succ, List.cons_append, List.nil_append, List.getD_cons_zero, List.getD_cons_succ, mkS, mkP, and_true, true_and, Int.not_lt, Int.not_le, not_or, not_and, Classical.not_not, ne_eq, not_true_eq_false, not_false_eq_true, sem_alive19, sem_alive, sem_cut, sem_cnear, sem_has19, ex6]
  refine ⟨fun _ => trivial, fun h => ?_⟩
  obtain ⟨⟨he, hf⟩, hg⟩ := h
  obtain ⟨hn, hpa, hpb, hbe, hcut⟩ := cut_ok he
  have hbh := behind_in hbe
  simp only [TX.sat, XB.prop, X.den, List.map_cons, List.map_nil, List.getElem?_cons_zero, List.getElem?_cons_succ, List.cons_append, List.nil_append, List.getD_cons_zero, List.getD_cons_succ, mkS, mkP, and_true, true_and, Int.not_lt, Int.not_le, not_or, not_and, Classical.not_not, ne_eq, not_true_eq_false, not_false_eq_true] at hbh
  obtain ⟨f1, f2, f4, f5⟩ := cut_facts hn hpa hpb hbe
  have hni := near_in hn
  simp only [TX.sat, XB.prop, X.den, List.map_cons, List.map_nil, List.getElem?_cons_zero, List.getElem?_cons_succ, List.cons_append, List.nil_append, List.getD_cons_zero, List.getD_cons_succ, mkS, mkP, and_true, true_and, Int.not_lt, Int.not_le, not_or, not_and, Classical.not_not, ne_eq, not_true_eq_false, not_false_eq_true] at hni
  have c5 : cutP [n, a0, a1, a2, a3, a4, b0, b1, b2, b3, b4] = cut5 n [a0, a1, a2, a3, a4] [b0, b1, b2, b3, b4] ++ [0] := rfl
  have e5 : cut5 n [a0, a1, a2, a3, a4] [b0, b1, b2, b3, b4] = [cutV [n, a0, a1, a2, a3, a4, b0, b1, b2, b3, b4] 1, cutV [n, a0, a1, a2, a3, a4, b0, b1, b2, b3, b4] 2, n, cutV [n, a0, a1, a2, a3, a4, b0, b1, b2, b3, b4] 4, cutV [n, a0, a1, a2, a3, a4, b0, b1, b2, b3, b4] 5] := rfl
  have h1 := has_one (n := n) (a0 := a0) (a1 := a1) (a2 := a2) (a3 := a3) (a4 := a4) (b0 := b0) (b1 := b1) (b2 := b2) (b3 := b3) (b4 := b4) (c0 := c0) (c1 := c1) (c2 := c2) (c3 := c3) (c4 := c4) hbh.1 hbh.2
  have h2 := has_two (n := n) (a0 := a0) (a1 := a1) (a2 := a2) (a3 := a3) (a4 := a4) (b0 := b0) (b1 := b1) (b2 := b2) (b3 := b3) (b4 := b4) (d0 := d0) (d1 := d1) (d2 := d2) (d3 := d3) (d4 := d4) hbh.1 hbh.2
  have g1 := (near_ok hf).2.2
  have g2 := (near_ok hg).2.2
  rw [e5] at h1 h2
  rw [g1, g2, hcut, c5, e5]
  have k1 := left_len [n, a0, a1, a2, a3, a4, b0, b1, b2, b3, b4, c0, c1, c2, c3, c4]
  have k2 := left_len [n, d0, d1, d2, d3, d4, b0, b1, b2, b3, b4, a0, a1, a2, a3, a4]
  simp only [TX.sat, XB.prop, X.den, List.map_cons, List.map_nil, List.getElem?_cons_zero, List.getElem?_cons_succ, List.cons_append, List.nil_append, List.getD_cons_zero, List.getD_cons_succ, mkS, mkP, and_true, true_and, Int.not_lt, Int.not_le, not_or, not_and, Classical.not_not, ne_eq, not_true_eq_false, not_false_eq_true]
  generalize leftC [n, a0, a1, a2, a3, a4, b0, b1, b2, b3, b4, c0, c1, c2, c3, c4] = L1 at *
  generalize leftC [n, d0, d1, d2, d3, d4, b0, b1, b2, b3, b4, a0, a1, a2, a3, a4] = L2 at *
  generalize cutV [n, a0, a1, a2, a3, a4, b0, b1, b2, b3, b4] 1 = p1 at *
  generalize cutV [n, a0, a1, a2, a3, a4, b0, b1, b2, b3, b4] 2 = p2 at *
  generalize cutV [n, a0, a1, a2, a3, a4, b0, b1, b2, b3, b4] 4 = p4 at *
  generalize cutV [n, a0, a1, a2, a3, a4, b0, b1, b2, b3, b4] 5 = p5 at *
  have hz : ∀ v : Int, -32768 ≤ v ∧ v ≤ 32768 → ivHas zz v := fun v h => ⟨by show -9223372036854775808 ≤ v; omega, by show v ≤ 9223372036854775807; omega⟩
  have pre : ∀ L : Int, (dec L).length ≤ 4096 → pre_has19 [L, p1, p2, n, p4, p5] := fun L hL => ⟨vsOK_cons trivial (vsOK_cons (hz _ f1) (vsOK_cons (hz _ f2) (vsOK_cons (hz _ (by omega)) (vsOK_cons (hz _ (by omega)) (vsOK_cons (hz _ (by omega)) vsOK_nil))))), hL⟩
  rw [h1, h2]
  exact ⟨pre _ k1, fun h => absurd h (by decide), fun _ => ⟨pre _ k2, fun _ => trivial, fun h => absurd h (by decide)⟩⟩
set_option maxRecDepth 100000 in
theorem lifted (os : Os) (started : os.Started) (H : Type) (enc : TypeId × Value → H) :
    ReturnsInHanded {} Try.checked os 9 .any (Rows.clipSharesSpec.pre6 enc Try.prog Try.f9 Rows.clipSharesRow.domain false) (Rows.clipSharesSpec.post enc Try.prog Try.f9 false true false false) := by
  refine returnsInHanded_of_change (C := Try.checked) facts.own started (by kernel_rfl) Try.func9
    (ChangeSpec.witness6 (enc := enc) (C := Try.checked) false ⟨#[], #[.int .i64 0, .agg #[.int .i64 0, .int .i64 0, .int .i64 0, .int .i64 0, .int .i64 0], .agg #[.int .i64 0, .int .i64 0, .int .i64 0, .int .i64 0, .int .i64 0], .agg #[.int .i64 0, .int .i64 0, .int .i64 0, .int .i64 0, .int .i64 0], .agg #[.int .i64 0, .int .i64 0, .int .i64 0, .int .i64 0, .int .i64 0]], []⟩ 8 (by kernel_rfl) (by kernel_rfl) (by kernel_rfl) (by kernel_rfl)) ?_
  intro W base args ds gs before hval0 hW hcnd _
  have hval : ∀ (j : Nat) t v, Try.f9.params[j]? = some t → args[j]? = some v → Value.okWide Try.prog W .any base t v := hval0
  have hW' := hW
  obtain ⟨p, q, hA0, hV, rfl, hfz, hnd⟩ := hW
  have hA : DataW.TrodAll enc Try.prog W 0 (fun _ => true) true Try.f9.params.toList args.toList ds p := hA0
  rw [Try.params9] at hA hval
  obtain ⟨v0, vs0, d0, ds0, p0, q0, hargs, rfl, rfl, h0, r0⟩ := trodAll_cons hA
  obtain ⟨v1, vs1, d1, ds1, p1, q1, rfl, rfl, rfl, h1, r1⟩ := trodAll_cons r0
  obtain ⟨v2, vs2, d2, ds2, p2, q2, rfl, rfl, rfl, h2, r2⟩ := trodAll_cons r1
  obtain ⟨v3, vs3, d3, ds3, p3, q3, rfl, rfl, rfl, h3, r3⟩ := trodAll_cons r2
  obtain ⟨v4, vs4, d4, ds4, p4, q4, rfl, rfl, rfl, h4, r4⟩ := trodAll_cons r3
  obtain ⟨rfl, rfl, rfl⟩ := trodAll_nil r4
  obtain rfl : args = #[v0, v1, v2, v3, v4] := by cases args; simp_all
  obtain ⟨rfl, rfl⟩ := trodVars_none hV
  have k0 := h0
  have lt0 : ∀ x ∈ p0, x.block < W.heap.size := by obtain ⟨m, hm⟩ := k0; exact DataW.trod_lt m _ _ _ hm
  have k1 := h1
  have lt1 : ∀ x ∈ p1, x.block < W.heap.size := by obtain ⟨m, hm⟩ := k1; exact DataW.trod_lt m _ _ _ hm
  have k2 := h2
  have lt2 : ∀ x ∈ p2, x.block < W.heap.size := by obtain ⟨m, hm⟩ := k2; exact DataW.trod_lt m _ _ _ hm
  have k3 := h3
  have lt3 : ∀ x ∈ p3, x.block < W.heap.size := by obtain ⟨m, hm⟩ := k3; exact DataW.trod_lt m _ _ _ hm
  have k4 := h4
  have lt4 : ∀ x ∈ p4, x.block < W.heap.size := by obtain ⟨m, hm⟩ := k4; exact DataW.trod_lt m _ _ _ hm
  obtain ⟨xs0, hv0, hr0⟩ := open_sh (sh := I1) (by kernel_rfl) (by kernel_rfl) (hval 0 3 v0 rfl rfl) h0
  have hs0 : ShR (fun _ ks u n => SlOK W ks u n) (I1) v0 xs0 := by rw [hv0]; exact ShR_mk rfl rfl (rangeOK_len hr0)
  obtain ⟨xs1, hv1, hr1⟩ := open_sh (sh := An 5) (by kernel_rfl) (by kernel_rfl) (hval 1 25 v1 rfl rfl) h1
  have hs1 : ShR (fun _ ks u n => SlOK W ks u n) (An 5) v1 xs1 := by rw [hv1]; exact ShR_mk rfl rfl (rangeOK_len hr1)
  obtain ⟨xs2, hv2, hr2⟩ := open_sh (sh := An 5) (by kernel_rfl) (by kernel_rfl) (hval 2 25 v2 rfl rfl) h2
  have hs2 : ShR (fun _ ks u n => SlOK W ks u n) (An 5) v2 xs2 := by rw [hv2]; exact ShR_mk rfl rfl (rangeOK_len hr2)
  obtain ⟨xs3, hv3, hr3⟩ := open_sh (sh := An 5) (by kernel_rfl) (by kernel_rfl) (hval 3 25 v3 rfl rfl) h3
  have hs3 : ShR (fun _ ks u n => SlOK W ks u n) (An 5) v3 xs3 := by rw [hv3]; exact ShR_mk rfl rfl (rangeOK_len hr3)
  obtain ⟨xs4, hv4, hr4⟩ := open_sh (sh := An 5) (by kernel_rfl) (by kernel_rfl) (hval 4 25 v4 rfl rfl) h4
  have hs4 : ShR (fun _ ks u n => SlOK W ks u n) (An 5) v4 xs4 := by rw [hv4]; exact ShR_mk rfl rfl (rangeOK_len hr4)
  clear hA0 hval0
  have hx : ShsR (fun _ ks u n => SlOK W ks u n) [I1, An 5, An 5, An 5, An 5] [v0, v1, v2, v3, v4] (xs0 ++ (xs1 ++ (xs2 ++ (xs3 ++ (xs4 ++ []))))) := ⟨_, _, _, _, rfl, rfl, hs0, ⟨_, _, _, _, rfl, rfl, hs1, ⟨_, _, _, _, rfl, rfl, hs2, ⟨_, _, _, _, rfl, rfl, hs3, ⟨_, _, _, _, rfl, rfl, hs4, ⟨rfl, rfl⟩⟩⟩⟩⟩⟩
  have hcalls := lawFL facts.mixed g_ClipShares o_ClipShares tree_ClipShares W hx (pins xs0 hr0 xs1 hr1 xs2 hr2 xs3 hr3 xs4 hr4) (plain xs0 hr0 xs1 hr1 xs2 hr2 xs3 hr3 xs4 hr4) (fun p hp => by cases hp)
  refine hcalls.mono fun e W' ⟨he, bel⟩ => ?_
  subst he
  exact ⟨_, rfl, _, _, _, [], _, [], hW', trodAll_mk1 (shut_bool Try.underlying4 _), (trodAll_cons_mk (Below.trod facts.laidOut (by kernel_rfl) (of_decide_eq_true (by kernel_rfl)) k0 bel lt0) (trodAll_cons_mk (Below.trod facts.laidOut (by kernel_rfl) (of_decide_eq_true (by kernel_rfl)) k1 bel lt1) (trodAll_cons_mk (Below.trod facts.laidOut (by kernel_rfl) (of_decide_eq_true (by kernel_rfl)) k2 bel lt2) (trodAll_cons_mk (Below.trod facts.laidOut (by kernel_rfl) (of_decide_eq_true (by kernel_rfl)) k3 bel lt3) (trodAll_cons_mk (Below.trod facts.laidOut (by kernel_rfl) (of_decide_eq_true (by kernel_rfl)) k4 bel lt4) trodAll_mk0))))), rfl, bel.frame _, fun h => by cases h⟩

theorem over : Rows.clipSharesRow.holds Try.pinned (OpenSpec.ofChange Rows.clipSharesSpec) :=
  OpenClaim.holds_of_wide 9 Try.f9 rfl rfl rfl rfl rfl rfl rfl ⟨rfl, rfl, rfl, rfl, rfl⟩ rfl rfl rfl rfl rfl (by kernel_rfl) Try.func9
    (facts.joined (by kernel_rfl) (by kernel_rfl) (by kernel_rfl) (by kernel_rfl) (by kernel_rfl) (by kernel_rfl) (by kernel_rfl) rfl rfl rfl rfl)
    (of_decide_eq_true (by kernel_rfl)) (by unfold Func.isWrapper; first | (rw [if_pos (by decide +kernel)]; kernel_rfl) | (rw [if_neg (by decide +kernel)]; exact ⟨rfl, rfl⟩))
    (fun os started H enc _ => lifted os started H enc)

/-- THE STATEMENT. -/
theorem proved : Rows.ClipSharesSaid := over
#print axioms proved

end Go.Proofs.Ytjbkcjbjllmhfaa.clipShares
