/-
  The law FindEach is answered with true, whatever its arguments, which stay as they were.
-/
import Derived.Test.YtgcoidbaoigkeaaDoorRows
import Derived.Test.YtgcoidbaoigkeaaDoorFFacts
import Derived.Test.YtgcoidbaoigkeaaDoorCards
import Derived.Test.YtgcoidbaoigkeaaDoorTie
import Derived.Test.YtgcoidbaoigkeaaDoorFDoorA
import Derived.SevenTiedAt
import Derived.Test.YtgcoidbaoigkeaaDoorFLists
set_option linter.unusedVariables false
set_option linter.unusedSimpArgs false
namespace Go.Proofs.YtgcoidbaoigkeaaDoor.findEach
open Go.RowKit Go.ChangeShapes Go.WideShapes Go.ChangeAt Go.Sx fix

noncomputable def G_FindEach : List Sum := [s_alive18, s_fall, s_shadow]
def I_FindEach : List Inf := [i_alive18, i_fall, i_shadow]
def t_FindEach : TX := (.callp 0 [] (.ite (.lt (.c 400) (.ln (.v 0))) (.ret [(.c 1)])
(.call 1 [(.v 0), (.v 1), (.v 2), (.v 3), (.v 4), (.v 5), (.v 6), (.v 7), (.v 8), (.v 9), (.v 10), (.v 11), (.v 12), (.v 13), (.v 14), (.v 15), (.v 16), (.v 17), (.v 18), (.v 19), (.v 20)] (.ite (.not (.eq (.v 23) (.c 0))) (.ite (.and (.nz (.v 21)) (.eq (.ln (.v 22)) (.c 0))) (.ret [(.c 1)])
(.ret [(.c 0)]))
(.loop 3 [none, none, none] [(.c 0), (.c 0), (.c 0)] (.ite (.lt (.v 26) (.ln (.v 0))) (.asrt (.le (.c 0) (.v 26)) (.call 2 [(.v 1), (.v 2), (.v 3), (.v 4), (.v 5), (.v 6), (.v 7), (.v 8), (.v 9), (.v 10), (.v 11), (.v 12), (.v 13), (.v 14), (.v 15), (.v 16), (.l2 .at (.l2 .at (.v 0) (.v 26)) (.c 0)), (.l2 .at (.l2 .at (.v 0) (.v 26)) (.c 1)), (.l2 .at (.l2 .at (.v 0) (.v 26)) (.c 2)), (.l2 .at (.l2 .at (.v 0) (.v 26)) (.c 3)), (.l2 .at (.l2 .at (.v 0) (.v 26)) (.c 4)), (.l2 .at (.l2 .at (.v 0) (.v 26)) (.c 5)), (.v 17), (.v 18), (.v 19), (.v 20)] (.ite (.not (.eq (.v 33) (.c 0))) (.ret [(.c 0)])
(.asrt (.or (.or (.eq (.v 32) (.c 0)) (.le (.ln (.v 22)) (.v 25))) (.le (.c 0) (.v 25))) (.asrt (.or (.or (.eq (.v 32) (.c 0)) (.le (.ln (.v 22)) (.v 25))) (.lt (.v 25) (.ln (.v 22)))) (.asrt (.or (.or (.eq (.v 32) (.c 0)) (.le (.ln (.v 22)) (.v 25))) (.le (.c 0) (.v 25))) (.asrt (.or (.or (.eq (.v 32) (.c 0)) (.le (.ln (.v 22)) (.v 25))) (.lt (.v 25) (.ln (.v 22)))) (.ite (.and (.nz (.v 32)) (.or (.le (.ln (.v 22)) (.v 25)) (.not (.eq (.l2 .at (.v 22) (.v 25)) (.v 26))))) (.ret [(.c 0)])
(.ite (.nz (.v 32)) (.back 0 [(.v 24), (.wr .i64 (.add (.v 25) (.c 1))), (.wr .i64 (.add (.v 26) (.c 1)))])
(.back 0 [(.v 24), (.v 25), (.wr .i64 (.add (.v 26) (.c 1)))]))))))))))
(.ite (.and (.nz (.v 21)) (.eq (.v 25) (.ln (.v 22)))) (.ret [(.c 1)])
(.ret [(.c 0)]))))))))
theorem tree_FindEach : merge (optFL [] I_FindEach [] ([none] ++ zs 20) (symFnL Tryd.prog (openAt Tryd.prog [(11, 37)]) gl0 G_FindEach 1000 3 [Bs, An 16, An 4] [Bo])) = t_FindEach := by kernel_rfl
theorem g_FindEach : Gok Tryd.prog G_FindEach := (more ok_alive18 (more ok_fall (one ok_shadow)))
theorem o_FindEach : outsOK G_FindEach I_FindEach := (outsOK_cons inf_alive18 (outsOK_cons inf_fall (outsOK_cons inf_shadow outsOK_nil)))
theorem range_nil : rangeOK [] [] := trivial
theorem found_pre {l x : List Int} {i : Nat} : ∀ k, ∃ s, foundU l x (i + k) = foundU l x i ++ s
  | 0 => ⟨[], (List.append_nil _).symm⟩
  | k + 1 => by
    obtain ⟨s, hs⟩ := found_pre (l := l) (x := x) (i := i) k
    rw [show i + (k + 1) = (i + k) + 1 by omega, found_succ, hs]
    split
    · exact ⟨s ++ [((i + k : Nat) : Int)], by rw [List.append_assoc]⟩
    · exact ⟨s, rfl⟩
/-- What the i-th box that shows stands at. -/
theorem found_at {l x : List Int} {i n : Nat} (hi : i < n) (h : showsI (l.getD i 0) x = true) : (foundU l x i).length < (foundU l x n).length ∧ (foundU l x n).getD (foundU l x i).length 0 = (i : Int) := by
  obtain ⟨s, hs⟩ := found_pre (l := l) (x := x) (i := i + 1) (n - (i + 1))
  rw [show i + 1 + (n - (i + 1)) = n by omega, found_succ, if_pos h] at hs
  rw [hs]
  refine ⟨by simp only [List.length_append, List.length_cons, List.length_nil]; omega, ?_⟩
  simp [List.getD]
theorem found_le {l x : List Int} {i n : Nat} (hi : i ≤ n) : (foundU l x i).length ≤ (foundU l x n).length := by
  obtain ⟨s, hs⟩ := found_pre (l := l) (x := x) (i := i) (n - i)
  rw [show i + (n - i) = n by omega] at hs
  rw [hs, List.length_append]
  omega
theorem fall_ok {l x : List Int} (h : (fallL l x).getD 1 0 = 0) : askedE l x = 0 ∧ dec ((fallL l x).getD 0 0) = foundU l x l.length := by
  unfold fallL at h ⊢
  split at h
  · rename_i h1
    rw [if_pos h1]
    exact ⟨h1, dec_cod _⟩
  · rename_i h1
    exact absurd h h1
theorem fall_no {l x : List Int} (h : ¬ (fallL l x).getD 1 0 = 0) : dec ((fallL l x).getD 0 0) = [] := by
  unfold fallL at h ⊢
  split at h
  · exact absurd rfl h
  · rename_i h1
    rw [if_neg h1]
    exact dec_nil
theorem asked_ok {l x : List Int} (h : askedE l x = 0) : l.all okB = true ∧ windowV x = 0 := by
  unfold askedE at h
  split at h
  · split at h
    · rename_i h1
      exact ⟨h1, h⟩
    · exact absurd h (by decide)
  · exact absurd h (by decide)
theorem window_ok {x : List Int} (h : windowV x = 0) : camB x 0 = true ∧ winB x 16 14 15 = true := by
  unfold windowV at h
  split at h
  · rename_i h1
    split at h
    · rename_i h2
      exact ⟨h1, h2⟩
    · exact absurd h (by decide)
  · exact absurd h (by decide)
theorem shade_ok {b c0 c1 c2 c3 c4 c5 c6 c7 c8 c9 c10 c11 c12 c13 c14 c15 w0 w1 w2 w3 : Int} (hb : okB b = true) (hw : windowV [c0, c1, c2, c3, c4, c5, c6, c7, c8, c9, c10, c11, c12, c13, c14, c15, w0, w1, w2, w3] = 0) :
    (shade b [c0, c1, c2, c3, c4, c5, c6, c7, c8, c9, c10, c11, c12, c13, c14, c15, w0, w1, w2, w3]).getD 6 0 = 0 := by
  obtain ⟨h1, h2⟩ := window_ok hw
  obtain ⟨Y, hY⟩ : ∃ Y : List Int, Y = [c0, c1, c2, c3, c4, c5, c6, c7, c8, c9, c10, c11, c12, c13, c14, c15, co b 0, co b 1, co b 2, co b 3, co b 4, co b 5, w0, w1, w2, w3] := ⟨_, rfl⟩
  have hs : shade b [c0, c1, c2, c3, c4, c5, c6, c7, c8, c9, c10, c11, c12, c13, c14, c15, w0, w1, w2, w3] = shadowL Y := by rw [hY]; rfl
  have q1 : camB Y 0 = true := by rw [hY]; exact h1
  have q2 : worldB Y 16 = true := by rw [hY]; exact hb
  have q3 : winC Y = true := by rw [hY]; exact h2
  rw [hs]
  unfold shadowL
  rw [if_pos q1, if_pos q2, if_pos q3]
  split <;> rfl
theorem pins (l0 : List Int) (hr0 : ∀ x ∈ l0, rangeOK Bs_ks (elt Bs_ks x)) (xs1 : List Int) (hr1 : rangeOK (An 16).ks xs1) (xs2 : List Int) (hr2 : rangeOK (An 4).ks xs2) : vsOK ([none] ++ zs 20) ([cod l0] ++ (xs1 ++ (xs2 ++ []))) :=
  vsOK_cons trivial (range_vs (rangeOK_app hr1 (rangeOK_app hr2 range_nil)))
theorem plain (l0 : List Int) (hr0 : ∀ x ∈ l0, rangeOK Bs_ks (elt Bs_ks x)) (xs1 : List Int) (hr1 : rangeOK (An 16).ks xs1) (xs2 : List Int) (hr2 : rangeOK (An 4).ks xs2) : t_FindEach.sat G_FindEach [] (fun ys => ys = [1]) [] ([cod l0] ++ (xs1 ++ (xs2 ++ []))) := by
  have hpin := pins l0 hr0 xs1 hr1 xs2 hr2
  obtain ⟨n1, i1⟩ := An_inv hr1
  obtain ⟨c0, c1, c2, c3, c4, c5, c6, c7, c8, c9, c10, c11, c12, c13, c14, c15, rfl⟩ := len16 n1
  obtain ⟨n2, i2⟩ := An_inv hr2
  obtain ⟨w0, w1, w2, w3, rfl⟩ := len4 n2
  clear i1 i2 n1 n2 hr1 hr2
  have hv : vsOK ([none] ++ zs 20) [cod l0, c0, c1, c2, c3, c4, c5, c6, c7, c8, c9, c10, c11, c12, c13, c14, c15, w0, w1, w2, w3] := hpin
  have hel : ∀ x ∈ l0, rangeOK Bs_ks (dec x) := hr0
  have hpre : pre_fall [cod l0, c0, c1, c2, c3, c4, c5, c6, c7, c8, c9, c10, c11, c12, c13, c14, c15, w0, w1, w2, w3] := ⟨hv, by show ∀ b ∈ dec (cod l0), _; rw [dec_cod]; exact hel⟩
  simp only [t_FindEach, G_FindEach, s_alive18, s_fall, s_shadow, TX.sat, XB.prop, X.den, List.map_cons, List.map_nil, List.getElem?_cons_zero, List.getElem?_cons_succ, List.cons_append, List.nil_append, List.getD_cons_zero, List.getD_cons_succ, mkS, mkP, and_true, true_and, Int.not_lt, Int.not_le, not_or, not_and, Classical.not_not, ne_eq, not_true_eq_false, not_false_eq_true, sem_alive18, sem_alive, sem_fall, sem_shadow, ex7, L2.den, List.drop_succ_cons, List.drop_zero]
  simp only [dec_cod]
  clear hpin hr0
  refine ⟨fun _ => trivial, fun hlen => ⟨hpre, fun he => ?_, fun he => ?_⟩⟩
  · rw [fall_no he]
    exact ⟨fun _ => trivial, fun h => absurd rfl (h (by decide))⟩
  obtain ⟨hask, hfound⟩ := fall_ok he
  obtain ⟨hall, hwin⟩ := asked_ok hask
  rw [hfound]
  clear hpre
  refine ⟨fun xs => ∃ i : Nat, xs.getD 2 0 = (i : Int) ∧ i ≤ l0.length ∧ xs.getD 1 0 = ((foundU l0 [c0, c1, c2, c3, c4, c5, c6, c7, c8, c9, c10, c11, c12, c13, c14, c15, w0, w1, w2, w3] i).length : Int), fun xs => l0.length - (xs.getD 2 0).toNat, fun xs hx _ => vs_none (n := 3) hx, ⟨0, rfl, by omega, rfl⟩, ?_⟩
  intro xs hx hI
  obtain ⟨d0, d1, d2, rfl⟩ := len3 hx
  obtain ⟨i, hi, hle, ha⟩ := hI
  simp only [List.getD_cons_zero, List.getD_cons_succ, List.cons_append, List.nil_append] at hi ha ⊢
  subst hi ha
  have hco : ∀ x j, (dec x).getD j 0 = co x j := fun _ _ => rfl
  simp only [Int.toNat_natCast, hco, show Int.toNat 0 = 0 from rfl, show Int.toNat 1 = 1 from rfl, show Int.toNat 2 = 2 from rfl, show Int.toNat 3 = 3 from rfl, show Int.toNat 4 = 4 from rfl, show Int.toNat 5 = 5 from rfl]
  refine ⟨fun hlt => ?_, fun hge => ?_⟩
  · have hil : i < l0.length := by omega
    obtain ⟨e0, e1, e2, e3, e4, e5⟩ := six_in (hel _ (mem_at hil))
    have hb : okB (l0.getD i 0) = true := List.all_eq_true.1 hall _ (mem_at hil)
    have hsh : shadowL [c0, c1, c2, c3, c4, c5, c6, c7, c8, c9, c10, c11, c12, c13, c14, c15, co (l0.getD i 0) 0, co (l0.getD i 0) 1, co (l0.getD i 0) 2, co (l0.getD i 0) 3, co (l0.getD i 0) 4, co (l0.getD i 0) 5, w0, w1, w2, w3] = shade (l0.getD i 0) [c0, c1, c2, c3, c4, c5, c6, c7, c8, c9, c10, c11, c12, c13, c14, c15, w0, w1, w2, w3] := rfl
    have h6 := shade_ok hb hwin
    have hsI : showsI (l0.getD i 0) [c0, c1, c2, c3, c4, c5, c6, c7, c8, c9, c10, c11, c12, c13, c14, c15, w0, w1, w2, w3] = true ↔ ¬ (shade (l0.getD i 0) [c0, c1, c2, c3, c4, c5, c6, c7, c8, c9, c10, c11, c12, c13, c14, c15, w0, w1, w2, w3]).getD 5 0 = 0 := by
      simp only [showsI, decide_eq_true_eq, ne_eq]
    have hvs : vsOK pin_shadow [c0, c1, c2, c3, c4, c5, c6, c7, c8, c9, c10, c11, c12, c13, c14, c15, co (l0.getD i 0) 0, co (l0.getD i 0) 1, co (l0.getD i 0) 2, co (l0.getD i 0) 3, co (l0.getD i 0) 4, co (l0.getD i 0) 5, w0, w1, w2, w3] := vsOK_cons (hv.2 1) (vsOK_cons (hv.2 2) (vsOK_cons (hv.2 3) (vsOK_cons (hv.2 4) (vsOK_cons (hv.2 5) (vsOK_cons (hv.2 6) (vsOK_cons (hv.2 7) (vsOK_cons (hv.2 8) (vsOK_cons (hv.2 9) (vsOK_cons (hv.2 10) (vsOK_cons (hv.2 11) (vsOK_cons (hv.2 12) (vsOK_cons (hv.2 13) (vsOK_cons (hv.2 14) (vsOK_cons (hv.2 15) (vsOK_cons (hv.2 16) (vsOK_cons e0 (vsOK_cons e1 (vsOK_cons e2 (vsOK_cons e3 (vsOK_cons e4 (vsOK_cons e5 (vsOK_cons (hv.2 17) (vsOK_cons (hv.2 18) (vsOK_cons (hv.2 19) (vsOK_cons (hv.2 20) vsOK_nil)))))))))))))))))))))))))
    rw [hsh]
    generalize hX : [c0, c1, c2, c3, c4, c5, c6, c7, c8, c9, c10, c11, c12, c13, c14, c15, w0, w1, w2, w3] = X at *
    have hfl := found_len (l := l0) (x := X) i
    have hw2 : IntKind.i64.wrap ((i : Int) + 1) = ((i + 1 : Nat) : Int) := by rw [wrap64 (by omega) (by omega)]; omega
    have hw1 : IntKind.i64.wrap (((foundU l0 X i).length : Int) + 1) = (((foundU l0 X i).length + 1 : Nat) : Int) := by rw [wrap64 (by omega) (by omega)]; omega
    refine ⟨by omega, hvs, ?_⟩
    rw [hw2, hw1]
    by_cases hs : (shade (l0.getD i 0) X).getD 5 0 = 0
    · have hns : foundU l0 X (i + 1) = foundU l0 X i := by rw [found_succ, if_neg (fun h => hsI.1 h hs)]
      refine ⟨fun h => absurd h6 h, fun _ => ⟨.inl (.inl hs), .inl (.inl hs), .inl (.inl hs), .inl (.inl hs), fun h => absurd hs h.1, fun _ => ⟨fun h => absurd hs h, fun _ => ⟨⟨i + 1, rfl, by omega, by rw [hns]⟩, by rw [Int.toNat_natCast]; omega⟩⟩⟩⟩
    · obtain ⟨hlt', hat⟩ := found_at (l := l0) (x := X) hil (hsI.2 hs)
      have hns : (foundU l0 X (i + 1)).length = (foundU l0 X i).length + 1 := by rw [found_succ, if_pos (hsI.2 hs), List.length_append]; rfl
      refine ⟨fun h => absurd h6 h, fun _ => ⟨.inr (by omega), .inr (by omega), .inr (by omega), .inr (by omega), fun h => ?_, fun _ => ⟨fun _ => ⟨⟨i + 1, rfl, by omega, by rw [hns]⟩, by rw [Int.toNat_natCast]; omega⟩, fun h => absurd h hs⟩⟩⟩
      rcases h.2 with h2 | h2
      · omega
      · exact absurd hat h2
  · have : i = l0.length := by omega
    subst this
    exact ⟨fun _ => trivial, fun h => absurd rfl (h (by decide))⟩
set_option maxRecDepth 100000 in
theorem lifted (os : Os) (started : os.Started) (H : Type) (enc : TypeId × Value → H) :
    ReturnsInHanded {} Tryd.checked os 3 .any (fun w args => (Rows.findEachSpec.pre enc Tryd.prog Tryd.f3 Rows.findEachRow.domain false w args ∧ laidMet Tryd.prog [("diorama/frustum.world", Rows.laid_diorama_frustum_world)] w) ∧ sizedMet enc Tryd.prog Tryd.f3 (OpenSpec.ofChange Rows.findEachSpec) false w args) (Rows.findEachSpec.post enc Tryd.prog Tryd.f3 false true false false) := by
  refine returnsInHanded_of_change_and (C := Tryd.checked) (X := fun w _ => laidMet Tryd.prog [("diorama/frustum.world", Rows.laid_diorama_frustum_world)] w) (fun _ _ _ hh h => h.of_heap hh) facts.own started (by kernel_rfl) Tryd.func3
    (ChangeSpec.witness_at (enc := enc) (C := Tryd.checked) (os := os) (X := fun w _ => laidMet Tryd.prog [("diorama/frustum.world", Rows.laid_diorama_frustum_world)] w) false (laidWorld os) #[.slice none 0 0, .agg #[.int .i64 0, .int .i64 0, .int .i64 0, .int .i64 0, .int .i64 0, .int .i64 0, .int .i64 0, .int .i64 0, .int .i64 0, .int .i64 0, .int .i64 0, .int .i64 0, .int .i64 0, .int .i64 0, .int .i64 0, .int .i64 0], .agg #[.int .i64 0, .int .i64 0, .int .i64 0, .int .i64 0]] 8 rfl (by kernel_rfl) (by kernel_rfl) (by kernel_rfl) (by kernel_rfl) (by kernel_rfl) (laidWorld_met os _)) ?_
  intro W base args ds gs before hval0 hW hcnd _ hL _
  have hval : ∀ (j : Nat) t v, Tryd.f3.params[j]? = some t → args[j]? = some v → Value.okWide Tryd.prog W .any base t v := hval0
  have hW' := hW
  obtain ⟨p, q, hA0, hV, rfl, hfz, hnd⟩ := hW
  have hA : DataW.TrodAll enc Tryd.prog W 0 (fun _ => true) true Tryd.f3.params.toList args.toList ds p := hA0
  rw [Tryd.params3] at hA hval
  obtain ⟨v0, vs0, d0, ds0, p0, q0, hargs, rfl, rfl, h0, r0⟩ := trodAll_cons hA
  obtain ⟨v1, vs1, d1, ds1, p1, q1, rfl, rfl, rfl, h1, r1⟩ := trodAll_cons r0
  obtain ⟨v2, vs2, d2, ds2, p2, q2, rfl, rfl, rfl, h2, r2⟩ := trodAll_cons r1
  obtain ⟨rfl, rfl, rfl⟩ := trodAll_nil r2
  obtain rfl : args = #[v0, v1, v2] := by cases args; simp_all
  obtain ⟨rfl, rfl⟩ := trodVars_none hV
  have k0 := h0
  have lt0 : ∀ x ∈ p0, x.block < W.heap.size := by obtain ⟨m, hm⟩ := k0; exact DataW.trod_lt m _ _ _ hm
  have k1 := h1
  have lt1 : ∀ x ∈ p1, x.block < W.heap.size := by obtain ⟨m, hm⟩ := k1; exact DataW.trod_lt m _ _ _ hm
  have k2 := h2
  have lt2 : ∀ x ∈ p2, x.block < W.heap.size := by obtain ⟨m, hm⟩ := k2; exact DataW.trod_lt m _ _ _ hm
  obtain ⟨l0, hs0, hr0⟩ := open_slT (ks := Bs_ks) Tryd.underlying22 (by kernel_rfl) (by kernel_rfl) (hval 0 22 v0 rfl rfl) h0
  obtain ⟨xs1, hv1, hr1⟩ := open_sh (sh := An 16) (by kernel_rfl) (by kernel_rfl) (hval 1 28 v1 rfl rfl) h1
  have hs1 : ShR (fun _ ks u n => SlOK W ks u n) (An 16) v1 xs1 := by rw [hv1]; exact ShR_mk rfl rfl (rangeOK_len hr1)
  obtain ⟨xs2, hv2, hr2⟩ := open_sh (sh := An 4) (by kernel_rfl) (by kernel_rfl) (hval 2 30 v2 rfl rfl) h2
  have hs2 : ShR (fun _ ks u n => SlOK W ks u n) (An 4) v2 xs2 := by rw [hv2]; exact ShR_mk rfl rfl (rangeOK_len hr2)
  clear hA0 hval0
  have hx : ShsR (fun _ ks u n => SlOK W ks u n) [Bs, An 16, An 4] [v0, v1, v2] ([cod l0] ++ (xs1 ++ (xs2 ++ []))) := ⟨_, _, _, _, rfl, rfl, hs0, ⟨_, _, _, _, rfl, rfl, hs1, ⟨_, _, _, _, rfl, rfl, hs2, ⟨rfl, rfl⟩⟩⟩⟩
  have hcalls := lawFL facts.mixed g_FindEach o_FindEach tree_FindEach W hx (pins l0 hr0 xs1 hr1 xs2 hr2) (plain l0 hr0 xs1 hr1 xs2 hr2) (glob_of_laid hL)
  refine hcalls.mono fun e W' ⟨he, bel⟩ => ?_
  subst he
  exact ⟨_, rfl, _, _, _, [], _, [], hW', trodAll_mk1 (shut_bool Tryd.underlying4 _), (trodAll_cons_mk (Below.trod facts.laidOut (by kernel_rfl) (of_decide_eq_true (by kernel_rfl)) k0 bel lt0) (trodAll_cons_mk (Below.trod facts.laidOut (by kernel_rfl) (of_decide_eq_true (by kernel_rfl)) k1 bel lt1) (trodAll_cons_mk (Below.trod facts.laidOut (by kernel_rfl) (of_decide_eq_true (by kernel_rfl)) k2 bel lt2) trodAll_mk0))), rfl, bel.frame _, fun h => by cases h⟩

theorem over : Rows.findEachRow.holds Tryd.pinned (OpenSpec.ofChange Rows.findEachSpec) :=
  OpenClaim.holds_of_wide 3 Tryd.f3 rfl rfl rfl rfl rfl rfl rfl ⟨rfl, rfl, rfl, rfl, rfl⟩ rfl rfl rfl rfl rfl (by kernel_rfl) Tryd.func3
    (facts.joined (by kernel_rfl) (by kernel_rfl) (by kernel_rfl) (by kernel_rfl) (by kernel_rfl) (by kernel_rfl) (by kernel_rfl) rfl rfl rfl rfl)
    (of_decide_eq_true (by kernel_rfl)) (by unfold Func.isWrapper; first | (rw [if_pos (by decide +kernel)]; kernel_rfl) | (rw [if_neg (by decide +kernel)]; exact ⟨rfl, rfl⟩))
    (fun os started H enc _ => lifted os started H enc)

theorem noStand : (Tryd.f3.params.all fun t => !Tryd.prog.wantsStandIn t) = true := by kernel_rfl
/-- THE STATEMENT: the row, its one listed variable tied to the program's text. -/
theorem proved : Rows.FindEachCardSaid :=
  Claim7.holds_tied_plain_at .later [] [.data] true (true, "fe355b6850b09c8680bea1fba1471605f80c9d0ddaacf1e1bebf28d32f60e03f") false over (fun _ h => by cases h) (by kernel_rfl) (fun _ h => by cases h) findEach_row_tie rfl ⟨rfl, rfl⟩ (by kernel_rfl) rfl
    (fun f fn hf hfn => by
      obtain rfl : f = 3 := Option.some.inj ((show Tryd.prog.funcNamed Rows.findEachRow.func = some 3 by kernel_rfl).symm.trans hf) |>.symm
      obtain rfl : fn = Tryd.f3 := (Option.some.inj (Tryd.func3.symm.trans hfn)).symm
      refine ⟨by kernel_rfl, fun j t ht => ?_⟩
      have := Array.all_eq_true_iff_forall_mem.1 noStand t (Array.mem_of_getElem? ht)
      exact (by simpa using this : Tryd.prog.wantsStandIn t = false))
    (by kernel_rfl)
#print axioms proved

end Go.Proofs.YtgcoidbaoigkeaaDoor.findEach
