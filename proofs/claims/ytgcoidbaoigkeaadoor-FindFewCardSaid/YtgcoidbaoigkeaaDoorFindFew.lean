/-
  The law FindFew is answered with true, whatever its arguments, which stay as they were.
-/
import Derived.Test.YtgcoidbaoigkeaaDoorRows
import Derived.Test.YtgcoidbaoigkeaaDoorCards
import Derived.Test.YtgcoidbaoigkeaaDoorTie
import Derived.Test.YtgcoidbaoigkeaaDoorFDoorA
import Derived.SevenTiedAt
import Derived.Test.YtgcoidbaoigkeaaDoorJLook
set_option linter.unusedVariables false
set_option linter.unusedSimpArgs false
namespace Go.Proofs.YtgcoidbaoigkeaaDoor.findFew
open Go.RowKit Go.ChangeShapes Go.WideShapes Go.ChangeAt Go.Sx fix

theorem look_parts {t l x : List Int} (h : lookE t l x = 0) : chkE t l = 0 ∧ askedE l x = 0 := by
  have hC : chkE t l = 0 := by
    unfold lookE at h
    split at h
    · assumption
    · exact h
  refine ⟨hC, ?_⟩
  unfold lookE at h
  rw [if_pos hC] at h
  exact h
theorem asked_parts {l x : List Int} (hA : askedE l x = 0) : (∀ z ∈ l, okB z = true) ∧ windowV x = 0 := by
  unfold askedE at hA
  split at hA
  · split at hA
    · rename_i h
      exact ⟨List.all_eq_true.1 h, hA⟩
    · exact absurd hA (by decide)
  · exact absurd hA (by decide)
theorem all_ok {t l : List Int} (hB : BoxesOK t l) (hl : ∀ x ∈ l, okB x = true) : ∀ {T : BT} {s e : Nat}, T.At t l.length s e → ∀ i, s ≤ i → i < e → okB (t.getD i 0) = true
  | .leaf j, s, e, h, i, h1, h2 => by
    have h' := h
    obtain ⟨rfl, rfl, _⟩ := h
    have : i = s := by omega
    subst this
    exact h'.boxOK hB hl
  | .node j a b, s, e, h, i, h1, h2 => by
    have h' := h
    obtain ⟨rfl, g1, m, g2, g3, _⟩ := h
    by_cases hi : i = s
    · subst hi
      exact h'.boxOK hB hl
    · by_cases hm : i < m
      · exact all_ok hB hl g2 i (by omega) hm
      · exact all_ok hB hl g3 i (by omega) h2
theorem cnt_mono {t x y : List Int} {n : Int} (h : ∀ i, i < t.length → showsI (t.getD i 0) y = true → showsI (t.getD i 0) x = true) : ∀ {T : BT} {s e : Nat}, T.At t n s e → lkCnt t y T ≤ lkCnt t x T
  | .leaf i, s, e, _ => Int.le_refl _
  | .node i a b, s, e, hT => by
    obtain ⟨rfl, g1, m, g2, g3, _⟩ := hT
    have k1 := cnt_mono h g2
    have k2 := cnt_mono h g3
    have n1 := (lkCnt_iv t x a).1
    have n2 := (lkCnt_iv t x b).1
    unfold lkCnt
    by_cases hs : showsI (t.getD s 0) y = true
    · rw [if_pos hs, if_pos (h s g1 hs)]
      omega
    · rw [if_neg hs]
      split <;> omega
theorem few_facts {t l x : List Int} (h : lookE t l x = 0) (hx : x.length = 20) (ht : t.length ≤ 1000) : 0 ≤ seenN t x ∧ seenN t x ≤ t.length ∧ (seenN t x = 0 ↔ t.length = 0) ∧ (0 < t.length → (∀ i, i < t.length → okB (t.getD i 0) = true) ∧ windowV x = 0 ∧ (¬ showsI (t.getD 0 0) x = true → seenN t x = 1)) := by
  obtain ⟨hC, hA⟩ := look_parts h
  obtain ⟨hb, hsh, hB⟩ := chk_spec hC
  obtain ⟨hl, hw⟩ := asked_parts hA
  have hlen := shaped_len hsh
  by_cases h0 : 0 < t.length
  · obtain ⟨T, h1, h2, h3, h4⟩ := shaped_tree hsh (by omega)
    have e1 := h1.le
    have hc := lkCnt_iv t x T
    have hS : seenN t x = lkCnt t x T := by
      unfold seenN
      rw [if_neg (by omega), h1.cnt t.length (by omega)]
    rw [hS]
    refine ⟨by omega, by omega, by omega, fun _ => ⟨fun i hi => all_ok hB hl h1 i (Nat.zero_le _) hi, hw, fun hn => ?_⟩⟩
    exact (lk_hidden (T := T) (by rw [e1.2.1]; exact hn)).2
  · have : t.length = 0 := by omega
    have hS : seenN t x = 0 := by unfold seenN; rw [if_pos this]
    rw [hS]
    refine ⟨by omega, by omega, by omega, fun h => absurd h h0⟩
theorem few_small {t l x y : List Int} (h : lookE t l x = 0) (k : lookE t l y = 0) (hm : ∀ b, okB b = true → showsI b y = true → showsI b x = true) : seenN t y ≤ seenN t x ∧ ∀ z ∈ foundU l y l.length, z ∈ foundU l x l.length := by
  obtain ⟨hC, hA⟩ := look_parts h
  obtain ⟨hb, hsh, hB⟩ := chk_spec hC
  obtain ⟨hl, hw⟩ := asked_parts hA
  have hlen := shaped_len hsh
  refine ⟨?_, fun z hz => ?_⟩
  · by_cases h0 : 0 < t.length
    · obtain ⟨T, h1, h2, h3, h4⟩ := shaped_tree hsh (by omega)
      have e1 := h1.le
      have hS : ∀ x, seenN t x = lkCnt t x T := fun x => by
        unfold seenN
        rw [if_neg (by omega), h1.cnt t.length (by omega)]
      rw [hS, hS]
      exact cnt_mono (fun i hi hs => hm _ (all_ok hB hl h1 i (Nat.zero_le _) hi) hs) h1
    · have : t.length = 0 := by omega
      unfold seenN
      rw [if_pos this, if_pos this]
      exact Int.le_refl _
  · rw [foundU_iff] at hz ⊢
    obtain ⟨j, hj, he, hs⟩ := hz
    exact ⟨j, hj, he, hm _ (hl _ (mem_at hj)) hs⟩
theorem showsI_win {b c0 c1 c2 c3 c4 c5 c6 c7 c8 c9 c10 c11 c12 c13 c14 c15 w0 w1 w2 w3 u0 u1 u2 u3 : Int} (hX : windowV [c0, c1, c2, c3, c4, c5, c6, c7, c8, c9, c10, c11, c12, c13, c14, c15, w0, w1, w2, w3] = 0) (hY : windowV [c0, c1, c2, c3, c4, c5, c6, c7, c8, c9, c10, c11, c12, c13, c14, c15, u0, u1, u2, u3] = 0) (hb : okB b = true) (h : w0 ≤ u0 ∧ w1 ≤ u1 ∧ u2 ≤ w2 ∧ u3 ≤ w3) (hs : showsI b [c0, c1, c2, c3, c4, c5, c6, c7, c8, c9, c10, c11, c12, c13, c14, c15, u0, u1, u2, u3] = true) : showsI b [c0, c1, c2, c3, c4, c5, c6, c7, c8, c9, c10, c11, c12, c13, c14, c15, w0, w1, w2, w3] = true := by
  obtain ⟨_, h2⟩ := amid_ok rfl hY hb
  obtain ⟨_, h4⟩ := amid_ok rfl hX hb
  rw [h2] at hs
  rw [h4]
  exact shows_windows _ _ _ _ _ _ _ _ _ _ _ _ _ _ _ _ _ _ _ _ _ _ _ _ _ _ _ _ _ _ h hs
noncomputable def G_FindFew : List Sum := [s_alive18, s_fseen, s_shadow, s_query]
def I_FindFew : List Inf := [i_alive18, i_fseen, i_shadow, i_query]
def t_FindFew : TX := (.callp 0 [] (.ite (.or (.lt (.c 1000) (.ln (.v 0))) (.lt (.c 400) (.ln (.v 1)))) (.ret [(.c 1)])
(.call 1 [(.v 0), (.v 1), (.v 2), (.v 3), (.v 4), (.v 5), (.v 6), (.v 7), (.v 8), (.v 9), (.v 10), (.v 11), (.v 12), (.v 13), (.v 14), (.v 15), (.v 16), (.v 17), (.v 18), (.v 19), (.v 20), (.v 21)] (.ite (.not (.eq (.v 28) (.c 0))) (.ite (.and (.nz (.v 26)) (.eq (.v 27) (.c 0))) (.ret [(.c 1)])
(.ret [(.c 0)]))
(.ite (.or (.lt (.ln (.v 0)) (.v 27)) (.not (.iff (.eq (.v 27) (.c 0)) (.eq (.ln (.v 0)) (.c 0))))) (.ret [(.c 0)])
(.ite (.lt (.c 0) (.v 27)) (.asrt (.lt (.c 0) (.ln (.v 0))) (.call 2 [(.v 2), (.v 3), (.v 4), (.v 5), (.v 6), (.v 7), (.v 8), (.v 9), (.v 10), (.v 11), (.v 12), (.v 13), (.v 14), (.v 15), (.v 16), (.v 17), (.l2 .at (.l2 .at (.v 0) (.c 0)) (.c 0)), (.l2 .at (.l2 .at (.v 0) (.c 0)) (.c 1)), (.l2 .at (.l2 .at (.v 0) (.c 0)) (.c 2)), (.l2 .at (.l2 .at (.v 0) (.c 0)) (.c 3)), (.l2 .at (.l2 .at (.v 0) (.c 0)) (.c 4)), (.l2 .at (.l2 .at (.v 0) (.c 0)) (.c 5)), (.v 18), (.v 19), (.v 20), (.v 21)] (.ite (.or (.not (.eq (.v 35) (.c 0))) (.and (.eq (.v 34) (.c 0)) (.not (.eq (.v 27) (.c 1))))) (.ret [(.c 0)])
(.call 1 [(.v 0), (.v 1), (.v 2), (.v 3), (.v 4), (.v 5), (.v 6), (.v 7), (.v 8), (.v 9), (.v 10), (.v 11), (.v 12), (.v 13), (.v 14), (.v 15), (.v 16), (.v 17), (.v 22), (.v 23), (.v 24), (.v 25)] (.ite (.or (.or (.or (.or (.not (.eq (.v 37) (.c 0))) (.lt (.v 22) (.v 18))) (.lt (.v 20) (.v 24))) (.lt (.v 23) (.v 19))) (.lt (.v 21) (.v 25))) (.ret [(.c 1)])
(.call 3 [(.v 0), (.v 1), (.v 2), (.v 3), (.v 4), (.v 5), (.v 6), (.v 7), (.v 8), (.v 9), (.v 10), (.v 11), (.v 12), (.v 13), (.v 14), (.v 15), (.v 16), (.v 17), (.v 18), (.v 19), (.v 20), (.v 21)] (.call 3 [(.v 0), (.v 1), (.v 2), (.v 3), (.v 4), (.v 5), (.v 6), (.v 7), (.v 8), (.v 9), (.v 10), (.v 11), (.v 12), (.v 13), (.v 14), (.v 15), (.v 16), (.v 17), (.v 22), (.v 23), (.v 24), (.v 25)] (.loop 2 [none, none] [(.c 0), (.c 0)] (.ite (.lt (.v 43) (.ln (.v 40))) (.loop 2 [none, none] [(.c 0), (.c 0)] (.ite (.lt (.v 45) (.ln (.v 38))) (.ite (.nz (.v 44)) (.back 1 [(.c 1), (.wr .i64 (.add (.v 45) (.c 1)))])
(.asrt (.le (.c 0) (.v 45)) (.asrt (.le (.c 0) (.v 43)) (.ite (.eq (.l2 .at (.v 38) (.v 45)) (.l2 .at (.v 40) (.v 43))) (.back 1 [(.c 1), (.wr .i64 (.add (.v 45) (.c 1)))])
(.back 1 [(.c 0), (.wr .i64 (.add (.v 45) (.c 1)))])))))
(.ite (.eq (.v 44) (.c 0)) (.ret [(.c 0)])
(.back 0 [(.v 42), (.wr .i64 (.add (.v 43) (.c 1)))]))))
(.ite (.and (.and (.and (.nz (.v 26)) (.eq (.v 39) (.c 0))) (.eq (.v 41) (.c 0))) (.le (.v 36) (.v 27))) (.ret [(.c 1)])
(.ret [(.c 0)])))))))))))
(.call 1 [(.v 0), (.v 1), (.v 2), (.v 3), (.v 4), (.v 5), (.v 6), (.v 7), (.v 8), (.v 9), (.v 10), (.v 11), (.v 12), (.v 13), (.v 14), (.v 15), (.v 16), (.v 17), (.v 22), (.v 23), (.v 24), (.v 25)] (.ite (.or (.or (.or (.or (.not (.eq (.v 30) (.c 0))) (.lt (.v 22) (.v 18))) (.lt (.v 20) (.v 24))) (.lt (.v 23) (.v 19))) (.lt (.v 21) (.v 25))) (.ret [(.c 1)])
(.call 3 [(.v 0), (.v 1), (.v 2), (.v 3), (.v 4), (.v 5), (.v 6), (.v 7), (.v 8), (.v 9), (.v 10), (.v 11), (.v 12), (.v 13), (.v 14), (.v 15), (.v 16), (.v 17), (.v 18), (.v 19), (.v 20), (.v 21)] (.call 3 [(.v 0), (.v 1), (.v 2), (.v 3), (.v 4), (.v 5), (.v 6), (.v 7), (.v 8), (.v 9), (.v 10), (.v 11), (.v 12), (.v 13), (.v 14), (.v 15), (.v 16), (.v 17), (.v 22), (.v 23), (.v 24), (.v 25)] (.loop 2 [none, none] [(.c 0), (.c 0)] (.ite (.lt (.v 36) (.ln (.v 33))) (.loop 2 [none, none] [(.c 0), (.c 0)] (.ite (.lt (.v 38) (.ln (.v 31))) (.ite (.nz (.v 37)) (.back 1 [(.c 1), (.wr .i64 (.add (.v 38) (.c 1)))])
(.asrt (.le (.c 0) (.v 38)) (.asrt (.le (.c 0) (.v 36)) (.ite (.eq (.l2 .at (.v 31) (.v 38)) (.l2 .at (.v 33) (.v 36))) (.back 1 [(.c 1), (.wr .i64 (.add (.v 38) (.c 1)))])
(.back 1 [(.c 0), (.wr .i64 (.add (.v 38) (.c 1)))])))))
(.ite (.eq (.v 37) (.c 0)) (.ret [(.c 0)])
(.back 0 [(.v 35), (.wr .i64 (.add (.v 36) (.c 1)))]))))
(.ite (.and (.and (.and (.nz (.v 26)) (.eq (.v 32) (.c 0))) (.eq (.v 34) (.c 0))) (.le (.v 29) (.v 27))) (.ret [(.c 1)])
(.ret [(.c 0)]))))))))))))))
theorem tree_FindFew : merge (optFL [] I_FindFew [] ([none, none] ++ zs 24) (symFnL Tryd.prog (openAt Tryd.prog [(21, 147), (25, 153)]) gl0 G_FindFew 1000 5 [Tr, Bs, An 16, An 4, An 4] [Bo])) = t_FindFew := by kernel_rfl
theorem g_FindFew : Gok Tryd.prog G_FindFew := (more ok_alive18 (more ok_fseen (more ok_shadow (fix.one ok_query))))
theorem o_FindFew : outsOK G_FindFew I_FindFew := (outsOK_cons inf_alive18 (outsOK_cons inf_fseen (outsOK_cons inf_shadow (outsOK_cons inf_query outsOK_nil))))
theorem pins (l0 : List Int) (hr0 : ∀ x ∈ l0, rangeOK Br_ks (elt Br_ks x)) (l1 : List Int) (hr1 : ∀ x ∈ l1, rangeOK Bs_ks (elt Bs_ks x)) (xs2 : List Int) (hr2 : rangeOK (An 16).ks xs2) (xs3 : List Int) (hr3 : rangeOK (An 4).ks xs3) (xs4 : List Int) (hr4 : rangeOK (An 4).ks xs4) : vsOK ([none, none] ++ zs 24) ([cod l0] ++ ([cod l1] ++ (xs2 ++ (xs3 ++ (xs4 ++ []))))) := by
  obtain ⟨h2, i2⟩ := An_inv hr2
  obtain ⟨c0, c1, c2, c3, c4, c5, c6, c7, c8, c9, c10, c11, c12, c13, c14, c15, rfl⟩ := len16 h2
  obtain ⟨h3, i3⟩ := An_inv hr3
  obtain ⟨w0, w1, w2, w3, rfl⟩ := len4 h3
  obtain ⟨h4, i4⟩ := An_inv hr4
  obtain ⟨u0, u1, u2, u3, rfl⟩ := len4 h4
  have v2 := range_vs hr2
  have v3 := range_vs hr3
  have v4 := range_vs hr4
  exact vsOK_cons trivial (vsOK_cons trivial (vsOK_cons (v2.2 0) (vsOK_cons (v2.2 1) (vsOK_cons (v2.2 2) (vsOK_cons (v2.2 3) (vsOK_cons (v2.2 4) (vsOK_cons (v2.2 5) (vsOK_cons (v2.2 6) (vsOK_cons (v2.2 7) (vsOK_cons (v2.2 8) (vsOK_cons (v2.2 9) (vsOK_cons (v2.2 10) (vsOK_cons (v2.2 11) (vsOK_cons (v2.2 12) (vsOK_cons (v2.2 13) (vsOK_cons (v2.2 14) (vsOK_cons (v2.2 15) (vsOK_cons (v3.2 0) (vsOK_cons (v3.2 1) (vsOK_cons (v3.2 2) (vsOK_cons (v3.2 3) (vsOK_cons (v4.2 0) (vsOK_cons (v4.2 1) (vsOK_cons (v4.2 2) (vsOK_cons (v4.2 3) (vsOK_nil))))))))))))))))))))))))))
theorem plain (l0 : List Int) (hr0 : ∀ x ∈ l0, rangeOK Br_ks (elt Br_ks x)) (l1 : List Int) (hr1 : ∀ x ∈ l1, rangeOK Bs_ks (elt Bs_ks x)) (xs2 : List Int) (hr2 : rangeOK (An 16).ks xs2) (xs3 : List Int) (hr3 : rangeOK (An 4).ks xs3) (xs4 : List Int) (hr4 : rangeOK (An 4).ks xs4) : t_FindFew.sat G_FindFew [] (fun ys => ys = [1]) [] ([cod l0] ++ ([cod l1] ++ (xs2 ++ (xs3 ++ (xs4 ++ []))))) := by
  have hv := pins l0 hr0 l1 hr1 xs2 hr2 xs3 hr3 xs4 hr4
  obtain ⟨h2, i2⟩ := An_inv hr2
  obtain ⟨c0, c1, c2, c3, c4, c5, c6, c7, c8, c9, c10, c11, c12, c13, c14, c15, rfl⟩ := len16 h2
  obtain ⟨h3, i3⟩ := An_inv hr3
  obtain ⟨w0, w1, w2, w3, rfl⟩ := len4 h3
  obtain ⟨h4, i4⟩ := An_inv hr4
  obtain ⟨u0, u1, u2, u3, rfl⟩ := len4 h4
  clear i2 i3 i4 h2 h3 h4 hr2 hr3 hr4
  have hel0 : ∀ x ∈ l0, rangeOK Br_ks (dec x) := hr0
  have hel1 : ∀ x ∈ l1, rangeOK Bs_ks (dec x) := hr1
  simp only [t_FindFew, G_FindFew, s_alive18, s_fseen, s_shadow, s_query, TX.sat, XB.prop, X.den, List.map_cons, List.map_nil, List.getElem?_cons_zero, List.getElem?_cons_succ, List.cons_append, List.nil_append, List.getD_cons_zero, List.getD_cons_succ, mkS, mkP, and_true, true_and, Int.not_lt, Int.not_le, not_or, not_and, Classical.not_not, ne_eq, not_true_eq_false, not_false_eq_true, sem_alive18, sem_alive, sem_fseen, sem_query, sem_shadow, sem_look_eq, ex7, List.drop_succ_cons, List.drop_zero, L2.den, dec_cod]
  refine ⟨fun _ => trivial, fun hbig => ?_⟩
  have hl0 : l0.length ≤ 1000 := by omega
  have hl1 : l1.length ≤ 400 := by omega
  have hq : pre_look [cod l0, cod l1, c0, c1, c2, c3, c4, c5, c6, c7, c8, c9, c10, c11, c12, c13, c14, c15, w0, w1, w2, w3] := ⟨vsOK_cons trivial (vsOK_cons trivial (vsOK_cons (hv.2 2) (vsOK_cons (hv.2 3) (vsOK_cons (hv.2 4) (vsOK_cons (hv.2 5) (vsOK_cons (hv.2 6) (vsOK_cons (hv.2 7) (vsOK_cons (hv.2 8) (vsOK_cons (hv.2 9) (vsOK_cons (hv.2 10) (vsOK_cons (hv.2 11) (vsOK_cons (hv.2 12) (vsOK_cons (hv.2 13) (vsOK_cons (hv.2 14) (vsOK_cons (hv.2 15) (vsOK_cons (hv.2 16) (vsOK_cons (hv.2 17) (vsOK_cons (hv.2 18) (vsOK_cons (hv.2 19) (vsOK_cons (hv.2 20) (vsOK_cons (hv.2 21) (vsOK_nil)))))))))))))))))))))), ⟨by show (dec (cod l0)).length ≤ 1000; rw [dec_cod]; exact hl0, by show (dec (cod l1)).length ≤ 1000; rw [dec_cod]; omega⟩, by show ∀ b ∈ dec (cod l0), _; rw [dec_cod]; exact hel0, by show ∀ b ∈ dec (cod l1), _; rw [dec_cod]; exact hel1⟩
  have hu : pre_look [cod l0, cod l1, c0, c1, c2, c3, c4, c5, c6, c7, c8, c9, c10, c11, c12, c13, c14, c15, u0, u1, u2, u3] := ⟨vsOK_cons trivial (vsOK_cons trivial (vsOK_cons (hv.2 2) (vsOK_cons (hv.2 3) (vsOK_cons (hv.2 4) (vsOK_cons (hv.2 5) (vsOK_cons (hv.2 6) (vsOK_cons (hv.2 7) (vsOK_cons (hv.2 8) (vsOK_cons (hv.2 9) (vsOK_cons (hv.2 10) (vsOK_cons (hv.2 11) (vsOK_cons (hv.2 12) (vsOK_cons (hv.2 13) (vsOK_cons (hv.2 14) (vsOK_cons (hv.2 15) (vsOK_cons (hv.2 16) (vsOK_cons (hv.2 17) (vsOK_cons (hv.2 22) (vsOK_cons (hv.2 23) (vsOK_cons (hv.2 24) (vsOK_cons (hv.2 25) (vsOK_nil)))))))))))))))))))))), hq.2⟩
  have hzz : 0 < l0.length → vsOK pin_shadow [c0, c1, c2, c3, c4, c5, c6, c7, c8, c9, c10, c11, c12, c13, c14, c15, co (l0.getD 0 0) 0, co (l0.getD 0 0) 1, co (l0.getD 0 0) 2, co (l0.getD 0 0) 3, co (l0.getD 0 0) 4, co (l0.getD 0 0) 5, w0, w1, w2, w3] := fun h0 => by
    have hz := range_vs (hel0 _ (mem_at (l := l0) (i := 0) h0))
    have z0 : ivHas zz (co (l0.getD 0 0) 0) := hz.2 0
    have z1 : ivHas zz (co (l0.getD 0 0) 1) := hz.2 1
    have z2 : ivHas zz (co (l0.getD 0 0) 2) := hz.2 2
    have z3 : ivHas zz (co (l0.getD 0 0) 3) := hz.2 3
    have z4 : ivHas zz (co (l0.getD 0 0) 4) := hz.2 4
    have z5 : ivHas zz (co (l0.getD 0 0) 5) := hz.2 5
    exact vsOK_cons (hv.2 2) (vsOK_cons (hv.2 3) (vsOK_cons (hv.2 4) (vsOK_cons (hv.2 5) (vsOK_cons (hv.2 6) (vsOK_cons (hv.2 7) (vsOK_cons (hv.2 8) (vsOK_cons (hv.2 9) (vsOK_cons (hv.2 10) (vsOK_cons (hv.2 11) (vsOK_cons (hv.2 12) (vsOK_cons (hv.2 13) (vsOK_cons (hv.2 14) (vsOK_cons (hv.2 15) (vsOK_cons (hv.2 16) (vsOK_cons (hv.2 17) (vsOK_cons z0 (vsOK_cons z1 (vsOK_cons z2 (vsOK_cons z3 (vsOK_cons z4 (vsOK_cons z5 (vsOK_cons (hv.2 18) (vsOK_cons (hv.2 19) (vsOK_cons (hv.2 20) (vsOK_cons (hv.2 21) (vsOK_nil))))))))))))))))))))))))))
  have hwin : ∀ b, windowV [c0, c1, c2, c3, c4, c5, c6, c7, c8, c9, c10, c11, c12, c13, c14, c15, w0, w1, w2, w3] = 0 → windowV [c0, c1, c2, c3, c4, c5, c6, c7, c8, c9, c10, c11, c12, c13, c14, c15, u0, u1, u2, u3] = 0 → okB b = true → (w0 ≤ u0 ∧ w1 ≤ u1 ∧ u2 ≤ w2 ∧ u3 ≤ w3) → showsI b [c0, c1, c2, c3, c4, c5, c6, c7, c8, c9, c10, c11, c12, c13, c14, c15, u0, u1, u2, u3] = true → showsI b [c0, c1, c2, c3, c4, c5, c6, c7, c8, c9, c10, c11, c12, c13, c14, c15, w0, w1, w2, w3] = true := fun b h1 h2 h3 h4 h5 => showsI_win h1 h2 h3 h4 h5
  have hsh : ∀ b : Int, shadowL [c0, c1, c2, c3, c4, c5, c6, c7, c8, c9, c10, c11, c12, c13, c14, c15, co b 0, co b 1, co b 2, co b 3, co b 4, co b 5, w0, w1, w2, w3] = shade b [c0, c1, c2, c3, c4, c5, c6, c7, c8, c9, c10, c11, c12, c13, c14, c15, w0, w1, w2, w3] := fun _ => rfl
  have hco : ∀ x j, (dec x).getD j 0 = co x j := fun _ _ => rfl
  simp only [hco, show Int.toNat 0 = 0 from rfl, show Int.toNat 1 = 1 from rfl, show Int.toNat 2 = 2 from rfl, show Int.toNat 3 = 3 from rfl, show Int.toNat 4 = 4 from rfl, show Int.toNat 5 = 5 from rfl, hsh]
  have hX20 : ([c0, c1, c2, c3, c4, c5, c6, c7, c8, c9, c10, c11, c12, c13, c14, c15, w0, w1, w2, w3] : List Int).length = 20 := rfl
  have hY20 : ([c0, c1, c2, c3, c4, c5, c6, c7, c8, c9, c10, c11, c12, c13, c14, c15, u0, u1, u2, u3] : List Int).length = 20 := rfl
  clear hv hbig hr0 hr1 hsh
  generalize hXd : [c0, c1, c2, c3, c4, c5, c6, c7, c8, c9, c10, c11, c12, c13, c14, c15, w0, w1, w2, w3] = Xs at hq hzz hwin hX20 ⊢
  generalize hYd : [c0, c1, c2, c3, c4, c5, c6, c7, c8, c9, c10, c11, c12, c13, c14, c15, u0, u1, u2, u3] = Ys at hu hwin hY20 ⊢
  simp only [lookL_two]
  have hL : ∀ z, lookL l0 l1 z = if lookE l0 l1 z = 0 then [cod (foundU l1 z l1.length), seenN l0 z, 0] else [cod [], 0, lookE l0 l1 z] := fun _ => rfl
  refine ⟨hq, fun hE => ?_, fun hE => ?_⟩
  · rw [hL, if_neg hE]
    exact ⟨fun _ => trivial, fun h => (h (by decide) rfl).elim⟩
  obtain ⟨f0, f1, f2, f3⟩ := few_facts hE hX20 hl0
  have hL1 : (lookL l0 l1 Xs).getD 1 0 = seenN l0 Xs := by rw [hL, if_pos hE]; rfl
  have hL0 : (lookL l0 l1 Xs).getD 0 0 = cod (foundU l1 Xs l1.length) := by rw [hL, if_pos hE]; rfl
  rw [hL1, hL0]
  have hfin : ∀ (_ : lookE l0 l1 Ys = 0 ∧ w0 ≤ u0 ∧ u2 ≤ w2 ∧ w1 ≤ u1 ∧ u3 ≤ w3), (lookL l0 l1 Ys).getD 0 0 = cod (foundU l1 Ys l1.length) ∧ (lookL l0 l1 Ys).getD 1 0 ≤ seenN l0 Xs ∧ ∀ z ∈ foundU l1 Ys l1.length, z ∈ foundU l1 Xs l1.length := by
    rintro ⟨hEy, h1, h2, h3, h4⟩
    obtain ⟨_, hA⟩ := look_parts hE
    obtain ⟨_, hB⟩ := look_parts hEy
    obtain ⟨_, hwX⟩ := asked_parts hA
    obtain ⟨_, hwY⟩ := asked_parts hB
    obtain ⟨s1, s2⟩ := few_small hE hEy (fun b hb hs => hwin b hwX hwY hb ⟨h1, h3, h2, h4⟩ hs)
    refine ⟨by rw [hL, if_pos hEy]; rfl, ?_, s2⟩
    rw [hL, if_pos hEy]
    exact s1
  have hlenA := found_len (l := l1) (x := Xs) l1.length
  have hlenB := found_len (l := l1) (x := Ys) l1.length
  refine ⟨fun hbad => ?_, fun _ => ⟨fun hpos => ⟨by omega, hzz (by omega), fun hbad => ?_, fun hok => ?_⟩, fun hz => ?_⟩⟩
  · exfalso
    rcases hbad with h | h
    · omega
    · exact h (by rw [f2]; omega)
  · exfalso
    obtain ⟨g1, g2, g3⟩ := f3 (by omega)
    obtain ⟨g4, g5⟩ := amid_ok hX20 g2 (g1 0 (by omega))
    rcases hbad with h | ⟨h, h'⟩
    · exact h g4
    · exact h' (g3 (by simp only [showsI, decide_eq_true_eq]; exact fun hh => hh h))
  all_goals
    refine ⟨hu, fun _ => trivial, fun hin => ⟨hq, hu, ?_⟩⟩
    obtain ⟨q1, q2, q3⟩ := hfin ⟨hin.1.1.1.1, hin.1.1.1.2, hin.1.1.2, hin.1.2, hin.2⟩
    rw [q1]
    simp only [dec_cod, co_cod]
    generalize foundU l1 Xs l1.length = A at *
    generalize foundU l1 Ys l1.length = B at *
    refine ⟨fun xs => ∃ k : Nat, xs.getD 1 0 = (k : Int) ∧ k ≤ B.length, fun xs => B.length - (xs.getD 1 0).toNat, fun xs hx _ => vs_none (n := 2) hx, ⟨0, rfl, by omega⟩, ?_⟩
    intro xs hx hI
    obtain ⟨d0, d1, rfl⟩ := len2 hx
    obtain ⟨k, hk, hkl⟩ := hI
    simp only [List.getD_cons_zero, List.getD_cons_succ, List.cons_append, List.nil_append] at hk ⊢
    subst hk
    refine ⟨fun hlt => ?_, fun hge => ?_⟩
    · refine ⟨fun ys => ∃ z : Nat, ys.getD 1 0 = (z : Int) ∧ z ≤ A.length ∧ (ys.getD 0 0 = 0 → ∀ j, j < z → A.getD j 0 ≠ B.getD k 0), fun ys => A.length - (ys.getD 1 0).toNat, fun ys hy _ => vs_none (n := 2) hy, ⟨0, rfl, by omega, fun _ j hj => by omega⟩, ?_⟩
      intro ys hy hJ
      obtain ⟨e0, e1, rfl⟩ := len2 hy
      obtain ⟨z, hz1, hzl, hno⟩ := hJ
      simp only [List.getD_cons_zero, List.getD_cons_succ, List.cons_append, List.nil_append] at hz1 hno ⊢
      subst hz1
      have hw : IntKind.i64.wrap ((z : Int) + 1) = ((z + 1 : Nat) : Int) := by rw [wrap64 (by omega) (by omega)]; omega
      have hwk : IntKind.i64.wrap ((k : Int) + 1) = ((k + 1 : Nat) : Int) := by rw [wrap64 (by omega) (by omega)]; omega
      simp only [hw, hwk, Int.toNat_natCast]
      refine ⟨fun hlz => ⟨fun _ => ⟨⟨z + 1, rfl, by omega, fun h => absurd h (by decide)⟩, by omega⟩, fun h0 => ⟨by omega, by omega, fun _ => ⟨⟨z + 1, rfl, by omega, fun h => absurd h (by decide)⟩, by omega⟩, fun hne => ⟨⟨z + 1, rfl, by omega, fun _ j hj => ?_⟩, by omega⟩⟩⟩, fun hgz => ⟨fun h0 => ?_, fun _ => ⟨⟨k + 1, rfl, by omega⟩, by omega⟩⟩⟩
      · rcases Nat.lt_or_ge j z with h1 | h1
        · exact hno h0 j h1
        · have : j = z := by omega
          subst this
          exact hne
      · exfalso
        have hmem := q3 _ (mem_at (l := B) (i := k) (by omega))
        obtain ⟨j, hj, he⟩ := List.getElem_of_mem hmem
        refine hno h0 j (by omega) ?_
        rw [← he]
        simp [List.getD, hj]
    · refine ⟨fun _ => trivial, fun h => ?_⟩
      have := h ⟨⟨by decide, hE⟩, hin.1.1.1.1⟩
      omega
set_option maxRecDepth 100000 in
theorem lifted (os : Os) (started : os.Started) (H : Type) (enc : TypeId × Value → H) :
    ReturnsInHanded {} Tryd.checked os 5 .any (fun w args => (Rows.findFewSpec.pre enc Tryd.prog Tryd.f5 Rows.findFewRow.domain false w args ∧ laidMet Tryd.prog [("diorama/frustum.world", Rows.laid_diorama_frustum_world)] w) ∧ sizedMet enc Tryd.prog Tryd.f5 (OpenSpec.ofChange Rows.findFewSpec) false w args) (Rows.findFewSpec.post enc Tryd.prog Tryd.f5 false true false false) := by
  refine returnsInHanded_of_change_and (C := Tryd.checked) (X := fun w _ => laidMet Tryd.prog [("diorama/frustum.world", Rows.laid_diorama_frustum_world)] w) (fun _ _ _ hh h => h.of_heap hh) facts.own started (by kernel_rfl) Tryd.func5
    (ChangeSpec.witness_at (enc := enc) (C := Tryd.checked) (os := os) (X := fun w _ => laidMet Tryd.prog [("diorama/frustum.world", Rows.laid_diorama_frustum_world)] w) false (laidWorld os) #[.agg #[.slice none 0 0], .slice none 0 0, .agg #[.int .i64 0, .int .i64 0, .int .i64 0, .int .i64 0, .int .i64 0, .int .i64 0, .int .i64 0, .int .i64 0, .int .i64 0, .int .i64 0, .int .i64 0, .int .i64 0, .int .i64 0, .int .i64 0, .int .i64 0, .int .i64 0], .agg #[.int .i64 0, .int .i64 0, .int .i64 0, .int .i64 0], .agg #[.int .i64 0, .int .i64 0, .int .i64 0, .int .i64 0]] 8 rfl (by kernel_rfl) (by kernel_rfl) (by kernel_rfl) (by kernel_rfl) (by kernel_rfl) (laidWorld_met os _)) ?_
  intro W base args ds gs before hval0 hW hcnd _ hL _
  have hval : ∀ (j : Nat) t v, Tryd.f5.params[j]? = some t → args[j]? = some v → Value.okWide Tryd.prog W .any base t v := hval0
  have hW' := hW
  obtain ⟨p, q, hA0, hV, rfl, hfz, hnd⟩ := hW
  have hA : DataW.TrodAll enc Tryd.prog W 0 (fun _ => true) true Tryd.f5.params.toList args.toList ds p := hA0
  rw [Tryd.params5] at hA hval
  obtain ⟨v0, vs0, d0, ds0, p0, q0, hargs, rfl, rfl, h0, r0⟩ := trodAll_cons hA
  obtain ⟨v1, vs1, d1, ds1, p1, q1, rfl, rfl, rfl, h1, r1⟩ := trodAll_cons r0
  obtain ⟨v2, vs2, d2, ds2, p2, q2, rfl, rfl, rfl, h2, r2⟩ := trodAll_cons r1
  obtain ⟨v3, vs3, d3, ds3, p3, q3, rfl, rfl, rfl, h3, r3⟩ := trodAll_cons r2
  obtain ⟨v4, vs4, d4, ds4, p4, q4, rfl, rfl, rfl, h4, r4⟩ := trodAll_cons r3
  obtain ⟨rfl, rfl, rfl⟩ := trodAll_nil r4
  obtain rfl : args = #[v0, v1, v2, v3, v4] := by cases args; simp_all
  obtain ⟨rfl, rfl⟩ := trodVars_none hV
  have k0 := h0
  have lt0 : ∀ x ∈ p0, x.block < W.heap.size := by obtain ⟨m, hm⟩ := k0; exact DataW.trod_lt m _ _ _ hm
  have k1 := h1
  have lt1 : ∀ x ∈ p1, x.block < W.heap.size := by obtain ⟨m, hm⟩ := k1; exact DataW.trod_lt m _ _ _ hm
  have k2 := h2
  have lt2 : ∀ x ∈ p2, x.block < W.heap.size := by obtain ⟨m, hm⟩ := k2; exact DataW.trod_lt m _ _ _ hm
  have k3 := h3
  have lt3 : ∀ x ∈ p3, x.block < W.heap.size := by obtain ⟨m, hm⟩ := k3; exact DataW.trod_lt m _ _ _ hm
  have k4 := h4
  have lt4 : ∀ x ∈ p4, x.block < W.heap.size := by obtain ⟨m, hm⟩ := k4; exact DataW.trod_lt m _ _ _ hm
  obtain ⟨l0, hs0, hr0⟩ := open_st1 (ks := Br_ks) Tryd.underlying45 rfl (by kernel_rfl) (by kernel_rfl) (by kernel_rfl) Tryd.underlying43 (by kernel_rfl) (by kernel_rfl) (hval 0 45 v0 rfl rfl) h0
  obtain ⟨l1, hs1, hr1⟩ := open_slT (ks := Bs_ks) Tryd.underlying22 (by kernel_rfl) (by kernel_rfl) (hval 1 22 v1 rfl rfl) h1
  obtain ⟨xs2, hv2, hr2⟩ := open_sh (sh := An 16) (by kernel_rfl) (by kernel_rfl) (hval 2 28 v2 rfl rfl) h2
  have hs2 : ShR (fun _ ks u n => SlOK W ks u n) (An 16) v2 xs2 := by rw [hv2]; exact ShR_mk rfl rfl (rangeOK_len hr2)
  obtain ⟨xs3, hv3, hr3⟩ := open_sh (sh := An 4) (by kernel_rfl) (by kernel_rfl) (hval 3 30 v3 rfl rfl) h3
  have hs3 : ShR (fun _ ks u n => SlOK W ks u n) (An 4) v3 xs3 := by rw [hv3]; exact ShR_mk rfl rfl (rangeOK_len hr3)
  obtain ⟨xs4, hv4, hr4⟩ := open_sh (sh := An 4) (by kernel_rfl) (by kernel_rfl) (hval 4 30 v4 rfl rfl) h4
  have hs4 : ShR (fun _ ks u n => SlOK W ks u n) (An 4) v4 xs4 := by rw [hv4]; exact ShR_mk rfl rfl (rangeOK_len hr4)
  clear hA0 hval0
  have hx : ShsR (fun _ ks u n => SlOK W ks u n) [Tr, Bs, An 16, An 4, An 4] [v0, v1, v2, v3, v4] ([cod l0] ++ ([cod l1] ++ (xs2 ++ (xs3 ++ (xs4 ++ []))))) := ⟨_, _, _, _, rfl, rfl, hs0, ⟨_, _, _, _, rfl, rfl, hs1, ⟨_, _, _, _, rfl, rfl, hs2, ⟨_, _, _, _, rfl, rfl, hs3, ⟨_, _, _, _, rfl, rfl, hs4, ⟨rfl, rfl⟩⟩⟩⟩⟩⟩
  have hcalls := lawFL facts.mixed g_FindFew o_FindFew tree_FindFew W hx (pins l0 hr0 l1 hr1 xs2 hr2 xs3 hr3 xs4 hr4) (plain l0 hr0 l1 hr1 xs2 hr2 xs3 hr3 xs4 hr4) (glob_of_laid hL)
  refine hcalls.mono fun e W' ⟨he, bel⟩ => ?_
  subst he
  exact ⟨_, rfl, _, _, _, [], _, [], hW', trodAll_mk1 (shut_bool Tryd.underlying4 _), (trodAll_cons_mk (Below.trod facts.laidOut (by kernel_rfl) (of_decide_eq_true (by kernel_rfl)) k0 bel lt0) (trodAll_cons_mk (Below.trod facts.laidOut (by kernel_rfl) (of_decide_eq_true (by kernel_rfl)) k1 bel lt1) (trodAll_cons_mk (Below.trod facts.laidOut (by kernel_rfl) (of_decide_eq_true (by kernel_rfl)) k2 bel lt2) (trodAll_cons_mk (Below.trod facts.laidOut (by kernel_rfl) (of_decide_eq_true (by kernel_rfl)) k3 bel lt3) (trodAll_cons_mk (Below.trod facts.laidOut (by kernel_rfl) (of_decide_eq_true (by kernel_rfl)) k4 bel lt4) trodAll_mk0))))), rfl, bel.frame _, fun h => by cases h⟩

theorem over : Rows.findFewRow.holds Tryd.pinned (OpenSpec.ofChange Rows.findFewSpec) :=
  OpenClaim.holds_of_wide 5 Tryd.f5 rfl rfl rfl rfl rfl rfl rfl ⟨rfl, rfl, rfl, rfl, rfl⟩ rfl rfl rfl rfl rfl (by kernel_rfl) Tryd.func5
    (facts.joined (by kernel_rfl) (by kernel_rfl) (by kernel_rfl) (by kernel_rfl) (by kernel_rfl) (by kernel_rfl) (by kernel_rfl) rfl rfl rfl rfl)
    (of_decide_eq_true (by kernel_rfl)) (by unfold Func.isWrapper; first | (rw [if_pos (by decide +kernel)]; kernel_rfl) | (rw [if_neg (by decide +kernel)]; exact ⟨rfl, rfl⟩))
    (fun os started H enc _ => lifted os started H enc)

theorem noStand : (Tryd.f5.params.all fun t => !Tryd.prog.wantsStandIn t) = true := by kernel_rfl
/-- THE STATEMENT: the row, its one listed variable tied to the program's text. -/
theorem proved : Rows.FindFewCardSaid :=
  Claim7.holds_tied_plain_at .later [] [.data] true (true, "fe355b6850b09c8680bea1fba1471605f80c9d0ddaacf1e1bebf28d32f60e03f") false over (fun _ h => by cases h) (by kernel_rfl) (fun _ h => by cases h) findFew_row_tie rfl ⟨rfl, rfl⟩ (by kernel_rfl) rfl
    (fun f fn hf hfn => by
      obtain rfl : f = 5 := Option.some.inj ((show Tryd.prog.funcNamed Rows.findFewRow.func = some 5 by kernel_rfl).symm.trans hf) |>.symm
      obtain rfl : fn = Tryd.f5 := (Option.some.inj (Tryd.func5.symm.trans hfn)).symm
      refine ⟨by kernel_rfl, fun j t ht => ?_⟩
      have := Array.all_eq_true_iff_forall_mem.1 noStand t (Array.mem_of_getElem? ht)
      exact (by simpa using this : Tryd.prog.wantsStandIn t = false))
    (by kernel_rfl)
#print axioms proved

end Go.Proofs.YtgcoidbaoigkeaaDoor.findFew
