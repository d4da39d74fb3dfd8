/-
  What is found in lists of boxes.
-/
import Derived.Test.YtgcoidbaoigkeaaDoorFShad
import Derived.Test.YtgcoidbaoigkeaaDoorFDefsL
set_option linter.unusedVariables false
set_option linter.unusedSimpArgs false
namespace Go.Proofs.YtgcoidbaoigkeaaDoor.fix
open Go.RowKit Go.Sx

noncomputable def G_fasked : List Sum := [s_fview, s_window]
def I_fasked : List Inf := [i_fview, i_window]
def t_fasked : TX := (.ite (.lt (.c 256) (.ln (.v 0))) (.ret [(.c 4)])
(.loop 2 [none, none] [(.c 0), (.c 0)] (.ite (.lt (.v 22) (.ln (.v 0))) (.asrt (.le (.c 0) (.v 22)) (.call 0 [(.c 0), (.c 0), (.c 0), (.c 0), (.c 0), (.c 0), (.c 0), (.c 0), (.c 0), (.c 0), (.c 0), (.c 0), (.c 1), (.c 256), (.c 1), (.c 1), (.l2 .at (.l2 .at (.v 0) (.v 22)) (.c 0)), (.l2 .at (.l2 .at (.v 0) (.v 22)) (.c 1)), (.l2 .at (.l2 .at (.v 0) (.v 22)) (.c 2)), (.l2 .at (.l2 .at (.v 0) (.v 22)) (.c 3)), (.l2 .at (.l2 .at (.v 0) (.v 22)) (.c 4)), (.l2 .at (.l2 .at (.v 0) (.v 22)) (.c 5))] (.ite (.not (.eq (.v 29) (.c 0))) (.ret [(.c 8)])
(.back 0 [(.v 21), (.wr .i64 (.add (.v 22) (.c 1)))]))))
(.callp 1 [(.v 1), (.v 2), (.v 3), (.v 4), (.v 5), (.v 6), (.v 7), (.v 8), (.v 9), (.v 10), (.v 11), (.v 12), (.v 13), (.v 14), (.v 15), (.v 16), (.v 17), (.v 18), (.v 19), (.v 20)] (.ret [(.v 23)])))))
theorem tree_fasked : merge (optFL [] I_fasked [] pin_fasked (symFnL Tryd.prog (openAt Tryd.prog [(5, 19)]) gl0 G_fasked 1000 18 [Bs, An 16, An 4] [I1])) = t_fasked := by kernel_rfl
theorem g_fasked : Gok Tryd.prog G_fasked := (more ok_fview (fix.one ok_window))
theorem o_fasked : outsOK G_fasked I_fasked := (outsOK_cons inf_fview (outsOK_cons inf_window outsOK_nil))
theorem dec_nil : dec (cod ([] : List Int)) = [] := dec_cod _
theorem vs_none {n : Nat} {xs : List Int} (h : xs.length = n) : vsOK (List.replicate n none) xs := by
  refine ⟨by simp [h], fun i => ?_⟩
  have : (List.replicate n (none : Option Iv)).getD i none = none := by
    simp only [List.getD, List.getElem?_replicate]
    split <;> rfl
  rw [this]
  trivial
theorem all_upto {p : Int → Bool} {l : List Int} {i : Nat} (h : ∀ j, j < i → p (l.getD j 0) = true) (hi : l.length ≤ i) : l.all p = true := by
  rw [List.all_eq_true]
  intro x hx
  obtain ⟨j, hj, rfl⟩ := List.getElem_of_mem hx
  have := h j (by omega)
  rwa [show l.getD j 0 = l[j] by simp [List.getD, hj]] at this
theorem not_all {p : Int → Bool} {l : List Int} {i : Nat} (hi : i < l.length) (h : ¬ p (l.getD i 0) = true) : ¬ l.all p = true := by
  rw [List.all_eq_true]
  intro hh
  refine h (hh _ ?_)
  rw [show l.getD i 0 = l[i] by simp [List.getD, hi]]
  exact List.getElem_mem hi
theorem mem_at {l : List Int} {i : Nat} (hi : i < l.length) : l.getD i 0 ∈ l := by
  rw [show l.getD i 0 = l[i] by simp [List.getD, hi]]
  exact List.getElem_mem hi
theorem len21x {xs : List Int} (h : xs.length = 21) : ∃ a c0 c1 c2 c3 c4 c5 c6 c7 c8 c9 c10 c11 c12 c13 c14 c15 w0 w1 w2 w3, xs = [a, c0, c1, c2, c3, c4, c5, c6, c7, c8, c9, c10, c11, c12, c13, c14, c15, w0, w1, w2, w3] := by
  match xs, h with
  | [a, c0, c1, c2, c3, c4, c5, c6, c7, c8, c9, c10, c11, c12, c13, c14, c15, w0, w1, w2, w3], _ => exact ⟨_, _, _, _, _, _, _, _, _, _, _, _, _, _, _, _, _, _, _, _, _, rfl⟩
theorem six_in {b : Int} (h : rangeOK Bs_ks (dec b)) : ivHas zz (co b 0) ∧ ivHas zz (co b 1) ∧ ivHas zz (co b 2) ∧ ivHas zz (co b 3) ∧ ivHas zz (co b 4) ∧ ivHas zz (co b 5) := by
  have := range_vs h
  exact ⟨this.2 0, this.2 1, this.2 2, this.2 3, this.2 4, this.2 5⟩
theorem zc (n : Int) (h : -9223372036854775808 ≤ n) (h' : n ≤ 9223372036854775807) : ivHas zz n := ⟨h, h'⟩
theorem still_ok (b0 b1 b2 b3 b4 b5 : Int) : (fviewL [0, 0, 0, 0, 0, 0, 0, 0, 0, 0, 0, 0, 1, 256, 1, 1, b0, b1, b2, b3, b4, b5]).getD 6 0 = if worldB [b0, b1, b2, b3, b4, b5] 0 = true then 0 else 8 := by
  unfold fviewL
  rw [if_pos (show camB [0, 0, 0, 0, 0, 0, 0, 0, 0, 0, 0, 0, 1, 256, 1, 1, b0, b1, b2, b3, b4, b5] 0 = true from rfl)]
  rw [show worldB [0, 0, 0, 0, 0, 0, 0, 0, 0, 0, 0, 0, 1, 256, 1, 1, b0, b1, b2, b3, b4, b5] 16 = worldB [b0, b1, b2, b3, b4, b5] 0 from rfl]
  split <;> rfl
theorem ok_fasked : s_fasked.ok Tryd.prog := Sum.okPF (pin := pin_fasked) facts.mixed g_fasked o_fasked tree_fasked rfl (fun _ => rfl) (fun xs h => h.1) (by
  intro xs hx hp
  obtain ⟨a, c0, c1, c2, c3, c4, c5, c6, c7, c8, c9, c10, c11, c12, c13, c14, c15, w0, w1, w2, w3, rfl⟩ := len21x hx
  have hel : ∀ b ∈ dec a, rangeOK Bs_ks (dec b) := hp.2
  clear hp
  simp only [t_fasked, G_fasked, s_fview, s_window, TX.sat, XB.prop, X.den, List.map_cons, List.map_nil, List.getElem?_cons_zero, List.getElem?_cons_succ, List.cons_append, List.nil_append, List.getD_cons_zero, List.getD_cons_succ, mkS, mkP, and_true, true_and, Int.not_lt, Int.not_le, not_or, not_and, Classical.not_not, ne_eq, not_true_eq_false, not_false_eq_true, sem_fasked, sem_fview, sem_window, ex7, L2.den, List.drop_succ_cons, List.drop_zero]
  generalize dec a = l at hel ⊢
  unfold askedE
  refine ⟨fun h => ?_, fun h => ?_⟩
  · rw [if_neg (by omega)]
  rw [if_pos (by omega)]
  refine ⟨fun xs => ∃ i : Nat, xs.getD 1 0 = (i : Int) ∧ i ≤ l.length ∧ ∀ j, j < i → okB (l.getD j 0) = true, fun xs => l.length - (xs.getD 1 0).toNat, fun xs hx _ => vs_none (n := 2) hx, ⟨0, rfl, by omega, fun j hj => by omega⟩, ?_⟩
  intro xs hx hI
  obtain ⟨d0, d1, rfl⟩ := len2 hx
  obtain ⟨i, hi, hle, hall⟩ := hI
  simp only [List.getD_cons_zero, List.getD_cons_succ, List.cons_append, List.nil_append] at hi ⊢
  subst hi
  have hco : ∀ x j, (dec x).getD j 0 = co x j := fun _ _ => rfl
  simp only [Int.toNat_natCast, hco, show Int.toNat 0 = 0 from rfl, show Int.toNat 1 = 1 from rfl, show Int.toNat 2 = 2 from rfl, show Int.toNat 3 = 3 from rfl, show Int.toNat 4 = 4 from rfl, show Int.toNat 5 = 5 from rfl, still_ok]
  refine ⟨fun hlt => ?_, fun hge => ?_⟩
  · have hil : i < l.length := by omega
    obtain ⟨e0, e1, e2, e3, e4, e5⟩ := six_in (hel _ (mem_at hil))
    have z0 : ivHas zz 0 := zc 0 (by decide) (by decide)
    have z1 : ivHas zz 1 := zc 1 (by decide) (by decide)
    have z256 : ivHas zz 256 := zc 256 (by decide) (by decide)
    refine ⟨by omega, vsOK_cons z0 (vsOK_cons z0 (vsOK_cons z0 (vsOK_cons z0 (vsOK_cons z0 (vsOK_cons z0 (vsOK_cons z0 (vsOK_cons z0 (vsOK_cons z0 (vsOK_cons z0 (vsOK_cons z0 (vsOK_cons z0 (vsOK_cons z1 (vsOK_cons z256 (vsOK_cons z1 (vsOK_cons z1 (vsOK_cons e0 (vsOK_cons e1 (vsOK_cons e2 (vsOK_cons e3 (vsOK_cons e4 (vsOK_cons e5 vsOK_nil))))))))))))))))))))), ?_⟩
    have hok : okB (l.getD i 0) = worldB [co (l.getD i 0) 0, co (l.getD i 0) 1, co (l.getD i 0) 2, co (l.getD i 0) 3, co (l.getD i 0) 4, co (l.getD i 0) 5] 0 := rfl
    rw [← hok]
    by_cases hb : okB (l.getD i 0) = true
    · refine ⟨fun h => absurd (if_pos hb) h, fun _ => ?_⟩
      have hw : IntKind.i64.wrap ((i : Int) + 1) = ((i + 1 : Nat) : Int) := by rw [wrap64 (by omega) (by omega)]; omega
      rw [hw]
      refine ⟨⟨i + 1, rfl, by omega, fun j hj => ?_⟩, by rw [Int.toNat_natCast]; omega⟩
      rcases Nat.lt_or_ge j i with h1 | h1
      · exact hall j h1
      · have : j = i := by omega
        subst this
        exact hb
    · refine ⟨fun _ => ?_, fun h => ?_⟩
      · rw [if_neg (not_all hil hb)]
      · rw [if_neg hb] at h
        exact absurd h (by decide)
  · rw [if_pos (all_upto hall (by omega))])
theorem window_iv (x : List Int) : 0 ≤ windowV x ∧ windowV x ≤ 150 := by
  unfold windowV
  split
  · split <;> decide
  · decide
theorem asked_iv (l x : List Int) : ivHas (iv 0 150) (askedE l x) := by
  unfold askedE
  split
  · split
    · exact window_iv x
    · exact ⟨by show (0:Int) ≤ 8; decide, by show (8:Int) ≤ 150; decide⟩
  · exact ⟨by show (0:Int) ≤ 4; decide, by show (4:Int) ≤ 150; decide⟩
theorem inf_fasked : InfOK s_fasked i_fasked := ⟨fun xs h => (small_not xs h).elim, fun vs xs h hp => vsOK_cons (asked_iv _ _) vsOK_nil⟩

noncomputable def G_fall : List Sum := [s_fasked, s_shadow]
def I_fall : List Inf := [i_fasked, i_shadow]
def t_fall : TX := (.call 0 [(.v 0), (.v 1), (.v 2), (.v 3), (.v 4), (.v 5), (.v 6), (.v 7), (.v 8), (.v 9), (.v 10), (.v 11), (.v 12), (.v 13), (.v 14), (.v 15), (.v 16), (.v 17), (.v 18), (.v 19), (.v 20)] (.ite (.not (.eq (.v 21) (.c 0))) (.ret [.nl, (.v 21)])
(.loop 2 [none, none] [.nl, (.c 0)] (.ite (.le (.ln (.v 0)) (.v 23)) (.ret [(.v 22), (.c 0)])
(.asrt (.le (.c 0) (.v 23)) (.call 1 [(.v 1), (.v 2), (.v 3), (.v 4), (.v 5), (.v 6), (.v 7), (.v 8), (.v 9), (.v 10), (.v 11), (.v 12), (.v 13), (.v 14), (.v 15), (.v 16), (.l2 .at (.l2 .at (.v 0) (.v 23)) (.c 0)), (.l2 .at (.l2 .at (.v 0) (.v 23)) (.c 1)), (.l2 .at (.l2 .at (.v 0) (.v 23)) (.c 2)), (.l2 .at (.l2 .at (.v 0) (.v 23)) (.c 3)), (.l2 .at (.l2 .at (.v 0) (.v 23)) (.c 4)), (.l2 .at (.l2 .at (.v 0) (.v 23)) (.c 5)), (.v 17), (.v 18), (.v 19), (.v 20)] (.ite (.nz (.v 29)) (.asrt (.le (.ln (.l2 .snoc (.v 22) (.v 23))) (.c 1000000)) (.back 0 [(.l2 .snoc (.v 22) (.v 23)), (.wr .i64 (.add (.v 23) (.c 1)))]))
(.back 0 [(.v 22), (.wr .i64 (.add (.v 23) (.c 1)))]))))))))
theorem tree_fall : merge (optFL [] I_fall [] pin_fall (symFnL Tryd.prog (openAt Tryd.prog [(5, 21)]) gl0 G_fall 1000 8 [Bs, An 16, An 4] [Is, I1])) = t_fall := by kernel_rfl
theorem g_fall : Gok Tryd.prog G_fall := (more ok_fasked (fix.one ok_shadow))
theorem o_fall : outsOK G_fall I_fall := (outsOK_cons inf_fasked (outsOK_cons inf_shadow outsOK_nil))
theorem found_succ {l x : List Int} {i : Nat} : foundU l x (i + 1) = if showsI (l.getD i 0) x = true then foundU l x i ++ [(i : Int)] else foundU l x i := rfl
theorem found_len {l x : List Int} : ∀ i, (foundU l x i).length ≤ i
  | 0 => Nat.le_refl _
  | i + 1 => by
    rw [found_succ]
    split
    · rw [List.length_append]
      have := found_len (l := l) (x := x) i
      simp only [List.length_cons, List.length_nil]
      omega
    · exact Nat.le_succ_of_le (found_len i)
theorem ok_fall : s_fall.ok Tryd.prog := Sum.okPF (pin := pin_fall) facts.mixed g_fall o_fall tree_fall rfl (fun _ => rfl) (fun xs h => h.1) (by
  intro xs hx hp
  obtain ⟨a, c0, c1, c2, c3, c4, c5, c6, c7, c8, c9, c10, c11, c12, c13, c14, c15, w0, w1, w2, w3, rfl⟩ := len21x hx
  have hpre : pre_fasked [a, c0, c1, c2, c3, c4, c5, c6, c7, c8, c9, c10, c11, c12, c13, c14, c15, w0, w1, w2, w3] := hp
  have hel : ∀ b ∈ dec a, rangeOK Bs_ks (dec b) := hp.2
  have hv := hp.1
  clear hp
  simp only [t_fall, G_fall, s_fasked, s_shadow, TX.sat, XB.prop, X.den, List.map_cons, List.map_nil, List.getElem?_cons_zero, List.getElem?_cons_succ, List.cons_append, List.nil_append, List.getD_cons_zero, List.getD_cons_succ, mkS, mkP, and_true, true_and, Int.not_lt, Int.not_le, not_or, not_and, Classical.not_not, ne_eq, not_true_eq_false, not_false_eq_true, sem_fall, sem_fasked, sem_shadow, ex7, L2.den, List.drop_succ_cons, List.drop_zero]
  refine ⟨hpre, ?_⟩
  clear hpre
  generalize dec a = l at hel ⊢
  unfold fallL
  refine ⟨fun h => ?_, fun h => ?_⟩
  · rw [if_neg h]
    rfl
  rw [if_pos h]
  have h256 : l.length ≤ 256 := by
    unfold askedE at h
    split at h
    · assumption
    · exact absurd h (by decide)
  refine ⟨fun xs => ∃ i : Nat, xs.getD 1 0 = (i : Int) ∧ i ≤ l.length ∧ dec (xs.getD 0 0) = foundU l [c0, c1, c2, c3, c4, c5, c6, c7, c8, c9, c10, c11, c12, c13, c14, c15, w0, w1, w2, w3] i ∧ cod (dec (xs.getD 0 0)) = xs.getD 0 0, fun xs => l.length - (xs.getD 1 0).toNat, fun xs hx _ => vs_none (n := 2) hx, ⟨0, rfl, by omega, dec_nil, by simp [dec_cod]⟩, ?_⟩
  intro xs hx hI
  obtain ⟨d0, d1, rfl⟩ := len2 hx
  obtain ⟨i, hi, hle, hd, hcd⟩ := hI
  simp only [List.getD_cons_zero, List.getD_cons_succ, List.cons_append, List.nil_append] at hi hd hcd ⊢
  subst hi
  have hco : ∀ x j, (dec x).getD j 0 = co x j := fun _ _ => rfl
  simp only [Int.toNat_natCast, hco, show Int.toNat 0 = 0 from rfl, show Int.toNat 1 = 1 from rfl, show Int.toNat 2 = 2 from rfl, show Int.toNat 3 = 3 from rfl, show Int.toNat 4 = 4 from rfl, show Int.toNat 5 = 5 from rfl, dec_cod]
  refine ⟨fun hge => ?_, fun hlt => ?_⟩
  · have : i = l.length := by omega
    subst this
    rw [← hd, hcd]
  · have hil : i < l.length := by omega
    obtain ⟨e0, e1, e2, e3, e4, e5⟩ := six_in (hel _ (mem_at hil))
    have hw : IntKind.i64.wrap ((i : Int) + 1) = ((i + 1 : Nat) : Int) := by rw [wrap64 (by omega) (by omega)]; omega
    have hsh : shadowL [c0, c1, c2, c3, c4, c5, c6, c7, c8, c9, c10, c11, c12, c13, c14, c15, co (l.getD i 0) 0, co (l.getD i 0) 1, co (l.getD i 0) 2, co (l.getD i 0) 3, co (l.getD i 0) 4, co (l.getD i 0) 5, w0, w1, w2, w3] = shade (l.getD i 0) [c0, c1, c2, c3, c4, c5, c6, c7, c8, c9, c10, c11, c12, c13, c14, c15, w0, w1, w2, w3] := rfl
    have hfl := found_len (l := l) (x := [c0, c1, c2, c3, c4, c5, c6, c7, c8, c9, c10, c11, c12, c13, c14, c15, w0, w1, w2, w3]) i
    rw [hsh, hw, hd]
    refine ⟨by omega, vsOK_cons (hv.2 1) (vsOK_cons (hv.2 2) (vsOK_cons (hv.2 3) (vsOK_cons (hv.2 4) (vsOK_cons (hv.2 5) (vsOK_cons (hv.2 6) (vsOK_cons (hv.2 7) (vsOK_cons (hv.2 8) (vsOK_cons (hv.2 9) (vsOK_cons (hv.2 10) (vsOK_cons (hv.2 11) (vsOK_cons (hv.2 12) (vsOK_cons (hv.2 13) (vsOK_cons (hv.2 14) (vsOK_cons (hv.2 15) (vsOK_cons (hv.2 16) (vsOK_cons e0 (vsOK_cons e1 (vsOK_cons e2 (vsOK_cons e3 (vsOK_cons e4 (vsOK_cons e5 (vsOK_cons (hv.2 17) (vsOK_cons (hv.2 18) (vsOK_cons (hv.2 19) (vsOK_cons (hv.2 20) vsOK_nil))))))))))))))))))))))))), fun hs => ⟨?_, ?_, ?_⟩, fun hs => ⟨?_, ?_⟩⟩
    · rw [List.length_append]
      simp only [List.length_cons, List.length_nil]
      omega
    · refine ⟨i + 1, rfl, by omega, ?_, trivial⟩
      rw [found_succ, if_pos (by simp only [showsI, decide_eq_true_eq]; exact hs)]
    · rw [Int.toNat_natCast]; omega
    · refine ⟨i + 1, rfl, by omega, ?_, by rw [← hd]; exact hcd⟩
      rw [found_succ, if_neg (by simp only [showsI, decide_eq_true_eq]; exact fun hh => hh hs)]
    · rw [Int.toNat_natCast]; omega)
theorem inf_fall : InfOK s_fall i_fall := ⟨fun xs h => (small_not xs h).elim, fun vs xs h hp => by
  refine vsOK_cons trivial (vsOK_cons ?_ vsOK_nil)
  unfold fallL
  split
  · exact ⟨by show (0:Int) ≤ 0; decide, by show (0:Int) ≤ 150; decide⟩
  · exact asked_iv _ _⟩
theorem c0n : Int.toNat 0 = 0 := rfl
noncomputable def G_alive18 : List Sum := [s_fall]
def I_alive18 : List Inf := [i_fall]
def t_alive18 : TX := (.call 0 [(.l2 .cons (.l2 .cons (.c (-20)) (.l2 .cons (.c (-20)) (.l2 .cons (.c 512) (.l2 .cons (.c 20) (.l2 .cons (.c 20) (.l2 .cons (.c 512) .nl)))))) (.l2 .cons (.l2 .cons (.c 3980) (.l2 .cons (.c (-20)) (.l2 .cons (.c 512) (.l2 .cons (.c 4020) (.l2 .cons (.c 20) (.l2 .cons (.c 512) .nl)))))) (.l2 .cons (.l2 .cons (.c (-20)) (.l2 .cons (.c (-20)) (.l2 .cons (.c (-9)) (.l2 .cons (.c 20) (.l2 .cons (.c 20) (.l2 .cons (.c (-9)) .nl)))))) .nl))), (.c 0), (.c 0), (.c 0), (.c 256), (.c 0), (.c 0), (.c 0), (.c 256), (.c 0), (.c 0), (.c 0), (.c 256), (.c 64), (.c 256), (.c 64), (.c 64), (.c 0), (.c 0), (.c 63), (.c 63)] (.asrt (.or (.or (.not (.eq (.v 1) (.c 0))) (.not (.eq (.ln (.v 0)) (.c 1)))) (.lt (.c 0) (.ln (.v 0)))) (.asrt (.or (.or (.not (.eq (.v 1) (.c 0))) (.not (.eq (.ln (.v 0)) (.c 1)))) (.lt (.c 0) (.ln (.v 0)))) (.ite (.and (.and (.eq (.v 1) (.c 0)) (.eq (.ln (.v 0)) (.c 1))) (.eq (.l2 .at (.v 0) (.c 0)) (.c 0))) (.ret [(.c 1)])
(.ret [(.c 0)])))))
theorem tree_alive18 : merge (optFL [] I_alive18 [] pin_alive18 (symFnL Tryd.prog noLp gl0 G_alive18 1000 7 [] [Bo])) = t_alive18 := by kernel_rfl
theorem g_alive18 : Gok Tryd.prog G_alive18 := (fix.one ok_fall)
theorem o_alive18 : outsOK G_alive18 I_alive18 := (outsOK_cons inf_fall outsOK_nil)
theorem alive_w0 : worldB [-20, -20, 512, 20, 20, 512] 0 = true := by kernel_rfl
theorem alive_s0 : (shadowL [0, 0, 0, 256, 0, 0, 0, 256, 0, 0, 0, 256, 64, 256, 64, 64, -20, -20, 512, 20, 20, 512, 0, 0, 63, 63]).getD 5 0 = 1 := by kernel_rfl
theorem alive_o0 : okB (cod [-20, -20, 512, 20, 20, 512]) = true := by
  unfold okB six6 co
  simp only [dec_cod, TX.sat, XB.prop, X.den, List.map_cons, List.map_nil, List.getElem?_cons_zero, List.getElem?_cons_succ, List.cons_append, List.nil_append, List.getD_cons_zero, List.getD_cons_succ, mkS, mkP, and_true, true_and, Int.not_lt, Int.not_le, not_or, not_and, Classical.not_not, ne_eq, not_true_eq_false, not_false_eq_true]
  exact alive_w0
theorem alive_h0 : showsI (cod [-20, -20, 512, 20, 20, 512]) [0, 0, 0, 256, 0, 0, 0, 256, 0, 0, 0, 256, 64, 256, 64, 64, 0, 0, 63, 63] = true := by
  unfold showsI shade six6 co
  simp only [dec_cod, TX.sat, XB.prop, X.den, List.map_cons, List.map_nil, List.getElem?_cons_zero, List.getElem?_cons_succ, List.cons_append, List.nil_append, List.getD_cons_zero, List.getD_cons_succ, mkS, mkP, and_true, true_and, Int.not_lt, Int.not_le, not_or, not_and, Classical.not_not, ne_eq, not_true_eq_false, not_false_eq_true, List.take_succ_cons, List.take_zero, List.drop_succ_cons, List.drop_zero, alive_s0]
  decide
theorem alive_w1 : worldB [3980, -20, 512, 4020, 20, 512] 0 = true := by kernel_rfl
theorem alive_s1 : (shadowL [0, 0, 0, 256, 0, 0, 0, 256, 0, 0, 0, 256, 64, 256, 64, 64, 3980, -20, 512, 4020, 20, 512, 0, 0, 63, 63]).getD 5 0 = 0 := by kernel_rfl
theorem alive_o1 : okB (cod [3980, -20, 512, 4020, 20, 512]) = true := by
  unfold okB six6 co
  simp only [dec_cod, TX.sat, XB.prop, X.den, List.map_cons, List.map_nil, List.getElem?_cons_zero, List.getElem?_cons_succ, List.cons_append, List.nil_append, List.getD_cons_zero, List.getD_cons_succ, mkS, mkP, and_true, true_and, Int.not_lt, Int.not_le, not_or, not_and, Classical.not_not, ne_eq, not_true_eq_false, not_false_eq_true]
  exact alive_w1
theorem alive_h1 : showsI (cod [3980, -20, 512, 4020, 20, 512]) [0, 0, 0, 256, 0, 0, 0, 256, 0, 0, 0, 256, 64, 256, 64, 64, 0, 0, 63, 63] = false := by
  unfold showsI shade six6 co
  simp only [dec_cod, TX.sat, XB.prop, X.den, List.map_cons, List.map_nil, List.getElem?_cons_zero, List.getElem?_cons_succ, List.cons_append, List.nil_append, List.getD_cons_zero, List.getD_cons_succ, mkS, mkP, and_true, true_and, Int.not_lt, Int.not_le, not_or, not_and, Classical.not_not, ne_eq, not_true_eq_false, not_false_eq_true, List.take_succ_cons, List.take_zero, List.drop_succ_cons, List.drop_zero, alive_s1]
  decide
theorem alive_w2 : worldB [-20, -20, -9, 20, 20, -9] 0 = true := by kernel_rfl
theorem alive_s2 : (shadowL [0, 0, 0, 256, 0, 0, 0, 256, 0, 0, 0, 256, 64, 256, 64, 64, -20, -20, -9, 20, 20, -9, 0, 0, 63, 63]).getD 5 0 = 0 := by kernel_rfl
theorem alive_o2 : okB (cod [-20, -20, -9, 20, 20, -9]) = true := by
  unfold okB six6 co
  simp only [dec_cod, TX.sat, XB.prop, X.den, List.map_cons, List.map_nil, List.getElem?_cons_zero, List.getElem?_cons_succ, List.cons_append, List.nil_append, List.getD_cons_zero, List.getD_cons_succ, mkS, mkP, and_true, true_and, Int.not_lt, Int.not_le, not_or, not_and, Classical.not_not, ne_eq, not_true_eq_false, not_false_eq_true]
  exact alive_w2
theorem alive_h2 : showsI (cod [-20, -20, -9, 20, 20, -9]) [0, 0, 0, 256, 0, 0, 0, 256, 0, 0, 0, 256, 64, 256, 64, 64, 0, 0, 63, 63] = false := by
  unfold showsI shade six6 co
  simp only [dec_cod, TX.sat, XB.prop, X.den, List.map_cons, List.map_nil, List.getElem?_cons_zero, List.getElem?_cons_succ, List.cons_append, List.nil_append, List.getD_cons_zero, List.getD_cons_succ, mkS, mkP, and_true, true_and, Int.not_lt, Int.not_le, not_or, not_and, Classical.not_not, ne_eq, not_true_eq_false, not_false_eq_true, List.take_succ_cons, List.take_zero, List.drop_succ_cons, List.drop_zero, alive_s2]
  decide
theorem alive_win : windowV [0, 0, 0, 256, 0, 0, 0, 256, 0, 0, 0, 256, 64, 256, 64, 64, 0, 0, 63, 63] = 0 := by kernel_rfl
theorem alive_fall : fallL [cod [-20, -20, 512, 20, 20, 512], cod [3980, -20, 512, 4020, 20, 512], cod [-20, -20, -9, 20, 20, -9]] [0, 0, 0, 256, 0, 0, 0, 256, 0, 0, 0, 256, 64, 256, 64, 64, 0, 0, 63, 63] = [cod [0], 0] := by
  have h : askedE [cod [-20, -20, 512, 20, 20, 512], cod [3980, -20, 512, 4020, 20, 512], cod [-20, -20, -9, 20, 20, -9]] [0, 0, 0, 256, 0, 0, 0, 256, 0, 0, 0, 256, 64, 256, 64, 64, 0, 0, 63, 63] = 0 := by
    unfold askedE
    rw [if_pos (by simp), if_pos (by simp only [List.all_cons, List.all_nil, alive_o0, alive_o1, alive_o2, Bool.and_self]), alive_win]
  unfold fallL
  rw [if_pos h]
  simp only [List.length_cons, List.length_nil, Nat.zero_add, Nat.reduceAdd, foundU, TX.sat, XB.prop, X.den, List.map_cons, List.map_nil, List.getElem?_cons_zero, List.getElem?_cons_succ, List.cons_append, List.nil_append, List.getD_cons_zero, List.getD_cons_succ, mkS, mkP, and_true, true_and, Int.not_lt, Int.not_le, not_or, not_and, Classical.not_not, ne_eq, not_true_eq_false, not_false_eq_true, alive_h0, alive_h1, alive_h2, if_true, if_false, reduceIte, Bool.false_eq_true]
  rfl
theorem ok_alive18 : s_alive18.ok Tryd.prog := Sum.okF facts.mixed g_alive18 o_alive18 tree_alive18 rfl (fun _ => rfl) (by
  intro xs hx hp
  obtain rfl : xs = [] := List.eq_nil_of_length_eq_zero hx
  simp only [t_alive18, G_alive18, s_fall, TX.sat, XB.prop, X.den, List.map_cons, List.map_nil, List.getElem?_cons_zero, List.getElem?_cons_succ, List.cons_append, List.nil_append, List.getD_cons_zero, List.getD_cons_succ, mkS, mkP, and_true, true_and, Int.not_lt, Int.not_le, not_or, not_and, Classical.not_not, ne_eq, not_true_eq_false, not_false_eq_true, sem_fall, sem_alive18, sem_alive, L2.den, dec_cod, dec_nil, List.drop_succ_cons, List.drop_zero, alive_fall]
  refine ⟨⟨?_, ?_⟩, ?_⟩
  · have z : ∀ n : Int, -5000 ≤ n ∧ n ≤ 5000 → ivHas zz n := fun n h => zc n (by omega) (by omega)
    exact vsOK_cons trivial (vsOK_cons (z _ (by decide)) (vsOK_cons (z _ (by decide)) (vsOK_cons (z _ (by decide)) (vsOK_cons (z _ (by decide)) (vsOK_cons (z _ (by decide)) (vsOK_cons (z _ (by decide)) (vsOK_cons (z _ (by decide)) (vsOK_cons (z _ (by decide)) (vsOK_cons (z _ (by decide)) (vsOK_cons (z _ (by decide)) (vsOK_cons (z _ (by decide)) (vsOK_cons (z _ (by decide)) (vsOK_cons (z _ (by decide)) (vsOK_cons (z _ (by decide)) (vsOK_cons (z _ (by decide)) (vsOK_cons (z _ (by decide)) (vsOK_cons (z _ (by decide)) (vsOK_cons (z _ (by decide)) (vsOK_cons (z _ (by decide)) (vsOK_cons (z _ (by decide)) (vsOK_nil)))))))))))))))))))))
  · show ∀ b ∈ dec (cod [cod [-20, -20, 512, 20, 20, 512], cod [3980, -20, 512, 4020, 20, 512], cod [-20, -20, -9, 20, 20, -9]]), rangeOK Bs_ks (dec b)
    rw [dec_cod]
    have z : ∀ n : Int, -5000 ≤ n ∧ n ≤ 5000 → ivHas zz n := fun n h => zc n (by omega) (by omega)
    intro b hb
    simp only [List.mem_cons, List.not_mem_nil, or_false] at hb
    rcases hb with rfl | rfl | rfl
    all_goals (rw [dec_cod]; exact ⟨rfl, rfl, rfl, rfl, rfl, rfl, trivial⟩)
  · simp [c0n])
theorem inf_alive18 : InfOK s_alive18 i_alive18 := ⟨fun _ h => h, fun _ _ _ _ => vsOK_cons ⟨by decide, by decide⟩ vsOK_nil⟩
end Go.Proofs.YtgcoidbaoigkeaaDoor.fix
