/-
  What is asked of lists of triangles.
-/
import Derived.Test.YtjbkcjbjllmhfaaZClipM
import Derived.Test.YtjbkcjbjllmhfaaZLists
set_option linter.unusedVariables false
set_option linter.unusedSimpArgs false
namespace Go.Proofs.Ytjbkcjbjllmhfaa.fix
open Go.RowKit Go.Sx

noncomputable def G_same19 : List Sum := []
def I_same19 : List Inf := []
def t_same19 : TX := (.ite (.not (.eq (.ln (.v 0)) (.ln (.v 1)))) (.ret [(.c 0)])
(.loop 2 [none, none] [(.c 0), (.c 0)] (.ite (.le (.ln (.v 0)) (.v 3)) (.ret [(.c 1)])
(.asrt (.le (.c 0) (.v 3)) (.asrt (.lt (.v 3) (.ln (.v 1))) (.ite (.or (.or (.or (.not (.eq (.l2 .at (.l2 .at (.v 0) (.v 3)) (.c 0)) (.l2 .at (.l2 .at (.v 1) (.v 3)) (.c 0)))) (.or (.not (.eq (.l2 .at (.l2 .at (.v 0) (.v 3)) (.c 1)) (.l2 .at (.l2 .at (.v 1) (.v 3)) (.c 1)))) (.not (.eq (.l2 .at (.l2 .at (.v 0) (.v 3)) (.c 2)) (.l2 .at (.l2 .at (.v 1) (.v 3)) (.c 2)))))) (.or (.not (.eq (.l2 .at (.l2 .at (.v 0) (.v 3)) (.c 3)) (.l2 .at (.l2 .at (.v 1) (.v 3)) (.c 3)))) (.not (.eq (.l2 .at (.l2 .at (.v 0) (.v 3)) (.c 4)) (.l2 .at (.l2 .at (.v 1) (.v 3)) (.c 4)))))) (.or (.or (.or (.not (.eq (.l2 .at (.l2 .at (.v 0) (.v 3)) (.c 5)) (.l2 .at (.l2 .at (.v 1) (.v 3)) (.c 5)))) (.or (.not (.eq (.l2 .at (.l2 .at (.v 0) (.v 3)) (.c 6)) (.l2 .at (.l2 .at (.v 1) (.v 3)) (.c 6)))) (.not (.eq (.l2 .at (.l2 .at (.v 0) (.v 3)) (.c 7)) (.l2 .at (.l2 .at (.v 1) (.v 3)) (.c 7)))))) (.or (.not (.eq (.l2 .at (.l2 .at (.v 0) (.v 3)) (.c 8)) (.l2 .at (.l2 .at (.v 1) (.v 3)) (.c 8)))) (.not (.eq (.l2 .at (.l2 .at (.v 0) (.v 3)) (.c 9)) (.l2 .at (.l2 .at (.v 1) (.v 3)) (.c 9)))))) (.or (.or (.not (.eq (.l2 .at (.l2 .at (.v 0) (.v 3)) (.c 10)) (.l2 .at (.l2 .at (.v 1) (.v 3)) (.c 10)))) (.or (.not (.eq (.l2 .at (.l2 .at (.v 0) (.v 3)) (.c 11)) (.l2 .at (.l2 .at (.v 1) (.v 3)) (.c 11)))) (.not (.eq (.l2 .at (.l2 .at (.v 0) (.v 3)) (.c 12)) (.l2 .at (.l2 .at (.v 1) (.v 3)) (.c 12)))))) (.or (.not (.eq (.l2 .at (.l2 .at (.v 0) (.v 3)) (.c 13)) (.l2 .at (.l2 .at (.v 1) (.v 3)) (.c 13)))) (.not (.eq (.l2 .at (.l2 .at (.v 0) (.v 3)) (.c 14)) (.l2 .at (.l2 .at (.v 1) (.v 3)) (.c 14)))))))) (.ret [(.c 0)])
(.back 0 [(.v 2), (.wr .i64 (.add (.v 3) (.c 1)))])))))))
theorem tree_same19 : merge (optFL [] I_same19 [] [none, none] (symFnL Try.prog (openAt Try.prog [(4, 11)]) gl0 G_same19 1000 33 [Ts, Ts] [Bo])) = t_same19 := by kernel_rfl
theorem g_same19 : Gok Try.prog G_same19 := noG
theorem o_same19 : outsOK G_same19 I_same19 := outsOK_nil
noncomputable def G_has19 : List Sum := []
def I_has19 : List Inf := []
def t_has19 : TX := (.loop 2 [none, none] [(.c 0), (.c 0)] (.ite (.le (.ln (.v 0)) (.v 7)) (.ret [(.c 0)])
(.asrt (.le (.c 0) (.v 7)) (.ite (.or (.and (.and (.eq (.l2 .at (.l2 .at (.v 0) (.v 7)) (.c 0)) (.v 1)) (.and (.eq (.l2 .at (.l2 .at (.v 0) (.v 7)) (.c 1)) (.v 2)) (.eq (.l2 .at (.l2 .at (.v 0) (.v 7)) (.c 2)) (.v 3)))) (.and (.eq (.l2 .at (.l2 .at (.v 0) (.v 7)) (.c 3)) (.v 4)) (.eq (.l2 .at (.l2 .at (.v 0) (.v 7)) (.c 4)) (.v 5)))) (.or (.and (.and (.eq (.l2 .at (.l2 .at (.v 0) (.v 7)) (.c 5)) (.v 1)) (.and (.eq (.l2 .at (.l2 .at (.v 0) (.v 7)) (.c 6)) (.v 2)) (.eq (.l2 .at (.l2 .at (.v 0) (.v 7)) (.c 7)) (.v 3)))) (.and (.eq (.l2 .at (.l2 .at (.v 0) (.v 7)) (.c 8)) (.v 4)) (.eq (.l2 .at (.l2 .at (.v 0) (.v 7)) (.c 9)) (.v 5)))) (.and (.and (.eq (.l2 .at (.l2 .at (.v 0) (.v 7)) (.c 10)) (.v 1)) (.and (.eq (.l2 .at (.l2 .at (.v 0) (.v 7)) (.c 11)) (.v 2)) (.eq (.l2 .at (.l2 .at (.v 0) (.v 7)) (.c 12)) (.v 3)))) (.and (.eq (.l2 .at (.l2 .at (.v 0) (.v 7)) (.c 13)) (.v 4)) (.eq (.l2 .at (.l2 .at (.v 0) (.v 7)) (.c 14)) (.v 5)))))) (.ret [(.c 1)])
(.back 0 [(.v 6), (.wr .i64 (.add (.v 7) (.c 1)))])))))
theorem tree_has19 : merge (optFL [] I_has19 [] ([none] ++ zs 5) (symFnL Try.prog (openAt Try.prog [(2, 6)]) gl0 G_has19 1000 36 [Ts, An 5] [Bo])) = t_has19 := by kernel_rfl
theorem g_has19 : Gok Try.prog G_has19 := noG
theorem o_has19 : outsOK G_has19 I_has19 := outsOK_nil
theorem t15_eq (x y : Int) : t15 x = t15 y ↔ ∀ j, j < 15 → co x j = co y j := by
  constructor
  · intro h j hj
    have key : ∀ k, (t15 x).getD k 0 = (t15 y).getD k 0 := fun k => by rw [h]
    match j, hj with
    | 0, _ => exact key 0
    | 1, _ => exact key 1
    | 2, _ => exact key 2
    | 3, _ => exact key 3
    | 4, _ => exact key 4
    | 5, _ => exact key 5
    | 6, _ => exact key 6
    | 7, _ => exact key 7
    | 8, _ => exact key 8
    | 9, _ => exact key 9
    | 10, _ => exact key 10
    | 11, _ => exact key 11
    | 12, _ => exact key 12
    | 13, _ => exact key 13
    | 14, _ => exact key 14
  · intro h
    unfold t15
    rw [h 0 (by omega), h 1 (by omega), h 2 (by omega), h 3 (by omega), h 4 (by omega), h 5 (by omega), h 6 (by omega), h 7 (by omega), h 8 (by omega), h 9 (by omega), h 10 (by omega), h 11 (by omega), h 12 (by omega), h 13 (by omega), h 14 (by omega)]

theorem ok_same19 : s_same19.ok Try.prog := Sum.okPF (pin := pin_same19) facts.mixed g_same19 o_same19 tree_same19 rfl (fun _ => rfl) (fun xs h => h.1) (by
  intro xs hx hp
  obtain ⟨a, b, rfl⟩ := len2 hx
  replace hp : (dec a).length ≤ 4096 := hp.2
  simp only [t_same19, G_same19, TX.sat, XB.prop, X.den, List.map_cons, List.map_nil, List.getElem?_cons_zero, List.getElem?_cons_succ, List.cons_append, List.nil_append, List.getD_cons_zero, List.getD_cons_succ, mkS, mkP, and_true, true_and, Int.not_lt, Int.not_le, not_or, not_and, Classical.not_not, ne_eq, not_true_eq_false, not_false_eq_true, sem_same19, L2.den]
  generalize dec a = l at hp ⊢
  generalize dec b = m
  refine ⟨fun h => ?_, fun h => ⟨fun xs => ∃ i : Nat, xs.getD 1 0 = (i : Int) ∧ i ≤ l.length ∧ ∀ j, j < i → t15 (l.getD j 0) = t15 (m.getD j 0), fun xs => l.length - (xs.getD 1 0).toNat, fun xs hx _ => vs_none (n := 2) hx, ⟨0, rfl, by omega, fun j hj => by omega⟩, ?_⟩⟩
  · rw [decide_eq_false]
    · rfl
    · intro hh
      have := congrArg List.length hh
      rw [List.length_map, List.length_map] at this
      omega
  intro xs hx hI
  obtain ⟨d0, d1, rfl⟩ := len2 hx
  obtain ⟨i, hi, hle, hall⟩ := hI
  simp only [List.getD_cons_zero, List.getD_cons_succ, List.cons_append, List.nil_append] at hi ⊢
  subst hi
  have hco : ∀ x j, (dec x).getD j 0 = co x j := fun _ _ => rfl
  simp only [Int.toNat_natCast, hco, show Int.toNat 0 = 0 from rfl, show Int.toNat 1 = 1 from rfl, show Int.toNat 2 = 2 from rfl, show Int.toNat 3 = 3 from rfl, show Int.toNat 4 = 4 from rfl, show Int.toNat 5 = 5 from rfl, show Int.toNat 6 = 6 from rfl, show Int.toNat 7 = 7 from rfl, show Int.toNat 8 = 8 from rfl, show Int.toNat 9 = 9 from rfl, show Int.toNat 10 = 10 from rfl, show Int.toNat 11 = 11 from rfl, show Int.toNat 12 = 12 from rfl, show Int.toNat 13 = 13 from rfl, show Int.toNat 14 = 14 from rfl]
  have hlen : l.length = m.length := by omega
  refine ⟨fun hge => ?_, fun hlt => ⟨by omega, by omega, fun hne => ?_, fun heq => ?_⟩⟩
  · have : i = l.length := by omega
    subst this
    rw [decide_eq_true]
    · rfl
    · apply List.ext_getElem
      · rw [List.length_map, List.length_map, hlen]
      · intro j h1 h2
        rw [List.length_map] at h1 h2
        have := hall j h1
        rw [show l.getD j 0 = l[j] by simp [List.getD, h1], show m.getD j 0 = m[j] by simp [List.getD, h2]] at this
        simpa using this
  · rw [decide_eq_false]
    · rfl
    · intro hh
      have h1 : i < l.length := by omega
      have h2 : i < m.length := by omega
      have := congrArg (fun l => l[i]?) hh
      simp only [List.getElem?_map, List.getElem?_eq_getElem h1, List.getElem?_eq_getElem h2, Option.map_some, Option.some.injEq] at this
      have this := (t15_eq _ _).1 this
      rw [show l.getD i 0 = l[i] by simp [List.getD, h1], show m.getD i 0 = m[i] by simp [List.getD, h2]] at hne
      simp only [this 0 (by omega), this 1 (by omega), this 2 (by omega), this 3 (by omega), this 4 (by omega), this 5 (by omega), this 6 (by omega), this 7 (by omega), this 8 (by omega), this 9 (by omega), this 10 (by omega), this 11 (by omega), this 12 (by omega), this 13 (by omega), this 14 (by omega)] at hne
      simp at hne
  · have hw : IntKind.i64.wrap ((i : Int) + 1) = ((i + 1 : Nat) : Int) := by rw [wrap64 (by omega) (by omega)]; omega
    rw [hw]
    refine ⟨⟨i + 1, rfl, by omega, fun j hj => ?_⟩, by rw [Int.toNat_natCast]; omega⟩
    rcases Nat.lt_or_ge j i with h1 | h1
    · exact hall j h1
    · have : j = i := by omega
      subst this
      unfold t15
      simp only [List.cons.injEq, and_true]
      have heq' := heq
      omega)
theorem inf_same19 : InfOK s_same19 i_same19 := ⟨fun xs h => by
    have h1 : 1 ≤ xs.getD 0 0 ∧ xs.getD 0 0 ≤ 0 := h.2 0
    omega, fun vs xs h hp => vsOK_cons (b01_iv _) vsOK_nil⟩

theorem any_at {p : Int → Bool} {l : List Int} {i : Nat} (hi : i < l.length) (h : p (l.getD i 0) = true) : l.any p = true := by
  rw [List.any_eq_true]
  refine ⟨l.getD i 0, ?_, h⟩
  rw [show l.getD i 0 = l[i] by simp [List.getD, hi]]
  exact List.getElem_mem hi
theorem any_upto {p : Int → Bool} {l : List Int} {i : Nat} (h : ∀ j, j < i → p (l.getD j 0) = false) (hi : l.length ≤ i) : l.any p = false := by
  rw [List.any_eq_false]
  intro x hx
  obtain ⟨j, hj, rfl⟩ := List.getElem_of_mem hx
  have := h j (by omega)
  rw [show l.getD j 0 = l[j] by simp [List.getD, hj]] at this
  rw [this]
  exact Bool.false_ne_true

theorem ok_has19 : s_has19.ok Try.prog := Sum.okPF (pin := pin_has19) facts.mixed g_has19 o_has19 tree_has19 rfl (fun _ => rfl) (fun xs h => h.1) (by
  intro xs hx hp
  obtain ⟨a, p0, p1, p2, p3, p4, rfl⟩ := len6 hx
  replace hp : (dec a).length ≤ 4096 := hp.2
  simp only [t_has19, G_has19, TX.sat, XB.prop, X.den, List.map_cons, List.map_nil, List.getElem?_cons_zero, List.getElem?_cons_succ, List.cons_append, List.nil_append, List.getD_cons_zero, List.getD_cons_succ, mkS, mkP, and_true, true_and, Int.not_lt, Int.not_le, not_or, not_and, Classical.not_not, ne_eq, not_true_eq_false, not_false_eq_true, sem_has19, L2.den]
  generalize dec a = l at hp ⊢
  refine ⟨fun xs => ∃ i : Nat, xs.getD 1 0 = (i : Int) ∧ i ≤ l.length ∧ ∀ j, j < i → hasT (l.getD j 0) [p0, p1, p2, p3, p4] = false, fun xs => l.length - (xs.getD 1 0).toNat, fun xs hx _ => vs_none (n := 2) hx, ⟨0, rfl, by omega, fun j hj => by omega⟩, ?_⟩
  intro xs hx hI
  obtain ⟨d0, d1, rfl⟩ := len2 hx
  obtain ⟨i, hi, hle, hall⟩ := hI
  simp only [List.getD_cons_zero, List.getD_cons_succ, List.cons_append, List.nil_append] at hi ⊢
  subst hi
  have hco : ∀ x j, (dec x).getD j 0 = co x j := fun _ _ => rfl
  simp only [Int.toNat_natCast, hco, show Int.toNat 0 = 0 from rfl, show Int.toNat 1 = 1 from rfl, show Int.toNat 2 = 2 from rfl, show Int.toNat 3 = 3 from rfl, show Int.toNat 4 = 4 from rfl, show Int.toNat 5 = 5 from rfl, show Int.toNat 6 = 6 from rfl, show Int.toNat 7 = 7 from rfl, show Int.toNat 8 = 8 from rfl, show Int.toNat 9 = 9 from rfl, show Int.toNat 10 = 10 from rfl, show Int.toNat 11 = 11 from rfl, show Int.toNat 12 = 12 from rfl, show Int.toNat 13 = 13 from rfl, show Int.toNat 14 = 14 from rfl]
  refine ⟨fun hge => ?_, fun hlt => ⟨by omega, fun hyes => ?_, fun hno => ?_⟩⟩
  · rw [any_upto hall (by omega)]
    rfl
  · rw [any_at (i := i) (by omega)]
    · rfl
    · simp only [hasT, List.cons.injEq, and_true, decide_eq_true_eq]
      generalize co (l.getD i 0) = f at *
      rcases hyes with h | h | h
      · exact .inl ⟨h.1.1, h.1.2.1, h.1.2.2, h.2.1, h.2.2⟩
      · exact .inr (.inl ⟨h.1.1, h.1.2.1, h.1.2.2, h.2.1, h.2.2⟩)
      · exact .inr (.inr ⟨h.1.1, h.1.2.1, h.1.2.2, h.2.1, h.2.2⟩)
  · have hw : IntKind.i64.wrap ((i : Int) + 1) = ((i + 1 : Nat) : Int) := by rw [wrap64 (by omega) (by omega)]; omega
    rw [hw]
    refine ⟨⟨i + 1, rfl, by omega, fun j hj => ?_⟩, by rw [Int.toNat_natCast]; omega⟩
    rcases Nat.lt_or_ge j i with h1 | h1
    · exact hall j h1
    · have : j = i := by omega
      subst this
      simp only [hasT, List.cons.injEq, and_true, decide_eq_false_iff_not]
      generalize co (l.getD j 0) = f at *
      rintro (h | h | h)
      · exact hno.1 ⟨h.1, h.2.1, h.2.2.1⟩ h.2.2.2.1 h.2.2.2.2
      · exact hno.2.1 ⟨h.1, h.2.1, h.2.2.1⟩ h.2.2.2.1 h.2.2.2.2
      · exact hno.2.2 ⟨h.1, h.2.1, h.2.2.1⟩ h.2.2.2.1 h.2.2.2.2)
theorem inf_has19 : InfOK s_has19 i_has19 := ⟨fun xs h => by
    have h1 : 1 ≤ xs.getD 0 0 ∧ xs.getD 0 0 ≤ 0 := h.2 0
    omega, fun vs xs h hp => vsOK_cons (b01_iv _) vsOK_nil⟩
end Go.Proofs.Ytjbkcjbjllmhfaa.fix
