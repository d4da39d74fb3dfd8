/-
  What becomes of lists of points.
-/
import Derived.Test.YtjbkcjbjllmhfaaZBoxR
import Derived.Test.YtjbkcjbjllmhfaaZDefsL
set_option linter.unusedVariables false
set_option linter.unusedSimpArgs false
namespace Go.Proofs.Ytjbkcjbjllmhfaa.fix
open Go.RowKit Go.Sx

noncomputable def G_bof : List Sum := []
def I_bof : List Inf := []
def t_bof : TX := (.ite (.or (.eq (.ln (.v 0)) (.c 0)) (.lt (.c 4096) (.ln (.v 0)))) (.ret [(.c 0), (.c 0), (.c 0), (.c 0), (.c 0), (.c 0), (.c 4)])
(.loop 8 [none, none, none, none, none, none, none, none] [(.c 0), (.c 0), (.c 0), (.c 0), (.c 0), (.c 0), (.c 0), (.c 0)] (.ite (.lt (.v 2) (.ln (.v 0))) (.asrt (.le (.c 0) (.v 2)) (.ite (.or (.or (.lt (.l2 .at (.l2 .at (.v 0) (.v 2)) (.c 0)) (.c (-32768))) (.lt (.c 32768) (.l2 .at (.l2 .at (.v 0) (.v 2)) (.c 0)))) (.or (.or (.lt (.l2 .at (.l2 .at (.v 0) (.v 2)) (.c 1)) (.c (-32768))) (.lt (.c 32768) (.l2 .at (.l2 .at (.v 0) (.v 2)) (.c 1)))) (.or (.lt (.l2 .at (.l2 .at (.v 0) (.v 2)) (.c 2)) (.c (-32768))) (.lt (.c 32768) (.l2 .at (.l2 .at (.v 0) (.v 2)) (.c 2)))))) (.ret [(.c 0), (.c 0), (.c 0), (.c 0), (.c 0), (.c 0), (.c 20)])
(.back 0 [(.v 1), (.wr .i64 (.add (.v 2) (.c 1))), (.v 3), (.v 4), (.v 5), (.v 6), (.v 7), (.v 8)])))
(.asrt (.lt (.c 0) (.ln (.v 0))) (.asrt (.le (.c 1) (.ln (.v 0))) (.asrt (.le (.ln (.v 0)) (.ln (.v 0))) (.loop 7 [none, none, none, none, none, none, none] [(.c 0), (.l2 .at (.l2 .at (.v 0) (.c 0)) (.c 0)), (.l2 .at (.l2 .at (.v 0) (.c 0)) (.c 1)), (.l2 .at (.l2 .at (.v 0) (.c 0)) (.c 2)), (.l2 .at (.l2 .at (.v 0) (.c 0)) (.c 0)), (.l2 .at (.l2 .at (.v 0) (.c 0)) (.c 1)), (.l2 .at (.l2 .at (.v 0) (.c 0)) (.c 2))] (.ite (.le (.wr .i64 (.sub (.ln (.v 0)) (.c 1))) (.v 9)) (.ret [(.v 10), (.v 11), (.v 12), (.v 13), (.v 14), (.v 15), (.c 0)])
(.asrt (.le (.c 0) (.v 9)) (.asrt (.le (.c 0) (.wr .i64 (.add (.c 1) (.v 9)))) (.asrt (.lt (.wr .i64 (.add (.c 1) (.v 9))) (.ln (.v 0))) (.back 1 [(.wr .i64 (.add (.v 9) (.c 1))), (.mn (.v 10) (.l2 .at (.l2 .at (.v 0) (.wr .i64 (.add (.c 1) (.v 9)))) (.c 0))), (.mn (.v 11) (.l2 .at (.l2 .at (.v 0) (.wr .i64 (.add (.c 1) (.v 9)))) (.c 1))), (.mn (.v 12) (.l2 .at (.l2 .at (.v 0) (.wr .i64 (.add (.c 1) (.v 9)))) (.c 2))), (.mx (.v 13) (.l2 .at (.l2 .at (.v 0) (.wr .i64 (.add (.c 1) (.v 9)))) (.c 0))), (.mx (.v 14) (.l2 .at (.l2 .at (.v 0) (.wr .i64 (.add (.c 1) (.v 9)))) (.c 1))), (.mx (.v 15) (.l2 .at (.l2 .at (.v 0) (.wr .i64 (.add (.c 1) (.v 9)))) (.c 2)))]))))))))))))
theorem tree_bof : merge (optFL [] I_bof [] [none] (symFnL Try.prog (openAt Try.prog [(4, 20), (11, 52)]) gl0 G_bof 1000 18 [Vs] [An 6, I1])) = t_bof := by kernel_rfl
theorem g_bof : Gok Try.prog G_bof := noG
theorem o_bof : outsOK G_bof I_bof := outsOK_nil
noncomputable def G_rbof : List Sum := []
def I_rbof : List Inf := []
def t_rbof : TX := (.ite (.or (.lt (.ln (.v 0)) (.c 1)) (.lt (.c 4096) (.ln (.v 0)))) (.ret [(.c 0), (.c 0), (.c 0), (.c 0), (.c 0), (.c 0), (.c 4)])
(.loop 8 [none, none, none, none, none, none, none, none] [(.c 0), (.c 0), (.c 0), (.c 0), (.c 0), (.c 0), (.c 0), (.c 0)] (.ite (.lt (.v 2) (.ln (.v 0))) (.asrt (.le (.c 0) (.v 2)) (.ite (.or (.or (.lt (.l2 .at (.l2 .at (.v 0) (.v 2)) (.c 0)) (.c (-32768))) (.lt (.c 32768) (.l2 .at (.l2 .at (.v 0) (.v 2)) (.c 0)))) (.or (.or (.lt (.l2 .at (.l2 .at (.v 0) (.v 2)) (.c 1)) (.c (-32768))) (.lt (.c 32768) (.l2 .at (.l2 .at (.v 0) (.v 2)) (.c 1)))) (.or (.lt (.l2 .at (.l2 .at (.v 0) (.v 2)) (.c 2)) (.c (-32768))) (.lt (.c 32768) (.l2 .at (.l2 .at (.v 0) (.v 2)) (.c 2)))))) (.ret [(.c 0), (.c 0), (.c 0), (.c 0), (.c 0), (.c 0), (.c 20)])
(.back 0 [(.v 1), (.wr .i64 (.add (.v 2) (.c 1))), (.v 3), (.v 4), (.v 5), (.v 6), (.v 7), (.v 8)])))
(.asrt (.lt (.c 0) (.ln (.v 0))) (.loop 7 [none, none, none, none, none, none, none] [(.c 1), (.l2 .at (.l2 .at (.v 0) (.c 0)) (.c 0)), (.l2 .at (.l2 .at (.v 0) (.c 0)) (.c 1)), (.l2 .at (.l2 .at (.v 0) (.c 0)) (.c 2)), (.l2 .at (.l2 .at (.v 0) (.c 0)) (.c 0)), (.l2 .at (.l2 .at (.v 0) (.c 0)) (.c 1)), (.l2 .at (.l2 .at (.v 0) (.c 0)) (.c 2))] (.ite (.le (.ln (.v 0)) (.v 9)) (.ret [(.v 10), (.v 11), (.v 12), (.v 13), (.v 14), (.v 15), (.c 0)])
(.asrt (.le (.c 0) (.v 9)) (.back 1 [(.wr .i64 (.add (.v 9) (.c 1))), (.mn (.v 10) (.l2 .at (.l2 .at (.v 0) (.v 9)) (.c 0))), (.mn (.v 11) (.l2 .at (.l2 .at (.v 0) (.v 9)) (.c 1))), (.mn (.v 12) (.l2 .at (.l2 .at (.v 0) (.v 9)) (.c 2))), (.mx (.v 13) (.l2 .at (.l2 .at (.v 0) (.v 9)) (.c 0))), (.mx (.v 14) (.l2 .at (.l2 .at (.v 0) (.v 9)) (.c 1))), (.mx (.v 15) (.l2 .at (.l2 .at (.v 0) (.v 9)) (.c 2)))]))))))))
theorem tree_rbof : merge (optFL [] I_rbof [] [none] (symFnL Try.prog (openAt Try.prog [(4, 14), (3, 12)]) gl0 G_rbof 1000 19 [Vs] [An 6, I1])) = t_rbof := by kernel_rfl
theorem g_rbof : Gok Try.prog G_rbof := noG
theorem o_rbof : outsOK G_rbof I_rbof := outsOK_nil

theorem tn0 : Int.toNat 0 = 0 := rfl
theorem tn1 : Int.toNat 1 = 1 := rfl
theorem tn2 : Int.toNat 2 = 2 := rfl
theorem vs_none {n : Nat} {xs : List Int} (h : xs.length = n) : vsOK (List.replicate n none) xs := by
  refine ⟨by simp [h], fun i => ?_⟩
  have : (List.replicate n (none : Option Iv)).getD i none = none := by
    simp only [List.getD, List.getElem?_replicate]
    split <;> rfl
  rw [this]
  trivial

theorem okP_iff (x : Int) : okP x = true ↔ ((-32768 ≤ co x 0 ∧ co x 0 ≤ 32768) ∧ (-32768 ≤ co x 1 ∧ co x 1 ≤ 32768) ∧ (-32768 ≤ co x 2 ∧ co x 2 ≤ 32768)) := by
  unfold okP
  exact decide_eq_true_iff

theorem all_upto {p : Int → Bool} {l : List Int} {i : Nat} (h : ∀ j, j < i → p (l.getD j 0) = true) (hi : l.length ≤ i) : l.all p = true := by
  rw [List.all_eq_true]
  intro x hx
  obtain ⟨j, hj, rfl⟩ := List.getElem_of_mem hx
  have := h j (by omega)
  rwa [show l.getD j 0 = l[j] by simp [List.getD, hj]] at this
theorem not_all {p : Int → Bool} {l : List Int} {i : Nat} (hi : i < l.length) (h : ¬ p (l.getD i 0) = true) : ¬ l.all p = true := by
  rw [List.all_eq_true]
  intro hh
  refine h (hh _ ?_)
  rw [show l.getD i 0 = l[i] by simp [List.getD, hi]]
  exact List.getElem_mem hi

/-- The least box of the first points. -/
noncomputable def upto (l : List Int) (i : Nat) : List Int := leastL (l.take i)

theorem leastL_len : ∀ l : List Int, (leastL l).length = 6
  | [] => rfl
  | x :: l => by
    have : ∀ (l : List Int) (b : List Int), b.length = 6 → (l.foldl joinV b).length = 6 := by
      intro l
      induction l with
      | nil => intro b h; exact h
      | cons y l ih => intro b h; exact ih _ rfl
    exact this l _ rfl

theorem upto_one {l : List Int} (h : 0 < l.length) : upto l 1 = boxV (l.getD 0 0) := by
  match l, h with
  | x :: l, _ => rfl

theorem upto_succ {l : List Int} {i : Nat} (h1 : 1 ≤ i) (h2 : i < l.length) : upto l (i + 1) = joinV (upto l i) (l.getD i 0) := by
  unfold upto
  rw [List.take_succ_eq_append_getElem h2]
  have : l.take i ≠ [] := by
    intro h
    have := congrArg List.length h
    rw [List.length_take, List.length_nil] at this
    omega
  match hl : l.take i, this with
  | x :: m, _ =>
    simp only [List.cons_append, leastL, List.foldl_append, List.foldl_cons, List.foldl_nil]
    rw [show l.getD i 0 = l[i] by simp [List.getD, h2]]

theorem upto_all (l : List Int) : upto l l.length = leastL l := by unfold upto; rw [List.take_length]

theorem ex7_of {l : List Int} (h : l.length = 7) : ex7 l = l := by
  obtain ⟨a0, a1, a2, a3, a4, a5, a6, rfl⟩ := len7 h
  rfl

theorem ofL_len (l : List Int) : (ofL l).length = 7 := by
  unfold ofL
  split
  · split
    · simp [leastL_len]
    · rfl
  · rfl

theorem six {l : List Int} (h : l.length = 6) : l = [l.getD 0 0, l.getD 1 0, l.getD 2 0, l.getD 3 0, l.getD 4 0, l.getD 5 0] := by
  match l, h with
  | [a, b, c, d, e, f], _ => rfl

theorem sat_bof (c : Int) : t_bof.sat G_bof [] (fun ys => ys = sem_bof [c]) [] [c] := by
  have hsem : sem_bof [c] = ofL (dec c) := ex7_of (ofL_len _)
  rw [hsem]
  generalize hl : dec c = l
  simp only [t_bof, TX.sat, XB.prop, X.den, L2.den, List.map_cons, List.map_nil, List.getD_cons_zero, List.getD_cons_succ, List.cons_append, List.nil_append, hl]
  refine ⟨fun h => ?_, fun h => ?_⟩
  · unfold ofL
    rw [if_neg (by omega)]
  have hlen : 1 ≤ l.length ∧ l.length ≤ 4096 := by omega
  refine ⟨fun xs => ∃ i : Nat, xs.getD 1 0 = (i : Int) ∧ i ≤ l.length ∧ ∀ j, j < i → okP (l.getD j 0) = true, fun xs => l.length - (xs.getD 1 0).toNat, fun xs hx _ => vs_none hx, ⟨0, rfl, by omega, fun j hj => by omega⟩, ?_⟩
  intro xs hx hI
  obtain ⟨a0, a1, a2, a3, a4, a5, a6, a7, rfl⟩ := len8 hx
  obtain ⟨i, hi, hle, hall⟩ := hI
  simp only [List.getD_cons_zero, List.getD_cons_succ, List.cons_append, List.nil_append, List.getElem?_cons_zero] at hi ⊢
  subst hi
  refine ⟨fun hlt => ⟨by omega, fun hbad => ?_, fun hgood => ?_⟩, fun hge => ⟨by omega, by omega, Int.le_refl _, ?_⟩⟩
  · unfold ofL
    rw [if_pos hlen, if_neg (not_all (i := i) (by omega) ?_)]
    rw [okP_iff]
    simp only [co]
    simp only [Int.toNat_natCast, tn0, tn1, tn2] at hbad
    omega
  · rw [wrap64 (by omega) (by omega)]
    refine ⟨⟨i + 1, by omega, by omega, fun j hj => ?_⟩, by simp only [Int.toNat_natCast]; omega⟩
    rcases Nat.lt_or_ge j i with h1 | h1
    · exact hall j h1
    · have : j = i := by omega
      subst this
      rw [okP_iff]
      simp only [co]
      simp only [Int.toNat_natCast, tn0, tn1, tn2] at hgood
      omega
  · have hok : l.all okP = true := all_upto hall (by omega)
    have hw : IntKind.i64.wrap ((l.length : Int) - 1) = (l.length : Int) - 1 := wrap64 (by omega) (by omega)
    refine ⟨fun xs => ∃ i : Nat, xs.getD 0 0 = (i : Int) ∧ i + 1 ≤ l.length ∧ xs.drop 1 = upto l (i + 1), fun xs => l.length - (xs.getD 0 0).toNat, fun xs hx _ => vs_none hx, ⟨0, rfl, by omega, ?_⟩, ?_⟩
    · rw [upto_one (by omega)]
      simp [boxV, co]
    · intro ys hy hJ
      obtain ⟨b0, b1, b2, b3, b4, b5, b6, rfl⟩ := len7 hy
      obtain ⟨k, hk, hkl, hbox⟩ := hJ
      simp only [List.getD_cons_zero, List.getD_cons_succ, List.cons_append, List.nil_append, List.getElem?_cons_zero, List.getElem?_cons_succ, List.drop_succ_cons, List.drop_zero] at hk hbox ⊢
      subst hk
      rw [hw]
      refine ⟨fun hend => ?_, fun hgo => ?_⟩
      · unfold ofL
        rw [if_pos hlen, if_pos hok, ← upto_all, show l.length = k + 1 by omega, ← hbox]
        rfl
      · have h1 : IntKind.i64.wrap (1 + (k : Int)) = ((k + 1 : Nat) : Int) := by rw [wrap64 (by omega) (by omega)]; omega
        have h2 : IntKind.i64.wrap ((k : Int) + 1) = ((k + 1 : Nat) : Int) := by rw [wrap64 (by omega) (by omega)]; omega
        rw [h1, h2]
        refine ⟨by omega, by omega, by omega, ⟨k + 1, rfl, by omega, ?_⟩, by simp only [Int.toNat_natCast]; omega⟩
        rw [upto_succ (by omega) (by omega), ← hbox]
        simp [joinV, co]

theorem sat_rbof (c : Int) : t_rbof.sat G_rbof [] (fun ys => ys = sem_rbof [c]) [] [c] := by
  have hsem : sem_rbof [c] = ofL (dec c) := ex7_of (ofL_len _)
  rw [hsem]
  generalize hl : dec c = l
  simp only [t_rbof, TX.sat, XB.prop, X.den, L2.den, List.map_cons, List.map_nil, List.getD_cons_zero, List.getD_cons_succ, List.cons_append, List.nil_append, hl]
  refine ⟨fun h => ?_, fun h => ?_⟩
  · unfold ofL
    rw [if_neg (by omega)]
  have hlen : 1 ≤ l.length ∧ l.length ≤ 4096 := by omega
  refine ⟨fun xs => ∃ i : Nat, xs.getD 1 0 = (i : Int) ∧ i ≤ l.length ∧ ∀ j, j < i → okP (l.getD j 0) = true, fun xs => l.length - (xs.getD 1 0).toNat, fun xs hx _ => vs_none hx, ⟨0, rfl, by omega, fun j hj => by omega⟩, ?_⟩
  intro xs hx hI
  obtain ⟨a0, a1, a2, a3, a4, a5, a6, a7, rfl⟩ := len8 hx
  obtain ⟨i, hi, hle, hall⟩ := hI
  simp only [List.getD_cons_zero, List.getD_cons_succ, List.cons_append, List.nil_append, List.getElem?_cons_zero] at hi ⊢
  subst hi
  refine ⟨fun hlt => ⟨by omega, fun hbad => ?_, fun hgood => ?_⟩, fun hge => ⟨by omega, ?_⟩⟩
  · unfold ofL
    rw [if_pos hlen, if_neg (not_all (i := i) (by omega) ?_)]
    rw [okP_iff]
    simp only [co]
    simp only [Int.toNat_natCast, tn0, tn1, tn2] at hbad
    omega
  · rw [wrap64 (by omega) (by omega)]
    refine ⟨⟨i + 1, by omega, by omega, fun j hj => ?_⟩, by simp only [Int.toNat_natCast]; omega⟩
    rcases Nat.lt_or_ge j i with h1 | h1
    · exact hall j h1
    · have : j = i := by omega
      subst this
      rw [okP_iff]
      simp only [co]
      simp only [Int.toNat_natCast, tn0, tn1, tn2] at hgood
      omega
  · have hok : l.all okP = true := all_upto hall (by omega)
    refine ⟨fun xs => ∃ i : Nat, xs.getD 0 0 = ((i + 1 : Nat) : Int) ∧ i + 1 ≤ l.length ∧ xs.drop 1 = upto l (i + 1), fun xs => l.length - (xs.getD 0 0).toNat, fun xs hx _ => vs_none hx, ⟨0, rfl, by omega, ?_⟩, ?_⟩
    · rw [upto_one (by omega)]
      simp [boxV, co]
    · intro ys hy hJ
      obtain ⟨b0, b1, b2, b3, b4, b5, b6, rfl⟩ := len7 hy
      obtain ⟨k, hk, hkl, hbox⟩ := hJ
      simp only [List.getD_cons_zero, List.getD_cons_succ, List.cons_append, List.nil_append, List.getElem?_cons_zero, List.getElem?_cons_succ, List.drop_succ_cons, List.drop_zero] at hk hbox ⊢
      subst hk
      refine ⟨fun hend => ?_, fun hgo => ?_⟩
      · unfold ofL
        rw [if_pos hlen, if_pos hok, ← upto_all, show l.length = k + 1 by omega, ← hbox]
        rfl
      · have h2 : IntKind.i64.wrap (((k + 1 : Nat) : Int) + 1) = ((k + 1 + 1 : Nat) : Int) := by rw [wrap64 (by omega) (by omega)]; omega
        rw [h2]
        refine ⟨by omega, ⟨k + 1, rfl, by omega, ?_⟩, by simp only [Int.toNat_natCast]; omega⟩
        rw [upto_succ (by omega) (by omega), ← hbox]
        simp [joinV, co]

theorem len1 {xs : List Int} (h : xs.length = 1) : ∃ a, xs = [a] := by
  match xs, h with
  | [a], _ => exact ⟨a, rfl⟩

theorem ok_bof : s_bof.ok Try.prog := Sum.okF facts.mixed g_bof o_bof tree_bof rfl (fun _ => rfl) (by
  intro xs hx hp
  obtain ⟨a, rfl⟩ := len1 hx
  exact sat_bof a)
theorem ok_rbof : s_rbof.ok Try.prog := Sum.okF facts.mixed g_rbof o_rbof tree_rbof rfl (fun _ => rfl) (by
  intro xs hx hp
  obtain ⟨a, rfl⟩ := len1 hx
  exact sat_rbof a)

/-- A box's numbers lie where points may. -/
def in6 (b : List Int) : Prop := ∀ j, j < 6 → -32768 ≤ b.getD j 0 ∧ b.getD j 0 ≤ 32768

theorem in6_of {a0 a1 a2 a3 a4 a5 : Int} (h0 : -32768 ≤ a0 ∧ a0 ≤ 32768) (h1 : -32768 ≤ a1 ∧ a1 ≤ 32768) (h2 : -32768 ≤ a2 ∧ a2 ≤ 32768) (h3 : -32768 ≤ a3 ∧ a3 ≤ 32768) (h4 : -32768 ≤ a4 ∧ a4 ≤ 32768) (h5 : -32768 ≤ a5 ∧ a5 ≤ 32768) : in6 [a0, a1, a2, a3, a4, a5] := by
  intro j hj
  match j, hj with
  | 0, _ => exact h0
  | 1, _ => exact h1
  | 2, _ => exact h2
  | 3, _ => exact h3
  | 4, _ => exact h4
  | 5, _ => exact h5

theorem least_in {l : List Int} (h : l.all okP = true) (hn : l ≠ []) : in6 (leastL l) := by
  match l, hn with
  | x :: l, _ =>
    simp only [List.all_cons, Bool.and_eq_true] at h
    have key : ∀ (l : List Int) (b : List Int), l.all okP = true → in6 b → in6 (l.foldl joinV b) := by
      intro l
      induction l with
      | nil => intro b _ hb; exact hb
      | cons y l ih =>
        intro b hl hb
        simp only [List.all_cons, Bool.and_eq_true] at hl
        have hy := (okP_iff y).1 hl.1
        refine ih _ hl.2 ?_
        have q0 := hb 0 (by omega)
        have q1 := hb 1 (by omega)
        have q2 := hb 2 (by omega)
        have q3 := hb 3 (by omega)
        have q4 := hb 4 (by omega)
        have q5 := hb 5 (by omega)
        exact in6_of (by omega) (by omega) (by omega) (by omega) (by omega) (by omega)
    refine key l _ h.2 ?_
    have hx := (okP_iff x).1 h.1
    exact in6_of hx.1 hx.2.1 hx.2.2 hx.1 hx.2.1 hx.2.2

theorem of_iv (l : List Int) : vsOK (ivs 6 (-32768) 32768 ++ [iv 0 20]) (ex7 (ofL l)) := by
  have key : ∀ (b : List Int) (e : Int), b.length = 6 → in6 b → 0 ≤ e ∧ e ≤ 20 → vsOK (ivs 6 (-32768) 32768 ++ [iv 0 20]) (ex7 (b ++ [e])) := by
    intro b e hb h he
    rw [ex7_of (by simp [hb])]
    rw [six hb]
    exact vsOK_cons (h 0 (by omega)) (vsOK_cons (h 1 (by omega)) (vsOK_cons (h 2 (by omega)) (vsOK_cons (h 3 (by omega)) (vsOK_cons (h 4 (by omega)) (vsOK_cons (h 5 (by omega)) (vsOK_cons he vsOK_nil))))))
  have z6 : in6 [0, 0, 0, 0, 0, 0] := in6_of (by omega) (by omega) (by omega) (by omega) (by omega) (by omega)
  unfold ofL
  split
  · rename_i hlen
    split
    · rename_i hok
      exact key _ 0 (leastL_len l) (least_in hok (by intro h; rw [h] at hlen; simp at hlen)) (by omega)
    · exact key [0, 0, 0, 0, 0, 0] 20 rfl z6 (by omega)
  · exact key [0, 0, 0, 0, 0, 0] 4 rfl z6 (by omega)

theorem inf_bof : InfOK s_bof i_bof := ⟨fun xs h => h, fun vs xs h hp => of_iv _⟩
theorem inf_rbof : InfOK s_rbof i_rbof := ⟨fun xs h => h, fun vs xs h hp => of_iv _⟩
end Go.Proofs.Ytjbkcjbjllmhfaa.fix
