/-
  Trees that are built: the definitions.
-/
import Derived.Test.YtgcoidbaoigkeaaKDefs
import Derived.Test.YtgcoidbaoigkeaaSwSp
import Derived.Test.YtgcoidbaoigkeaaRows
import Derived.Test.YtgcoidbaoigkeaaHRefit
set_option linter.unusedVariables false
namespace Go.Proofs.Ytgcoidbaoigkeaa.fix
open Go.RowKit Go.Sx

noncomputable def keyA (l : List Int) (ax : Nat) (x : Int) : Int := co (l.getD x.toNat 0) ax + co (l.getD x.toNat 0) (ax + 3)
noncomputable def ltK (l : List Int) (ax : Nat) (x y : Int) : Bool := decide (keyA l ax x < keyA l ax y ∨ (keyA l ax x = keyA l ax y ∧ x < y))
noncomputable def sortK (l : List Int) (ax : Nat) (s : List Int) : List Int := s.mergeSort fun x y => !ltK l ax y x
noncomputable def st_less (ax : Int) : St := { fr := [], mem := [⟨50, [.go (.a 0)], true⟩, ⟨37, [.go (.a 1)], true⟩, ⟨3, [.i .i64 (.c ax)], true⟩], rows := [], nv := 4, nx := 0, fl := 3, flr := 0, gl := gl0, hs := [(Bs_ks, .v 0), ([.i .i64], .v 1)] }
noncomputable def as_less : List SV := [Go.Sx.one (.i .i64 (.v 2)), Go.Sx.one (.i .i64 (.v 3)), Go.Sx.one (.p 0 0), Go.Sx.one (.p 1 0), Go.Sx.one (.p 2 0)]
noncomputable def T_less (ax : Int) : T := ownT Try.prog noLp [] 1000 79 (st_less ax) as_less fun F => doneK Try.prog F [Bo]
def pin_less : List (Option Iv) := [none, none, iv 0 1000, iv 0 1000]
end Go.Proofs.Ytgcoidbaoigkeaa.fix
set_option linter.unusedVariables false
set_option linter.unusedSimpArgs false
namespace Go.Proofs.Ytgcoidbaoigkeaa.fix
open Go.RowKit Go.Sx

def t_less0 : TX := (.asrt (.lt (.v 2) (.ln (.v 1))) (.asrt (.le (.c 0) (.l2 .at (.v 1) (.v 2))) (.asrt (.lt (.l2 .at (.v 1) (.v 2)) (.ln (.v 0))) (.asrt (.lt (.v 3) (.ln (.v 1))) (.asrt (.le (.c 0) (.l2 .at (.v 1) (.v 3))) (.asrt (.lt (.l2 .at (.v 1) (.v 3)) (.ln (.v 0))) (.ite (.not (.eq (.wr .i64 (.add (.l2 .at (.l2 .at (.v 0) (.l2 .at (.v 1) (.v 2))) (.c 0)) (.l2 .at (.l2 .at (.v 0) (.l2 .at (.v 1) (.v 2))) (.c 3)))) (.wr .i64 (.add (.l2 .at (.l2 .at (.v 0) (.l2 .at (.v 1) (.v 3))) (.c 0)) (.l2 .at (.l2 .at (.v 0) (.l2 .at (.v 1) (.v 3))) (.c 3)))))) (.ite (.lt (.wr .i64 (.add (.l2 .at (.l2 .at (.v 0) (.l2 .at (.v 1) (.v 2))) (.c 0)) (.l2 .at (.l2 .at (.v 0) (.l2 .at (.v 1) (.v 2))) (.c 3)))) (.wr .i64 (.add (.l2 .at (.l2 .at (.v 0) (.l2 .at (.v 1) (.v 3))) (.c 0)) (.l2 .at (.l2 .at (.v 0) (.l2 .at (.v 1) (.v 3))) (.c 3))))) (.ret [(.c 1)])
(.ret [(.c 0)]))
(.ite (.lt (.l2 .at (.v 1) (.v 2)) (.l2 .at (.v 1) (.v 3))) (.ret [(.c 1)])
(.ret [(.c 0)])))))))))
def t_less1 : TX := (.asrt (.lt (.v 2) (.ln (.v 1))) (.asrt (.le (.c 0) (.l2 .at (.v 1) (.v 2))) (.asrt (.lt (.l2 .at (.v 1) (.v 2)) (.ln (.v 0))) (.asrt (.lt (.v 3) (.ln (.v 1))) (.asrt (.le (.c 0) (.l2 .at (.v 1) (.v 3))) (.asrt (.lt (.l2 .at (.v 1) (.v 3)) (.ln (.v 0))) (.ite (.not (.eq (.wr .i64 (.add (.l2 .at (.l2 .at (.v 0) (.l2 .at (.v 1) (.v 2))) (.c 1)) (.l2 .at (.l2 .at (.v 0) (.l2 .at (.v 1) (.v 2))) (.c 4)))) (.wr .i64 (.add (.l2 .at (.l2 .at (.v 0) (.l2 .at (.v 1) (.v 3))) (.c 1)) (.l2 .at (.l2 .at (.v 0) (.l2 .at (.v 1) (.v 3))) (.c 4)))))) (.ite (.lt (.wr .i64 (.add (.l2 .at (.l2 .at (.v 0) (.l2 .at (.v 1) (.v 2))) (.c 1)) (.l2 .at (.l2 .at (.v 0) (.l2 .at (.v 1) (.v 2))) (.c 4)))) (.wr .i64 (.add (.l2 .at (.l2 .at (.v 0) (.l2 .at (.v 1) (.v 3))) (.c 1)) (.l2 .at (.l2 .at (.v 0) (.l2 .at (.v 1) (.v 3))) (.c 4))))) (.ret [(.c 1)])
(.ret [(.c 0)]))
(.ite (.lt (.l2 .at (.v 1) (.v 2)) (.l2 .at (.v 1) (.v 3))) (.ret [(.c 1)])
(.ret [(.c 0)])))))))))
def t_less2 : TX := (.asrt (.lt (.v 2) (.ln (.v 1))) (.asrt (.le (.c 0) (.l2 .at (.v 1) (.v 2))) (.asrt (.lt (.l2 .at (.v 1) (.v 2)) (.ln (.v 0))) (.asrt (.lt (.v 3) (.ln (.v 1))) (.asrt (.le (.c 0) (.l2 .at (.v 1) (.v 3))) (.asrt (.lt (.l2 .at (.v 1) (.v 3)) (.ln (.v 0))) (.ite (.not (.eq (.wr .i64 (.add (.l2 .at (.l2 .at (.v 0) (.l2 .at (.v 1) (.v 2))) (.c 2)) (.l2 .at (.l2 .at (.v 0) (.l2 .at (.v 1) (.v 2))) (.c 5)))) (.wr .i64 (.add (.l2 .at (.l2 .at (.v 0) (.l2 .at (.v 1) (.v 3))) (.c 2)) (.l2 .at (.l2 .at (.v 0) (.l2 .at (.v 1) (.v 3))) (.c 5)))))) (.ite (.lt (.wr .i64 (.add (.l2 .at (.l2 .at (.v 0) (.l2 .at (.v 1) (.v 2))) (.c 2)) (.l2 .at (.l2 .at (.v 0) (.l2 .at (.v 1) (.v 2))) (.c 5)))) (.wr .i64 (.add (.l2 .at (.l2 .at (.v 0) (.l2 .at (.v 1) (.v 3))) (.c 2)) (.l2 .at (.l2 .at (.v 0) (.l2 .at (.v 1) (.v 3))) (.c 5))))) (.ret [(.c 1)])
(.ret [(.c 0)]))
(.ite (.lt (.l2 .at (.v 1) (.v 2)) (.l2 .at (.v 1) (.v 3))) (.ret [(.c 1)])
(.ret [(.c 0)])))))))))
theorem tree_less0 : merge (optFL [] [] [] pin_less (T_less ((0 : Nat) : Int))) = t_less0 := by kernel_rfl
theorem tree_less1 : merge (optFL [] [] [] pin_less (T_less ((1 : Nat) : Int))) = t_less1 := by kernel_rfl
theorem tree_less2 : merge (optFL [] [] [] pin_less (T_less ((2 : Nat) : Int))) = t_less2 := by kernel_rfl
structure LessPre (cL cS i j : Int) : Prop where
  i0 : 0 ≤ i
  i1 : i < ((dec cS).length : Int)
  j0 : 0 ≤ j
  j1 : j < ((dec cS).length : Int)
  len : (dec cS).length ≤ 1000
  its : ∀ x ∈ dec cS, 0 ≤ x ∧ x < ((dec cL).length : Int)
  bxs : ∀ b ∈ dec cL, okBox b = true
theorem okBox_bd {b : Int} (h : okBox b = true) : ∀ k, k < 6 → -32768 ≤ co b k ∧ co b k ≤ 32768 := by
  unfold okBox at h
  rw [boxB_true] at h
  simp only [six6, List.getD_cons_zero, List.getD_cons_succ, Nat.zero_add] at h
  intro k hk
  match k, hk with
  | 0, _ => exact h.1.1
  | 1, _ => exact h.1.2.1
  | 2, _ => exact h.1.2.2
  | 3, _ => exact h.2.1.1
  | 4, _ => exact h.2.1.2.1
  | 5, _ => exact h.2.1.2.2
theorem less_sat {cL cS i j : Int} (h : LessPre cL cS i j) (ax : Nat) (hax : ax < 3) {T0 : T} (hT : T_less ax = T0) : T0.sat [] [] (fun ys => ys = [b01 (ltK (dec cL) ax ((dec cS).getD i.toNat 0) ((dec cS).getD j.toNat 0))]) [] [cL, cS, i, j] := by
  have hv : vsOK pin_less [cL, cS, i, j] := vsOK_cons trivial (vsOK_cons trivial (vsOK_cons ⟨h.i0, by have := h.i1; have := h.len; show i ≤ (1000 : Int); omega⟩ (vsOK_cons ⟨h.j0, by have := h.j1; have := h.len; show j ≤ (1000 : Int); omega⟩ vsOK_nil)))
  have hx := h.its _ (mem_at (l := dec cS) (i := i.toNat) (by have := h.i0; have := h.i1; omega))
  have hy := h.its _ (mem_at (l := dec cS) (i := j.toNat) (by have := h.j0; have := h.j1; omega))
  have bx := okBox_bd (h.bxs _ (mem_at (l := dec cL) (i := ((dec cS).getD i.toNat 0).toNat) (by omega)))
  have byy := okBox_bd (h.bxs _ (mem_at (l := dec cL) (i := ((dec cS).getD j.toNat 0).toNat) (by omega)))
  have i1 := h.i1
  have j1 := h.j1
  clear h
  have hco : ∀ x k, (dec x).getD k 0 = co x k := fun _ _ => rfl
  have key : ∀ (Ψ : List Int → Prop) (t : T) (tx : TX), merge (optFL [] [] [] pin_less t) = tx → tx.sat [] [] Ψ [] [cL, cS, i, j] → t.sat [] [] Ψ [] [cL, cS, i, j] := by
    rintro Ψ t tx rfl h
    exact optFL_sound outsOK_nil _ [] pin_less [] _ factsOK_nil hv (merge_sat _ _ _ h)
  have hcase : ax = 0 ∨ ax = 1 ∨ ax = 2 := by omega
  rcases hcase with hq | hq | hq
  · subst hq
    refine key _ _ t_less0 (by rw [← hT]; exact tree_less0) ?_
    clear key hv hT
    simp only [t_less0, TX.sat, XB.prop, X.den, List.map_cons, List.map_nil, List.getElem?_cons_zero, List.getElem?_cons_succ, List.cons_append, List.nil_append, List.getD_cons_zero, List.getD_cons_succ, mkS, mkP, and_true, true_and, Int.not_lt, Int.not_le, not_or, not_and, Classical.not_not, ne_eq, not_true_eq_false, not_false_eq_true, L2.den]
    generalize dec cS = S at *
    generalize dec cL = L at *
    simp only [hco, show Int.toNat 0 = 0 from rfl, show Int.toNat 3 = 3 from rfl]
    generalize S.getD i.toNat 0 = x at *
    generalize S.getD j.toNat 0 = y at *
    have k1 := bx 0 (by omega); have k2 := bx 3 (by omega); have k3 := byy 0 (by omega); have k4 := byy 3 (by omega)
    rw [wrap64 (by omega) (by omega), wrap64 (by omega) (by omega)]
    have hd : ltK L 0 x y = decide (co (L.getD x.toNat 0) 0 + co (L.getD x.toNat 0) 3 < co (L.getD y.toNat 0) 0 + co (L.getD y.toNat 0) 3 ∨ (co (L.getD x.toNat 0) 0 + co (L.getD x.toNat 0) 3 = co (L.getD y.toNat 0) 0 + co (L.getD y.toNat 0) 3 ∧ x < y)) := rfl
    rw [hd]
    refine ⟨by omega, by omega, by omega, by omega, by omega, by omega, fun hne => ⟨fun hl => ?_, fun hl => ?_⟩, fun heq => ⟨fun hl => ?_, fun hl => ?_⟩⟩
    · rw [decide_eq_true (by omega)]; rfl
    · rw [decide_eq_false (by omega)]; rfl
    · rw [decide_eq_true (by omega)]; rfl
    · rw [decide_eq_false (by omega)]; rfl
  · subst hq
    refine key _ _ t_less1 (by rw [← hT]; exact tree_less1) ?_
    clear key hv hT
    simp only [t_less1, TX.sat, XB.prop, X.den, List.map_cons, List.map_nil, List.getElem?_cons_zero, List.getElem?_cons_succ, List.cons_append, List.nil_append, List.getD_cons_zero, List.getD_cons_succ, mkS, mkP, and_true, true_and, Int.not_lt, Int.not_le, not_or, not_and, Classical.not_not, ne_eq, not_true_eq_false, not_false_eq_true, L2.den]
    generalize dec cS = S at *
    generalize dec cL = L at *
    simp only [hco, show Int.toNat 1 = 1 from rfl, show Int.toNat 4 = 4 from rfl]
    generalize S.getD i.toNat 0 = x at *
    generalize S.getD j.toNat 0 = y at *
    have k1 := bx 1 (by omega); have k2 := bx 4 (by omega); have k3 := byy 1 (by omega); have k4 := byy 4 (by omega)
    rw [wrap64 (by omega) (by omega), wrap64 (by omega) (by omega)]
    have hd : ltK L 1 x y = decide (co (L.getD x.toNat 0) 1 + co (L.getD x.toNat 0) 4 < co (L.getD y.toNat 0) 1 + co (L.getD y.toNat 0) 4 ∨ (co (L.getD x.toNat 0) 1 + co (L.getD x.toNat 0) 4 = co (L.getD y.toNat 0) 1 + co (L.getD y.toNat 0) 4 ∧ x < y)) := rfl
    rw [hd]
    refine ⟨by omega, by omega, by omega, by omega, by omega, by omega, fun hne => ⟨fun hl => ?_, fun hl => ?_⟩, fun heq => ⟨fun hl => ?_, fun hl => ?_⟩⟩
    · rw [decide_eq_true (by omega)]; rfl
    · rw [decide_eq_false (by omega)]; rfl
    · rw [decide_eq_true (by omega)]; rfl
    · rw [decide_eq_false (by omega)]; rfl
  · subst hq
    refine key _ _ t_less2 (by rw [← hT]; exact tree_less2) ?_
    clear key hv hT
    simp only [t_less2, TX.sat, XB.prop, X.den, List.map_cons, List.map_nil, List.getElem?_cons_zero, List.getElem?_cons_succ, List.cons_append, List.nil_append, List.getD_cons_zero, List.getD_cons_succ, mkS, mkP, and_true, true_and, Int.not_lt, Int.not_le, not_or, not_and, Classical.not_not, ne_eq, not_true_eq_false, not_false_eq_true, L2.den]
    generalize dec cS = S at *
    generalize dec cL = L at *
    simp only [hco, show Int.toNat 2 = 2 from rfl, show Int.toNat 5 = 5 from rfl]
    generalize S.getD i.toNat 0 = x at *
    generalize S.getD j.toNat 0 = y at *
    have k1 := bx 2 (by omega); have k2 := bx 5 (by omega); have k3 := byy 2 (by omega); have k4 := byy 5 (by omega)
    rw [wrap64 (by omega) (by omega), wrap64 (by omega) (by omega)]
    have hd : ltK L 2 x y = decide (co (L.getD x.toNat 0) 2 + co (L.getD x.toNat 0) 5 < co (L.getD y.toNat 0) 2 + co (L.getD y.toNat 0) 5 ∨ (co (L.getD x.toNat 0) 2 + co (L.getD x.toNat 0) 5 = co (L.getD y.toNat 0) 2 + co (L.getD y.toNat 0) 5 ∧ x < y)) := rfl
    rw [hd]
    refine ⟨by omega, by omega, by omega, by omega, by omega, by omega, fun hne => ⟨fun hl => ?_, fun hl => ?_⟩, fun heq => ⟨fun hl => ?_, fun hl => ?_⟩⟩
    · rw [decide_eq_true (by omega)]; rfl
    · rw [decide_eq_false (by omega)]; rfl
    · rw [decide_eq_true (by omega)]; rfl
    · rw [decide_eq_false (by omega)]; rfl

theorem less_c {w : World} {b4 b5 b11 : Nat} {vL vS : Value} {cL cS i j : Int} {ax : Nat} (hax : ax < 3) (hgl : GlOK gl0 w) (h4 : w.heap[b4]? = some (.cells #[vL] 50 (0, 0))) (h5 : w.heap[b5]? = some (.cells #[vS] 37 (0, 0)))
    (h11 : w.heap[b11]? = some (.cells #[.int .i64 ax] 3 (0, 0))) (n1 : b4 ≠ b5) (n2 : b4 ≠ b11) (n3 : b5 ≠ b11) (hL : SlOK w Bs_ks vL cL) (hS : SlOK w [.i .i64] vS cS) (hp : LessPre cL cS i j) :
    Calls Try.prog 79 #[.int .i64 i, .int .i64 j, .pointer (some ⟨b4, 0, none⟩), .pointer (some ⟨b5, 0, none⟩), .pointer (some ⟨b11, 0, none⟩)] w fun x w' =>
      x = .returned (.bool (ltK (dec cL) ax ((dec cS).getD i.toNat 0) ((dec cS).getD j.toNat 0))) ∧ Below w.heap.size w w' := by
  obtain ⟨aL, lL, kL, rfl⟩ := hL.slice
  obtain ⟨aS, lS, kS, rfl⟩ := hS.slice
  have hrep : Rep ⟨[cL, cS, i, j], [b4, b5, b11], [], [], [.slice aL lL kL, .slice aS lS kS]⟩ ⟨w, fun _ => False⟩ (st_less ax) w := by
    refine ⟨BelowX.refl _, rfl, rfl, rfl, rfl, ?_, ?_, ?_, ?_, ?_, ?_, ?_, ⟨hgl, fun _ _ _ hh => hh⟩, ?_⟩
    · intro n b hb hl
      match n, hb with
      | 0, hb => simp only [st_less, List.getElem?_cons_zero, Option.some.injEq] at hb; subst hb; exact h4
      | 1, hb => simp only [st_less, List.getElem?_cons_succ, List.getElem?_cons_zero, Option.some.injEq] at hb; subst hb; exact h5
      | 2, hb => simp only [st_less, List.getElem?_cons_succ, List.getElem?_cons_zero, Option.some.injEq] at hb; subst hb; exact h11
      | n + 3, hb => simp [st_less] at hb
    · intro n b hb hl hfl
      have : n < 3 := (List.getElem?_eq_some_iff.1 hb).1
      have hfl : 3 ≤ n := hfl
      omega
    · intro n m b c hb hc _ _ he
      have hn : n < 3 := (List.getElem?_eq_some_iff.1 hb).1
      have hm : m < 3 := (List.getElem?_eq_some_iff.1 hc).1
      match n, m, hn, hm, he with
      | 0, 0, _, _, _ => rfl
      | 1, 1, _, _, _ => rfl
      | 2, 2, _, _, _ => rfl
      | 0, 1, _, _, he => exact absurd he n1
      | 1, 0, _, _, he => exact absurd he.symm n1
      | 0, 2, _, _, he => exact absurd he n2
      | 2, 0, _, _, he => exact absurd he.symm n2
      | 1, 2, _, _, he => exact absurd he n3
      | 2, 1, _, _, he => exact absurd he.symm n3
    · intro n b hb; simp [st_less] at hb
    · intro n b hb; simp [st_less] at hb
    · intro n m b c k hb; simp [st_less] at hb
    · intro n m b c _ hb; simp [st_less] at hb
    · intro n ks c hi
      match n, hi with
      | 0, hi => simp only [st_less, List.getElem?_cons_zero, Option.some.injEq, Prod.mk.injEq] at hi; obtain ⟨rfl, rfl⟩ := hi; exact hL.toN rfl
      | 1, hi => simp only [st_less, List.getElem?_cons_succ, List.getElem?_cons_zero, Option.some.injEq, Prod.mk.injEq] at hi; obtain ⟨rfl, rfl⟩ := hi; exact hS.toN rfl
      | n + 2, hi => simp [st_less] at hi
  obtain ⟨T0, hT⟩ : ∃ T0, T_less ax = T0 := ⟨_, rfl⟩
  have hs := less_sat hp ax hax hT
  have hc := ownT_done' (Γ := []) (Ψ := fun ys => ys = [b01 (ltK (dec cL) ax ((dec cS).getD i.toNat 0) ((dec cS).getD j.toNat 0))]) facts.mixed noG (lp := noLp) (fuel := 1000) (fn := 79) (args := as_less) (rs := [Bo]) hrep rfl hT hs
  refine hc.mono ?_
  rintro x w' ⟨ys, v, rfl, rfl, hres, hb⟩
  refine ⟨?_, hb.below⟩
  rw [ResOK_flat (by rfl) hres]
  cases ltK (dec cL) ax ((dec cS).getD i.toNat 0) ((dec cS).getD j.toNat 0) <;> rfl
#print axioms less_c
end Go.Proofs.Ytgcoidbaoigkeaa.fix
