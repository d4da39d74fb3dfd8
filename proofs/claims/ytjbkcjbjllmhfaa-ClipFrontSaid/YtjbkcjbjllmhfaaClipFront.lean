/-
  The law ClipFront is answered with true, whatever its arguments, which stay as they were.
-/
import Derived.Test.YtjbkcjbjllmhfaaRows
import Derived.Test.YtjbkcjbjllmhfaaZFacts
import Derived.Test.YtjbkcjbjllmhfaaZFrontA
import Derived.Test.YtjbkcjbjllmhfaaZFrontB
set_option linter.unusedVariables false
set_option linter.unusedSimpArgs false
namespace Go.Proofs.Ytjbkcjbjllmhfaa.clipFront
open Go.RowKit Go.ChangeShapes Go.WideShapes Go.ChangeAt Go.Sx fix

theorem range_nil : rangeOK [] [] := trivial
/-- A law that its plain tree shows true, where some is known. -/
theorem lawFLf {P : Program} {Γ : List Sum} (hm : P.follows .mixedOrders = true) (hG : Gok P Γ) {lp : St → Code → Option Plan} {lv : List (Nat × List (Option Iv))} {gl : List (Nat × List Int)} {fuel : Nat} {fn : FuncId} {ps : List Sh} {outs : List Inf} {fs : List Fact} {vs : List (Option Iv)} {t : TX} (ho : outsOK Γ outs)
    (ht : merge (optFL lv outs fs vs (symFnL P lp gl Γ fuel fn ps [Bo])) = t) {xs : List Int} {us : List Value} (w : World) (hx : ShsR (fun _ ks u n => SlOK w ks u n) ps us xs) (hf : factsOK [] fs xs)
    (hv : vsOK vs xs) (hs : t.sat Γ [] (fun ys => ys = [1]) [] xs) (hgl : GlOK gl w) :
    Calls P fn us.toArray w fun e w' => e = .returned (.bool true) ∧ Below w.heap.size w w' := by
  subst ht
  exact law_trueL hm hG rfl w hx (optFL_sound ho _ fs vs [] xs hf hv (merge_sat _ _ _ hs)) hgl
def tF (w : Int) : TX := (.callp 0 [] (.callp 1 [(.v 0), (.v 1), (.v 2), (.v 3), (.v 4), (.v 5), (.v 6), (.v 7), (.v 8), (.v 9), (.v 10), (.v 11), (.v 12), (.v 13), (.v 14), (.v 15)] (.ite (.not (.eq (.v 18) (.c 0))) (.ite (.and (.nz (.v 16)) (.eq (.ln (.v 17)) (.c 0))) (.ret [(.c 1)])
(.ret [(.c 0)]))
(.ite (.not (.eq (.ln (.v 17)) (.c w))) (.ret [(.c 0)])
(.loop 2 [none, none] [(.c 0), (.c 0)] (.ite (.le (.ln (.v 17)) (.v 20)) (.ret [(.c 1)])
(.asrt (.le (.c 0) (.v 20)) (.ite (.or (.lt (.l2 .at (.l2 .at (.v 17) (.v 20)) (.c 2)) (.v 0)) (.or (.or (.lt (.l2 .at (.l2 .at (.v 17) (.v 20)) (.c 0)) (.mn (.mn (.v 1) (.v 6)) (.v 11))) (.lt (.mx (.mx (.v 1) (.v 6)) (.v 11)) (.l2 .at (.l2 .at (.v 17) (.v 20)) (.c 0)))) (.or (.or (.lt (.l2 .at (.l2 .at (.v 17) (.v 20)) (.c 1)) (.mn (.mn (.v 2) (.v 7)) (.v 12))) (.lt (.mx (.mx (.v 2) (.v 7)) (.v 12)) (.l2 .at (.l2 .at (.v 17) (.v 20)) (.c 1)))) (.or (.or (.lt (.l2 .at (.l2 .at (.v 17) (.v 20)) (.c 2)) (.mn (.mn (.v 3) (.v 8)) (.v 13))) (.lt (.mx (.mx (.v 3) (.v 8)) (.v 13)) (.l2 .at (.l2 .at (.v 17) (.v 20)) (.c 2)))) (.or (.or (.lt (.l2 .at (.l2 .at (.v 17) (.v 20)) (.c 3)) (.mn (.mn (.v 4) (.v 9)) (.v 14))) (.lt (.mx (.mx (.v 4) (.v 9)) (.v 14)) (.l2 .at (.l2 .at (.v 17) (.v 20)) (.c 3)))) (.or (.or (.lt (.l2 .at (.l2 .at (.v 17) (.v 20)) (.c 4)) (.mn (.mn (.v 5) (.v 10)) (.v 15))) (.lt (.mx (.mx (.v 5) (.v 10)) (.v 15)) (.l2 .at (.l2 .at (.v 17) (.v 20)) (.c 4)))) (.or (.lt (.l2 .at (.l2 .at (.v 17) (.v 20)) (.c 7)) (.v 0)) (.or (.or (.lt (.l2 .at (.l2 .at (.v 17) (.v 20)) (.c 5)) (.mn (.mn (.v 1) (.v 6)) (.v 11))) (.lt (.mx (.mx (.v 1) (.v 6)) (.v 11)) (.l2 .at (.l2 .at (.v 17) (.v 20)) (.c 5)))) (.or (.or (.lt (.l2 .at (.l2 .at (.v 17) (.v 20)) (.c 6)) (.mn (.mn (.v 2) (.v 7)) (.v 12))) (.lt (.mx (.mx (.v 2) (.v 7)) (.v 12)) (.l2 .at (.l2 .at (.v 17) (.v 20)) (.c 6)))) (.or (.or (.lt (.l2 .at (.l2 .at (.v 17) (.v 20)) (.c 7)) (.mn (.mn (.v 3) (.v 8)) (.v 13))) (.lt (.mx (.mx (.v 3) (.v 8)) (.v 13)) (.l2 .at (.l2 .at (.v 17) (.v 20)) (.c 7)))) (.or (.or (.lt (.l2 .at (.l2 .at (.v 17) (.v 20)) (.c 8)) (.mn (.mn (.v 4) (.v 9)) (.v 14))) (.lt (.mx (.mx (.v 4) (.v 9)) (.v 14)) (.l2 .at (.l2 .at (.v 17) (.v 20)) (.c 8)))) (.or (.or (.lt (.l2 .at (.l2 .at (.v 17) (.v 20)) (.c 9)) (.mn (.mn (.v 5) (.v 10)) (.v 15))) (.lt (.mx (.mx (.v 5) (.v 10)) (.v 15)) (.l2 .at (.l2 .at (.v 17) (.v 20)) (.c 9)))) (.or (.lt (.l2 .at (.l2 .at (.v 17) (.v 20)) (.c 12)) (.v 0)) (.or (.or (.lt (.l2 .at (.l2 .at (.v 17) (.v 20)) (.c 10)) (.mn (.mn (.v 1) (.v 6)) (.v 11))) (.lt (.mx (.mx (.v 1) (.v 6)) (.v 11)) (.l2 .at (.l2 .at (.v 17) (.v 20)) (.c 10)))) (.or (.or (.lt (.l2 .at (.l2 .at (.v 17) (.v 20)) (.c 11)) (.mn (.mn (.v 2) (.v 7)) (.v 12))) (.lt (.mx (.mx (.v 2) (.v 7)) (.v 12)) (.l2 .at (.l2 .at (.v 17) (.v 20)) (.c 11)))) (.or (.or (.lt (.l2 .at (.l2 .at (.v 17) (.v 20)) (.c 12)) (.mn (.mn (.v 3) (.v 8)) (.v 13))) (.lt (.mx (.mx (.v 3) (.v 8)) (.v 13)) (.l2 .at (.l2 .at (.v 17) (.v 20)) (.c 12)))) (.or (.or (.lt (.l2 .at (.l2 .at (.v 17) (.v 20)) (.c 13)) (.mn (.mn (.v 4) (.v 9)) (.v 14))) (.lt (.mx (.mx (.v 4) (.v 9)) (.v 14)) (.l2 .at (.l2 .at (.v 17) (.v 20)) (.c 13)))) (.or (.lt (.l2 .at (.l2 .at (.v 17) (.v 20)) (.c 14)) (.mn (.mn (.v 5) (.v 10)) (.v 15))) (.lt (.mx (.mx (.v 5) (.v 10)) (.v 15)) (.l2 .at (.l2 .at (.v 17) (.v 20)) (.c 14))))))))))))))))))))) (.ret [(.c 0)])
(.back 0 [(.v 19), (.wr .i64 (.add (.v 20) (.c 1)))])))))))))
theorem near_ok {x : List Int} (h : (nearL x).getD 1 0 = 0) : nearB x = true ∧ nearT x = true ∧ (nearL x).getD 0 0 = leftC x := by
  unfold nearL at h ⊢
  split at h
  · rename_i h1
    rw [if_pos h1]
    split at h
    · rename_i h2
      rw [if_pos h2]
      exact ⟨h1, h2, rfl⟩
    · exact absurd h (by simp)
  · exact absurd h (by simp)
theorem near_no {x : List Int} (h : ¬ (nearL x).getD 1 0 = 0) : dec ((nearL x).getD 0 0) = [] := by
  unfold nearL at h ⊢
  split at h
  · rename_i h1
    rw [if_pos h1]
    split at h
    · exact absurd rfl h
    · rename_i h2
      rw [if_neg h2]
      exact dec_nil
  · rename_i h1
    rw [if_neg h1]
    exact dec_nil
/-- A corner that lies in front, between. -/
def good (n a0 a1 a2 a3 a4 b0 b1 b2 b3 b4 c0 c1 c2 c3 c4 : Int) (p : List Int) : Prop := ∃ p0 p1 p2 p3 p4, p = [p0, p1, p2, p3, p4] ∧ n ≤ p2 ∧ (min (min a0 b0) c0 ≤ p0 ∧ p0 ≤ max (max a0 b0) c0) ∧ (min (min a1 b1) c1 ≤ p1 ∧ p1 ≤ max (max a1 b1) c1) ∧ (min (min a2 b2) c2 ≤ p2 ∧ p2 ≤ max (max a2 b2) c2) ∧ (min (min a3 b3) c3 ≤ p3 ∧ p3 ≤ max (max a3 b3) c3) ∧ (min (min a4 b4) c4 ≤ p4 ∧ p4 ≤ max (max a4 b4) c4)
theorem g_ab {n a0 a1 a2 a3 a4 b0 b1 b2 b3 b4 c0 c1 c2 c3 c4 : Int} (h1 : a2 < n) (h2 : n ≤ b2) : good n a0 a1 a2 a3 a4 b0 b1 b2 b3 b4 c0 c1 c2 c3 c4 (cut5 n [a0, a1, a2, a3, a4] [b0, b1, b2, b3, b4]) := by
  have hb : behindB [n, a0, a1, a2, a3, a4, b0, b1, b2, b3, b4] = true := by
    simp only [behindB, decide_eq_true_eq, List.getD_cons_zero, List.getD_cons_succ]
    exact ⟨h1, h2⟩
  have m1 : min a0 b0 ≤ cutV [n, a0, a1, a2, a3, a4, b0, b1, b2, b3, b4] 1 ∧ cutV [n, a0, a1, a2, a3, a4, b0, b1, b2, b3, b4] 1 ≤ max a0 b0 := cutV_mid hb
  have m2 : min a1 b1 ≤ cutV [n, a0, a1, a2, a3, a4, b0, b1, b2, b3, b4] 2 ∧ cutV [n, a0, a1, a2, a3, a4, b0, b1, b2, b3, b4] 2 ≤ max a1 b1 := cutV_mid hb
  have m4 : min a3 b3 ≤ cutV [n, a0, a1, a2, a3, a4, b0, b1, b2, b3, b4] 4 ∧ cutV [n, a0, a1, a2, a3, a4, b0, b1, b2, b3, b4] 4 ≤ max a3 b3 := cutV_mid hb
  have m5 : min a4 b4 ≤ cutV [n, a0, a1, a2, a3, a4, b0, b1, b2, b3, b4] 5 ∧ cutV [n, a0, a1, a2, a3, a4, b0, b1, b2, b3, b4] 5 ≤ max a4 b4 := cutV_mid hb
  exact show good n a0 a1 a2 a3 a4 b0 b1 b2 b3 b4 c0 c1 c2 c3 c4 [cutV [n, a0, a1, a2, a3, a4, b0, b1, b2, b3, b4] 1, cutV [n, a0, a1, a2, a3, a4, b0, b1, b2, b3, b4] 2, n, cutV [n, a0, a1, a2, a3, a4, b0, b1, b2, b3, b4] 4, cutV [n, a0, a1, a2, a3, a4, b0, b1, b2, b3, b4] 5] from ⟨_, _, _, _, _, rfl, Int.le_refl _, by omega, by omega, by omega, by omega, by omega⟩
theorem g_ac {n a0 a1 a2 a3 a4 b0 b1 b2 b3 b4 c0 c1 c2 c3 c4 : Int} (h1 : a2 < n) (h2 : n ≤ c2) : good n a0 a1 a2 a3 a4 b0 b1 b2 b3 b4 c0 c1 c2 c3 c4 (cut5 n [a0, a1, a2, a3, a4] [c0, c1, c2, c3, c4]) := by
  have hb : behindB [n, a0, a1, a2, a3, a4, c0, c1, c2, c3, c4] = true := by
    simp only [behindB, decide_eq_true_eq, List.getD_cons_zero, List.getD_cons_succ]
    exact ⟨h1, h2⟩
  have m1 : min a0 c0 ≤ cutV [n, a0, a1, a2, a3, a4, c0, c1, c2, c3, c4] 1 ∧ cutV [n, a0, a1, a2, a3, a4, c0, c1, c2, c3, c4] 1 ≤ max a0 c0 := cutV_mid hb
  have m2 : min a1 c1 ≤ cutV [n, a0, a1, a2, a3, a4, c0, c1, c2, c3, c4] 2 ∧ cutV [n, a0, a1, a2, a3, a4, c0, c1, c2, c3, c4] 2 ≤ max a1 c1 := cutV_mid hb
  have m4 : min a3 c3 ≤ cutV [n, a0, a1, a2, a3, a4, c0, c1, c2, c3, c4] 4 ∧ cutV [n, a0, a1, a2, a3, a4, c0, c1, c2, c3, c4] 4 ≤ max a3 c3 := cutV_mid hb
  have m5 : min a4 c4 ≤ cutV [n, a0, a1, a2, a3, a4, c0, c1, c2, c3, c4] 5 ∧ cutV [n, a0, a1, a2, a3, a4, c0, c1, c2, c3, c4] 5 ≤ max a4 c4 := cutV_mid hb
  exact show good n a0 a1 a2 a3 a4 b0 b1 b2 b3 b4 c0 c1 c2 c3 c4 [cutV [n, a0, a1, a2, a3, a4, c0, c1, c2, c3, c4] 1, cutV [n, a0, a1, a2, a3, a4, c0, c1, c2, c3, c4] 2, n, cutV [n, a0, a1, a2, a3, a4, c0, c1, c2, c3, c4] 4, cutV [n, a0, a1, a2, a3, a4, c0, c1, c2, c3, c4] 5] from ⟨_, _, _, _, _, rfl, Int.le_refl _, by omega, by omega, by omega, by omega, by omega⟩
theorem g_ba {n a0 a1 a2 a3 a4 b0 b1 b2 b3 b4 c0 c1 c2 c3 c4 : Int} (h1 : b2 < n) (h2 : n ≤ a2) : good n a0 a1 a2 a3 a4 b0 b1 b2 b3 b4 c0 c1 c2 c3 c4 (cut5 n [b0, b1, b2, b3, b4] [a0, a1, a2, a3, a4]) := by
  have hb : behindB [n, b0, b1, b2, b3, b4, a0, a1, a2, a3, a4] = true := by
    simp only [behindB, decide_eq_true_eq, List.getD_cons_zero, List.getD_cons_succ]
    exact ⟨h1, h2⟩
  have m1 : min b0 a0 ≤ cutV [n, b0, b1, b2, b3, b4, a0, a1, a2, a3, a4] 1 ∧ cutV [n, b0, b1, b2, b3, b4, a0, a1, a2, a3, a4] 1 ≤ max b0 a0 := cutV_mid hb
  have m2 : min b1 a1 ≤ cutV [n, b0, b1, b2, b3, b4, a0, a1, a2, a3, a4] 2 ∧ cutV [n, b0, b1, b2, b3, b4, a0, a1, a2, a3, a4] 2 ≤ max b1 a1 := cutV_mid hb
  have m4 : min b3 a3 ≤ cutV [n, b0, b1, b2, b3, b4, a0, a1, a2, a3, a4] 4 ∧ cutV [n, b0, b1, b2, b3, b4, a0, a1, a2, a3, a4] 4 ≤ max b3 a3 := cutV_mid hb
  have m5 : min b4 a4 ≤ cutV [n, b0, b1, b2, b3, b4, a0, a1, a2, a3, a4] 5 ∧ cutV [n, b0, b1, b2, b3, b4, a0, a1, a2, a3, a4] 5 ≤ max b4 a4 := cutV_mid hb
  exact show good n a0 a1 a2 a3 a4 b0 b1 b2 b3 b4 c0 c1 c2 c3 c4 [cutV [n, b0, b1, b2, b3, b4, a0, a1, a2, a3, a4] 1, cutV [n, b0, b1, b2, b3, b4, a0, a1, a2, a3, a4] 2, n, cutV [n, b0, b1, b2, b3, b4, a0, a1, a2, a3, a4] 4, cutV [n, b0, b1, b2, b3, b4, a0, a1, a2, a3, a4] 5] from ⟨_, _, _, _, _, rfl, Int.le_refl _, by omega, by omega, by omega, by omega, by omega⟩
theorem g_bc {n a0 a1 a2 a3 a4 b0 b1 b2 b3 b4 c0 c1 c2 c3 c4 : Int} (h1 : b2 < n) (h2 : n ≤ c2) : good n a0 a1 a2 a3 a4 b0 b1 b2 b3 b4 c0 c1 c2 c3 c4 (cut5 n [b0, b1, b2, b3, b4] [c0, c1, c2, c3, c4]) := by
  have hb : behindB [n, b0, b1, b2, b3, b4, c0, c1, c2, c3, c4] = true := by
    simp only [behindB, decide_eq_true_eq, List.getD_cons_zero, List.getD_cons_succ]
    exact ⟨h1, h2⟩
  have m1 : min b0 c0 ≤ cutV [n, b0, b1, b2, b3, b4, c0, c1, c2, c3, c4] 1 ∧ cutV [n, b0, b1, b2, b3, b4, c0, c1, c2, c3, c4] 1 ≤ max b0 c0 := cutV_mid hb
  have m2 : min b1 c1 ≤ cutV [n, b0, b1, b2, b3, b4, c0, c1, c2, c3, c4] 2 ∧ cutV [n, b0, b1, b2, b3, b4, c0, c1, c2, c3, c4] 2 ≤ max b1 c1 := cutV_mid hb
  have m4 : min b3 c3 ≤ cutV [n, b0, b1, b2, b3, b4, c0, c1, c2, c3, c4] 4 ∧ cutV [n, b0, b1, b2, b3, b4, c0, c1, c2, c3, c4] 4 ≤ max b3 c3 := cutV_mid hb
  have m5 : min b4 c4 ≤ cutV [n, b0, b1, b2, b3, b4, c0, c1, c2, c3, c4] 5 ∧ cutV [n, b0, b1, b2, b3, b4, c0, c1, c2, c3, c4] 5 ≤ max b4 c4 := cutV_mid hb
  exact show good n a0 a1 a2 a3 a4 b0 b1 b2 b3 b4 c0 c1 c2 c3 c4 [cutV [n, b0, b1, b2, b3, b4, c0, c1, c2, c3, c4] 1, cutV [n, b0, b1, b2, b3, b4, c0, c1, c2, c3, c4] 2, n, cutV [n, b0, b1, b2, b3, b4, c0, c1, c2, c3, c4] 4, cutV [n, b0, b1, b2, b3, b4, c0, c1, c2, c3, c4] 5] from ⟨_, _, _, _, _, rfl, Int.le_refl _, by omega, by omega, by omega, by omega, by omega⟩
theorem g_ca {n a0 a1 a2 a3 a4 b0 b1 b2 b3 b4 c0 c1 c2 c3 c4 : Int} (h1 : c2 < n) (h2 : n ≤ a2) : good n a0 a1 a2 a3 a4 b0 b1 b2 b3 b4 c0 c1 c2 c3 c4 (cut5 n [c0, c1, c2, c3, c4] [a0, a1, a2, a3, a4]) := by
  have hb : behindB [n, c0, c1, c2, c3, c4, a0, a1, a2, a3, a4] = true := by
    simp only [behindB, decide_eq_true_eq, List.getD_cons_zero, List.getD_cons_succ]
    exact ⟨h1, h2⟩
  have m1 : min c0 a0 ≤ cutV [n, c0, c1, c2, c3, c4, a0, a1, a2, a3, a4] 1 ∧ cutV [n, c0, c1, c2, c3, c4, a0, a1, a2, a3, a4] 1 ≤ max c0 a0 := cutV_mid hb
  have m2 : min c1 a1 ≤ cutV [n, c0, c1, c2, c3, c4, a0, a1, a2, a3, a4] 2 ∧ cutV [n, c0, c1, c2, c3, c4, a0, a1, a2, a3, a4] 2 ≤ max c1 a1 := cutV_mid hb
  have m4 : min c3 a3 ≤ cutV [n, c0, c1, c2, c3, c4, a0, a1, a2, a3, a4] 4 ∧ cutV [n, c0, c1, c2, c3, c4, a0, a1, a2, a3, a4] 4 ≤ max c3 a3 := cutV_mid hb
  have m5 : min c4 a4 ≤ cutV [n, c0, c1, c2, c3, c4, a0, a1, a2, a3, a4] 5 ∧ cutV [n, c0, c1, c2, c3, c4, a0, a1, a2, a3, a4] 5 ≤ max c4 a4 := cutV_mid hb
  exact show good n a0 a1 a2 a3 a4 b0 b1 b2 b3 b4 c0 c1 c2 c3 c4 [cutV [n, c0, c1, c2, c3, c4, a0, a1, a2, a3, a4] 1, cutV [n, c0, c1, c2, c3, c4, a0, a1, a2, a3, a4] 2, n, cutV [n, c0, c1, c2, c3, c4, a0, a1, a2, a3, a4] 4, cutV [n, c0, c1, c2, c3, c4, a0, a1, a2, a3, a4] 5] from ⟨_, _, _, _, _, rfl, Int.le_refl _, by omega, by omega, by omega, by omega, by omega⟩
theorem g_cb {n a0 a1 a2 a3 a4 b0 b1 b2 b3 b4 c0 c1 c2 c3 c4 : Int} (h1 : c2 < n) (h2 : n ≤ b2) : good n a0 a1 a2 a3 a4 b0 b1 b2 b3 b4 c0 c1 c2 c3 c4 (cut5 n [c0, c1, c2, c3, c4] [b0, b1, b2, b3, b4]) := by
  have hb : behindB [n, c0, c1, c2, c3, c4, b0, b1, b2, b3, b4] = true := by
    simp only [behindB, decide_eq_true_eq, List.getD_cons_zero, List.getD_cons_succ]
    exact ⟨h1, h2⟩
  have m1 : min c0 b0 ≤ cutV [n, c0, c1, c2, c3, c4, b0, b1, b2, b3, b4] 1 ∧ cutV [n, c0, c1, c2, c3, c4, b0, b1, b2, b3, b4] 1 ≤ max c0 b0 := cutV_mid hb
  have m2 : min c1 b1 ≤ cutV [n, c0, c1, c2, c3, c4, b0, b1, b2, b3, b4] 2 ∧ cutV [n, c0, c1, c2, c3, c4, b0, b1, b2, b3, b4] 2 ≤ max c1 b1 := cutV_mid hb
  have m4 : min c3 b3 ≤ cutV [n, c0, c1, c2, c3, c4, b0, b1, b2, b3, b4] 4 ∧ cutV [n, c0, c1, c2, c3, c4, b0, b1, b2, b3, b4] 4 ≤ max c3 b3 := cutV_mid hb
  have m5 : min c4 b4 ≤ cutV [n, c0, c1, c2, c3, c4, b0, b1, b2, b3, b4] 5 ∧ cutV [n, c0, c1, c2, c3, c4, b0, b1, b2, b3, b4] 5 ≤ max c4 b4 := cutV_mid hb
  exact show good n a0 a1 a2 a3 a4 b0 b1 b2 b3 b4 c0 c1 c2 c3 c4 [cutV [n, c0, c1, c2, c3, c4, b0, b1, b2, b3, b4] 1, cutV [n, c0, c1, c2, c3, c4, b0, b1, b2, b3, b4] 2, n, cutV [n, c0, c1, c2, c3, c4, b0, b1, b2, b3, b4] 4, cutV [n, c0, c1, c2, c3, c4, b0, b1, b2, b3, b4] 5] from ⟨_, _, _, _, _, rfl, Int.le_refl _, by omega, by omega, by omega, by omega, by omega⟩
theorem g_a {n a0 a1 a2 a3 a4 b0 b1 b2 b3 b4 c0 c1 c2 c3 c4 : Int} (h : n ≤ a2) : good n a0 a1 a2 a3 a4 b0 b1 b2 b3 b4 c0 c1 c2 c3 c4 [a0, a1, a2, a3, a4] := ⟨_, _, _, _, _, rfl, h, by omega, by omega, by omega, by omega, by omega⟩
theorem g_b {n a0 a1 a2 a3 a4 b0 b1 b2 b3 b4 c0 c1 c2 c3 c4 : Int} (h : n ≤ b2) : good n a0 a1 a2 a3 a4 b0 b1 b2 b3 b4 c0 c1 c2 c3 c4 [b0, b1, b2, b3, b4] := ⟨_, _, _, _, _, rfl, h, by omega, by omega, by omega, by omega, by omega⟩
theorem g_c {n a0 a1 a2 a3 a4 b0 b1 b2 b3 b4 c0 c1 c2 c3 c4 : Int} (h : n ≤ c2) : good n a0 a1 a2 a3 a4 b0 b1 b2 b3 b4 c0 c1 c2 c3 c4 [c0, c1, c2, c3, c4] := ⟨_, _, _, _, _, rfl, h, by omega, by omega, by omega, by omega, by omega⟩
theorem fan_good {Q : List Int → Prop} : ∀ l : List (List Int), (∀ p ∈ l, Q p) → ∀ t ∈ fanC l, ∃ p q r, t = p ++ (q ++ r) ∧ Q p ∧ Q q ∧ Q r
  | p :: q :: r :: l, h, t, ht => by
    simp only [fanC] at ht
    rcases List.mem_cons.1 ht with rfl | ht
    · exact ⟨p, q, r, rfl, h p (by simp), h q (by simp), h r (by simp)⟩
    · refine fan_good (p :: r :: l) (fun x hx => h x ?_) t ht
      rcases List.mem_cons.1 hx with rfl | hx
      · simp
      · exact List.mem_cons_of_mem _ (List.mem_cons_of_mem _ hx)
  | [], _, _, ht => by simp [fanC] at ht
  | [_], _, _, ht => by simp [fanC] at ht
  | [_, _], _, _, ht => by simp [fanC] at ht
/-- What a triangle leaves: how many, and where. -/
theorem left_len {n a0 a1 a2 a3 a4 b0 b1 b2 b3 b4 c0 c1 c2 c3 c4 : Int} : (dec (leftC [n, a0, a1, a2, a3, a4, b0, b1, b2, b3, b4, c0, c1, c2, c3, c4])).length = if n ≤ a2 then (if n ≤ b2 then (if n ≤ c2 then 1 else 2) else (if n ≤ c2 then 2 else 1)) else (if n ≤ b2 then (if n ≤ c2 then 2 else 1) else (if n ≤ c2 then 1 else 0)) := by
  unfold leftC polyC sideC
  by_cases ha : n ≤ a2 <;> by_cases hb : n ≤ b2 <;> by_cases hc : n ≤ c2 <;> simp only [ha, hb, hc, inC, cornL, fanC, cut5, TX.sat, XB.prop, X.den, List.map_cons, List.map_nil, List.getElem?_cons_zero, List.getElem?_cons_succ, List.cons_append, List.nil_append, List.getD_cons_zero, List.getD_cons_succ, mkS, mkP, and_true, true_and, Int.not_lt, Int.not_le, not_or, not_and, Classical.not_not, ne_eq, not_true_eq_false, not_false_eq_true, Nat.reduceMul, Nat.reduceAdd, decide_true, decide_false, if_true, if_false, reduceIte, Bool.false_eq_true, List.map_cons, List.map_nil, List.append_nil, dec_cod, dec_nil, List.length_cons, List.length_nil]
theorem poly_good {n a0 a1 a2 a3 a4 b0 b1 b2 b3 b4 c0 c1 c2 c3 c4 : Int} : ∀ p ∈ polyC [n, a0, a1, a2, a3, a4, b0, b1, b2, b3, b4, c0, c1, c2, c3, c4], good n a0 a1 a2 a3 a4 b0 b1 b2 b3 b4 c0 c1 c2 c3 c4 p := by
  have e0 : cornL [n, a0, a1, a2, a3, a4, b0, b1, b2, b3, b4, c0, c1, c2, c3, c4] 0 = [a0, a1, a2, a3, a4] := rfl
  have e1 : cornL [n, a0, a1, a2, a3, a4, b0, b1, b2, b3, b4, c0, c1, c2, c3, c4] 1 = [b0, b1, b2, b3, b4] := rfl
  have e2 : cornL [n, a0, a1, a2, a3, a4, b0, b1, b2, b3, b4, c0, c1, c2, c3, c4] 2 = [c0, c1, c2, c3, c4] := rfl
  have i0 : inC [n, a0, a1, a2, a3, a4, b0, b1, b2, b3, b4, c0, c1, c2, c3, c4] 0 = decide (n ≤ a2) := rfl
  have i1 : inC [n, a0, a1, a2, a3, a4, b0, b1, b2, b3, b4, c0, c1, c2, c3, c4] 1 = decide (n ≤ b2) := rfl
  have i2 : inC [n, a0, a1, a2, a3, a4, b0, b1, b2, b3, b4, c0, c1, c2, c3, c4] 2 = decide (n ≤ c2) := rfl
  have en : ([n, a0, a1, a2, a3, a4, b0, b1, b2, b3, b4, c0, c1, c2, c3, c4] : List Int).getD 0 0 = n := rfl
  intro p hp
  unfold polyC at hp
  rcases List.mem_append.1 hp with h | h
  · unfold sideC at h
    rw [e0, e1, i0, i1] at h
    by_cases ha : n ≤ a2 <;> by_cases hb : n ≤ b2 <;> simp only [ha, hb, decide_true, decide_false, if_true, if_false, reduceIte, Bool.false_eq_true, List.mem_cons, List.not_mem_nil, or_false, TX.sat, XB.prop, X.den, List.map_cons, List.map_nil, List.getElem?_cons_zero, List.getElem?_cons_succ, List.cons_append, List.nil_append, List.getD_cons_zero, List.getD_cons_succ, mkS, mkP, and_true, true_and, Int.not_lt, Int.not_le, not_or, not_and, Classical.not_not, ne_eq, not_true_eq_false, not_false_eq_true] at h
    · subst h; exact g_a ha
    · rcases h with rfl | rfl
      · exact g_a ha
      · exact g_ba (Int.not_le.1 hb) ha
    · subst h; exact g_ab (Int.not_le.1 ha) hb
  rcases List.mem_append.1 h with h | h
  · unfold sideC at h
    rw [e1, e2, i1, i2] at h
    by_cases ha : n ≤ b2 <;> by_cases hb : n ≤ c2 <;> simp only [ha, hb, decide_true, decide_false, if_true, if_false, reduceIte, Bool.false_eq_true, List.mem_cons, List.not_mem_nil, or_false, TX.sat, XB.prop, X.den, List.map_cons, List.map_nil, List.getElem?_cons_zero, List.getElem?_cons_succ, List.cons_append, List.nil_append, List.getD_cons_zero, List.getD_cons_succ, mkS, mkP, and_true, true_and, Int.not_lt, Int.not_le, not_or, not_and, Classical.not_not, ne_eq, not_true_eq_false, not_false_eq_true] at h
    · subst h; exact g_b ha
    · rcases h with rfl | rfl
      · exact g_b ha
      · exact g_cb (Int.not_le.1 hb) ha
    · subst h; exact g_bc (Int.not_le.1 ha) hb
  · unfold sideC at h
    rw [e2, e0, i2, i0] at h
    by_cases ha : n ≤ c2 <;> by_cases hb : n ≤ a2 <;> simp only [ha, hb, decide_true, decide_false, if_true, if_false, reduceIte, Bool.false_eq_true, List.mem_cons, List.not_mem_nil, or_false, TX.sat, XB.prop, X.den, List.map_cons, List.map_nil, List.getElem?_cons_zero, List.getElem?_cons_succ, List.cons_append, List.nil_append, List.getD_cons_zero, List.getD_cons_succ, mkS, mkP, and_true, true_and, Int.not_lt, Int.not_le, not_or, not_and, Classical.not_not, ne_eq, not_true_eq_false, not_false_eq_true] at h
    · subst h; exact g_c ha
    · rcases h with rfl | rfl
      · exact g_c ha
      · exact g_ac (Int.not_le.1 hb) ha
    · subst h; exact g_ca (Int.not_le.1 ha) hb
theorem left_good {n a0 a1 a2 a3 a4 b0 b1 b2 b3 b4 c0 c1 c2 c3 c4 : Int} {t : Int} (h : t ∈ dec (leftC [n, a0, a1, a2, a3, a4, b0, b1, b2, b3, b4, c0, c1, c2, c3, c4])) : ∃ p q r, dec t = p ++ (q ++ r) ∧ good n a0 a1 a2 a3 a4 b0 b1 b2 b3 b4 c0 c1 c2 c3 c4 p ∧ good n a0 a1 a2 a3 a4 b0 b1 b2 b3 b4 c0 c1 c2 c3 c4 q ∧ good n a0 a1 a2 a3 a4 b0 b1 b2 b3 b4 c0 c1 c2 c3 c4 r := by
  unfold leftC at h
  rw [dec_cod] at h
  obtain ⟨u, hu, rfl⟩ := List.mem_map.1 h
  obtain ⟨p, q, r, rfl, h1, h2, h3⟩ := fan_good _ (poly_good (n := n)) u hu
  exact ⟨p, q, r, dec_cod _, h1, h2, h3⟩
theorem plain_w {n a0 a1 a2 a3 a4 b0 b1 b2 b3 b4 c0 c1 c2 c3 c4 w : Int} (hw0 : ((dec (leftC [n, a0, a1, a2, a3, a4, b0, b1, b2, b3, b4, c0, c1, c2, c3, c4])).length : Int) = w) : (tF w).sat G_ClipFront [] (fun ys => ys = [1]) [] [n, a0, a1, a2, a3, a4, b0, b1, b2, b3, b4, c0, c1, c2, c3, c4] := by
  have hsmall : (dec (leftC [n, a0, a1, a2, a3, a4, b0, b1, b2, b3, b4, c0, c1, c2, c3, c4])).length ≤ 2 := by rw [left_len]; (repeat' split) <;> omega
  simp only [tF, G_ClipFront, s_alive19, s_cnear, TX.sat, XB.prop, X.den, List.map_cons, List.map_nil, List.getElem?_cons_zero, List.getElem?_cons_succ, List.cons_append, List.nil_append, List.getD_cons_zero, List.getD_cons_succ, mkS, mkP, and_true, true_and, Int.not_lt, Int.not_le, not_or, not_and, Classical.not_not, ne_eq, not_true_eq_false, not_false_eq_true, sem_alive19, sem_alive, sem_cnear, L2.den]
  by_cases he : (nearL [n, a0, a1, a2, a3, a4, b0, b1, b2, b3, b4, c0, c1, c2, c3, c4]).getD 1 0 = 0
  · rw [(near_ok he).2.2]
    refine ⟨fun h => absurd he h, fun _ => ⟨fun h => absurd hw0 h, fun _ => ?_⟩⟩
    refine ⟨fun xs => ∃ i : Nat, xs.getD 1 0 = (i : Int) ∧ i ≤ (dec (leftC [n, a0, a1, a2, a3, a4, b0, b1, b2, b3, b4, c0, c1, c2, c3, c4])).length, fun xs => (dec (leftC [n, a0, a1, a2, a3, a4, b0, b1, b2, b3, b4, c0, c1, c2, c3, c4])).length - (xs.getD 1 0).toNat, fun xs hx _ => vs_none (n := 2) hx, ⟨0, rfl, by omega⟩, ?_⟩
    intro xs hx hI
    obtain ⟨d0, d1, rfl⟩ := len2 hx
    obtain ⟨i, hi, hle⟩ := hI
    simp only [List.getD_cons_zero, List.getD_cons_succ, List.cons_append, List.nil_append] at hi ⊢
    subst hi
    simp only [Int.toNat_natCast, show Int.toNat 0 = 0 from rfl, show Int.toNat 1 = 1 from rfl, show Int.toNat 2 = 2 from rfl, show Int.toNat 3 = 3 from rfl, show Int.toNat 4 = 4 from rfl, show Int.toNat 5 = 5 from rfl, show Int.toNat 6 = 6 from rfl, show Int.toNat 7 = 7 from rfl, show Int.toNat 8 = 8 from rfl, show Int.toNat 9 = 9 from rfl, show Int.toNat 10 = 10 from rfl, show Int.toNat 11 = 11 from rfl, show Int.toNat 12 = 12 from rfl, show Int.toNat 13 = 13 from rfl, show Int.toNat 14 = 14 from rfl]
    refine ⟨fun _ => trivial, fun hlt => ⟨by omega, ?_⟩⟩
    have hil : i < (dec (leftC [n, a0, a1, a2, a3, a4, b0, b1, b2, b3, b4, c0, c1, c2, c3, c4])).length := by omega
    have hw : IntKind.i64.wrap ((i : Int) + 1) = ((i + 1 : Nat) : Int) := by rw [wrap64 (by omega) (by omega)]; omega
    have hmem : (dec (leftC [n, a0, a1, a2, a3, a4, b0, b1, b2, b3, b4, c0, c1, c2, c3, c4])).getD i 0 ∈ dec (leftC [n, a0, a1, a2, a3, a4, b0, b1, b2, b3, b4, c0, c1, c2, c3, c4]) := by
      rw [show (dec (leftC [n, a0, a1, a2, a3, a4, b0, b1, b2, b3, b4, c0, c1, c2, c3, c4])).getD i 0 = (dec (leftC [n, a0, a1, a2, a3, a4, b0, b1, b2, b3, b4, c0, c1, c2, c3, c4]))[i] by simp [List.getD, hil]]
      exact List.getElem_mem hil
    obtain ⟨p, q, r, hd, ⟨p0, p1, p2, p3, p4, rfl, hp⟩, ⟨q0, q1, q2, q3, q4, rfl, hq⟩, ⟨r0, r1, r2, r3, r4, rfl, hr⟩⟩ := left_good hmem
    rw [hd, hw]
    simp only [List.cons_append, List.nil_append, List.getD_cons_zero, List.getD_cons_succ]
    refine ⟨fun h => ?_, fun _ => ⟨⟨i + 1, rfl, by omega⟩, by rw [Int.toNat_natCast]; omega⟩⟩
    exfalso
    revert h
    obtain ⟨hpn, hp0, hp1, hp2, hp3, hp4⟩ := hp
    obtain ⟨hqn, hq0, hq1, hq2, hq3, hq4⟩ := hq
    obtain ⟨hrn, hr0, hr1, hr2, hr3, hr4⟩ := hr
    simp only [Int.not_lt.2 hpn, Int.not_lt.2 hp0.1, Int.not_lt.2 hp0.2, Int.not_lt.2 hp1.1, Int.not_lt.2 hp1.2, Int.not_lt.2 hp2.1, Int.not_lt.2 hp2.2, Int.not_lt.2 hp3.1, Int.not_lt.2 hp3.2, Int.not_lt.2 hp4.1, Int.not_lt.2 hp4.2, Int.not_lt.2 hqn, Int.not_lt.2 hq0.1, Int.not_lt.2 hq0.2, Int.not_lt.2 hq1.1, Int.not_lt.2 hq1.2, Int.not_lt.2 hq2.1, Int.not_lt.2 hq2.2, Int.not_lt.2 hq3.1, Int.not_lt.2 hq3.2, Int.not_lt.2 hq4.1, Int.not_lt.2 hq4.2, Int.not_lt.2 hrn, Int.not_lt.2 hr0.1, Int.not_lt.2 hr0.2, Int.not_lt.2 hr1.1, Int.not_lt.2 hr1.2, Int.not_lt.2 hr2.1, Int.not_lt.2 hr2.2, Int.not_lt.2 hr3.1, Int.not_lt.2 hr3.2, Int.not_lt.2 hr4.1, Int.not_lt.2 hr4.2, or_self, not_false_eq_true]
    exact fun h => h
  · rw [near_no he]
    simp [-List.getD_eq_getElem?_getD, he]
theorem plain_7 {n a0 a1 a2 a3 a4 b0 b1 b2 b3 b4 c0 c1 c2 c3 c4 : Int} (ga : n ≤ a2) (gb : n ≤ b2) (gc : n ≤ c2) : t_ClipFront__7.sat G_ClipFront [] (fun ys => ys = [1]) [] [n, a0, a1, a2, a3, a4, b0, b1, b2, b3, b4, c0, c1, c2, c3, c4] := by
  have hsmall : (dec (leftC [n, a0, a1, a2, a3, a4, b0, b1, b2, b3, b4, c0, c1, c2, c3, c4])).length ≤ 2 := by rw [left_len]; (repeat' split) <;> omega
  have hone : dec (leftC [n, a0, a1, a2, a3, a4, b0, b1, b2, b3, b4, c0, c1, c2, c3, c4]) = [cod [a0, a1, a2, a3, a4, b0, b1, b2, b3, b4, c0, c1, c2, c3, c4]] := by
    unfold leftC polyC sideC
    simp only [ga, gb, gc, inC, cornL, fanC, cut5, TX.sat, XB.prop, X.den, List.map_cons, List.map_nil, List.getElem?_cons_zero, List.getElem?_cons_succ, List.cons_append, List.nil_append, List.getD_cons_zero, List.getD_cons_succ, mkS, mkP, and_true, true_and, Int.not_lt, Int.not_le, not_or, not_and, Classical.not_not, ne_eq, not_true_eq_false, not_false_eq_true, Nat.reduceMul, Nat.reduceAdd, decide_true, decide_false, if_true, if_false, reduceIte, Bool.false_eq_true, List.map_cons, List.map_nil, List.append_nil, dec_cod, dec_nil]
  simp only [t_ClipFront__7, G_ClipFront, s_alive19, s_cnear, TX.sat, XB.prop, X.den, List.map_cons, List.map_nil, List.getElem?_cons_zero, List.getElem?_cons_succ, List.cons_append, List.nil_append, List.getD_cons_zero, List.getD_cons_succ, mkS, mkP, and_true, true_and, Int.not_lt, Int.not_le, not_or, not_and, Classical.not_not, ne_eq, not_true_eq_false, not_false_eq_true, sem_alive19, sem_alive, sem_cnear, L2.den]
  by_cases he : (nearL [n, a0, a1, a2, a3, a4, b0, b1, b2, b3, b4, c0, c1, c2, c3, c4]).getD 1 0 = 0
  · rw [(near_ok he).2.2]
    refine ⟨fun h => absurd he h, fun _ => ⟨fun h => absurd (by rw [hone]; rfl) h, fun _ => ⟨by rw [hone]; simp, fun h => ?_, fun _ => ?_⟩⟩⟩
    · exfalso
      rw [hone] at h
      simp [dec_cod] at h
    · refine ⟨fun xs => ∃ i : Nat, xs.getD 1 0 = (i : Int) ∧ i ≤ (dec (leftC [n, a0, a1, a2, a3, a4, b0, b1, b2, b3, b4, c0, c1, c2, c3, c4])).length, fun xs => (dec (leftC [n, a0, a1, a2, a3, a4, b0, b1, b2, b3, b4, c0, c1, c2, c3, c4])).length - (xs.getD 1 0).toNat, fun xs hx _ => vs_none (n := 2) hx, ⟨0, rfl, by omega⟩, ?_⟩
      intro xs hx hI
      obtain ⟨d0, d1, rfl⟩ := len2 hx
      obtain ⟨i, hi, hle⟩ := hI
      simp only [List.getD_cons_zero, List.getD_cons_succ, List.cons_append, List.nil_append] at hi ⊢
      subst hi
      simp only [Int.toNat_natCast, show Int.toNat 0 = 0 from rfl, show Int.toNat 1 = 1 from rfl, show Int.toNat 2 = 2 from rfl, show Int.toNat 3 = 3 from rfl, show Int.toNat 4 = 4 from rfl, show Int.toNat 5 = 5 from rfl, show Int.toNat 6 = 6 from rfl, show Int.toNat 7 = 7 from rfl, show Int.toNat 8 = 8 from rfl, show Int.toNat 9 = 9 from rfl, show Int.toNat 10 = 10 from rfl, show Int.toNat 11 = 11 from rfl, show Int.toNat 12 = 12 from rfl, show Int.toNat 13 = 13 from rfl, show Int.toNat 14 = 14 from rfl]
      refine ⟨fun _ => trivial, fun hlt => ⟨by omega, ?_⟩⟩
      have hil : i < (dec (leftC [n, a0, a1, a2, a3, a4, b0, b1, b2, b3, b4, c0, c1, c2, c3, c4])).length := by omega
      have hw : IntKind.i64.wrap ((i : Int) + 1) = ((i + 1 : Nat) : Int) := by rw [wrap64 (by omega) (by omega)]; omega
      have hmem : (dec (leftC [n, a0, a1, a2, a3, a4, b0, b1, b2, b3, b4, c0, c1, c2, c3, c4])).getD i 0 ∈ dec (leftC [n, a0, a1, a2, a3, a4, b0, b1, b2, b3, b4, c0, c1, c2, c3, c4]) := by
        rw [show (dec (leftC [n, a0, a1, a2, a3, a4, b0, b1, b2, b3, b4, c0, c1, c2, c3, c4])).getD i 0 = (dec (leftC [n, a0, a1, a2, a3, a4, b0, b1, b2, b3, b4, c0, c1, c2, c3, c4]))[i] by simp [List.getD, hil]]
        exact List.getElem_mem hil
      obtain ⟨p, q, r, hd, ⟨p0, p1, p2, p3, p4, rfl, hp⟩, ⟨q0, q1, q2, q3, q4, rfl, hq⟩, ⟨r0, r1, r2, r3, r4, rfl, hr⟩⟩ := left_good hmem
      rw [hd, hw]
      simp only [List.cons_append, List.nil_append, List.getD_cons_zero, List.getD_cons_succ]
      refine ⟨fun h => ?_, fun _ => ⟨⟨i + 1, rfl, by omega⟩, by rw [Int.toNat_natCast]; omega⟩⟩
      exfalso
      revert h
      obtain ⟨hpn, hp0, hp1, hp2, hp3, hp4⟩ := hp
      obtain ⟨hqn, hq0, hq1, hq2, hq3, hq4⟩ := hq
      obtain ⟨hrn, hr0, hr1, hr2, hr3, hr4⟩ := hr
      simp only [Int.not_lt.2 hpn, Int.not_lt.2 hp0.1, Int.not_lt.2 hp0.2, Int.not_lt.2 hp1.1, Int.not_lt.2 hp1.2, Int.not_lt.2 hp2.1, Int.not_lt.2 hp2.2, Int.not_lt.2 hp3.1, Int.not_lt.2 hp3.2, Int.not_lt.2 hp4.1, Int.not_lt.2 hp4.2, Int.not_lt.2 hqn, Int.not_lt.2 hq0.1, Int.not_lt.2 hq0.2, Int.not_lt.2 hq1.1, Int.not_lt.2 hq1.2, Int.not_lt.2 hq2.1, Int.not_lt.2 hq2.2, Int.not_lt.2 hq3.1, Int.not_lt.2 hq3.2, Int.not_lt.2 hq4.1, Int.not_lt.2 hq4.2, Int.not_lt.2 hrn, Int.not_lt.2 hr0.1, Int.not_lt.2 hr0.2, Int.not_lt.2 hr1.1, Int.not_lt.2 hr1.2, Int.not_lt.2 hr2.1, Int.not_lt.2 hr2.2, Int.not_lt.2 hr3.1, Int.not_lt.2 hr3.2, Int.not_lt.2 hr4.1, Int.not_lt.2 hr4.2, or_self, not_false_eq_true]
      exact fun h => h
  · rw [near_no he]
    simp [-List.getD_eq_getElem?_getD, he]
theorem pins (xs0 : List Int) (hr0 : rangeOK I1.ks xs0) (xs1 : List Int) (hr1 : rangeOK (An 15).ks xs1) : vsOK ((I1.ks ++ ((An 15).ks ++ [])).map ivK) (xs0 ++ (xs1 ++ [])) :=
  range_vs (rangeOK_app hr0 (rangeOK_app hr1 range_nil))
theorem len15' {xs : List Int} (h : xs.length = 15) : ∃ a0 a1 a2 a3 a4 b0 b1 b2 b3 b4 c0 c1 c2 c3 c4, xs = [a0, a1, a2, a3, a4, b0, b1, b2, b3, b4, c0, c1, c2, c3, c4] := by
  match xs, h with
  | [a0, a1, a2, a3, a4, b0, b1, b2, b3, b4, c0, c1, c2, c3, c4], _ => exact ⟨_, _, _, _, _, _, _, _, _, _, _, _, _, _, _, rfl⟩
theorem fact_yes {r : List Int} {j : Nat} (h : r.getD 0 0 ≤ r.getD j 0) (hl : r.length = 16) (hj : j < 16) : (⟨false, .v 0, .v j, true⟩ : Fact).holds [] r ∧ (⟨false, .v 0, .v j, true⟩ : Fact).low r.length = true := by
  refine ⟨by simp only [Fact.holds, Bool.false_eq_true, if_false, X.den, iff_true]; exact h, ?_⟩
  simp only [Fact.low, X.low, Bool.and_eq_true, decide_eq_true_eq]
  omega
theorem fact_no {r : List Int} {j : Nat} (h : ¬ r.getD 0 0 ≤ r.getD j 0) (hl : r.length = 16) (hj : j < 16) : (⟨false, .v 0, .v j, false⟩ : Fact).holds [] r ∧ (⟨false, .v 0, .v j, false⟩ : Fact).low r.length = true := by
  refine ⟨by simp only [Fact.holds, Bool.false_eq_true, if_false, X.den, iff_false]; exact h, ?_⟩
  simp only [Fact.low, X.low, Bool.and_eq_true, decide_eq_true_eq]
  omega
theorem facts3 {f g h : Fact} {r : List Int} (hf : f.holds [] r ∧ f.low r.length = true) (hg : g.holds [] r ∧ g.low r.length = true) (hh : h.holds [] r ∧ h.low r.length = true) : factsOK [] [f, g, h] r := by
  intro x hx
  simp only [List.mem_cons, List.not_mem_nil, or_false] at hx
  rcases hx with rfl | rfl | rfl
  · exact hf
  · exact hg
  · exact hh
theorem run (W : World) {us : List Value} {xs0 xs1 : List Int} (hx : ShsR (fun _ ks u n => SlOK W ks u n) [I1, An 15] us (xs0 ++ (xs1 ++ []))) (hr0 : rangeOK I1.ks xs0) (hr1 : rangeOK (An 15).ks xs1) (hgl : GlOK gl0 W) :
    Calls Try.prog 8 us.toArray W fun e w' => e = .returned (.bool true) ∧ Below W.heap.size W w' := by
  have hv := pins xs0 hr0 xs1 hr1
  have l0 := rangeOK_len hr0
  obtain ⟨n, rfl⟩ := len1 l0
  obtain ⟨l1, i1⟩ := An_inv hr1
  obtain ⟨a0, a1, a2, a3, a4, b0, b1, b2, b3, b4, c0, c1, c2, c3, c4, rfl⟩ := len15' l1
  clear i1 l1 l0 hr0 hr1
  have hlen := left_len (n := n) (a0 := a0) (a1 := a1) (a2 := a2) (a3 := a3) (a4 := a4) (b0 := b0) (b1 := b1) (b2 := b2) (b3 := b3) (b4 := b4) (c0 := c0) (c1 := c1) (c2 := c2) (c3 := c3) (c4 := c4)
  by_cases ga : n ≤ a2 <;> by_cases gb : n ≤ b2 <;> by_cases gc : n ≤ c2 <;> simp only [ga, gb, gc, if_true, if_false, reduceIte] at hlen
  · exact lawFLf facts.mixed g_ClipFront o_ClipFront tree_ClipFront__7 W hx (facts3 (fact_yes ga rfl (by decide)) (fact_yes gb rfl (by decide)) (fact_yes gc rfl (by decide))) hv (plain_7 ga gb gc) hgl
  · exact lawFLf facts.mixed g_ClipFront o_ClipFront tree_ClipFront__3 W hx (facts3 (fact_yes ga rfl (by decide)) (fact_yes gb rfl (by decide)) (fact_no gc rfl (by decide))) hv (plain_w (w := 2) (by rw [hlen]; rfl)) hgl
  · exact lawFLf facts.mixed g_ClipFront o_ClipFront tree_ClipFront__5 W hx (facts3 (fact_yes ga rfl (by decide)) (fact_no gb rfl (by decide)) (fact_yes gc rfl (by decide))) hv (plain_w (w := 2) (by rw [hlen]; rfl)) hgl
  · exact lawFLf facts.mixed g_ClipFront o_ClipFront tree_ClipFront__1 W hx (facts3 (fact_yes ga rfl (by decide)) (fact_no gb rfl (by decide)) (fact_no gc rfl (by decide))) hv (plain_w (w := 1) (by rw [hlen]; rfl)) hgl
  · exact lawFLf facts.mixed g_ClipFront o_ClipFront tree_ClipFront__6 W hx (facts3 (fact_no ga rfl (by decide)) (fact_yes gb rfl (by decide)) (fact_yes gc rfl (by decide))) hv (plain_w (w := 2) (by rw [hlen]; rfl)) hgl
  · exact lawFLf facts.mixed g_ClipFront o_ClipFront tree_ClipFront__2 W hx (facts3 (fact_no ga rfl (by decide)) (fact_yes gb rfl (by decide)) (fact_no gc rfl (by decide))) hv (plain_w (w := 1) (by rw [hlen]; rfl)) hgl
  · exact lawFLf facts.mixed g_ClipFront o_ClipFront tree_ClipFront__4 W hx (facts3 (fact_no ga rfl (by decide)) (fact_no gb rfl (by decide)) (fact_yes gc rfl (by decide))) hv (plain_w (w := 1) (by rw [hlen]; rfl)) hgl
  · exact lawFLf facts.mixed g_ClipFront o_ClipFront tree_ClipFront__0 W hx (facts3 (fact_no ga rfl (by decide)) (fact_no gb rfl (by decide)) (fact_no gc rfl (by decide))) hv (plain_w (w := 0) (by rw [hlen]; rfl)) hgl
set_option maxRecDepth 100000 in
theorem lifted (os : Os) (started : os.Started) (H : Type) (enc : TypeId × Value → H) :
    ReturnsInHanded {} Try.checked os 8 .any (Rows.clipFrontSpec.pre6 enc Try.prog Try.f8 Rows.clipFrontRow.domain false) (Rows.clipFrontSpec.post enc Try.prog Try.f8 false true false false) := by
  refine returnsInHanded_of_change (C := Try.checked) facts.own started (by kernel_rfl) Try.func8
    (ChangeSpec.witness6 (enc := enc) (C := Try.checked) false ⟨#[], #[.int .i64 0, .agg #[.int .i64 0, .int .i64 0, .int .i64 0, .int .i64 0, .int .i64 0, .int .i64 0, .int .i64 0, .int .i64 0, .int .i64 0, .int .i64 0, .int .i64 0, .int .i64 0, .int .i64 0, .int .i64 0, .int .i64 0]], []⟩ 8 (by kernel_rfl) (by kernel_rfl) (by kernel_rfl) (by kernel_rfl)) ?_
  intro W base args ds gs before hval0 hW hcnd _
  have hval : ∀ (j : Nat) t v, Try.f8.params[j]? = some t → args[j]? = some v → Value.okWide Try.prog W .any base t v := hval0
  have hW' := hW
  obtain ⟨p, q, hA0, hV, rfl, hfz, hnd⟩ := hW
  have hA : DataW.TrodAll enc Try.prog W 0 (fun _ => true) true Try.f8.params.toList args.toList ds p := hA0
  rw [Try.params8] at hA hval
  obtain ⟨v0, vs0, d0, ds0, p0, q0, hargs, rfl, rfl, h0, r0⟩ := trodAll_cons hA
  obtain ⟨v1, vs1, d1, ds1, p1, q1, rfl, rfl, rfl, h1, r1⟩ := trodAll_cons r0
  obtain ⟨rfl, rfl, rfl⟩ := trodAll_nil r1
  obtain rfl : args = #[v0, v1] := by cases args; simp_all
  obtain ⟨rfl, rfl⟩ := trodVars_none hV
  have k0 := h0
  have lt0 : ∀ x ∈ p0, x.block < W.heap.size := by obtain ⟨m, hm⟩ := k0; exact DataW.trod_lt m _ _ _ hm
  have k1 := h1
  have lt1 : ∀ x ∈ p1, x.block < W.heap.size := by obtain ⟨m, hm⟩ := k1; exact DataW.trod_lt m _ _ _ hm
  obtain ⟨xs0, hv0, hr0⟩ := open_sh (sh := I1) (by kernel_rfl) (by kernel_rfl) (hval 0 3 v0 rfl rfl) h0
  have hs0 : ShR (fun _ ks u n => SlOK W ks u n) (I1) v0 xs0 := by rw [hv0]; exact ShR_mk rfl rfl (rangeOK_len hr0)
  obtain ⟨xs1, hv1, hr1⟩ := open_sh (sh := An 15) (by kernel_rfl) (by kernel_rfl) (hval 1 53 v1 rfl rfl) h1
  have hs1 : ShR (fun _ ks u n => SlOK W ks u n) (An 15) v1 xs1 := by rw [hv1]; exact ShR_mk rfl rfl (rangeOK_len hr1)
  clear hA0 hval0
  have hx : ShsR (fun _ ks u n => SlOK W ks u n) [I1, An 15] [v0, v1] (xs0 ++ (xs1 ++ [])) := ⟨_, _, _, _, rfl, rfl, hs0, ⟨_, _, _, _, rfl, rfl, hs1, ⟨rfl, rfl⟩⟩⟩
  have hcalls := run W hx hr0 hr1 (fun p hp => by cases hp)
  refine hcalls.mono fun e W' ⟨he, bel⟩ => ?_
  subst he
  exact ⟨_, rfl, _, _, _, [], _, [], hW', trodAll_mk1 (shut_bool Try.underlying4 _), (trodAll_cons_mk (Below.trod facts.laidOut (by kernel_rfl) (of_decide_eq_true (by kernel_rfl)) k0 bel lt0) (trodAll_cons_mk (Below.trod facts.laidOut (by kernel_rfl) (of_decide_eq_true (by kernel_rfl)) k1 bel lt1) trodAll_mk0)), rfl, bel.frame _, fun h => by cases h⟩

theorem over : Rows.clipFrontRow.holds Try.pinned (OpenSpec.ofChange Rows.clipFrontSpec) :=
  OpenClaim.holds_of_wide 8 Try.f8 rfl rfl rfl rfl rfl rfl rfl ⟨rfl, rfl, rfl, rfl, rfl⟩ rfl rfl rfl rfl rfl (by kernel_rfl) Try.func8
    (facts.joined (by kernel_rfl) (by kernel_rfl) (by kernel_rfl) (by kernel_rfl) (by kernel_rfl) (by kernel_rfl) (by kernel_rfl) rfl rfl rfl rfl)
    (of_decide_eq_true (by kernel_rfl)) (by unfold Func.isWrapper; first | (rw [if_pos (by decide +kernel)]; kernel_rfl) | (rw [if_neg (by decide +kernel)]; exact ⟨rfl, rfl⟩))
    (fun os started H enc _ => lifted os started H enc)

/-- THE STATEMENT. -/
theorem proved : Rows.ClipFrontSaid := over
#print axioms proved

end Go.Proofs.Ytjbkcjbjllmhfaa.clipFront
