/-
  The law FrustumWindows is answered with true, whatever its arguments, which stay as they were.
-/
import Derived.Test.YtjbkcjbjllmhfaaDoorRows
import Derived.Test.YtjbkcjbjllmhfaaDoorFacts
import Derived.Test.YtjbkcjbjllmhfaaDoorCards
import Derived.Test.YtjbkcjbjllmhfaaDoorTie
import Derived.Test.YtjbkcjbjllmhfaaDoorDoorA
import Derived.SevenTiedAt
import Derived.Test.YtjbkcjbjllmhfaaDoorMid
set_option linter.unusedVariables false
set_option linter.unusedSimpArgs false
namespace Go.Proofs.YtjbkcjbjllmhfaaDoor.frustumWindows
open Go.RowKit Go.ChangeShapes Go.WideShapes Go.ChangeAt Go.Sx fix

def G_FrustumWindows : List Sum := [s_alive17, s_shadow]
def I_FrustumWindows : List Inf := [i_alive17, i_shadow]
def t_FrustumWindows : TX := (.callp 0 [] (.callp 1 [(.v 0), (.v 1), (.v 2), (.v 3), (.v 4), (.v 5), (.v 6), (.v 7), (.v 8), (.v 9), (.v 10), (.v 11), (.v 12), (.v 13), (.v 14), (.v 15), (.v 16), (.v 17), (.v 18), (.v 19), (.v 20), (.v 21), (.v 22), (.v 23), (.v 24), (.v 25)] (.callp 1 [(.v 0), (.v 1), (.v 2), (.v 3), (.v 4), (.v 5), (.v 6), (.v 7), (.v 8), (.v 9), (.v 10), (.v 11), (.v 12), (.v 13), (.v 14), (.v 15), (.v 16), (.v 17), (.v 18), (.v 19), (.v 20), (.v 21), (.v 26), (.v 27), (.v 28), (.v 29)] (.ite (.or (.not (.eq (.v 37) (.c 0))) (.or (.not (.eq (.v 44) (.c 0))) (.or (.or (.or (.lt (.v 26) (.v 22)) (.lt (.v 24) (.v 28))) (.lt (.v 27) (.v 23))) (.lt (.v 25) (.v 29))))) (.ret [(.c 1)])
(.ite (.not (.iff (.nz (.v 43)) (.and (.and (.nz (.v 36)) (.le (.mx (.v 31) (.v 26)) (.mn (.v 33) (.v 28)))) (.le (.mx (.v 32) (.v 27)) (.mn (.v 34) (.v 29)))))) (.ret [(.c 0)])
(.ite (.or (.eq (.v 43) (.c 0)) (.and (.and (.eq (.v 38) (.mx (.v 31) (.v 26))) (.and (.eq (.v 39) (.mx (.v 32) (.v 27))) (.and (.eq (.v 40) (.mn (.v 33) (.v 28))) (.eq (.v 41) (.mn (.v 34) (.v 29)))))) (.eq (.v 42) (.v 35)))) (.ret [(.c 1)])
(.ret [(.c 0)])))))))
theorem tree_FrustumWindows : merge (optF I_FrustumWindows [] (((An 16).ks ++ ((An 6).ks ++ ((An 4).ks ++ ((An 4).ks ++ [])))).map ivK) (symFnG Tryd.prog gl0 G_FrustumWindows 1000 6 [An 16, An 6, An 4, An 4] [Bo])) = t_FrustumWindows := by kernel_rfl
theorem g_FrustumWindows : Gok Tryd.prog G_FrustumWindows := (more ok_alive17 (one ok_shadow))
theorem o_FrustumWindows : outsOK G_FrustumWindows I_FrustumWindows := (outsOK_cons inf_alive17 (outsOK_cons inf_shadow outsOK_nil))
theorem plain (xs0 : List Int) (hr0 : rangeOK (An 16).ks xs0) (xs1 : List Int) (hr1 : rangeOK (An 6).ks xs1) (xs2 : List Int) (hr2 : rangeOK (An 4).ks xs2) (xs3 : List Int) (hr3 : rangeOK (An 4).ks xs3) : t_FrustumWindows.sat G_FrustumWindows [] (fun ys => ys = [1]) (xs0 ++ (xs1 ++ (xs2 ++ (xs3 ++ [])))) := by
  obtain ⟨l0, i0⟩ := An_inv hr0
  obtain ⟨a0, a1, a2, a3, a4, a5, a6, a7, a8, a9, a10, a11, a12, a13, a14, a15, rfl⟩ := len16 l0
  obtain ⟨l1, i1⟩ := An_inv hr1
  obtain ⟨a16, a17, a18, a19, a20, a21, rfl⟩ := len6 l1
  obtain ⟨l2, i2⟩ := An_inv hr2
  obtain ⟨a22, a23, a24, a25, rfl⟩ := len4 l2
  obtain ⟨l3, i3⟩ := An_inv hr3
  obtain ⟨a26, a27, a28, a29, rfl⟩ := len4 l3
  have hA := @shadow_ok [a0, a1, a2, a3, a4, a5, a6, a7, a8, a9, a10, a11, a12, a13, a14, a15, a16, a17, a18, a19, a20, a21, a22, a23, a24, a25]
  have hB := @shadow_ok [a0, a1, a2, a3, a4, a5, a6, a7, a8, a9, a10, a11, a12, a13, a14, a15, a16, a17, a18, a19, a20, a21, a26, a27, a28, a29]
  simp only [t_FrustumWindows, G_FrustumWindows, s_alive17, s_shadow, TX.sat, XB.prop, X.den, List.map_cons, List.map_nil, List.getElem?_cons_zero, List.getElem?_cons_succ, List.cons_append, List.nil_append, List.getD_cons_zero, List.getD_cons_succ, mkS, mkP, and_true, true_and, Int.not_lt, Int.not_le, not_or, not_and, Classical.not_not, ne_eq, not_true_eq_false, not_false_eq_true, sem_alive17, sem_alive, sem_shadow, ex7]
  clear i0 i1 i2 i3 l0 l1 l2 l3
  by_cases ha : (shadowL [a0, a1, a2, a3, a4, a5, a6, a7, a8, a9, a10, a11, a12, a13, a14, a15, a16, a17, a18, a19, a20, a21, a22, a23, a24, a25]).getD 6 0 = 0
  · by_cases hb : (shadowL [a0, a1, a2, a3, a4, a5, a6, a7, a8, a9, a10, a11, a12, a13, a14, a15, a16, a17, a18, a19, a20, a21, a26, a27, a28, a29]).getD 6 0 = 0
    · obtain ⟨hc, hw, hwin, hv⟩ := hA ha
      obtain ⟨_, _, hwin', hv'⟩ := hB hb
      rw [hv, hv']
      have X0 : shX0 [a0, a1, a2, a3, a4, a5, a6, a7, a8, a9, a10, a11, a12, a13, a14, a15, a16, a17, a18, a19, a20, a21, a22, a23, a24, a25] = max (up (leftV [a0, a1, a2, a3, a4, a5, a6, a7, a8, a9, a10, a11, a12, a13, a14, a15, a16, a17, a18, a19, a20, a21, a22, a23, a24, a25] - 4) 8) a22 := rfl
      have X0' : shX0 [a0, a1, a2, a3, a4, a5, a6, a7, a8, a9, a10, a11, a12, a13, a14, a15, a16, a17, a18, a19, a20, a21, a26, a27, a28, a29] = max (up (leftV [a0, a1, a2, a3, a4, a5, a6, a7, a8, a9, a10, a11, a12, a13, a14, a15, a16, a17, a18, a19, a20, a21, a22, a23, a24, a25] - 4) 8) a26 := rfl
      have Y0 : shY0 [a0, a1, a2, a3, a4, a5, a6, a7, a8, a9, a10, a11, a12, a13, a14, a15, a16, a17, a18, a19, a20, a21, a22, a23, a24, a25] = max (up (topV [a0, a1, a2, a3, a4, a5, a6, a7, a8, a9, a10, a11, a12, a13, a14, a15, a16, a17, a18, a19, a20, a21, a22, a23, a24, a25] - 4) 8) a23 := rfl
      have Y0' : shY0 [a0, a1, a2, a3, a4, a5, a6, a7, a8, a9, a10, a11, a12, a13, a14, a15, a16, a17, a18, a19, a20, a21, a26, a27, a28, a29] = max (up (topV [a0, a1, a2, a3, a4, a5, a6, a7, a8, a9, a10, a11, a12, a13, a14, a15, a16, a17, a18, a19, a20, a21, a22, a23, a24, a25] - 4) 8) a27 := rfl
      have X1 : shX1 [a0, a1, a2, a3, a4, a5, a6, a7, a8, a9, a10, a11, a12, a13, a14, a15, a16, a17, a18, a19, a20, a21, a22, a23, a24, a25] = min ((rightV [a0, a1, a2, a3, a4, a5, a6, a7, a8, a9, a10, a11, a12, a13, a14, a15, a16, a17, a18, a19, a20, a21, a22, a23, a24, a25] - 4) / 8) a24 := rfl
      have X1' : shX1 [a0, a1, a2, a3, a4, a5, a6, a7, a8, a9, a10, a11, a12, a13, a14, a15, a16, a17, a18, a19, a20, a21, a26, a27, a28, a29] = min ((rightV [a0, a1, a2, a3, a4, a5, a6, a7, a8, a9, a10, a11, a12, a13, a14, a15, a16, a17, a18, a19, a20, a21, a22, a23, a24, a25] - 4) / 8) a28 := rfl
      have Y1 : shY1 [a0, a1, a2, a3, a4, a5, a6, a7, a8, a9, a10, a11, a12, a13, a14, a15, a16, a17, a18, a19, a20, a21, a22, a23, a24, a25] = min ((botV [a0, a1, a2, a3, a4, a5, a6, a7, a8, a9, a10, a11, a12, a13, a14, a15, a16, a17, a18, a19, a20, a21, a22, a23, a24, a25] - 4) / 8) a25 := rfl
      have Y1' : shY1 [a0, a1, a2, a3, a4, a5, a6, a7, a8, a9, a10, a11, a12, a13, a14, a15, a16, a17, a18, a19, a20, a21, a26, a27, a28, a29] = min ((botV [a0, a1, a2, a3, a4, a5, a6, a7, a8, a9, a10, a11, a12, a13, a14, a15, a16, a17, a18, a19, a20, a21, a22, a23, a24, a25] - 4) / 8) a29 := rfl
      have n1 : nearV [a0, a1, a2, a3, a4, a5, a6, a7, a8, a9, a10, a11, a12, a13, a14, a15, a16, a17, a18, a19, a20, a21, a26, a27, a28, a29] = nearV [a0, a1, a2, a3, a4, a5, a6, a7, a8, a9, a10, a11, a12, a13, a14, a15, a16, a17, a18, a19, a20, a21, a22, a23, a24, a25] := rfl
      have f1 : farV [a0, a1, a2, a3, a4, a5, a6, a7, a8, a9, a10, a11, a12, a13, a14, a15, a16, a17, a18, a19, a20, a21, a26, a27, a28, a29] = farV [a0, a1, a2, a3, a4, a5, a6, a7, a8, a9, a10, a11, a12, a13, a14, a15, a16, a17, a18, a19, a20, a21, a22, a23, a24, a25] := rfl
      have s1 := @showsB_iff [a0, a1, a2, a3, a4, a5, a6, a7, a8, a9, a10, a11, a12, a13, a14, a15, a16, a17, a18, a19, a20, a21, a22, a23, a24, a25]
      have s2 := @showsB_iff [a0, a1, a2, a3, a4, a5, a6, a7, a8, a9, a10, a11, a12, a13, a14, a15, a16, a17, a18, a19, a20, a21, a26, a27, a28, a29]
      have hwn := winB_true.1 hwin'
      simp only [TX.sat, XB.prop, X.den, List.map_cons, List.map_nil, List.getElem?_cons_zero, List.getElem?_cons_succ, List.cons_append, List.nil_append, List.getD_cons_zero, List.getD_cons_succ, mkS, mkP, and_true, true_and, Int.not_lt, Int.not_le, not_or, not_and, Classical.not_not, ne_eq, not_true_eq_false, not_false_eq_true, Nat.reduceAdd] at hwn
      have P1 : shadowP [a0, a1, a2, a3, a4, a5, a6, a7, a8, a9, a10, a11, a12, a13, a14, a15, a16, a17, a18, a19, a20, a21, a22, a23, a24, a25] = [shX0 [a0, a1, a2, a3, a4, a5, a6, a7, a8, a9, a10, a11, a12, a13, a14, a15, a16, a17, a18, a19, a20, a21, a22, a23, a24, a25], shY0 [a0, a1, a2, a3, a4, a5, a6, a7, a8, a9, a10, a11, a12, a13, a14, a15, a16, a17, a18, a19, a20, a21, a22, a23, a24, a25], shX1 [a0, a1, a2, a3, a4, a5, a6, a7, a8, a9, a10, a11, a12, a13, a14, a15, a16, a17, a18, a19, a20, a21, a22, a23, a24, a25], shY1 [a0, a1, a2, a3, a4, a5, a6, a7, a8, a9, a10, a11, a12, a13, a14, a15, a16, a17, a18, a19, a20, a21, a22, a23, a24, a25], 16777216 / nearV [a0, a1, a2, a3, a4, a5, a6, a7, a8, a9, a10, a11, a12, a13, a14, a15, a16, a17, a18, a19, a20, a21, a22, a23, a24, a25], 1, 0] := rfl
      have P2 : shadowP [a0, a1, a2, a3, a4, a5, a6, a7, a8, a9, a10, a11, a12, a13, a14, a15, a16, a17, a18, a19, a20, a21, a26, a27, a28, a29] = [shX0 [a0, a1, a2, a3, a4, a5, a6, a7, a8, a9, a10, a11, a12, a13, a14, a15, a16, a17, a18, a19, a20, a21, a26, a27, a28, a29], shY0 [a0, a1, a2, a3, a4, a5, a6, a7, a8, a9, a10, a11, a12, a13, a14, a15, a16, a17, a18, a19, a20, a21, a26, a27, a28, a29], shX1 [a0, a1, a2, a3, a4, a5, a6, a7, a8, a9, a10, a11, a12, a13, a14, a15, a16, a17, a18, a19, a20, a21, a26, a27, a28, a29], shY1 [a0, a1, a2, a3, a4, a5, a6, a7, a8, a9, a10, a11, a12, a13, a14, a15, a16, a17, a18, a19, a20, a21, a26, a27, a28, a29], 16777216 / nearV [a0, a1, a2, a3, a4, a5, a6, a7, a8, a9, a10, a11, a12, a13, a14, a15, a16, a17, a18, a19, a20, a21, a22, a23, a24, a25], 1, 0] := rfl
      rw [n1, f1] at s2
      rw [P1, P2]
      clear hA hB ha hb hc hw hwin hv hwin' hv' P1 P2 n1 f1
      generalize showsB [a0, a1, a2, a3, a4, a5, a6, a7, a8, a9, a10, a11, a12, a13, a14, a15, a16, a17, a18, a19, a20, a21, a22, a23, a24, a25] = S at *
      generalize showsB [a0, a1, a2, a3, a4, a5, a6, a7, a8, a9, a10, a11, a12, a13, a14, a15, a16, a17, a18, a19, a20, a21, a26, a27, a28, a29] = Z at *
      generalize shX0 [a0, a1, a2, a3, a4, a5, a6, a7, a8, a9, a10, a11, a12, a13, a14, a15, a16, a17, a18, a19, a20, a21, a22, a23, a24, a25] = x0 at *
      generalize shX1 [a0, a1, a2, a3, a4, a5, a6, a7, a8, a9, a10, a11, a12, a13, a14, a15, a16, a17, a18, a19, a20, a21, a22, a23, a24, a25] = x1 at *
      generalize shY0 [a0, a1, a2, a3, a4, a5, a6, a7, a8, a9, a10, a11, a12, a13, a14, a15, a16, a17, a18, a19, a20, a21, a22, a23, a24, a25] = y0 at *
      generalize shY1 [a0, a1, a2, a3, a4, a5, a6, a7, a8, a9, a10, a11, a12, a13, a14, a15, a16, a17, a18, a19, a20, a21, a22, a23, a24, a25] = y1 at *
      generalize shX0 [a0, a1, a2, a3, a4, a5, a6, a7, a8, a9, a10, a11, a12, a13, a14, a15, a16, a17, a18, a19, a20, a21, a26, a27, a28, a29] = u0 at *
      generalize shX1 [a0, a1, a2, a3, a4, a5, a6, a7, a8, a9, a10, a11, a12, a13, a14, a15, a16, a17, a18, a19, a20, a21, a26, a27, a28, a29] = u1 at *
      generalize shY0 [a0, a1, a2, a3, a4, a5, a6, a7, a8, a9, a10, a11, a12, a13, a14, a15, a16, a17, a18, a19, a20, a21, a26, a27, a28, a29] = w0 at *
      generalize shY1 [a0, a1, a2, a3, a4, a5, a6, a7, a8, a9, a10, a11, a12, a13, a14, a15, a16, a17, a18, a19, a20, a21, a26, a27, a28, a29] = w1 at *
      generalize 16777216 / nearV [a0, a1, a2, a3, a4, a5, a6, a7, a8, a9, a10, a11, a12, a13, a14, a15, a16, a17, a18, a19, a20, a21, a22, a23, a24, a25] = dd at *
      generalize up (leftV [a0, a1, a2, a3, a4, a5, a6, a7, a8, a9, a10, a11, a12, a13, a14, a15, a16, a17, a18, a19, a20, a21, a22, a23, a24, a25] - 4) 8 = ul at *
      generalize up (topV [a0, a1, a2, a3, a4, a5, a6, a7, a8, a9, a10, a11, a12, a13, a14, a15, a16, a17, a18, a19, a20, a21, a22, a23, a24, a25] - 4) 8 = ut at *
      generalize (rightV [a0, a1, a2, a3, a4, a5, a6, a7, a8, a9, a10, a11, a12, a13, a14, a15, a16, a17, a18, a19, a20, a21, a22, a23, a24, a25] - 4) / 8 = ur at *
      generalize (botV [a0, a1, a2, a3, a4, a5, a6, a7, a8, a9, a10, a11, a12, a13, a14, a15, a16, a17, a18, a19, a20, a21, a22, a23, a24, a25] - 4) / 8 = ub at *
      generalize nearV [a0, a1, a2, a3, a4, a5, a6, a7, a8, a9, a10, a11, a12, a13, a14, a15, a16, a17, a18, a19, a20, a21, a22, a23, a24, a25] = nn at *
      generalize farV [a0, a1, a2, a3, a4, a5, a6, a7, a8, a9, a10, a11, a12, a13, a14, a15, a16, a17, a18, a19, a20, a21, a22, a23, a24, a25] = ff at *
      refine ⟨fun _ => trivial, fun hin => ?_⟩
      have hin' : (a22 ≤ a26 ∧ a28 ≤ a24) ∧ (a23 ≤ a27 ∧ a29 ≤ a25) := by
        obtain ⟨_, _, h⟩ := hin
        omega
      clear hin
      have k0 : True := trivial
      have hx0 : max x0 a26 = u0 ∧ x0 ≤ u0 := by clear s1 s2 Y0 Y0' Y1 Y1' X1 X1' hwn; omega
      have hy0 : max y0 a27 = w0 ∧ y0 ≤ w0 := by clear s1 s2 X0 X0' X1 X1' Y1 Y1' hwn; omega
      have hx1 : min x1 a28 = u1 ∧ u1 ≤ x1 := by clear s1 s2 X0 X0' Y0 Y0' Y1 Y1' hwn; omega
      have hy1 : min y1 a29 = w1 ∧ w1 ≤ y1 := by clear s1 s2 X0 X0' Y0 Y0' X1 X1' hwn; omega
      clear X0 X0' X1 X1' Y0 Y0' Y1 Y1' hwn hin' k0
      cases S <;> cases Z <;> simp only [if_true, if_false, reduceIte, Bool.false_eq_true, z7, TX.sat, XB.prop, X.den, List.map_cons, List.map_nil, List.getElem?_cons_zero, List.getElem?_cons_succ, List.cons_append, List.nil_append, List.getD_cons_zero, List.getD_cons_succ, mkS, mkP, and_true, true_and, Int.not_lt, Int.not_le, not_or, not_and, Classical.not_not, ne_eq, not_true_eq_false, not_false_eq_true, true_iff, false_iff] at s1 s2 ⊢
      · simp
      · exfalso
        omega
      · rw [hx0.1, hx1.1, hy0.1, hy1.1]
        have h0 : u0 ≤ u1 → ¬ w0 ≤ w1 := by omega
        by_cases h1 : u0 ≤ u1
        · have h2 := h0 h1
          simp [h1, h2]
        · simp [h1]
      · rw [hx0.1, hx1.1, hy0.1, hy1.1]
        simp [s2.2.1, s2.2.2]
    · refine ⟨fun _ => trivial, fun h => absurd h.2.1 hb⟩
  · refine ⟨fun _ => trivial, fun h => absurd h.1 ha⟩
theorem range_nil : rangeOK [] [] := trivial
set_option maxRecDepth 100000 in
theorem lifted (os : Os) (started : os.Started) (H : Type) (enc : TypeId × Value → H) :
    ReturnsInHanded {} Tryd.checked os 6 .any (fun w args => (Rows.frustumWindowsSpec.pre enc Tryd.prog Tryd.f6 Rows.frustumWindowsRow.domain false w args ∧ laidMet Tryd.prog [("diorama/frustum.world", Rows.laid_diorama_frustum_world)] w) ∧ sizedMet enc Tryd.prog Tryd.f6 (OpenSpec.ofChange Rows.frustumWindowsSpec) false w args) (Rows.frustumWindowsSpec.post enc Tryd.prog Tryd.f6 false true false false) := by
  refine returnsInHanded_of_change_and (C := Tryd.checked) (X := fun w _ => laidMet Tryd.prog [("diorama/frustum.world", Rows.laid_diorama_frustum_world)] w) (fun _ _ _ hh h => h.of_heap hh) facts.own started (by kernel_rfl) Tryd.func6
    (ChangeSpec.witness_at (enc := enc) (C := Tryd.checked) (os := os) (X := fun w _ => laidMet Tryd.prog [("diorama/frustum.world", Rows.laid_diorama_frustum_world)] w) false (laidWorld os) #[.agg #[.int .i64 0, .int .i64 0, .int .i64 0, .int .i64 0, .int .i64 0, .int .i64 0, .int .i64 0, .int .i64 0, .int .i64 0, .int .i64 0, .int .i64 0, .int .i64 0, .int .i64 0, .int .i64 0, .int .i64 0, .int .i64 0], .agg #[.int .i64 0, .int .i64 0, .int .i64 0, .int .i64 0, .int .i64 0, .int .i64 0], .agg #[.int .i64 0, .int .i64 0, .int .i64 0, .int .i64 0], .agg #[.int .i64 0, .int .i64 0, .int .i64 0, .int .i64 0]] 8 rfl (by kernel_rfl) (by kernel_rfl) (by kernel_rfl) (by kernel_rfl) (by kernel_rfl) (laidWorld_met os _)) ?_
  intro W base args ds gs before hval0 hW hcnd _ hL _
  have hval : ∀ (j : Nat) t v, Tryd.f6.params[j]? = some t → args[j]? = some v → Value.okWide Tryd.prog W .any base t v := hval0
  have hW' := hW
  obtain ⟨p, q, hA0, hV, rfl, hfz, hnd⟩ := hW
  have hA : DataW.TrodAll enc Tryd.prog W 0 (fun _ => true) true Tryd.f6.params.toList args.toList ds p := hA0
  rw [Tryd.params6] at hA hval
  obtain ⟨v0, vs0, d0, ds0, p0, q0, hargs, rfl, rfl, h0, r0⟩ := trodAll_cons hA
  obtain ⟨v1, vs1, d1, ds1, p1, q1, rfl, rfl, rfl, h1, r1⟩ := trodAll_cons r0
  obtain ⟨v2, vs2, d2, ds2, p2, q2, rfl, rfl, rfl, h2, r2⟩ := trodAll_cons r1
  obtain ⟨v3, vs3, d3, ds3, p3, q3, rfl, rfl, rfl, h3, r3⟩ := trodAll_cons r2
  obtain ⟨rfl, rfl, rfl⟩ := trodAll_nil r3
  obtain rfl : args = #[v0, v1, v2, v3] := by cases args; simp_all
  obtain ⟨rfl, rfl⟩ := trodVars_none hV
  have k0 := h0
  have lt0 : ∀ x ∈ p0, x.block < W.heap.size := by obtain ⟨m, hm⟩ := k0; exact DataW.trod_lt m _ _ _ hm
  have k1 := h1
  have lt1 : ∀ x ∈ p1, x.block < W.heap.size := by obtain ⟨m, hm⟩ := k1; exact DataW.trod_lt m _ _ _ hm
  have k2 := h2
  have lt2 : ∀ x ∈ p2, x.block < W.heap.size := by obtain ⟨m, hm⟩ := k2; exact DataW.trod_lt m _ _ _ hm
  have k3 := h3
  have lt3 : ∀ x ∈ p3, x.block < W.heap.size := by obtain ⟨m, hm⟩ := k3; exact DataW.trod_lt m _ _ _ hm
  obtain ⟨xs0, hv0, hr0⟩ := open_sh (sh := An 16) (by kernel_rfl) (by kernel_rfl) (hval 0 34 v0 rfl rfl) h0
  obtain ⟨xs1, hv1, hr1⟩ := open_sh (sh := An 6) (by kernel_rfl) (by kernel_rfl) (hval 1 37 v1 rfl rfl) h1
  obtain ⟨xs2, hv2, hr2⟩ := open_sh (sh := An 4) (by kernel_rfl) (by kernel_rfl) (hval 2 23 v2 rfl rfl) h2
  obtain ⟨xs3, hv3, hr3⟩ := open_sh (sh := An 4) (by kernel_rfl) (by kernel_rfl) (hval 3 23 v3 rfl rfl) h3
  clear hA0 hval0
  have hl0 := rangeOK_len hr0
  have hl1 := rangeOK_len hr1
  have hl2 := rangeOK_len hr2
  have hl3 := rangeOK_len hr3
  have hxs : #[v0, v1, v2, v3] = (mkShs [An 16, An 6, An 4, An 4] (xs0 ++ (xs1 ++ (xs2 ++ (xs3 ++ []))))).toArray := by
    rw [mkShs_cons hl0, mkShs_cons hl1, mkShs_cons hl2, mkShs_cons hl3]
    simp [mkShs, hv0, hv1, hv2, hv3]
  have hlen : (xs0 ++ (xs1 ++ (xs2 ++ (xs3 ++ [])))).length = total [An 16, An 6, An 4, An 4] := by
    simp only [List.length_append, List.length_nil, hl0, hl1, hl2, hl3]
    rfl
  have hcalls := lawF facts.mixed g_FrustumWindows o_FrustumWindows tree_FrustumWindows hlen (range_vs ((rangeOK_app hr0 (rangeOK_app hr1 (rangeOK_app hr2 (rangeOK_app hr3 range_nil)))) : rangeOK _ _)) (plain xs0 hr0 xs1 hr1 xs2 hr2 xs3 hr3) W (glob_of_laid hL)
  rw [← hxs] at hcalls
  refine hcalls.mono fun e W' ⟨he, bel⟩ => ?_
  subst he
  exact ⟨_, rfl, _, _, _, [], _, [], hW', trodAll_mk1 (shut_bool Tryd.underlying4 _), (trodAll_cons_mk (Below.trod facts.laidOut (by kernel_rfl) (of_decide_eq_true (by kernel_rfl)) k0 bel lt0) (trodAll_cons_mk (Below.trod facts.laidOut (by kernel_rfl) (of_decide_eq_true (by kernel_rfl)) k1 bel lt1) (trodAll_cons_mk (Below.trod facts.laidOut (by kernel_rfl) (of_decide_eq_true (by kernel_rfl)) k2 bel lt2) (trodAll_cons_mk (Below.trod facts.laidOut (by kernel_rfl) (of_decide_eq_true (by kernel_rfl)) k3 bel lt3) trodAll_mk0)))), rfl, bel.frame _, fun h => by cases h⟩

theorem over : Rows.frustumWindowsRow.holds Tryd.pinned (OpenSpec.ofChange Rows.frustumWindowsSpec) :=
  OpenClaim.holds_of_wide 6 Tryd.f6 rfl rfl rfl rfl rfl rfl rfl ⟨rfl, rfl, rfl, rfl, rfl⟩ rfl rfl rfl rfl rfl (by kernel_rfl) Tryd.func6
    (facts.joined (by kernel_rfl) (by kernel_rfl) (by kernel_rfl) (by kernel_rfl) (by kernel_rfl) (by kernel_rfl) (by kernel_rfl) rfl rfl rfl rfl)
    (of_decide_eq_true (by kernel_rfl)) (by unfold Func.isWrapper; first | (rw [if_pos (by decide +kernel)]; kernel_rfl) | (rw [if_neg (by decide +kernel)]; exact ⟨rfl, rfl⟩))
    (fun os started H enc _ => lifted os started H enc)

theorem noStand : (Tryd.f6.params.all fun t => !Tryd.prog.wantsStandIn t) = true := by kernel_rfl
/-- THE STATEMENT: the row, its one listed variable tied to the program's text. -/
theorem proved : Rows.FrustumWindowsCardSaid :=
  Claim7.holds_tied_plain_at .later [] [.data] true (true, "ba5fbdf844d12a9b064d108c88059d5ef4c8b7d3707af7476f83711cd4242958") false over (fun _ h => by cases h) (by kernel_rfl) (fun _ h => by cases h) frustumWindows_row_tie rfl ⟨rfl, rfl⟩ (by kernel_rfl) rfl
    (fun f fn hf hfn => by
      obtain rfl : f = 6 := Option.some.inj ((show Tryd.prog.funcNamed Rows.frustumWindowsRow.func = some 6 by kernel_rfl).symm.trans hf) |>.symm
      obtain rfl : fn = Tryd.f6 := (Option.some.inj (Tryd.func6.symm.trans hfn)).symm
      refine ⟨by kernel_rfl, fun j t ht => ?_⟩
      have := Array.all_eq_true_iff_forall_mem.1 noStand t (Array.mem_of_getElem? ht)
      exact (by simpa using this : Tryd.prog.wantsStandIn t = false))
    (by kernel_rfl)
#print axioms proved

end Go.Proofs.YtjbkcjbjllmhfaaDoor.frustumWindows
