/-
  The law TreeNames is answered with true.
-/
import Derived.Test.YtgcoidbaoigkeaaRows
import Derived.Test.YtgcoidbaoigkeaaFFacts
import Derived.Test.YtgcoidbaoigkeaaQNDefs
import Derived.Test.YtgcoidbaoigkeaaSwPr
set_option linter.unusedVariables false
set_option linter.unusedSimpArgs false
namespace Go.Proofs.Ytgcoidbaoigkeaa.treeNames
open Go.RowKit Go.ChangeShapes Go.WideShapes Go.ChangeAt Go.Sx fix

theorem co_c (l : List Int) (j : Nat) : co (cod l) j = l.getD j 0 := by unfold co; rw [dec_cod]
noncomputable def G_three16f : List Sum := []
def I_three16f : List Inf := []
def t_three16f : TX := (.ret [(.l2 .cons (.l2 .cons (.c 5) (.l2 .cons (.c 0) (.l2 .cons (.c 0) (.l2 .cons (.c 5) (.l2 .cons (.c 0) (.l2 .cons (.c 0) .nl)))))) (.l2 .cons (.l2 .cons (.c 1) (.l2 .cons (.c 0) (.l2 .cons (.c 0) (.l2 .cons (.c 1) (.l2 .cons (.c 0) (.l2 .cons (.c 0) .nl)))))) (.l2 .cons (.l2 .cons (.c 9) (.l2 .cons (.c 0) (.l2 .cons (.c 0) (.l2 .cons (.c 9) (.l2 .cons (.c 0) (.l2 .cons (.c 0) .nl)))))) .nl)))])
theorem tree_three16f : merge (optFL [] I_three16f [] [] (symPr Try.prog noLp gl0 G_three16f 1 0 0 1000 25 [] [Bs])) = t_three16f := by kernel_rfl
theorem g_three16f : Gok Try.prog G_three16f := noG
theorem o_three16f : outsOK G_three16f I_three16f := outsOK_nil
noncomputable def G_at16 : List Sum := []
def I_at16 : List Inf := []
def t_at16 : TX := (.ret [(.v 0), (.c 0), (.c 0), (.v 0), (.c 0), (.c 0)])
theorem tree_at16 : merge (optFL [] I_at16 [] pin_at16 (symFnL Try.prog noLp gl0 G_at16 1000 26 [I1] [An 6])) = t_at16 := by kernel_rfl
theorem g_at16 : Gok Try.prog G_at16 := noG
theorem o_at16 : outsOK G_at16 I_at16 := outsOK_nil
theorem ok_three16f : s_three16f.ok Try.prog := Sum.okPr (pre := vsOK []) facts.mixed g_three16f o_three16f tree_three16f rfl (fun _ => rfl) (fun xs h => h) (by
  intro xs hx hp
  simp only [t_three16f, TX.sat, XB.prop, X.den, List.map_cons, List.map_nil, List.getElem?_cons_zero, List.getElem?_cons_succ, List.cons_append, List.nil_append, List.getD_cons_zero, List.getD_cons_succ, mkS, mkP, and_true, true_and, Int.not_lt, Int.not_le, not_or, not_and, Classical.not_not, ne_eq, not_true_eq_false, not_false_eq_true, L2.den, dec_cod, dec_nil]
  rfl)
theorem inf_three16f : InfOK s_three16f i_three16f := ⟨fun _ h => h, fun _ _ _ _ => vsOK_cons trivial vsOK_nil⟩
theorem ok_three16c : s_three16c.okA Try.prog := fix.ok_three16c ok_three16f
theorem inf_three16c : InfOK s_three16c i_three16c := inf_three16f
theorem ok_at16 : s_at16.ok Try.prog := Sum.okF facts.mixed g_at16 o_at16 tree_at16 rfl (fun _ => rfl) (by
  intro xs hx hp
  obtain ⟨x, rfl⟩ : ∃ x, xs = [x] := by
    match xs, hx with
    | [x], _ => exact ⟨x, rfl⟩
  rfl)
theorem inf_at16 : InfOK s_at16 i_at16 := ⟨fun _ h => h, fun vs xs h hp => by
  have z : ivHas (iv 0 0) 0 := ⟨Int.le_refl _, Int.le_refl _⟩
  exact vsOK_cons (h.2 0) (vsOK_cons z (vsOK_cons z (vsOK_cons (h.2 0) (vsOK_cons z (vsOK_cons z vsOK_nil)))))⟩
noncomputable def G_TreeNames : List Sum := [s_alive16, s_tbuild3, s_refit, s_tleaves, s_tcheck, s_three16c, s_at16]
def I_TreeNames : List Inf := [i_alive16, i_tbuild3, i_refit, i_tleaves, i_tcheck, i_three16c, i_at16]
def t_TreeNames : TX := (.callp 0 [] (.ite (.eq (.v 0) (.c 0)) (.ret [(.c 0)])
(.callp 5 [] (.call 1 [(.l2 .cons (.l2 .cons (.c 5) (.l2 .cons (.c 0) (.l2 .cons (.c 0) (.l2 .cons (.c 5) (.l2 .cons (.c 0) (.l2 .cons (.c 0) .nl)))))) (.l2 .cons (.l2 .cons (.c 1) (.l2 .cons (.c 0) (.l2 .cons (.c 0) (.l2 .cons (.c 1) (.l2 .cons (.c 0) (.l2 .cons (.c 0) .nl)))))) (.l2 .cons (.l2 .cons (.c 9) (.l2 .cons (.c 0) (.l2 .cons (.c 0) (.l2 .cons (.c 9) (.l2 .cons (.c 0) (.l2 .cons (.c 0) .nl)))))) .nl)))] (.callp 6 [(.c 5)] (.callp 6 [(.c 7)] (.callp 6 [(.c 9)] (.call 2 [(.l2 .cons (.l2 .cons (.c 1) (.l2 .cons (.c 0) (.l2 .cons (.c 0) (.l2 .cons (.c 9) (.l2 .cons (.c 0) (.l2 .cons (.c 0) (.l2 .cons (.c 1) (.l2 .cons (.c 4) (.l2 .cons (.c (-1)) .nl))))))))) (.l2 .cons (.l2 .cons (.c 1) (.l2 .cons (.c 0) (.l2 .cons (.c 0) (.l2 .cons (.c 5) (.l2 .cons (.c 0) (.l2 .cons (.c 0) (.l2 .cons (.c 2) (.l2 .cons (.c 3) (.l2 .cons (.c (-1)) .nl))))))))) (.l2 .cons (.l2 .cons (.c 1) (.l2 .cons (.c 0) (.l2 .cons (.c 0) (.l2 .cons (.c 1) (.l2 .cons (.c 0) (.l2 .cons (.c 0) (.l2 .cons (.c (-1)) (.l2 .cons (.c (-1)) (.l2 .cons (.c 1) .nl))))))))) (.l2 .cons (.l2 .cons (.c 5) (.l2 .cons (.c 0) (.l2 .cons (.c 0) (.l2 .cons (.c 5) (.l2 .cons (.c 0) (.l2 .cons (.c 0) (.l2 .cons (.c (-1)) (.l2 .cons (.c (-1)) (.l2 .cons (.c 0) .nl))))))))) (.l2 .cons (.l2 .cons (.c 9) (.l2 .cons (.c 0) (.l2 .cons (.c 0) (.l2 .cons (.c 9) (.l2 .cons (.c 0) (.l2 .cons (.c 0) (.l2 .cons (.c (-1)) (.l2 .cons (.c (-1)) (.l2 .cons (.c 2) .nl))))))))) .nl))))), (.l2 .cons (.l2 .cons (.v 4) (.l2 .cons (.v 5) (.l2 .cons (.v 6) (.l2 .cons (.v 7) (.l2 .cons (.v 8) (.l2 .cons (.v 9) .nl)))))) (.l2 .cons (.l2 .cons (.v 10) (.l2 .cons (.v 11) (.l2 .cons (.v 12) (.l2 .cons (.v 13) (.l2 .cons (.v 14) (.l2 .cons (.v 15) .nl)))))) (.l2 .cons (.l2 .cons (.v 16) (.l2 .cons (.v 17) (.l2 .cons (.v 18) (.l2 .cons (.v 19) (.l2 .cons (.v 20) (.l2 .cons (.v 21) .nl)))))) .nl)))] (.call 1 [.nl] (.callp 3 [(.l2 .cons (.l2 .cons (.c 0) (.l2 .cons (.c 0) (.l2 .cons (.c 0) (.l2 .cons (.c 0) (.l2 .cons (.c 0) (.l2 .cons (.c 0) (.l2 .cons (.c 1) (.l2 .cons (.c 2) (.l2 .cons (.c (-1)) .nl))))))))) .nl)] (.call 1 [(.l2 .rep (.c 257) (.l2 .cons (.c 0) (.l2 .cons (.c 0) (.l2 .cons (.c 0) (.l2 .cons (.c 0) (.l2 .cons (.c 0) (.l2 .cons (.c 0) .nl)))))))] (.callp 3 [(.l2 .rep (.c 512) (.l2 .cons (.c 0) (.l2 .cons (.c 0) (.l2 .cons (.c 0) (.l2 .cons (.c 0) (.l2 .cons (.c 0) (.l2 .cons (.c 0) (.l2 .cons (.c 0) (.l2 .cons (.c 0) (.l2 .cons (.c 0) .nl))))))))))] (.ite (.or (.not (.eq (.v 23) (.c 0))) (.not (.eq (.ln (.v 22)) (.c 5)))) (.ret [(.c 0)])
(.asrt (.lt (.c 0) (.ln (.v 22))) (.ite (.or (.not (.eq (.l2 .at (.l2 .at (.v 22) (.c 0)) (.c 0)) (.c 5))) (.not (.eq (.l2 .at (.l2 .at (.v 22) (.c 0)) (.c 3)) (.c 9)))) (.ret [(.c 0)])
(.asrt (.lt (.c 1) (.ln (.v 22))) (.ite (.or (.not (.eq (.l2 .at (.l2 .at (.v 22) (.c 1)) (.c 0)) (.c 5))) (.or (.not (.eq (.l2 .at (.l2 .at (.v 22) (.c 1)) (.c 3)) (.c 7))) (.or (.not (.eq (.v 25) (.c 0))) (.not (.eq (.ln (.v 24)) (.c 0)))))) (.ret [(.c 0)])
(.callp 6 [(.c 0)] (.call 4 [(.v 24), (.l2 .cons (.l2 .cons (.v 32) (.l2 .cons (.v 33) (.l2 .cons (.v 34) (.l2 .cons (.v 35) (.l2 .cons (.v 36) (.l2 .cons (.v 37) .nl)))))) .nl)] (.ite (.not (.eq (.v 38) (.c 8))) (.ret [(.c 0)])
(.call 4 [(.v 24), .nl] (.ite (.or (.not (.eq (.v 39) (.c 0))) (.or (.not (.eq (.v 27) (.c 8))) (.not (.eq (.v 29) (.c 4))))) (.ret [(.c 0)])
(.ite (.eq (.v 31) (.c 4)) (.ret [(.c 1)])
(.ret [(.c 0)]))))))))))))))))))))))))
theorem tree_TreeNames : merge (optFL [] I_TreeNames [] ([].map ivK) (symFnL Try.prog noLp gl0 G_TreeNames 1000 7 [] [Bo])) = t_TreeNames := by kernel_rfl
theorem g_TreeNames : Gok Try.prog G_TreeNames := (more ok_alive16 (moreA ok_tbuild3 (more ok_refit (more ok_tleaves (more ok_tcheck (moreA ok_three16c (fix.one ok_at16)))))))
theorem o_TreeNames : outsOK G_TreeNames I_TreeNames := (outsOK_cons inf_alive16 (outsOK_cons inf_tbuild3 (outsOK_cons inf_refit (outsOK_cons inf_tleaves (outsOK_cons inf_tcheck (outsOK_cons inf_three16c (outsOK_cons inf_at16 outsOK_nil)))))))
noncomputable def moved : List Int := [cod [5, 0, 0, 5, 0, 0], cod [7, 0, 0, 7, 0, 0], cod [9, 0, 0, 9, 0, 0]]
theorem boxes_of {l : List Int} (h : l.length ≤ 256) (h' : l.all okBox = true) : boxesE l = 0 := by
  unfold boxesE
  rw [if_pos h, if_pos h']
theorem moved_ok : boxesE moved = 0 := boxes_of (by simp [moved]) (by
  unfold moved
  simp only [List.all_cons, List.all_nil, okBox, six6, co_c, Bool.and_true]
  decide)
theorem tree5 : (treeL three16).length = 5 := by rw [tree16]; rfl
theorem shaped3 : shapedB (treeL three16) (moved.length : Int) = true := (tree_at three16).shaped
theorem refit3 : refitE (treeL three16) moved = 0 := by
  unfold refitE
  rw [if_pos moved_ok, if_pos shaped3]
theorem len3 : (refitL moved (treeL three16)).length = 5 := (rf_len moved (treeL three16) _).trans tree5
theorem six_co {b : Int} {l : List Int} (h : six6 b = l) : co b 0 = l.getD 0 0 ∧ co b 3 = l.getD 3 0 := by
  rw [← h]
  exact ⟨rfl, rfl⟩
theorem moved3 : (co ((refitL moved (treeL three16)).getD 0 0) 0 = 5 ∧ co ((refitL moved (treeL three16)).getD 0 0) 3 = 9) ∧ co ((refitL moved (treeL three16)).getD 1 0) 0 = 5 ∧ co ((refitL moved (treeL three16)).getD 1 0) 3 = 7 := by
  have hA := refit_at (m := moved) shaped3
  have hl := len3
  have hc := fun i => rf_co moved (treeL three16) i (treeL three16).length
  have hc : ∀ i, co ((refitL moved (treeL three16)).getD i 0) 6 = co ((treeL three16).getD i 0) 6 ∧ co ((refitL moved (treeL three16)).getD i 0) 7 = co ((treeL three16).getD i 0) 7 ∧ co ((refitL moved (treeL three16)).getD i 0) 8 = co ((treeL three16).getD i 0) 8 := hc
  have hall := hA.all
  generalize refitL moved (treeL three16) = U at hA hl hc hall ⊢
  have hbox : ∀ i, i < 5 → six6 (U.getD i 0) = rfBox moved U (U.getD i 0) := fun i hi => (hall i (by omega)).2
  rw [tree16] at hc
  have c0 := hc 0
  have c1 := hc 1
  have c2 := hc 2
  have c3 := hc 3
  have c4 := hc 4
  simp only [List.getD_cons_zero, List.getD_cons_succ, co_c] at c0 c1 c2 c3 c4
  have b2 := hbox 2 (by omega)
  have b3 := hbox 3 (by omega)
  have b4 := hbox 4 (by omega)
  have b1 := hbox 1 (by omega)
  have b0 := hbox 0 (by omega)
  unfold rfBox at b0 b1 b2 b3 b4
  rw [c2.1, if_pos (by decide), c2.2.2] at b2
  rw [c3.1, if_pos (by decide), c3.2.2] at b3
  rw [c4.1, if_pos (by decide), c4.2.2] at b4
  have m : ∀ j : Int, six6 (moved.getD j.toNat 0) = six6 (moved.getD j.toNat 0) := fun _ => rfl
  have m0 : six6 (moved.getD (Int.toNat 0) 0) = [5, 0, 0, 5, 0, 0] := by
    show six6 (cod [5, 0, 0, 5, 0, 0]) = _
    unfold six6
    simp only [co_c]
    rfl
  have m1 : six6 (moved.getD (Int.toNat 1) 0) = [7, 0, 0, 7, 0, 0] := by
    show six6 (cod [7, 0, 0, 7, 0, 0]) = _
    unfold six6
    simp only [co_c]
    rfl
  have m2 : six6 (moved.getD (Int.toNat 2) 0) = [9, 0, 0, 9, 0, 0] := by
    show six6 (cod [9, 0, 0, 9, 0, 0]) = _
    unfold six6
    simp only [co_c]
    rfl
  rw [m1] at b2
  rw [m0] at b3
  rw [m2] at b4
  rw [c1.1, if_neg (by decide), c1.2.1, show Int.toNat 2 = 2 from rfl, show Int.toNat 3 = 3 from rfl, b2, b3] at b1
  have b1' : six6 (U.getD 1 0) = [5, 0, 0, 7, 0, 0] := b1
  rw [c0.1, if_neg (by decide), c0.2.1, show Int.toNat 1 = 1 from rfl, show Int.toNat 4 = 4 from rfl, b1', b4] at b0
  have b0' : six6 (U.getD 0 0) = [5, 0, 0, 9, 0, 0] := b0
  exact ⟨six_co b0', six_co b1'⟩
theorem shaped_not {l : List Int} {n : Int} (h : (l.length : Int) ≠ max 0 (2 * n - 1)) : shapedB l n = false := by
  unfold shapedB
  rw [decide_eq_false h]
  rfl
theorem leaves8 : leavesE [cod [0, 0, 0, 0, 0, 0, 1, 2, -1]] = 8 := by
  have h : lvs [cod [0, 0, 0, 0, 0, 0, 1, 2, -1]] [cod [0, 0, 0, 0, 0, 0, 1, 2, -1]].length = [] := by
    show lvs [cod [0, 0, 0, 0, 0, 0, 1, 2, -1]] 1 = []
    unfold lvs lvs
    simp only [List.getD_cons_zero, co_c]
    decide
  unfold leavesE
  rw [h, if_pos (by decide), if_neg]
  rw [shaped_not (by decide)]
  decide
theorem leaves4 (x : Int) : leavesE (List.replicate 512 x) = 4 := by
  unfold leavesE
  rw [if_neg (by rw [List.length_replicate]; decide)]
theorem boxes4 (x : Int) : boxesE (List.replicate 257 x) = 4 := by
  unfold boxesE
  rw [if_neg (by rw [List.length_replicate]; decide)]
theorem boxes0 : boxesE [] = 0 := boxes_of (by decide) rfl
theorem chk0 : chkE [] [] = 0 := chkE_at boxes0 (tree_at [])
theorem chk8 : chkE [] [cod [0, 0, 0, 0, 0, 0]] = 8 := by
  have h : refitE [] [cod [0, 0, 0, 0, 0, 0]] = 8 := by
    unfold refitE
    rw [if_pos (boxes_of (by decide) (by
      simp only [List.all_cons, List.all_nil, okBox, six6, co_c, Bool.and_true]
      decide)), if_neg]
    rw [shaped_not (by decide)]
    decide
  unfold chkE
  rw [if_neg (by rw [h]; decide), h]
theorem range3 : ∀ b ∈ three16, rangeOK Bs_ks (dec b) := by
  intro b hb
  unfold three16 at hb
  simp only [List.mem_cons, List.not_mem_nil, or_false] at hb
  rcases hb with rfl | rfl | rfl
  all_goals (rw [dec_cod]; exact ⟨rfl, rfl, rfl, rfl, rfl, rfl, trivial⟩)
theorem rangem : ∀ b ∈ moved, rangeOK Bs_ks (dec b) := by
  intro b hb
  unfold moved at hb
  simp only [List.mem_cons, List.not_mem_nil, or_false] at hb
  rcases hb with rfl | rfl | rfl
  all_goals (rw [dec_cod]; exact ⟨rfl, rfl, rfl, rfl, rfl, rfl, trivial⟩)
theorem ranget : ∀ b ∈ treeL three16, rangeOK Br_ks (dec b) := by
  intro b hb
  rw [tree16] at hb
  simp only [List.mem_cons, List.not_mem_nil, or_false] at hb
  rcases hb with rfl | rfl | rfl | rfl | rfl
  all_goals (rw [dec_cod]; exact ⟨rfl, rfl, rfl, rfl, rfl, rfl, rfl, rfl, rfl, trivial⟩)
theorem range0 : ∀ b ∈ [cod [0, 0, 0, 0, 0, 0]], rangeOK Bs_ks (dec b) := by
  intro b hb
  simp only [List.mem_cons, List.not_mem_nil, or_false] at hb
  subst hb
  rw [dec_cod]; exact ⟨rfl, rfl, rfl, rfl, rfl, rfl, trivial⟩
theorem rangen {ks : List K} : ∀ b ∈ ([] : List Int), rangeOK ks (dec b) := fun b hb => by cases hb
theorem preB {l : List Int} (h : ∀ b ∈ l, rangeOK Bs_ks (dec b)) : pre_tbuild [cod l] := ⟨vs_none (n := 1) rfl, by show ∀ b ∈ dec (cod l), _; rw [dec_cod]; exact h⟩
theorem preR {t l : List Int} (h1 : t.length ≤ 1000) (h2 : l.length ≤ 1000) (h3 : ∀ b ∈ t, rangeOK Br_ks (dec b)) (h4 : ∀ b ∈ l, rangeOK Bs_ks (dec b)) : pre_refit [cod t, cod l] :=
  ⟨vs_none (n := 2) rfl, ⟨by show (dec (cod t)).length ≤ 1000; rw [dec_cod]; exact h1, by show (dec (cod l)).length ≤ 1000; rw [dec_cod]; exact h2⟩, by show ∀ b ∈ dec (cod t), _; rw [dec_cod]; exact h3, by show ∀ b ∈ dec (cod l), _; rw [dec_cod]; exact h4⟩
theorem preC {t l : List Int} (h1 : t.length ≤ 1000) (h2 : l.length ≤ 1000) (h3 : ∀ b ∈ t, rangeOK Br_ks (dec b)) (h4 : ∀ b ∈ l, rangeOK Bs_ks (dec b)) : pre_tcheck [cod t, cod l] :=
  ⟨vs_none (n := 2) rfl, ⟨by show (dec (cod t)).length ≤ 1000; rw [dec_cod]; exact h1, by show (dec (cod l)).length ≤ 1000; rw [dec_cod]; exact h2⟩, by show ∀ b ∈ dec (cod t), _; rw [dec_cod]; exact h3, by show ∀ b ∈ dec (cod l), _; rw [dec_cod]; exact h4⟩
theorem plain : t_TreeNames.sat G_TreeNames [] (fun ys => ys = [1]) [] [] := by
  have p1 := preB range3
  have p2 := preR (t := treeL three16) (l := moved) (by rw [tree5]; decide) (by decide) ranget rangem
  have p3 := preB (l := []) rangen
  have p4 := preB (l := List.replicate 257 (cod [0, 0, 0, 0, 0, 0])) (fun b hb => by
    rw [(List.mem_replicate.1 hb).2, dec_cod]
    exact ⟨rfl, rfl, rfl, rfl, rfl, rfl, trivial⟩)
  have p5 := preC (t := []) (l := [cod [0, 0, 0, 0, 0, 0]]) (by decide) (by decide) rangen range0
  have p6 := preC (t := []) (l := []) (by decide) (by decide) rangen rangen
  have e1 : three16 = [cod [5, 0, 0, 5, 0, 0], cod [1, 0, 0, 1, 0, 0], cod [9, 0, 0, 9, 0, 0]] := rfl
  have e2 : moved = [cod [5, 0, 0, 5, 0, 0], cod [7, 0, 0, 7, 0, 0], cod [9, 0, 0, 9, 0, 0]] := rfl
  have q := moved3
  have ql := len3
  have qr := refit3
  have h3 := three16_ok
  have hco : ∀ x j, (dec x).getD j 0 = co x j := fun _ _ => rfl
  rw [tree16] at p2 q ql qr
  rw [e2] at p2 q ql qr
  rw [e1] at p1 h3
  have hrep : ∀ x : Int, List.replicate (Int.toNat 257) x = List.replicate 257 x := fun _ => rfl
  have hrep' : ∀ x : Int, List.replicate (Int.toNat 512) x = List.replicate 512 x := fun _ => rfl
  simp only [t_TreeNames, G_TreeNames, s_alive16, s_tbuild3, s_tbuild, s_refit, s_tleaves, s_tcheck, s_three16c, s_three16f, s_at16, cnS, TX.sat, XB.prop, X.den, List.map_cons, List.map_nil, List.getElem?_cons_zero, List.getElem?_cons_succ, List.cons_append, List.nil_append, List.getD_cons_zero, List.getD_cons_succ, mkS, mkP, and_true, true_and, Int.not_lt, Int.not_le, not_or, not_and, Classical.not_not, ne_eq, not_true_eq_false, not_false_eq_true, sem_alive16, sem_tbuild, sem_refit, sem_tleaves, sem_tcheck, sem_three16f, sem_at16, L2.den, dec_cod, dec_nil, treeL_nil, boxes0, boxes4, leaves8, leaves4, chk0, chk8, h3, qr, ql, hrep, hrep', if_true, hco]
  refine ⟨fun h => absurd h (by decide), fun _ => ⟨p1, p2, p3, p4, ?_⟩⟩
  obtain ⟨⟨q1, q2⟩, q3, q4⟩ := q
  simp only [show Int.toNat 0 = 0 from rfl, show Int.toNat 1 = 1 from rfl, show Int.toNat 3 = 3 from rfl, q1, q2, q3, q4]
  have p7 : s_tcheck.pre [cod [], cod [cod [0, 0, 0, 0, 0, 0]]] := p5
  have p8 : s_tcheck.pre [cod [], cod []] := p6
  simp [p5, p6]
theorem range_nil : rangeOK [] [] := trivial
set_option maxRecDepth 100000 in
theorem lifted (os : Os) (started : os.Started) (H : Type) (enc : TypeId × Value → H) :
    ReturnsInHanded {} Try.checked os 7 .any (Rows.treeNamesSpec.pre6 enc Try.prog Try.f7 Rows.treeNamesRow.domain false) (Rows.treeNamesSpec.post enc Try.prog Try.f7 false true false false) := by
  refine returnsInHanded_of_change (C := Try.checked) facts.own started (by kernel_rfl) Try.func7
    (ChangeSpec.witness6 (enc := enc) (C := Try.checked) false ⟨#[], #[], []⟩ 8 (by kernel_rfl) (by kernel_rfl) (by kernel_rfl) (by kernel_rfl)) ?_
  intro W base args ds gs before hval0 hW hcnd _
  have hval : ∀ (j : Nat) t v, Try.f7.params[j]? = some t → args[j]? = some v → Value.okWide Try.prog W .any base t v := hval0
  have hW' := hW
  obtain ⟨p, q, hA0, hV, rfl, hfz, hnd⟩ := hW
  have hA : DataW.TrodAll enc Try.prog W 0 (fun _ => true) true Try.f7.params.toList args.toList ds p := hA0
  rw [Try.params7] at hA hval
  obtain ⟨hargs, rfl, rfl⟩ := trodAll_nil hA
  obtain rfl : args = #[] := by cases args; simp_all
  obtain ⟨rfl, rfl⟩ := trodVars_none hV
  clear hA0 hval0
  have hxs : #[] = (mkShs [] []).toArray := rfl
  have hlen : ([] : List Int).length = total [] := rfl
  have hcalls := lawF facts.mixed g_TreeNames o_TreeNames tree_TreeNames rfl rfl hlen (range_vs (range_nil : rangeOK _ _)) (plain ) W (fun p hp => by cases hp)
  rw [← hxs] at hcalls
  refine hcalls.mono fun e W' ⟨he, bel⟩ => ?_
  subst he
  exact ⟨_, rfl, _, _, _, [], _, [], hW', trodAll_mk1 (shut_bool Try.underlying4 _), trodAll_mk0, rfl, bel.frame _, fun h => by cases h⟩

theorem over : Rows.treeNamesRow.holds Try.pinned (OpenSpec.ofChange Rows.treeNamesSpec) :=
  OpenClaim.holds_of_wide 7 Try.f7 rfl rfl rfl rfl rfl rfl rfl ⟨rfl, rfl, rfl, rfl, rfl⟩ rfl rfl rfl rfl rfl (by kernel_rfl) Try.func7
    (facts.joined (by kernel_rfl) (by kernel_rfl) (by kernel_rfl) (by kernel_rfl) (by kernel_rfl) (by kernel_rfl) (by kernel_rfl) rfl rfl rfl rfl)
    (of_decide_eq_true (by kernel_rfl)) (by unfold Func.isWrapper; first | (rw [if_pos (by decide +kernel)]; kernel_rfl) | (rw [if_neg (by decide +kernel)]; exact ⟨rfl, rfl⟩))
    (fun os started H enc _ => lifted os started H enc)

theorem proved : Rows.TreeNamesSaid := over
#print axioms proved

end Go.Proofs.Ytgcoidbaoigkeaa.treeNames
