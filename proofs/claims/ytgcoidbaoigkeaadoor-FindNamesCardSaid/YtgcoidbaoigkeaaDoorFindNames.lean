/-
  The law FindNames is answered with true.
-/
import Derived.Test.YtgcoidbaoigkeaaDoorRows
import Derived.Test.YtgcoidbaoigkeaaDoorFFacts
import Derived.Test.YtgcoidbaoigkeaaDoorCards
import Derived.Test.YtgcoidbaoigkeaaDoorTie
import Derived.Test.YtgcoidbaoigkeaaDoorFDoorA
import Derived.SevenTiedAt
import Derived.Test.YtgcoidbaoigkeaaDoorQFDefs
import Derived.Test.YtgcoidbaoigkeaaDoorSwPr
set_option linter.unusedVariables false
set_option linter.unusedSimpArgs false
namespace Go.Proofs.YtgcoidbaoigkeaaDoor.findNames
open Go.RowKit Go.ChangeShapes Go.WideShapes Go.ChangeAt Go.Sx fix

noncomputable def G_three18f : List Sum := []
def I_three18f : List Inf := []
def t_three18f : TX := (.ret [(.l2 .cons (.l2 .cons (.c (-20)) (.l2 .cons (.c (-20)) (.l2 .cons (.c 512) (.l2 .cons (.c 20) (.l2 .cons (.c 20) (.l2 .cons (.c 512) .nl)))))) (.l2 .cons (.l2 .cons (.c 3980) (.l2 .cons (.c (-20)) (.l2 .cons (.c 512) (.l2 .cons (.c 4020) (.l2 .cons (.c 20) (.l2 .cons (.c 512) .nl)))))) (.l2 .cons (.l2 .cons (.c (-20)) (.l2 .cons (.c (-20)) (.l2 .cons (.c (-9)) (.l2 .cons (.c 20) (.l2 .cons (.c 20) (.l2 .cons (.c (-9)) .nl)))))) .nl)))])
theorem tree_three18f : merge (optFL [] I_three18f [] [] (symPr Tryd.prog noLp gl0 G_three18f 1 0 0 1000 15 [] [Bs])) = t_three18f := by kernel_rfl
theorem g_three18f : Gok Tryd.prog G_three18f := noG
theorem o_three18f : outsOK G_three18f I_three18f := outsOK_nil
noncomputable def G_eye18 : List Sum := []
def I_eye18 : List Inf := []
def t_eye18 : TX := (.ret [(.c 0), (.c 0), (.c 0), (.c 256), (.c 0), (.c 0), (.c 0), (.c 256), (.c 0), (.c 0), (.c 0), (.c 256), (.c 64), (.c 256), (.c 64), (.c 64)])
theorem tree_eye18 : merge (optFL [] I_eye18 [] pin_eye18 (symFnL Tryd.prog noLp gl0 G_eye18 1000 16 [] [An 16])) = t_eye18 := by kernel_rfl
theorem g_eye18 : Gok Tryd.prog G_eye18 := noG
theorem o_eye18 : outsOK G_eye18 I_eye18 := outsOK_nil
noncomputable def G_all18 : List Sum := []
def I_all18 : List Inf := []
def t_all18 : TX := (.ret [(.c 0), (.c 0), (.c 63), (.c 63)])
theorem tree_all18 : merge (optFL [] I_all18 [] pin_all18 (symFnL Tryd.prog noLp gl0 G_all18 1000 17 [] [An 4])) = t_all18 := by kernel_rfl
theorem g_all18 : Gok Tryd.prog G_all18 := noG
theorem o_all18 : outsOK G_all18 I_all18 := outsOK_nil
theorem ok_three18f : s_three18f.ok Tryd.prog := Sum.okPr (pre := vsOK []) facts.mixed g_three18f o_three18f tree_three18f rfl (fun _ => rfl) (fun xs h => h) (by
  intro xs hx hp
  simp only [t_three18f, TX.sat, XB.prop, X.den, List.map_cons, List.map_nil, List.getElem?_cons_zero, List.getElem?_cons_succ, List.cons_append, List.nil_append, List.getD_cons_zero, List.getD_cons_succ, mkS, mkP, and_true, true_and, Int.not_lt, Int.not_le, not_or, not_and, Classical.not_not, ne_eq, not_true_eq_false, not_false_eq_true, L2.den, dec_cod, dec_nil]
  rfl)
theorem inf_three18f : InfOK s_three18f i_three18f := ⟨fun _ h => h, fun _ _ _ _ => vsOK_cons trivial vsOK_nil⟩
theorem ok_eye18 : s_eye18.ok Tryd.prog := Sum.okF facts.mixed g_eye18 o_eye18 tree_eye18 rfl (fun _ => rfl) (by
  intro xs hx hp
  rfl)
theorem inf_eye18 : InfOK s_eye18 i_eye18 := ⟨fun _ h => h, fun _ _ _ _ => by
  have z : ∀ n : Int, ivHas (iv n n) n := fun n => ⟨Int.le_refl _, Int.le_refl _⟩
  exact vsOK_cons (z _) (vsOK_cons (z _) (vsOK_cons (z _) (vsOK_cons (z _) (vsOK_cons (z _) (vsOK_cons (z _) (vsOK_cons (z _) (vsOK_cons (z _) (vsOK_cons (z _) (vsOK_cons (z _) (vsOK_cons (z _) (vsOK_cons (z _) (vsOK_cons (z _) (vsOK_cons (z _) (vsOK_cons (z _) (vsOK_cons (z _) vsOK_nil)))))))))))))))⟩
theorem ok_all18 : s_all18.ok Tryd.prog := Sum.okF facts.mixed g_all18 o_all18 tree_all18 rfl (fun _ => rfl) (by
  intro xs hx hp
  rfl)
theorem inf_all18 : InfOK s_all18 i_all18 := ⟨fun _ h => h, fun _ _ _ _ => by
  have z : ∀ n : Int, ivHas (iv n n) n := fun n => ⟨Int.le_refl _, Int.le_refl _⟩
  exact vsOK_cons (z _) (vsOK_cons (z _) (vsOK_cons (z _) (vsOK_cons (z _) vsOK_nil)))⟩
noncomputable def G_FindNames : List Sum := [s_alive18, s_tbuild, s_query, s_fseen, s_fall, s_three18f, s_eye18, s_all18]
def I_FindNames : List Inf := [i_alive18, i_tbuild, i_query, i_fseen, i_fall, i_three18f, i_eye18, i_all18]
def t_FindNames : TX := (.callp 5 [] (.call 1 [(.v 0)] (.callp 5 [] (.callp 6 [] (.callp 7 [] (.call 2 [(.v 1), (.v 3), (.v 4), (.v 5), (.v 6), (.v 7), (.v 8), (.v 9), (.v 10), (.v 11), (.v 12), (.v 13), (.v 14), (.v 15), (.v 16), (.v 17), (.v 18), (.v 19), (.v 20), (.v 21), (.v 22), (.v 23)] (.callp 5 [] (.callp 6 [] (.callp 7 [] (.call 3 [(.v 1), (.v 26), (.v 27), (.v 28), (.v 29), (.v 30), (.v 31), (.v 32), (.v 33), (.v 34), (.v 35), (.v 36), (.v 37), (.v 38), (.v 39), (.v 40), (.v 41), (.v 42), (.v 43), (.v 44), (.v 45), (.v 46)] (.callp 5 [] (.callp 6 [] (.callp 7 [] (.call 2 [.nl, (.v 49), (.v 50), (.v 51), (.v 52), (.v 53), (.v 54), (.v 55), (.v 56), (.v 57), (.v 58), (.v 59), (.v 60), (.v 61), (.v 62), (.v 63), (.v 64), (.v 65), (.v 66), (.v 67), (.v 68), (.v 69)] (.callp 6 [] (.callp 7 [] (.call 4 [(.l2 .rep (.c 257) (.l2 .cons (.c 0) (.l2 .cons (.c 0) (.l2 .cons (.c 0) (.l2 .cons (.c 0) (.l2 .cons (.c 0) (.l2 .cons (.c 0) .nl))))))), (.v 72), (.v 73), (.v 74), (.v 75), (.v 76), (.v 77), (.v 78), (.v 79), (.v 80), (.v 81), (.v 82), (.v 83), (.v 84), (.v 85), (.v 86), (.v 87), (.v 88), (.v 89), (.v 90), (.v 91)] (.callp 5 [] (.callp 7 [] (.call 4 [(.v 94), (.c 0), (.c 0), (.c 0), (.c 0), (.c 0), (.c 0), (.c 0), (.c 0), (.c 0), (.c 0), (.c 0), (.c 0), (.c 0), (.c 0), (.c 0), (.c 0), (.v 95), (.v 96), (.v 97), (.v 98)] (.callp 5 [] (.callp 6 [] (.call 4 [(.v 101), (.v 102), (.v 103), (.v 104), (.v 105), (.v 106), (.v 107), (.v 108), (.v 109), (.v 110), (.v 111), (.v 112), (.v 113), (.v 114), (.v 115), (.v 116), (.v 117), (.c 0), (.c 0), (.c 64), (.c 0)] (.callp 0 [] (.ite (.or (.not (.eq (.v 2) (.c 0))) (.or (.not (.eq (.v 25) (.c 0))) (.not (.eq (.ln (.v 24)) (.c 1))))) (.ret [(.c 0)])
(.asrt (.lt (.c 0) (.ln (.v 24))) (.ite (.or (.not (.eq (.l2 .at (.v 24) (.c 0)) (.c 0))) (.or (.not (.eq (.v 47) (.c 5))) (.or (.not (.eq (.v 48) (.c 0))) (.or (.not (.eq (.v 71) (.c 8))) (.or (.not (.eq (.v 93) (.c 4))) (.not (.eq (.v 100) (.c 150)))))))) (.ret [(.c 0)])
(.ite (.eq (.v 119) (.c 2)) (.ret [(.c 1)])
(.ret [(.c 0)])))))))))))))))))))))))))))))
theorem tree_FindNames : merge (optFL [] I_FindNames [] ([].map ivK) (symFnL Tryd.prog noLp gl0 G_FindNames 1000 6 [] [Bo])) = t_FindNames := by kernel_rfl
theorem g_FindNames : Gok Tryd.prog G_FindNames := (more ok_alive18 (more ok_tbuild (more ok_query (more ok_fseen (more ok_fall (more ok_three18f (more ok_eye18 (fix.one ok_all18))))))))
theorem o_FindNames : outsOK G_FindNames I_FindNames := (outsOK_cons inf_alive18 (outsOK_cons inf_tbuild (outsOK_cons inf_query (outsOK_cons inf_fseen (outsOK_cons inf_fall (outsOK_cons inf_three18f (outsOK_cons inf_eye18 (outsOK_cons inf_all18 outsOK_nil))))))))
def X18 : List Int := [0, 0, 0, 256, 0, 0, 0, 256, 0, 0, 0, 256, 64, 256, 64, 64, 0, 0, 63, 63]
theorem boxes18 : boxesE three18 = 0 := by
  have h : three18.length ≤ 256 := by simp [three18]
  unfold boxesE
  rw [if_pos h, if_pos]
  unfold three18
  simp only [List.all_cons, List.all_nil, okBox, six6, co_cod, Bool.and_true]
  decide
theorem box18_ok : ∀ x ∈ three18, okBox x = true := (boxesE_ok boxes18).2
theorem chk18 : chkE (treeL three18) three18 = 0 := chkE_at boxes18 (tree_at _)
theorem asked18 : askedE three18 X18 = 0 := by
  have h : fallL three18 X18 = [cod [0], 0] := alive_fall
  unfold fallL at h
  split at h
  · assumption
  · simp only [List.cons.injEq] at h
    omega
theorem found18 : foundU three18 X18 three18.length = [0] := by
  have h : fallL three18 X18 = [cod [0], 0] := alive_fall
  unfold fallL at h
  rw [if_pos asked18] at h
  simp only [List.cons.injEq, and_true] at h
  have := congrArg dec h
  rwa [dec_cod, dec_cod] at this
theorem shows18 (a b c d e f : Int) (u v w : Int) {n : Int} (h : (shadowL [0, 0, 0, 256, 0, 0, 0, 256, 0, 0, 0, 256, 64, 256, 64, 64, a, b, c, d, e, f, 0, 0, 63, 63]).getD 5 0 = n) : showsI (cod [a, b, c, d, e, f, u, v, w]) X18 = decide (n ≠ 0) := by
  unfold showsI shade six6 X18
  simp only [co_cod, TX.sat, XB.prop, X.den, List.map_cons, List.map_nil, List.getElem?_cons_zero, List.getElem?_cons_succ, List.cons_append, List.nil_append, List.getD_cons_zero, List.getD_cons_succ, mkS, mkP, and_true, true_and, Int.not_lt, Int.not_le, not_or, not_and, Classical.not_not, ne_eq, not_true_eq_false, not_false_eq_true, List.take_succ_cons, List.take_zero, List.drop_succ_cons, List.drop_zero, h]
theorem seen18 : seenN (treeL three18) X18 = 5 := by
  have h0 : showsI (cod [-20, -20, -9, 4020, 20, 512, 1, 4, -1]) X18 = true := shows18 _ _ _ _ _ _ _ _ _ (n := 1) (by kernel_rfl)
  have h1 : showsI (cod [-20, -20, -9, 20, 20, 512, 2, 3, -1]) X18 = true := shows18 _ _ _ _ _ _ _ _ _ (n := 1) (by kernel_rfl)
  have hl : (treeL three18).length = 5 := by rw [tree18]; rfl
  unfold seenN
  rw [hl, if_neg (by decide), tree18]
  have leaf : ∀ (t x : List Int) (f i : Nat), co (t.getD i 0) 6 = -1 → lkN t x (f + 1) i = 1 := fun t x f i h => by
    rw [lkN, if_neg (by rw [h]; omega)]
  have node : ∀ (t x : List Int) (f i : Nat), showsI (t.getD i 0) x = true → 0 ≤ co (t.getD i 0) 6 → lkN t x (f + 1) i = 1 + (lkN t x f (co (t.getD i 0) 6).toNat + lkN t x f (co (t.getD i 0) 7).toNat) := fun t x f i h h' => by
    rw [lkN, if_pos ⟨h, h'⟩]
  generalize hT : [cod [-20, -20, -9, 4020, 20, 512, 1, 4, -1], cod [-20, -20, -9, 20, 20, 512, 2, 3, -1], cod [-20, -20, -9, 20, 20, -9, -1, -1, 2], cod [-20, -20, 512, 20, 20, 512, -1, -1, 0], cod [3980, -20, 512, 4020, 20, 512, -1, -1, 1]] = T
  have g0 : T.getD 0 0 = cod [-20, -20, -9, 4020, 20, 512, 1, 4, -1] := by rw [← hT]; rfl
  have g1 : T.getD 1 0 = cod [-20, -20, -9, 20, 20, 512, 2, 3, -1] := by rw [← hT]; rfl
  have g2 : T.getD 2 0 = cod [-20, -20, -9, 20, 20, -9, -1, -1, 2] := by rw [← hT]; rfl
  have g3 : T.getD 3 0 = cod [-20, -20, 512, 20, 20, 512, -1, -1, 0] := by rw [← hT]; rfl
  have g4 : T.getD 4 0 = cod [3980, -20, 512, 4020, 20, 512, -1, -1, 1] := by rw [← hT]; rfl
  have c0 : (co (T.getD 0 0) 6).toNat = 1 ∧ (co (T.getD 0 0) 7).toNat = 4 ∧ 0 ≤ co (T.getD 0 0) 6 := by rw [g0]; simp only [co_cod, TX.sat, XB.prop, X.den, List.map_cons, List.map_nil, List.getElem?_cons_zero, List.getElem?_cons_succ, List.cons_append, List.nil_append, List.getD_cons_zero, List.getD_cons_succ, mkS, mkP, and_true, true_and, Int.not_lt, Int.not_le, not_or, not_and, Classical.not_not, ne_eq, not_true_eq_false, not_false_eq_true]; decide
  have c1 : (co (T.getD 1 0) 6).toNat = 2 ∧ (co (T.getD 1 0) 7).toNat = 3 ∧ 0 ≤ co (T.getD 1 0) 6 := by rw [g1]; simp only [co_cod, TX.sat, XB.prop, X.den, List.map_cons, List.map_nil, List.getElem?_cons_zero, List.getElem?_cons_succ, List.cons_append, List.nil_append, List.getD_cons_zero, List.getD_cons_succ, mkS, mkP, and_true, true_and, Int.not_lt, Int.not_le, not_or, not_and, Classical.not_not, ne_eq, not_true_eq_false, not_false_eq_true]; decide
  rw [node T X18 4 0 (by rw [g0]; exact h0) c0.2.2, c0.1, c0.2.1, leaf T X18 3 4 (by rw [g4, co_cod]; rfl), node T X18 3 1 (by rw [g1]; exact h1) c1.2.2, c1.1, c1.2.1, leaf T X18 2 2 (by rw [g2, co_cod]; rfl), leaf T X18 2 3 (by rw [g3, co_cod]; rfl)]
  rfl
theorem look18 : lookL (treeL three18) three18 X18 = [cod [0], 5, 0] := by
  have h : lookE (treeL three18) three18 X18 = 0 := by
    unfold lookE
    rw [if_pos chk18, asked18]
  unfold lookL
  rw [if_pos h, found18, seen18]
theorem look_nil : (lookL [] three18 X18).getD 2 0 = 8 ∧ True := by
  have h : lookE [] three18 X18 = 8 := by
    unfold lookE chkE refitE
    rw [if_pos boxes18, if_neg (by decide)]
    have : shapedB [] (three18.length : Int) = false := by
      unfold shapedB
      have h3 : decide ((([] : List Int).length : Int) = max 0 (2 * (three18.length : Int) - 1)) = false := by
        have hl : three18.length = 3 := rfl
        rw [hl]
        decide
      rw [h3]
      rfl
    rw [this]
    rfl
  unfold lookL
  rw [if_neg (by rw [h]; decide), h]
  exact ⟨rfl, trivial⟩
theorem inK_i64 {n : Int} (h1 : -100000 ≤ n) (h2 : n ≤ 100000) : inK (.i .i64) n := by
  show (Lit.int .i64 n).wf = true
  simp only [Lit.wf, Bool.and_eq_true, decide_eq_true_eq]
  exact ⟨Int.le_trans (by decide) h1, Int.le_trans h2 (by decide)⟩
theorem tree_okB {L t : List Int} (hb : ∀ x ∈ L, okBox x = true) (h : TreeAt L t) : ∀ i, i < t.length → okBox (t.getD i 0) = true := by
  intro i hi
  have := rf_ok (shaped_shp h.shaped) hb t.length (Nat.le_refl _) i (by omega) hi
  rwa [rf_fix h] at this
theorem tree_range {L t : List Int} (hb : ∀ x ∈ L, okBox x = true) (hl : L.length ≤ 1000) (ht : t.length ≤ 1000) (h : TreeAt L t) : ∀ b ∈ t, rangeOK Br_ks (dec b) := by
  intro b hm
  obtain ⟨i, hi, rfl⟩ := List.getElem_of_mem hm
  have hg : t.getD i 0 = t[i] := by simp [List.getD, hi]
  have h1 := (h.all i hi).1
  have h2 := okBox_bd (tree_okB hb h i hi)
  have h3 := shaped_shp h.shaped i hi
  rw [← hg, h1, dec_cod]
  generalize t.getD i 0 = x at *
  have e0 := h2 0 (by decide)
  have e1 := h2 1 (by decide)
  have e2 := h2 2 (by decide)
  have e3 := h2 3 (by decide)
  have e4 := h2 4 (by decide)
  have e5 := h2 5 (by decide)
  refine ⟨inK_i64 (by omega) (by omega), inK_i64 (by omega) (by omega), inK_i64 (by omega) (by omega), inK_i64 (by omega) (by omega), inK_i64 (by omega) (by omega), inK_i64 (by omega) (by omega), inK_i64 (by omega) (by omega), inK_i64 (by omega) (by omega), inK_i64 (by omega) (by omega), trivial⟩
theorem range18 : ∀ b ∈ three18, rangeOK Bs_ks (dec b) := by
  intro b hb
  unfold three18 at hb
  simp only [List.mem_cons, List.not_mem_nil, or_false] at hb
  rcases hb with rfl | rfl | rfl
  all_goals (rw [dec_cod]; exact ⟨rfl, rfl, rfl, rfl, rfl, rfl, trivial⟩)
theorem ranget : ∀ b ∈ treeL three18, rangeOK Br_ks (dec b) := tree_range box18_ok (by simp [three18]) (by rw [tree18]; simp) (tree_at _)
theorem zs18 : vsOK (zs 20) X18 := by
  have z : ∀ n : Int, -5000 ≤ n ∧ n ≤ 5000 → ivHas zz n := fun n h => zc n (by omega) (by omega)
  exact vsOK_cons (z _ (by decide)) (vsOK_cons (z _ (by decide)) (vsOK_cons (z _ (by decide)) (vsOK_cons (z _ (by decide)) (vsOK_cons (z _ (by decide)) (vsOK_cons (z _ (by decide)) (vsOK_cons (z _ (by decide)) (vsOK_cons (z _ (by decide)) (vsOK_cons (z _ (by decide)) (vsOK_cons (z _ (by decide)) (vsOK_cons (z _ (by decide)) (vsOK_cons (z _ (by decide)) (vsOK_cons (z _ (by decide)) (vsOK_cons (z _ (by decide)) (vsOK_cons (z _ (by decide)) (vsOK_cons (z _ (by decide)) (vsOK_cons (z _ (by decide)) (vsOK_cons (z _ (by decide)) (vsOK_cons (z _ (by decide)) (vsOK_cons (z _ (by decide)) vsOK_nil)))))))))))))))))))
theorem zs_any {x0 x1 x2 x3 x4 x5 x6 x7 x8 x9 x10 x11 x12 x13 x14 x15 x16 x17 x18 x19 : Int} (h : ∀ n ∈ [x0, x1, x2, x3, x4, x5, x6, x7, x8, x9, x10, x11, x12, x13, x14, x15, x16, x17, x18, x19], -5000 ≤ n ∧ n ≤ 5000) : vsOK (zs 20) [x0, x1, x2, x3, x4, x5, x6, x7, x8, x9, x10, x11, x12, x13, x14, x15, x16, x17, x18, x19] := by
  have z : ∀ n : Int, n ∈ [x0, x1, x2, x3, x4, x5, x6, x7, x8, x9, x10, x11, x12, x13, x14, x15, x16, x17, x18, x19] → ivHas zz n := fun n hn => by
    have := h n hn
    exact zc n (by omega) (by omega)
  exact vsOK_cons (z _ (by simp)) (vsOK_cons (z _ (by simp)) (vsOK_cons (z _ (by simp)) (vsOK_cons (z _ (by simp)) (vsOK_cons (z _ (by simp)) (vsOK_cons (z _ (by simp)) (vsOK_cons (z _ (by simp)) (vsOK_cons (z _ (by simp)) (vsOK_cons (z _ (by simp)) (vsOK_cons (z _ (by simp)) (vsOK_cons (z _ (by simp)) (vsOK_cons (z _ (by simp)) (vsOK_cons (z _ (by simp)) (vsOK_cons (z _ (by simp)) (vsOK_cons (z _ (by simp)) (vsOK_cons (z _ (by simp)) (vsOK_cons (z _ (by simp)) (vsOK_cons (z _ (by simp)) (vsOK_cons (z _ (by simp)) (vsOK_cons (z _ (by simp)) vsOK_nil)))))))))))))))))))
theorem pre1 : pre_tbuild [cod three18] := ⟨vs_none (n := 1) rfl, by show ∀ b ∈ dec (cod three18), _; rw [dec_cod]; exact range18⟩
theorem pre2 : pre_look (cod (treeL three18) :: cod three18 :: X18) := ⟨vsOK_cons trivial (vsOK_cons trivial zs18), ⟨by show (dec (cod (treeL three18))).length ≤ 1000; rw [dec_cod, tree18]; simp, by show (dec (cod three18)).length ≤ 1000; rw [dec_cod]; simp [three18]⟩, by show ∀ b ∈ dec (cod (treeL three18)), _; rw [dec_cod]; exact ranget, by show ∀ b ∈ dec (cod three18), _; rw [dec_cod]; exact range18⟩
theorem pre3 : pre_look (cod [] :: cod three18 :: X18) := ⟨vsOK_cons trivial (vsOK_cons trivial zs18), ⟨by show (dec (cod [])).length ≤ 1000; rw [dec_cod]; simp, by show (dec (cod three18)).length ≤ 1000; rw [dec_cod]; simp [three18]⟩, (by show ∀ b ∈ dec (cod []), _; rw [dec_cod]; exact fun b hb => absurd hb (by simp)), by show ∀ b ∈ dec (cod three18), _; rw [dec_cod]; exact range18⟩
theorem pre4 : pre_fall (cod (List.replicate 257 (cod [0, 0, 0, 0, 0, 0])) :: X18) := ⟨vsOK_cons trivial zs18, by
  show ∀ b ∈ dec (cod (List.replicate 257 (cod [0, 0, 0, 0, 0, 0]))), _
  rw [dec_cod]
  intro b hb
  rw [(List.mem_replicate.1 hb).2, dec_cod]
  exact ⟨rfl, rfl, rfl, rfl, rfl, rfl, trivial⟩⟩
theorem okB18 : three18.all okB = true := by
  have h := asked18
  unfold askedE at h
  split at h
  · split at h
    · assumption
    · exact absurd h (by decide)
  · exact absurd h (by decide)
theorem fall_e {l x : List Int} {e : Int} (h : askedE l x = e) (h0 : e ≠ 0) : (fallL l x).getD 1 0 = e := by
  unfold fallL
  rw [if_neg (by rw [h]; exact h0), h]
  rfl
theorem many18 (x : List Int) : askedE (List.replicate 257 (cod [0, 0, 0, 0, 0, 0])) x = 4 := by
  unfold askedE
  rw [if_neg (by rw [List.length_replicate]; decide)]
theorem cam18 : askedE three18 [0, 0, 0, 0, 0, 0, 0, 0, 0, 0, 0, 0, 0, 0, 0, 0, 0, 0, 63, 63] = 150 := by
  unfold askedE
  rw [if_pos (by simp [three18]), if_pos okB18]
  kernel_rfl
theorem win18 : askedE three18 [0, 0, 0, 256, 0, 0, 0, 256, 0, 0, 0, 256, 64, 256, 64, 64, 0, 0, 64, 0] = 2 := by
  unfold askedE
  rw [if_pos (by simp [three18]), if_pos okB18]
  kernel_rfl
theorem plain : t_FindNames.sat G_FindNames [] (fun ys => ys = [1]) [] [] := by
  have hX : X18 = [0, 0, 0, 256, 0, 0, 0, 256, 0, 0, 0, 256, 64, 256, 64, 64, 0, 0, 63, 63] := rfl
  have p2 := pre2
  have p3 := pre3
  have p4 := pre4
  have hl := look18
  have hn := look_nil.1
  rw [hX] at p2 p3 p4 hl hn
  have p5 : pre_fall (cod three18 :: [0, 0, 0, 0, 0, 0, 0, 0, 0, 0, 0, 0, 0, 0, 0, 0, 0, 0, 63, 63]) := ⟨vsOK_cons trivial (zs_any (by decide)), by show ∀ b ∈ dec (cod three18), _; rw [dec_cod]; exact range18⟩
  have p6 : pre_fall (cod three18 :: [0, 0, 0, 256, 0, 0, 0, 256, 0, 0, 0, 256, 64, 256, 64, 64, 0, 0, 64, 0]) := ⟨vsOK_cons trivial (zs_any (by decide)), by show ∀ b ∈ dec (cod three18), _; rw [dec_cod]; exact range18⟩
  have hm := fall_e (many18 [0, 0, 0, 256, 0, 0, 0, 256, 0, 0, 0, 256, 64, 256, 64, 64, 0, 0, 63, 63]) (by decide)
  have hc := fall_e cam18 (by decide)
  have hw := fall_e win18 (by decide)
  have hrep : ∀ x : Int, List.replicate (Int.toNat 257) x = List.replicate 257 x := fun _ => rfl
  simp only [t_FindNames, G_FindNames, s_alive18, s_tbuild, s_query, s_fseen, s_fall, s_three18f, s_eye18, s_all18, TX.sat, XB.prop, X.den, List.map_cons, List.map_nil, List.getElem?_cons_zero, List.getElem?_cons_succ, List.cons_append, List.nil_append, List.getD_cons_zero, List.getD_cons_succ, mkS, mkP, and_true, true_and, Int.not_lt, Int.not_le, not_or, not_and, Classical.not_not, ne_eq, not_true_eq_false, not_false_eq_true, sem_alive18, sem_alive, sem_tbuild, sem_query, sem_fseen, sem_fall, sem_look, sem_three18f, sem_eye18, sem_all18, L2.den, dec_cod, dec_nil, boxes18, if_true, List.drop_succ_cons, List.drop_zero, hl, hn, hm, hc, hw, hrep]
  refine ⟨pre1, p2, p2, p3, p4, p5, p6, ?_⟩
  simp
theorem range_nil : rangeOK [] [] := trivial
set_option maxRecDepth 100000 in
theorem lifted (os : Os) (started : os.Started) (H : Type) (enc : TypeId × Value → H) :
    ReturnsInHanded {} Tryd.checked os 6 .any (fun w args => (Rows.findNamesSpec.pre enc Tryd.prog Tryd.f6 Rows.findNamesRow.domain false w args ∧ laidMet Tryd.prog [("diorama/frustum.world", Rows.laid_diorama_frustum_world)] w) ∧ sizedMet enc Tryd.prog Tryd.f6 (OpenSpec.ofChange Rows.findNamesSpec) false w args) (Rows.findNamesSpec.post enc Tryd.prog Tryd.f6 false true false false) := by
  refine returnsInHanded_of_change_and (C := Tryd.checked) (X := fun w _ => laidMet Tryd.prog [("diorama/frustum.world", Rows.laid_diorama_frustum_world)] w) (fun _ _ _ hh h => h.of_heap hh) facts.own started (by kernel_rfl) Tryd.func6
    (ChangeSpec.witness_at (enc := enc) (C := Tryd.checked) (os := os) (X := fun w _ => laidMet Tryd.prog [("diorama/frustum.world", Rows.laid_diorama_frustum_world)] w) false (laidWorld os) #[] 8 rfl (by kernel_rfl) (by kernel_rfl) (by kernel_rfl) (by kernel_rfl) (by kernel_rfl) (laidWorld_met os _)) ?_
  intro W base args ds gs before hval0 hW hcnd _ hL _
  have hval : ∀ (j : Nat) t v, Tryd.f6.params[j]? = some t → args[j]? = some v → Value.okWide Tryd.prog W .any base t v := hval0
  have hW' := hW
  obtain ⟨p, q, hA0, hV, rfl, hfz, hnd⟩ := hW
  have hA : DataW.TrodAll enc Tryd.prog W 0 (fun _ => true) true Tryd.f6.params.toList args.toList ds p := hA0
  rw [Tryd.params6] at hA hval
  obtain ⟨hargs, rfl, rfl⟩ := trodAll_nil hA
  obtain rfl : args = #[] := by cases args; simp_all
  obtain ⟨rfl, rfl⟩ := trodVars_none hV
  clear hA0 hval0
  have hxs : #[] = (mkShs [] []).toArray := rfl
  have hlen : ([] : List Int).length = total [] := rfl
  have hcalls := lawF facts.mixed g_FindNames o_FindNames tree_FindNames rfl rfl hlen (range_vs (range_nil : rangeOK _ _)) (plain ) W (glob_of_laid hL)
  rw [← hxs] at hcalls
  refine hcalls.mono fun e W' ⟨he, bel⟩ => ?_
  subst he
  exact ⟨_, rfl, _, _, _, [], _, [], hW', trodAll_mk1 (shut_bool Tryd.underlying4 _), trodAll_mk0, rfl, bel.frame _, fun h => by cases h⟩

theorem over : Rows.findNamesRow.holds Tryd.pinned (OpenSpec.ofChange Rows.findNamesSpec) :=
  OpenClaim.holds_of_wide 6 Tryd.f6 rfl rfl rfl rfl rfl rfl rfl ⟨rfl, rfl, rfl, rfl, rfl⟩ rfl rfl rfl rfl rfl (by kernel_rfl) Tryd.func6
    (facts.joined (by kernel_rfl) (by kernel_rfl) (by kernel_rfl) (by kernel_rfl) (by kernel_rfl) (by kernel_rfl) (by kernel_rfl) rfl rfl rfl rfl)
    (of_decide_eq_true (by kernel_rfl)) (by unfold Func.isWrapper; first | (rw [if_pos (by decide +kernel)]; kernel_rfl) | (rw [if_neg (by decide +kernel)]; exact ⟨rfl, rfl⟩))
    (fun os started H enc _ => lifted os started H enc)

theorem noStand : (Tryd.f6.params.all fun t => !Tryd.prog.wantsStandIn t) = true := by kernel_rfl
theorem proved : Rows.FindNamesCardSaid :=
  Claim7.holds_tied_plain_at .later [] [.data] true (true, "fe355b6850b09c8680bea1fba1471605f80c9d0ddaacf1e1bebf28d32f60e03f") false over (fun _ h => by cases h) (by kernel_rfl) (fun _ h => by cases h) findNames_row_tie rfl ⟨rfl, rfl⟩ (by kernel_rfl) rfl
    (fun f fn hf hfn => by
      obtain rfl : f = 6 := Option.some.inj ((show Tryd.prog.funcNamed Rows.findNamesRow.func = some 6 by kernel_rfl).symm.trans hf) |>.symm
      obtain rfl : fn = Tryd.f6 := (Option.some.inj (Tryd.func6.symm.trans hfn)).symm
      refine ⟨by kernel_rfl, fun j t ht => ?_⟩
      have := Array.all_eq_true_iff_forall_mem.1 noStand t (Array.mem_of_getElem? ht)
      exact (by simpa using this : Tryd.prog.wantsStandIn t = false))
    (by kernel_rfl)
#print axioms proved

end Go.Proofs.YtgcoidbaoigkeaaDoor.findNames
