/-
  What slices.Clone comes to, of branches.
-/
import Derived.Test.YtgcoidbaoigkeaaGDefs
import Derived.Test.YtgcoidbaoigkeaaFFacts
import Derived.Test.YtgcoidbaoigkeaaFLists
import Derived.Test.YtgcoidbaoigkeaaSwRi
import Derived.RangeFuncBox
import Derived.RangeFuncLeaves
import Derived.Shelf.Abstract
import Derived.WalkKit
import Derived.OwnWalkIn
import Derived.TacticsInMore
import Derived.LoopNIn
import Derived.LoopIn
import Derived.Lib.SliceRun
import Derived.Test.YtgcoidbaoigkeaaGTree
import Derived.Test.YtgcoidbaoigkeaaGBack
set_option linter.unusedVariables false
set_option linter.unusedSimpArgs false
namespace Go.Proofs.Ytgcoidbaoigkeaa.fix
open Go.RowKit Go.Sx Go.Shelf

theorem und_brs : Try.prog.underlying 47 = some (.slice 66) := by kernel_rfl
set_option maxRecDepth 100000 in
set_option maxHeartbeats 2000000 in
theorem clone_nil (w : World) : Calls Try.prog 40 #[.slice none 0 0] w fun e w' => e = .returned (.slice none 0 0) ∧ w' = w := by
  have qT : ∀ (w : World) (a : Option Addr) (n c : Nat), (binOp .eql 47 (.slice a n c) (.slice none 0 0)).run Try.prog w = .ok (.bool a.isNone) w := fun w a n c => Lib.run_eql_slice_nil w _ _ a n c 0 0 und_brs
  refine calls_of_wp (fn := Try.f40) (by kernel_rfl) (by rfl) ?_
  try rw [show Try.f40.ntmps = 8 from rfl]
  simp only [List.size_toArray, List.length_cons, List.length_nil, Nat.reduceAdd, Nat.reduceSub, Array.replicate_succ, Array.replicate_zero, List.push_toArray, List.append_toArray, List.nil_append, List.cons_append]
  go_wp2
  exact ⟨rfl, _, results_tmp rfl _ _ _, rfl, rfl⟩
noncomputable def cloneB : Code := match Try.f40.body with
  | some (.seq _ (.seq _ b)) => b
  | _ => .skip
def cloneS : St := ⟨[.w (.o (.go (.a 0))), undefS, .w (.o (.l (.slice none 0 0))), .w (.o (.go (.a 0))), .w (.o (.b (.c false))), undefS, undefS, undefS], [], [], 1, 0, 0, 0, [], [(Br_ks, .v 0)], 0⟩
theorem tree_cloneB : exec Try.prog noLp [] 100 cloneB cloneS (doneK Try.prog Try.f40 [Brs]) = .asrt (.le (.ln (.v 0)) (.c 1000000)) (.ret [.v 0]) := by kernel_rfl

theorem row_cod {w : World} {ty : TypeId} {ks : List K} {u : Value} {c : Int} (h : RowOK w ty ks u c) : RowOK w ty ks u (cod (dec c)) := by
  unfold RowOK
  rw [dec_cod]
  exact h
theorem res_one {B : Nat → Prop} {w : World} {u : Value} {c : Int} (h : RowOK w 66 Br_ks u c) (hB : ∀ k, rowBlk u = some k → B k) : ResOK B w [Brs] u [c] :=
  ⟨[u], rfl, ⟨u, [], [c], [], rfl, rfl, ⟨⟨h, hB⟩, trivial⟩, rfl, rfl⟩, List.pairwise_singleton _ _⟩
theorem res_one_inv {B : Nat → Prop} {w : World} {u : Value} {c : Int} (h : ResOK B w [Brs] u [c]) : RowOK w 66 Br_ks u c ∧ ∀ k, rowBlk u = some k → B k := by
  obtain ⟨vs, rfl, ⟨v, vr, ys, yr, rfl, h1, h2, rfl, rfl⟩, _⟩ := h
  rw [List.append_nil] at h1
  subst h1
  exact h2.1

set_option maxRecDepth 100000 in
set_option maxHeartbeats 2000000 in
theorem clone_some (b off len cap : Nat) (c : Int) (w : World) (hs : SlOK w Br_ks (.slice (some ⟨b, off, none⟩) len cap) c) (hl : (dec c).length ≤ 1000000) :
    Calls Try.prog 40 #[.slice (some ⟨b, off, none⟩) len cap] w fun e w' => ∃ ys u, e = .returned u ∧ ys = [c] ∧ ResOK (fun k => w.heap.size ≤ k) w' [Brs] u ys ∧ Below w.heap.size w w' := by
  have qT : ∀ (w : World) (a : Option Addr) (n c : Nat), (binOp .eql 47 (.slice a n c) (.slice none 0 0)).run Try.prog w = .ok (.bool a.isNone) w := fun w a n c => Lib.run_eql_slice_nil w _ _ a n c 0 0 und_brs
  refine calls_of_wp (fn := Try.f40) (by kernel_rfl) (by rfl) ?_
  try rw [show Try.f40.ntmps = 8 from rfl]
  simp only [List.size_toArray, List.length_cons, List.length_nil, Nat.reduceAdd, Nat.reduceSub, Array.replicate_succ, Array.replicate_zero, List.push_toArray, List.append_toArray, List.nil_append, List.cons_append]
  refine wp_seq (wp_mono (Q := fun e a' w' => e = .normal ∧ w' = w ∧ a' = { tmps := #[.slice (some ⟨b, off, none⟩) len cap, undef, .slice none 0 0, undef, undef, undef, undef, undef], defers := [] }) (by go_wp2) ?_)
  rintro e a' w' ⟨rfl, rfl, rfl⟩
  show Code.wp _ _ _ _ _
  refine wp_seq (wp_mono (Q := fun e a' w'' => e = .normal ∧ w'' = w' ∧ a' = { tmps := #[.slice (some ⟨b, off, none⟩) len cap, undef, .slice none 0 0, .slice (some ⟨b, off, none⟩) len cap, .bool false, undef, undef, undef], defers := [] }) (by go_wp2) ?_)
  rintro e a' w'' ⟨rfl, rfl, rfl⟩
  show Code.wp _ cloneB _ _ _
  have hrep : Rep ⟨[c], [], [], [], [.slice (some ⟨b, off, none⟩) len cap]⟩ ⟨w'', fun _ => False⟩ cloneS w'' := by
    refine ⟨BelowX.refl _, rfl, rfl, rfl, rfl, ?_, ?_, ?_, ?_, ?_, ?_, ?_, ⟨fun p hp => (by cases hp), fun _ _ _ hh => hh⟩, ?_⟩
    · intro n b hb; simp [cloneS] at hb
    · intro n b hb; simp [cloneS] at hb
    · intro n m b c hb; simp [cloneS] at hb
    · intro n b hb; simp [cloneS] at hb
    · intro n b hb; simp [cloneS] at hb
    · intro n m b c k hb; simp [cloneS] at hb
    · intro n m b c hb; simp [cloneS] at hb
    · intro i ks c' hi
      match i, hi with
      | 0, hi =>
        simp only [cloneS, List.getElem?_cons_zero, Option.some.injEq, Prod.mk.injEq] at hi
        obtain ⟨rfl, rfl⟩ := hi
        exact hs.toN rfl
  have hrel : Rel ⟨[c], [], [], [], [.slice (some ⟨b, off, none⟩) len cap]⟩ ⟨w'', fun _ => False⟩ cloneS { tmps := #[.slice (some ⟨b, off, none⟩) len cap, undef, .slice none 0 0, .slice (some ⟨b, off, none⟩) len cap, .bool false, undef, undef, undef], defers := [] } w'' := ⟨hrep, rfl, rfl⟩
  have hex := exec_sound (Γ := []) facts.mixed (lp := noLp) (fun s h => (by cases h)) 100 cloneB cloneS (doneK Try.prog Try.f40 [Brs]) ⟨w'', fun _ => False⟩ (fun ys => ys = [c]) [] _ _ w'' hrel rfl (by
    rw [tree_cloneB]
    refine ⟨?_, ?_⟩
    · simp only [B.den, E.den, decide_eq_true_eq, List.getD_cons_zero]
      omega
    · simp only [T.sat, List.map_cons, List.map_nil, E.den, List.getD_cons_zero])
  refine wp_mono (wps_wp _ hex) ?_
  rintro x a' w' ⟨out, s', e', more, rfl, hle, hrel', hf, hfr, hd, hsat⟩
  obtain ⟨hne, ys, v, h1, h2, h3⟩ := doneK_sat hrel' hsat
  have hbel := hrel'.rep.below.below
  cases out with
  | norm => exact ⟨hrel'.defs, _, h3, ys, v, rfl, h1, ResOK.up (fun k hk => hk.elim id (fun hh => hh.elim)) h2, hbel⟩
  | exit id => exact absurd rfl (hne id)
  | ret => exact ⟨hrel'.defs, _, h3, ys, v, rfl, h1, ResOK.up (fun k hk => hk.elim id (fun hh => hh.elim)) h2, hbel⟩

theorem ok_clone : s_clone.ok Try.prog := by
  refine ⟨fun sh h => ?_, fun xs vs w hgl hx hpre => ⟨rfl, ?_⟩⟩
  · have h' : sh ∈ [Brs, Brs] := h
    simp only [List.mem_cons, List.mem_nil_iff, or_false, or_self] at h'
    subst h'
    exact .inr rfl
  · obtain ⟨v, vr, ys, yr, rfl, rfl, h1, rfl, rfl⟩ := hx
    rw [List.append_nil] at hpre ⊢
    obtain ⟨c, rfl, hs⟩ : ∃ c, ys = [c] ∧ SlOK w Br_ks v c := by
      match ys, h1 with
      | [c], h1 => exact ⟨c, rfl, h1.1.now⟩
      | [], h1 => exact h1.elim
      | _ :: _ :: _, h1 => exact h1.2.elim
    have hl : (dec c).length ≤ 1000000 := hpre.2
    show Calls _ _ #[v] w _
    rcases hs with ⟨rfl, hn⟩ | ⟨b, off, cap, rfl, h2⟩
    · refine (clone_nil w).mono ?_
      rintro e w' ⟨rfl, rfl⟩
      exact ⟨_, rfl, res_one (row_cod (.inl ⟨hn, .inl rfl⟩)) (fun k hk => by cases hk), Below.refl _ _⟩
    · refine (clone_some b off _ cap c w (.inr ⟨b, off, cap, rfl, h2⟩) hl).mono ?_
      rintro e w' ⟨ys, u, rfl, rfl, hr, hb⟩
      obtain ⟨h3, h4⟩ := res_one_inv hr
      exact ⟨u, rfl, res_one (row_cod h3) h4, hb⟩
theorem inf_clone : InfOK s_clone i_clone := ⟨fun xs h => (small_not xs h).elim, fun vs xs h hp => vsOK_cons trivial vsOK_nil⟩
#print axioms ok_clone
end Go.Proofs.Ytgcoidbaoigkeaa.fix
set_option linter.unusedVariables false
set_option linter.unusedSimpArgs false
namespace Go.Proofs.Ytgcoidbaoigkeaa.fix
open Go.RowKit Go.Sx

noncomputable def G_bjoin0 : List Sum := []
def I_bjoin0 : List Inf := []
def t_bjoin0 : TX := (.ret [(.mn (.v 0) (.v 6)), (.mn (.v 1) (.v 7)), (.mn (.v 2) (.v 8)), (.mx (.v 3) (.v 9)), (.mx (.v 4) (.v 10)), (.mx (.v 5) (.v 11))])
theorem tree_bjoin0 : merge (optFL [] I_bjoin0 [] pin_bjoin0 (symFnL Try.prog noLp gl0 G_bjoin0 1000 72 [An 6, An 6] [An 6])) = t_bjoin0 := by kernel_rfl
theorem g_bjoin0 : Gok Try.prog G_bjoin0 := noG
theorem o_bjoin0 : outsOK G_bjoin0 I_bjoin0 := outsOK_nil
theorem ok_bjoin0 : s_bjoin0.ok Try.prog := Sum.okF facts.mixed g_bjoin0 o_bjoin0 tree_bjoin0 rfl (fun _ => rfl) (by
  intro xs hx hp
  obtain ⟨a0, a1, a2, a3, a4, a5, a6, a7, a8, a9, a10, a11, rfl⟩ := len12 hx
  rfl)
theorem inf_bjoin0 : InfOK s_bjoin0 i_bjoin0 := ⟨fun _ h => h, fun vs xs h hp => vsOK_cons (mnIv_has (h.2 0) (h.2 6)) (vsOK_cons (mnIv_has (h.2 1) (h.2 7)) (vsOK_cons (mnIv_has (h.2 2) (h.2 8)) (vsOK_cons (mxIv_has (h.2 3) (h.2 9)) (vsOK_cons (mxIv_has (h.2 4) (h.2 10)) (vsOK_cons (mxIv_has (h.2 5) (h.2 11)) vsOK_nil)))))⟩
noncomputable def G_bjoin : List Sum := [s_bcheck, s_bjoin0]
def I_bjoin : List Inf := [i_bcheck, i_bjoin0]
def t_bjoin : TX := (.callp 0 [(.v 0), (.v 1), (.v 2), (.v 3), (.v 4), (.v 5)] (.ite (.not (.eq (.v 12) (.c 0))) (.ret [(.c 0), (.c 0), (.c 0), (.c 0), (.c 0), (.c 0), (.c 8)])
(.callp 0 [(.v 6), (.v 7), (.v 8), (.v 9), (.v 10), (.v 11)] (.ite (.not (.eq (.v 13) (.c 0))) (.ret [(.c 0), (.c 0), (.c 0), (.c 0), (.c 0), (.c 0), (.c 8)])
(.callp 1 [(.v 0), (.v 1), (.v 2), (.v 3), (.v 4), (.v 5), (.v 6), (.v 7), (.v 8), (.v 9), (.v 10), (.v 11)] (.ret [(.v 14), (.v 15), (.v 16), (.v 17), (.v 18), (.v 19), (.c 0)]))))))
theorem tree_bjoin : merge (optFL [] I_bjoin [] pin_bjoin (symFnL Try.prog noLp gl0 G_bjoin 1000 42 [An 6, An 6] [An 6, I1])) = t_bjoin := by kernel_rfl
theorem g_bjoin : Gok Try.prog G_bjoin := (more ok_bcheck (fix.one ok_bjoin0))
theorem o_bjoin : outsOK G_bjoin I_bjoin := (outsOK_cons inf_bcheck (outsOK_cons inf_bjoin0 outsOK_nil))
theorem ok_bjoin : s_bjoin.ok Try.prog := Sum.okF facts.mixed g_bjoin o_bjoin tree_bjoin rfl (fun _ => rfl) (by
  intro xs hx hp
  obtain ⟨a0, a1, a2, a3, a4, a5, a6, a7, a8, a9, a10, a11, rfl⟩ := len12 hx
  have e1 : boxB [a0, a1, a2, a3, a4, a5, a6, a7, a8, a9, a10, a11] 0 = boxB [a0, a1, a2, a3, a4, a5] 0 := rfl
  have e2 : boxB [a0, a1, a2, a3, a4, a5, a6, a7, a8, a9, a10, a11] 6 = boxB [a6, a7, a8, a9, a10, a11] 0 := rfl
  simp only [t_bjoin, G_bjoin, s_bcheck, s_bjoin0, TX.sat, XB.prop, X.den, List.map_cons, List.map_nil, List.getElem?_cons_zero, List.getElem?_cons_succ, List.cons_append, List.nil_append, List.getD_cons_zero, List.getD_cons_succ, mkS, mkP, and_true, true_and, Int.not_lt, Int.not_le, not_or, not_and, Classical.not_not, ne_eq, not_true_eq_false, not_false_eq_true, sem_bcheck, sem_bjoin0, sem_bjoin, joinL, e1, e2]
  clear hx hp
  generalize boxB [a0, a1, a2, a3, a4, a5] 0 = p
  generalize boxB [a6, a7, a8, a9, a10, a11] 0 = q
  cases p <;> cases q <;> simp [er, joinP, z7, ex6, ex7])
theorem inf_bjoin : InfOK s_bjoin i_bjoin := ⟨fun _ h => h, fun vs xs h hp => by
  show vsOK (ivs 6 (-32768) 32768 ++ [iv 0 8]) (ex7 (joinL xs))
  unfold joinL
  split
  · rename_i hc
    simp only [Bool.and_eq_true, boxB_true, Nat.reduceAdd, Nat.zero_add] at hc
    exact vsOK_cons (iv_def.2 (by show _ ≤ min _ _ ∧ min _ _ ≤ _; omega)) (vsOK_cons (iv_def.2 (by show _ ≤ min _ _ ∧ min _ _ ≤ _; omega)) (vsOK_cons (iv_def.2 (by show _ ≤ min _ _ ∧ min _ _ ≤ _; omega)) (vsOK_cons (iv_def.2 (by show _ ≤ max _ _ ∧ max _ _ ≤ _; omega)) (vsOK_cons (iv_def.2 (by show _ ≤ max _ _ ∧ max _ _ ≤ _; omega)) (vsOK_cons (iv_def.2 (by show _ ≤ max _ _ ∧ max _ _ ≤ _; omega)) (vsOK_cons (iv_def.2 (by simp [joinP])) vsOK_nil))))))
  · exact vsOK_cons (iv_def.2 (by simp [z7])) (vsOK_cons (iv_def.2 (by simp [z7])) (vsOK_cons (iv_def.2 (by simp [z7])) (vsOK_cons (iv_def.2 (by simp [z7])) (vsOK_cons (iv_def.2 (by simp [z7])) (vsOK_cons (iv_def.2 (by simp [z7])) (vsOK_cons (iv_def.2 (by simp [z7])) vsOK_nil))))))⟩

/-! ### plainly -/
theorem rf_len (l t : List Int) : ∀ c, (rfRun l t c).length = t.length
  | 0 => rfl
  | c + 1 => by rw [rfRun, rfStep, List.length_set]; exact rf_len l t c
theorem rf_succ (l t : List Int) (c : Nat) : rfRun l t (c + 1) = rfStep l (rfRun l t c) (t.length - 1 - c) := rfl
theorem getD_set (l : List Int) (i j : Nat) (x : Int) : (l.set i x).getD j 0 = if i = j ∧ j < l.length then x else l.getD j 0 := by
  simp only [List.getD, List.getElem?_set]
  by_cases h : i = j
  · subst h
    by_cases hl : i < l.length
    · simp [hl]
    · simp [hl]
  · simp [h]
theorem co_cod (l : List Int) (j : Nat) : co (cod l) j = l.getD j 0 := by unfold co; rw [dec_cod]
theorem rfBox_len (l out : List Int) (b : Int) : (rfBox l out b).length = 6 := by unfold rfBox; split <;> rfl
theorem rf_new (l out : List Int) (b x y z : Int) : six6 (cod (rfBox l out b ++ [x, y, z])) = rfBox l out b ∧ co (cod (rfBox l out b ++ [x, y, z])) 6 = x ∧ co (cod (rfBox l out b ++ [x, y, z])) 7 = y ∧ co (cod (rfBox l out b ++ [x, y, z])) 8 = z := by
  have h := rfBox_len l out b
  generalize rfBox l out b = q at h
  match q, h with
  | [a0, a1, a2, a3, a4, a5], _ =>
    simp only [six6, co_cod]
    exact ⟨rfl, rfl, rfl, rfl⟩
theorem rf_co (l t : List Int) (i : Nat) : ∀ c, co ((rfRun l t c).getD i 0) 6 = co (t.getD i 0) 6 ∧ co ((rfRun l t c).getD i 0) 7 = co (t.getD i 0) 7 ∧ co ((rfRun l t c).getD i 0) 8 = co (t.getD i 0) 8
  | 0 => ⟨rfl, rfl, rfl⟩
  | c + 1 => by
    have ih := rf_co l t i c
    rw [rf_succ, rfStep, getD_set]
    split
    · rename_i h
      obtain ⟨_, h1, h2, h3⟩ := rf_new l (rfRun l t c) ((rfRun l t c).getD (t.length - 1 - c) 0) (co ((rfRun l t c).getD (t.length - 1 - c) 0) 6) (co ((rfRun l t c).getD (t.length - 1 - c) 0) 7) (co ((rfRun l t c).getD (t.length - 1 - c) 0) 8)
      rw [h1, h2, h3, h.1]
      exact ih
    · exact ih
theorem okBox_six {b : Int} : okBox b = boxB (six6 b) 0 := rfl
theorem okBox_iff {b : Int} : okBox b = true ↔ (((-32768 ≤ co b 0 ∧ co b 0 ≤ 32768) ∧ (-32768 ≤ co b 1 ∧ co b 1 ≤ 32768) ∧ (-32768 ≤ co b 2 ∧ co b 2 ≤ 32768)) ∧ ((-32768 ≤ co b 3 ∧ co b 3 ≤ 32768) ∧ (-32768 ≤ co b 4 ∧ co b 4 ≤ 32768) ∧ (-32768 ≤ co b 5 ∧ co b 5 ≤ 32768)) ∧ co b 0 ≤ co b 3 ∧ co b 1 ≤ co b 4 ∧ co b 2 ≤ co b 5) := by
  rw [okBox_six, boxB_true]
  rfl
theorem box_join {a b : Int} (ha : okBox a = true) (hb : okBox b = true) : boxB (ex6 (joinP (six6 a ++ six6 b))) 0 = true := by
  rw [okBox_iff] at ha hb
  rw [boxB_true]
  show (((-32768 ≤ min (co a 0) (co b 0) ∧ min (co a 0) (co b 0) ≤ 32768) ∧ (-32768 ≤ min (co a 1) (co b 1) ∧ min (co a 1) (co b 1) ≤ 32768) ∧ (-32768 ≤ min (co a 2) (co b 2) ∧ min (co a 2) (co b 2) ≤ 32768)) ∧ ((-32768 ≤ max (co a 3) (co b 3) ∧ max (co a 3) (co b 3) ≤ 32768) ∧ (-32768 ≤ max (co a 4) (co b 4) ∧ max (co a 4) (co b 4) ≤ 32768) ∧ (-32768 ≤ max (co a 5) (co b 5) ∧ max (co a 5) (co b 5) ≤ 32768)) ∧ min (co a 0) (co b 0) ≤ max (co a 3) (co b 3) ∧ min (co a 1) (co b 1) ≤ max (co a 4) (co b 4) ∧ min (co a 2) (co b 2) ≤ max (co a 5) (co b 5))
  omega
def Shp (t : List Int) (n : Nat) : Prop := ∀ i, i < t.length → (co (t.getD i 0) 6 = -1 ∧ co (t.getD i 0) 7 = -1 ∧ 0 ≤ co (t.getD i 0) 8 ∧ co (t.getD i 0) 8 < (n : Int)) ∨
  (co (t.getD i 0) 6 = (i : Int) + 1 ∧ (i : Int) + 1 < co (t.getD i 0) 7 ∧ co (t.getD i 0) 7 < (t.length : Int) ∧ co (t.getD i 0) 8 = -1)
theorem shaped_shp {t : List Int} {n : Nat} (h : shapedB t n = true) : Shp t n := by
  intro i hi
  have hl := shaped_len h
  obtain ⟨bt, h1, _⟩ := shaped_tree h (by omega)
  exact h1.branch i (Nat.zero_le _) hi
theorem rf_ok {l t : List Int} (hs : Shp t l.length) (hb : ∀ x ∈ l, okBox x = true) : ∀ c, c ≤ t.length → ∀ i, t.length - c ≤ i → i < t.length → okBox ((rfRun l t c).getD i 0) = true
  | 0, _, i, h1, h2 => by omega
  | c + 1, hc, i, h1, h2 => by
    have ih := rf_ok hs hb c (by omega)
    rw [rf_succ, rfStep, getD_set, rf_len]
    split
    · rename_i h
      have hco := rf_co l t (t.length - 1 - c) c
      rw [okBox_six, (rf_new _ _ _ _ _ _).1]
      unfold rfBox
      rw [hco.1, hco.2.1, hco.2.2]
      rcases hs (t.length - 1 - c) (by omega) with hlf | hnd
      · rw [if_pos (by omega)]
        refine hb _ (mem_at ?_)
        omega
      · rw [if_neg (by omega)]
        exact box_join (ih _ (by omega) (by omega)) (ih _ (by omega) (by omega))
    · rename_i h
      exact ih i (by omega) h2
theorem boxesE_ok {l : List Int} (h : boxesE l = 0) : l.length ≤ 256 ∧ ∀ x ∈ l, okBox x = true := by
  unfold boxesE at h
  split at h
  · rename_i h1
    split at h
    · rename_i h2
      exact ⟨h1, List.all_eq_true.1 h2⟩
    · exact absurd h (by decide)
  · exact absurd h (by decide)
theorem boxesE_iv (l : List Int) : 0 ≤ boxesE l ∧ boxesE l ≤ 8 := by
  unfold boxesE
  split
  · split <;> decide
  · decide
theorem refitE_iv (t l : List Int) : 0 ≤ refitE t l ∧ refitE t l ≤ 8 := by
  unfold refitE
  split
  · split <;> decide
  · exact boxesE_iv l
theorem join_ok {a b : Int} (ha : okBox a = true) (hb : okBox b = true) : joinL [co a 0, co a 1, co a 2, co a 3, co a 4, co a 5, co b 0, co b 1, co b 2, co b 3, co b 4, co b 5] = joinP (six6 a ++ six6 b) := by
  unfold joinL
  rw [if_pos]
  · rfl
  · rw [Bool.and_eq_true]
    exact ⟨ha, hb⟩
theorem okBox_zz {b : Int} (h : okBox b = true) : ivHas zz (co b 0) ∧ ivHas zz (co b 1) ∧ ivHas zz (co b 2) ∧ ivHas zz (co b 3) ∧ ivHas zz (co b 4) ∧ ivHas zz (co b 5) := by
  rw [okBox_iff] at h
  exact ⟨zc _ (by omega) (by omega), zc _ (by omega) (by omega), zc _ (by omega) (by omega), zc _ (by omega) (by omega), zc _ (by omega) (by omega), zc _ (by omega) (by omega)⟩

noncomputable def G_refit : List Sum := [s_tboxes, s_shaped, s_clone, s_bjoin]
def I_refit : List Inf := [i_tboxes, i_shaped, i_clone, i_bjoin]
def t_refit : TX := (.call 0 [(.v 1)] (.ite (.not (.eq (.v 2) (.c 0))) (.ret [.nl, (.v 2)])
(.call 1 [(.v 0), (.ln (.v 1))] (.ite (.eq (.v 3) (.c 0)) (.ret [.nl, (.c 8)])
(.call 2 [(.v 0)] (.asrt (.le (.ln (.v 4)) (.c 1000000)) (.loop 2 [none, none] [(.v 4), (.ln (.v 4))] (.ite (.le (.v 6) (.c 0)) (.ret [(.v 5), (.c 0)])
(.ite (.lt (.l2 .at (.l2 .at (.v 5) (.wr .i64 (.sub (.v 6) (.c 1)))) (.c 6)) (.c 0)) (.asrt (.le (.c 0) (.l2 .at (.l2 .at (.v 5) (.wr .i64 (.sub (.v 6) (.c 1)))) (.c 8))) (.asrt (.lt (.l2 .at (.l2 .at (.v 5) (.wr .i64 (.sub (.v 6) (.c 1)))) (.c 8)) (.ln (.v 1))) (.asrt (.le (.c 0) (.wr .i64 (.sub (.v 6) (.c 1)))) (.asrt (.lt (.wr .i64 (.sub (.v 6) (.c 1))) (.ln (.v 5))) (.back 0 [(.l3 (.v 5) (.wr .i64 (.sub (.v 6) (.c 1))) (.l2 .cons (.l2 .at (.l2 .at (.v 1) (.l2 .at (.l2 .at (.v 5) (.wr .i64 (.sub (.v 6) (.c 1)))) (.c 8))) (.c 0)) (.l2 .cons (.l2 .at (.l2 .at (.v 1) (.l2 .at (.l2 .at (.v 5) (.wr .i64 (.sub (.v 6) (.c 1)))) (.c 8))) (.c 1)) (.l2 .cons (.l2 .at (.l2 .at (.v 1) (.l2 .at (.l2 .at (.v 5) (.wr .i64 (.sub (.v 6) (.c 1)))) (.c 8))) (.c 2)) (.l2 .cons (.l2 .at (.l2 .at (.v 1) (.l2 .at (.l2 .at (.v 5) (.wr .i64 (.sub (.v 6) (.c 1)))) (.c 8))) (.c 3)) (.l2 .cons (.l2 .at (.l2 .at (.v 1) (.l2 .at (.l2 .at (.v 5) (.wr .i64 (.sub (.v 6) (.c 1)))) (.c 8))) (.c 4)) (.l2 .cons (.l2 .at (.l2 .at (.v 1) (.l2 .at (.l2 .at (.v 5) (.wr .i64 (.sub (.v 6) (.c 1)))) (.c 8))) (.c 5)) (.l2 .cons (.l2 .at (.l2 .at (.v 5) (.wr .i64 (.sub (.v 6) (.c 1)))) (.c 6)) (.l2 .cons (.l2 .at (.l2 .at (.v 5) (.wr .i64 (.sub (.v 6) (.c 1)))) (.c 7)) (.l2 .cons (.l2 .at (.l2 .at (.v 5) (.wr .i64 (.sub (.v 6) (.c 1)))) (.c 8)) .nl)))))))))), (.wr .i64 (.sub (.v 6) (.c 1)))])))))
(.asrt (.lt (.l2 .at (.l2 .at (.v 5) (.wr .i64 (.sub (.v 6) (.c 1)))) (.c 6)) (.ln (.v 5))) (.asrt (.le (.c 0) (.l2 .at (.l2 .at (.v 5) (.wr .i64 (.sub (.v 6) (.c 1)))) (.c 7))) (.asrt (.lt (.l2 .at (.l2 .at (.v 5) (.wr .i64 (.sub (.v 6) (.c 1)))) (.c 7)) (.ln (.v 5))) (.call 3 [(.l2 .at (.l2 .at (.v 5) (.l2 .at (.l2 .at (.v 5) (.wr .i64 (.sub (.v 6) (.c 1)))) (.c 6))) (.c 0)), (.l2 .at (.l2 .at (.v 5) (.l2 .at (.l2 .at (.v 5) (.wr .i64 (.sub (.v 6) (.c 1)))) (.c 6))) (.c 1)), (.l2 .at (.l2 .at (.v 5) (.l2 .at (.l2 .at (.v 5) (.wr .i64 (.sub (.v 6) (.c 1)))) (.c 6))) (.c 2)), (.l2 .at (.l2 .at (.v 5) (.l2 .at (.l2 .at (.v 5) (.wr .i64 (.sub (.v 6) (.c 1)))) (.c 6))) (.c 3)), (.l2 .at (.l2 .at (.v 5) (.l2 .at (.l2 .at (.v 5) (.wr .i64 (.sub (.v 6) (.c 1)))) (.c 6))) (.c 4)), (.l2 .at (.l2 .at (.v 5) (.l2 .at (.l2 .at (.v 5) (.wr .i64 (.sub (.v 6) (.c 1)))) (.c 6))) (.c 5)), (.l2 .at (.l2 .at (.v 5) (.l2 .at (.l2 .at (.v 5) (.wr .i64 (.sub (.v 6) (.c 1)))) (.c 7))) (.c 0)), (.l2 .at (.l2 .at (.v 5) (.l2 .at (.l2 .at (.v 5) (.wr .i64 (.sub (.v 6) (.c 1)))) (.c 7))) (.c 1)), (.l2 .at (.l2 .at (.v 5) (.l2 .at (.l2 .at (.v 5) (.wr .i64 (.sub (.v 6) (.c 1)))) (.c 7))) (.c 2)), (.l2 .at (.l2 .at (.v 5) (.l2 .at (.l2 .at (.v 5) (.wr .i64 (.sub (.v 6) (.c 1)))) (.c 7))) (.c 3)), (.l2 .at (.l2 .at (.v 5) (.l2 .at (.l2 .at (.v 5) (.wr .i64 (.sub (.v 6) (.c 1)))) (.c 7))) (.c 4)), (.l2 .at (.l2 .at (.v 5) (.l2 .at (.l2 .at (.v 5) (.wr .i64 (.sub (.v 6) (.c 1)))) (.c 7))) (.c 5))] (.asrt (.le (.c 0) (.wr .i64 (.sub (.v 6) (.c 1)))) (.asrt (.lt (.wr .i64 (.sub (.v 6) (.c 1))) (.ln (.v 5))) (.back 0 [(.l3 (.v 5) (.wr .i64 (.sub (.v 6) (.c 1))) (.l2 .cons (.v 7) (.l2 .cons (.v 8) (.l2 .cons (.v 9) (.l2 .cons (.v 10) (.l2 .cons (.v 11) (.l2 .cons (.v 12) (.l2 .cons (.l2 .at (.l2 .at (.v 5) (.wr .i64 (.sub (.v 6) (.c 1)))) (.c 6)) (.l2 .cons (.l2 .at (.l2 .at (.v 5) (.wr .i64 (.sub (.v 6) (.c 1)))) (.c 7)) (.l2 .cons (.l2 .at (.l2 .at (.v 5) (.wr .i64 (.sub (.v 6) (.c 1)))) (.c 8)) .nl)))))))))), (.wr .i64 (.sub (.v 6) (.c 1)))]))))))))))))))))
theorem tree_refit : merge (optFL [] I_refit [] pin_refit (symRg Try.prog noLp gl0 G_refit 71 9 1000 15 [Tr, Bs] [Tr, I1])) = t_refit := by kernel_rfl
theorem g_refit : Gok Try.prog G_refit := (more ok_tboxes (more ok_shaped (more ok_clone (fix.one ok_bjoin))))
theorem o_refit : outsOK G_refit I_refit := (outsOK_cons inf_tboxes (outsOK_cons inf_shaped (outsOK_cons inf_clone (outsOK_cons inf_bjoin outsOK_nil))))
theorem callable_back : callable Try.prog 71 = true := by kernel_rfl
theorem zz12 {a b : Int} (ha : okBox a = true) (hb : okBox b = true) : vsOK pin_bjoin [co a 0, co a 1, co a 2, co a 3, co a 4, co a 5, co b 0, co b 1, co b 2, co b 3, co b 4, co b 5] := by
  obtain ⟨h0, h1, h2, h3, h4, h5⟩ := okBox_zz ha
  obtain ⟨k0, k1, k2, k3, k4, k5⟩ := okBox_zz hb
  exact vsOK_cons h0 (vsOK_cons h1 (vsOK_cons h2 (vsOK_cons h3 (vsOK_cons h4 (vsOK_cons h5 (vsOK_cons k0 (vsOK_cons k1 (vsOK_cons k2 (vsOK_cons k3 (vsOK_cons k4 (vsOK_cons k5 vsOK_nil)))))))))))
theorem ok_refit : s_refit.ok Try.prog := Sum.okRg facts.mixed g_refit back_iter callable_back o_refit tree_refit rfl (fun _ => rfl) (fun xs h => h.1) (by
  intro xs hx hp
  obtain ⟨a, b, rfl⟩ := len2 hx
  have hlen := hp.2.1
  have hel := hp.2.2.2
  clear hp
  simp only [List.getD_cons_zero, List.getD_cons_succ] at hlen hel
  simp only [t_refit, G_refit, s_tboxes, s_shaped, s_clone, s_bjoin, TX.sat, XB.prop, X.den, List.map_cons, List.map_nil, List.getElem?_cons_zero, List.getElem?_cons_succ, List.cons_append, List.nil_append, List.getD_cons_zero, List.getD_cons_succ, mkS, mkP, and_true, true_and, Int.not_lt, Int.not_le, not_or, not_and, Classical.not_not, ne_eq, not_true_eq_false, not_false_eq_true, sem_tboxes, sem_shaped, sem_clone, sem_bjoin, sem_refit, ex7, L2.den]
  refine ⟨⟨vs_none (n := 1) rfl, hel⟩, ?_⟩
  generalize hta : dec a = t at hlen ⊢
  generalize dec b = l at hlen hel ⊢
  refine ⟨fun hbx => ?_, fun hbx => ?_⟩
  · have : refitE t l = boxesE l := by unfold refitE; rw [if_neg hbx]
    rw [this, if_neg hbx]
  obtain ⟨hl256, hbok⟩ := boxesE_ok hbx
  refine ⟨vsOK_cons trivial (vsOK_cons ⟨by show (0:Int) ≤ _; omega, by show _ ≤ (1000:Int); omega⟩ vsOK_nil), fun hsh => ?_, fun hsh => ?_⟩
  · have : refitE t l = 8 := by
      unfold refitE
      rw [if_pos hbx, if_neg]
      intro h
      rw [h] at hsh
      exact absurd hsh (by decide)
    rw [this]
    rfl
  have hshp : shapedB t (l.length : Int) = true := by
    cases h : shapedB t (l.length : Int) with
    | true => rfl
    | false => rw [h] at hsh; exact absurd rfl hsh
  have hE : refitE t l = 0 := by unfold refitE; rw [if_pos hbx, if_pos hshp]
  have hS := shaped_shp hshp
  rw [hE]
  simp only [dec_cod]
  refine ⟨⟨vs_none (n := 1) rfl, by show (dec a).length ≤ 1000000; rw [hta]; omega⟩, by omega, fun xs => ∃ i : Nat, xs.getD 1 0 = (i : Int) ∧ i ≤ t.length ∧ xs.getD 0 0 = cod (rfRun l t (t.length - i)), fun xs => (xs.getD 1 0).toNat, fun xs hx _ => vs_none (n := 2) hx, ⟨t.length, rfl, Nat.le_refl _, by rw [Nat.sub_self]; rfl⟩, ?_⟩
  intro xs hx hI
  obtain ⟨d0, d1, rfl⟩ := len2 hx
  obtain ⟨i, hi, hle, hd⟩ := hI
  simp only [List.getD_cons_zero, List.getD_cons_succ, List.cons_append, List.nil_append] at hi hd ⊢
  subst hi hd
  refine ⟨fun h0 => ?_, fun h0 => ?_⟩
  · have : i = 0 := by omega
    subst this
    rfl
  obtain ⟨k, rfl⟩ : ∃ k, i = k + 1 := ⟨i - 1, by omega⟩
  have hw : IntKind.i64.wrap (((k + 1 : Nat) : Int) - 1) = (k : Int) := by rw [wrap64 (by omega) (by omega)]; omega
  have hco : ∀ x j, (dec x).getD j 0 = co x j := fun _ _ => rfl
  rw [hw]
  simp only [dec_cod, hco, Int.toNat_natCast, show Int.toNat 0 = 0 from rfl, show Int.toNat 1 = 1 from rfl, show Int.toNat 2 = 2 from rfl, show Int.toNat 3 = 3 from rfl, show Int.toNat 4 = 4 from rfl, show Int.toNat 5 = 5 from rfl, show Int.toNat 6 = 6 from rfl, show Int.toNat 7 = 7 from rfl, show Int.toNat 8 = 8 from rfl]
  generalize hc : t.length - (k + 1) = c
  have hk : t.length - 1 - c = k := by omega
  have hRl := rf_len l t c
  have hco6 := rf_co l t k c
  have hok := rf_ok hS hbok c (by omega)
  have hnext : t.length - k = c + 1 := by omega
  have hstep : rfRun l t (c + 1) = (rfRun l t c).set k (cod (rfBox l (rfRun l t c) ((rfRun l t c).getD k 0) ++ [co ((rfRun l t c).getD k 0) 6, co ((rfRun l t c).getD k 0) 7, co ((rfRun l t c).getD k 0) 8])) := by
    rw [rf_succ, rfStep, hk]
  have hsk := hS k (by omega)
  rw [← hco6.1, ← hco6.2.1, ← hco6.2.2] at hsk
  generalize hR : rfRun l t c = R at *
  generalize hbb : R.getD k 0 = bb at *
  refine ⟨fun hlf => ?_, fun hnd => ?_⟩
  · have hlf' := hsk.resolve_right (by omega)
    refine ⟨hlf'.2.2.1, hlf'.2.2.2, by omega, by omega, ⟨k, rfl, by omega, ?_⟩, by omega⟩
    rw [hnext, hstep]
    unfold rfBox
    rw [if_pos hlf]
    rfl
  · have hnd' := hsk.resolve_left (by omega)
    have ha := hok (co bb 6).toNat (by omega) (by omega)
    have hb := hok (co bb 7).toNat (by omega) (by omega)
    refine ⟨by omega, by omega, by omega, zz12 ha hb, ?_⟩
    rw [join_ok ha hb]
    refine ⟨by omega, by omega, ⟨k, rfl, by omega, ?_⟩, by omega⟩
    rw [hnext, hstep]
    unfold rfBox
    rw [if_neg (by omega)]
    rfl)
theorem inf_refit : InfOK s_refit i_refit := ⟨fun xs h => (small_not xs h).elim, fun vs xs h hp => vsOK_cons trivial (vsOK_cons (refitE_iv _ _) vsOK_nil)⟩
#print axioms ok_refit
end Go.Proofs.Ytgcoidbaoigkeaa.fix
set_option linter.unusedVariables false
set_option linter.unusedSimpArgs false
namespace Go.Proofs.Ytgcoidbaoigkeaa.fix
open Go.RowKit Go.Sx

theorem oneA {s : Sum} (h : s.okA Try.prog) : Gok Try.prog [s] := by
  intro x hx
  simp only [List.mem_singleton] at hx
  subst hx
  exact h
theorem moreA {s : Sum} {G : List Sum} (h : s.okA Try.prog) (hG : Gok Try.prog G) : Gok Try.prog (s :: G) := by
  intro x hx
  rcases List.mem_cons.1 hx with rfl | hx
  · exact h
  · exact hG x hx
theorem sameB_no {a b : List Int} {i : Nat} (hi : i < a.length) (h : nine (a.getD i 0) ≠ nine (b.getD i 0)) : sameB a b = false := by
  unfold sameB
  rw [Bool.and_eq_false_iff]
  refine .inr ?_
  rw [List.all_eq_false]
  exact ⟨i, by simpa using hi, by simpa using h⟩
theorem sameB_yes {a b : List Int} (hl : a.length = b.length) (h : ∀ i, i < a.length → nine (a.getD i 0) = nine (b.getD i 0)) : sameB a b = true := by
  unfold sameB
  rw [Bool.and_eq_true]
  refine ⟨decide_eq_true hl, List.all_eq_true.2 fun i hi => ?_⟩
  simp only [List.mem_range] at hi
  exact decide_eq_true (h i hi)
theorem nine_iff {a b : Int} : nine a = nine b ↔ (co a 0 = co b 0 ∧ co a 1 = co b 1 ∧ co a 2 = co b 2 ∧ co a 3 = co b 3 ∧ co a 4 = co b 4 ∧ co a 5 = co b 5 ∧ co a 6 = co b 6 ∧ co a 7 = co b 7 ∧ co a 8 = co b 8) := by
  unfold nine
  simp only [List.cons.injEq, and_true]

noncomputable def G_tcheck : List Sum := [s_refit]
def I_tcheck : List Inf := [i_refit]
def t_tcheck : TX := (.call 0 [(.v 0), (.v 1)] (.ite (.not (.eq (.v 3) (.c 0))) (.ret [(.v 3)])
(.ite (.not (.eq (.ln (.v 2)) (.ln (.v 0)))) (.ret [(.c 8)])
(.loop 2 [none, none] [(.c 0), (.c 0)] (.ite (.le (.ln (.v 2)) (.v 5)) (.ret [(.c 0)])
(.asrt (.le (.c 0) (.v 5)) (.asrt (.lt (.v 5) (.ln (.v 0))) (.ite (.or (.or (.or (.not (.eq (.l2 .at (.l2 .at (.v 2) (.v 5)) (.c 0)) (.l2 .at (.l2 .at (.v 0) (.v 5)) (.c 0)))) (.or (.not (.eq (.l2 .at (.l2 .at (.v 2) (.v 5)) (.c 1)) (.l2 .at (.l2 .at (.v 0) (.v 5)) (.c 1)))) (.not (.eq (.l2 .at (.l2 .at (.v 2) (.v 5)) (.c 2)) (.l2 .at (.l2 .at (.v 0) (.v 5)) (.c 2)))))) (.or (.not (.eq (.l2 .at (.l2 .at (.v 2) (.v 5)) (.c 3)) (.l2 .at (.l2 .at (.v 0) (.v 5)) (.c 3)))) (.or (.not (.eq (.l2 .at (.l2 .at (.v 2) (.v 5)) (.c 4)) (.l2 .at (.l2 .at (.v 0) (.v 5)) (.c 4)))) (.not (.eq (.l2 .at (.l2 .at (.v 2) (.v 5)) (.c 5)) (.l2 .at (.l2 .at (.v 0) (.v 5)) (.c 5))))))) (.or (.not (.eq (.l2 .at (.l2 .at (.v 2) (.v 5)) (.c 6)) (.l2 .at (.l2 .at (.v 0) (.v 5)) (.c 6)))) (.or (.not (.eq (.l2 .at (.l2 .at (.v 2) (.v 5)) (.c 7)) (.l2 .at (.l2 .at (.v 0) (.v 5)) (.c 7)))) (.not (.eq (.l2 .at (.l2 .at (.v 2) (.v 5)) (.c 8)) (.l2 .at (.l2 .at (.v 0) (.v 5)) (.c 8))))))) (.ret [(.c 8)])
(.back 0 [(.v 4), (.wr .i64 (.add (.v 5) (.c 1)))])))))))))
theorem tree_tcheck : merge (optFL [] I_tcheck [] pin_tcheck (symFnL Try.prog (openAt Try.prog [(4, 14)]) gl0 G_tcheck 1000 20 [Tr, Bs] [I1])) = t_tcheck := by kernel_rfl
theorem g_tcheck : Gok Try.prog G_tcheck := (fix.one ok_refit)
theorem o_tcheck : outsOK G_tcheck I_tcheck := (outsOK_cons inf_refit outsOK_nil)
theorem ok_tcheck : s_tcheck.ok Try.prog := Sum.okPF (pin := pin_tcheck) facts.mixed g_tcheck o_tcheck tree_tcheck rfl (fun _ => rfl) (fun xs h => h.1) (by
  intro xs hx hp
  obtain ⟨a, b, rfl⟩ := len2 hx
  have hpre : pre_refit [a, b] := hp
  have hlen := hp.2.1
  clear hp
  simp only [List.getD_cons_zero, List.getD_cons_succ] at hlen
  simp only [t_tcheck, G_tcheck, s_refit, TX.sat, XB.prop, X.den, List.map_cons, List.map_nil, List.getElem?_cons_zero, List.getElem?_cons_succ, List.cons_append, List.nil_append, List.getD_cons_zero, List.getD_cons_succ, mkS, mkP, and_true, true_and, Int.not_lt, Int.not_le, not_or, not_and, Classical.not_not, ne_eq, not_true_eq_false, not_false_eq_true, sem_refit, sem_tcheck, L2.den]
  refine ⟨hpre, ?_⟩
  clear hpre
  generalize dec a = t at hlen ⊢
  generalize dec b = l at hlen ⊢
  refine ⟨fun hE => ?_, fun hE => ?_⟩
  · have : chkE t l = refitE t l := by unfold chkE; rw [if_neg hE]
    rw [this]
  have hE' : refitE t l = 0 := hE
  rw [if_pos hE', dec_cod]
  have hC : chkE t l = if sameB (refitL l t) t = true then 0 else 8 := by unfold chkE; rw [if_pos hE']
  rw [hC]
  have hRl : (refitL l t).length = t.length := rf_len l t t.length
  generalize refitL l t = R at hRl ⊢
  refine ⟨fun h => absurd (by rw [hRl]) h, fun _ => ?_⟩
  refine ⟨fun xs => ∃ i : Nat, xs.getD 1 0 = (i : Int) ∧ i ≤ t.length ∧ ∀ j, j < i → nine (R.getD j 0) = nine (t.getD j 0), fun xs => t.length - (xs.getD 1 0).toNat, fun xs hx _ => vs_none (n := 2) hx, ⟨0, rfl, by omega, fun j hj => by omega⟩, ?_⟩
  intro xs hx hI
  obtain ⟨d0, d1, rfl⟩ := len2 hx
  obtain ⟨i, hi, hle, hall⟩ := hI
  simp only [List.getD_cons_zero, List.getD_cons_succ, List.cons_append, List.nil_append] at hi ⊢
  subst hi
  have hco : ∀ x j, (dec x).getD j 0 = co x j := fun _ _ => rfl
  simp only [hco, Int.toNat_natCast, show Int.toNat 0 = 0 from rfl, show Int.toNat 1 = 1 from rfl, show Int.toNat 2 = 2 from rfl, show Int.toNat 3 = 3 from rfl, show Int.toNat 4 = 4 from rfl, show Int.toNat 5 = 5 from rfl, show Int.toNat 6 = 6 from rfl, show Int.toNat 7 = 7 from rfl, show Int.toNat 8 = 8 from rfl]
  refine ⟨fun hge => ?_, fun hlt => ?_⟩
  · rw [if_pos (sameB_yes hRl fun j hj => hall j (by omega))]
  · have hil : i < R.length := by omega
    refine ⟨by omega, by omega, fun hne => ?_, fun heq => ?_⟩
    · rw [sameB_no hil (fun h => by rw [nine_iff] at h; omega)]
      rfl
    · have hw : IntKind.i64.wrap ((i : Int) + 1) = ((i + 1 : Nat) : Int) := by rw [wrap64 (by omega) (by omega)]; omega
      rw [hw]
      refine ⟨⟨i + 1, rfl, by omega, fun j hj => ?_⟩, by rw [Int.toNat_natCast]; omega⟩
      rcases Nat.lt_or_ge j i with h1 | h1
      · exact hall j h1
      · have : j = i := by omega
        subst this
        rw [nine_iff]
        omega)
theorem chkE_iv (t l : List Int) : 0 ≤ chkE t l ∧ chkE t l ≤ 8 := by
  unfold chkE
  split
  · split <;> decide
  · exact refitE_iv t l
theorem inf_tcheck : InfOK s_tcheck i_tcheck := ⟨fun xs h => (small_not xs h).elim, fun vs xs h hp => vsOK_cons (chkE_iv _ _) vsOK_nil⟩
#print axioms ok_tcheck
end Go.Proofs.Ytgcoidbaoigkeaa.fix
