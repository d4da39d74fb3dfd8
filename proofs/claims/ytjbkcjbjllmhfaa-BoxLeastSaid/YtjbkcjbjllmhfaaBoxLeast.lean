/-
  The law BoxLeast is answered with true, whatever its arguments, which stay as they were.
-/
import Derived.Test.YtjbkcjbjllmhfaaRows
import Derived.Test.YtjbkcjbjllmhfaaZFacts
import Derived.Test.YtjbkcjbjllmhfaaZLists
set_option linter.unusedVariables false
set_option linter.unusedSimpArgs false
namespace Go.Proofs.Ytjbkcjbjllmhfaa.boxLeast
open Go.RowKit Go.ChangeShapes Go.WideShapes Go.ChangeAt Go.Sx fix

noncomputable def G_BoxLeast : List Sum := [s_alive03, s_bof, s_holds, s_inside, s_bjoin]
def I_BoxLeast : List Inf := [i_alive03, i_bof, i_holds, i_inside, i_bjoin]
def t_BoxLeast : TX := (.callp 0 [] (.ite (.lt (.c 1000) (.ln (.v 0))) (.ret [(.c 1)])
(.callp 1 [(.v 0)] (.loop 3 [none, none, none] [(.c 0), (.c 1), (.c 0)] (.ite (.lt (.v 26) (.ln (.v 0))) (.ite (.eq (.v 23) (.c 0)) (.asrt (.le (.c 0) (.v 26)) (.call 2 [(.v 17), (.v 18), (.v 19), (.v 20), (.v 21), (.v 22), (.l2 .at (.l2 .at (.v 0) (.v 26)) (.c 0)), (.l2 .at (.l2 .at (.v 0) (.v 26)) (.c 1)), (.l2 .at (.l2 .at (.v 0) (.v 26)) (.c 2))] (.ite (.eq (.v 27) (.c 0)) (.ret [(.c 0)])
(.ite (.nz (.v 25)) (.call 2 [(.v 1), (.v 2), (.v 3), (.v 4), (.v 5), (.v 6), (.l2 .at (.l2 .at (.v 0) (.v 26)) (.c 0)), (.l2 .at (.l2 .at (.v 0) (.v 26)) (.c 1)), (.l2 .at (.l2 .at (.v 0) (.v 26)) (.c 2))] (.back 0 [(.v 24), (.v 28), (.wr .i64 (.add (.v 26) (.c 1)))]))
(.back 0 [(.v 24), (.c 0), (.wr .i64 (.add (.v 26) (.c 1)))])))))
(.ite (.nz (.v 25)) (.asrt (.le (.c 0) (.v 26)) (.call 2 [(.v 1), (.v 2), (.v 3), (.v 4), (.v 5), (.v 6), (.l2 .at (.l2 .at (.v 0) (.v 26)) (.c 0)), (.l2 .at (.l2 .at (.v 0) (.v 26)) (.c 1)), (.l2 .at (.l2 .at (.v 0) (.v 26)) (.c 2))] (.back 0 [(.v 24), (.v 27), (.wr .i64 (.add (.v 26) (.c 1)))])))
(.back 0 [(.v 24), (.c 0), (.wr .i64 (.add (.v 26) (.c 1)))])))
(.ite (.eq (.v 23) (.c 0)) (.ite (.nz (.v 25)) (.callp 3 [(.v 17), (.v 18), (.v 19), (.v 20), (.v 21), (.v 22), (.v 1), (.v 2), (.v 3), (.v 4), (.v 5), (.v 6)] (.ite (.eq (.v 27) (.c 0)) (.ret [(.c 0)])
(.callp 4 [(.v 1), (.v 2), (.v 3), (.v 4), (.v 5), (.v 6), (.v 7), (.v 8), (.v 9), (.v 10), (.v 11), (.v 12)] (.ite (.not (.eq (.v 34) (.c 0))) (.ite (.and (.and (.eq (.v 28) (.c 0)) (.and (.eq (.v 29) (.c 0)) (.eq (.v 30) (.c 0)))) (.and (.eq (.v 31) (.c 0)) (.and (.eq (.v 32) (.c 0)) (.eq (.v 33) (.c 0))))) (.ret [(.c 1)])
(.ret [(.c 0)]))
(.callp 2 [(.v 1), (.v 2), (.v 3), (.v 4), (.v 5), (.v 6), (.v 13), (.v 14), (.v 15)] (.ite (.nz (.v 35)) (.callp 2 [(.v 28), (.v 29), (.v 30), (.v 31), (.v 32), (.v 33), (.v 13), (.v 14), (.v 15)] (.ite (.eq (.v 36) (.c 0)) (.ret [(.c 0)])
(.callp 3 [(.v 1), (.v 2), (.v 3), (.v 4), (.v 5), (.v 6), (.v 28), (.v 29), (.v 30), (.v 31), (.v 32), (.v 33)] (.ite (.eq (.v 37) (.c 0)) (.ret [(.c 0)])
(.callp 3 [(.v 7), (.v 8), (.v 9), (.v 10), (.v 11), (.v 12), (.v 28), (.v 29), (.v 30), (.v 31), (.v 32), (.v 33)] (.ite (.eq (.v 38) (.c 0)) (.ret [(.c 0)])
(.callp 3 [(.v 1), (.v 2), (.v 3), (.v 4), (.v 5), (.v 6), (.v 17), (.v 18), (.v 19), (.v 20), (.v 21), (.v 22)] (.ite (.eq (.v 39) (.c 0)) (.ret [(.c 1)])
(.callp 3 [(.v 7), (.v 8), (.v 9), (.v 10), (.v 11), (.v 12), (.v 17), (.v 18), (.v 19), (.v 20), (.v 21), (.v 22)] (.ite (.eq (.v 40) (.c 0)) (.ret [(.c 1)])
(.callp 3 [(.v 28), (.v 29), (.v 30), (.v 31), (.v 32), (.v 33), (.v 17), (.v 18), (.v 19), (.v 20), (.v 21), (.v 22)] (.ite (.nz (.v 41)) (.ret [(.c 1)])
(.ret [(.c 0)])))))))))))))
(.callp 2 [(.v 7), (.v 8), (.v 9), (.v 10), (.v 11), (.v 12), (.v 13), (.v 14), (.v 15)] (.ite (.nz (.v 36)) (.callp 2 [(.v 28), (.v 29), (.v 30), (.v 31), (.v 32), (.v 33), (.v 13), (.v 14), (.v 15)] (.ite (.eq (.v 37) (.c 0)) (.ret [(.c 0)])
(.callp 3 [(.v 1), (.v 2), (.v 3), (.v 4), (.v 5), (.v 6), (.v 28), (.v 29), (.v 30), (.v 31), (.v 32), (.v 33)] (.ite (.eq (.v 38) (.c 0)) (.ret [(.c 0)])
(.callp 3 [(.v 7), (.v 8), (.v 9), (.v 10), (.v 11), (.v 12), (.v 28), (.v 29), (.v 30), (.v 31), (.v 32), (.v 33)] (.ite (.eq (.v 39) (.c 0)) (.ret [(.c 0)])
(.callp 3 [(.v 1), (.v 2), (.v 3), (.v 4), (.v 5), (.v 6), (.v 17), (.v 18), (.v 19), (.v 20), (.v 21), (.v 22)] (.ite (.eq (.v 40) (.c 0)) (.ret [(.c 1)])
(.callp 3 [(.v 7), (.v 8), (.v 9), (.v 10), (.v 11), (.v 12), (.v 17), (.v 18), (.v 19), (.v 20), (.v 21), (.v 22)] (.ite (.eq (.v 41) (.c 0)) (.ret [(.c 1)])
(.callp 3 [(.v 28), (.v 29), (.v 30), (.v 31), (.v 32), (.v 33), (.v 17), (.v 18), (.v 19), (.v 20), (.v 21), (.v 22)] (.ite (.nz (.v 42)) (.ret [(.c 1)])
(.ret [(.c 0)])))))))))))))
(.callp 3 [(.v 1), (.v 2), (.v 3), (.v 4), (.v 5), (.v 6), (.v 28), (.v 29), (.v 30), (.v 31), (.v 32), (.v 33)] (.ite (.eq (.v 37) (.c 0)) (.ret [(.c 0)])
(.callp 3 [(.v 7), (.v 8), (.v 9), (.v 10), (.v 11), (.v 12), (.v 28), (.v 29), (.v 30), (.v 31), (.v 32), (.v 33)] (.ite (.eq (.v 38) (.c 0)) (.ret [(.c 0)])
(.callp 3 [(.v 1), (.v 2), (.v 3), (.v 4), (.v 5), (.v 6), (.v 17), (.v 18), (.v 19), (.v 20), (.v 21), (.v 22)] (.ite (.eq (.v 39) (.c 0)) (.ret [(.c 1)])
(.callp 3 [(.v 7), (.v 8), (.v 9), (.v 10), (.v 11), (.v 12), (.v 17), (.v 18), (.v 19), (.v 20), (.v 21), (.v 22)] (.ite (.eq (.v 40) (.c 0)) (.ret [(.c 1)])
(.callp 3 [(.v 28), (.v 29), (.v 30), (.v 31), (.v 32), (.v 33), (.v 17), (.v 18), (.v 19), (.v 20), (.v 21), (.v 22)] (.ite (.nz (.v 41)) (.ret [(.c 1)])
(.ret [(.c 0)])))))))))))))))))))
(.callp 4 [(.v 1), (.v 2), (.v 3), (.v 4), (.v 5), (.v 6), (.v 7), (.v 8), (.v 9), (.v 10), (.v 11), (.v 12)] (.ite (.not (.eq (.v 33) (.c 0))) (.ite (.and (.and (.eq (.v 27) (.c 0)) (.and (.eq (.v 28) (.c 0)) (.eq (.v 29) (.c 0)))) (.and (.eq (.v 30) (.c 0)) (.and (.eq (.v 31) (.c 0)) (.eq (.v 32) (.c 0))))) (.ret [(.c 1)])
(.ret [(.c 0)]))
(.callp 2 [(.v 1), (.v 2), (.v 3), (.v 4), (.v 5), (.v 6), (.v 13), (.v 14), (.v 15)] (.ite (.nz (.v 34)) (.callp 2 [(.v 27), (.v 28), (.v 29), (.v 30), (.v 31), (.v 32), (.v 13), (.v 14), (.v 15)] (.ite (.eq (.v 35) (.c 0)) (.ret [(.c 0)])
(.callp 3 [(.v 1), (.v 2), (.v 3), (.v 4), (.v 5), (.v 6), (.v 27), (.v 28), (.v 29), (.v 30), (.v 31), (.v 32)] (.ite (.eq (.v 36) (.c 0)) (.ret [(.c 0)])
(.callp 3 [(.v 7), (.v 8), (.v 9), (.v 10), (.v 11), (.v 12), (.v 27), (.v 28), (.v 29), (.v 30), (.v 31), (.v 32)] (.ite (.eq (.v 37) (.c 0)) (.ret [(.c 0)])
(.callp 3 [(.v 1), (.v 2), (.v 3), (.v 4), (.v 5), (.v 6), (.v 17), (.v 18), (.v 19), (.v 20), (.v 21), (.v 22)] (.ite (.eq (.v 38) (.c 0)) (.ret [(.c 1)])
(.callp 3 [(.v 7), (.v 8), (.v 9), (.v 10), (.v 11), (.v 12), (.v 17), (.v 18), (.v 19), (.v 20), (.v 21), (.v 22)] (.ite (.eq (.v 39) (.c 0)) (.ret [(.c 1)])
(.callp 3 [(.v 27), (.v 28), (.v 29), (.v 30), (.v 31), (.v 32), (.v 17), (.v 18), (.v 19), (.v 20), (.v 21), (.v 22)] (.ite (.nz (.v 40)) (.ret [(.c 1)])
(.ret [(.c 0)])))))))))))))
(.callp 2 [(.v 7), (.v 8), (.v 9), (.v 10), (.v 11), (.v 12), (.v 13), (.v 14), (.v 15)] (.ite (.nz (.v 35)) (.callp 2 [(.v 27), (.v 28), (.v 29), (.v 30), (.v 31), (.v 32), (.v 13), (.v 14), (.v 15)] (.ite (.eq (.v 36) (.c 0)) (.ret [(.c 0)])
(.callp 3 [(.v 1), (.v 2), (.v 3), (.v 4), (.v 5), (.v 6), (.v 27), (.v 28), (.v 29), (.v 30), (.v 31), (.v 32)] (.ite (.eq (.v 37) (.c 0)) (.ret [(.c 0)])
(.callp 3 [(.v 7), (.v 8), (.v 9), (.v 10), (.v 11), (.v 12), (.v 27), (.v 28), (.v 29), (.v 30), (.v 31), (.v 32)] (.ite (.eq (.v 38) (.c 0)) (.ret [(.c 0)])
(.callp 3 [(.v 1), (.v 2), (.v 3), (.v 4), (.v 5), (.v 6), (.v 17), (.v 18), (.v 19), (.v 20), (.v 21), (.v 22)] (.ite (.eq (.v 39) (.c 0)) (.ret [(.c 1)])
(.callp 3 [(.v 7), (.v 8), (.v 9), (.v 10), (.v 11), (.v 12), (.v 17), (.v 18), (.v 19), (.v 20), (.v 21), (.v 22)] (.ite (.eq (.v 40) (.c 0)) (.ret [(.c 1)])
(.callp 3 [(.v 27), (.v 28), (.v 29), (.v 30), (.v 31), (.v 32), (.v 17), (.v 18), (.v 19), (.v 20), (.v 21), (.v 22)] (.ite (.nz (.v 41)) (.ret [(.c 1)])
(.ret [(.c 0)])))))))))))))
(.callp 3 [(.v 1), (.v 2), (.v 3), (.v 4), (.v 5), (.v 6), (.v 27), (.v 28), (.v 29), (.v 30), (.v 31), (.v 32)] (.ite (.eq (.v 36) (.c 0)) (.ret [(.c 0)])
(.callp 3 [(.v 7), (.v 8), (.v 9), (.v 10), (.v 11), (.v 12), (.v 27), (.v 28), (.v 29), (.v 30), (.v 31), (.v 32)] (.ite (.eq (.v 37) (.c 0)) (.ret [(.c 0)])
(.callp 3 [(.v 1), (.v 2), (.v 3), (.v 4), (.v 5), (.v 6), (.v 17), (.v 18), (.v 19), (.v 20), (.v 21), (.v 22)] (.ite (.eq (.v 38) (.c 0)) (.ret [(.c 1)])
(.callp 3 [(.v 7), (.v 8), (.v 9), (.v 10), (.v 11), (.v 12), (.v 17), (.v 18), (.v 19), (.v 20), (.v 21), (.v 22)] (.ite (.eq (.v 39) (.c 0)) (.ret [(.c 1)])
(.callp 3 [(.v 27), (.v 28), (.v 29), (.v 30), (.v 31), (.v 32), (.v 17), (.v 18), (.v 19), (.v 20), (.v 21), (.v 22)] (.ite (.nz (.v 40)) (.ret [(.c 1)])
(.ret [(.c 0)]))))))))))))))))))
(.callp 4 [(.v 1), (.v 2), (.v 3), (.v 4), (.v 5), (.v 6), (.v 7), (.v 8), (.v 9), (.v 10), (.v 11), (.v 12)] (.ite (.not (.eq (.v 33) (.c 0))) (.ite (.and (.and (.eq (.v 27) (.c 0)) (.and (.eq (.v 28) (.c 0)) (.eq (.v 29) (.c 0)))) (.and (.eq (.v 30) (.c 0)) (.and (.eq (.v 31) (.c 0)) (.eq (.v 32) (.c 0))))) (.ret [(.c 1)])
(.ret [(.c 0)]))
(.callp 2 [(.v 1), (.v 2), (.v 3), (.v 4), (.v 5), (.v 6), (.v 13), (.v 14), (.v 15)] (.ite (.nz (.v 34)) (.callp 2 [(.v 27), (.v 28), (.v 29), (.v 30), (.v 31), (.v 32), (.v 13), (.v 14), (.v 15)] (.ite (.eq (.v 35) (.c 0)) (.ret [(.c 0)])
(.callp 3 [(.v 1), (.v 2), (.v 3), (.v 4), (.v 5), (.v 6), (.v 27), (.v 28), (.v 29), (.v 30), (.v 31), (.v 32)] (.ite (.eq (.v 36) (.c 0)) (.ret [(.c 0)])
(.callp 3 [(.v 7), (.v 8), (.v 9), (.v 10), (.v 11), (.v 12), (.v 27), (.v 28), (.v 29), (.v 30), (.v 31), (.v 32)] (.ite (.eq (.v 37) (.c 0)) (.ret [(.c 0)])
(.ret [(.c 1)])))))))
(.callp 2 [(.v 7), (.v 8), (.v 9), (.v 10), (.v 11), (.v 12), (.v 13), (.v 14), (.v 15)] (.ite (.nz (.v 35)) (.callp 2 [(.v 27), (.v 28), (.v 29), (.v 30), (.v 31), (.v 32), (.v 13), (.v 14), (.v 15)] (.ite (.eq (.v 36) (.c 0)) (.ret [(.c 0)])
(.callp 3 [(.v 1), (.v 2), (.v 3), (.v 4), (.v 5), (.v 6), (.v 27), (.v 28), (.v 29), (.v 30), (.v 31), (.v 32)] (.ite (.eq (.v 37) (.c 0)) (.ret [(.c 0)])
(.callp 3 [(.v 7), (.v 8), (.v 9), (.v 10), (.v 11), (.v 12), (.v 27), (.v 28), (.v 29), (.v 30), (.v 31), (.v 32)] (.ite (.eq (.v 38) (.c 0)) (.ret [(.c 0)])
(.ret [(.c 1)])))))))
(.callp 3 [(.v 1), (.v 2), (.v 3), (.v 4), (.v 5), (.v 6), (.v 27), (.v 28), (.v 29), (.v 30), (.v 31), (.v 32)] (.ite (.eq (.v 36) (.c 0)) (.ret [(.c 0)])
(.callp 3 [(.v 7), (.v 8), (.v 9), (.v 10), (.v 11), (.v 12), (.v 27), (.v 28), (.v 29), (.v 30), (.v 31), (.v 32)] (.ite (.eq (.v 37) (.c 0)) (.ret [(.c 0)])
(.ret [(.c 1)])))))))))))))))))
theorem tree_BoxLeast : merge (optFL [] I_BoxLeast [] ([none] ++ zs 15) (symFnL Try.prog (openAt Try.prog [(9, 28)]) gl0 G_BoxLeast 1000 5 [Vs, An 6, An 6, An 3] [Bo])) = t_BoxLeast := by kernel_rfl
theorem g_BoxLeast : Gok Try.prog G_BoxLeast := (more ok_alive03 (more ok_bof (more ok_holds (more ok_inside (one ok_bjoin)))))
theorem o_BoxLeast : outsOK G_BoxLeast I_BoxLeast := (outsOK_cons inf_alive03 (outsOK_cons inf_bof (outsOK_cons inf_holds (outsOK_cons inf_inside (outsOK_cons inf_bjoin outsOK_nil)))))
theorem range_nil : rangeOK [] [] := trivial
def Vs_ks : List K := [.i .i64, .i .i64, .i .i64]

theorem three {xs : List Int} (h : rangeOK Vs_ks xs) : ∃ a b c, xs = [a, b, c] ∧ ivHas zz a ∧ ivHas zz b ∧ ivHas zz c := by
  have h1 := range_vs h
  match xs, h1.1 with
  | [a, b, c], _ => exact ⟨a, b, c, rfl, h1.2 0, h1.2 1, h1.2 2⟩

/-- All of the first are in the box. -/
noncomputable def allB (b l : List Int) (i : Nat) : Bool := (l.take i).all fun x => holdsB (b ++ [co x 0, co x 1, co x 2])

theorem allB_succ {b l : List Int} {i : Nat} (h : i < l.length) : allB b l (i + 1) = (allB b l i && holdsB (b ++ [co (l.getD i 0) 0, co (l.getD i 0) 1, co (l.getD i 0) 2])) := by
  unfold allB
  rw [List.take_succ_eq_append_getElem h]
  rw [show l.getD i 0 = l[i] by simp [List.getD, h]]
  rw [List.all_append, List.all_cons, List.all_nil, Bool.and_true]

/-- What a box of points leaves in it. -/
def inB (b : List Int) (x : Int) : Prop := (b.getD 0 0 ≤ co x 0 ∧ b.getD 1 0 ≤ co x 1 ∧ b.getD 2 0 ≤ co x 2) ∧ (co x 0 ≤ b.getD 3 0 ∧ co x 1 ≤ b.getD 4 0 ∧ co x 2 ≤ b.getD 5 0)

theorem holds_inB {b0 b1 b2 b3 b4 b5 x : Int} : holdsB [b0, b1, b2, b3, b4, b5, co x 0, co x 1, co x 2] = true ↔ inB [b0, b1, b2, b3, b4, b5] x := by
  simp only [holdsB, inB, List.getD_cons_zero, List.getD_cons_succ, decide_eq_true_eq]

def subB (a b : List Int) : Prop := (b.getD 0 0 ≤ a.getD 0 0 ∧ b.getD 1 0 ≤ a.getD 1 0 ∧ b.getD 2 0 ≤ a.getD 2 0) ∧ (a.getD 3 0 ≤ b.getD 3 0 ∧ a.getD 4 0 ≤ b.getD 4 0 ∧ a.getD 5 0 ≤ b.getD 5 0)

theorem inB_join {b : List Int} {x y : Int} (h : inB b x) : inB (joinV b y) x := by
  obtain ⟨⟨h0, h1, h2⟩, h3, h4, h5⟩ := h
  simp only [inB, joinV, List.getD_cons_zero, List.getD_cons_succ]
  omega
theorem inB_new {b : List Int} {y : Int} : inB (joinV b y) y := by
  simp only [inB, joinV, List.getD_cons_zero, List.getD_cons_succ]
  omega
theorem inB_fold : ∀ (l : List Int) (b : List Int) (x : Int), inB b x → inB (l.foldl joinV b) x
  | [], _, _, h => h
  | y :: l, b, x, h => inB_fold l _ x (inB_join h)
theorem inB_all : ∀ (l : List Int) (b : List Int) (x : Int), x ∈ l → inB (l.foldl joinV b) x
  | y :: l, b, x, h => by
    rcases List.mem_cons.1 h with rfl | h
    · exact inB_fold l _ _ inB_new
    · exact inB_all l _ x h
theorem inB_box (x : Int) : inB (boxV x) x := by
  simp only [inB, boxV, List.getD_cons_zero, List.getD_cons_succ]
  omega
theorem least_holds {l : List Int} {x : Int} (h : x ∈ l) : inB (leastL l) x := by
  match l, h with
  | y :: l, h =>
    rcases List.mem_cons.1 h with rfl | h
    · exact inB_fold l _ _ (inB_box _)
    · exact inB_all l _ x h

theorem sub_join {a b : List Int} {y : Int} (h : subB b a) (hy : inB a y) : subB (joinV b y) a := by
  obtain ⟨⟨h0, h1, h2⟩, h3, h4, h5⟩ := h
  obtain ⟨⟨k0, k1, k2⟩, k3, k4, k5⟩ := hy
  simp only [subB, joinV, List.getD_cons_zero, List.getD_cons_succ]
  omega
theorem sub_fold : ∀ (l : List Int) (a b : List Int), subB b a → (∀ x ∈ l, inB a x) → subB (l.foldl joinV b) a
  | [], _, _, h, _ => h
  | y :: l, a, b, h, hl => sub_fold l a _ (sub_join h (hl y (List.mem_cons_self ..))) fun x hx => hl x (List.mem_cons_of_mem _ hx)
theorem least_sub {l a : List Int} (hn : l ≠ []) (h : ∀ x ∈ l, inB a x) : subB (leastL l) a := by
  match l, hn with
  | y :: l, _ =>
    have hy := h y (List.mem_cons_self ..)
    refine sub_fold l a _ ?_ fun x hx => h x (List.mem_cons_of_mem _ hx)
    obtain ⟨⟨k0, k1, k2⟩, k3, k4, k5⟩ := hy
    simp only [subB, boxV, List.getD_cons_zero, List.getD_cons_succ]
    omega

/-- The error and the box of a list. -/
theorem of_zero {l : List Int} (h : (ofL l).getD 6 0 = 0) : l ≠ [] ∧ l.all okP = true ∧ ofL l = leastL l ++ [0] := by
  unfold ofL at h ⊢
  split at h
  · rename_i h1
    split at h
    · rename_i h2
      rw [if_pos h1, if_pos h2]
      exact ⟨by intro hh; rw [hh] at h1; simp at h1, h2, rfl⟩
    · simp at h
  · simp at h

/-- What is said of the least box. -/
theorem of_facts (l : List Int) : ∃ e0 e1 e2 e3 e4 e5 e6 : Int, ofL l = [e0, e1, e2, e3, e4, e5, e6] ∧ ((∀ j, j < 6 → ivHas zz ([e0, e1, e2, e3, e4, e5].getD j 0)) ∧ (e6 = 0 → ∀ x ∈ l, inB [e0, e1, e2, e3, e4, e5] x)) ∧ (e6 = 0 → ∀ a, (∀ x ∈ l, inB a x) → subB [e0, e1, e2, e3, e4, e5] a) := by
  obtain ⟨e0, e1, e2, e3, e4, e5, e6, he⟩ := len7 (ofL_len l)
  have hv := of_iv l
  rw [ex7_of (ofL_len l), he] at hv
  have hz := @of_zero l
  rw [he] at hz
  refine ⟨e0, e1, e2, e3, e4, e5, e6, he, ⟨fun j hj => ?_, fun h6 => ?_⟩, fun h6 => ?_⟩
  · have wide : ∀ {v : Int}, ivHas (iv (-32768) 32768) v → ivHas zz v := fun {v} h => ⟨by have := h.1; show -9223372036854775808 ≤ v; have h1 : -32768 ≤ v := h.1; omega, by have h1 : v ≤ 32768 := h.2; show v ≤ 9223372036854775807; omega⟩
    match j, hj with
    | 0, _ => exact wide (hv.2 0)
    | 1, _ => exact wide (hv.2 1)
    | 2, _ => exact wide (hv.2 2)
    | 3, _ => exact wide (hv.2 3)
    | 4, _ => exact wide (hv.2 4)
    | 5, _ => exact wide (hv.2 5)
  · obtain ⟨_, _, h3⟩ := hz h6
    rw [six (leastL_len l)] at h3
    simp only [List.cons_append, List.nil_append, List.cons.injEq, and_true] at h3
    intro x hx
    have := least_holds hx
    rw [six (leastL_len l), ← h3.1, ← h3.2.1, ← h3.2.2.1, ← h3.2.2.2.1, ← h3.2.2.2.2.1, ← h3.2.2.2.2.2.1] at this
    exact this
  · obtain ⟨h1, _, h3⟩ := hz h6
    rw [six (leastL_len l)] at h3
    simp only [List.cons_append, List.nil_append, List.cons.injEq, and_true] at h3
    intro a ha
    have := least_sub h1 ha
    rw [six (leastL_len l), ← h3.1, ← h3.2.1, ← h3.2.2.1, ← h3.2.2.2.1, ← h3.2.2.2.2.1, ← h3.2.2.2.2.2.1] at this
    exact this
/-- What is said of the box of both. -/
theorem join_facts (a0 a1 a2 a3 a4 a5 b0 b1 b2 b3 b4 b5 : Int) : ∃ j0 j1 j2 j3 j4 j5 j6 : Int, joinL [a0, a1, a2, a3, a4, a5, b0, b1, b2, b3, b4, b5] = [j0, j1, j2, j3, j4, j5, j6] ∧
    (j6 = 0 → (∀ c0 c1 c2 : Int, holdsB [a0, a1, a2, a3, a4, a5, c0, c1, c2] = true → holdsB [j0, j1, j2, j3, j4, j5, c0, c1, c2] = true) ∧ (∀ c0 c1 c2 : Int, holdsB [b0, b1, b2, b3, b4, b5, c0, c1, c2] = true → holdsB [j0, j1, j2, j3, j4, j5, c0, c1, c2] = true) ∧
      insideB [a0, a1, a2, a3, a4, a5, j0, j1, j2, j3, j4, j5] = true ∧ insideB [b0, b1, b2, b3, b4, b5, j0, j1, j2, j3, j4, j5] = true ∧
      (∀ e0 e1 e2 e3 e4 e5 : Int, insideB [a0, a1, a2, a3, a4, a5, e0, e1, e2, e3, e4, e5] = true → insideB [b0, b1, b2, b3, b4, b5, e0, e1, e2, e3, e4, e5] = true → insideB [j0, j1, j2, j3, j4, j5, e0, e1, e2, e3, e4, e5] = true)) ∧
    (¬ j6 = 0 → j0 = 0 ∧ j1 = 0 ∧ j2 = 0 ∧ j3 = 0 ∧ j4 = 0 ∧ j5 = 0) := by
  unfold joinL
  split
  · refine ⟨_, _, _, _, _, _, _, rfl, fun _ => ?_, fun h => absurd rfl h⟩
    simp only [holdsB, insideB, decide_eq_true_eq, List.getD_cons_zero, List.getD_cons_succ]
    refine ⟨fun _ _ _ _ => ?_, fun _ _ _ _ => ?_, ?_, ?_, fun _ _ _ _ _ _ _ _ => ?_⟩ <;> omega
  · exact ⟨_, _, _, _, _, _, _, rfl, fun h => absurd h (by decide), fun _ => ⟨rfl, rfl, rfl, rfl, rfl, rfl⟩⟩
theorem pins (l0 : List Int) (hr0 : ∀ x ∈ l0, rangeOK Vs_ks (elt Vs_ks x)) (xs1 : List Int) (hr1 : rangeOK (An 6).ks xs1) (xs2 : List Int) (hr2 : rangeOK (An 6).ks xs2) (xs3 : List Int) (hr3 : rangeOK (An 3).ks xs3) : vsOK ([none] ++ zs 15) ([cod l0] ++ (xs1 ++ (xs2 ++ (xs3 ++ [])))) :=
  vsOK_cons trivial (range_vs (rangeOK_app hr1 (rangeOK_app hr2 (rangeOK_app hr3 range_nil))))

set_option maxHeartbeats 4000000 in
theorem plain (l0 : List Int) (hr0 : ∀ x ∈ l0, rangeOK Vs_ks (elt Vs_ks x)) (xs1 : List Int) (hr1 : rangeOK (An 6).ks xs1) (xs2 : List Int) (hr2 : rangeOK (An 6).ks xs2) (xs3 : List Int) (hr3 : rangeOK (An 3).ks xs3) : t_BoxLeast.sat G_BoxLeast [] (fun ys => ys = [1]) [] ([cod l0] ++ (xs1 ++ (xs2 ++ (xs3 ++ [])))) := by
  obtain ⟨n1, i1⟩ := An_inv hr1
  have hra := hr1
  obtain ⟨a0, a1, a2, a3, a4, a5, rfl⟩ := len6 n1
  obtain ⟨n2, i2⟩ := An_inv hr2
  obtain ⟨b0, b1, b2, b3, b4, b5, rfl⟩ := len6 n2
  obtain ⟨n3, i3⟩ := An_inv hr3
  obtain ⟨c0, c1, c2, rfl⟩ := len3 n3
  simp only [t_BoxLeast, G_BoxLeast, s_alive03, s_bof, s_holds, s_inside, s_bjoin, TX.sat, XB.prop, X.den, List.map_cons, List.map_nil, List.getElem?_cons_zero, List.getElem?_cons_succ, List.cons_append, List.nil_append, List.getD_cons_zero, List.getD_cons_succ, mkS, mkP, and_true, true_and, Int.not_lt, Int.not_le, not_or, not_and, Classical.not_not, ne_eq, not_true_eq_false, not_false_eq_true, sem_alive03, sem_alive, sem_bof, sem_bjoin, sem_holds, sem_inside, ex7, L2.den]
  simp only [dec_cod]
  obtain ⟨e0, e1, e2, e3, e4, e5, e6, hE, hin, hsub⟩ := of_facts l0
  obtain ⟨j0, j1, j2, j3, j4, j5, j6, hJ, hj, hj'⟩ := join_facts a0 a1 a2 a3 a4 a5 b0 b1 b2 b3 b4 b5
  rw [hE, hJ]
  simp only [TX.sat, XB.prop, X.den, List.map_cons, List.map_nil, List.getElem?_cons_zero, List.getElem?_cons_succ, List.cons_append, List.nil_append, List.getD_cons_zero, List.getD_cons_succ, mkS, mkP, and_true, true_and, Int.not_lt, Int.not_le, not_or, not_and, Classical.not_not, ne_eq, not_true_eq_false, not_false_eq_true]
  clear hE hJ i1 i2 i3 n1 n2 n3 hr1 hr2 hr3
  refine ⟨fun _ => trivial, fun hlen => ⟨fun xs => ∃ i : Nat, xs.getD 2 0 = (i : Int) ∧ i ≤ l0.length ∧ xs.getD 1 0 = b01 (allB [a0, a1, a2, a3, a4, a5] l0 i), fun xs => l0.length - (xs.getD 2 0).toNat, fun xs hx _ => vs_none (n := 3) hx, ⟨0, rfl, by omega, rfl⟩, ?_⟩⟩
  intro xs hx hI
  obtain ⟨d0, d1, d2, rfl⟩ := len3 hx
  obtain ⟨i, hi, hle, ha⟩ := hI
  simp only [List.getD_cons_zero, List.getD_cons_succ, List.cons_append, List.nil_append, List.getElem?_cons_zero] at hi ha ⊢
  subst hi ha
  clear hx
  have hco : ∀ x j, (dec x).getD j 0 = co x j := fun _ _ => rfl
  simp only [Int.toNat_natCast, tn0, tn1, tn2, hco, b01_zero, Bool.not_eq_false]
  refine ⟨fun hlt => ?_, fun hge => ?_⟩
  · have hw : IntKind.i64.wrap ((i : Int) + 1) = ((i + 1 : Nat) : Int) := by rw [wrap64 (by omega) (by omega)]; omega
    have hil : i < l0.length := by omega
    have hmem : l0.getD i 0 ∈ l0 := by
      rw [show l0.getD i 0 = l0[i] by simp [List.getD, hil]]
      exact List.getElem_mem hil
    have hel := three (hr0 _ hmem)
    have hdx : elt Vs_ks (l0.getD i 0) = dec (l0.getD i 0) := rfl
    obtain ⟨p, q, r, hpq, hp, hq, hr⟩ := hel
    rw [hdx] at hpq
    have c0e : co (l0.getD i 0) 0 = p := by rw [co, hpq]; rfl
    have c1e : co (l0.getD i 0) 1 = q := by rw [co, hpq]; rfl
    have c2e : co (l0.getD i 0) 2 = r := by rw [co, hpq]; rfl
    rw [hw]
    have hnext : ∀ v : Int, v = b01 (allB [a0, a1, a2, a3, a4, a5] l0 (i + 1)) → (∃ i_1 : Nat, ((i + 1 : Nat) : Int) = ↑i_1 ∧ i_1 ≤ l0.length ∧ v = b01 (allB [a0, a1, a2, a3, a4, a5] l0 i_1)) ∧ l0.length - ((i + 1 : Nat) : Int).toNat < l0.length - i := fun v hv => ⟨⟨i + 1, rfl, by omega, hv⟩, by rw [Int.toNat_natCast]; omega⟩
    have hpa : vsOK pin_holds [a0, a1, a2, a3, a4, a5, co (l0.getD i 0) 0, co (l0.getD i 0) 1, co (l0.getD i 0) 2] := by
      rw [c0e, c1e, c2e]
      have := range_vs hra
      exact vsOK_cons (this.2 0) (vsOK_cons (this.2 1) (vsOK_cons (this.2 2) (vsOK_cons (this.2 3) (vsOK_cons (this.2 4) (vsOK_cons (this.2 5) (vsOK_cons hp (vsOK_cons hq (vsOK_cons hr vsOK_nil))))))))
    have hpe : vsOK pin_holds [e0, e1, e2, e3, e4, e5, co (l0.getD i 0) 0, co (l0.getD i 0) 1, co (l0.getD i 0) 2] := by
      rw [c0e, c1e, c2e]
      exact vsOK_cons (hin.1 0 (by omega)) (vsOK_cons (hin.1 1 (by omega)) (vsOK_cons (hin.1 2 (by omega)) (vsOK_cons (hin.1 3 (by omega)) (vsOK_cons (hin.1 4 (by omega)) (vsOK_cons (hin.1 5 (by omega)) (vsOK_cons hp (vsOK_cons hq (vsOK_cons hr vsOK_nil))))))))
    have hs := allB_succ (b := [a0, a1, a2, a3, a4, a5]) hil
    simp only [List.cons_append, List.nil_append] at hs
    have hT : allB [a0, a1, a2, a3, a4, a5] l0 i = true → b01 (holdsB [a0, a1, a2, a3, a4, a5, co (l0.getD i 0) 0, co (l0.getD i 0) 1, co (l0.getD i 0) 2]) = b01 (allB [a0, a1, a2, a3, a4, a5] l0 (i + 1)) := fun h => by rw [hs, h, Bool.true_and]
    have hF : allB [a0, a1, a2, a3, a4, a5] l0 i = false → 0 = b01 (allB [a0, a1, a2, a3, a4, a5] l0 (i + 1)) := fun h => by rw [hs, h, Bool.false_and]; rfl
    refine ⟨fun h6 => ⟨by omega, hpe, fun hn => ?_, fun _ => ⟨fun h => ⟨hpa, hnext _ (hT h)⟩, fun h => hnext _ (hF h)⟩⟩, fun h6 => ⟨fun h => ⟨by omega, hpa, hnext _ (hT h)⟩, fun h => hnext _ (hF h)⟩⟩
    have := holds_inB.2 (hin.2 h6 _ hmem)
    rw [this] at hn
    cases hn
  · have hil : i = l0.length := by omega
    subst hil
    have hS : e6 = 0 → allB [a0, a1, a2, a3, a4, a5] l0 l0.length = true → insideB [e0, e1, e2, e3, e4, e5, a0, a1, a2, a3, a4, a5] = true := by
      intro h6 hall
      unfold allB at hall
      rw [List.take_length, List.all_eq_true] at hall
      have := hsub h6 [a0, a1, a2, a3, a4, a5] fun x hx => holds_inB.1 (hall x hx)
      simpa only [subB, insideB, decide_eq_true_eq, List.getD_cons_zero, List.getD_cons_succ] using this
    generalize allB [a0, a1, a2, a3, a4, a5] l0 l0.length = al at hS ⊢
    by_cases h6 : e6 = 0
    · replace hS := hS h6
      by_cases h7 : j6 = 0
      · obtain ⟨J1, J2, J3, J4, J5⟩ := hj h7
        have J1 := J1 c0 c1 c2
        have J2 := J2 c0 c1 c2
        have J5 := J5 e0 e1 e2 e3 e4 e5
        simp only [h6, h7, J3, J4, not_true_eq_false, not_false_eq_true, false_implies, true_implies, implies_true, and_true, true_and, reduceCtorEq]
        clear hin hsub hj hj' hr0 hge hle hlen hco J3 J4
        generalize holdsB [a0, a1, a2, a3, a4, a5, c0, c1, c2] = p1 at *
        generalize holdsB [b0, b1, b2, b3, b4, b5, c0, c1, c2] = p2 at *
        generalize holdsB [j0, j1, j2, j3, j4, j5, c0, c1, c2] = p3 at *
        generalize insideB [e0, e1, e2, e3, e4, e5, a0, a1, a2, a3, a4, a5] = p4 at *
        generalize insideB [a0, a1, a2, a3, a4, a5, e0, e1, e2, e3, e4, e5] = p5 at *
        generalize insideB [b0, b1, b2, b3, b4, b5, e0, e1, e2, e3, e4, e5] = p6 at *
        generalize insideB [j0, j1, j2, j3, j4, j5, e0, e1, e2, e3, e4, e5] = p7 at *
        have tl : p5 = true → p6 = true → p7 = false → ([0] : List Int) = [1] := fun h5 h6 h7 => absurd (J5 h5 h6) (by rw [h7]; exact Bool.false_ne_true)
        have md : (p1 = true → (p3 = false → ([0] : List Int) = [1]) ∧ (p3 = true → p5 = true → p6 = true → p7 = false → ([0] : List Int) = [1])) ∧ (p1 = false → (p2 = true → (p3 = false → ([0] : List Int) = [1]) ∧ (p3 = true → p5 = true → p6 = true → p7 = false → ([0] : List Int) = [1])) ∧ (p2 = false → p5 = true → p6 = true → p7 = false → ([0] : List Int) = [1])) :=
          ⟨fun h1 => ⟨fun h3 => absurd (J1 h1) (by rw [h3]; exact Bool.false_ne_true), fun _ => tl⟩, fun _ => ⟨fun h2 => ⟨fun h3 => absurd (J2 h2) (by rw [h3]; exact Bool.false_ne_true), fun _ => tl⟩, fun _ => tl⟩⟩
        exact ⟨fun h => ⟨fun h4 => absurd (hS h) (by rw [h4]; exact Bool.false_ne_true), fun _ => md⟩, fun _ => md⟩
      · obtain ⟨rfl, rfl, rfl, rfl, rfl, rfl⟩ := hj' h7
        simp only [h6, h7, not_true_eq_false, not_false_eq_true, false_implies, true_implies, implies_true, and_true, true_and, reduceCtorEq, and_self]
        generalize insideB [e0, e1, e2, e3, e4, e5, a0, a1, a2, a3, a4, a5] = p4 at *
        clear hin hsub hj hj' hr0 hge hle hlen hco
        first | done | exact ⟨fun h => ⟨fun h4 => absurd (hS h) (by rw [h4]; exact Bool.false_ne_true), fun _ => trivial⟩, fun _ => trivial⟩ | exact fun h h4 => absurd (hS h) (by rw [h4]; exact Bool.false_ne_true)
    · by_cases h7 : j6 = 0
      · obtain ⟨J1, J2, J3, J4, J5⟩ := hj h7
        have J1 := J1 c0 c1 c2
        have J2 := J2 c0 c1 c2
        simp only [h6, h7, J3, J4, not_true_eq_false, not_false_eq_true, false_implies, true_implies, implies_true, and_true, true_and, reduceCtorEq]
        clear hin hsub hj hj' hr0 hge hle hlen hco J3 J4 hS J5
        generalize holdsB [a0, a1, a2, a3, a4, a5, c0, c1, c2] = p1 at *
        generalize holdsB [b0, b1, b2, b3, b4, b5, c0, c1, c2] = p2 at *
        generalize holdsB [j0, j1, j2, j3, j4, j5, c0, c1, c2] = p3 at *
        exact ⟨fun h1 h3 => absurd (J1 h1) (by rw [h3]; exact Bool.false_ne_true), fun _ h2 h3 => absurd (J2 h2) (by rw [h3]; exact Bool.false_ne_true)⟩
      · obtain ⟨rfl, rfl, rfl, rfl, rfl, rfl⟩ := hj' h7
        simp [h6, h7]
set_option maxRecDepth 100000 in
theorem lifted (os : Os) (started : os.Started) (H : Type) (enc : TypeId × Value → H) :
    ReturnsInHanded {} Try.checked os 5 .any (Rows.boxLeastSpec.pre6 enc Try.prog Try.f5 Rows.boxLeastRow.domain false) (Rows.boxLeastSpec.post enc Try.prog Try.f5 false true false false) := by
  refine returnsInHanded_of_change (C := Try.checked) facts.own started (by kernel_rfl) Try.func5
    (ChangeSpec.witness6 (enc := enc) (C := Try.checked) false ⟨#[], #[.slice none 0 0, .agg #[.int .i64 0, .int .i64 0, .int .i64 0, .int .i64 0, .int .i64 0, .int .i64 0], .agg #[.int .i64 0, .int .i64 0, .int .i64 0, .int .i64 0, .int .i64 0, .int .i64 0], .agg #[.int .i64 0, .int .i64 0, .int .i64 0]], []⟩ 8 (by kernel_rfl) (by kernel_rfl) (by kernel_rfl) (by kernel_rfl)) ?_
  intro W base args ds gs before hval0 hW hcnd _
  have hval : ∀ (j : Nat) t v, Try.f5.params[j]? = some t → args[j]? = some v → Value.okWide Try.prog W .any base t v := hval0
  have hW' := hW
  obtain ⟨p, q, hA0, hV, rfl, hfz, hnd⟩ := hW
  have hA : DataW.TrodAll enc Try.prog W 0 (fun _ => true) true Try.f5.params.toList args.toList ds p := hA0
  rw [Try.params5] at hA hval
  obtain ⟨v0, vs0, d0, ds0, p0, q0, hargs, rfl, rfl, h0, r0⟩ := trodAll_cons hA
  obtain ⟨v1, vs1, d1, ds1, p1, q1, rfl, rfl, rfl, h1, r1⟩ := trodAll_cons r0
  obtain ⟨v2, vs2, d2, ds2, p2, q2, rfl, rfl, rfl, h2, r2⟩ := trodAll_cons r1
  obtain ⟨v3, vs3, d3, ds3, p3, q3, rfl, rfl, rfl, h3, r3⟩ := trodAll_cons r2
  obtain ⟨rfl, rfl, rfl⟩ := trodAll_nil r3
  obtain rfl : args = #[v0, v1, v2, v3] := by cases args; simp_all
  obtain ⟨rfl, rfl⟩ := trodVars_none hV
  have k0 := h0
  have lt0 : ∀ x ∈ p0, x.block < W.heap.size := by obtain ⟨m, hm⟩ := k0; exact DataW.trod_lt m _ _ _ hm
  have k1 := h1
  have lt1 : ∀ x ∈ p1, x.block < W.heap.size := by obtain ⟨m, hm⟩ := k1; exact DataW.trod_lt m _ _ _ hm
  have k2 := h2
  have lt2 : ∀ x ∈ p2, x.block < W.heap.size := by obtain ⟨m, hm⟩ := k2; exact DataW.trod_lt m _ _ _ hm
  have k3 := h3
  have lt3 : ∀ x ∈ p3, x.block < W.heap.size := by obtain ⟨m, hm⟩ := k3; exact DataW.trod_lt m _ _ _ hm
  obtain ⟨l0, hs0, hr0⟩ := open_slT (ks := Vs_ks) Try.underlying34 (by kernel_rfl) (by kernel_rfl) (hval 0 34 v0 rfl rfl) h0
  obtain ⟨xs1, hv1, hr1⟩ := open_sh (sh := An 6) (by kernel_rfl) (by kernel_rfl) (hval 1 36 v1 rfl rfl) h1
  have hs1 : ShR (fun _ ks u n => SlOK W ks u n) (An 6) v1 xs1 := by rw [hv1]; exact ShR_mk rfl rfl (rangeOK_len hr1)
  obtain ⟨xs2, hv2, hr2⟩ := open_sh (sh := An 6) (by kernel_rfl) (by kernel_rfl) (hval 2 36 v2 rfl rfl) h2
  have hs2 : ShR (fun _ ks u n => SlOK W ks u n) (An 6) v2 xs2 := by rw [hv2]; exact ShR_mk rfl rfl (rangeOK_len hr2)
  obtain ⟨xs3, hv3, hr3⟩ := open_sh (sh := An 3) (by kernel_rfl) (by kernel_rfl) (hval 3 23 v3 rfl rfl) h3
  have hs3 : ShR (fun _ ks u n => SlOK W ks u n) (An 3) v3 xs3 := by rw [hv3]; exact ShR_mk rfl rfl (rangeOK_len hr3)
  clear hA0 hval0
  have hx : ShsR (fun _ ks u n => SlOK W ks u n) [Vs, An 6, An 6, An 3] [v0, v1, v2, v3] ([cod l0] ++ (xs1 ++ (xs2 ++ (xs3 ++ [])))) := ⟨_, _, _, _, rfl, rfl, hs0, ⟨_, _, _, _, rfl, rfl, hs1, ⟨_, _, _, _, rfl, rfl, hs2, ⟨_, _, _, _, rfl, rfl, hs3, ⟨rfl, rfl⟩⟩⟩⟩⟩
  have hcalls := lawFL facts.mixed g_BoxLeast o_BoxLeast tree_BoxLeast W hx (pins l0 hr0 xs1 hr1 xs2 hr2 xs3 hr3) (plain l0 hr0 xs1 hr1 xs2 hr2 xs3 hr3) (fun p hp => by cases hp)
  refine hcalls.mono fun e W' ⟨he, bel⟩ => ?_
  subst he
  exact ⟨_, rfl, _, _, _, [], _, [], hW', trodAll_mk1 (shut_bool Try.underlying4 _), (trodAll_cons_mk (Below.trod facts.laidOut (by kernel_rfl) (of_decide_eq_true (by kernel_rfl)) k0 bel lt0) (trodAll_cons_mk (Below.trod facts.laidOut (by kernel_rfl) (of_decide_eq_true (by kernel_rfl)) k1 bel lt1) (trodAll_cons_mk (Below.trod facts.laidOut (by kernel_rfl) (of_decide_eq_true (by kernel_rfl)) k2 bel lt2) (trodAll_cons_mk (Below.trod facts.laidOut (by kernel_rfl) (of_decide_eq_true (by kernel_rfl)) k3 bel lt3) trodAll_mk0)))), rfl, bel.frame _, fun h => by cases h⟩

theorem over : Rows.boxLeastRow.holds Try.pinned (OpenSpec.ofChange Rows.boxLeastSpec) :=
  OpenClaim.holds_of_wide 5 Try.f5 rfl rfl rfl rfl rfl rfl rfl ⟨rfl, rfl, rfl, rfl, rfl⟩ rfl rfl rfl rfl rfl (by kernel_rfl) Try.func5
    (facts.joined (by kernel_rfl) (by kernel_rfl) (by kernel_rfl) (by kernel_rfl) (by kernel_rfl) (by kernel_rfl) (by kernel_rfl) rfl rfl rfl rfl)
    (of_decide_eq_true (by kernel_rfl)) (by unfold Func.isWrapper; first | (rw [if_pos (by decide +kernel)]; kernel_rfl) | (rw [if_neg (by decide +kernel)]; exact ⟨rfl, rfl⟩))
    (fun os started H enc _ => lifted os started H enc)

/-- THE STATEMENT. -/
theorem proved : Rows.BoxLeastSaid := over
#print axioms proved

end Go.Proofs.Ytjbkcjbjllmhfaa.boxLeast
