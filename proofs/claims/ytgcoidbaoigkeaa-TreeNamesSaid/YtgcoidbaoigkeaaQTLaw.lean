/-
  Trees that are built or refitted, handed on: their numbers; what alive and holds come to.
-/
import Derived.Test.YtgcoidbaoigkeaaQTThree
set_option linter.unusedVariables false
set_option linter.unusedSimpArgs false
namespace Go.Proofs.Ytgcoidbaoigkeaa.fix
open Go.RowKit Go.Sx

theorem boxesE_all {L : List Int} (h1 : L.length ≤ 256) (h2 : L.all okBox = true) : boxesE L = 0 := by
  unfold boxesE
  rw [if_pos h1, if_pos h2]
theorem three16_ok : boxesE three16 = 0 := by
  refine boxesE_all (by simp [three16]) ?_
  unfold three16
  simp only [List.all_cons, List.all_nil, okBox, six6, co_cod, Bool.and_true]
  decide
theorem three16_range : ∀ b ∈ three16, rangeOK Bs_ks (dec b) := by
  unfold three16
  intro b hb
  simp only [List.mem_cons, List.not_mem_nil, or_false] at hb
  rcases hb with rfl | rfl | rfl
  all_goals (rw [dec_cod]; exact ⟨rfl, rfl, rfl, rfl, rfl, rfl, trivial⟩)
theorem three16_lvs : lvs (treeL three16) (treeL three16).length = [1, 0, 2] := by
  rw [tree16]
  simp only [List.length_cons, List.length_nil, Nat.zero_add, Nat.reduceAdd, lvs, List.getD_cons_zero, List.getD_cons_succ, co_cod]
  rfl
noncomputable def G_alive16 : List Sum := [s_tbuild, s_tleaves]
def I_alive16 : List Inf := [i_tbuild, i_tleaves]
def t_alive16 : TX := (.call 0 [(.l2 .cons (.l2 .cons (.c 5) (.l2 .cons (.c 0) (.l2 .cons (.c 0) (.l2 .cons (.c 5) (.l2 .cons (.c 0) (.l2 .cons (.c 0) .nl)))))) (.l2 .cons (.l2 .cons (.c 1) (.l2 .cons (.c 0) (.l2 .cons (.c 0) (.l2 .cons (.c 1) (.l2 .cons (.c 0) (.l2 .cons (.c 0) .nl)))))) (.l2 .cons (.l2 .cons (.c 9) (.l2 .cons (.c 0) (.l2 .cons (.c 0) (.l2 .cons (.c 9) (.l2 .cons (.c 0) (.l2 .cons (.c 0) .nl)))))) .nl)))] (.callp 1 [(.v 0)] (.asrt (.or (.or (.or (.or (.not (.eq (.v 1) (.c 0))) (.not (.eq (.v 3) (.c 0)))) (.not (.eq (.ln (.v 0)) (.c 5)))) (.not (.eq (.ln (.v 2)) (.c 3)))) (.lt (.c 0) (.ln (.v 2)))) (.asrt (.or (.or (.or (.or (.not (.eq (.v 1) (.c 0))) (.not (.eq (.v 3) (.c 0)))) (.not (.eq (.ln (.v 0)) (.c 5)))) (.not (.eq (.ln (.v 2)) (.c 3)))) (.lt (.c 0) (.ln (.v 2)))) (.asrt (.or (.or (.or (.or (.or (.not (.eq (.v 1) (.c 0))) (.not (.eq (.v 3) (.c 0)))) (.not (.eq (.ln (.v 0)) (.c 5)))) (.not (.eq (.ln (.v 2)) (.c 3)))) (.not (.eq (.l2 .at (.v 2) (.c 0)) (.c 1)))) (.lt (.c 1) (.ln (.v 2)))) (.asrt (.or (.or (.or (.or (.or (.not (.eq (.v 1) (.c 0))) (.not (.eq (.v 3) (.c 0)))) (.not (.eq (.ln (.v 0)) (.c 5)))) (.not (.eq (.ln (.v 2)) (.c 3)))) (.not (.eq (.l2 .at (.v 2) (.c 0)) (.c 1)))) (.lt (.c 1) (.ln (.v 2)))) (.asrt (.or (.or (.or (.or (.or (.or (.not (.eq (.v 1) (.c 0))) (.not (.eq (.v 3) (.c 0)))) (.not (.eq (.ln (.v 0)) (.c 5)))) (.not (.eq (.ln (.v 2)) (.c 3)))) (.not (.eq (.l2 .at (.v 2) (.c 0)) (.c 1)))) (.not (.eq (.l2 .at (.v 2) (.c 1)) (.c 0)))) (.lt (.c 2) (.ln (.v 2)))) (.asrt (.or (.or (.or (.or (.or (.or (.not (.eq (.v 1) (.c 0))) (.not (.eq (.v 3) (.c 0)))) (.not (.eq (.ln (.v 0)) (.c 5)))) (.not (.eq (.ln (.v 2)) (.c 3)))) (.not (.eq (.l2 .at (.v 2) (.c 0)) (.c 1)))) (.not (.eq (.l2 .at (.v 2) (.c 1)) (.c 0)))) (.lt (.c 2) (.ln (.v 2)))) (.ite (.and (.and (.and (.and (.and (.and (.eq (.v 1) (.c 0)) (.eq (.v 3) (.c 0))) (.eq (.ln (.v 0)) (.c 5))) (.eq (.ln (.v 2)) (.c 3))) (.eq (.l2 .at (.v 2) (.c 0)) (.c 1))) (.eq (.l2 .at (.v 2) (.c 1)) (.c 0))) (.eq (.l2 .at (.v 2) (.c 2)) (.c 2))) (.ret [(.c 1)])
(.ret [(.c 0)]))))))))))
theorem tree_alive16 : merge (optFL [] I_alive16 [] pin_alive16 (symFnL Try.prog noLp gl0 G_alive16 1000 24 [] [Bo])) = t_alive16 := by kernel_rfl
theorem g_alive16 : Gok Try.prog G_alive16 := (more ok_tbuild (fix.one ok_tleaves))
theorem o_alive16 : outsOK G_alive16 I_alive16 := (outsOK_cons inf_tbuild (outsOK_cons inf_tleaves outsOK_nil))
theorem ok_alive16 : s_alive16.ok Try.prog := Sum.okF facts.mixed g_alive16 o_alive16 tree_alive16 rfl (fun _ => rfl) (by
  intro xs hx hp
  obtain rfl : xs = [] := List.eq_nil_of_length_eq_zero hx
  have hd : ∀ f : List Int → Prop, f three16 → f [cod [5, 0, 0, 5, 0, 0], cod [1, 0, 0, 1, 0, 0], cod [9, 0, 0, 9, 0, 0]] := fun f h => h
  simp only [t_alive16, G_alive16, s_tbuild, s_tleaves, TX.sat, XB.prop, X.den, List.map_cons, List.map_nil, List.getElem?_cons_zero, List.getElem?_cons_succ, List.cons_append, List.nil_append, List.getD_cons_zero, List.getD_cons_succ, mkS, mkP, and_true, true_and, Int.not_lt, Int.not_le, not_or, not_and, Classical.not_not, ne_eq, not_true_eq_false, not_false_eq_true, sem_tbuild, sem_tleaves, sem_alive16, L2.den, dec_cod, dec_nil]
  have h3 : [cod [5, 0, 0, 5, 0, 0], cod [1, 0, 0, 1, 0, 0], cod [9, 0, 0, 9, 0, 0]] = three16 := rfl
  rw [h3, three16_ok]
  simp only [if_true, dec_cod, tree_leavesE three16_ok, three16_lvs]
  simp only [tree16]
  refine ⟨⟨vs_none (n := 1) rfl, ?_⟩, ?_⟩
  · show ∀ b ∈ dec (cod three16), rangeOK Bs_ks (dec b)
    rw [dec_cod]
    exact three16_range
  · simp)
theorem inf_alive16 : InfOK s_alive16 i_alive16 := ⟨fun _ h => h, fun _ _ _ _ => vsOK_cons ⟨by decide, by decide⟩ vsOK_nil⟩
noncomputable def G_holds : List Sum := [s_inside]
def I_holds : List Inf := [i_inside]
def t_holds : TX := (.loop 2 [none, none] [(.c 0), (.c 0)] (.ite (.le (.ln (.v 0)) (.v 3)) (.ret [(.c 1)])
(.asrt (.le (.c 0) (.v 3)) (.ite (.lt (.l2 .at (.l2 .at (.v 0) (.v 3)) (.c 6)) (.c 0)) (.ite (.or (.lt (.l2 .at (.l2 .at (.v 0) (.v 3)) (.c 8)) (.c 0)) (.or (.le (.ln (.v 1)) (.l2 .at (.l2 .at (.v 0) (.v 3)) (.c 8))) (.or (.or (.not (.eq (.l2 .at (.l2 .at (.v 0) (.v 3)) (.c 0)) (.l2 .at (.l2 .at (.v 1) (.l2 .at (.l2 .at (.v 0) (.v 3)) (.c 8))) (.c 0)))) (.or (.not (.eq (.l2 .at (.l2 .at (.v 0) (.v 3)) (.c 1)) (.l2 .at (.l2 .at (.v 1) (.l2 .at (.l2 .at (.v 0) (.v 3)) (.c 8))) (.c 1)))) (.not (.eq (.l2 .at (.l2 .at (.v 0) (.v 3)) (.c 2)) (.l2 .at (.l2 .at (.v 1) (.l2 .at (.l2 .at (.v 0) (.v 3)) (.c 8))) (.c 2)))))) (.or (.not (.eq (.l2 .at (.l2 .at (.v 0) (.v 3)) (.c 3)) (.l2 .at (.l2 .at (.v 1) (.l2 .at (.l2 .at (.v 0) (.v 3)) (.c 8))) (.c 3)))) (.or (.not (.eq (.l2 .at (.l2 .at (.v 0) (.v 3)) (.c 4)) (.l2 .at (.l2 .at (.v 1) (.l2 .at (.l2 .at (.v 0) (.v 3)) (.c 8))) (.c 4)))) (.not (.eq (.l2 .at (.l2 .at (.v 0) (.v 3)) (.c 5)) (.l2 .at (.l2 .at (.v 1) (.l2 .at (.l2 .at (.v 0) (.v 3)) (.c 8))) (.c 5))))))))) (.ret [(.c 0)])
(.back 0 [(.v 2), (.wr .i64 (.add (.v 3) (.c 1)))]))
(.ite (.or (.le (.l2 .at (.l2 .at (.v 0) (.v 3)) (.c 6)) (.v 3)) (.or (.le (.l2 .at (.l2 .at (.v 0) (.v 3)) (.c 7)) (.v 3)) (.or (.le (.ln (.v 0)) (.l2 .at (.l2 .at (.v 0) (.v 3)) (.c 6))) (.le (.ln (.v 0)) (.l2 .at (.l2 .at (.v 0) (.v 3)) (.c 7)))))) (.ret [(.c 0)])
(.call 0 [(.l2 .at (.l2 .at (.v 0) (.l2 .at (.l2 .at (.v 0) (.v 3)) (.c 6))) (.c 0)), (.l2 .at (.l2 .at (.v 0) (.l2 .at (.l2 .at (.v 0) (.v 3)) (.c 6))) (.c 1)), (.l2 .at (.l2 .at (.v 0) (.l2 .at (.l2 .at (.v 0) (.v 3)) (.c 6))) (.c 2)), (.l2 .at (.l2 .at (.v 0) (.l2 .at (.l2 .at (.v 0) (.v 3)) (.c 6))) (.c 3)), (.l2 .at (.l2 .at (.v 0) (.l2 .at (.l2 .at (.v 0) (.v 3)) (.c 6))) (.c 4)), (.l2 .at (.l2 .at (.v 0) (.l2 .at (.l2 .at (.v 0) (.v 3)) (.c 6))) (.c 5)), (.l2 .at (.l2 .at (.v 0) (.v 3)) (.c 0)), (.l2 .at (.l2 .at (.v 0) (.v 3)) (.c 1)), (.l2 .at (.l2 .at (.v 0) (.v 3)) (.c 2)), (.l2 .at (.l2 .at (.v 0) (.v 3)) (.c 3)), (.l2 .at (.l2 .at (.v 0) (.v 3)) (.c 4)), (.l2 .at (.l2 .at (.v 0) (.v 3)) (.c 5))] (.ite (.eq (.v 4) (.c 0)) (.ret [(.c 0)])
(.asrt (.le (.c 0) (.l2 .at (.l2 .at (.v 0) (.v 3)) (.c 7))) (.call 0 [(.l2 .at (.l2 .at (.v 0) (.l2 .at (.l2 .at (.v 0) (.v 3)) (.c 7))) (.c 0)), (.l2 .at (.l2 .at (.v 0) (.l2 .at (.l2 .at (.v 0) (.v 3)) (.c 7))) (.c 1)), (.l2 .at (.l2 .at (.v 0) (.l2 .at (.l2 .at (.v 0) (.v 3)) (.c 7))) (.c 2)), (.l2 .at (.l2 .at (.v 0) (.l2 .at (.l2 .at (.v 0) (.v 3)) (.c 7))) (.c 3)), (.l2 .at (.l2 .at (.v 0) (.l2 .at (.l2 .at (.v 0) (.v 3)) (.c 7))) (.c 4)), (.l2 .at (.l2 .at (.v 0) (.l2 .at (.l2 .at (.v 0) (.v 3)) (.c 7))) (.c 5)), (.l2 .at (.l2 .at (.v 0) (.v 3)) (.c 0)), (.l2 .at (.l2 .at (.v 0) (.v 3)) (.c 1)), (.l2 .at (.l2 .at (.v 0) (.v 3)) (.c 2)), (.l2 .at (.l2 .at (.v 0) (.v 3)) (.c 3)), (.l2 .at (.l2 .at (.v 0) (.v 3)) (.c 4)), (.l2 .at (.l2 .at (.v 0) (.v 3)) (.c 5))] (.ite (.eq (.v 5) (.c 0)) (.ret [(.c 0)])
(.back 0 [(.v 2), (.wr .i64 (.add (.v 3) (.c 1)))])))))))))))
theorem tree_holds : merge (optFL [] I_holds [] pin_holds (symFnL Try.prog (openAt Try.prog [(2, 7)]) gl0 G_holds 1000 27 [Tr, Bs] [Bo])) = t_holds := by kernel_rfl
theorem g_holds : Gok Try.prog G_holds := (fix.one ok_inside)
theorem o_holds : outsOK G_holds I_holds := (outsOK_cons inf_inside outsOK_nil)
theorem ok_holds : s_holds.ok Try.prog := Sum.okPF (pin := pin_holds) facts.mixed g_holds o_holds tree_holds rfl (fun _ => rfl) (fun xs h => h.1) (by
  intro xs hx hp
  obtain ⟨a, b, rfl⟩ := len2 hx
  have hw : HoldsW (dec a) (dec b) := hp.2
  clear hp
  have hco : ∀ x j, (dec x).getD j 0 = co x j := fun _ _ => rfl
  simp only [t_holds, G_holds, s_inside, TX.sat, XB.prop, X.den, List.map_cons, List.map_nil, List.getElem?_cons_zero, List.getElem?_cons_succ, List.cons_append, List.nil_append, List.getD_cons_zero, List.getD_cons_succ, mkS, mkP, and_true, true_and, Int.not_lt, Int.not_le, not_or, not_and, Classical.not_not, ne_eq, not_true_eq_false, not_false_eq_true, sem_inside, sem_holds, L2.den]
  generalize dec a = t at *
  generalize dec b = L at *
  refine ⟨fun xs => ∃ i : Nat, xs.getD 1 0 = (i : Int) ∧ i ≤ t.length, fun xs => t.length - (xs.getD 1 0).toNat, fun xs hx _ => vs_none (n := 2) hx, ⟨0, rfl, Nat.zero_le _⟩, ?_⟩
  intro xs hx hI
  obtain ⟨d0, d1, rfl⟩ := len2 hx
  obtain ⟨i, hi, hil⟩ := hI
  simp only [List.getD_cons_zero, List.getD_cons_succ, List.cons_append, List.nil_append] at hi ⊢
  subst hi
  have hlen := hw.len
  have hlen' := hw.len'
  simp only [hco, Int.toNat_natCast, show Int.toNat 0 = 0 from rfl, show Int.toNat 1 = 1 from rfl, show Int.toNat 2 = 2 from rfl, show Int.toNat 3 = 3 from rfl, show Int.toNat 4 = 4 from rfl, show Int.toNat 5 = 5 from rfl, show Int.toNat 6 = 6 from rfl, show Int.toNat 7 = 7 from rfl, show Int.toNat 8 = 8 from rfl]
  refine ⟨fun _ => trivial, fun hlt => ⟨by omega, ?_⟩⟩
  have hil' : i < t.length := by omega
  have hw2 : IntKind.i64.wrap ((i : Int) + 1) = ((i + 1 : Nat) : Int) := by rw [wrap64 (by omega) (by omega)]; omega
  rw [hw2]
  have hnext : (∃ j : Nat, ((i + 1 : Nat) : Int) = (j : Int) ∧ j ≤ t.length) ∧ t.length - ((i + 1 : Nat) : Int).toNat < t.length - (i : Int).toNat := ⟨⟨i + 1, rfl, by omega⟩, by omega⟩
  rcases hw.hold i hil' with ⟨h6, h8, hs⟩ | ⟨h6, h6', h7', hin1, hin2⟩
  · refine ⟨fun _ => ⟨fun hbad => ?_, fun _ => hnext⟩, fun h => absurd h6 (by omega)⟩
    exfalso
    simp only [six6, List.cons.injEq, and_true] at hs
    obtain ⟨q0, q1, q2, q3, q4, q5⟩ := hs
    simp only [q0, q1, q2, q3, q4, q5, not_true_eq_false, or_false, or_self] at hbad
    omega
  · refine ⟨fun h => absurd h (by omega), fun _ => ⟨fun hbad => by omega, fun _ => ?_⟩⟩
    have hb1 := hw.ok (co (t.getD i 0) 6).toNat (by omega)
    have hb2 := hw.ok (co (t.getD i 0) 7).toNat (by omega)
    have hb0 := hw.ok i hil'
    have e1 : insideB [co (t.getD (co (t.getD i 0) 6).toNat 0) 0, co (t.getD (co (t.getD i 0) 6).toNat 0) 1, co (t.getD (co (t.getD i 0) 6).toNat 0) 2, co (t.getD (co (t.getD i 0) 6).toNat 0) 3, co (t.getD (co (t.getD i 0) 6).toNat 0) 4, co (t.getD (co (t.getD i 0) 6).toNat 0) 5, co (t.getD i 0) 0, co (t.getD i 0) 1, co (t.getD i 0) 2, co (t.getD i 0) 3, co (t.getD i 0) 4, co (t.getD i 0) 5] = true := hin1
    have e2 : insideB [co (t.getD (co (t.getD i 0) 7).toNat 0) 0, co (t.getD (co (t.getD i 0) 7).toNat 0) 1, co (t.getD (co (t.getD i 0) 7).toNat 0) 2, co (t.getD (co (t.getD i 0) 7).toNat 0) 3, co (t.getD (co (t.getD i 0) 7).toNat 0) 4, co (t.getD (co (t.getD i 0) 7).toNat 0) 5, co (t.getD i 0) 0, co (t.getD i 0) 1, co (t.getD i 0) 2, co (t.getD i 0) 3, co (t.getD i 0) 4, co (t.getD i 0) 5] = true := hin2
    rw [e1, e2]
    exact ⟨zz12 hb1 hb0, fun h => by simp [b01] at h, fun _ => ⟨by omega, zz12 hb2 hb0, fun h => by simp [b01] at h, fun _ => hnext⟩⟩)
#print axioms ok_alive16
#print axioms ok_holds
end Go.Proofs.Ytgcoidbaoigkeaa.fix
