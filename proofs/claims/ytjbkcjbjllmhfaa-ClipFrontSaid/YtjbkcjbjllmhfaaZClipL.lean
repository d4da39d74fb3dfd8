/-
  What is left of a triangle, and what is asked of lists of them.
-/
import Derived.Test.YtjbkcjbjllmhfaaZClip
import Derived.Test.YtjbkcjbjllmhfaaZDefsC
set_option linter.unusedVariables false
set_option linter.unusedSimpArgs false
namespace Go.Proofs.Ytjbkcjbjllmhfaa.fix
open Go.RowKit Go.Sx

theorem c0n : Int.toNat 0 = 0 := rfl
theorem dec_nil : dec (cod ([] : List Int)) = [] := dec_cod _
noncomputable def G_cnear : List Sum := [s_pcheck, s_cut]
def I_cnear : List Inf := [i_pcheck, i_cut]
def t_cnear : TX := (.ite (.or (.lt (.v 0) (.c 256)) (.lt (.c 4096) (.v 0))) (.ret [.nl, (.c 2)])
(.callp 0 [(.v 1), (.v 2), (.v 3), (.v 4), (.v 5)] (.ite (.not (.eq (.v 16) (.c 0))) (.ret [.nl, (.v 16)])
(.callp 0 [(.v 6), (.v 7), (.v 8), (.v 9), (.v 10)] (.ite (.not (.eq (.v 17) (.c 0))) (.ret [.nl, (.v 17)])
(.callp 0 [(.v 11), (.v 12), (.v 13), (.v 14), (.v 15)] (.ite (.not (.eq (.v 18) (.c 0))) (.ret [.nl, (.v 18)])
(.ite (.le (.v 0) (.v 3)) (.ite (.le (.v 0) (.v 8)) (.ite (.le (.v 0) (.v 13)) (.ret [(.l2 .snoc .nl (.l2 .cons (.v 1) (.l2 .cons (.v 2) (.l2 .cons (.v 3) (.l2 .cons (.v 4) (.l2 .cons (.v 5) (.l2 .cons (.v 6) (.l2 .cons (.v 7) (.l2 .cons (.v 8) (.l2 .cons (.v 9) (.l2 .cons (.v 10) (.l2 .cons (.v 11) (.l2 .cons (.v 12) (.l2 .cons (.v 13) (.l2 .cons (.v 14) (.l2 .cons (.v 15) .nl)))))))))))))))), (.c 0)])
(.callp 1 [(.v 0), (.v 11), (.v 12), (.v 13), (.v 14), (.v 15), (.v 6), (.v 7), (.v 8), (.v 9), (.v 10)] (.callp 1 [(.v 0), (.v 11), (.v 12), (.v 13), (.v 14), (.v 15), (.v 1), (.v 2), (.v 3), (.v 4), (.v 5)] (.ret [(.l2 .snoc (.l2 .snoc .nl (.l2 .cons (.v 1) (.l2 .cons (.v 2) (.l2 .cons (.v 3) (.l2 .cons (.v 4) (.l2 .cons (.v 5) (.l2 .cons (.v 6) (.l2 .cons (.v 7) (.l2 .cons (.v 8) (.l2 .cons (.v 9) (.l2 .cons (.v 10) (.l2 .cons (.v 19) (.l2 .cons (.v 20) (.l2 .cons (.v 21) (.l2 .cons (.v 22) (.l2 .cons (.v 23) .nl)))))))))))))))) (.l2 .cons (.v 1) (.l2 .cons (.v 2) (.l2 .cons (.v 3) (.l2 .cons (.v 4) (.l2 .cons (.v 5) (.l2 .cons (.v 19) (.l2 .cons (.v 20) (.l2 .cons (.v 21) (.l2 .cons (.v 22) (.l2 .cons (.v 23) (.l2 .cons (.v 25) (.l2 .cons (.v 26) (.l2 .cons (.v 27) (.l2 .cons (.v 28) (.l2 .cons (.v 29) .nl)))))))))))))))), (.c 0)]))))
(.callp 1 [(.v 0), (.v 6), (.v 7), (.v 8), (.v 9), (.v 10), (.v 1), (.v 2), (.v 3), (.v 4), (.v 5)] (.ite (.not (.le (.v 0) (.v 13))) (.callp 1 [(.v 0), (.v 11), (.v 12), (.v 13), (.v 14), (.v 15), (.v 1), (.v 2), (.v 3), (.v 4), (.v 5)] (.ret [(.l2 .snoc .nl (.l2 .cons (.v 1) (.l2 .cons (.v 2) (.l2 .cons (.v 3) (.l2 .cons (.v 4) (.l2 .cons (.v 5) (.l2 .cons (.v 19) (.l2 .cons (.v 20) (.l2 .cons (.v 21) (.l2 .cons (.v 22) (.l2 .cons (.v 23) (.l2 .cons (.v 25) (.l2 .cons (.v 26) (.l2 .cons (.v 27) (.l2 .cons (.v 28) (.l2 .cons (.v 29) .nl)))))))))))))))), (.c 0)]))
(.callp 1 [(.v 0), (.v 6), (.v 7), (.v 8), (.v 9), (.v 10), (.v 11), (.v 12), (.v 13), (.v 14), (.v 15)] (.ret [(.l2 .snoc (.l2 .snoc .nl (.l2 .cons (.v 1) (.l2 .cons (.v 2) (.l2 .cons (.v 3) (.l2 .cons (.v 4) (.l2 .cons (.v 5) (.l2 .cons (.v 19) (.l2 .cons (.v 20) (.l2 .cons (.v 21) (.l2 .cons (.v 22) (.l2 .cons (.v 23) (.l2 .cons (.v 25) (.l2 .cons (.v 26) (.l2 .cons (.v 27) (.l2 .cons (.v 28) (.l2 .cons (.v 29) .nl)))))))))))))))) (.l2 .cons (.v 1) (.l2 .cons (.v 2) (.l2 .cons (.v 3) (.l2 .cons (.v 4) (.l2 .cons (.v 5) (.l2 .cons (.v 25) (.l2 .cons (.v 26) (.l2 .cons (.v 27) (.l2 .cons (.v 28) (.l2 .cons (.v 29) (.l2 .cons (.v 11) (.l2 .cons (.v 12) (.l2 .cons (.v 13) (.l2 .cons (.v 14) (.l2 .cons (.v 15) .nl)))))))))))))))), (.c 0)])))))
(.ite (.not (.le (.v 0) (.v 8))) (.ite (.not (.le (.v 0) (.v 13))) (.ret [.nl, (.c 0)])
(.callp 1 [(.v 0), (.v 6), (.v 7), (.v 8), (.v 9), (.v 10), (.v 11), (.v 12), (.v 13), (.v 14), (.v 15)] (.callp 1 [(.v 0), (.v 1), (.v 2), (.v 3), (.v 4), (.v 5), (.v 11), (.v 12), (.v 13), (.v 14), (.v 15)] (.ret [(.l2 .snoc .nl (.l2 .cons (.v 19) (.l2 .cons (.v 20) (.l2 .cons (.v 21) (.l2 .cons (.v 22) (.l2 .cons (.v 23) (.l2 .cons (.v 11) (.l2 .cons (.v 12) (.l2 .cons (.v 13) (.l2 .cons (.v 14) (.l2 .cons (.v 15) (.l2 .cons (.v 25) (.l2 .cons (.v 26) (.l2 .cons (.v 27) (.l2 .cons (.v 28) (.l2 .cons (.v 29) .nl)))))))))))))))), (.c 0)]))))
(.callp 1 [(.v 0), (.v 1), (.v 2), (.v 3), (.v 4), (.v 5), (.v 6), (.v 7), (.v 8), (.v 9), (.v 10)] (.ite (.le (.v 0) (.v 13)) (.callp 1 [(.v 0), (.v 1), (.v 2), (.v 3), (.v 4), (.v 5), (.v 11), (.v 12), (.v 13), (.v 14), (.v 15)] (.ret [(.l2 .snoc (.l2 .snoc .nl (.l2 .cons (.v 19) (.l2 .cons (.v 20) (.l2 .cons (.v 21) (.l2 .cons (.v 22) (.l2 .cons (.v 23) (.l2 .cons (.v 6) (.l2 .cons (.v 7) (.l2 .cons (.v 8) (.l2 .cons (.v 9) (.l2 .cons (.v 10) (.l2 .cons (.v 11) (.l2 .cons (.v 12) (.l2 .cons (.v 13) (.l2 .cons (.v 14) (.l2 .cons (.v 15) .nl)))))))))))))))) (.l2 .cons (.v 19) (.l2 .cons (.v 20) (.l2 .cons (.v 21) (.l2 .cons (.v 22) (.l2 .cons (.v 23) (.l2 .cons (.v 11) (.l2 .cons (.v 12) (.l2 .cons (.v 13) (.l2 .cons (.v 14) (.l2 .cons (.v 15) (.l2 .cons (.v 25) (.l2 .cons (.v 26) (.l2 .cons (.v 27) (.l2 .cons (.v 28) (.l2 .cons (.v 29) .nl)))))))))))))))), (.c 0)]))
(.callp 1 [(.v 0), (.v 11), (.v 12), (.v 13), (.v 14), (.v 15), (.v 6), (.v 7), (.v 8), (.v 9), (.v 10)] (.ret [(.l2 .snoc .nl (.l2 .cons (.v 19) (.l2 .cons (.v 20) (.l2 .cons (.v 21) (.l2 .cons (.v 22) (.l2 .cons (.v 23) (.l2 .cons (.v 6) (.l2 .cons (.v 7) (.l2 .cons (.v 8) (.l2 .cons (.v 9) (.l2 .cons (.v 10) (.l2 .cons (.v 25) (.l2 .cons (.v 26) (.l2 .cons (.v 27) (.l2 .cons (.v 28) (.l2 .cons (.v 29) .nl)))))))))))))))), (.c 0)])))))))))))))
theorem tree_cnear : merge (optFL [] I_cnear [] (zs 16) (symFnL Try.prog noLp gl0 G_cnear 1000 29 [I1, An 15] [Ts, I1])) = t_cnear := by kernel_rfl
theorem g_cnear : Gok Try.prog G_cnear := (more ok_pcheck (one ok_cut))
theorem o_cnear : outsOK G_cnear I_cnear := (outsOK_cons inf_pcheck (outsOK_cons inf_cut outsOK_nil))
noncomputable def G_rleft : List Sum := [s_rcut0]
def I_rleft : List Inf := [i_rcut0]
def t_rleft : TX := (.ite (.le (.v 0) (.v 3)) (.ite (.lt (.v 8) (.v 0)) (.call 0 [(.v 0), (.v 6), (.v 7), (.v 8), (.v 9), (.v 10), (.v 1), (.v 2), (.v 3), (.v 4), (.v 5)] (.ite (.le (.v 0) (.v 13)) (.call 0 [(.v 0), (.v 6), (.v 7), (.v 8), (.v 9), (.v 10), (.v 11), (.v 12), (.v 13), (.v 14), (.v 15)] (.ret [(.l2 .snoc (.l2 .snoc .nl (.l2 .cons (.v 1) (.l2 .cons (.v 2) (.l2 .cons (.v 3) (.l2 .cons (.v 4) (.l2 .cons (.v 5) (.l2 .cons (.v 16) (.l2 .cons (.v 17) (.l2 .cons (.v 18) (.l2 .cons (.v 19) (.l2 .cons (.v 20) (.l2 .cons (.v 21) (.l2 .cons (.v 22) (.l2 .cons (.v 23) (.l2 .cons (.v 24) (.l2 .cons (.v 25) .nl)))))))))))))))) (.l2 .cons (.v 1) (.l2 .cons (.v 2) (.l2 .cons (.v 3) (.l2 .cons (.v 4) (.l2 .cons (.v 5) (.l2 .cons (.v 21) (.l2 .cons (.v 22) (.l2 .cons (.v 23) (.l2 .cons (.v 24) (.l2 .cons (.v 25) (.l2 .cons (.v 11) (.l2 .cons (.v 12) (.l2 .cons (.v 13) (.l2 .cons (.v 14) (.l2 .cons (.v 15) .nl))))))))))))))))]))
(.ite (.le (.v 0) (.v 13)) (.ret [(.l2 .snoc .nl (.l2 .cons (.v 1) (.l2 .cons (.v 2) (.l2 .cons (.v 3) (.l2 .cons (.v 4) (.l2 .cons (.v 5) (.l2 .cons (.v 16) (.l2 .cons (.v 17) (.l2 .cons (.v 18) (.l2 .cons (.v 19) (.l2 .cons (.v 20) (.l2 .cons (.v 11) (.l2 .cons (.v 12) (.l2 .cons (.v 13) (.l2 .cons (.v 14) (.l2 .cons (.v 15) .nl))))))))))))))))])
(.call 0 [(.v 0), (.v 11), (.v 12), (.v 13), (.v 14), (.v 15), (.v 1), (.v 2), (.v 3), (.v 4), (.v 5)] (.ret [(.l2 .snoc .nl (.l2 .cons (.v 1) (.l2 .cons (.v 2) (.l2 .cons (.v 3) (.l2 .cons (.v 4) (.l2 .cons (.v 5) (.l2 .cons (.v 16) (.l2 .cons (.v 17) (.l2 .cons (.v 18) (.l2 .cons (.v 19) (.l2 .cons (.v 20) (.l2 .cons (.v 21) (.l2 .cons (.v 22) (.l2 .cons (.v 23) (.l2 .cons (.v 24) (.l2 .cons (.v 25) .nl))))))))))))))))])))))
(.ite (.le (.v 0) (.v 8)) (.ite (.lt (.v 13) (.v 0)) (.call 0 [(.v 0), (.v 11), (.v 12), (.v 13), (.v 14), (.v 15), (.v 6), (.v 7), (.v 8), (.v 9), (.v 10)] (.call 0 [(.v 0), (.v 11), (.v 12), (.v 13), (.v 14), (.v 15), (.v 1), (.v 2), (.v 3), (.v 4), (.v 5)] (.ret [(.l2 .snoc (.l2 .snoc .nl (.l2 .cons (.v 1) (.l2 .cons (.v 2) (.l2 .cons (.v 3) (.l2 .cons (.v 4) (.l2 .cons (.v 5) (.l2 .cons (.v 6) (.l2 .cons (.v 7) (.l2 .cons (.v 8) (.l2 .cons (.v 9) (.l2 .cons (.v 10) (.l2 .cons (.v 16) (.l2 .cons (.v 17) (.l2 .cons (.v 18) (.l2 .cons (.v 19) (.l2 .cons (.v 20) .nl)))))))))))))))) (.l2 .cons (.v 1) (.l2 .cons (.v 2) (.l2 .cons (.v 3) (.l2 .cons (.v 4) (.l2 .cons (.v 5) (.l2 .cons (.v 16) (.l2 .cons (.v 17) (.l2 .cons (.v 18) (.l2 .cons (.v 19) (.l2 .cons (.v 20) (.l2 .cons (.v 21) (.l2 .cons (.v 22) (.l2 .cons (.v 23) (.l2 .cons (.v 24) (.l2 .cons (.v 25) .nl))))))))))))))))])))
(.ite (.le (.v 0) (.v 13)) (.ret [(.l2 .snoc .nl (.l2 .cons (.v 1) (.l2 .cons (.v 2) (.l2 .cons (.v 3) (.l2 .cons (.v 4) (.l2 .cons (.v 5) (.l2 .cons (.v 6) (.l2 .cons (.v 7) (.l2 .cons (.v 8) (.l2 .cons (.v 9) (.l2 .cons (.v 10) (.l2 .cons (.v 11) (.l2 .cons (.v 12) (.l2 .cons (.v 13) (.l2 .cons (.v 14) (.l2 .cons (.v 15) .nl))))))))))))))))])
(.call 0 [(.v 0), (.v 11), (.v 12), (.v 13), (.v 14), (.v 15), (.v 1), (.v 2), (.v 3), (.v 4), (.v 5)] (.ret [(.l2 .snoc .nl (.l2 .cons (.v 1) (.l2 .cons (.v 2) (.l2 .cons (.v 3) (.l2 .cons (.v 4) (.l2 .cons (.v 5) (.l2 .cons (.v 6) (.l2 .cons (.v 7) (.l2 .cons (.v 8) (.l2 .cons (.v 9) (.l2 .cons (.v 10) (.l2 .cons (.v 16) (.l2 .cons (.v 17) (.l2 .cons (.v 18) (.l2 .cons (.v 19) (.l2 .cons (.v 20) .nl))))))))))))))))]))))
(.ite (.le (.v 0) (.v 13)) (.call 0 [(.v 0), (.v 6), (.v 7), (.v 8), (.v 9), (.v 10), (.v 11), (.v 12), (.v 13), (.v 14), (.v 15)] (.ret [(.l2 .snoc .nl (.l2 .cons (.v 1) (.l2 .cons (.v 2) (.l2 .cons (.v 3) (.l2 .cons (.v 4) (.l2 .cons (.v 5) (.l2 .cons (.v 16) (.l2 .cons (.v 17) (.l2 .cons (.v 18) (.l2 .cons (.v 19) (.l2 .cons (.v 20) (.l2 .cons (.v 11) (.l2 .cons (.v 12) (.l2 .cons (.v 13) (.l2 .cons (.v 14) (.l2 .cons (.v 15) .nl))))))))))))))))]))
(.ite (.le (.v 0) (.v 13)) (.ret [.nl])
(.call 0 [(.v 0), (.v 11), (.v 12), (.v 13), (.v 14), (.v 15), (.v 1), (.v 2), (.v 3), (.v 4), (.v 5)] (.ret [.nl]))))))
(.ite (.le (.v 0) (.v 8)) (.call 0 [(.v 0), (.v 1), (.v 2), (.v 3), (.v 4), (.v 5), (.v 6), (.v 7), (.v 8), (.v 9), (.v 10)] (.ite (.lt (.v 13) (.v 0)) (.call 0 [(.v 0), (.v 11), (.v 12), (.v 13), (.v 14), (.v 15), (.v 6), (.v 7), (.v 8), (.v 9), (.v 10)] (.ret [(.l2 .snoc .nl (.l2 .cons (.v 16) (.l2 .cons (.v 17) (.l2 .cons (.v 18) (.l2 .cons (.v 19) (.l2 .cons (.v 20) (.l2 .cons (.v 6) (.l2 .cons (.v 7) (.l2 .cons (.v 8) (.l2 .cons (.v 9) (.l2 .cons (.v 10) (.l2 .cons (.v 21) (.l2 .cons (.v 22) (.l2 .cons (.v 23) (.l2 .cons (.v 24) (.l2 .cons (.v 25) .nl))))))))))))))))]))
(.ite (.lt (.v 13) (.v 0)) (.ret [.nl])
(.call 0 [(.v 0), (.v 1), (.v 2), (.v 3), (.v 4), (.v 5), (.v 11), (.v 12), (.v 13), (.v 14), (.v 15)] (.ret [(.l2 .snoc (.l2 .snoc .nl (.l2 .cons (.v 16) (.l2 .cons (.v 17) (.l2 .cons (.v 18) (.l2 .cons (.v 19) (.l2 .cons (.v 20) (.l2 .cons (.v 6) (.l2 .cons (.v 7) (.l2 .cons (.v 8) (.l2 .cons (.v 9) (.l2 .cons (.v 10) (.l2 .cons (.v 11) (.l2 .cons (.v 12) (.l2 .cons (.v 13) (.l2 .cons (.v 14) (.l2 .cons (.v 15) .nl)))))))))))))))) (.l2 .cons (.v 16) (.l2 .cons (.v 17) (.l2 .cons (.v 18) (.l2 .cons (.v 19) (.l2 .cons (.v 20) (.l2 .cons (.v 11) (.l2 .cons (.v 12) (.l2 .cons (.v 13) (.l2 .cons (.v 14) (.l2 .cons (.v 15) (.l2 .cons (.v 21) (.l2 .cons (.v 22) (.l2 .cons (.v 23) (.l2 .cons (.v 24) (.l2 .cons (.v 25) .nl))))))))))))))))])))))
(.ite (.le (.v 0) (.v 8)) (.ite (.lt (.v 13) (.v 0)) (.call 0 [(.v 0), (.v 11), (.v 12), (.v 13), (.v 14), (.v 15), (.v 6), (.v 7), (.v 8), (.v 9), (.v 10)] (.ret [.nl]))
(.ite (.lt (.v 13) (.v 0)) (.ret [.nl])
(.call 0 [(.v 0), (.v 1), (.v 2), (.v 3), (.v 4), (.v 5), (.v 11), (.v 12), (.v 13), (.v 14), (.v 15)] (.ret [(.l2 .snoc .nl (.l2 .cons (.v 6) (.l2 .cons (.v 7) (.l2 .cons (.v 8) (.l2 .cons (.v 9) (.l2 .cons (.v 10) (.l2 .cons (.v 11) (.l2 .cons (.v 12) (.l2 .cons (.v 13) (.l2 .cons (.v 14) (.l2 .cons (.v 15) (.l2 .cons (.v 16) (.l2 .cons (.v 17) (.l2 .cons (.v 18) (.l2 .cons (.v 19) (.l2 .cons (.v 20) .nl))))))))))))))))]))))
(.ite (.le (.v 0) (.v 13)) (.call 0 [(.v 0), (.v 6), (.v 7), (.v 8), (.v 9), (.v 10), (.v 11), (.v 12), (.v 13), (.v 14), (.v 15)] (.call 0 [(.v 0), (.v 1), (.v 2), (.v 3), (.v 4), (.v 5), (.v 11), (.v 12), (.v 13), (.v 14), (.v 15)] (.ret [(.l2 .snoc .nl (.l2 .cons (.v 16) (.l2 .cons (.v 17) (.l2 .cons (.v 18) (.l2 .cons (.v 19) (.l2 .cons (.v 20) (.l2 .cons (.v 11) (.l2 .cons (.v 12) (.l2 .cons (.v 13) (.l2 .cons (.v 14) (.l2 .cons (.v 15) (.l2 .cons (.v 21) (.l2 .cons (.v 22) (.l2 .cons (.v 23) (.l2 .cons (.v 24) (.l2 .cons (.v 25) .nl))))))))))))))))])))
(.ite (.lt (.v 13) (.v 0)) (.ret [.nl])
(.call 0 [(.v 0), (.v 1), (.v 2), (.v 3), (.v 4), (.v 5), (.v 11), (.v 12), (.v 13), (.v 14), (.v 15)] (.ret [.nl])))))))
theorem tree_rleft : merge (optFL [] I_rleft [] pin_rleft (symFnL Try.prog noLp gl0 G_rleft 1000 52 [I1, An 15] [Ts])) = t_rleft := by kernel_rfl
theorem g_rleft : Gok Try.prog G_rleft := (one ok_rcut0)
theorem o_rleft : outsOK G_rleft I_rleft := (outsOK_cons inf_rcut0 outsOK_nil)
theorem len16' {xs : List Int} (h : xs.length = 16) : ∃ a0 a1 a2 a3 a4 a5 a6 a7 a8 a9 a10 a11 a12 a13 a14 a15, xs = [a0, a1, a2, a3, a4, a5, a6, a7, a8, a9, a10, a11, a12, a13, a14, a15] := by
  match xs, h with
  | [a0, a1, a2, a3, a4, a5, a6, a7, a8, a9, a10, a11, a12, a13, a14, a15], _ => exact ⟨_, _, _, _, _, _, _, _, _, _, _, _, _, _, _, _, rfl⟩

/-- A cut that is told. -/
theorem cut_told {n a0 a1 a2 a3 a4 b0 b1 b2 b3 b4 : Int} (hn : nearB [n] = true) (ha : pointB [a0, a1, a2, a3, a4] 0 = true) (hb : pointB [b0, b1, b2, b3, b4] 0 = true) (h1 : a2 < n) (h2 : n ≤ b2) :
    cutL [n, a0, a1, a2, a3, a4, b0, b1, b2, b3, b4] = cut5 n [a0, a1, a2, a3, a4] [b0, b1, b2, b3, b4] ++ [0] := by
  have e1 : nearB [n, a0, a1, a2, a3, a4, b0, b1, b2, b3, b4] = true := hn
  have e2 : pointB [n, a0, a1, a2, a3, a4, b0, b1, b2, b3, b4] 1 = true := ha
  have e3 : pointB [n, a0, a1, a2, a3, a4, b0, b1, b2, b3, b4] 6 = true := hb
  have e4 : behindB [n, a0, a1, a2, a3, a4, b0, b1, b2, b3, b4] = true := by
    simp only [behindB, decide_eq_true_eq, List.getD_cons_zero, List.getD_cons_succ]
    exact ⟨h1, h2⟩
  unfold cutL
  rw [e1, e2, e3, e4]
  rfl

theorem ok_cnear : s_cnear.ok Try.prog := Sum.okF facts.mixed g_cnear o_cnear tree_cnear rfl (fun _ => rfl) (by
  intro xs hx hp
  obtain ⟨n, a0, a1, a2, a3, a4, b0, b1, b2, b3, b4, c0, c1, c2, c3, c4, rfl⟩ := len16' hx
  simp only [t_cnear, G_cnear, s_pcheck, s_cut, TX.sat, XB.prop, X.den, List.map_cons, List.map_nil, List.getElem?_cons_zero, List.getElem?_cons_succ, List.cons_append, List.nil_append, List.getD_cons_zero, List.getD_cons_succ, mkS, mkP, and_true, true_and, Int.not_lt, Int.not_le, not_or, not_and, Classical.not_not, ne_eq, not_true_eq_false, not_false_eq_true, sem_cnear, sem_pcheck, sem_cut, ex6, L2.den]
  have eN : nearB [n, a0, a1, a2, a3, a4, b0, b1, b2, b3, b4, c0, c1, c2, c3, c4] = nearB [n] := rfl
  have eT : nearT [n, a0, a1, a2, a3, a4, b0, b1, b2, b3, b4, c0, c1, c2, c3, c4] = (pointB [a0, a1, a2, a3, a4] 0 && (pointB [b0, b1, b2, b3, b4] 0 && pointB [c0, c1, c2, c3, c4] 0)) := rfl
  have eN' : nearB [n] = true ↔ ¬ (n < 256 ∨ 4096 < n) := by simp only [nearB, decide_eq_true_eq, List.getD_cons_zero]; omega
  unfold nearL
  rw [eN, eT]
  refine ⟨fun h => ?_, fun hn => ?_⟩
  · rw [if_neg (by rw [eN']; exact not_not_intro h)]
    rfl
  have hN : nearB [n] = true := eN'.2 (by omega)
  rw [if_pos hN]
  by_cases ha : pointB [a0, a1, a2, a3, a4] 0 = true
  case neg =>
    have ha' := Bool.eq_false_iff.2 ha
    simp only [ha', er,  if_true, if_false, reduceIte, Bool.false_eq_true, Bool.false_and, Bool.and_false, Bool.and_self, TX.sat, XB.prop, X.den, List.map_cons, List.map_nil, List.getElem?_cons_zero, List.getElem?_cons_succ, List.cons_append, List.nil_append, List.getD_cons_zero, List.getD_cons_succ, mkS, mkP, and_true, true_and, Int.not_lt, Int.not_le, not_or, not_and, Classical.not_not, ne_eq, not_true_eq_false, not_false_eq_true, Bool.true_and, dec_nil]
    simp
  by_cases hb : pointB [b0, b1, b2, b3, b4] 0 = true
  case neg =>
    have hb' := Bool.eq_false_iff.2 hb
    simp only [hb', er, ha,  if_true, if_false, reduceIte, Bool.false_eq_true, Bool.false_and, Bool.and_false, Bool.and_self, TX.sat, XB.prop, X.den, List.map_cons, List.map_nil, List.getElem?_cons_zero, List.getElem?_cons_succ, List.cons_append, List.nil_append, List.getD_cons_zero, List.getD_cons_succ, mkS, mkP, and_true, true_and, Int.not_lt, Int.not_le, not_or, not_and, Classical.not_not, ne_eq, not_true_eq_false, not_false_eq_true, Bool.true_and, dec_nil]
    simp
  by_cases hc : pointB [c0, c1, c2, c3, c4] 0 = true
  case neg =>
    have hc' := Bool.eq_false_iff.2 hc
    simp only [hc', er, ha, hb,  if_true, if_false, reduceIte, Bool.false_eq_true, Bool.false_and, Bool.and_false, Bool.and_self, TX.sat, XB.prop, X.den, List.map_cons, List.map_nil, List.getElem?_cons_zero, List.getElem?_cons_succ, List.cons_append, List.nil_append, List.getD_cons_zero, List.getD_cons_succ, mkS, mkP, and_true, true_and, Int.not_lt, Int.not_le, not_or, not_and, Classical.not_not, ne_eq, not_true_eq_false, not_false_eq_true, Bool.true_and, dec_nil]
    simp
  have hz : er true 8 = 0 := rfl
  have kab := cut_told (n := n) hN ha hb
  have kac := cut_told (n := n) hN ha hc
  have kba := cut_told (n := n) hN hb ha
  have kbc := cut_told (n := n) hN hb hc
  have kca := cut_told (n := n) hN hc ha
  have kcb := cut_told (n := n) hN hc hb
  simp only [ha, hb, hc, hz, Bool.and_self, if_true, TX.sat, XB.prop, X.den, List.map_cons, List.map_nil, List.getElem?_cons_zero, List.getElem?_cons_succ, List.cons_append, List.nil_append, List.getD_cons_zero, List.getD_cons_succ, mkS, mkP, and_true, true_and, Int.not_lt, Int.not_le, not_or, not_and, Classical.not_not, ne_eq, not_true_eq_false, not_false_eq_true]
  unfold leftC polyC sideC
  by_cases g0 : n ≤ a2 <;> by_cases g1 : n ≤ b2 <;> by_cases g2 : n ≤ c2
  · simp only [g0, g1, g2, Int.not_lt.2 g0, Int.not_lt.2 g1, Int.not_lt.2 g2, inC, cornL, fanC, cut5, TX.sat, XB.prop, X.den, List.map_cons, List.map_nil, List.getElem?_cons_zero, List.getElem?_cons_succ, List.cons_append, List.nil_append, List.getD_cons_zero, List.getD_cons_succ, mkS, mkP, and_true, true_and, Int.not_lt, Int.not_le, not_or, not_and, Classical.not_not, ne_eq, not_true_eq_false, not_false_eq_true, Nat.reduceMul, Nat.reduceAdd, decide_true, decide_false, if_true, if_false, reduceIte, Bool.false_eq_true, List.map_cons, List.map_nil, List.append_nil, dec_cod, dec_nil, true_implies, false_implies, forall_const, not_true_eq_false, not_false_eq_true, implies_true, iff_false, iff_true]
  · have g2' := Int.not_le.1 g2
    simp only [kca g2' g0, kcb g2' g1, g0, g1, g2, Int.not_lt.2 g0, Int.not_lt.2 g1, g2', inC, cornL, fanC, cut5, TX.sat, XB.prop, X.den, List.map_cons, List.map_nil, List.getElem?_cons_zero, List.getElem?_cons_succ, List.cons_append, List.nil_append, List.getD_cons_zero, List.getD_cons_succ, mkS, mkP, and_true, true_and, Int.not_lt, Int.not_le, not_or, not_and, Classical.not_not, ne_eq, not_true_eq_false, not_false_eq_true, Nat.reduceMul, Nat.reduceAdd, decide_true, decide_false, if_true, if_false, reduceIte, Bool.false_eq_true, List.map_cons, List.map_nil, List.append_nil, dec_cod, dec_nil, true_implies, false_implies, forall_const, not_true_eq_false, not_false_eq_true, implies_true, iff_false, iff_true]
  · have g1' := Int.not_le.1 g1
    simp only [kba g1' g0, kbc g1' g2, g0, g1, g2, Int.not_lt.2 g0, g1', Int.not_lt.2 g2, inC, cornL, fanC, cut5, TX.sat, XB.prop, X.den, List.map_cons, List.map_nil, List.getElem?_cons_zero, List.getElem?_cons_succ, List.cons_append, List.nil_append, List.getD_cons_zero, List.getD_cons_succ, mkS, mkP, and_true, true_and, Int.not_lt, Int.not_le, not_or, not_and, Classical.not_not, ne_eq, not_true_eq_false, not_false_eq_true, Nat.reduceMul, Nat.reduceAdd, decide_true, decide_false, if_true, if_false, reduceIte, Bool.false_eq_true, List.map_cons, List.map_nil, List.append_nil, dec_cod, dec_nil, true_implies, false_implies, forall_const, not_true_eq_false, not_false_eq_true, implies_true, iff_false, iff_true]
  · have g1' := Int.not_le.1 g1
    have g2' := Int.not_le.1 g2
    simp only [kba g1' g0, kca g2' g0, g0, g1, g2, Int.not_lt.2 g0, g1', g2', inC, cornL, fanC, cut5, TX.sat, XB.prop, X.den, List.map_cons, List.map_nil, List.getElem?_cons_zero, List.getElem?_cons_succ, List.cons_append, List.nil_append, List.getD_cons_zero, List.getD_cons_succ, mkS, mkP, and_true, true_and, Int.not_lt, Int.not_le, not_or, not_and, Classical.not_not, ne_eq, not_true_eq_false, not_false_eq_true, Nat.reduceMul, Nat.reduceAdd, decide_true, decide_false, if_true, if_false, reduceIte, Bool.false_eq_true, List.map_cons, List.map_nil, List.append_nil, dec_cod, dec_nil, true_implies, false_implies, forall_const, not_true_eq_false, not_false_eq_true, implies_true, iff_false, iff_true]
  · have g0' := Int.not_le.1 g0
    simp only [kab g0' g1, kac g0' g2, g0, g1, g2, g0', Int.not_lt.2 g1, Int.not_lt.2 g2, inC, cornL, fanC, cut5, TX.sat, XB.prop, X.den, List.map_cons, List.map_nil, List.getElem?_cons_zero, List.getElem?_cons_succ, List.cons_append, List.nil_append, List.getD_cons_zero, List.getD_cons_succ, mkS, mkP, and_true, true_and, Int.not_lt, Int.not_le, not_or, not_and, Classical.not_not, ne_eq, not_true_eq_false, not_false_eq_true, Nat.reduceMul, Nat.reduceAdd, decide_true, decide_false, if_true, if_false, reduceIte, Bool.false_eq_true, List.map_cons, List.map_nil, List.append_nil, dec_cod, dec_nil, true_implies, false_implies, forall_const, not_true_eq_false, not_false_eq_true, implies_true, iff_false, iff_true]
  · have g0' := Int.not_le.1 g0
    have g2' := Int.not_le.1 g2
    simp only [kab g0' g1, kcb g2' g1, g0, g1, g2, g0', Int.not_lt.2 g1, g2', inC, cornL, fanC, cut5, TX.sat, XB.prop, X.den, List.map_cons, List.map_nil, List.getElem?_cons_zero, List.getElem?_cons_succ, List.cons_append, List.nil_append, List.getD_cons_zero, List.getD_cons_succ, mkS, mkP, and_true, true_and, Int.not_lt, Int.not_le, not_or, not_and, Classical.not_not, ne_eq, not_true_eq_false, not_false_eq_true, Nat.reduceMul, Nat.reduceAdd, decide_true, decide_false, if_true, if_false, reduceIte, Bool.false_eq_true, List.map_cons, List.map_nil, List.append_nil, dec_cod, dec_nil, true_implies, false_implies, forall_const, not_true_eq_false, not_false_eq_true, implies_true, iff_false, iff_true]
  · have g0' := Int.not_le.1 g0
    have g1' := Int.not_le.1 g1
    simp only [kac g0' g2, kbc g1' g2, g0, g1, g2, g0', g1', Int.not_lt.2 g2, inC, cornL, fanC, cut5, TX.sat, XB.prop, X.den, List.map_cons, List.map_nil, List.getElem?_cons_zero, List.getElem?_cons_succ, List.cons_append, List.nil_append, List.getD_cons_zero, List.getD_cons_succ, mkS, mkP, and_true, true_and, Int.not_lt, Int.not_le, not_or, not_and, Classical.not_not, ne_eq, not_true_eq_false, not_false_eq_true, Nat.reduceMul, Nat.reduceAdd, decide_true, decide_false, if_true, if_false, reduceIte, Bool.false_eq_true, List.map_cons, List.map_nil, List.append_nil, dec_cod, dec_nil, true_implies, false_implies, forall_const, not_true_eq_false, not_false_eq_true, implies_true, iff_false, iff_true]
  · have g0' := Int.not_le.1 g0
    have g1' := Int.not_le.1 g1
    have g2' := Int.not_le.1 g2
    simp only [g0, g1, g2, g0', g1', g2', inC, cornL, fanC, cut5, TX.sat, XB.prop, X.den, List.map_cons, List.map_nil, List.getElem?_cons_zero, List.getElem?_cons_succ, List.cons_append, List.nil_append, List.getD_cons_zero, List.getD_cons_succ, mkS, mkP, and_true, true_and, Int.not_lt, Int.not_le, not_or, not_and, Classical.not_not, ne_eq, not_true_eq_false, not_false_eq_true, Nat.reduceMul, Nat.reduceAdd, decide_true, decide_false, if_true, if_false, reduceIte, Bool.false_eq_true, List.map_cons, List.map_nil, List.append_nil, dec_cod, dec_nil, true_implies, false_implies, forall_const, not_true_eq_false, not_false_eq_true, implies_true, iff_false, iff_true]
    try trace_state)
end Go.Proofs.Ytjbkcjbjllmhfaa.fix
