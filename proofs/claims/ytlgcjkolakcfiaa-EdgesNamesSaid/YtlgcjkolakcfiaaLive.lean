/-
  The small functions that the laws on edges and on the plane ask first.
-/
import Derived.Test.YtlgcjkolakcfiaaPlane
set_option linter.unusedVariables false
set_option linter.unusedSimpArgs false
namespace Go.Proofs.Ytlgcjkolakcfiaa.fix
open Go.RowKit Go.Sx

def G_has21 : List Sum := [s_covers]
def I_has21 : List Inf := [i_covers]
def t_has21 : TX := (.callp 0 [(.v 0), (.v 1), (.v 2), (.v 3), (.v 4), (.v 5), (.v 6), (.v 7), (.v 8), (.v 9), (.v 10), (.v 11), (.v 12), (.v 13), (.v 14), (.v 15), (.v 16)] (.ite (.and (.eq (.v 18) (.c 0)) (.nz (.v 17))) (.ret [(.c 1)])
(.ret [(.c 0)])))
theorem tree_has21 : merge (opt I_has21 pin_has21 (symFn Try.prog G_has21 1000 49 [An 15, I1, I1] [Bo])) = t_has21 := by kernel_rfl
theorem g_has21 : Gok Try.prog G_has21 := (one ok_covers)
theorem o_has21 : outsOK G_has21 I_has21 := (outsOK_cons inf_covers outsOK_nil)
theorem ok_has21 : s_has21.ok Try.prog := Sum.ok_opt facts.mixed g_has21 o_has21 tree_has21 rfl (fun _ => rfl) (by
  intro xs hx hp
  obtain ⟨a0, a1, a2, a3, a4, a5, a6, a7, a8, a9, a10, a11, a12, a13, a14, a15, a16, rfl⟩ := len17 hx
  simp only [t_has21, G_has21, s_covers, TX.sat, XB.prop, X.den, List.map_cons, List.map_nil, List.getElem?_cons_zero, List.getElem?_cons_succ, List.cons_append, List.nil_append, List.getD_cons_zero, List.getD_cons_succ, mkS, mkP, and_true, true_and, Int.not_lt, Int.not_le, not_or, not_and, Classical.not_not, ne_eq, not_true_eq_false, not_false_eq_true, sem_covers, coversL, sem_has21]
  clear hx hp
  generalize (edgesL _).getD 3 0 = e
  generalize hasB _ = b
  cases b <;> by_cases he : e = 0 <;> simp [b01, he])
theorem inf_has21 : InfOK s_has21 i_has21 := ⟨fun _ h => h, fun vs xs h hp => by
  show vsOK [iv 0 1] [if (edgesL xs).getD 3 0 = 0 then b01 (hasB xs) else 0]
  split
  · exact vsOK_cons (b01_iv _) vsOK_nil
  · exact vsOK_cons (iv_def.2 (by simp)) vsOK_nil⟩
def G_alive21 : List Sum := [s_edges, s_has21]
def I_alive21 : List Inf := [i_edges, i_has21]
def t_alive21 : TX := (.callp 0 [(.c 0), (.c 0), (.c 1), (.c 0), (.c 0), (.c 16), (.c 0), (.c 1), (.c 0), (.c 0), (.c 0), (.c 16), (.c 1), (.c 0), (.c 0), (.c 0), (.c 0)] (.ite (.or (.not (.eq (.v 3) (.c 0))) (.or (.not (.eq (.v 0) (.c 128))) (.or (.not (.eq (.v 1) (.c 64))) (.not (.eq (.v 2) (.c 64)))))) (.ret [(.c 0)])
(.callp 1 [(.c 0), (.c 0), (.c 1), (.c 0), (.c 0), (.c 16), (.c 0), (.c 1), (.c 0), (.c 0), (.c 0), (.c 16), (.c 1), (.c 0), (.c 0), (.c 0), (.c 0)] (.ite (.not (.nz (.v 4))) (.ret [(.c 0)])
(.callp 1 [(.c 0), (.c 0), (.c 1), (.c 0), (.c 0), (.c 16), (.c 0), (.c 1), (.c 0), (.c 0), (.c 0), (.c 16), (.c 1), (.c 0), (.c 0), (.c 1), (.c 0)] (.ite (.eq (.v 5) (.c 0)) (.ret [(.c 1)])
(.ret [(.c 0)])))))))
theorem tree_alive21 : merge (opt I_alive21 pin_alive21 (symFn Try.prog G_alive21 1000 46 [] [Bo])) = t_alive21 := by kernel_rfl
theorem g_alive21 : Gok Try.prog G_alive21 := (more ok_edges (one ok_has21))
theorem o_alive21 : outsOK G_alive21 I_alive21 := (outsOK_cons inf_edges (outsOK_cons inf_has21 outsOK_nil))
theorem ok_alive21 : s_alive21.ok Try.prog := Sum.ok_opt facts.mixed g_alive21 o_alive21 tree_alive21 rfl (fun _ => rfl) (by
  intro xs hx hp
  obtain rfl : xs = [] := List.eq_nil_of_length_eq_zero hx
  have h1 : edgesL [0, 0, 1, 0, 0, 16, 0, 1, 0, 0, 0, 16, 1, 0, 0, 0, 0] = [128, 64, 64, 0] := by decide +kernel
  have h2 : hasB [0, 0, 1, 0, 0, 16, 0, 1, 0, 0, 0, 16, 1, 0, 0, 0, 0] = true := by decide +kernel
  have h3 : hasB [0, 0, 1, 0, 0, 16, 0, 1, 0, 0, 0, 16, 1, 0, 0, 1, 0] = false := by decide +kernel
  simp only [t_alive21, G_alive21, s_edges, s_has21, TX.sat, XB.prop, X.den, List.map_cons, List.map_nil, List.getElem?_cons_zero, List.getElem?_cons_succ, List.cons_append, List.nil_append, List.getD_cons_zero, List.getD_cons_succ, mkS, mkP, and_true, true_and, Int.not_lt, Int.not_le, not_or, not_and, Classical.not_not, ne_eq, not_true_eq_false, not_false_eq_true, sem_edges, sem_has21, ex4, h1, h2, h3, sem_alive21, sem_alive]
  simp [b01])
theorem inf_alive21 : InfOK s_alive21 i_alive21 := ⟨fun _ h => h, fun _ _ _ _ => vsOK_cons ⟨by decide, by decide⟩ vsOK_nil⟩
def G_alive22 : List Sum := [s_plat]
def I_alive22 : List Inf := [i_plat]
def t_alive22 : TX := (.callp 0 [(.c 4), (.c 4), (.c 1000), (.c 0), (.c 7), (.c 20), (.c 4), (.c 2000), (.c 90), (.c 7), (.c 4), (.c 20), (.c 4000), (.c 30), (.c 7), (.c 1), (.c 0)] (.ite (.not (.eq (.v 5) (.c 0))) (.ret [(.c 0)])
(.ite (.and (.eq (.v 0) (.c 12)) (.and (.eq (.v 1) (.c 4)) (.and (.eq (.v 2) (.c 1500)) (.and (.eq (.v 3) (.c 60)) (.eq (.v 4) (.c 7)))))) (.ret [(.c 1)])
(.ret [(.c 0)]))))
theorem tree_alive22 : merge (opt I_alive22 pin_alive22 (symFn Try.prog G_alive22 1000 94 [] [Bo])) = t_alive22 := by kernel_rfl
theorem g_alive22 : Gok Try.prog G_alive22 := (one ok_plat)
theorem o_alive22 : outsOK G_alive22 I_alive22 := (outsOK_cons inf_plat outsOK_nil)
theorem ok_alive22 : s_alive22.ok Try.prog := Sum.ok_opt facts.mixed g_alive22 o_alive22 tree_alive22 rfl (fun _ => rfl) (by
  intro xs hx hp
  obtain rfl : xs = [] := List.eq_nil_of_length_eq_zero hx
  have h1 : atL [4, 4, 1000, 0, 7, 20, 4, 2000, 90, 7, 4, 20, 4000, 30, 7, 1, 0] = [12, 4, 1500, 60, 7, 0] := by decide +kernel
  simp only [t_alive22, G_alive22, s_plat, TX.sat, XB.prop, X.den, List.map_cons, List.map_nil, List.getElem?_cons_zero, List.getElem?_cons_succ, List.cons_append, List.nil_append, List.getD_cons_zero, List.getD_cons_succ, mkS, mkP, and_true, true_and, Int.not_lt, Int.not_le, not_or, not_and, Classical.not_not, ne_eq, not_true_eq_false, not_false_eq_true, sem_plat, ex6, h1, sem_alive22, sem_alive]
  simp)
theorem inf_alive22 : InfOK s_alive22 i_alive22 := ⟨fun _ h => h, fun _ _ _ _ => vsOK_cons ⟨by decide, by decide⟩ vsOK_nil⟩
end Go.Proofs.Ytlgcjkolakcfiaa.fix
