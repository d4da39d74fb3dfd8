/-
  What the functions on points, matrices and cameras come to.
-/
import Derived.Test.YtlgcjkolakcfiaaBase
set_option linter.unusedVariables false
set_option linter.unusedSimpArgs false
namespace Go.Proofs.Ytlgcjkolakcfiaa.fix
open Go.RowKit Go.Sx

def G_cmat : List Sum := [s_rows, s_vcheck]
def I_cmat : List Inf := [i_rows, i_vcheck]
def t_cmat : TX := (.callp 0 [(.v 0), (.v 1), (.v 2), (.v 3), (.v 4), (.v 5), (.v 6), (.v 7), (.v 8)] (.ite (.eq (.v 12) (.c 0)) (.ret [(.c 20)])
(.callp 1 [(.v 9), (.v 10), (.v 11)] (.ret [(.v 13)]))))
theorem tree_cmat : merge (opt I_cmat pin_cmat (symFn Try.prog G_cmat 1000 78 [An 12] [I1])) = t_cmat := by kernel_rfl
theorem g_cmat : Gok Try.prog G_cmat := (more ok_rows (one ok_vcheck))
theorem o_cmat : outsOK G_cmat I_cmat := (outsOK_cons inf_rows (outsOK_cons inf_vcheck outsOK_nil))
def G_rmay : List Sum := [s_rrows, s_all]
def I_rmay : List Inf := [i_rrows, i_all]
def t_rmay : TX := (.callp 0 [(.v 0), (.v 1), (.v 2), (.v 3), (.v 4), (.v 5), (.v 6), (.v 7), (.v 8), (.c 1024)] (.ite (.not (.nz (.v 12))) (.ret [(.c 0)])
(.callp 1 [(.v 9), (.v 10), (.v 11), (.c 4096)] (.ite (.nz (.v 13)) (.ret [(.c 1)])
(.ret [(.c 0)])))))
theorem tree_rmay : merge (opt I_rmay pin_rmay (symFn Try.prog G_rmay 1000 79 [An 12] [Bo])) = t_rmay := by kernel_rfl
theorem g_rmay : Gok Try.prog G_rmay := (more ok_rrows (one ok_all))
theorem o_rmay : outsOK G_rmay I_rmay := (outsOK_cons inf_rrows (outsOK_cons inf_all outsOK_nil))
theorem ok_cmat : s_cmat.ok Try.prog := Sum.ok_opt facts.mixed g_cmat o_cmat tree_cmat rfl (fun _ => rfl) (by
  intro xs hx hp
  obtain ⟨a0, a1, a2, a3, a4, a5, a6, a7, a8, a9, a10, a11, rfl⟩ := len12 hx
  have h1 : rows9 1024 [a0, a1, a2, a3, a4, a5, a6, a7, a8] 0 = rows9 1024 [a0, a1, a2, a3, a4, a5, a6, a7, a8, a9, a10, a11] 0 := rfl
  have h2 : all3 4096 [a9, a10, a11] 0 = all3 4096 [a0, a1, a2, a3, a4, a5, a6, a7, a8, a9, a10, a11] 9 := rfl
  simp only [t_cmat, G_cmat, s_rows, s_vcheck, TX.sat, XB.prop, X.den, List.map_cons, List.map_nil, List.getElem?_cons_zero, List.getElem?_cons_succ, List.cons_append, List.nil_append, List.getD_cons_zero, List.getD_cons_succ, mkS, mkP, and_true, true_and, Int.not_lt, Int.not_le, not_or, not_and, Classical.not_not, ne_eq, not_true_eq_false, not_false_eq_true, sem_rows, sem_vcheck, sem_cmat, matB, h1, h2, Nat.zero_add]
  cases rows9 1024 [a0, a1, a2, a3, a4, a5, a6, a7, a8, a9, a10, a11] 0 <;> cases all3 4096 [a0, a1, a2, a3, a4, a5, a6, a7, a8, a9, a10, a11] 9 <;> simp [er, b01])
theorem inf_cmat : InfOK s_cmat i_cmat := ⟨fun _ h => h, fun vs xs h hp => vsOK_cons (er_iv _ (by omega)) vsOK_nil⟩
theorem ok_rmay : s_rmay.ok Try.prog := Sum.ok_opt facts.mixed g_rmay o_rmay tree_rmay rfl (fun _ => rfl) (by
  intro xs hx hp
  obtain ⟨a0, a1, a2, a3, a4, a5, a6, a7, a8, a9, a10, a11, rfl⟩ := len12 hx
  have h1 : rows9 1024 [a0, a1, a2, a3, a4, a5, a6, a7, a8] 0 = rows9 1024 [a0, a1, a2, a3, a4, a5, a6, a7, a8, a9, a10, a11] 0 := rfl
  have h2 : all3 4096 [a9, a10, a11] 0 = all3 4096 [a0, a1, a2, a3, a4, a5, a6, a7, a8, a9, a10, a11] 9 := rfl
  have h3 : rows9 1024 ([a0, a1, a2, a3, a4, a5, a6, a7, a8] ++ [1024]) 0 = rows9 1024 [a0, a1, a2, a3, a4, a5, a6, a7, a8, a9, a10, a11] 0 := rfl
  have h4 : all3 4096 ([a9, a10, a11] ++ [4096]) 0 = all3 4096 [a0, a1, a2, a3, a4, a5, a6, a7, a8, a9, a10, a11] 9 := rfl
  simp only [List.cons_append, List.nil_append] at h3 h4
  simp only [t_rmay, G_rmay, s_rrows, s_all, TX.sat, XB.prop, X.den, List.map_cons, List.map_nil, List.getElem?_cons_zero, List.getElem?_cons_succ, List.cons_append, List.nil_append, List.getD_cons_zero, List.getD_cons_succ, mkS, mkP, and_true, true_and, Int.not_lt, Int.not_le, not_or, not_and, Classical.not_not, ne_eq, not_true_eq_false, not_false_eq_true, sem_rrows, sem_all, sem_rmay, matB, h1, h2, h3, h4, Nat.zero_add]
  cases rows9 1024 [a0, a1, a2, a3, a4, a5, a6, a7, a8, a9, a10, a11] 0 <;> cases all3 4096 [a0, a1, a2, a3, a4, a5, a6, a7, a8, a9, a10, a11] 9 <;> simp [er, b01])
theorem inf_rmay : InfOK s_rmay i_rmay := ⟨fun _ h => h, fun vs xs h hp => vsOK_cons (b01_iv _) vsOK_nil⟩

def G_turn0 : List Sum := [s_floor]
def I_turn0 : List Inf := [i_floor]
def t_turn0 : TX := (.callp 0 [(.add (.add (.add (.c 0) (.mul (.v 0) (.v 9))) (.mul (.v 1) (.v 10))) (.mul (.v 2) (.v 11))), (.c 256)] (.callp 0 [(.add (.add (.add (.c 0) (.mul (.v 3) (.v 9))) (.mul (.v 4) (.v 10))) (.mul (.v 5) (.v 11))), (.c 256)] (.callp 0 [(.add (.add (.add (.c 0) (.mul (.v 6) (.v 9))) (.mul (.v 7) (.v 10))) (.mul (.v 8) (.v 11))), (.c 256)] (.ret [(.v 12), (.v 14), (.v 16)]))))
theorem tree_turn0 : merge (opt I_turn0 pin_turn0 (symFn Try.prog G_turn0 1000 121 [An 9, An 3] [An 3])) = t_turn0 := by kernel_rfl
theorem g_turn0 : Gok Try.prog G_turn0 := (one ok_floor)
theorem o_turn0 : outsOK G_turn0 I_turn0 := (outsOK_cons inf_floor outsOK_nil)
def G_byr : List Sum := [s_down]
def I_byr : List Inf := [i_down]
def t_byr : TX := (.callp 0 [(.add (.add (.mul (.v 0) (.v 3)) (.mul (.v 1) (.v 4))) (.mul (.v 2) (.v 5))), (.c 256)] (.ret [(.v 6)]))
theorem tree_byr : merge (opt I_byr pin_byr (symFn Try.prog G_byr 1000 124 [An 3, An 3] [I1])) = t_byr := by kernel_rfl
theorem g_byr : Gok Try.prog G_byr := (one ok_down)
theorem o_byr : outsOK G_byr I_byr := (outsOK_cons inf_down outsOK_nil)
theorem ok_turn0 : s_turn0.ok Try.prog := Sum.ok_opt facts.mixed g_turn0 o_turn0 tree_turn0 rfl (fun _ => rfl) (by
  intro xs hx hp
  obtain ⟨a0, a1, a2, a3, a4, a5, a6, a7, a8, a9, a10, a11, rfl⟩ := len12 hx
  simp only [t_turn0, G_turn0, s_floor, TX.sat, XB.prop, X.den, List.map_cons, List.map_nil, List.getElem?_cons_zero, List.getElem?_cons_succ, List.cons_append, List.nil_append, List.getD_cons_zero, List.getD_cons_succ, mkS, mkP, and_true, true_and, Int.not_lt, Int.not_le, not_or, not_and, Classical.not_not, ne_eq, not_true_eq_false, not_false_eq_true, sem_turn0, sem_floor, dot, Nat.reduceAdd, Int.zero_add])
theorem inf_turn0 : InfOK s_turn0 i_turn0 := ⟨fun _ h => h, fun vs xs h hp => vsOK_cons (divIv_has (by omega) (dotIv_has h 0 9)) (vsOK_cons (divIv_has (by omega) (dotIv_has h 3 9)) (vsOK_cons (divIv_has (by omega) (dotIv_has h 6 9)) vsOK_nil))⟩
theorem ok_byr : s_byr.ok Try.prog := Sum.ok_opt facts.mixed g_byr o_byr tree_byr rfl (fun _ => rfl) (by
  intro xs hx hp
  obtain ⟨a0, a1, a2, a3, a4, a5, rfl⟩ := len6 hx
  simp only [t_byr, G_byr, s_down, TX.sat, XB.prop, X.den, List.map_cons, List.map_nil, List.getElem?_cons_zero, List.getElem?_cons_succ, List.cons_append, List.nil_append, List.getD_cons_zero, List.getD_cons_succ, mkS, mkP, and_true, true_and, Int.not_lt, Int.not_le, not_or, not_and, Classical.not_not, ne_eq, not_true_eq_false, not_false_eq_true, sem_byr, sem_down, dot, Nat.reduceAdd, Int.zero_add])
theorem inf_byr : InfOK s_byr i_byr := ⟨fun _ h => h, fun vs xs h hp => vsOK_cons (divIv_has (by omega) (dotIv_has h 0 3)) vsOK_nil⟩
def G_turned : List Sum := [s_byr]
def I_turned : List Inf := [i_byr]
def t_turned : TX := (.callp 0 [(.v 0), (.v 1), (.v 2), (.v 9), (.v 10), (.v 11)] (.callp 0 [(.v 3), (.v 4), (.v 5), (.v 9), (.v 10), (.v 11)] (.callp 0 [(.v 6), (.v 7), (.v 8), (.v 9), (.v 10), (.v 11)] (.ret [(.v 12), (.v 13), (.v 14)]))))
theorem tree_turned : merge (opt I_turned pin_turned (symFn Try.prog G_turned 1000 123 [An 9, An 3] [An 3])) = t_turned := by kernel_rfl
theorem g_turned : Gok Try.prog G_turned := (one ok_byr)
theorem o_turned : outsOK G_turned I_turned := (outsOK_cons inf_byr outsOK_nil)
theorem ok_turned : s_turned.ok Try.prog := Sum.ok_opt facts.mixed g_turned o_turned tree_turned rfl (fun _ => rfl) (by
  intro xs hx hp
  obtain ⟨a0, a1, a2, a3, a4, a5, a6, a7, a8, a9, a10, a11, rfl⟩ := len12 hx
  simp only [t_turned, G_turned, s_byr, TX.sat, XB.prop, X.den, List.map_cons, List.map_nil, List.getElem?_cons_zero, List.getElem?_cons_succ, List.cons_append, List.nil_append, List.getD_cons_zero, List.getD_cons_succ, mkS, mkP, and_true, true_and, Int.not_lt, Int.not_le, not_or, not_and, Classical.not_not, ne_eq, not_true_eq_false, not_false_eq_true, sem_turned, sem_turn0, sem_byr, dot, Nat.reduceAdd, Int.zero_add])
theorem inf_turned : InfOK s_turned i_turned := inf_turn0

def G_turn : List Sum := [s_turn0]
def I_turn : List Inf := [i_turn0]
def t_turn : TX := (.ite (.or (.or (.lt (.v 0) (.c (-1024))) (.lt (.c 1024) (.v 0))) (.or (.or (.lt (.v 1) (.c (-1024))) (.lt (.c 1024) (.v 1))) (.or (.or (.lt (.v 2) (.c (-1024))) (.lt (.c 1024) (.v 2))) (.or (.or (.lt (.v 3) (.c (-1024))) (.lt (.c 1024) (.v 3))) (.or (.or (.lt (.v 4) (.c (-1024))) (.lt (.c 1024) (.v 4))) (.or (.or (.lt (.v 5) (.c (-1024))) (.lt (.c 1024) (.v 5))) (.or (.or (.lt (.v 6) (.c (-1024))) (.lt (.c 1024) (.v 6))) (.or (.or (.lt (.v 7) (.c (-1024))) (.lt (.c 1024) (.v 7))) (.or (.or (.lt (.v 8) (.c (-1024))) (.lt (.c 1024) (.v 8))) (.or (.or (.lt (.v 9) (.c (-32768))) (.lt (.c 32768) (.v 9))) (.or (.or (.lt (.v 10) (.c (-32768))) (.lt (.c 32768) (.v 10))) (.or (.lt (.v 11) (.c (-32768))) (.lt (.c 32768) (.v 11)))))))))))))) (.ret [(.c 0), (.c 0), (.c 0), (.c 2)])
(.callp 0 [(.v 0), (.v 1), (.v 2), (.v 3), (.v 4), (.v 5), (.v 6), (.v 7), (.v 8), (.v 9), (.v 10), (.v 11)] (.ret [(.v 12), (.v 13), (.v 14), (.c 0)])))
theorem tree_turn : merge (opt I_turn pin_turn (symFn Try.prog G_turn 1000 74 [An 9, An 3] [An 3, I1])) = t_turn := by kernel_rfl
theorem g_turn : Gok Try.prog G_turn := (one ok_turn0)
theorem o_turn : outsOK G_turn I_turn := (outsOK_cons inf_turn0 outsOK_nil)
def G_rturn : List Sum := [s_turned]
def I_rturn : List Inf := [i_turned]
def t_rturn : TX := (.ite (.or (.or (.lt (.v 0) (.c (-1024))) (.lt (.c 1024) (.v 0))) (.or (.or (.lt (.v 1) (.c (-1024))) (.lt (.c 1024) (.v 1))) (.or (.or (.lt (.v 2) (.c (-1024))) (.lt (.c 1024) (.v 2))) (.or (.or (.lt (.v 3) (.c (-1024))) (.lt (.c 1024) (.v 3))) (.or (.or (.lt (.v 4) (.c (-1024))) (.lt (.c 1024) (.v 4))) (.or (.or (.lt (.v 5) (.c (-1024))) (.lt (.c 1024) (.v 5))) (.or (.or (.lt (.v 6) (.c (-1024))) (.lt (.c 1024) (.v 6))) (.or (.or (.lt (.v 7) (.c (-1024))) (.lt (.c 1024) (.v 7))) (.or (.or (.lt (.v 8) (.c (-1024))) (.lt (.c 1024) (.v 8))) (.or (.or (.lt (.v 9) (.c (-32768))) (.lt (.c 32768) (.v 9))) (.or (.or (.lt (.v 10) (.c (-32768))) (.lt (.c 32768) (.v 10))) (.or (.lt (.v 11) (.c (-32768))) (.lt (.c 32768) (.v 11)))))))))))))) (.ret [(.c 0), (.c 0), (.c 0), (.c 2)])
(.callp 0 [(.v 0), (.v 1), (.v 2), (.v 3), (.v 4), (.v 5), (.v 6), (.v 7), (.v 8), (.v 9), (.v 10), (.v 11)] (.ret [(.v 12), (.v 13), (.v 14), (.c 0)])))
theorem tree_rturn : merge (opt I_rturn pin_rturn (symFn Try.prog G_rturn 1000 75 [An 9, An 3] [An 3, I1])) = t_rturn := by kernel_rfl
theorem g_rturn : Gok Try.prog G_rturn := (one ok_turned)
theorem o_rturn : outsOK G_rturn I_rturn := (outsOK_cons inf_turned outsOK_nil)
theorem ok_turn : s_turn.ok Try.prog := Sum.ok_opt facts.mixed g_turn o_turn tree_turn rfl (fun _ => rfl) (by
  intro xs hx hp
  obtain ⟨a0, a1, a2, a3, a4, a5, a6, a7, a8, a9, a10, a11, rfl⟩ := len12 hx
  simp only [t_turn, G_turn, s_turn0, TX.sat, XB.prop, X.den, List.map_cons, List.map_nil, List.getElem?_cons_zero, List.getElem?_cons_succ, List.cons_append, List.nil_append, List.getD_cons_zero, List.getD_cons_succ, mkS, mkP, and_true, true_and, Int.not_lt, Int.not_le, not_or, not_and, Classical.not_not, ne_eq, not_true_eq_false, not_false_eq_true, sem_turn, sem_turn0, turnL, rows9, Bool.and_eq_true, all3_true, Nat.reduceAdd]
  refine ⟨fun h => ?_, fun h => ?_⟩
  · rw [if_neg (by omega)]; rfl
  · rw [if_pos (by omega)]; rfl)
theorem ok_rturn : s_rturn.ok Try.prog := Sum.ok_opt facts.mixed g_rturn o_rturn tree_rturn rfl (fun _ => rfl) (by
  intro xs hx hp
  obtain ⟨a0, a1, a2, a3, a4, a5, a6, a7, a8, a9, a10, a11, rfl⟩ := len12 hx
  simp only [t_rturn, G_rturn, s_turned, TX.sat, XB.prop, X.den, List.map_cons, List.map_nil, List.getElem?_cons_zero, List.getElem?_cons_succ, List.cons_append, List.nil_append, List.getD_cons_zero, List.getD_cons_succ, mkS, mkP, and_true, true_and, Int.not_lt, Int.not_le, not_or, not_and, Classical.not_not, ne_eq, not_true_eq_false, not_false_eq_true, sem_rturn, sem_turn, sem_turned, sem_turn0, turnL, rows9, Bool.and_eq_true, all3_true, Nat.reduceAdd]
  refine ⟨fun h => ?_, fun h => ?_⟩
  · rw [if_neg (by omega)]; rfl
  · rw [if_pos (by omega)]; rfl)
theorem dot_in {x : List Int} {o p : Nat} {m n : Int} (hm : 0 ≤ m) (h1 : all3 m x o = true) (h2 : all3 n x p = true) : -(3 * (m * n)) ≤ dot x o p ∧ dot x o p ≤ 3 * (m * n) := by
  rw [all3_true] at h1 h2
  have k1 := mul_abs_le h1.1 h2.1
  have k2 := mul_abs_le h1.2.1 h2.2.1
  have k3 := mul_abs_le h1.2.2 h2.2.2
  unfold dot
  omega
theorem inf_turn : InfOK s_turn i_turn := ⟨fun _ h => h, fun vs xs h hp => by
  show vsOK (ivs 3 (-393216) 393216 ++ [iv 0 2]) (ex4 (turnL xs))
  unfold turnL
  split
  · rename_i hc
    simp only [rows9, Bool.and_eq_true, Nat.reduceAdd] at hc
    obtain ⟨⟨h1, h2, h3⟩, h4⟩ := hc
    have k1 := dot_in (by omega) h1 h4
    have k2 := dot_in (by omega) h2 h4
    have k3 := dot_in (by omega) h3 h4
    exact vsOK_cons (iv_def.2 (by show _ ≤ dot xs 0 9 / 256 ∧ dot xs 0 9 / 256 ≤ _; omega)) (vsOK_cons (iv_def.2 (by show _ ≤ dot xs 3 9 / 256 ∧ dot xs 3 9 / 256 ≤ _; omega)) (vsOK_cons (iv_def.2 (by show _ ≤ dot xs 6 9 / 256 ∧ dot xs 6 9 / 256 ≤ _; omega)) (vsOK_cons (iv_def.2 (by simp)) vsOK_nil)))
  · exact vsOK_cons (iv_def.2 (by simp)) (vsOK_cons (iv_def.2 (by simp)) (vsOK_cons (iv_def.2 (by simp)) (vsOK_cons (iv_def.2 (by simp)) vsOK_nil)))⟩
theorem inf_rturn : InfOK s_rturn i_rturn := inf_turn

def G_image : List Sum := [s_turn0]
def I_image : List Inf := [i_turn0]
def t_image : TX := (.ite (.or (.or (.lt (.v 0) (.c (-1024))) (.lt (.c 1024) (.v 0))) (.or (.or (.lt (.v 1) (.c (-1024))) (.lt (.c 1024) (.v 1))) (.or (.or (.lt (.v 2) (.c (-1024))) (.lt (.c 1024) (.v 2))) (.or (.or (.lt (.v 3) (.c (-1024))) (.lt (.c 1024) (.v 3))) (.or (.or (.lt (.v 4) (.c (-1024))) (.lt (.c 1024) (.v 4))) (.or (.or (.lt (.v 5) (.c (-1024))) (.lt (.c 1024) (.v 5))) (.or (.or (.lt (.v 6) (.c (-1024))) (.lt (.c 1024) (.v 6))) (.or (.or (.lt (.v 7) (.c (-1024))) (.lt (.c 1024) (.v 7))) (.or (.or (.lt (.v 8) (.c (-1024))) (.lt (.c 1024) (.v 8))) (.or (.or (.lt (.v 9) (.c (-4096))) (.lt (.c 4096) (.v 9))) (.or (.or (.lt (.v 10) (.c (-4096))) (.lt (.c 4096) (.v 10))) (.or (.or (.lt (.v 11) (.c (-4096))) (.lt (.c 4096) (.v 11))) (.or (.or (.lt (.v 12) (.c (-4096))) (.lt (.c 4096) (.v 12))) (.or (.or (.lt (.v 13) (.c (-4096))) (.lt (.c 4096) (.v 13))) (.or (.lt (.v 14) (.c (-4096))) (.lt (.c 4096) (.v 14))))))))))))))))) (.ret [(.c 0), (.c 0), (.c 0), (.c 20)])
(.callp 0 [(.v 0), (.v 1), (.v 2), (.v 3), (.v 4), (.v 5), (.v 6), (.v 7), (.v 8), (.v 12), (.v 13), (.v 14)] (.ite (.or (.or (.lt (.add (.v 15) (.v 9)) (.c (-4096))) (.lt (.c 4096) (.add (.v 15) (.v 9)))) (.or (.or (.lt (.add (.v 16) (.v 10)) (.c (-4096))) (.lt (.c 4096) (.add (.v 16) (.v 10)))) (.or (.lt (.add (.v 17) (.v 11)) (.c (-4096))) (.lt (.c 4096) (.add (.v 17) (.v 11)))))) (.ret [(.c 0), (.c 0), (.c 0), (.c 20)])
(.ret [(.add (.v 15) (.v 9)), (.add (.v 16) (.v 10)), (.add (.v 17) (.v 11)), (.c 0)]))))
theorem tree_image : merge (opt I_image pin_image (symFn Try.prog G_image 1000 72 [An 12, An 3] [An 3, I1])) = t_image := by kernel_rfl
theorem g_image : Gok Try.prog G_image := (one ok_turn0)
theorem o_image : outsOK G_image I_image := (outsOK_cons inf_turn0 outsOK_nil)
def G_rimage : List Sum := [s_turned]
def I_rimage : List Inf := [i_turned]
def t_rimage : TX := (.ite (.or (.or (.lt (.v 0) (.c (-1024))) (.lt (.c 1024) (.v 0))) (.or (.or (.lt (.v 1) (.c (-1024))) (.lt (.c 1024) (.v 1))) (.or (.or (.lt (.v 2) (.c (-1024))) (.lt (.c 1024) (.v 2))) (.or (.or (.lt (.v 3) (.c (-1024))) (.lt (.c 1024) (.v 3))) (.or (.or (.lt (.v 4) (.c (-1024))) (.lt (.c 1024) (.v 4))) (.or (.or (.lt (.v 5) (.c (-1024))) (.lt (.c 1024) (.v 5))) (.or (.or (.lt (.v 6) (.c (-1024))) (.lt (.c 1024) (.v 6))) (.or (.or (.lt (.v 7) (.c (-1024))) (.lt (.c 1024) (.v 7))) (.or (.or (.lt (.v 8) (.c (-1024))) (.lt (.c 1024) (.v 8))) (.or (.or (.lt (.v 9) (.c (-4096))) (.lt (.c 4096) (.v 9))) (.or (.or (.lt (.v 10) (.c (-4096))) (.lt (.c 4096) (.v 10))) (.or (.or (.lt (.v 11) (.c (-4096))) (.lt (.c 4096) (.v 11))) (.or (.or (.lt (.v 12) (.c (-4096))) (.lt (.c 4096) (.v 12))) (.or (.or (.lt (.v 13) (.c (-4096))) (.lt (.c 4096) (.v 13))) (.or (.lt (.v 14) (.c (-4096))) (.lt (.c 4096) (.v 14))))))))))))))))) (.ret [(.c 0), (.c 0), (.c 0), (.c 20)])
(.callp 0 [(.v 0), (.v 1), (.v 2), (.v 3), (.v 4), (.v 5), (.v 6), (.v 7), (.v 8), (.v 12), (.v 13), (.v 14)] (.ite (.or (.or (.lt (.add (.v 15) (.v 9)) (.c (-4096))) (.lt (.c 4096) (.add (.v 15) (.v 9)))) (.or (.or (.lt (.add (.v 16) (.v 10)) (.c (-4096))) (.lt (.c 4096) (.add (.v 16) (.v 10)))) (.or (.lt (.add (.v 17) (.v 11)) (.c (-4096))) (.lt (.c 4096) (.add (.v 17) (.v 11)))))) (.ret [(.c 0), (.c 0), (.c 0), (.c 20)])
(.ret [(.add (.v 15) (.v 9)), (.add (.v 16) (.v 10)), (.add (.v 17) (.v 11)), (.c 0)]))))
theorem tree_rimage : merge (opt I_rimage pin_rimage (symFn Try.prog G_rimage 1000 73 [An 12, An 3] [An 3, I1])) = t_rimage := by kernel_rfl
theorem g_rimage : Gok Try.prog G_rimage := (one ok_turned)
theorem o_rimage : outsOK G_rimage I_rimage := (outsOK_cons inf_turned outsOK_nil)
theorem ok_image : s_image.ok Try.prog := Sum.ok_opt facts.mixed g_image o_image tree_image rfl (fun _ => rfl) (by
  intro xs hx hp
  obtain ⟨a0, a1, a2, a3, a4, a5, a6, a7, a8, a9, a10, a11, a12, a13, a14, rfl⟩ := len15 hx
  simp only [t_image, G_image, s_turn0, TX.sat, XB.prop, X.den, List.map_cons, List.map_nil, List.getElem?_cons_zero, List.getElem?_cons_succ, List.cons_append, List.nil_append, List.getD_cons_zero, List.getD_cons_succ, mkS, mkP, and_true, true_and, Int.not_lt, Int.not_le, not_or, not_and, Classical.not_not, ne_eq, not_true_eq_false, not_false_eq_true, sem_image, sem_turn0, imageL, imageP, matB, rows9, Bool.and_eq_true, all3_true, dot, Nat.reduceAdd]
  generalize (a0 * a12 + a1 * a13 + a2 * a14) / 256 = b0
  generalize (a3 * a12 + a4 * a13 + a5 * a14) / 256 = b1
  generalize (a6 * a12 + a7 * a13 + a8 * a14) / 256 = b2
  refine ⟨fun h => ?_, fun h => ⟨fun h' => ?_, fun h' => ?_⟩⟩
  · rw [if_neg (by omega)]; rfl
  · rw [if_neg (by omega)]; rfl
  · rw [if_pos (by omega)]; rfl)
theorem ok_rimage : s_rimage.ok Try.prog := Sum.ok_opt facts.mixed g_rimage o_rimage tree_rimage rfl (fun _ => rfl) (by
  intro xs hx hp
  obtain ⟨a0, a1, a2, a3, a4, a5, a6, a7, a8, a9, a10, a11, a12, a13, a14, rfl⟩ := len15 hx
  simp only [t_rimage, G_rimage, s_turned, TX.sat, XB.prop, X.den, List.map_cons, List.map_nil, List.getElem?_cons_zero, List.getElem?_cons_succ, List.cons_append, List.nil_append, List.getD_cons_zero, List.getD_cons_succ, mkS, mkP, and_true, true_and, Int.not_lt, Int.not_le, not_or, not_and, Classical.not_not, ne_eq, not_true_eq_false, not_false_eq_true, sem_rimage, sem_image, sem_turned, sem_turn0, imageL, imageP, matB, rows9, Bool.and_eq_true, all3_true, dot, Nat.reduceAdd]
  generalize (a0 * a12 + a1 * a13 + a2 * a14) / 256 = b0
  generalize (a3 * a12 + a4 * a13 + a5 * a14) / 256 = b1
  generalize (a6 * a12 + a7 * a13 + a8 * a14) / 256 = b2
  refine ⟨fun h => ?_, fun h => ⟨fun h' => ?_, fun h' => ?_⟩⟩
  · rw [if_neg (by omega)]; rfl
  · rw [if_neg (by omega)]; rfl
  · rw [if_pos (by omega)]; rfl)
theorem inf_image : InfOK s_image i_image := ⟨fun _ h => h, fun vs xs h hp => by
  show vsOK (ivs 3 (-4096) 4096 ++ [iv 0 20]) (ex4 (imageL xs))
  unfold imageL
  split
  · rename_i hc
    simp only [Bool.and_eq_true, all3_true] at hc
    obtain ⟨_, k1, k2, k3⟩ := hc
    exact vsOK_cons k1 (vsOK_cons k2 (vsOK_cons k3 (vsOK_cons (iv_def.2 (by simp [imageP])) vsOK_nil)))
  · exact vsOK_cons (iv_def.2 (by simp)) (vsOK_cons (iv_def.2 (by simp)) (vsOK_cons (iv_def.2 (by simp)) (vsOK_cons (iv_def.2 (by simp)) vsOK_nil)))⟩
theorem inf_rimage : InfOK s_rimage i_rimage := inf_image

def G_mul : List Sum := [s_turn0]
def I_mul : List Inf := [i_turn0]
def t_mul : TX := (.ite (.or (.or (.lt (.v 0) (.c (-1024))) (.lt (.c 1024) (.v 0))) (.or (.or (.lt (.v 1) (.c (-1024))) (.lt (.c 1024) (.v 1))) (.or (.or (.lt (.v 2) (.c (-1024))) (.lt (.c 1024) (.v 2))) (.or (.or (.lt (.v 3) (.c (-1024))) (.lt (.c 1024) (.v 3))) (.or (.or (.lt (.v 4) (.c (-1024))) (.lt (.c 1024) (.v 4))) (.or (.or (.lt (.v 5) (.c (-1024))) (.lt (.c 1024) (.v 5))) (.or (.or (.lt (.v 6) (.c (-1024))) (.lt (.c 1024) (.v 6))) (.or (.or (.lt (.v 7) (.c (-1024))) (.lt (.c 1024) (.v 7))) (.or (.or (.lt (.v 8) (.c (-1024))) (.lt (.c 1024) (.v 8))) (.or (.or (.lt (.v 9) (.c (-4096))) (.lt (.c 4096) (.v 9))) (.or (.or (.lt (.v 10) (.c (-4096))) (.lt (.c 4096) (.v 10))) (.or (.or (.lt (.v 11) (.c (-4096))) (.lt (.c 4096) (.v 11))) (.or (.or (.lt (.v 12) (.c (-1024))) (.lt (.c 1024) (.v 12))) (.or (.or (.lt (.v 13) (.c (-1024))) (.lt (.c 1024) (.v 13))) (.or (.or (.lt (.v 14) (.c (-1024))) (.lt (.c 1024) (.v 14))) (.or (.or (.lt (.v 15) (.c (-1024))) (.lt (.c 1024) (.v 15))) (.or (.or (.lt (.v 16) (.c (-1024))) (.lt (.c 1024) (.v 16))) (.or (.or (.lt (.v 17) (.c (-1024))) (.lt (.c 1024) (.v 17))) (.or (.or (.lt (.v 18) (.c (-1024))) (.lt (.c 1024) (.v 18))) (.or (.or (.lt (.v 19) (.c (-1024))) (.lt (.c 1024) (.v 19))) (.or (.or (.lt (.v 20) (.c (-1024))) (.lt (.c 1024) (.v 20))) (.or (.or (.lt (.v 21) (.c (-4096))) (.lt (.c 4096) (.v 21))) (.or (.or (.lt (.v 22) (.c (-4096))) (.lt (.c 4096) (.v 22))) (.or (.lt (.v 23) (.c (-4096))) (.lt (.c 4096) (.v 23)))))))))))))))))))))))))) (.ret [(.c 0), (.c 0), (.c 0), (.c 0), (.c 0), (.c 0), (.c 0), (.c 0), (.c 0), (.c 0), (.c 0), (.c 0), (.c 20)])
(.callp 0 [(.v 0), (.v 1), (.v 2), (.v 3), (.v 4), (.v 5), (.v 6), (.v 7), (.v 8), (.v 21), (.v 22), (.v 23)] (.callp 0 [(.v 0), (.v 1), (.v 2), (.v 3), (.v 4), (.v 5), (.v 6), (.v 7), (.v 8), (.v 12), (.v 15), (.v 18)] (.callp 0 [(.v 0), (.v 1), (.v 2), (.v 3), (.v 4), (.v 5), (.v 6), (.v 7), (.v 8), (.v 13), (.v 16), (.v 19)] (.callp 0 [(.v 0), (.v 1), (.v 2), (.v 3), (.v 4), (.v 5), (.v 6), (.v 7), (.v 8), (.v 14), (.v 17), (.v 20)] (.ite (.or (.or (.lt (.v 27) (.c (-1024))) (.lt (.c 1024) (.v 27))) (.or (.or (.lt (.v 30) (.c (-1024))) (.lt (.c 1024) (.v 30))) (.or (.or (.lt (.v 33) (.c (-1024))) (.lt (.c 1024) (.v 33))) (.or (.or (.lt (.v 28) (.c (-1024))) (.lt (.c 1024) (.v 28))) (.or (.or (.lt (.v 31) (.c (-1024))) (.lt (.c 1024) (.v 31))) (.or (.or (.lt (.v 34) (.c (-1024))) (.lt (.c 1024) (.v 34))) (.or (.or (.lt (.v 29) (.c (-1024))) (.lt (.c 1024) (.v 29))) (.or (.or (.lt (.v 32) (.c (-1024))) (.lt (.c 1024) (.v 32))) (.or (.or (.lt (.v 35) (.c (-1024))) (.lt (.c 1024) (.v 35))) (.or (.or (.lt (.add (.v 24) (.v 9)) (.c (-4096))) (.lt (.c 4096) (.add (.v 24) (.v 9)))) (.or (.or (.lt (.add (.v 25) (.v 10)) (.c (-4096))) (.lt (.c 4096) (.add (.v 25) (.v 10)))) (.or (.lt (.add (.v 26) (.v 11)) (.c (-4096))) (.lt (.c 4096) (.add (.v 26) (.v 11))))))))))))))) (.ret [(.c 0), (.c 0), (.c 0), (.c 0), (.c 0), (.c 0), (.c 0), (.c 0), (.c 0), (.c 0), (.c 0), (.c 0), (.c 20)])
(.ret [(.v 27), (.v 30), (.v 33), (.v 28), (.v 31), (.v 34), (.v 29), (.v 32), (.v 35), (.add (.v 24) (.v 9)), (.add (.v 25) (.v 10)), (.add (.v 26) (.v 11)), (.c 0)])))))))
theorem tree_mul : merge (opt I_mul pin_mul (symFn Try.prog G_mul 1000 64 [An 12, An 12] [An 12, I1])) = t_mul := by kernel_rfl
theorem g_mul : Gok Try.prog G_mul := (one ok_turn0)
theorem o_mul : outsOK G_mul I_mul := (outsOK_cons inf_turn0 outsOK_nil)
def G_rmul : List Sum := [s_byr, s_turned]
def I_rmul : List Inf := [i_byr, i_turned]
def t_rmul : TX := (.ite (.or (.or (.lt (.v 0) (.c (-1024))) (.lt (.c 1024) (.v 0))) (.or (.or (.lt (.v 1) (.c (-1024))) (.lt (.c 1024) (.v 1))) (.or (.or (.lt (.v 2) (.c (-1024))) (.lt (.c 1024) (.v 2))) (.or (.or (.lt (.v 3) (.c (-1024))) (.lt (.c 1024) (.v 3))) (.or (.or (.lt (.v 4) (.c (-1024))) (.lt (.c 1024) (.v 4))) (.or (.or (.lt (.v 5) (.c (-1024))) (.lt (.c 1024) (.v 5))) (.or (.or (.lt (.v 6) (.c (-1024))) (.lt (.c 1024) (.v 6))) (.or (.or (.lt (.v 7) (.c (-1024))) (.lt (.c 1024) (.v 7))) (.or (.or (.lt (.v 8) (.c (-1024))) (.lt (.c 1024) (.v 8))) (.or (.or (.lt (.v 9) (.c (-4096))) (.lt (.c 4096) (.v 9))) (.or (.or (.lt (.v 10) (.c (-4096))) (.lt (.c 4096) (.v 10))) (.or (.or (.lt (.v 11) (.c (-4096))) (.lt (.c 4096) (.v 11))) (.or (.or (.lt (.v 12) (.c (-1024))) (.lt (.c 1024) (.v 12))) (.or (.or (.lt (.v 13) (.c (-1024))) (.lt (.c 1024) (.v 13))) (.or (.or (.lt (.v 14) (.c (-1024))) (.lt (.c 1024) (.v 14))) (.or (.or (.lt (.v 15) (.c (-1024))) (.lt (.c 1024) (.v 15))) (.or (.or (.lt (.v 16) (.c (-1024))) (.lt (.c 1024) (.v 16))) (.or (.or (.lt (.v 17) (.c (-1024))) (.lt (.c 1024) (.v 17))) (.or (.or (.lt (.v 18) (.c (-1024))) (.lt (.c 1024) (.v 18))) (.or (.or (.lt (.v 19) (.c (-1024))) (.lt (.c 1024) (.v 19))) (.or (.or (.lt (.v 20) (.c (-1024))) (.lt (.c 1024) (.v 20))) (.or (.or (.lt (.v 21) (.c (-4096))) (.lt (.c 4096) (.v 21))) (.or (.or (.lt (.v 22) (.c (-4096))) (.lt (.c 4096) (.v 22))) (.or (.lt (.v 23) (.c (-4096))) (.lt (.c 4096) (.v 23)))))))))))))))))))))))))) (.ret [(.c 0), (.c 0), (.c 0), (.c 0), (.c 0), (.c 0), (.c 0), (.c 0), (.c 0), (.c 0), (.c 0), (.c 0), (.c 20)])
(.callp 1 [(.v 0), (.v 1), (.v 2), (.v 3), (.v 4), (.v 5), (.v 6), (.v 7), (.v 8), (.v 21), (.v 22), (.v 23)] (.callp 0 [(.v 0), (.v 1), (.v 2), (.v 12), (.v 15), (.v 18)] (.callp 0 [(.v 0), (.v 1), (.v 2), (.v 13), (.v 16), (.v 19)] (.callp 0 [(.v 0), (.v 1), (.v 2), (.v 14), (.v 17), (.v 20)] (.callp 0 [(.v 3), (.v 4), (.v 5), (.v 12), (.v 15), (.v 18)] (.callp 0 [(.v 3), (.v 4), (.v 5), (.v 13), (.v 16), (.v 19)] (.callp 0 [(.v 3), (.v 4), (.v 5), (.v 14), (.v 17), (.v 20)] (.callp 0 [(.v 6), (.v 7), (.v 8), (.v 12), (.v 15), (.v 18)] (.callp 0 [(.v 6), (.v 7), (.v 8), (.v 13), (.v 16), (.v 19)] (.callp 0 [(.v 6), (.v 7), (.v 8), (.v 14), (.v 17), (.v 20)] (.ite (.or (.or (.lt (.v 27) (.c (-1024))) (.lt (.c 1024) (.v 27))) (.or (.or (.lt (.v 28) (.c (-1024))) (.lt (.c 1024) (.v 28))) (.or (.or (.lt (.v 29) (.c (-1024))) (.lt (.c 1024) (.v 29))) (.or (.or (.lt (.v 30) (.c (-1024))) (.lt (.c 1024) (.v 30))) (.or (.or (.lt (.v 31) (.c (-1024))) (.lt (.c 1024) (.v 31))) (.or (.or (.lt (.v 32) (.c (-1024))) (.lt (.c 1024) (.v 32))) (.or (.or (.lt (.v 33) (.c (-1024))) (.lt (.c 1024) (.v 33))) (.or (.or (.lt (.v 34) (.c (-1024))) (.lt (.c 1024) (.v 34))) (.or (.or (.lt (.v 35) (.c (-1024))) (.lt (.c 1024) (.v 35))) (.or (.or (.lt (.add (.v 24) (.v 9)) (.c (-4096))) (.lt (.c 4096) (.add (.v 24) (.v 9)))) (.or (.or (.lt (.add (.v 25) (.v 10)) (.c (-4096))) (.lt (.c 4096) (.add (.v 25) (.v 10)))) (.or (.lt (.add (.v 26) (.v 11)) (.c (-4096))) (.lt (.c 4096) (.add (.v 26) (.v 11))))))))))))))) (.ret [(.c 0), (.c 0), (.c 0), (.c 0), (.c 0), (.c 0), (.c 0), (.c 0), (.c 0), (.c 0), (.c 0), (.c 0), (.c 20)])
(.ret [(.v 27), (.v 28), (.v 29), (.v 30), (.v 31), (.v 32), (.v 33), (.v 34), (.v 35), (.add (.v 24) (.v 9)), (.add (.v 25) (.v 10)), (.add (.v 26) (.v 11)), (.c 0)])))))))))))))
theorem tree_rmul : merge (opt I_rmul pin_rmul (symFn Try.prog G_rmul 1000 65 [An 12, An 12] [An 12, I1])) = t_rmul := by kernel_rfl
theorem g_rmul : Gok Try.prog G_rmul := (more ok_byr (one ok_turned))
theorem o_rmul : outsOK G_rmul I_rmul := (outsOK_cons inf_byr (outsOK_cons inf_turned outsOK_nil))
theorem ok_mul : s_mul.ok Try.prog := Sum.ok_opt facts.mixed g_mul o_mul tree_mul rfl (fun _ => rfl) (by
  intro xs hx hp
  obtain ⟨a0, a1, a2, a3, a4, a5, a6, a7, a8, a9, a10, a11, a12, a13, a14, a15, a16, a17, a18, a19, a20, a21, a22, a23, rfl⟩ := len24 hx
  by_cases hc : (matB [a0, a1, a2, a3, a4, a5, a6, a7, a8, a9, a10, a11, a12, a13, a14, a15, a16, a17, a18, a19, a20, a21, a22, a23] 0 && matB [a0, a1, a2, a3, a4, a5, a6, a7, a8, a9, a10, a11, a12, a13, a14, a15, a16, a17, a18, a19, a20, a21, a22, a23] 12 && matB (mulP [a0, a1, a2, a3, a4, a5, a6, a7, a8, a9, a10, a11, a12, a13, a14, a15, a16, a17, a18, a19, a20, a21, a22, a23]) 0) = true
  · have hm : mulL [a0, a1, a2, a3, a4, a5, a6, a7, a8, a9, a10, a11, a12, a13, a14, a15, a16, a17, a18, a19, a20, a21, a22, a23] = mulP [a0, a1, a2, a3, a4, a5, a6, a7, a8, a9, a10, a11, a12, a13, a14, a15, a16, a17, a18, a19, a20, a21, a22, a23] := if_pos hc
    simp only [matB, rows9, Bool.and_eq_true, all3_true, mulP, dotC, dot, TX.sat, XB.prop, X.den, List.map_cons, List.map_nil, List.getElem?_cons_zero, List.getElem?_cons_succ, List.cons_append, List.nil_append, List.getD_cons_zero, List.getD_cons_succ, mkS, mkP, and_true, true_and, Int.not_lt, Int.not_le, not_or, not_and, Classical.not_not, ne_eq, not_true_eq_false, not_false_eq_true, Nat.reduceAdd] at hc
    simp only [t_mul, G_mul, s_turn0, TX.sat, XB.prop, X.den, List.map_cons, List.map_nil, List.getElem?_cons_zero, List.getElem?_cons_succ, List.cons_append, List.nil_append, List.getD_cons_zero, List.getD_cons_succ, mkS, mkP, and_true, true_and, Int.not_lt, Int.not_le, not_or, not_and, Classical.not_not, ne_eq, not_true_eq_false, not_false_eq_true, sem_turn0, sem_mul, hm, mulP, ex13, dotC, dot, Nat.reduceAdd]
    generalize (a0 * a12 + a1 * a15 + a2 * a18) / 256 = b0 at hc ⊢
    generalize (a0 * a13 + a1 * a16 + a2 * a19) / 256 = b1 at hc ⊢
    generalize (a0 * a14 + a1 * a17 + a2 * a20) / 256 = b2 at hc ⊢
    generalize (a3 * a12 + a4 * a15 + a5 * a18) / 256 = b3 at hc ⊢
    generalize (a3 * a13 + a4 * a16 + a5 * a19) / 256 = b4 at hc ⊢
    generalize (a3 * a14 + a4 * a17 + a5 * a20) / 256 = b5 at hc ⊢
    generalize (a6 * a12 + a7 * a15 + a8 * a18) / 256 = b6 at hc ⊢
    generalize (a6 * a13 + a7 * a16 + a8 * a19) / 256 = b7 at hc ⊢
    generalize (a6 * a14 + a7 * a17 + a8 * a20) / 256 = b8 at hc ⊢
    generalize (a0 * a21 + a1 * a22 + a2 * a23) / 256 = b9 at hc ⊢
    generalize (a3 * a21 + a4 * a22 + a5 * a23) / 256 = b10 at hc ⊢
    generalize (a6 * a21 + a7 * a22 + a8 * a23) / 256 = b11 at hc ⊢
    refine ⟨fun h => ?_, fun h => ⟨fun h' => ?_, fun h' => ?_⟩⟩
    · omega
    · omega
    · first | rfl | trivial
  · have hm : mulL [a0, a1, a2, a3, a4, a5, a6, a7, a8, a9, a10, a11, a12, a13, a14, a15, a16, a17, a18, a19, a20, a21, a22, a23] = [0, 0, 0, 0, 0, 0, 0, 0, 0, 0, 0, 0, 20] := if_neg hc
    simp only [matB, rows9, Bool.and_eq_true, all3_true, mulP, dotC, dot, TX.sat, XB.prop, X.den, List.map_cons, List.map_nil, List.getElem?_cons_zero, List.getElem?_cons_succ, List.cons_append, List.nil_append, List.getD_cons_zero, List.getD_cons_succ, mkS, mkP, and_true, true_and, Int.not_lt, Int.not_le, not_or, not_and, Classical.not_not, ne_eq, not_true_eq_false, not_false_eq_true, Nat.reduceAdd] at hc
    simp only [t_mul, G_mul, s_turn0, TX.sat, XB.prop, X.den, List.map_cons, List.map_nil, List.getElem?_cons_zero, List.getElem?_cons_succ, List.cons_append, List.nil_append, List.getD_cons_zero, List.getD_cons_succ, mkS, mkP, and_true, true_and, Int.not_lt, Int.not_le, not_or, not_and, Classical.not_not, ne_eq, not_true_eq_false, not_false_eq_true, sem_turn0, sem_mul, hm, ex13, dotC, dot, Nat.reduceAdd]
    generalize (a0 * a12 + a1 * a15 + a2 * a18) / 256 = b0 at hc ⊢
    generalize (a0 * a13 + a1 * a16 + a2 * a19) / 256 = b1 at hc ⊢
    generalize (a0 * a14 + a1 * a17 + a2 * a20) / 256 = b2 at hc ⊢
    generalize (a3 * a12 + a4 * a15 + a5 * a18) / 256 = b3 at hc ⊢
    generalize (a3 * a13 + a4 * a16 + a5 * a19) / 256 = b4 at hc ⊢
    generalize (a3 * a14 + a4 * a17 + a5 * a20) / 256 = b5 at hc ⊢
    generalize (a6 * a12 + a7 * a15 + a8 * a18) / 256 = b6 at hc ⊢
    generalize (a6 * a13 + a7 * a16 + a8 * a19) / 256 = b7 at hc ⊢
    generalize (a6 * a14 + a7 * a17 + a8 * a20) / 256 = b8 at hc ⊢
    generalize (a0 * a21 + a1 * a22 + a2 * a23) / 256 = b9 at hc ⊢
    generalize (a3 * a21 + a4 * a22 + a5 * a23) / 256 = b10 at hc ⊢
    generalize (a6 * a21 + a7 * a22 + a8 * a23) / 256 = b11 at hc ⊢
    refine ⟨fun h => ?_, fun h => ⟨fun h' => ?_, fun h' => ?_⟩⟩
    · first | rfl | trivial
    · first | rfl | trivial
    · omega)
theorem ok_rmul : s_rmul.ok Try.prog := Sum.ok_opt facts.mixed g_rmul o_rmul tree_rmul rfl (fun _ => rfl) (by
  intro xs hx hp
  obtain ⟨a0, a1, a2, a3, a4, a5, a6, a7, a8, a9, a10, a11, a12, a13, a14, a15, a16, a17, a18, a19, a20, a21, a22, a23, rfl⟩ := len24 hx
  by_cases hc : (matB [a0, a1, a2, a3, a4, a5, a6, a7, a8, a9, a10, a11, a12, a13, a14, a15, a16, a17, a18, a19, a20, a21, a22, a23] 0 && matB [a0, a1, a2, a3, a4, a5, a6, a7, a8, a9, a10, a11, a12, a13, a14, a15, a16, a17, a18, a19, a20, a21, a22, a23] 12 && matB (mulP [a0, a1, a2, a3, a4, a5, a6, a7, a8, a9, a10, a11, a12, a13, a14, a15, a16, a17, a18, a19, a20, a21, a22, a23]) 0) = true
  · have hm : mulL [a0, a1, a2, a3, a4, a5, a6, a7, a8, a9, a10, a11, a12, a13, a14, a15, a16, a17, a18, a19, a20, a21, a22, a23] = mulP [a0, a1, a2, a3, a4, a5, a6, a7, a8, a9, a10, a11, a12, a13, a14, a15, a16, a17, a18, a19, a20, a21, a22, a23] := if_pos hc
    simp only [matB, rows9, Bool.and_eq_true, all3_true, mulP, dotC, dot, TX.sat, XB.prop, X.den, List.map_cons, List.map_nil, List.getElem?_cons_zero, List.getElem?_cons_succ, List.cons_append, List.nil_append, List.getD_cons_zero, List.getD_cons_succ, mkS, mkP, and_true, true_and, Int.not_lt, Int.not_le, not_or, not_and, Classical.not_not, ne_eq, not_true_eq_false, not_false_eq_true, Nat.reduceAdd] at hc
    simp only [t_rmul, G_rmul, s_turned, s_byr, TX.sat, XB.prop, X.den, List.map_cons, List.map_nil, List.getElem?_cons_zero, List.getElem?_cons_succ, List.cons_append, List.nil_append, List.getD_cons_zero, List.getD_cons_succ, mkS, mkP, and_true, true_and, Int.not_lt, Int.not_le, not_or, not_and, Classical.not_not, ne_eq, not_true_eq_false, not_false_eq_true, sem_turned, sem_turn0, sem_byr, sem_rmul, sem_mul, hm, mulP, ex13, dotC, dot, Nat.reduceAdd]
    generalize (a0 * a12 + a1 * a15 + a2 * a18) / 256 = b0 at hc ⊢
    generalize (a0 * a13 + a1 * a16 + a2 * a19) / 256 = b1 at hc ⊢
    generalize (a0 * a14 + a1 * a17 + a2 * a20) / 256 = b2 at hc ⊢
    generalize (a3 * a12 + a4 * a15 + a5 * a18) / 256 = b3 at hc ⊢
    generalize (a3 * a13 + a4 * a16 + a5 * a19) / 256 = b4 at hc ⊢
    generalize (a3 * a14 + a4 * a17 + a5 * a20) / 256 = b5 at hc ⊢
    generalize (a6 * a12 + a7 * a15 + a8 * a18) / 256 = b6 at hc ⊢
    generalize (a6 * a13 + a7 * a16 + a8 * a19) / 256 = b7 at hc ⊢
    generalize (a6 * a14 + a7 * a17 + a8 * a20) / 256 = b8 at hc ⊢
    generalize (a0 * a21 + a1 * a22 + a2 * a23) / 256 = b9 at hc ⊢
    generalize (a3 * a21 + a4 * a22 + a5 * a23) / 256 = b10 at hc ⊢
    generalize (a6 * a21 + a7 * a22 + a8 * a23) / 256 = b11 at hc ⊢
    refine ⟨fun h => ?_, fun h => ⟨fun h' => ?_, fun h' => ?_⟩⟩
    · omega
    · omega
    · first | rfl | trivial
  · have hm : mulL [a0, a1, a2, a3, a4, a5, a6, a7, a8, a9, a10, a11, a12, a13, a14, a15, a16, a17, a18, a19, a20, a21, a22, a23] = [0, 0, 0, 0, 0, 0, 0, 0, 0, 0, 0, 0, 20] := if_neg hc
    simp only [matB, rows9, Bool.and_eq_true, all3_true, mulP, dotC, dot, TX.sat, XB.prop, X.den, List.map_cons, List.map_nil, List.getElem?_cons_zero, List.getElem?_cons_succ, List.cons_append, List.nil_append, List.getD_cons_zero, List.getD_cons_succ, mkS, mkP, and_true, true_and, Int.not_lt, Int.not_le, not_or, not_and, Classical.not_not, ne_eq, not_true_eq_false, not_false_eq_true, Nat.reduceAdd] at hc
    simp only [t_rmul, G_rmul, s_turned, s_byr, TX.sat, XB.prop, X.den, List.map_cons, List.map_nil, List.getElem?_cons_zero, List.getElem?_cons_succ, List.cons_append, List.nil_append, List.getD_cons_zero, List.getD_cons_succ, mkS, mkP, and_true, true_and, Int.not_lt, Int.not_le, not_or, not_and, Classical.not_not, ne_eq, not_true_eq_false, not_false_eq_true, sem_turned, sem_turn0, sem_byr, sem_rmul, sem_mul, hm, ex13, dotC, dot, Nat.reduceAdd]
    generalize (a0 * a12 + a1 * a15 + a2 * a18) / 256 = b0 at hc ⊢
    generalize (a0 * a13 + a1 * a16 + a2 * a19) / 256 = b1 at hc ⊢
    generalize (a0 * a14 + a1 * a17 + a2 * a20) / 256 = b2 at hc ⊢
    generalize (a3 * a12 + a4 * a15 + a5 * a18) / 256 = b3 at hc ⊢
    generalize (a3 * a13 + a4 * a16 + a5 * a19) / 256 = b4 at hc ⊢
    generalize (a3 * a14 + a4 * a17 + a5 * a20) / 256 = b5 at hc ⊢
    generalize (a6 * a12 + a7 * a15 + a8 * a18) / 256 = b6 at hc ⊢
    generalize (a6 * a13 + a7 * a16 + a8 * a19) / 256 = b7 at hc ⊢
    generalize (a6 * a14 + a7 * a17 + a8 * a20) / 256 = b8 at hc ⊢
    generalize (a0 * a21 + a1 * a22 + a2 * a23) / 256 = b9 at hc ⊢
    generalize (a3 * a21 + a4 * a22 + a5 * a23) / 256 = b10 at hc ⊢
    generalize (a6 * a21 + a7 * a22 + a8 * a23) / 256 = b11 at hc ⊢
    refine ⟨fun h => ?_, fun h => ⟨fun h' => ?_, fun h' => ?_⟩⟩
    · first | rfl | trivial
    · first | rfl | trivial
    · omega)
theorem inf_mul : InfOK s_mul i_mul := ⟨fun _ h => h, fun vs xs h hp => by
  show vsOK (ivs 9 (-1024) 1024 ++ ivs 3 (-4096) 4096 ++ [iv 0 20]) (ex13 (mulL xs))
  unfold mulL
  split
  · rename_i hc
    simp only [matB, rows9, Bool.and_eq_true, all3_true, Nat.reduceAdd] at hc
    obtain ⟨_, ⟨⟨k0, k1, k2⟩, ⟨k3, k4, k5⟩, k6, k7, k8⟩, k9, k10, k11⟩ := hc
    exact vsOK_cons k0 (vsOK_cons k1 (vsOK_cons k2 (vsOK_cons k3 (vsOK_cons k4 (vsOK_cons k5 (vsOK_cons k6 (vsOK_cons k7 (vsOK_cons k8 (vsOK_cons k9 (vsOK_cons k10 (vsOK_cons k11 (vsOK_cons (iv_def.2 (by simp [mulP])) vsOK_nil))))))))))))
  · refine vsOK_cons (iv_def.2 ?_) (vsOK_cons (iv_def.2 ?_) (vsOK_cons (iv_def.2 ?_) (vsOK_cons (iv_def.2 ?_) (vsOK_cons (iv_def.2 ?_) (vsOK_cons (iv_def.2 ?_) (vsOK_cons (iv_def.2 ?_) (vsOK_cons (iv_def.2 ?_) (vsOK_cons (iv_def.2 ?_) (vsOK_cons (iv_def.2 ?_) (vsOK_cons (iv_def.2 ?_) (vsOK_cons (iv_def.2 ?_) (vsOK_cons (iv_def.2 ?_) vsOK_nil)))))))))))) <;> simp⟩
theorem inf_rmul : InfOK s_rmul i_rmul := inf_mul
def G_alive02 : List Sum := []
def I_alive02 : List Inf := []
def t_alive02 : TX := (.ret [(.c 1)])
theorem tree_alive02 : merge (opt I_alive02 pin_alive02 (symFn Try.prog G_alive02 1000 82 [] [Bo])) = t_alive02 := by kernel_rfl
theorem g_alive02 : Gok Try.prog G_alive02 := noG
theorem o_alive02 : outsOK G_alive02 I_alive02 := outsOK_nil
theorem ok_alive02 : s_alive02.ok Try.prog := Sum.ok_opt facts.mixed g_alive02 o_alive02 tree_alive02 rfl (fun _ => rfl) (fun xs hx hp => rfl)
theorem inf_alive02 : InfOK s_alive02 i_alive02 := ⟨fun _ h => h, fun _ _ _ _ => vsOK_cons ⟨by decide, by decide⟩ vsOK_nil⟩
end Go.Proofs.Ytlgcjkolakcfiaa.fix
