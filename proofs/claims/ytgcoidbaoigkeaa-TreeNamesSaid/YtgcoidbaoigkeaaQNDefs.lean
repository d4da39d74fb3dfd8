/-
  The chapter's boxes and their tree, as functions.
-/
import Derived.Test.YtgcoidbaoigkeaaQTLaw
import Derived.Test.YtgcoidbaoigkeaaSwCn
set_option linter.unusedVariables false
set_option linter.unusedSimpArgs false
namespace Go.Proofs.Ytgcoidbaoigkeaa.fix
open Go.RowKit Go.Sx

noncomputable def sem_three16f (x : List Int) : List Int := [cod three16]
def out_three16f (v : List (Option Iv)) : List (Option Iv) := [none]
noncomputable def s_three16f : Sum := mkS gl0 25 [] [Bs] [] sem_three16f
def i_three16f : Inf := ⟨[], out_three16f⟩
def sem_at16 (x : List Int) : List Int := [x.getD 0 0, 0, 0, x.getD 0 0, 0, 0]
def pin_at16 : List (Option Iv) := zs 1
def out_at16 (v : List (Option Iv)) : List (Option Iv) := [v.getD 0 none, iv 0 0, iv 0 0, v.getD 0 none, iv 0 0, iv 0 0]
def s_at16 : Sum := mkS gl0 26 [I1] [An 6] pin_at16 sem_at16
def i_at16 : Inf := ⟨pin_at16, out_at16⟩
def cE (l : List Int) : E := listE (l.map E.c)
def A_three : List E := [listE [cE [5, 0, 0, 5, 0, 0], cE [1, 0, 0, 1, 0, 0], cE [9, 0, 0, 9, 0, 0]]]
def C_three : List E := [listE [cE [1, 0, 0, 9, 0, 0, 1, 4, -1], cE [1, 0, 0, 5, 0, 0, 2, 3, -1], cE [1, 0, 0, 1, 0, 0, -1, -1, 1], cE [5, 0, 0, 5, 0, 0, -1, -1, 0], cE [9, 0, 0, 9, 0, 0, -1, -1, 2]], .c 0]
noncomputable def s_tbuild3 : Sum := cnS s_tbuild A_three C_three
def i_tbuild3 : Inf := i_tbuild
theorem cE_den (l : List Int) (R : Fo) (r : List Int) : (cE l).den R r = cod l := by
  unfold cE
  rw [listE_den, List.map_map]
  congr 1
  conv => rhs; rw [← List.map_id l]
  exact List.map_congr_left fun x _ => rfl
theorem ok_tbuild3 : s_tbuild3.okA Try.prog := by
  refine cn_okM (ks := [cod three16]) ok_tbuild (fun R r => ?_) (fun R r => ?_)
  · simp only [A_three, List.map_cons, List.map_nil, listE_den, cE_den]
    rfl
  · have h : s_tbuild.sem [cod three16] = [cod (treeL three16), 0] := by
      show sem_tbuild [cod three16] = _
      simp only [sem_tbuild, List.getD_cons_zero, dec_cod, three16_ok, if_true]
    rw [h, tree16]
    simp only [C_three, List.map_cons, List.map_nil, listE_den, cE_den, E.den]
noncomputable def s_three16c : Sum := cnS s_three16f [] A_three
def i_three16c : Inf := i_three16f
theorem ok_three16c (h : s_three16f.ok Try.prog) : s_three16c.okA Try.prog := by
  refine cn_okM (ks := []) h (fun R r => rfl) (fun R r => ?_)
  show _ = [cod three16]
  simp only [A_three, List.map_cons, List.map_nil, listE_den, cE_den]
  rfl
theorem inf_tbuild3 : InfOK s_tbuild3 i_tbuild3 := inf_tbuild
end Go.Proofs.Ytgcoidbaoigkeaa.fix
