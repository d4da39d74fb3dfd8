/-
  The law BoxNames is answered with true, whatever its arguments, which stay as they were.
-/
import Derived.Test.YtjbkcjbjllmhfaaRows
import Derived.Test.YtjbkcjbjllmhfaaFacts
import Derived.Test.YtjbkcjbjllmhfaaBox
set_option linter.unusedVariables false
set_option linter.unusedSimpArgs false
namespace Go.Proofs.Ytjbkcjbjllmhfaa.boxNames
open Go.RowKit Go.ChangeShapes Go.WideShapes Go.ChangeAt Go.Sx fix

def G_BoxNames : List Sum := [s_alive03, s_bjoin, s_bturned, s_holds, s_bcheck]
def I_BoxNames : List Inf := [i_alive03, i_bjoin, i_bturned, i_holds, i_bcheck]
def t_BoxNames : TX := (.callp 1 [(.c 1), (.c 2), (.c 0), (.c 3), (.c 5), (.c 0), (.c 0), (.c 0), (.c 9), (.c 0), (.c 0), (.c 9)] (.callp 2 [(.c 128), (.c 0), (.c 0), (.c 0), (.c (-256)), (.c 0), (.c 256), (.c 256), (.c 0), (.c 1), (.c 2), (.c 0), (.c 3), (.c 5), (.c 0)] (.callp 2 [(.c 0), (.c 1025), (.c 0), (.c 0), (.c 0), (.c 0), (.c 0), (.c 0), (.c 0), (.c 1), (.c 2), (.c 0), (.c 3), (.c 5), (.c 0)] (.callp 2 [(.c 1024), (.c 0), (.c 0), (.c 0), (.c 0), (.c 0), (.c 0), (.c 0), (.c 0), (.c 0), (.c 0), (.c 0), (.c 32768), (.c 0), (.c 0)] (.callp 0 [] (.ite (.or (.not (.eq (.v 6) (.c 0))) (.or (.or (.or (.not (.eq (.v 0) (.c 0))) (.or (.not (.eq (.v 1) (.c 0))) (.not (.eq (.v 2) (.c 0))))) (.or (.not (.eq (.v 3) (.c 3))) (.or (.not (.eq (.v 4) (.c 5))) (.not (.eq (.v 5) (.c 9)))))) (.or (.not (.eq (.v 13) (.c 0))) (.or (.or (.or (.not (.eq (.v 7) (.c 0))) (.or (.not (.eq (.v 8) (.c (-5)))) (.not (.eq (.v 9) (.c 3))))) (.or (.not (.eq (.v 10) (.c 1))) (.or (.not (.eq (.v 11) (.c (-2)))) (.not (.eq (.v 12) (.c 8)))))) (.or (.not (.eq (.v 20) (.c 2))) (.not (.eq (.v 27) (.c 20)))))))) (.ret [(.c 0)])
(.callp 4 [(.c 1), (.c 0), (.c 0), (.c 0), (.c 0), (.c 0)] (.ite (.not (.eq (.v 29) (.c 8))) (.ret [(.c 0)])
(.callp 3 [(.c 1), (.c 2), (.c 0), (.c 3), (.c 5), (.c 0), (.c 3), (.c 2), (.c 0)] (.ite (.not (.nz (.v 30))) (.ret [(.c 0)])
(.callp 3 [(.c 1), (.c 2), (.c 0), (.c 3), (.c 5), (.c 0), (.c 3), (.c 6), (.c 0)] (.ite (.eq (.v 31) (.c 0)) (.ret [(.c 1)])
(.ret [(.c 0)])))))))))))))
theorem tree_BoxNames : merge (optF I_BoxNames [] ([].map ivK) (symFn Try.prog G_BoxNames 1000 11 [] [Bo])) = t_BoxNames := by kernel_rfl
theorem g_BoxNames : Gok Try.prog G_BoxNames := (more ok_alive03 (more ok_bjoin (more ok_bturned (more ok_holds (one ok_bcheck)))))
theorem o_BoxNames : outsOK G_BoxNames I_BoxNames := (outsOK_cons inf_alive03 (outsOK_cons inf_bjoin (outsOK_cons inf_bturned (outsOK_cons inf_holds (outsOK_cons inf_bcheck outsOK_nil)))))
theorem plain : t_BoxNames.sat G_BoxNames [] (fun ys => ys = [1]) [] := by
  have h1 : joinL [1, 2, 0, 3, 5, 0, 0, 0, 9, 0, 0, 9] = [0, 0, 0, 3, 5, 9, 0] := by decide +kernel
  have h2 : turnedL [128, 0, 0, 0, -256, 0, 256, 256, 0, 1, 2, 0, 3, 5, 0] = [0, -5, 3, 1, -2, 8, 0] := by decide +kernel
  have h3 : turnedL [0, 1025, 0, 0, 0, 0, 0, 0, 0, 1, 2, 0, 3, 5, 0] = [0, 0, 0, 0, 0, 0, 2] := by decide +kernel
  have h4 : turnedL [1024, 0, 0, 0, 0, 0, 0, 0, 0, 0, 0, 0, 32768, 0, 0] = [0, 0, 0, 0, 0, 0, 20] := by decide +kernel
  have h5 : boxB [1, 0, 0, 0, 0, 0] 0 = false := by decide +kernel
  have h6 : holdsB [1, 2, 0, 3, 5, 0, 3, 2, 0] = true := by decide +kernel
  have h7 : holdsB [1, 2, 0, 3, 5, 0, 3, 6, 0] = false := by decide +kernel
  simp only [t_BoxNames, G_BoxNames, s_alive03, s_bjoin, s_bturned, s_holds, s_bcheck, TX.sat, XB.prop, X.den, List.map_cons, List.map_nil, List.getElem?_cons_zero, List.getElem?_cons_succ, List.cons_append, List.nil_append, List.getD_cons_zero, List.getD_cons_succ, mkS, mkP, and_true, true_and, Int.not_lt, Int.not_le, not_or, not_and, Classical.not_not, ne_eq, not_true_eq_false, not_false_eq_true, sem_alive03, sem_alive, sem_bjoin, sem_bturned, sem_holds, sem_bcheck, ex7, h1, h2, h3, h4, h5, h6, h7, er, b01]
  simp
theorem range_nil : rangeOK [] [] := trivial
set_option maxRecDepth 100000 in
theorem lifted (os : Os) (started : os.Started) (H : Type) (enc : TypeId × Value → H) :
    ReturnsInHanded {} Try.checked os 11 .any (Rows.boxNamesSpec.pre6 enc Try.prog Try.f11 Rows.boxNamesRow.domain false) (Rows.boxNamesSpec.post enc Try.prog Try.f11 false true false false) := by
  refine returnsInHanded_of_change (C := Try.checked) facts.own started (by kernel_rfl) Try.func11
    (ChangeSpec.witness6 (enc := enc) (C := Try.checked) false ⟨#[], #[], []⟩ 8 (by kernel_rfl) (by kernel_rfl) (by kernel_rfl) (by kernel_rfl)) ?_
  intro W base args ds gs before hval0 hW hcnd _
  have hval : ∀ (j : Nat) t v, Try.f11.params[j]? = some t → args[j]? = some v → Value.okWide Try.prog W .any base t v := hval0
  have hW' := hW
  obtain ⟨p, q, hA0, hV, rfl, hfz, hnd⟩ := hW
  have hA : DataW.TrodAll enc Try.prog W 0 (fun _ => true) true Try.f11.params.toList args.toList ds p := hA0
  rw [Try.params11] at hA hval
  obtain ⟨hargs, rfl, rfl⟩ := trodAll_nil hA
  obtain rfl : args = #[] := by cases args; simp_all
  obtain ⟨rfl, rfl⟩ := trodVars_none hV
  clear hA0 hval0
  have hxs : #[] = (mkShs [] []).toArray := rfl
  have hlen : ([] : List Int).length = total [] := rfl
  have hcalls := lawF facts.mixed g_BoxNames o_BoxNames tree_BoxNames hlen (range_vs (range_nil : rangeOK _ _)) (plain ) W
  rw [← hxs] at hcalls
  refine hcalls.mono fun e W' ⟨he, bel⟩ => ?_
  subst he
  exact ⟨_, rfl, _, _, _, [], _, [], hW', trodAll_mk1 (shut_bool Try.underlying4 _), trodAll_mk0, rfl, bel.frame _, fun h => by cases h⟩

theorem over : Rows.boxNamesRow.holds Try.pinned (OpenSpec.ofChange Rows.boxNamesSpec) :=
  OpenClaim.holds_of_wide 11 Try.f11 rfl rfl rfl rfl rfl rfl rfl ⟨rfl, rfl, rfl, rfl, rfl⟩ rfl rfl rfl rfl rfl (by kernel_rfl) Try.func11
    (facts.joined (by kernel_rfl) (by kernel_rfl) (by kernel_rfl) (by kernel_rfl) (by kernel_rfl) (by kernel_rfl) (by kernel_rfl) rfl rfl rfl rfl)
    (of_decide_eq_true (by kernel_rfl)) (by unfold Func.isWrapper; first | (rw [if_pos (by decide +kernel)]; kernel_rfl) | (rw [if_neg (by decide +kernel)]; exact ⟨rfl, rfl⟩))
    (fun os started H enc _ => lifted os started H enc)

/-- THE STATEMENT. -/
theorem proved : Rows.BoxNamesSaid := over
#print axioms proved

end Go.Proofs.Ytjbkcjbjllmhfaa.boxNames
