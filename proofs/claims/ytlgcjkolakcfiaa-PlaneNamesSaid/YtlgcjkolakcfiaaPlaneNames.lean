/-
  The law PlaneNames is answered with true, whatever its arguments, which stay as they were.
-/
import Derived.Test.YtlgcjkolakcfiaaRows
import Derived.Test.YtlgcjkolakcfiaaFacts
import Derived.Test.YtlgcjkolakcfiaaLive
set_option linter.unusedVariables false
set_option linter.unusedSimpArgs false
namespace Go.Proofs.Ytlgcjkolakcfiaa.planeNames
open Go.RowKit Go.ChangeShapes Go.WideShapes Go.ChangeAt Go.Sx fix

def G_PlaneNames : List Sum := [s_alive22, s_plat]
def I_PlaneNames : List Inf := [i_alive22, i_plat]
def t_PlaneNames : TX := (.callp 1 [(.c 4), (.c 4), (.c 1000), (.c 0), (.c 7), (.c 20), (.c 4), (.c 2000), (.c 90), (.c 7), (.c 4), (.c 20), (.c 4000), (.c 30), (.c 7), (.c 0), (.c 0)] (.callp 1 [(.c 4), (.c 4), (.c 1000), (.c 0), (.c 7), (.c 20), (.c 4), (.c 2000), (.c 90), (.c 7), (.c 4), (.c 20), (.c 4000), (.c 30), (.c 7), (.c 0), (.c 1)] (.callp 1 [(.c 4), (.c 4), (.c 1000), (.c 0), (.c 7), (.c 20), (.c 4), (.c 2000), (.c 90), (.c 7), (.c 4), (.c 20), (.c 4000), (.c 30), (.c 7), (.c 1), (.c 1)] (.callp 1 [(.c 4), (.c 4), (.c 1000), (.c 0), (.c 7), (.c 20), (.c 4), (.c 2000), (.c 90), (.c 7), (.c 4), (.c 20), (.c 4000), (.c 30), (.c 7), (.c 2), (.c 2)] (.callp 1 [(.c 4), (.c 4), (.c 1000), (.c 0), (.c 7), (.c 20), (.c 4), (.c 2000), (.c 90), (.c 7), (.c 4), (.c 20), (.c 4000), (.c 30), (.c 7), (.c 64), (.c 0)] (.callp 1 [(.c 0), (.c 0), (.c 0), (.c 0), (.c 0), (.c 0), (.c 0), (.c 0), (.c 0), (.c 0), (.c 0), (.c 0), (.c 0), (.c 0), (.c 0), (.c 0), (.c 0)] (.callp 0 [] (.ite (.or (.not (.eq (.v 5) (.c 0))) (.or (.or (.not (.eq (.v 0) (.c 4))) (.or (.not (.eq (.v 1) (.c 4))) (.or (.not (.eq (.v 2) (.c 1000))) (.or (.not (.eq (.v 3) (.c 0))) (.not (.eq (.v 4) (.c 7))))))) (.or (.not (.eq (.v 11) (.c 0))) (.or (.or (.not (.eq (.v 6) (.c 4))) (.or (.not (.eq (.v 7) (.c 12))) (.or (.not (.eq (.v 8) (.c 2500))) (.or (.not (.eq (.v 9) (.c 24))) (.not (.eq (.v 10) (.c 7))))))) (.or (.not (.eq (.v 17) (.c 6))) (.or (.not (.eq (.v 23) (.c 6))) (.not (.eq (.v 29) (.c 2))))))))) (.ret [(.c 0)])
(.ite (.eq (.v 35) (.c 8)) (.ret [(.c 1)])
(.ret [(.c 0)]))))))))))
theorem tree_PlaneNames : merge (opt I_PlaneNames ([].map ivK) (symFn Try.prog G_PlaneNames 1000 25 [] [Bo])) = t_PlaneNames := by kernel_rfl
theorem g_PlaneNames : Gok Try.prog G_PlaneNames := (more ok_alive22 (one ok_plat))
theorem o_PlaneNames : outsOK G_PlaneNames I_PlaneNames := (outsOK_cons inf_alive22 (outsOK_cons inf_plat outsOK_nil))
theorem plain : t_PlaneNames.sat G_PlaneNames [] (fun ys => ys = [1]) [] := by
  have h1 : atL [4, 4, 1000, 0, 7, 20, 4, 2000, 90, 7, 4, 20, 4000, 30, 7, 0, 0] = [4, 4, 1000, 0, 7, 0] := by decide +kernel
  have h2 : atL [4, 4, 1000, 0, 7, 20, 4, 2000, 90, 7, 4, 20, 4000, 30, 7, 0, 1] = [4, 12, 2500, 24, 7, 0] := by decide +kernel
  have h3 : atL [4, 4, 1000, 0, 7, 20, 4, 2000, 90, 7, 4, 20, 4000, 30, 7, 1, 1] = [0, 0, 0, 0, 0, 6] := by decide +kernel
  have h4 : atL [4, 4, 1000, 0, 7, 20, 4, 2000, 90, 7, 4, 20, 4000, 30, 7, 2, 2] = [0, 0, 0, 0, 0, 6] := by decide +kernel
  have h5 : atL [4, 4, 1000, 0, 7, 20, 4, 2000, 90, 7, 4, 20, 4000, 30, 7, 64, 0] = [0, 0, 0, 0, 0, 2] := by decide +kernel
  have h6 : atL [0, 0, 0, 0, 0, 0, 0, 0, 0, 0, 0, 0, 0, 0, 0, 0, 0] = [0, 0, 0, 0, 0, 8] := by decide +kernel
  simp only [t_PlaneNames, G_PlaneNames, s_alive22, s_plat, TX.sat, XB.prop, X.den, List.map_cons, List.map_nil, List.getElem?_cons_zero, List.getElem?_cons_succ, List.cons_append, List.nil_append, List.getD_cons_zero, List.getD_cons_succ, mkS, mkP, and_true, true_and, Int.not_lt, Int.not_le, not_or, not_and, Classical.not_not, ne_eq, not_true_eq_false, not_false_eq_true, sem_alive22, sem_alive, sem_plat, ex6, h1, h2, h3, h4, h5, h6]
  simp

theorem range_nil : rangeOK [] [] := trivial
set_option maxRecDepth 100000 in
theorem lifted (os : Os) (started : os.Started) (H : Type) (enc : TypeId × Value → H) :
    ReturnsInHanded {} Try.checked os 25 .any (Rows.planeNamesSpec.pre6 enc Try.prog Try.f25 Rows.planeNamesRow.domain false) (Rows.planeNamesSpec.post enc Try.prog Try.f25 false true false false) := by
  refine returnsInHanded_of_change (C := Try.checked) facts.own started (by kernel_rfl) Try.func25
    (ChangeSpec.witness6 (enc := enc) (C := Try.checked) false ⟨#[], #[], []⟩ 8 (by kernel_rfl) (by kernel_rfl) (by kernel_rfl) (by kernel_rfl)) ?_
  intro W base args ds gs before hval0 hW hcnd _
  have hval : ∀ (j : Nat) t v, Try.f25.params[j]? = some t → args[j]? = some v → Value.okWide Try.prog W .any base t v := hval0
  have hW' := hW
  obtain ⟨p, q, hA0, hV, rfl, hfz, hnd⟩ := hW
  have hA : DataW.TrodAll enc Try.prog W 0 (fun _ => true) true Try.f25.params.toList args.toList ds p := hA0
  rw [Try.params25] at hA hval
  obtain ⟨hargs, rfl, rfl⟩ := trodAll_nil hA
  obtain rfl : args = #[] := by cases args; simp_all
  obtain ⟨rfl, rfl⟩ := trodVars_none hV
  clear hA0 hval0
  have hxs : #[] = (mkShs [] []).toArray := rfl
  have hlen : ([] : List Int).length = total [] := rfl
  have hcalls := law_opt facts.mixed g_PlaneNames o_PlaneNames tree_PlaneNames hlen (range_vs (range_nil : rangeOK _ _)) (plain ) W
  rw [← hxs] at hcalls
  refine hcalls.mono fun e W' ⟨he, bel⟩ => ?_
  subst he
  exact ⟨_, rfl, _, _, _, [], _, [], hW', trodAll_mk1 (shut_bool Try.underlying4 _), trodAll_mk0, rfl, bel.frame _, fun h => by cases h⟩

theorem over : Rows.planeNamesRow.holds Try.pinned (OpenSpec.ofChange Rows.planeNamesSpec) :=
  OpenClaim.holds_of_wide 25 Try.f25 rfl rfl rfl rfl rfl rfl rfl ⟨rfl, rfl, rfl, rfl, rfl⟩ rfl rfl rfl rfl rfl (by kernel_rfl) Try.func25
    (facts.joined (by kernel_rfl) (by kernel_rfl) (by kernel_rfl) (by kernel_rfl) (by kernel_rfl) (by kernel_rfl) (by kernel_rfl) rfl rfl rfl rfl)
    (of_decide_eq_true (by kernel_rfl)) (by unfold Func.isWrapper; first | (rw [if_pos (by decide +kernel)]; kernel_rfl) | (rw [if_neg (by decide +kernel)]; exact ⟨rfl, rfl⟩))
    (fun os started H enc _ => lifted os started H enc)

/-- THE STATEMENT. -/
theorem proved : Rows.PlaneNamesSaid := over
#print axioms proved

end Go.Proofs.Ytlgcjkolakcfiaa.planeNames
