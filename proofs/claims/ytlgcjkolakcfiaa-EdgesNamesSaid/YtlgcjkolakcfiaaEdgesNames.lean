/-
  The law EdgesNames is answered with true, whatever its arguments, which stay as they were.
-/
import Derived.Test.YtlgcjkolakcfiaaRows
import Derived.Test.YtlgcjkolakcfiaaFacts
import Derived.Test.YtlgcjkolakcfiaaLive
import Derived.Test.YtlgcjkolakcfiaaBnd
set_option linter.unusedVariables false
set_option linter.unusedSimpArgs false
namespace Go.Proofs.Ytlgcjkolakcfiaa.edgesNames
open Go.RowKit Go.ChangeShapes Go.WideShapes Go.ChangeAt Go.Sx fix

def G_EdgesNames : List Sum := [s_alive21, s_edges, s_covers, s_bounds, s_has21]
def I_EdgesNames : List Inf := [i_alive21, i_edges, i_covers, i_bounds, i_has21]
def t_EdgesNames : TX := (.callp 1 [(.c 0), (.c 0), (.c 1), (.c 0), (.c 0), (.c 16), (.c 0), (.c 1), (.c 0), (.c 0), (.c 0), (.c 16), (.c 1), (.c 0), (.c 0), (.c 1), (.c 1)] (.callp 3 [(.c 0), (.c 0), (.c 1), (.c 0), (.c 0), (.c 16), (.c 0), (.c 1), (.c 0), (.c 0), (.c 0), (.c 16), (.c 1), (.c 0), (.c 0), (.c 0), (.c 0), (.c 9), (.c 9)] (.callp 3 [(.c 0), (.c 0), (.c 1), (.c 0), (.c 0), (.c 16), (.c 0), (.c 1), (.c 0), (.c 0), (.c 0), (.c 16), (.c 1), (.c 0), (.c 0), (.c 2), (.c 0), (.c 9), (.c 9)] (.callp 1 [(.c 0), (.c 0), (.c 1), (.c 0), (.c 0), (.c 16), (.c 0), (.c 1), (.c 0), (.c 0), (.c 0), (.c 16), (.c 1), (.c 0), (.c 0), (.c 64), (.c 0)] (.callp 1 [(.c 0), (.c 0), (.c 1), (.c 0), (.c 0), (.c 0), (.c 16), (.c 1), (.c 0), (.c 0), (.c 16), (.c 0), (.c 1), (.c 0), (.c 0), (.c 0), (.c 0)] (.callp 2 [(.c 0), (.c 0), (.c 0), (.c 0), (.c 0), (.c 0), (.c 0), (.c 0), (.c 0), (.c 0), (.c 0), (.c 0), (.c 0), (.c 0), (.c 0), (.c 0), (.c 0)] (.callp 4 [(.c 0), (.c 0), (.c 1), (.c 0), (.c 0), (.c 16), (.c 0), (.c 1), (.c 0), (.c 0), (.c 0), (.c 16), (.c 1), (.c 0), (.c 0), (.c 0), (.c 1)] (.ite (.eq (.v 26) (.c 0)) (.callp 4 [(.c 0), (.c 0), (.c 1), (.c 0), (.c 0), (.c 16), (.c 0), (.c 1), (.c 0), (.c 0), (.c 0), (.c 16), (.c 1), (.c 0), (.c 0), (.c 1), (.c 1)] (.ite (.eq (.v 27) (.c 0)) (.callp 4 [(.c 4), (.c 4), (.c 1), (.c 0), (.c 0), (.c 20), (.c 4), (.c 1), (.c 0), (.c 0), (.c 4), (.c 20), (.c 1), (.c 0), (.c 0), (.c 0), (.c 0)] (.ite (.nz (.v 28)) (.callp 4 [(.c 4), (.c 4), (.c 1), (.c 0), (.c 0), (.c 20), (.c 4), (.c 1), (.c 0), (.c 0), (.c 4), (.c 20), (.c 1), (.c 0), (.c 0), (.c 1), (.c 0)] (.ite (.nz (.v 29)) (.callp 4 [(.c 4), (.c 4), (.c 1), (.c 0), (.c 0), (.c 20), (.c 4), (.c 1), (.c 0), (.c 0), (.c 4), (.c 20), (.c 1), (.c 0), (.c 0), (.c 2), (.c 0)] (.callp 0 [] (.ite (.or (.not (.eq (.v 3) (.c 0))) (.or (.or (.not (.eq (.v 0) (.c (-128)))) (.or (.not (.eq (.v 1) (.c 192))) (.not (.eq (.v 2) (.c 192))))) (.or (.not (.eq (.v 30) (.c 0))) (.or (.not (.nz (.v 8))) (.or (.not (.eq (.v 9) (.c 0))) (.or (.or (.not (.eq (.v 4) (.c 0))) (.or (.not (.eq (.v 5) (.c 0))) (.or (.not (.eq (.v 6) (.c 1))) (.not (.eq (.v 7) (.c 1)))))) (.or (.not (.eq (.v 14) (.c 0))) (.or (.not (.eq (.v 15) (.c 0))) (.or (.not (.eq (.v 19) (.c 2))) (.not (.eq (.v 23) (.c 6)))))))))))) (.ret [(.c 0)])
(.ite (.eq (.v 25) (.c 8)) (.ret [(.c 1)])
(.ret [(.c 0)])))))
(.callp 0 [] (.ret [(.c 0)]))))
(.callp 0 [] (.ret [(.c 0)]))))
(.callp 0 [] (.ret [(.c 0)]))))
(.callp 0 [] (.ret [(.c 0)]))))))))))
theorem tree_EdgesNames : merge (opt I_EdgesNames ([].map ivK) (symFn Try.prog G_EdgesNames 1000 31 [] [Bo])) = t_EdgesNames := by kernel_rfl
theorem g_EdgesNames : Gok Try.prog G_EdgesNames := (more ok_alive21 (more ok_edges (more ok_covers (more ok_bounds (one ok_has21)))))
theorem o_EdgesNames : outsOK G_EdgesNames I_EdgesNames := (outsOK_cons inf_alive21 (outsOK_cons inf_edges (outsOK_cons inf_covers (outsOK_cons inf_bounds (outsOK_cons inf_has21 outsOK_nil)))))
theorem plain : t_EdgesNames.sat G_EdgesNames [] (fun ys => ys = [1]) [] := by
  have e1 : edgesL [0, 0, 1, 0, 0, 16, 0, 1, 0, 0, 0, 16, 1, 0, 0, 1, 1] = [-128, 192, 192, 0] := by decide +kernel
  have e2 : edgesL [0, 0, 1, 0, 0, 16, 0, 1, 0, 0, 0, 16, 1, 0, 0, 64, 0] = [0, 0, 0, 2] := by decide +kernel
  have e3 : edgesL [0, 0, 1, 0, 0, 0, 16, 1, 0, 0, 16, 0, 1, 0, 0, 0, 0] = [0, 0, 0, 6] := by decide +kernel
  have c1 : sem_covers [0, 0, 0, 0, 0, 0, 0, 0, 0, 0, 0, 0, 0, 0, 0, 0, 0] = [0, 8] := by decide +kernel
  have b1 : boundsL [0, 0, 1, 0, 0, 16, 0, 1, 0, 0, 0, 16, 1, 0, 0, 0, 0, 9, 9] = [0, 0, 1, 1, 1, 0] := by decide +kernel
  have b2 : boundsL [0, 0, 1, 0, 0, 16, 0, 1, 0, 0, 0, 16, 1, 0, 0, 2, 0, 9, 9] = [0, 0, 0, 0, 0, 0] := by decide +kernel
  have h1 : sem_has21 [0, 0, 1, 0, 0, 16, 0, 1, 0, 0, 0, 16, 1, 0, 0, 0, 1] = [0] := by decide +kernel
  have h2 : sem_has21 [0, 0, 1, 0, 0, 16, 0, 1, 0, 0, 0, 16, 1, 0, 0, 1, 1] = [0] := by decide +kernel
  have h3 : sem_has21 [4, 4, 1, 0, 0, 20, 4, 1, 0, 0, 4, 20, 1, 0, 0, 0, 0] = [1] := by decide +kernel
  have h4 : sem_has21 [4, 4, 1, 0, 0, 20, 4, 1, 0, 0, 4, 20, 1, 0, 0, 1, 0] = [1] := by decide +kernel
  have h5 : sem_has21 [4, 4, 1, 0, 0, 20, 4, 1, 0, 0, 4, 20, 1, 0, 0, 2, 0] = [0] := by decide +kernel
  simp only [t_EdgesNames, G_EdgesNames, s_alive21, s_edges, s_covers, s_bounds, s_has21, TX.sat, XB.prop, X.den, List.map_cons, List.map_nil, List.getElem?_cons_zero, List.getElem?_cons_succ, List.cons_append, List.nil_append, List.getD_cons_zero, List.getD_cons_succ, mkS, mkP, and_true, true_and, Int.not_lt, Int.not_le, not_or, not_and, Classical.not_not, ne_eq, not_true_eq_false, not_false_eq_true, sem_alive21, sem_alive, sem_edges, sem_bounds, ex4, ex6, e1, e2, e3, c1, b1, b2, h1, h2, h3, h4, h5]
  simp

theorem range_nil : rangeOK [] [] := trivial
set_option maxRecDepth 100000 in
theorem lifted (os : Os) (started : os.Started) (H : Type) (enc : TypeId × Value → H) :
    ReturnsInHanded {} Try.checked os 31 .any (Rows.edgesNamesSpec.pre6 enc Try.prog Try.f31 Rows.edgesNamesRow.domain false) (Rows.edgesNamesSpec.post enc Try.prog Try.f31 false true false false) := by
  refine returnsInHanded_of_change (C := Try.checked) facts.own started (by kernel_rfl) Try.func31
    (ChangeSpec.witness6 (enc := enc) (C := Try.checked) false ⟨#[], #[], []⟩ 8 (by kernel_rfl) (by kernel_rfl) (by kernel_rfl) (by kernel_rfl)) ?_
  intro W base args ds gs before hval0 hW hcnd _
  have hval : ∀ (j : Nat) t v, Try.f31.params[j]? = some t → args[j]? = some v → Value.okWide Try.prog W .any base t v := hval0
  have hW' := hW
  obtain ⟨p, q, hA0, hV, rfl, hfz, hnd⟩ := hW
  have hA : DataW.TrodAll enc Try.prog W 0 (fun _ => true) true Try.f31.params.toList args.toList ds p := hA0
  rw [Try.params31] at hA hval
  obtain ⟨hargs, rfl, rfl⟩ := trodAll_nil hA
  obtain rfl : args = #[] := by cases args; simp_all
  obtain ⟨rfl, rfl⟩ := trodVars_none hV
  clear hA0 hval0
  have hxs : #[] = (mkShs [] []).toArray := rfl
  have hlen : ([] : List Int).length = total [] := rfl
  have hcalls := law_opt facts.mixed g_EdgesNames o_EdgesNames tree_EdgesNames hlen (range_vs (range_nil : rangeOK _ _)) (plain ) W
  rw [← hxs] at hcalls
  refine hcalls.mono fun e W' ⟨he, bel⟩ => ?_
  subst he
  exact ⟨_, rfl, _, _, _, [], _, [], hW', trodAll_mk1 (shut_bool Try.underlying4 _), trodAll_mk0, rfl, bel.frame _, fun h => by cases h⟩

theorem over : Rows.edgesNamesRow.holds Try.pinned (OpenSpec.ofChange Rows.edgesNamesSpec) :=
  OpenClaim.holds_of_wide 31 Try.f31 rfl rfl rfl rfl rfl rfl rfl ⟨rfl, rfl, rfl, rfl, rfl⟩ rfl rfl rfl rfl rfl (by kernel_rfl) Try.func31
    (facts.joined (by kernel_rfl) (by kernel_rfl) (by kernel_rfl) (by kernel_rfl) (by kernel_rfl) (by kernel_rfl) (by kernel_rfl) rfl rfl rfl rfl)
    (of_decide_eq_true (by kernel_rfl)) (by unfold Func.isWrapper; first | (rw [if_pos (by decide +kernel)]; kernel_rfl) | (rw [if_neg (by decide +kernel)]; exact ⟨rfl, rfl⟩))
    (fun os started H enc _ => lifted os started H enc)

/-- THE STATEMENT. -/
theorem proved : Rows.EdgesNamesSaid := over
#print axioms proved

end Go.Proofs.Ytlgcjkolakcfiaa.edgesNames
