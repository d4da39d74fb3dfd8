/-
  The law FrustumNames is answered with true, whatever the world.
-/
import Derived.Test.YtjbkcjbjllmhfaaDoorRows
import Derived.Test.YtjbkcjbjllmhfaaDoorFFacts
import Derived.Test.YtjbkcjbjllmhfaaDoorCards
import Derived.Test.YtjbkcjbjllmhfaaDoorTie
import Derived.Test.YtjbkcjbjllmhfaaDoorFDoorA
import Derived.SevenTiedAt
import Derived.Test.YtjbkcjbjllmhfaaDoorFShad
set_option linter.unusedVariables false
set_option linter.unusedSimpArgs false
namespace Go.Proofs.YtjbkcjbjllmhfaaDoor.frustumNames
open Go.RowKit Go.ChangeShapes Go.WideShapes Go.ChangeAt Go.Sx fix

noncomputable def G_FrustumNames : List Sum := [s_alive17, s_shadow, s_fview]
def I_FrustumNames : List Inf := [i_alive17, i_shadow, i_fview]
def t_FrustumNames : TX := (.callp 1 [(.c 0), (.c 0), (.c 0), (.c 256), (.c 0), (.c 0), (.c 0), (.c 256), (.c 0), (.c 0), (.c 0), (.c 256), (.c 64), (.c 256), (.c 64), (.c 64), (.c (-32)), (.c (-32)), (.c 0), (.c 32), (.c 32), (.c 512), (.c 0), (.c 0), (.c 63), (.c 63)] (.callp 1 [(.c 0), (.c 0), (.c 0), (.c 256), (.c 0), (.c 0), (.c 0), (.c 256), (.c 0), (.c 0), (.c 0), (.c 256), (.c 64), (.c 256), (.c 64), (.c 64), (.c (-32)), (.c (-32)), (.c 512), (.c 32), (.c 32), (.c 512), (.c 0), (.c 0), (.c 30), (.c 30)] (.callp 1 [(.c 0), (.c 0), (.c 0), (.c 256), (.c 0), (.c 0), (.c 0), (.c 256), (.c 0), (.c 0), (.c 0), (.c 256), (.c 64), (.c 256), (.c 64), (.c 64), (.c 0), (.c 0), (.c 0), (.c 9), (.c 9), (.c 255), (.c 0), (.c 0), (.c 63), (.c 63)] (.callp 1 [(.c 0), (.c 0), (.c 0), (.c 256), (.c 0), (.c 0), (.c 0), (.c 256), (.c 0), (.c 0), (.c 0), (.c 256), (.c 64), (.c 256), (.c 64), (.c 64), (.c 600), (.c 0), (.c 512), (.c 700), (.c 9), (.c 512), (.c 0), (.c 0), (.c 63), (.c 63)] (.callp 1 [(.c 0), (.c 0), (.c 0), (.c 256), (.c 0), (.c 0), (.c 0), (.c 256), (.c 0), (.c 0), (.c 0), (.c 256), (.c 64), (.c 256), (.c 64), (.c 64), (.c 0), (.c 0), (.c 0), (.c 9), (.c 9), (.c 9), (.c 0), (.c 0), (.c 64), (.c 63)] (.callp 2 [(.c 0), (.c 0), (.c 0), (.c 256), (.c 0), (.c 0), (.c 0), (.c 256), (.c 0), (.c 0), (.c 0), (.c 256), (.c 64), (.c 256), (.c 64), (.c 64), (.c 0), (.c 0), (.c 0), (.c 9), (.c 9), (.c 4097)] (.callp 2 [(.c 0), (.c 0), (.c 0), (.c 0), (.c 0), (.c 0), (.c 0), (.c 0), (.c 0), (.c 0), (.c 0), (.c 0), (.c 0), (.c 0), (.c 0), (.c 0), (.c 0), (.c 0), (.c 0), (.c 9), (.c 9), (.c 9)] (.callp 0 [] (.ite (.or (.not (.nz (.v 5))) (.or (.not (.eq (.v 6) (.c 0))) (.or (.or (.or (.not (.eq (.v 0) (.c 24))) (.or (.not (.eq (.v 1) (.c 24))) (.or (.not (.eq (.v 2) (.c 39))) (.not (.eq (.v 3) (.c 39)))))) (.not (.eq (.v 4) (.c 65536)))) (.or (.not (.nz (.v 12))) (.or (.not (.eq (.v 13) (.c 0))) (.or (.or (.or (.not (.eq (.v 7) (.c 28))) (.or (.not (.eq (.v 8) (.c 28))) (.or (.not (.eq (.v 9) (.c 30))) (.not (.eq (.v 10) (.c 30)))))) (.not (.eq (.v 11) (.c 32768)))) (.or (.not (.eq (.v 19) (.c 0))) (.or (.not (.eq (.v 20) (.c 0))) (.or (.not (.eq (.v 26) (.c 0))) (.or (.not (.eq (.v 27) (.c 0))) (.or (.not (.eq (.v 34) (.c 2))) (.not (.eq (.v 41) (.c 8)))))))))))))) (.ret [(.c 0)])
(.ite (.eq (.v 48) (.c 150)) (.ret [(.c 1)])
(.ret [(.c 0)])))))))))))
theorem tree_FrustumNames : merge (optFL [] I_FrustumNames [] ([].map ivK) (symFnL Tryd.prog noLp gl0 G_FrustumNames 1000 3 [] [Bo])) = t_FrustumNames := by kernel_rfl
theorem g_FrustumNames : Gok Tryd.prog G_FrustumNames := (more ok_alive17 (more ok_shadow (one ok_fview)))
theorem o_FrustumNames : outsOK G_FrustumNames I_FrustumNames := (outsOK_cons inf_alive17 (outsOK_cons inf_shadow (outsOK_cons inf_fview outsOK_nil)))
theorem v0 : sem_shadow [0, 0, 0, 256, 0, 0, 0, 256, 0, 0, 0, 256, 64, 256, 64, 64, -32, -32, 0, 32, 32, 512, 0, 0, 63, 63] = [24, 24, 39, 39, 65536, 1, 0] := by kernel_rfl
theorem v1 : sem_shadow [0, 0, 0, 256, 0, 0, 0, 256, 0, 0, 0, 256, 64, 256, 64, 64, -32, -32, 512, 32, 32, 512, 0, 0, 30, 30] = [28, 28, 30, 30, 32768, 1, 0] := by kernel_rfl
theorem v2 : sem_shadow [0, 0, 0, 256, 0, 0, 0, 256, 0, 0, 0, 256, 64, 256, 64, 64, 0, 0, 0, 9, 9, 255, 0, 0, 63, 63] = [0, 0, 0, 0, 0, 0, 0] := by kernel_rfl
theorem v3 : sem_shadow [0, 0, 0, 256, 0, 0, 0, 256, 0, 0, 0, 256, 64, 256, 64, 64, 600, 0, 512, 700, 9, 512, 0, 0, 63, 63] = [0, 0, 0, 0, 0, 0, 0] := by kernel_rfl
theorem v4 : sem_shadow [0, 0, 0, 256, 0, 0, 0, 256, 0, 0, 0, 256, 64, 256, 64, 64, 0, 0, 0, 9, 9, 9, 0, 0, 64, 63] = [0, 0, 0, 0, 0, 0, 2] := by kernel_rfl
theorem v5 : sem_fview [0, 0, 0, 256, 0, 0, 0, 256, 0, 0, 0, 256, 64, 256, 64, 64, 0, 0, 0, 9, 9, 4097] = [0, 0, 0, 0, 0, 0, 8] := by kernel_rfl
theorem v6 : sem_fview [0, 0, 0, 0, 0, 0, 0, 0, 0, 0, 0, 0, 0, 0, 0, 0, 0, 0, 0, 9, 9, 9] = [0, 0, 0, 0, 0, 0, 150] := by kernel_rfl
theorem plain : t_FrustumNames.sat G_FrustumNames [] (fun ys => ys = [1]) [] [] := by
  simp only [t_FrustumNames, G_FrustumNames, s_alive17, s_fview, s_shadow, TX.sat, XB.prop, X.den, List.map_cons, List.map_nil, List.getElem?_cons_zero, List.getElem?_cons_succ, List.cons_append, List.nil_append, List.getD_cons_zero, List.getD_cons_succ, mkS, mkP, and_true, true_and, Int.not_lt, Int.not_le, not_or, not_and, Classical.not_not, ne_eq, not_true_eq_false, not_false_eq_true, sem_alive17, sem_alive, v0, v1, v2, v3, v4, v5, v6]
  simp
theorem range_nil : rangeOK [] [] := trivial
set_option maxRecDepth 100000 in
theorem lifted (os : Os) (started : os.Started) (H : Type) (enc : TypeId × Value → H) :
    ReturnsInHanded {} Tryd.checked os 3 .any (fun w args => (Rows.frustumNamesSpec.pre enc Tryd.prog Tryd.f3 Rows.frustumNamesRow.domain false w args ∧ laidMet Tryd.prog [("diorama/frustum.world", Rows.laid_diorama_frustum_world)] w) ∧ sizedMet enc Tryd.prog Tryd.f3 (OpenSpec.ofChange Rows.frustumNamesSpec) false w args) (Rows.frustumNamesSpec.post enc Tryd.prog Tryd.f3 false true false false) := by
  refine returnsInHanded_of_change_and (C := Tryd.checked) (X := fun w _ => laidMet Tryd.prog [("diorama/frustum.world", Rows.laid_diorama_frustum_world)] w) (fun _ _ _ hh h => h.of_heap hh) facts.own started (by kernel_rfl) Tryd.func3
    (ChangeSpec.witness_at (enc := enc) (C := Tryd.checked) (os := os) (X := fun w _ => laidMet Tryd.prog [("diorama/frustum.world", Rows.laid_diorama_frustum_world)] w) false (laidWorld os) #[] 8 rfl (by kernel_rfl) (by kernel_rfl) (by kernel_rfl) (by kernel_rfl) (by kernel_rfl) (laidWorld_met os _)) ?_
  intro W base args ds gs before hval0 hW hcnd _ hL _
  have hval : ∀ (j : Nat) t v, Tryd.f3.params[j]? = some t → args[j]? = some v → Value.okWide Tryd.prog W .any base t v := hval0
  have hW' := hW
  obtain ⟨p, q, hA0, hV, rfl, hfz, hnd⟩ := hW
  have hA : DataW.TrodAll enc Tryd.prog W 0 (fun _ => true) true Tryd.f3.params.toList args.toList ds p := hA0
  rw [Tryd.params3] at hA hval
  obtain ⟨hargs, rfl, rfl⟩ := trodAll_nil hA
  obtain rfl : args = #[] := by cases args; simp_all
  obtain ⟨rfl, rfl⟩ := trodVars_none hV
  clear hA0 hval0
  have hxs : #[] = (mkShs [] []).toArray := rfl
  have hlen : ([] : List Int).length = total [] := rfl
  have hcalls := lawF facts.mixed g_FrustumNames o_FrustumNames tree_FrustumNames rfl rfl hlen (range_vs (range_nil : rangeOK _ _)) (plain ) W (glob_of_laid hL)
  rw [← hxs] at hcalls
  refine hcalls.mono fun e W' ⟨he, bel⟩ => ?_
  subst he
  exact ⟨_, rfl, _, _, _, [], _, [], hW', trodAll_mk1 (shut_bool Tryd.underlying4 _), trodAll_mk0, rfl, bel.frame _, fun h => by cases h⟩

theorem over : Rows.frustumNamesRow.holds Tryd.pinned (OpenSpec.ofChange Rows.frustumNamesSpec) :=
  OpenClaim.holds_of_wide 3 Tryd.f3 rfl rfl rfl rfl rfl rfl rfl ⟨rfl, rfl, rfl, rfl, rfl⟩ rfl rfl rfl rfl rfl (by kernel_rfl) Tryd.func3
    (facts.joined (by kernel_rfl) (by kernel_rfl) (by kernel_rfl) (by kernel_rfl) (by kernel_rfl) (by kernel_rfl) (by kernel_rfl) rfl rfl rfl rfl)
    (of_decide_eq_true (by kernel_rfl)) (by unfold Func.isWrapper; first | (rw [if_pos (by decide +kernel)]; kernel_rfl) | (rw [if_neg (by decide +kernel)]; exact ⟨rfl, rfl⟩))
    (fun os started H enc _ => lifted os started H enc)

theorem noStand : (Tryd.f3.params.all fun t => !Tryd.prog.wantsStandIn t) = true := by kernel_rfl
/-- THE STATEMENT: the row, its one listed variable tied to the program's text. -/
theorem proved : Rows.FrustumNamesCardSaid :=
  Claim7.holds_tied_plain_at .later [] [.data] true (true, "ba5fbdf844d12a9b064d108c88059d5ef4c8b7d3707af7476f83711cd4242958") false over (fun _ h => by cases h) (by kernel_rfl) (fun _ h => by cases h) frustumNames_row_tie rfl ⟨rfl, rfl⟩ (by kernel_rfl) rfl
    (fun f fn hf hfn => by
      obtain rfl : f = 3 := Option.some.inj ((show Tryd.prog.funcNamed Rows.frustumNamesRow.func = some 3 by kernel_rfl).symm.trans hf) |>.symm
      obtain rfl : fn = Tryd.f3 := (Option.some.inj (Tryd.func3.symm.trans hfn)).symm
      refine ⟨by kernel_rfl, fun j t ht => ?_⟩
      have := Array.all_eq_true_iff_forall_mem.1 noStand t (Array.mem_of_getElem? ht)
      exact (by simpa using this : Tryd.prog.wantsStandIn t = false))
    (by kernel_rfl)
#print axioms proved

end Go.Proofs.YtjbkcjbjllmhfaaDoor.frustumNames
