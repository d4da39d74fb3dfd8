/-
  The law FindFinds is answered with true, whatever its arguments, which stay as they were.
-/
import Derived.Test.YtgcoidbaoigkeaaGreatDoorRows
import Derived.Test.YtgcoidbaoigkeaaGreatDoorCards
import Derived.Test.YtgcoidbaoigkeaaGreatDoorTie
import Derived.Test.YtgcoidbaoigkeaaGreatDoorFDoorA
import Derived.SevenTiedAt
import Derived.Test.YtgcoidbaoigkeaaGreatDoorLFind
set_option linter.unusedVariables false
set_option linter.unusedSimpArgs false
namespace Go.Proofs.YtgcoidbaoigkeaaGreatDoor.findFinds
open Go.RowKit Go.ChangeShapes Go.WideShapes Go.ChangeAt Go.Sx fix

noncomputable def G_FindFinds : List Sum := [s_twin, s_fall, s_rall, s_query, s_rquery, s_fseen, s_rseen, s_same18, s_rsame16]
def I_FindFinds : List Inf := [i_twin, i_fall, i_rall, i_query, i_rquery, i_fseen, i_rseen, i_same18, i_rsame16]
def t_FindFinds : TX := (.ite (.or (.lt (.c 1000) (.ln (.v 0))) (.lt (.c 400) (.ln (.v 1)))) (.ret [(.c 1)])
(.call 0 [(.v 0)] (.asrt (.le (.ln (.v 1)) (.c 1000000)) (.call 1 [(.v 1), (.v 2), (.v 3), (.v 4), (.v 5), (.v 6), (.v 7), (.v 8), (.v 9), (.v 10), (.v 11), (.v 12), (.v 13), (.v 14), (.v 15), (.v 16), (.v 17), (.v 18), (.v 19), (.v 20), (.v 21)] (.call 2 [(.v 1), (.v 2), (.v 3), (.v 4), (.v 5), (.v 6), (.v 7), (.v 8), (.v 9), (.v 10), (.v 11), (.v 12), (.v 13), (.v 14), (.v 15), (.v 16), (.v 17), (.v 18), (.v 19), (.v 20), (.v 21)] (.call 3 [(.v 22), (.v 1), (.v 2), (.v 3), (.v 4), (.v 5), (.v 6), (.v 7), (.v 8), (.v 9), (.v 10), (.v 11), (.v 12), (.v 13), (.v 14), (.v 15), (.v 16), (.v 17), (.v 18), (.v 19), (.v 20), (.v 21)] (.call 4 [(.v 0), (.v 1), (.v 2), (.v 3), (.v 4), (.v 5), (.v 6), (.v 7), (.v 8), (.v 9), (.v 10), (.v 11), (.v 12), (.v 13), (.v 14), (.v 15), (.v 16), (.v 17), (.v 18), (.v 19), (.v 20), (.v 21)] (.call 5 [(.v 22), (.v 1), (.v 2), (.v 3), (.v 4), (.v 5), (.v 6), (.v 7), (.v 8), (.v 9), (.v 10), (.v 11), (.v 12), (.v 13), (.v 14), (.v 15), (.v 16), (.v 17), (.v 18), (.v 19), (.v 20), (.v 21)] (.call 6 [(.v 0), (.v 1), (.v 2), (.v 3), (.v 4), (.v 5), (.v 6), (.v 7), (.v 8), (.v 9), (.v 10), (.v 11), (.v 12), (.v 13), (.v 14), (.v 15), (.v 16), (.v 17), (.v 18), (.v 19), (.v 20), (.v 21)] (.loop 2 [none, none] [(.c 0), (.c 0)] (.ite (.lt (.v 36) (.ln (.v 1))) (.asrt (.le (.c 0) (.v 36)) (.ite (.or (.or (.not (.eq (.l2 .at (.l2 .at (.v 1) (.v 36)) (.c 0)) (.l2 .at (.l2 .at (.v 1) (.v 36)) (.c 0)))) (.or (.not (.eq (.l2 .at (.l2 .at (.v 1) (.v 36)) (.c 1)) (.l2 .at (.l2 .at (.v 1) (.v 36)) (.c 1)))) (.not (.eq (.l2 .at (.l2 .at (.v 1) (.v 36)) (.c 2)) (.l2 .at (.l2 .at (.v 1) (.v 36)) (.c 2)))))) (.or (.not (.eq (.l2 .at (.l2 .at (.v 1) (.v 36)) (.c 3)) (.l2 .at (.l2 .at (.v 1) (.v 36)) (.c 3)))) (.or (.not (.eq (.l2 .at (.l2 .at (.v 1) (.v 36)) (.c 4)) (.l2 .at (.l2 .at (.v 1) (.v 36)) (.c 4)))) (.not (.eq (.l2 .at (.l2 .at (.v 1) (.v 36)) (.c 5)) (.l2 .at (.l2 .at (.v 1) (.v 36)) (.c 5))))))) (.ret [(.c 0)])
(.back 0 [(.v 35), (.wr .i64 (.add (.v 36) (.c 1)))])))
(.call 7 [(.v 23), (.v 25)] (.ite (.or (.not (.nz (.v 37))) (.not (.eq (.v 24) (.v 26)))) (.ret [(.c 0)])
(.call 7 [(.v 27), (.v 29)] (.ite (.or (.not (.nz (.v 38))) (.or (.not (.eq (.v 28) (.v 30))) (.or (.not (.eq (.v 31) (.v 33))) (.not (.eq (.v 32) (.v 34)))))) (.ret [(.c 0)])
(.call 8 [(.v 22), (.v 0)] (.ite (.nz (.v 39)) (.ret [(.c 1)])
(.ret [(.c 0)]))))))))))))))))))
theorem tree_FindFinds : merge (optFL [] I_FindFinds [] ([none, none] ++ zs 20) (symFnL Tryz.prog (openAt Tryz.prog [(12, 83)]) gl0 G_FindFinds 1000 5 [Tr, Bs, An 16, An 4] [Bo])) = t_FindFinds := by kernel_rfl
theorem g_FindFinds : Gok Tryz.prog G_FindFinds := (more ok_twin (more ok_fall (more ok_rall (more ok_query (more ok_rquery (more ok_fseen (more ok_rseen (more ok_same18 (fix.one ok_rsame16)))))))))
theorem o_FindFinds : outsOK G_FindFinds I_FindFinds := (outsOK_cons inf_twin (outsOK_cons inf_fall (outsOK_cons inf_rall (outsOK_cons inf_query (outsOK_cons inf_rquery (outsOK_cons inf_fseen (outsOK_cons inf_rseen (outsOK_cons inf_same18 (outsOK_cons inf_rsame16 outsOK_nil)))))))))
theorem pins (l0 : List Int) (hr0 : ∀ x ∈ l0, rangeOK Br_ks (elt Br_ks x)) (l1 : List Int) (hr1 : ∀ x ∈ l1, rangeOK Bs_ks (elt Bs_ks x)) (xs2 : List Int) (hr2 : rangeOK (An 16).ks xs2) (xs3 : List Int) (hr3 : rangeOK (An 4).ks xs3) : vsOK ([none, none] ++ zs 20) ([cod l0] ++ ([cod l1] ++ (xs2 ++ (xs3 ++ [])))) := by
  obtain ⟨h2, i2⟩ := An_inv hr2
  obtain ⟨c0, c1, c2, c3, c4, c5, c6, c7, c8, c9, c10, c11, c12, c13, c14, c15, rfl⟩ := len16 h2
  obtain ⟨h3, i3⟩ := An_inv hr3
  obtain ⟨w0, w1, w2, w3, rfl⟩ := len4 h3
  have v2 := range_vs hr2
  have v3 := range_vs hr3
  exact vsOK_cons trivial (vsOK_cons trivial (vsOK_cons (v2.2 0) (vsOK_cons (v2.2 1) (vsOK_cons (v2.2 2) (vsOK_cons (v2.2 3) (vsOK_cons (v2.2 4) (vsOK_cons (v2.2 5) (vsOK_cons (v2.2 6) (vsOK_cons (v2.2 7) (vsOK_cons (v2.2 8) (vsOK_cons (v2.2 9) (vsOK_cons (v2.2 10) (vsOK_cons (v2.2 11) (vsOK_cons (v2.2 12) (vsOK_cons (v2.2 13) (vsOK_cons (v2.2 14) (vsOK_cons (v2.2 15) (vsOK_cons (v3.2 0) (vsOK_cons (v3.2 1) (vsOK_cons (v3.2 2) (vsOK_cons (v3.2 3) vsOK_nil)))))))))))))))))))))
theorem sameB_refl (a : List Int) : sameB a a = true := sameB_yes rfl fun _ _ => rfl
theorem sameL_refl (a : List Int) : fix.sameL a a = true := decide_eq_true rfl
theorem plain (l0 : List Int) (hr0 : ∀ x ∈ l0, rangeOK Br_ks (elt Br_ks x)) (l1 : List Int) (hr1 : ∀ x ∈ l1, rangeOK Bs_ks (elt Bs_ks x)) (xs2 : List Int) (hr2 : rangeOK (An 16).ks xs2) (xs3 : List Int) (hr3 : rangeOK (An 4).ks xs3) : t_FindFinds.sat G_FindFinds [] (fun ys => ys = [1]) [] ([cod l0] ++ ([cod l1] ++ (xs2 ++ (xs3 ++ [])))) := by
  have hv := pins l0 hr0 l1 hr1 xs2 hr2 xs3 hr3
  obtain ⟨h2, i2⟩ := An_inv hr2
  obtain ⟨c0, c1, c2, c3, c4, c5, c6, c7, c8, c9, c10, c11, c12, c13, c14, c15, rfl⟩ := len16 h2
  obtain ⟨h3, i3⟩ := An_inv hr3
  obtain ⟨w0, w1, w2, w3, rfl⟩ := len4 h3
  clear i2 i3 h2 h3 hr2 hr3
  have hel0 : ∀ x ∈ l0, rangeOK Br_ks (dec x) := hr0
  have hel1 : ∀ x ∈ l1, rangeOK Bs_ks (dec x) := hr1
  simp only [t_FindFinds, G_FindFinds, s_twin, s_fall, s_rall, s_query, s_rquery, s_fseen, s_rseen, s_same18, s_rsame16, TX.sat, XB.prop, X.den, List.map_cons, List.map_nil, List.getElem?_cons_zero, List.getElem?_cons_succ, List.cons_append, List.nil_append, List.getD_cons_zero, List.getD_cons_succ, mkS, mkP, and_true, true_and, Int.not_lt, Int.not_le, not_or, not_and, Classical.not_not, ne_eq, not_true_eq_false, not_false_eq_true, sem_twin, sem_rall, sem_fall, sem_rquery, sem_query, sem_rseen, sem_fseen, sem_same18, sem_rsame16, sem_look_eq, List.drop_succ_cons, List.drop_zero, L2.den, dec_cod]
  refine ⟨fun _ => trivial, fun hbig => ?_⟩
  have hl0 : l0.length ≤ 1000 := by omega
  have hl1 : l1.length ≤ 400 := by omega
  have hq : pre_query [cod l0, cod l1, c0, c1, c2, c3, c4, c5, c6, c7, c8, c9, c10, c11, c12, c13, c14, c15, w0, w1, w2, w3] := ⟨hv, ⟨by show (dec (cod l0)).length ≤ 1000; rw [dec_cod]; exact hl0, by show (dec (cod l1)).length ≤ 1000; rw [dec_cod]; omega⟩, by show ∀ b ∈ dec (cod l0), _; rw [dec_cod]; exact hel0, by show ∀ b ∈ dec (cod l1), _; rw [dec_cod]; exact hel1⟩
  have hf : pre_fall [cod l1, c0, c1, c2, c3, c4, c5, c6, c7, c8, c9, c10, c11, c12, c13, c14, c15, w0, w1, w2, w3] := ⟨vsOK_cons trivial (vsOK_cons (hv.2 2) (vsOK_cons (hv.2 3) (vsOK_cons (hv.2 4) (vsOK_cons (hv.2 5) (vsOK_cons (hv.2 6) (vsOK_cons (hv.2 7) (vsOK_cons (hv.2 8) (vsOK_cons (hv.2 9) (vsOK_cons (hv.2 10) (vsOK_cons (hv.2 11) (vsOK_cons (hv.2 12) (vsOK_cons (hv.2 13) (vsOK_cons (hv.2 14) (vsOK_cons (hv.2 15) (vsOK_cons (hv.2 16) (vsOK_cons (hv.2 17) (vsOK_cons (hv.2 18) (vsOK_cons (hv.2 19) (vsOK_cons (hv.2 20) (vsOK_cons (hv.2 21) vsOK_nil)))))))))))))))))))), by show ∀ b ∈ dec (cod l1), _; rw [dec_cod]; exact hel1⟩
  clear hv hbig hr0 hr1
  generalize hY : [c0, c1, c2, c3, c4, c5, c6, c7, c8, c9, c10, c11, c12, c13, c14, c15, w0, w1, w2, w3] = Y at hq hf ⊢
  have hF : fallL l1 Y = if askedE l1 Y = 0 then [cod (foundU l1 Y l1.length), 0] else [cod [], askedE l1 Y] := rfl
  have hL : lookL l0 l1 Y = if lookE l0 l1 Y = 0 then [cod (foundU l1 Y l1.length), seenN l0 Y, 0] else [cod [], 0, lookE l0 l1 Y] := rfl
  have hlen := found_len (l := l1) (x := Y) l1.length
  have n1 : (dec ((fallL l1 Y).getD 0 0)).length ≤ 1000000 := by
    rw [hF]
    split
    · simp only [List.getD_cons_zero, dec_cod]; omega
    · simp only [List.getD_cons_zero, dec_cod, List.length_nil]; omega
  have n2 : (dec ((lookL l0 l1 Y).getD 0 0)).length ≤ 1000000 := by
    rw [hL]
    split
    · simp only [List.getD_cons_zero, dec_cod]; omega
    · simp only [List.getD_cons_zero, dec_cod, List.length_nil]; omega
  clear hF hL hlen
  generalize (fallL l1 Y).getD 0 0 = A0 at n1 ⊢
  generalize (fallL l1 Y).getD 1 0 = A1
  generalize (lookL l0 l1 Y).getD 0 0 = B0 at n2 ⊢
  generalize (lookL l0 l1 Y).getD 1 0 = B1
  generalize (lookL l0 l1 Y).getD 2 0 = B2
  refine ⟨⟨vs_none (n := 1) rfl, by show (dec (cod l0)).length ≤ 1000000; rw [dec_cod]; omega⟩, by omega, hf, hf, hq, hq, hq, hq, ?_⟩
  refine ⟨fun xs => ∃ i : Nat, xs.getD 1 0 = (i : Int) ∧ i ≤ l1.length, fun xs => l1.length - (xs.getD 1 0).toNat, fun xs hx _ => vs_none (n := 2) hx, ⟨0, rfl, by omega⟩, ?_⟩
  intro xs hx hI
  obtain ⟨d0, d1, rfl⟩ := len2 hx
  obtain ⟨i, hi, hil⟩ := hI
  simp only [List.getD_cons_zero, List.getD_cons_succ, List.cons_append, List.nil_append] at hi ⊢
  subst hi
  refine ⟨fun hlt => ⟨by omega, fun h => by simp at h, fun _ => ?_⟩, fun hge => ?_⟩
  · have hw : IntKind.i64.wrap ((i : Int) + 1) = ((i + 1 : Nat) : Int) := by rw [wrap64 (by omega) (by omega)]; omega
    rw [hw]
    exact ⟨⟨i + 1, rfl, by omega⟩, by simp only [Int.toNat_natCast]; omega⟩
  · rw [sameL_refl, sameL_refl, sameB_refl]
    exact ⟨⟨vs_none (n := 2) rfl, n1⟩, fun h => by simp [b01] at h, fun _ => ⟨⟨vs_none (n := 2) rfl, n2⟩, fun h => by simp [b01] at h, fun _ => ⟨⟨vs_none (n := 2) rfl, by show (dec (cod l0)).length ≤ 1000000; rw [dec_cod]; omega⟩, fun _ => trivial, fun h => by simp [b01] at h⟩⟩⟩
set_option maxRecDepth 100000 in
theorem lifted (os : Os) (started : os.Started) (H : Type) (enc : TypeId × Value → H) :
    ReturnsInHanded {} Tryz.checked os 5 .any (fun w args => (Rows.findFindsSpec.pre enc Tryz.prog Tryz.f5 Rows.findFindsRow.domain false w args ∧ laidMet Tryz.prog [("diorama/frustum.world", Rows.laid_diorama_frustum_world)] w) ∧ sizedMet enc Tryz.prog Tryz.f5 (OpenSpec.ofChange Rows.findFindsSpec) false w args) (Rows.findFindsSpec.post enc Tryz.prog Tryz.f5 false true false false) := by
  refine returnsInHanded_of_change_and (C := Tryz.checked) (X := fun w _ => laidMet Tryz.prog [("diorama/frustum.world", Rows.laid_diorama_frustum_world)] w) (fun _ _ _ hh h => h.of_heap hh) facts.own started (by kernel_rfl) Tryz.func5
    (ChangeSpec.witness_at (enc := enc) (C := Tryz.checked) (os := os) (X := fun w _ => laidMet Tryz.prog [("diorama/frustum.world", Rows.laid_diorama_frustum_world)] w) false (laidWorld os) #[.agg #[.slice none 0 0], .slice none 0 0, .agg #[.int .i64 0, .int .i64 0, .int .i64 0, .int .i64 0, .int .i64 0, .int .i64 0, .int .i64 0, .int .i64 0, .int .i64 0, .int .i64 0, .int .i64 0, .int .i64 0, .int .i64 0, .int .i64 0, .int .i64 0, .int .i64 0], .agg #[.int .i64 0, .int .i64 0, .int .i64 0, .int .i64 0]] 8 rfl (by kernel_rfl) (by kernel_rfl) (by kernel_rfl) (by kernel_rfl) (by kernel_rfl) (laidWorld_met os _)) ?_
  intro W base args ds gs before hval0 hW hcnd _ hL _
  have hval : ∀ (j : Nat) t v, Tryz.f5.params[j]? = some t → args[j]? = some v → Value.okWide Tryz.prog W .any base t v := hval0
  have hW' := hW
  obtain ⟨p, q, hA0, hV, rfl, hfz, hnd⟩ := hW
  have hA : DataW.TrodAll enc Tryz.prog W 0 (fun _ => true) true Tryz.f5.params.toList args.toList ds p := hA0
  rw [Tryz.params5] at hA hval
  obtain ⟨v0, vs0, d0, ds0, p0, q0, hargs, rfl, rfl, h0, r0⟩ := trodAll_cons hA
  obtain ⟨v1, vs1, d1, ds1, p1, q1, rfl, rfl, rfl, h1, r1⟩ := trodAll_cons r0
  obtain ⟨v2, vs2, d2, ds2, p2, q2, rfl, rfl, rfl, h2, r2⟩ := trodAll_cons r1
  obtain ⟨v3, vs3, d3, ds3, p3, q3, rfl, rfl, rfl, h3, r3⟩ := trodAll_cons r2
  obtain ⟨rfl, rfl, rfl⟩ := trodAll_nil r3
  obtain rfl : args = #[v0, v1, v2, v3] := by cases args; simp_all
  obtain ⟨rfl, rfl⟩ := trodVars_none hV
  have k0 := h0
  have lt0 : ∀ x ∈ p0, x.block < W.heap.size := by obtain ⟨m, hm⟩ := k0; exact DataW.trod_lt m _ _ _ hm
  have k1 := h1
  have lt1 : ∀ x ∈ p1, x.block < W.heap.size := by obtain ⟨m, hm⟩ := k1; exact DataW.trod_lt m _ _ _ hm
  have k2 := h2
  have lt2 : ∀ x ∈ p2, x.block < W.heap.size := by obtain ⟨m, hm⟩ := k2; exact DataW.trod_lt m _ _ _ hm
  have k3 := h3
  have lt3 : ∀ x ∈ p3, x.block < W.heap.size := by obtain ⟨m, hm⟩ := k3; exact DataW.trod_lt m _ _ _ hm
  obtain ⟨l0, hs0, hr0⟩ := open_st1 (ks := Br_ks) Tryz.underlying59 rfl (by kernel_rfl) (by kernel_rfl) (by kernel_rfl) Tryz.underlying57 (by kernel_rfl) (by kernel_rfl) (hval 0 59 v0 rfl rfl) h0
  obtain ⟨l1, hs1, hr1⟩ := open_slT (ks := Bs_ks) Tryz.underlying48 (by kernel_rfl) (by kernel_rfl) (hval 1 48 v1 rfl rfl) h1
  obtain ⟨xs2, hv2, hr2⟩ := open_sh (sh := An 16) (by kernel_rfl) (by kernel_rfl) (hval 2 31 v2 rfl rfl) h2
  have hs2 : ShR (fun _ ks u n => SlOK W ks u n) (An 16) v2 xs2 := by rw [hv2]; exact ShR_mk rfl rfl (rangeOK_len hr2)
  obtain ⟨xs3, hv3, hr3⟩ := open_sh (sh := An 4) (by kernel_rfl) (by kernel_rfl) (hval 3 35 v3 rfl rfl) h3
  have hs3 : ShR (fun _ ks u n => SlOK W ks u n) (An 4) v3 xs3 := by rw [hv3]; exact ShR_mk rfl rfl (rangeOK_len hr3)
  clear hA0 hval0
  have hx : ShsR (fun _ ks u n => SlOK W ks u n) [Tr, Bs, An 16, An 4] [v0, v1, v2, v3] ([cod l0] ++ ([cod l1] ++ (xs2 ++ (xs3 ++ [])))) := ⟨_, _, _, _, rfl, rfl, hs0, ⟨_, _, _, _, rfl, rfl, hs1, ⟨_, _, _, _, rfl, rfl, hs2, ⟨_, _, _, _, rfl, rfl, hs3, ⟨rfl, rfl⟩⟩⟩⟩⟩
  have hcalls := lawFL facts.mixed g_FindFinds o_FindFinds tree_FindFinds W hx (pins l0 hr0 l1 hr1 xs2 hr2 xs3 hr3) (plain l0 hr0 l1 hr1 xs2 hr2 xs3 hr3) (glob_of_laid hL)
  refine hcalls.mono fun e W' ⟨he, bel⟩ => ?_
  subst he
  exact ⟨_, rfl, _, _, _, [], _, [], hW', trodAll_mk1 (shut_bool Tryz.underlying4 _), (trodAll_cons_mk (Below.trod facts.laidOut (by kernel_rfl) (of_decide_eq_true (by kernel_rfl)) k0 bel lt0) (trodAll_cons_mk (Below.trod facts.laidOut (by kernel_rfl) (of_decide_eq_true (by kernel_rfl)) k1 bel lt1) (trodAll_cons_mk (Below.trod facts.laidOut (by kernel_rfl) (of_decide_eq_true (by kernel_rfl)) k2 bel lt2) (trodAll_cons_mk (Below.trod facts.laidOut (by kernel_rfl) (of_decide_eq_true (by kernel_rfl)) k3 bel lt3) trodAll_mk0)))), rfl, bel.frame _, fun h => by cases h⟩

theorem over : Rows.findFindsRow.holds Tryz.pinned (OpenSpec.ofChange Rows.findFindsSpec) :=
  OpenClaim.holds_of_wide 5 Tryz.f5 rfl rfl rfl rfl rfl rfl rfl ⟨rfl, rfl, rfl, rfl, rfl⟩ rfl rfl rfl rfl rfl (by kernel_rfl) Tryz.func5
    (facts.joined (by kernel_rfl) (by kernel_rfl) (by kernel_rfl) (by kernel_rfl) (by kernel_rfl) (by kernel_rfl) (by kernel_rfl) rfl rfl rfl rfl)
    (of_decide_eq_true (by kernel_rfl)) (by unfold Func.isWrapper; first | (rw [if_pos (by decide +kernel)]; kernel_rfl) | (rw [if_neg (by decide +kernel)]; exact ⟨rfl, rfl⟩))
    (fun os started H enc _ => lifted os started H enc)

theorem noStand : (Tryz.f5.params.all fun t => !Tryz.prog.wantsStandIn t) = true := by kernel_rfl
/-- THE STATEMENT: the row, its one listed variable tied to the program's text. -/
theorem proved : Rows.FindFindsCardSaid :=
  Claim7.holds_tied_plain_at .later [] [.data] true (true, "b3924336b0480d2658ba0abf4705aba63770927102c8bae2dcedd6927e28cde3") false over (fun _ h => by cases h) (by kernel_rfl) (fun _ h => by cases h) findFinds_row_tie rfl ⟨rfl, rfl⟩ (by kernel_rfl) rfl
    (fun f fn hf hfn => by
      obtain rfl : f = 5 := Option.some.inj ((show Tryz.prog.funcNamed Rows.findFindsRow.func = some 5 by kernel_rfl).symm.trans hf) |>.symm
      obtain rfl : fn = Tryz.f5 := (Option.some.inj (Tryz.func5.symm.trans hfn)).symm
      refine ⟨by kernel_rfl, fun j t ht => ?_⟩
      have := Array.all_eq_true_iff_forall_mem.1 noStand t (Array.mem_of_getElem? ht)
      exact (by simpa using this : Tryz.prog.wantsStandIn t = false))
    (by kernel_rfl)
#print axioms proved

end Go.Proofs.YtgcoidbaoigkeaaGreatDoor.findFinds
