/-
  Symbolic execution: THE SOUNDNESS THEOREM, and a function's contract by its tree.
-/
import Derived.Test.YtgcoidbaoigkeaaSwW
import Derived.Test.YtgcoidbaoigkeaaSwX
namespace Go.Sx
open Go.RowKit

section
variable {P : Program} {Γ : List Sum} {Ψ : List Int → Prop} {bs : List (List Int → Prop)}

theorem earlyLen_le : ∀ (l : List Oper), earlyLen l ≤ l.length
  | [] => by simp [earlyLen]
  | o :: l => by
    have := earlyLen_le l
    simp only [earlyLen, List.length_cons]
    split <;> omega

theorem liveAt_spec {s : St} {n : Nat} (h : liveAt s n = true) : ∃ b, s.mem[n]? = some b ∧ b.live = true := by
  unfold liveAt at h
  split at h
  · rename_i b hb
    exact ⟨b, hb, h⟩
  · cases h

theorem bothT_sat {R : Fo} {r : List Int} : ∀ {l : List T}, (bothT l).sat Γ R Ψ bs r → ∀ t ∈ l, t.sat Γ R Ψ bs r
  | [], h, t, ht => by cases ht
  | [x], h, t, ht => by
    simp only [List.mem_singleton] at ht
    subst ht
    exact h
  | x :: y :: l, h, t, ht => by
    simp only [bothT] at h
    rcases List.mem_cons.1 ht with rfl | ht
    · exact h.1
    · exact bothT_sat h.2 t ht
mutual
theorem K.eqv_eq : ∀ {k m : K}, K.eqv k m = true → k = m
  | .i x, .i y, h => by simp only [K.eqv, beq_iff_eq] at h; rw [h]
  | .b, .b, _ => rfl
  | .s t x, .s u y, h => by
    simp only [K.eqv, Bool.and_eq_true, beq_iff_eq] at h
    rw [h.1, K.eqvL_eq h.2]
  | .i _, .b, h => by simp [K.eqv] at h
  | .i _, .s _ _, h => by simp [K.eqv] at h
  | .b, .i _, h => by simp [K.eqv] at h
  | .b, .s _ _, h => by simp [K.eqv] at h
  | .s _ _, .i _, h => by simp [K.eqv] at h
  | .s _ _, .b, h => by simp [K.eqv] at h
theorem K.eqvL_eq : ∀ {a b : List K}, K.eqvL a b = true → a = b
  | [], [], _ => rfl
  | x :: xs, y :: ys, h => by
    simp only [K.eqvL, Bool.and_eq_true] at h
    rw [K.eqv_eq h.1, K.eqvL_eq h.2]
  | [], _ :: _, h => by simp [K.eqvL] at h
  | _ :: _, [], h => by simp [K.eqvL] at h
end
theorem blsame_eq : ∀ {a b : List Blk}, blsame a b = true → a = b
  | [], [], _ => rfl
  | ⟨x1, x2, x3⟩ :: xs, ⟨y1, y2, y3⟩ :: ys, h => by
    simp only [blsame, Bool.and_eq_true, beq_iff_eq] at h
    rw [h.1.1, csame_eq h.1.2.1, h.1.2.2, blsame_eq h.2]
  | [], _ :: _, h => by simp [blsame] at h
  | _ :: _, [], h => by simp [blsame] at h
theorem rwsame_eq : ∀ {a b : List Row}, rwsame a b = true → a = b
  | [], [], _ => rfl
  | ⟨x1, x2, x3, x4⟩ :: xs, ⟨y1, y2, y3, y4⟩ :: ys, h => by
    simp only [rwsame, Bool.and_eq_true, beq_iff_eq] at h
    rw [h.1.1, K.eqvL_eq h.1.2.1, E.same_eq _ _ h.1.2.2.1, h.1.2.2.2, rwsame_eq h.2]
  | [], _ :: _, h => by simp [rwsame] at h
  | _ :: _, [], h => by simp [rwsame] at h
theorem vsame_eq : ∀ {a b : List SV}, vsame a b = true → a = b
  | [], [], _ => rfl
  | x :: xs, y :: ys, h => by
    simp only [vsame, Bool.and_eq_true] at h
    rw [SV.same_eq h.1, vsame_eq h.2]
  | [], _ :: _, h => by simp [vsame] at h
  | _ :: _, [], h => by simp [vsame] at h
theorem hssame_eq : ∀ {a b : List (List K × E)}, hssame a b = true → a = b
  | [], [], _ => rfl
  | (x1, x2) :: xs, (y1, y2) :: ys, h => by
    simp only [hssame, Bool.and_eq_true] at h
    rw [K.eqvL_eq h.1.1, E.same_eq _ _ h.1.2, hssame_eq h.2]
  | [], _ :: _, h => by simp [hssame] at h
  | _ :: _, [], h => by simp [hssame] at h
theorem glsame_eq : ∀ {a b : List (Nat × List Int)}, glsame a b = true → a = b
  | [], [], _ => rfl
  | (x1, x2) :: xs, (y1, y2) :: ys, h => by
    simp only [glsame, sameG, Bool.and_eq_true, beq_iff_eq] at h
    rw [h.1.1, h.1.2, glsame_eq h.2]
  | [], _ :: _, h => by simp [glsame] at h
  | _ :: _, [], h => by simp [glsame] at h
theorem lesame_eq : ∀ {a b : List E}, lesame a b = true → a = b
  | [], [], _ => rfl
  | x :: xs, y :: ys, h => by
    simp only [lesame, Bool.and_eq_true] at h
    rw [E.same_eq _ _ h.1, lesame_eq h.2]
  | [], _ :: _, h => by simp [lesame] at h
  | _ :: _, [], h => by simp [lesame] at h
theorem callsame_eq : ∀ {a b : List (Nat × List E)}, callsame a b = true → a = b
  | [], [], _ => rfl
  | (x1, x2) :: xs, (y1, y2) :: ys, h => by
    simp only [callsame, Bool.and_eq_true, beq_iff_eq] at h
    rw [h.1.1, lesame_eq h.1.2, callsame_eq h.2]
  | [], _ :: _, h => by simp [callsame] at h
  | _ :: _, [], h => by simp [callsame] at h
theorem St.same_eq {a b : St} (h : a.same b = true) : a = b := by
  obtain ⟨a1, a2, a3, a4, a5, a6, a7, a8, a9, a10⟩ := a
  obtain ⟨b1, b2, b3, b4, b5, b6, b7, b8, b9, b10⟩ := b
  simp only [St.same, Bool.and_eq_true, beq_iff_eq] at h
  obtain ⟨⟨h1, h2, h3⟩, ⟨h4, h5, h6, h7⟩, h8, h9, h10⟩ := h
  rw [vsame_eq h1, blsame_eq h2, rwsame_eq h3, h4, h5, h6, h7, glsame_eq h8, hssame_eq h9, h10]
theorem Outc.same_eq {a b : Outc} (h : Outc.same a b = true) : a = b := by
  simp only [Outc.same, Bool.and_eq_true] at h
  exact Prod.ext (callsame_eq h.1) (St.same_eq h.2)
theorem asrts_T : ∀ {as : List B} {t : T}, as.all isT = true → asrts as t = t
  | [], t, _ => rfl
  | b :: l, t, h => by
    simp only [List.all_cons, Bool.and_eq_true] at h
    obtain ⟨h1, h2⟩ := h
    cases b with
    | c x =>
      cases x with
      | true => exact asrts_T (as := l) h2
      | false => cases h1
    | _ => cases h1
theorem raw_opT {ih : Code → St → Kont → T} {o : Oper} {s s1 : St} {c : Option (Nat × List E)} (h : rawS P Γ o s = some (c, s1)) (k : St → T) : opT P Γ ih o s k = applyC c.toList (k s1) := by
  have one1 : ∀ {as : List B} {v : SV} {s' : St}, op1 P s o = some (as, v, s') → (if as.all isT then some ((none : Option (Nat × List E)), s'.put o.dst v) else none) = some (c, s1) → asrts as (k (s'.put o.dst v)) = applyC c.toList (k s1) := by
    intro as v s' _ h
    split at h
    · rename_i ha
      simp only [Option.some.injEq, Prod.mk.injEq] at h
      obtain ⟨rfl, rfl⟩ := h
      rw [asrts_T ha]
      rfl
    · cases h
  unfold rawS at h
  unfold opT
  split at h
  · rename_i cc ho
    try simp only [ho]
    unfold callT
    split at h
    · rename_i F hcal
      try simp only [hcal]
      split at h
      · rename_i fn caps hF
        try simp only [hF]
        split at h
        · cases h
        · rename_i hc
          try rw [if_neg hc]
          split at h
          · rename_i g sum hfs
            try simp only [hfs]
            split at h
            · cases h
            · rename_i hgl
              try rw [if_neg hgl]
              split at h
              · rename_i f hm
                try simp only [hm]
                split at h
                · cases h
                · rename_i hargs
                  try rw [if_neg hargs]
                  split at h
                  · rename_i as es kk hf
                    try simp only [hf]
                    split at h
                    · rename_i ha
                      simp only [Option.some.injEq, Prod.mk.injEq] at h
                      obtain ⟨rfl, rfl⟩ := h
                      rw [asrts_T ha]
                      rfl
                    · cases h
                  · cases h
              · rename_i hm
                try simp only [hm]
                split at h
                · rename_i as es hf
                  try simp only [hf]
                  split at h
                  · rename_i ha
                    simp only [Option.some.injEq, Prod.mk.injEq] at h
                    obtain ⟨rfl, rfl⟩ := h
                    rw [asrts_T ha]
                    rfl
                  · cases h
                · cases h
          · cases h
      · cases h
    · cases h
    · rename_i b hb hcal
      split at h
      · rename_i as v s' h1
        exact one1 h1 h
      · cases h
    · cases h
  · rename_i t l cc ho
    try simp only [ho]
    unfold makeT
    split at h
    · rename_i elem e1 e2 hu h1 h2
      try simp only [hu, h1, h2]
      split at h
      · rename_i inf ks z hi hk hz
        try simp only [hi, hk, hz]
        split at h
        · cases h
        · rename_i hc
          try rw [if_neg hc]
          split at h
          · rename_i es hes
            try simp only [hes]
            split at h
            · rename_i ha
              simp only [Option.some.injEq, Prod.mk.injEq] at h
              obtain ⟨rfl, rfl⟩ := h
              rw [asrts_T ha]
              rfl
            · cases h
          · cases h
      · cases h
    · cases h
  · rename_i t ho
    try simp only [ho]
    split at h
    · cases h
    · rename_i hb
      have hb' : bigZ P t = none := by
        cases hz : bigZ P t with
        | none => rfl
        | some x => rw [hz] at hb; exact absurd rfl hb
      try simp only [hb']
      split at h
      · rename_i as v s' h1
        try simp only [h1]
        exact one1 h1 h
      · cases h
  · rename_i h1 h2 h3
    split at h
    · rename_i as v s' h4
      exact one1 h4 h
    · cases h
theorem applyC_both {R : Fo} {K : List T} (hK : K ≠ []) : ∀ {c : List (Nat × List E)} {r : List Int}, (∀ t ∈ K, (applyC c t).sat Γ R Ψ bs r) → (applyC c (bothT K)).sat Γ R Ψ bs r
  | [], r, h => by
    simp only [applyC] at h ⊢
    induction K with
    | nil => exact absurd rfl hK
    | cons x l ih =>
      cases l with
      | nil => exact h x (by simp)
      | cons y l => exact ⟨h x (by simp), ih (by simp) (fun t ht => h t (List.mem_cons_of_mem _ ht))⟩
  | (g, es) :: c, r, h => by
    simp only [applyC, T.sat] at h ⊢
    split
    · rename_i s hs
      obtain ⟨x, hx⟩ := List.exists_mem_of_ne_nil _ hK
      have h0 := h x hx
      rw [hs] at h0
      refine ⟨h0.1, applyC_both hK fun t ht => ?_⟩
      have h1 := h t ht
      rw [hs] at h1
      exact h1.2
    · rename_i hs
      obtain ⟨x, hx⟩ := List.exists_mem_of_ne_nil _ hK
      have h0 := h x hx
      rw [hs] at h0
      exact h0
theorem applyC_app (c d : List (Nat × List E)) (t : T) : applyC (c ++ d) t = applyC c (applyC d t) := by
  induction c with
  | nil => rfl
  | cons x c ih => simp only [List.cons_append, applyC, ih]
theorem bsame_eq : ∀ {a b : List Bool}, bsame a b = true → a = b
  | [], [], _ => rfl
  | true :: l, true :: m, h => by rw [bsame_eq (a := l) (b := m) h]
  | false :: l, false :: m, h => by rw [bsame_eq (a := l) (b := m) h]
  | [], _ :: _, h => by simp [bsame] at h
  | _ :: _, [], h => by simp [bsame] at h
  | true :: l, false :: m, h => by simp [bsame] at h
  | false :: l, true :: m, h => by simp [bsame] at h
theorem addFr_mem {x : Array Bool × Outc} {l : Fron} : x ∈ addFr x l ∧ ∀ y ∈ l, y ∈ addFr x l := by
  unfold addFr
  split
  · rename_i h
    refine ⟨?_, fun y hy => hy⟩
    obtain ⟨y, hy, hb⟩ := List.any_eq_true.1 h
    simp only [Bool.and_eq_true] at hb
    have h1 := Array.toList_inj.1 (bsame_eq hb.1)
    have h2 := Outc.same_eq hb.2
    have : x = y := Prod.ext h1 h2
    rw [this]; exact hy
  · exact ⟨List.mem_cons_self .., fun y hy => List.mem_cons_of_mem _ hy⟩
theorem stepO_mem {ops : Array Oper} {li : Array Bool} {c : List (Nat × List E)} {s : St} : ∀ {l : List Nat} {acc r : Fron}, stepO P Γ ops li c s l acc = some r →
    (∀ y ∈ acc, y ∈ r) ∧ ∀ j ∈ l, ∃ o d s1, ops[j]? = some o ∧ o.guard = none ∧ pickTmp o = none ∧ rawS P Γ o s = some (d, s1) ∧ (li.setIfInBounds j true, (c ++ d.toList, s1)) ∈ r
  | [], acc, r, h => by
    simp only [stepO, Option.some.injEq] at h
    subst h
    exact ⟨fun y hy => hy, fun j hj => by cases hj⟩
  | j :: l, acc, r, h => by
    simp only [stepO] at h
    split at h
    · rename_i o ho
      split at h
      · cases h
      · rename_i hgd
        simp only [Bool.or_eq_true, not_or, Bool.not_eq_true, Option.isSome_eq_false_iff, Option.isNone_iff_eq_none] at hgd
        split at h
        · rename_i d s1 hraw
          obtain ⟨h1, h2⟩ := stepO_mem h
          refine ⟨fun y hy => h1 y (addFr_mem.2 y hy), fun i hi => ?_⟩
          rcases List.mem_cons.1 hi with rfl | hi
          · exact ⟨o, d, s1, ho, hgd.1, hgd.2, hraw, h1 _ addFr_mem.1⟩
          · exact h2 i hi
        · cases h
    · cases h
theorem stepD_mem {ops : Array Oper} : ∀ {l acc r : Fron}, stepD P Γ ops l acc = some r →
    (∀ y ∈ acc, y ∈ r) ∧ ∀ x ∈ l, Region.ready .any ops x.1 ≠ [] ∧ ∀ j ∈ Region.ready .any ops x.1, ∃ o d s1, ops[j]? = some o ∧ o.guard = none ∧ pickTmp o = none ∧ rawS P Γ o x.2.2 = some (d, s1) ∧ (x.1.setIfInBounds j true, (x.2.1 ++ d.toList, s1)) ∈ r
  | [], acc, r, h => by
    simp only [stepD, Option.some.injEq] at h
    subst h
    exact ⟨fun y hy => hy, fun x hx => by cases hx⟩
  | x :: l, acc, r, h => by
    simp only [stepD] at h
    split at h
    · cases h
    · rename_i hne
      split at h
      · rename_i acc' hO
        obtain ⟨o1, o2⟩ := stepO_mem hO
        obtain ⟨d1, d2⟩ := stepD_mem h
        refine ⟨fun y hy => d1 y (o1 y hy), fun z hz => ?_⟩
        rcases List.mem_cons.1 hz with rfl | hz
        · refine ⟨hne, fun j hj => ?_⟩
          obtain ⟨o, d, s1, h1, h2, h3, h4, h5⟩ := o2 j hj
          exact ⟨o, d, s1, h1, h2, h3, h4, d1 _ h5⟩
        · exact d2 z hz
      · cases h
theorem runsD_reach {ops : Array Oper} : ∀ {f : Nat} {fr : Fron} {L : List Outc}, runsD P Γ ops f fr = some L → ∀ x ∈ fr, ∃ y ∈ L, ∃ r, y.1 = x.2.1 ++ r
  | 0, fr, L, h, x, hx => by
    simp only [runsD] at h
    split at h
    · simp only [Option.some.injEq] at h; subst h
      exact ⟨x.2, List.mem_map_of_mem hx, [], by simp⟩
    · cases h
  | f + 1, fr, L, h, x, hx => by
    simp only [runsD] at h
    split at h
    · simp only [Option.some.injEq] at h; subst h
      exact ⟨x.2, List.mem_map_of_mem hx, [], by simp⟩
    · split at h
      · rename_i fr' hD
        obtain ⟨hne, hs⟩ := (stepD_mem hD).2 x hx
        obtain ⟨j, hj⟩ := List.exists_mem_of_ne_nil _ hne
        obtain ⟨o, d, s1, _, _, _, _, hm⟩ := hs j hj
        obtain ⟨y, hy, r, hr⟩ := runsD_reach h _ hm
        exact ⟨y, hy, d.toList ++ r, by rw [hr]; simp⟩
      · cases h
theorem runsD_sound (hG : Gok P Γ) {ih : Code → St → Kont → T} (hih : IH P Γ ih) {W0 : Bas} {ops : Array Oper} {Q : Exit → Act → World → Prop} {k : St → T} {L : List Outc} : ∀ (f : Nat) (fr : Fron) (bs : List (List Int → Prop)) (x : Array Bool × Outc) (e : Env) (a : Act) (w : World), runsD P Γ ops f fr = some L → x ∈ fr → Rel e W0 x.2.2 a w → x.2.2.dp = bs.length →
    (∀ y ∈ L, ∀ r, y.1 = x.2.1 ++ r → (applyC r (k y.2)).sat Γ e.R Ψ bs e.r) → (∀ a' w', Nx Γ Ψ bs W0 e x.2.2.fl x.2.2.flr k a' w' → Q .normal a' w') → wpAny P .any ops Q f x.1 a w
  | 0, fr, bs, x, e, a, w, hL, hx, h, hdp, hs, hQ => by
    simp only [runsD] at hL
    split at hL
    · rename_i hr
      simp only [Option.some.injEq] at hL
      have := List.all_eq_true.1 hr x hx
      refine ⟨List.isEmpty_iff.1 this, hQ a w (Nx.here (Env.le_refl _) h rfl rfl hdp ?_)⟩
      exact hs x.2 (by rw [← hL]; exact List.mem_map_of_mem hx) [] (by simp)
    · cases hL
  | f + 1, fr, bs, x, e, a, w, hL, hx, h, hdp, hs, hQ => by
    simp only [runsD] at hL
    split at hL
    · rename_i hr
      simp only [Option.some.injEq] at hL
      have hem := List.isEmpty_iff.1 (List.all_eq_true.1 hr x hx)
      refine ⟨fun _ => hQ a w (Nx.here (Env.le_refl _) h rfl rfl hdp ?_), fun i hi => ?_⟩
      · exact hs x.2 (by rw [← hL]; exact List.mem_map_of_mem hx) [] (by simp)
      · rw [hem] at hi; cases hi
    · split at hL
      · rename_i fr' hD
        obtain ⟨hne, hst⟩ := (stepD_mem hD).2 x hx
        refine ⟨fun hr => absurd hr hne, fun i hi => ?_⟩
        obtain ⟨o, d, s1, ho, hg, hp, hraw, hmem⟩ := hst i hi
        unfold wpOp
        rw [ho]
        simp only
        rw [if_pos (by unfold Region.wanted; rw [hg])]
        left
        obtain ⟨K, hK⟩ : ∃ K : List T, (∀ t ∈ K, ∃ y ∈ L, ∃ r, y.1 = (x.2.1 ++ d.toList) ++ r ∧ t = applyC r (k y.2)) ∧ ∀ y ∈ L, ∀ r, y.1 = (x.2.1 ++ d.toList) ++ r → applyC r (k y.2) ∈ K := by
          classical
          refine ⟨L.filterMap fun y => if hh : ∃ r, y.1 = (x.2.1 ++ d.toList) ++ r then some (applyC hh.choose (k y.2)) else none, fun t ht => ?_, fun y hy r hr => ?_⟩
          · obtain ⟨y, hy, he⟩ := List.mem_filterMap.1 ht
            split at he
            · rename_i hh
              simp only [Option.some.injEq] at he
              exact ⟨y, hy, hh.choose, hh.choose_spec, he.symm⟩
            · cases he
          · refine List.mem_filterMap.2 ⟨y, hy, ?_⟩
            have hh : ∃ r, y.1 = (x.2.1 ++ d.toList) ++ r := ⟨r, hr⟩
            rw [dif_pos hh]
            have : hh.choose = r := List.append_cancel_left (hh.choose_spec.symm.trans hr)
            rw [this]
        have hKne : K ≠ [] := by
          obtain ⟨y, hy, r, hr⟩ := runsD_reach hL _ hmem
          exact List.ne_nil_of_mem (hK.2 y hy r hr)
        have hsat : (applyC d.toList (bothT K)).sat Γ e.R Ψ bs e.r := by
          refine applyC_both hKne fun t ht => ?_
          obtain ⟨y, hy, r, hr, rfl⟩ := hK.1 t ht
          have := hs y hy (d.toList ++ r) (by rw [hr]; simp)
          rwa [applyC_app] at this
        classical
        have hop : (opT P Γ ih o x.2.2 fun s3 => if s3 = s1 then bothT K else .fail).sat Γ e.R Ψ bs e.r := by
          rw [raw_opT hraw]
          simp only [if_true]
          exact hsat
        refine Oper.wp_mono' (opT_sound hG hih h hdp hop) ?_
        rintro a3 w3 ⟨s3, e3, more, hle, hrel, hf, hfr, hd, hsat3⟩
        dsimp only at hsat3
        split at hsat3
        · rename_i hsm
          subst hsm
          refine runsD_sound (k := k) hG hih f fr' (bs ++ more) _ e3 a3 w3 hL hmem hrel hd (fun y hy r hr => ?_) ?_
          · exact bothT_sat hsat3 _ (hK.2 y hy r hr)
          · rintro a' w' ⟨s', e', more', hle', hrel', hf', hfr', hd', hsat'⟩
            exact hQ a' w' ⟨s', e', more ++ more', hle.trans hle', hrel', hf'.trans hf, hfr'.trans hfr, by rw [← List.append_assoc]; exact hd', by rw [← List.append_assoc]; exact hsat'⟩
        · exact hsat3.elim
      · cases hL
theorem execAll_sound (hG : Gok P Γ) {ih : Code → St → Kont → T} (hih : IH P Γ ih) {W0 : Bas} {ops : Array Oper} {Q : Exit → Act → World → Prop} {k : St → T} : ∀ (f : Nat) (listed : Array Bool) (s : St) (bs : List (List Int → Prop)) (e : Env) (a : Act) (w : World), Rel e W0 s a w → s.dp = bs.length →
    (execAll P Γ ih ops f listed s k).sat Γ e.R Ψ bs e.r → (∀ a' w', Nx Γ Ψ bs W0 e s.fl s.flr k a' w' → Q .normal a' w') → wpAny P .any ops Q f listed a w
  | 0, listed, s, bs, e, a, w, h, hdp, hs, hQ => by
    simp only [execAll] at hs
    split at hs
    · rename_i hr
      exact ⟨List.isEmpty_iff.1 hr, hQ a w (Nx.here (Env.le_refl _) h rfl rfl hdp hs)⟩
    · exact hs.elim
  | f + 1, listed, s, bs, e, a, w, h, hdp, hs, hQ => by
    simp only [execAll] at hs
    refine ⟨fun hr => ?_, fun i hi => ?_⟩
    · rw [hr] at hs
      exact hQ a w (Nx.here (Env.le_refl _) h rfl rfl hdp hs)
    · split at hs
      · rename_i hr
        rw [hr] at hi
        cases hi
      · have hs := bothT_sat hs _ (List.mem_map_of_mem hi)
        have next : ∀ (s3 : St) (e3 : Env) (more : List (List Int → Prop)) (a3 : Act) (w3 : World), Env.le e e3 → Rel e3 W0 s3 a3 w3 → s3.fl = s.fl → s3.flr = s.flr → s3.dp = (bs ++ more).length → (execAll P Γ ih ops f (listed.setIfInBounds i true) s3 k).sat Γ e3.R Ψ (bs ++ more) e3.r → wpAny P .any ops Q f (listed.setIfInBounds i true) a3 w3 := by
          intro s3 e3 more a3 w3 hle h3 hf hfr hd hs3
          refine execAll_sound hG hih f _ s3 (bs ++ more) e3 a3 w3 h3 hd hs3 ?_
          rintro a' w' ⟨s', e', more', hle', hrel', hf', hfr', hd', hsat'⟩
          exact hQ a' w' ⟨s', e', more ++ more', hle.trans hle', hrel', hf'.trans hf, hfr'.trans hfr, by rw [← List.append_assoc]; exact hd', by rw [← List.append_assoc]; exact hsat'⟩
        unfold wpOp
        split at hs
        · rename_i o ho
          rw [ho]
          simp only [execOps] at hs
          obtain ⟨x, h1, hs1⟩ := forkO_sat h hs
          simp only
          split at hs1
          · rename_i hw
            rw [if_pos (wantedS_spec h1 hw)]
            left
            obtain ⟨y, h2, hs2⟩ := forkO_sat h1 hs1
            refine Oper.wp_mono' (opT_sound hG hih h2 hdp hs2) ?_
            rintro a3 w3 ⟨s3, e3, more, hle, hrel, hf, hfr, hd, hsat⟩
            exact next s3 e3 more a3 w3 hle hrel hf hfr hd hsat
          · rename_i hw
            rw [if_neg (by rw [wantedS_spec h1 hw]; simp)]
            have hput := h1.put o.dst undefS
            exact next _ e [] _ w (Env.le_refl _) hput (put_fields _ _ _).2.2.2.2.1 (put_fields _ _ _).2.2.2.2.2 ((put_dp _ _ _).trans (by simpa using hdp)) (by simpa using hs1)
          · exact hs1.elim
        · exact hs.elim

theorem execDraw_sound (hm : P.follows .mixedOrders = true) (hG : Gok P Γ) {ih : Code → St → Kont → T} (hih : IH P Γ ih) {ops : Array Oper} {s : St} {k : St → T} {W0 : Bas} {e : Env} {a : Act} {w : World} {Q : Exit → Act → World → Prop}
    (h : Rel e W0 s a w) (hdp : s.dp = bs.length) (hs : (execDraw P Γ ih ops s k).sat Γ e.R Ψ bs e.r) (hQ : ∀ a' w', Nx Γ Ψ bs W0 e s.fl s.flr k a' w' → Q .normal a' w') : wpAny P .any ops Q ops.size (Array.replicate ops.size false) a { w with drawn := w.drawn + 1 } := by
  unfold execDraw at hs
  dsimp only at hs
  split at hs
  · have hdrew : Below w.heap.size w { w with drawn := w.drawn + 1 } := (Below.refl _ _).drew
    split at hs
    · rename_i L hL
      exact runsD_sound (k := k) hG hih _ _ bs _ e a _ hL (List.mem_singleton.2 rfl) ⟨h.rep.grown hdrew, h.tmps, h.defs⟩ hdp (fun y hy r hr => by simp only [List.nil_append] at hr; rw [← hr]; exact bothT_sat hs _ (List.mem_map_of_mem hy)) hQ
    · exact execAll_sound hG hih _ _ s bs e a _ ⟨h.rep.grown hdrew, h.tmps, h.defs⟩ hdp hs hQ
  split at hs
  · rename_i hc
    simp only [Bool.and_eq_true] at hc
    obtain ⟨⟨hok, hsc⟩, hdst⟩ := hc
    generalize hN : ops.size - tailLen (masks ops) 0 ops.toList = N at hs hok
    have hNs : N ≤ ops.size := by omega
    generalize hN1 : earlyLen (ops.toList.take N) = N1 at hs
    have hN1N : N1 ≤ N := by
      have := earlyLen_le (ops.toList.take N)
      simp only [List.length_take] at this
      omega
    generalize hXe : lateOld ops s N1 ((ops.toList.take N).drop N1) = X at hs
    split at hs
    · rename_i hc2
      simp only [Bool.and_eq_true] at hc2
      obtain ⟨⟨hXall, hch⟩, hapt⟩ := hc2
      have hXl : ∀ n ∈ X, s.fl ≤ n ∧ ∃ b, s.mem[n]? = some b ∧ b.live = true := by
        intro n hn
        have := List.all_eq_true.1 hXall n hn
        simp only [Bool.and_eq_true, decide_eq_true_eq] at this
        exact ⟨this.1, liveAt_spec this.2⟩
      unfold drawOK at hok
      simp only [Bool.and_eq_true] at hok
      obtain ⟨_, hok⟩ := hok
      have hrow : ∀ j oj, ops[j]? = some oj → ((bindsOn oj).all (fun i => decide (i < j)) &&
        (if j < N then (List.range j).all (fun i => match ops[i]? with
          | none => false
          | some oi => (oi.dst.isNone || oi.dst != oj.dst) && (behind (masks ops) j i || oi.apart ops oj))
        else forced (masks ops) j)) = true := by
        intro j oj hoj
        have hlt := (Array.getElem?_eq_some_iff.1 hoj).1
        have := List.all_eq_true.1 hok j (by simpa using hlt)
        rw [hoj] at this
        exact this
      have hdeps : ∀ j oj, ops[j]? = some oj → ∀ e ∈ oj.after, Region.binds .any e = true → e.on < j := by
        intro j oj hoj e he hb
        have := hrow j oj hoj
        simp only [Bool.and_eq_true] at this
        have h1 := List.all_eq_true.1 this.1 e.on (List.mem_map.2 ⟨e, List.mem_filter.2 ⟨by simpa using he, hb⟩, rfl⟩)
        simpa using h1
      have hforced : ∀ j oj, N ≤ j → ops[j]? = some oj → ∀ i, i < j → Comes ops j i := by
        intro j oj hj hoj i hi
        have := hrow j oj hoj
        simp only [Bool.and_eq_true] at this
        rw [if_neg (by omega)] at this
        have h1 := List.all_eq_true.1 this.2 i (by simpa using hi)
        exact masks_reach h1
      have hpair : ∀ i j oi oj, i < j → j < N → ops[i]? = some oi → ops[j]? = some oj → (oi.dst = none ∨ oi.dst ≠ oj.dst) ∧ (Comes ops j i ∨ oi.apart ops oj = true) := by
        intro i j oi oj hij hj hoi hoj
        have := hrow j oj hoj
        simp only [Bool.and_eq_true] at this
        rw [if_pos hj] at this
        have h1 := List.all_eq_true.1 this.2 i (by simpa using hij)
        rw [hoi] at h1
        simp only [Bool.and_eq_true, Bool.or_eq_true] at h1
        refine ⟨?_, ?_⟩
        · rcases h1.1 with h2 | h2
          · exact .inl (by simpa using h2)
          · exact .inr (by simpa using h2)
        · rcases h1.2 with h2 | h2
          · exact .inl (masks_reach h2)
          · exact .inr h2
      have hchain : ∀ i j, N1 ≤ j → j < i → i < N → Comes ops i j := by
        intro i j hj hji hi
        have := List.all_eq_true.1 hch i (by simpa using hi)
        simp only [Bool.or_eq_true, decide_eq_true_eq] at this
        rcases this with h1 | h1
        · omega
        · have h2 := List.all_eq_true.1 h1 j (by simpa using hji)
          simp only [Bool.or_eq_true, decide_eq_true_eq] at h2
          rcases h2 with h2 | h2
          · omega
          · exact masks_reach h2
      have hdl : ∀ i o d, i < N → ops[i]? = some o → o.dst = some d → d < s.fr.length := by
        intro i o d _ ho hd
        have := Array.all_eq_true_iff_forall_mem.1 hdst o (Array.mem_of_getElem? ho)
        rw [hd] at this
        simpa using this
      have hu : ∀ i j t, j < i → i < N → (ops[j]?).bind (·.dst) = some t → (ops[i]?).bind (·.dst) ≠ some t := by
        intro i j t hji hi h1 h2
        have hil : i < ops.size := by omega
        have hjl : j < ops.size := by omega
        have hoi : ops[i]? = some ops[i] := Array.getElem?_eq_getElem hil
        have hoj : ops[j]? = some ops[j] := Array.getElem?_eq_getElem hjl
        rw [hoj] at h1
        rw [hoi] at h2
        simp only [Option.bind_some] at h1 h2
        rcases (hpair j i _ _ hji hi hoj hoi).1 with h3 | h3
        · rw [h3] at h1; cases h1
        · exact h3 (h1.trans h2.symm)
      have huniq : ∀ i j t, i < N → j < N → (ops[i]?).bind (·.dst) = some t → (ops[j]?).bind (·.dst) = some t → i = j := by
        intro i j t hi hj h1 h2
        rcases Nat.lt_trichotomy i j with h3 | h3 | h3
        · exact absurd h2 (hu j i t h3 hj h1)
        · exact h3
        · exact absurd h1 (hu i j t h3 hi h2)
      have hscp := St.scp_of_sc hsc
      obtain ⟨hscf, hscm⟩ := St.scp_spec hscp
      have hdrew : Below w.heap.size w { w with drawn := w.drawn + 1 } := (Below.refl _ _).drew
      have hB : Rep e W0 s { w with drawn := w.drawn + 1 } := h.rep.grown hdrew
      generalize hs0 : ({ s with mem := killB X 0 s.mem } : St) = s0 at hs
      have hkl : s0.mem.length = s.mem.length := by rw [← hs0]; exact killB_length X s.mem 0
      have hkr : s0.rows = s.rows := by rw [← hs0]
      have hkf : s0.fr = s.fr := by rw [← hs0]
      have h0 : Rep e W0 s0 { w with drawn := w.drawn + 1 } := by rw [← hs0]; exact hB.killM X
      have hkm : ∀ (n : Nat) (b : Blk), s.mem[n]? = some b → ∃ b' : Blk, s0.mem[n]? = some b' ∧ b'.cells = b.cells := by
        intro n b hb
        rw [← hs0]
        simp only [killB_get, hb, Option.map_some, Option.some.injEq, exists_eq_left']
        split <;> rfl
      have hXok : XOK e W0 s0 (fun k => ∃ n, n ∈ X ∧ k = e.β.getD n 0) := by
        refine ⟨?_, ?_, ?_⟩
        · rintro n b hb hl ⟨m, hm, heq⟩
          rw [← hs0] at hb
          obtain ⟨b', h1, _, _, h4⟩ := killB_some hb
          obtain ⟨h5, h6, rfl⟩ := h4 hl
          obtain ⟨_, c, hc, hlc⟩ := hXl m hm
          have := hB.sep n m b c h1 hc h5 hlc heq
          subst this
          exact h6 hm
        · rintro n b k hb hl hk ⟨m, hm, rfl⟩
          rw [hkr] at hb
          obtain ⟨_, c, hc, hlc⟩ := hXl m hm
          exact hB.brs m n c b hc hb hlc hl hk
        · rintro k ⟨m, hm, rfl⟩
          obtain ⟨h1, c, hc, hlc⟩ := hXl m hm
          exact hB.own m c hc hlc h1
      have hlex0 : Lex s0 e a.tmps ops 0 (fun _ => ⟨fun _ => undef, none⟩) s0 e.r [] := by
        refine ⟨⟨[], by simp⟩, h0.nv.symm, rfl, rfl, rfl, rfl, rfl, rfl, rfl, ⟨[], by simp, rfl⟩, rfl, fun _ _ => rfl, fun _ _ => rfl, fun _ _ => rfl, ?_, ?_, ?_, ?_, List.nodup_nil⟩
        · intro t _
          show some (a.tmps.getD t undef) = _
          rw [tmps_getD h t, hkf]
          rfl
        · intro t ht
          rw [hkf, hkl, hkr] at ht
          by_cases htl : t < s.fr.length
          · have := hscf s.fr[t] (List.getElem_mem htl)
            rw [show s.fr.getD t undefS = s.fr[t] by simp [List.getD, htl]] at ht
            rw [this] at ht; cases ht
          · rw [show s.fr.getD t undefS = undefS by simp [List.getD, List.getElem?_eq_none (Nat.le_of_not_lt htl)]] at ht
            simp [undefS, SV.scp] at ht
        · intro j i' hj
          simp at hj
        · intro i' hi'
          omega
      have htw : Twins s s0 := ⟨hkl.symm, hkr.symm, hkf.symm, by rw [← hs0], by rw [← hs0], by rw [← hs0], by rw [← hs0], by rw [← hs0], by rw [← hs0], fun b hb => by
        obtain ⟨n, hn⟩ := List.getElem?_of_mem hb
        obtain ⟨b', h1, h2⟩ := hkm n b hn
        exact ⟨b', List.mem_of_getElem? h1, h2.symm⟩⟩
      have htw' : Twins s0 s := htw.symm' (fun b hb => by
        obtain ⟨n, hn⟩ := List.getElem?_of_mem hb
        rw [← hs0] at hn
        obtain ⟨b', h1, _, h3, _⟩ := killB_some hn
        exact ⟨b', List.mem_of_getElem? h1, h3⟩)
      obtain ⟨ents0, sN, rN, al, hlex0', hpre0, hsat⟩ := execPre_sound hG hih h0 hXok (sf := s) (sg := strictAt (masks ops) N1 N) hB htw htw' (N := N1) (fun i j t hji hi => hu i j t hji (by omega)) (fun i o d hi => by rw [hkf]; exact hdl i o d (by omega)) (ops.toList.take N1) 0 (fun j hj => by
          simp only [List.length_take, Array.length_toList] at hj
          rw [List.getElem?_take, if_pos (by omega)]
          simp) (by simp [Nat.min_eq_left (Nat.le_trans hN1N hNs)]) _ s0 e.r [] _ hlex0 (fun i' hi' => by omega) hs
      split at hsat
      · rename_i s3 hs3
        obtain ⟨ents, hents⟩ : ∃ ents : Nat → Ent, ents = fun i => if i < N1 then ents0 i else (match (ops[i]?).map (·.op) with
          | some (Op.assign x) => ⟨fun _ => (sN.ev x).den (e.at rN), none⟩
          | _ => ⟨fun _ => undef, none⟩) := ⟨_, rfl⟩
        have hents1 : ∀ j, j < N1 → ents j = ents0 j := fun j hj => by rw [hents]; simp only [hj, if_true]
        have hlex := hlex0'.congr hents1
        have hpre := fun i hi => (hpre0 i hi).congrN hents1 hi
        have hval : ∀ i, i < N1 → (ents i).obj = none → ∀ n, (ents i).val n = (ents i).val 0 := by
          intro i hi hob
          obtain ⟨_, _, h2, _⟩ := hpre i hi
          exact h2 hob
        have ha0 : a.tmps.size = s0.fr.length := by rw [h.tmps, hkf]; simp
        rw [← hkl, ← hkr] at hs3
        obtain ⟨st, hst0, hstE, hstS⟩ := lateS_states hs3
        have hll : ((ops.toList.take N).drop N1).length = N - N1 := by simp [Nat.min_eq_left hNs]
        have hlget : ∀ c, ((ops.toList.take N).drop N1)[c]? = if N1 + c < N then ops[N1 + c]? else none := by
          intro c
          rw [List.getElem?_drop, List.getElem?_take]
          split <;> simp
        have hstep1 : ∀ c o, N1 + c < N → ops[N1 + c]? = some o → lateS1 P X s0.mem.length s0.rows.length o (st c) = some (st (c + 1)) := by
          intro c o hc ho
          exact hstS c o (by rw [hlget, if_pos hc]; exact ho)
        have hsame : ∀ c, c ≤ N - N1 → st c = { sN with mem := (st c).mem } ∧ (st c).mem.length = sN.mem.length := by
          intro c hc
          obtain ⟨h1, h2⟩ := late_same hstS c (by rw [hll]; exact hc)
          obtain ⟨news, hmem, hnl⟩ := hlex.mem
          refine ⟨?_, ?_⟩
          · rw [h1, hst0]
          · rw [h2, hst0]
            simp only [List.length_append, List.length_drop, hmem]
            omega
        obtain ⟨news, hmem, hnl⟩ := hlex.mem
        have hst0m : ∀ n, (st 0).mem[n]? = if n < s0.mem.length then s.mem[n]? else sN.mem[n]? := by
          intro n
          rw [hst0]
          simp only [hkl]
          split
          · rename_i hn
            rw [List.getElem?_append_left hn]
          · rename_i hn
            rw [List.getElem?_append_right (by omega), List.getElem?_drop]
            congr 1
            omega
        have hcell : ∀ (n : Nat) (b : Blk), s.mem[n]? = some b → b.cells.map (SC.den (e.at rN)) = b.cells.map (SC.den e) := by
          intro n b hb
          obtain ⟨b', h1, h2⟩ := hkm n b hb
          have := hlex.memd b' (List.mem_of_getElem? h1)
          rwa [h2] at this
        have hscp0 : ∀ (n : Nat) (b : Blk), (st 0).mem[n]? = some b → b.cells.all (SC.scp s0.mem.length s0.rows.length) = true := by
          intro n b hb
          rw [hst0m] at hb
          split at hb
          · rw [hkl, hkr]
            exact hscm b (List.mem_of_getElem? hb)
          · rename_i hn
            have hlt := (List.getElem?_eq_some_iff.1 hb).1
            have hml : sN.mem.length = s0.mem.length + al.length := by rw [hmem]; simp [hnl]
            obtain ⟨_, b', h2, _, h4, _⟩ := hlex.alOK (n - s0.mem.length) (al[n - s0.mem.length]'(by omega)) (List.getElem?_eq_getElem (by omega))
            rw [show s0.mem.length + (n - s0.mem.length) = n by omega, hb] at h2
            simp only [Option.some.injEq] at h2
            subst h2
            exact h4
        have hlk : ∀ c o, N1 + c < N → ops[N1 + c]? = some o → o ∈ (ops.toList.take N).drop N1 := fun c o hc ho => List.mem_of_getElem? (i := c) (by rw [hlget, if_pos hc]; exact ho)
        have hap : ∀ c o, N1 + c < N → ops[N1 + c]? = some o → ∀ t ∈ o.looksAt ops, ∀ k, N1 ≤ k → k < N → (ops[k]?).bind (·.dst) ≠ some t := by
          intro c o hc ho t ht k h1 h2 hd
          obtain ⟨j, rfl⟩ : ∃ j, k = N1 + j := ⟨k - N1, by omega⟩
          have hil : N1 + j < ops.size := by omega
          have hoi : ops[N1 + j]? = some ops[N1 + j] := Array.getElem?_eq_getElem hil
          rw [hoi] at hd
          have := List.all_eq_true.1 (List.all_eq_true.1 hapt o (hlk c o hc ho)) _ (hlk j _ h2 hoi)
          simp only [Option.bind_some] at hd
          rw [hd] at this
          simp only [Bool.not_eq_true', List.contains_eq_mem, decide_eq_false_iff_not] at this
          exact this ht
        have hXlt : ∀ n ∈ X, n < s0.mem.length := by
          intro n hn
          obtain ⟨_, b, hb, _⟩ := hXl n hn
          rw [hkl]
          exact (List.getElem?_eq_some_iff.1 hb).1
        have hLt : ∀ c, N1 + c < N → (∃ o t ta x n off y b, ops[N1 + c]? = some o ∧ Lt P X s0.mem.length s0.rows.length o (st c) (st (c + 1)) t ta x n off y b ∧ sN.fr.getD ta undefS = .w (.o (.p n off)) ∧ (lateD ops s0.mem.length (e.at rN) al sN (fun n => n ∈ X) st).tgt (N1 + c) = n) ∨
            ∃ o x d, ops[N1 + c]? = some o ∧ As s0.mem.length s0.rows.length o (st c) (st (c + 1)) x d ∧ (lateD ops s0.mem.length (e.at rN) al sN (fun n => n ∈ X) st).tgt (N1 + c) = sN.mem.length := by
          intro c hc
          have hil : N1 + c < ops.size := by omega
          have hoi : ops[N1 + c]? = some ops[N1 + c] := Array.getElem?_eq_getElem hil
          rcases lateS1_spec (hstep1 c _ hc hoi) with ⟨t, ta, x, n, off, y, b, hl⟩ | ⟨x, d, hl⟩
          · have hslot : sN.fr.getD ta undefS = .w (.o (.p n off)) := by
              have := hl.slot
              rw [(hsame c (by omega)).1] at this
              exact this
            refine .inl ⟨_, t, ta, x, n, off, y, b, hoi, hl, hslot, ?_⟩
            unfold lateD
            simp only [hoi]
            unfold tgtOf
            rw [hl.op]
            simp only [hslot]
          · refine .inr ⟨_, x, d, hoi, hl, ?_⟩
            unfold lateD
            simp only [hoi]
            unfold tgtOf
            rw [hl.op]
        have hnwS : ∀ n i, (lateD ops s0.mem.length (e.at rN) al sN (fun n => n ∈ X) st).nw n = some i → s0.mem.length ≤ n ∧ al[n - s0.mem.length]? = some i := by
          intro n i hn
          have hn' : (if n < s0.mem.length then none else al[n - s0.mem.length]?) = some i := hn
          split at hn'
          · cases hn'
          · exact ⟨by omega, hn'⟩
        have hXcont : ∀ n, n ∈ X → w.heap[e.β.getD n 0]? = some (contOf (e.at rN) st n 0) := by
          intro n hn'
          obtain ⟨_, b, hb, hl⟩ := hXl n hn'
          unfold contOf
          rw [hst0m, if_pos (hXlt n hn'), hb]
          simp only
          rw [hcell n b hb]
          exact hB.blk n b hb hl
        refine any_all (a0 := a.tmps) (w1 := w.heap.size) (C := fun w' => Cls { w with drawn := w.drawn + 1 } (fun k => ∃ n, n ∈ X ∧ k = e.β.getD n 0) w') (CI := fun i w' => Cls { w with drawn := w.drawn + 1 } (fun k => strictAt (masks ops) N1 N i = false ∧ ∃ n, n ∈ X ∧ k = e.β.getD n 0) w') (S := strictAt (masks ops) N1 N) (D := lateD ops s0.mem.length (e.at rN) al sN (fun n => n ∈ X) st) hNs hN1N hforced hdeps hpair (fun i o d hi ho hd => by rw [ha0, hkf]; exact hdl i o d hi ho hd) (fun i w' hw' => ⟨hw'.os, hw'.tape, hw'.output, hw'.size, fun k hk hx => hw'.block k hk (fun h => hx h.2)⟩) ?_ ?_ hpre ?_ hchain (fun w' hw' => hw'.size) ?_ ?_ ?_ ?_ ?_ ?_ ?_ ?_ ops.size _ a _ (fun _ => 0) 0 (by simp) (fun i _ => by simp [Array.getD]) (by omega) (fun i h1 _ => by simp [Array.getD]; omega) ?_ (Cls.refl _ _) h.defs rfl ?_ ?_ ?_ ?_ ?_ ?_
        · intro i w' hw' hS
          refine ⟨hw'.os, hw'.tape, hw'.output, hw'.size, fun k hk hx => ?_⟩
          by_cases hkx : ∃ n, n ∈ X ∧ k = e.β.getD n 0
          · have hSi : strictAt (masks ops) N1 N i = true := by
              cases hh : strictAt (masks ops) N1 N i with
              | true => rfl
              | false => exact absurd ⟨hh, hkx⟩ hx
            obtain ⟨n, hn, rfl⟩ := hkx
            rw [hXcont n hn]
            exact hS hSi n hn
          · exact hw'.block k hk hkx
        · intro i hi k h1 h2
          have := List.all_eq_true.1 hi k (by simpa using h2)
          simp only [Bool.or_eq_true, decide_eq_true_eq] at this
          rcases this with h3 | h3
          · omega
          · exact masks_reach h3
        · intro i h1 h2
          obtain ⟨c, rfl⟩ : ∃ c, i = N1 + c := ⟨i - N1, by omega⟩
          have hil : N1 + c < ops.size := by omega
          have hoi : ops[N1 + c]? = some ops[N1 + c] := Array.getElem?_eq_getElem hil
          exact lateOK_of (Xa := fun n => n ∈ X) hlex h0 hval huniq hN1N h2 hoi (hsame c (by omega)).1 (fun x d hl => by
            rw [hents]
            simp only [Nat.not_lt_of_le (Nat.le_add_right N1 c), if_false, hoi, Option.map_some, hl.op]) (hap c _ h2 hoi) (hstep1 c _ h2 hoi)
        · intro w1 w2 g ob hw1 hsb hg
          exact hw1.but hsb hg
        · intro n i hn
          obtain ⟨h1, h2⟩ := hnwS n i hn
          obtain ⟨h3, b, h4, _, _, h5, _⟩ := hlex.alOK _ i h2
          refine ⟨h3, ?_⟩
          rw [h5]
          show _ = some (contOf (e.at rN) st n 0)
          unfold contOf
          rw [hst0m, if_neg (by omega)]
          rw [show s0.mem.length + (n - s0.mem.length) = n by omega] at h4
          rw [h4]
        · intro n n' i hn hn'
          obtain ⟨h1, h2⟩ := hnwS n i hn
          obtain ⟨h3, h4⟩ := hnwS n' i hn'
          have hl1 := (List.getElem?_eq_some_iff.1 h2).1
          have := (List.getElem?_inj hl1 hlex.alND).1 (h2.trans h4.symm)
          omega
        · intro n hn
          have hn' : n ∈ X := hn
          obtain ⟨_, b, hb, hl⟩ := hXl n hn'
          exact ⟨if_pos (hXlt n hn'), heap_lt (hB.blk n b hb hl)⟩
        · intro n n' hn hn' heq
          obtain ⟨_, b, hb, hl⟩ := hXl n hn
          obtain ⟨_, b', hb', hl'⟩ := hXl n' hn'
          exact hB.sep n n' b b' hb hb' hl hl' heq
        · intro k h1 h2
          obtain ⟨c, rfl⟩ : ∃ c, k = N1 + c := ⟨k - N1, by omega⟩
          rcases hLt c h2 with ⟨o, t, ta, x, n, off, y, b, ho, hl, hslot, htg⟩ | ⟨o, x, d, ho, hl, htg⟩
          case inr =>
            rw [htg]
            have hml : sN.mem.length = s0.mem.length + al.length := by rw [hmem]; simp [hnl]
            refine ⟨fun hd => ?_, fun j hn => ?_⟩
            · rw [ho] at hd
              simp [hl.dst] at hd
            · obtain ⟨h3, h4⟩ := hnwS _ j hn
              have := (List.getElem?_eq_some_iff.1 h4).1
              omega
          rw [htg]
          have hnlt : n < sN.mem.length := by
            rw [← (hsame c (by omega)).2]
            exact (List.getElem?_eq_some_iff.1 hl.blk).1
          have hml : sN.mem.length = s0.mem.length + al.length := by rw [hmem]; simp [hnl]
          refine ⟨fun _ hn => ?_, fun j hn => ?_⟩
          · rcases hl.at' with h3 | h3
            · have hn' : (if n < s0.mem.length then none else al[n - s0.mem.length]?) = none := hn
              rw [if_neg (by omega), List.getElem?_eq_none_iff] at hn'
              omega
            · exact h3
          · obtain ⟨h3, h4⟩ := hnwS n j hn
            have hns : (sN.fr.getD ta undefS).scp s0.mem.length s0.rows.length = false := by
              rw [hslot]; simpa [SV.scp, SW.scp, SC.scp] using h3
            obtain ⟨j', i', hj', hdt⟩ := hlex.nscp ta hns
            obtain ⟨h5, bb, _, _, _, _, mk, h6, _, h8⟩ := hlex.alOK j' i' hj'
            have hmk := h8 ta hdt
            rw [hslot] at hmk
            have hnj : n = s0.mem.length + j' := by
              rcases h6 with h6 | ⟨l, cc, h6⟩
              · rw [h6] at hmk
                simp only [one, SV.w.injEq, SW.o.injEq, SC.p.injEq] at hmk
                exact hmk.1
              · rw [h6] at hmk
                simp [one] at hmk
            rw [hnj, Nat.add_sub_cancel_left, hj'] at h4
            simp only [Option.some.injEq] at h4
            subst h4
            have hjl : i' < ops.size := by omega
            have hoj : ops[i']? = some ops[i'] := Array.getElem?_eq_getElem hjl
            rcases (hpair i' (N1 + c) _ _ (by omega) h2 hoj ho).2 with hr | hap
            · exact hr
            · rw [hoj] at hdt
              exact absurd (looks_operand (ops := ops) (by rw [hl.op]; simp [Op.operands])) ((Oper.apart_spec hap).1 ta hdt)
        · intro k n h1 h2 hne
          obtain ⟨c, rfl⟩ : ∃ c, k = N1 + c := ⟨k - N1, by omega⟩
          rcases hLt c h2 with ⟨o, t, ta, x, n', off, y, b, ho, hl, hslot, htg⟩ | ⟨o, x, d, ho, hl, htg⟩
          case inr =>
            rw [show N1 + c - N1 = c by omega]
            show contOf (e.at rN) st n (c + 1) = contOf (e.at rN) st n c
            unfold contOf
            rw [hl.eq]
          rw [htg] at hne
          rw [show N1 + c - N1 = c by omega]
          show contOf (e.at rN) st n (c + 1) = contOf (e.at rN) st n c
          unfold contOf
          rw [hl.eq]
          simp only [List.getElem?_set_ne (Ne.symm hne)]
        · intro act w' γ hw' hd hsz hγ hγX hγu hslot
          have hend : st (N - N1) = s3 := by rw [← hll]; exact hstE
          have h3m := hsame (N - N1) (Nat.le_refl _)
          rw [hend] at h3m
          have hml : sN.mem.length = s0.mem.length + al.length := by rw [hmem]; simp [hnl]
          have hb3 := fun (n : Nat) (b : Blk) (hb : s3.mem[n]? = some b) => late_blk hstS (N - N1) (by rw [hll]; exact Nat.le_refl _) n b (by rw [hend]; exact hb)
          have hlike : Env.like s0.mem.length s0.rows.length (e.at rN) { e with r := rN, β := e.β ++ al.map γ } :=
            ⟨rfl, rfl, rfl, fun n hn => getD_app_lt _ _ _ _ (by show n < e.β.length; rw [h0.nb]; exact hn), fun _ _ => rfl⟩
          obtain ⟨act0, hact0⟩ : ∃ act0 : Act, act0 = { act with tmps := Array.ofFn (n := a.tmps.size) fun t => match writer ops N1 t with | some i => (ents i).val (γ i) | none => a.tmps.getD t undef } := ⟨_, rfl⟩
          have hsz0 : act0.tmps.size = a.tmps.size := by rw [hact0]; simp
          have hslot0 : ∀ t, act0.tmps.getD t undef = match writer ops N1 t with | some i => (ents i).val (γ i) | none => a.tmps.getD t undef := by
            intro t
            by_cases ht : t < a.tmps.size
            · rw [hact0]
              simp [Array.getD, ht]
            · rw [show act0.tmps.getD t undef = undef by simp [Array.getD, hsz0, ht]]
              cases hw : writer ops N1 t with
              | none => simp [Array.getD, ht]
              | some i =>
                exfalso
                obtain ⟨h1, h2⟩ := writer_some hw
                have hil : i < ops.size := by omega
                have hoi : ops[i]? = some ops[i] := Array.getElem?_eq_getElem hil
                rw [hoi] at h2
                have := hdl i _ t (by omega) hoi h2
                rw [ha0, hkf] at ht
                exact ht this
          obtain ⟨hrel0, hle⟩ := hlex.done (γ := γ) (act := act0) hB h0 hXok ⟨hkl.symm, hkr.symm, by rw [← hs0], by rw [← hs0]⟩ ha0 (fun i j t hi hj => huniq i j t (by omega) (by omega)) hval hw' (by rw [hact0]; exact hd) hsz0 (fun i hi => by
              obtain ⟨j, hj⟩ := List.getElem?_of_mem hi
              exact (hγ (s0.mem.length + j) i (by
                show (if s0.mem.length + j < s0.mem.length then none else al[s0.mem.length + j - s0.mem.length]?) = some i
                rw [if_neg (by omega), Nat.add_sub_cancel_left]; exact hj)).1) hγu hslot0 (memF := s3.mem) h3m.2 (fun n b hb hl hn => by
              obtain ⟨⟨b', h1, _, h2⟩, _⟩ := hb3 n b hb
              rw [hst0m, if_pos hn] at h1
              exact ⟨b', h1, by rw [← h2]; exact hl⟩) (fun n b hb hl => by
              obtain ⟨⟨b', h1, hty, h2⟩, hun, hsc3⟩ := hb3 n b hb
              rw [map_den_like hlike (hsc3 hscp0)]
              have hcontb : contOf (e.at rN) st n (N - N1) = .cells (b.cells.map (SC.den (e.at rN))).toArray b.ty (0, 0) := by
                unfold contOf
                rw [hend, hb]
              rcases Nat.lt_or_ge n s0.mem.length with hn | hn
              · rw [show (e.β ++ al.map γ).getD n 0 = e.β.getD n 0 from hlike.β n hn]
                by_cases hx : n ∈ X
                · have := hγX n hx
                  rw [show (lateD ops s0.mem.length (e.at rN) al sN (fun n => n ∈ X) st).cont n (N - N1) = _ from hcontb] at this
                  exact this
                · have h4 := hun hn hx
                  rw [hst0m, if_pos hn] at h4
                  have h5 := hB.blk n b h4 hl
                  rw [hw'.block _ (heap_lt h5) (by
                    rintro ⟨m, hm, heq⟩
                    obtain ⟨_, c, hc, hlc⟩ := hXl m hm
                    have := hB.sep n m b c h4 hc hl hlc heq
                    subst this
                    exact hx hm), h5, hcell n b h4]
              · have hlt := (List.getElem?_eq_some_iff.1 hb).1
                obtain ⟨j, rfl⟩ : ∃ j, n = s0.mem.length + j := ⟨n - s0.mem.length, by omega⟩
                obtain ⟨i', hj⟩ : ∃ i', al[j]? = some i' := ⟨al[j]'(by omega), List.getElem?_eq_getElem (by omega)⟩
                have h4 := (hγ (s0.mem.length + j) i' (by
                  show (if s0.mem.length + j < s0.mem.length then none else al[s0.mem.length + j - s0.mem.length]?) = some _
                  rw [if_neg (by omega), Nat.add_sub_cancel_left]; exact hj)).2
                rw [show (lateD ops s0.mem.length (e.at rN) al sN (fun n => n ∈ X) st).cont (s0.mem.length + j) (N - N1) = _ from hcontb] at h4
                have h5 : (e.β ++ al.map γ).getD (s0.mem.length + j) 0 = γ i' := by
                  rw [← h0.nb]
                  simp [List.getD, List.getElem?_append_right, hj]
                rw [h5]
                exact h4)
          have h3e : ({ sN with mem := s3.mem } : St) = s3 := h3m.1.symm
          rw [h3e] at hrel0
          have hfr3 : s3.fr = sN.fr := by rw [h3m.1]
          have hfl : s3.fr.length = a.tmps.size := by rw [hfr3, ha0, hlex.len]
          have hev3 : ∀ x, s3.ev x = sN.ev x := fun x => by
            cases x <;> simp [St.ev, hfr3]
          have hrel : Rel { e with r := rN, β := e.β ++ al.map γ } W0 { s3 with fr := lateFr s3 ((ops.toList.take N).drop N1) s3.fr } act w' := by
            refine ⟨hrel0.rep.fr _, ?_, hd⟩
            have hsl0 : ∀ t, act0.tmps.getD t undef = (s3.fr.getD t undefS).den { e with r := rN, β := e.β ++ al.map γ } := fun t => tmps_getD hrel0 t
            apply Array.ext
            · rw [hsz]; simp [lateFr_len, hfl]
            · intro t h1 h2
              have hta : t < a.tmps.size := by rw [← hsz]; exact h1
              rw [show act.tmps[t] = act.tmps.getD t undef by simp [Array.getD, h1], hslot t]
              have hgoal : ((lateFr s3 ((ops.toList.take N).drop N1) s3.fr).map (SV.den { e with r := rN, β := e.β ++ al.map γ })).toArray[t] = ((lateFr s3 ((ops.toList.take N).drop N1) s3.fr).getD t undefS).den { e with r := rN, β := e.β ++ al.map γ } := by
                have h3 : t < (lateFr s3 ((ops.toList.take N).drop N1) s3.fr).length := by rw [lateFr_len, hfl]; exact hta
                simp [List.getD, h3]
              rw [hgoal]
              have hno : (∀ k, N1 ≤ k → k < N → (ops[k]?).bind (·.dst) ≠ some t) → (lateFr s3 ((ops.toList.take N).drop N1) s3.fr).getD t undefS = s3.fr.getD t undefS := by
                intro hn
                refine lateFr_not s3 _ _ fun o ho hdo => ?_
                obtain ⟨c, hc⟩ := List.getElem?_of_mem ho
                rw [hlget] at hc
                split at hc
                · rename_i hcN
                  exact hn (N1 + c) (by omega) hcN (by rw [hc]; exact hdo)
                · cases hc
              cases hw : writer ops N t with
              | none =>
                rw [hno (fun k h3 h4 => writer_none hw k h4), ← hsl0 t, hslot0 t]
                cases hw1 : writer ops N1 t with
                | none => rfl
                | some i =>
                  obtain ⟨h3, h4⟩ := writer_some hw1
                  exact absurd h4 (writer_none hw i (by omega))
              | some i =>
                obtain ⟨hiN, hid⟩ := writer_some hw
                rcases Nat.lt_or_ge i N1 with hi1 | hi1
                · rw [hno (fun k h3 h4 h5 => by have := huniq k i t h4 hiN h5 hid; omega), ← hsl0 t, hslot0 t, writer_eq hi1 hid (fun j hj hjd => huniq j i t (by omega) hiN hjd hid)]
                · obtain ⟨c, rfl⟩ : ∃ c, i = N1 + c := ⟨i - N1, by omega⟩
                  rcases hLt c hiN with ⟨o, _, _, _, _, _, _, _, ho, hl, _⟩ | ⟨o, x, d, ho, hl, _⟩
                  · rw [ho] at hid
                    simp [hl.dst] at hid
                  · rw [ho] at hid
                    simp only [Option.bind_some, hl.dst, Option.some.injEq] at hid
                    subst hid
                    rw [lateFr_at s3 _ s3.fr c o (by rw [hlget, if_pos hiN]; exact ho) hl.op hl.dst (by rw [hfl]; exact hta) (fun j o' hj hdj => by
                      rw [hlget] at hj
                      split at hj
                      · rename_i hjN
                        have := huniq (N1 + j) (N1 + c) d hjN hiN (by rw [hj]; exact hdj) (by rw [ho]; exact hl.dst)
                        omega
                      · cases hj), hev3]
                    have hsc : (sN.ev x).scp s0.mem.length s0.rows.length = true := by
                      have := hl.scp
                      rw [(hsame c (by omega)).1] at this
                      exact this
                    rw [hents]
                    simp only [Nat.not_lt_of_le (Nat.le_add_right N1 c), if_false, ho, Option.map_some, hl.op]
                    exact (SV.den_like hlike _ hsc).symm
          have hfl3 : s3.fl = s.fl ∧ s3.flr = s.flr := by
            rw [h3m.1]
            refine ⟨hlex.fl.trans ?_, hlex.flr.trans ?_⟩ <;> rw [← hs0]
          have hdp3 : s3.dp = bs.length := by
            rw [h3m.1]
            refine (hlex.dp.trans ?_).trans hdp
            rw [← hs0]
          refine execOps_sound hG hih _ _ k bs _ act w' hrel hdp3 hsat ?_
          rintro a'' w'' ⟨s'', e'', more, hle'', hrel'', hf, hfr, hd', hsat''⟩
          exact hQ a'' w'' ⟨s'', e'', more, hle.trans hle'', hrel'', hf.trans hfl3.1, hfr.trans hfl3.2, hd', hsat''⟩
        · unfold cnt
          exact Nat.le_trans (List.length_filter_le _ _) (by simp)
        · intro j oj _ hj
          simp [Array.getD] at hj
        · intro n i _ hi
          simp [Array.getD] at hi
        · intro n hn
          exact hXcont n hn
        · intro i ob _ hi
          simp [Array.getD] at hi
        · intro i j _ _ hi
          simp [Array.getD] at hi
        · intro t
          unfold slotV
          cases writer ops N t with
          | none => rfl
          | some i => simp [Array.getD]
      · exact hsat.elim
    · exact hs.elim
  · exact hs.elim

theorem Px.mk {W0 : Bas} {e e' : Env} {s' : St} {a : Act} {w : World} {fl flr : Nat} {k : Kont} {out : Out} {more : List (List Int → Prop)} (hle : Env.le e e') (hrel : Rel e' W0 s' a w) (hf : s'.fl = fl) (hfr : s'.flr = flr) (hd : s'.dp = (bs ++ more).length) (hs : (k out s').sat Γ e'.R Ψ (bs ++ more) e'.r) : Px Γ Ψ bs W0 e fl flr k out.exitOf a w :=
  ⟨out, s', e', more, rfl, hle, hrel, hf, hfr, hd, hs⟩

theorem Px.trans {W0 : Bas} {e e' : Env} {fl flr fl' flr' : Nat} {k : Kont} {x : Exit} {a : Act} {w : World} {more : List (List Int → Prop)} (hle : Env.le e e') (hf : fl' = fl) (hfr : flr' = flr) (h : Px Γ Ψ (bs ++ more) W0 e' fl' flr' k x a w) : Px Γ Ψ bs W0 e fl flr k x a w := by
  obtain ⟨out, s', e'', more', h1, h2, h3, h4, h5, h6, h7⟩ := h
  exact ⟨out, s', e'', more ++ more', h1, hle.trans h2, h3, h4.trans hf, h5.trans hfr, by rw [← List.append_assoc]; exact h6, by rw [← List.append_assoc]; exact h7⟩

theorem rounds_mono' {body : Code} {Q Q' : Exit → Act → World → Prop} (h : ∀ x a w, Q x a w → Q' x a w) : ∀ (n : Nat) (a : Act) (w : World), roundsS (wps P body) Q n a w → roundsS (wps P body) Q' n a w := by
  intro n
  induction n with
  | zero => intro a w hr; exact hr
  | succ n ih =>
    intro a w hr
    rw [roundsS_succ] at hr ⊢
    refine wps_mono body hr ?_
    intro ex a' w' hx
    cases ex with
    | normal => exact ih a' w' hx
    | _ => exact h _ _ _ hx

theorem matchS_spec {pl : Plan} {s x : St} {rows : List Row} {as : List B} {es : List E} {us : List Nat} (h : matchS pl s rows x = some (as, es, us)) :
    ∃ as1 as2 es1 es2 us1 us2, as = as1 ++ as2 ∧ es = es1 ++ es2 ∧ us = us1 ++ us2 ∧ matchF x pl.fr s.fr x.fr = some (as1, es1, us1) ∧ matchM x pl.mem s.mem x.mem = some (as2, es2, us2) ∧ nodupB (us1 ++ us2) = true ∧ sameR (us1 ++ us2) 0 rows x.rows = true := by
  unfold matchS at h
  split at h
  · rename_i as1 es1 us1 as2 es2 us2 h1 h2
    split at h
    · rename_i hc
      simp only [Bool.and_eq_true] at hc
      simp only [Option.some.injEq, Prod.mk.injEq] at h
      obtain ⟨rfl, rfl, rfl⟩ := h
      exact ⟨as1, as2, es1, es2, us1, us2, rfl, rfl, rfl, h1, h2, hc.1, hc.2⟩
    · cases h
  · cases h

theorem forkL_sat {e : Env} {W0 : Bas} {a : Act} {w : World} {k : St → T} : ∀ (ts : List Nat) (s : St), Rel e W0 s a w → (forkL ts s k).sat Γ e.R Ψ bs e.r → ∃ x, Rel e W0 { s with fr := x } a w ∧ (k { s with fr := x }).sat Γ e.R Ψ bs e.r
  | [], s, h, hs => ⟨s.fr, h, hs⟩
  | t :: ts, s, h, hs => by
    unfold forkL at hs
    split at hs
    · exact forkL_sat ts s h hs
    · obtain ⟨x, h1, hs1⟩ := forkO_sat h hs
      obtain ⟨y, h2, hs2⟩ := forkL_sat ts { s with fr := x } h1 hs1
      exact ⟨y, h2, hs2⟩
theorem loopG_sound {ih : Code → St → Kont → T} (hih : IH P Γ ih) {pl : Plan} {body : Code} {s : St} {k : Kont} {W0 : Bas} {e : Env} {a : Act} {w : World} (h : Rel e W0 s a w) (hdp : s.dp = bs.length)
    (hs : (loopG ih pl body s k).sat Γ e.R Ψ bs e.r) : ∃ n, roundsS (wps P body) (Px Γ Ψ bs W0 e s.fl s.flr k) n a w := by
  unfold loopG at hs
  split at hs
  · rename_i hsc
    split at hs
    · rename_i as es us hm
      obtain ⟨has, hs⟩ := asrts_sat hs
      obtain ⟨I, μ, hI, hloop⟩ := hs
      obtain ⟨as1, as2, es1, es2, us1, us2, rfl, rfl, rfl, h1, h2, h3, _⟩ := matchS_spec hm
      have start := match_rel (ex := e) (sx := s) (us0 := us1 ++ us2) h.rep hsc (Env.le_refl _) h rfl rfl h1 h2 h3 has (fun n b hb hl => by
        obtain ⟨hb', hn⟩ := killR_some hb hl
        exact ⟨hn, b, hb', hl, rfl, rfl, rfl⟩)
      obtain ⟨e2, hle2, her, heR, hrel2⟩ := start
      have hlen : (es1 ++ es2).length = nvS pl.fr + nvM pl.mem := by
        have h4 := hrel2.rep.nv
        have h5 : (genS pl s (us1 ++ us2)).nv = s.nv + (nvS pl.fr + nvM pl.mem) := rfl
        rw [h5, her, List.length_append, List.length_map, h.rep.nv] at h4
        omega
      have key : ∀ (n : Nat) (xs : List Int), xs.length = (es1 ++ es2).length → I xs → μ xs < n → ∀ (e2 : Env) (a : Act) (w : World), Env.le e e2 → e2.r = e.r ++ xs → e2.R = e.R → Rel e2 W0 (genS pl s (us1 ++ us2)) a w →
          roundsS (wps P body) (Px Γ Ψ bs W0 e s.fl s.flr k) n a w := by
        intro n
        induction n with
        | zero => intro xs _ _ hlt; omega
        | succ n ihn =>
          intro xs hxl hIx hlt e2 a w hle2 her heR hrel2
          have hbody := hloop xs hxl hIx
          rw [← her, ← heR] at hbody
          rw [roundsS_succ]
          refine wps_mono body (hih body _ _ W0 Ψ _ e2 a w hrel2 (by show s.dp + 1 = _; rw [hdp]; simp) hbody) ?_
          rintro ex a' w' ⟨out, s', e', more, rfl, hle', hrel', hf, hfr, hd, hsat⟩
          have hle3 := hle2.trans hle'
          cases out with
          | norm =>
            dsimp only at hsat
            obtain ⟨frx, hrelx, hsatx⟩ := forkL_sat _ s' hrel' hsat
            clear hsat hrel'
            obtain ⟨sx, hsx⟩ : ∃ sx : St, sx = { s' with fr := frx } := ⟨_, rfl⟩
            have hf : sx.fl = s.fl := by rw [hsx]; exact hf
            have hfr : sx.flr = s.flr := by rw [hsx]; exact hfr
            have hd : sx.dp = ((bs ++ [fun ys => I ys ∧ μ ys < μ xs]) ++ more).length := by rw [hsx]; exact hd
            rw [← hsx] at hrelx hsatx
            clear hsx
            revert hd
            revert hfr
            revert hf
            revert hsatx
            revert hrelx
            generalize sx = s'
            intro hrel' hsat hf hfr hd
            split at hsat
            · rename_i bs' fs us' hm'
              obtain ⟨has', hsat⟩ := asrts_sat hsat
              have hback : ∀ {d : Nat} {es : List E} {Rr : Fo} {r : List Int} {bb : List (List Int → Prop)} {p : List Int → Prop}, bb[d]? = some p → (T.back d es).sat Γ Rr Ψ bb r → p (es.map (E.den Rr r)) := by
                intro d es Rr r bb p hp hb
                simp only [T.sat, hp] at hb
                exact hb
              have hget : ((bs ++ [fun ys => I ys ∧ μ ys < μ xs]) ++ more)[s.dp]? = some (fun ys => I ys ∧ μ ys < μ xs) := by
                rw [hdp, List.append_assoc, List.getElem?_append_right (Nat.le_refl _), Nat.sub_self]
                rfl
              obtain ⟨hIy, hμ⟩ := hback hget hsat
              obtain ⟨as1', as2', es1', es2', us1', us2', rfl, rfl, rfl, h1', h2', h3', h4'⟩ := matchS_spec hm'
              obtain ⟨e3, hle4, her4, heR4, hrel4⟩ := match_rel (ex := e') (sx := s') (us0 := us1 ++ us2) h.rep hsc hle3 hrel' hf hfr h1' h2' h3' has' (fun n b hb hl => by
                have := sameR_spec h4' n b hb hl
                rwa [Nat.zero_add] at this)
              refine ihn _ ?_ hIy (by omega) e3 a' w' hle4 her4 heR4 hrel4
              have h5 := hrel4.rep.nv
              have h6 : (genS pl s (us1 ++ us2)).nv = s.nv + (nvS pl.fr + nvM pl.mem) := rfl
              rw [h6, her4, List.length_append, h.rep.nv] at h5
              omega
            · exact hsat.elim
          | exit id => exact Px.mk (out := .exit id) (more := [fun ys => I ys ∧ μ ys < μ xs] ++ more) hle3 hrel' hf hfr (by rw [← List.append_assoc]; exact hd) (by rw [← List.append_assoc]; exact hsat)
          | ret => exact Px.mk (out := .ret) (more := [fun ys => I ys ∧ μ ys < μ xs] ++ more) hle3 hrel' hf hfr (by rw [← List.append_assoc]; exact hd) (by rw [← List.append_assoc]; exact hsat)
      exact ⟨_, key _ _ (by rw [List.length_map]) hI (Nat.lt_succ_self _) e2 a w hle2 her heR hrel2⟩
    · exact hs.elim
  · exact hs.elim

theorem exec_sound (hm : P.follows .mixedOrders = true) {lp : St → Code → Option Plan} (hG : Gok P Γ) : ∀ f : Nat, IH P Γ (exec P lp Γ f)
  | 0 => fun c s k W0 Ψ bs e a w h _ hs => hs.elim
  | f + 1 => by
    have ih := exec_sound hm (lp := lp) hG f
    intro c s k W0 Ψ bs e a w h hdp hs
    cases c with
    | skip => exact (Px.here (out := .norm) rfl (Env.le_refl _) h rfl rfl hdp hs)
    | label l => exact (Px.here (out := .norm) rfl (Env.le_refl _) h rfl rfl hdp hs)
    | region id ops draw =>
      have fin : ∀ a' w', Nx Γ Ψ bs W0 e s.fl s.flr (k .norm) a' w' → Px Γ Ψ bs W0 e s.fl s.flr k .normal a' w' := by
        rintro a' w' ⟨s', e', more, h1, h2, h3, h4, h5, h6⟩
        exact Px.mk (out := .norm) h1 h2 h3 h4 h5 h6
      cases draw with
      | true => exact wps_tidy hm (fun c a w hp => by obtain ⟨out, _, _, _, hx, _⟩ := hp; cases out <;> cases hx) (fun ⟨a, w, hp⟩ => by obtain ⟨out, _, _, _, hx, _⟩ := hp; cases out <;> cases hx) (execDraw_sound hm hG ih h hdp hs fin)
      | false =>
        have alt : (execOps P Γ (exec P lp Γ f) ops ops.toList s (k .norm)).sat Γ e.R Ψ bs e.r → wps P (.region id ops false) (Px Γ Ψ bs W0 e s.fl s.flr k) a w := fun hs =>
          wps_list (execOps_sound hG ih ops.toList s (k .norm) bs e a w h hdp hs fin)
        have hs' : (specT P ops s (k .norm) (execOps P Γ (exec P lp Γ f) ops ops.toList s (k .norm))).sat Γ e.R Ψ bs e.r := hs
        unfold specT at hs'
        split at hs'
        · split at hs'
          · rename_i as s' pend hsp
            split at hs'
            · rename_i hun
              obtain ⟨has, hk⟩ := asrts_sat hs'
              have hsr : SpR e W0 s [] a w := ⟨h.rep, h.defs, by rw [h.tmps]; simp, fun t => by rw [tmps_getD h t]; rfl, fun p hp => (by cases hp), List.Pairwise.nil⟩
              refine wps_list (specRun_sound ops.toList s [] as s' pend e W0 a w hsp has hsr ?_)
              intro a' w' hsr'
              obtain ⟨e', h1, h2, h3, h4, h5, h6, h7⟩ := finishP_rel pend s' e hsr' hun
              have hst := specRun_st _ _ _ _ _ _ hsp
              exact fin a' w' (Nx.here h1 h4 (h5.trans (by rw [hst])) (h6.trans (by rw [hst])) (h7.trans (by rw [hst]; exact hdp)) (by rw [h2, h3]; exact hk))
            · exact alt hs'
          · exact alt hs'
        · exact alt hs'
    | seq x y =>
      refine wps_mono x (ih x s _ W0 Ψ bs e a w h hdp hs) ?_
      rintro ex a' w' ⟨out, s', e', more, rfl, hle, hrel, hf, hfr, hd, hsat⟩
      cases out with
      | norm => exact wps_mono y (ih y s' k W0 Ψ (bs ++ more) e' a' w' hrel hd hsat) (fun _ _ _ hp => Px.trans hle hf hfr hp)
      | exit id => exact Px.mk (out := .exit id) hle hrel hf hfr hd hsat
      | ret => exact Px.mk (out := .ret) hle hrel hf hfr hd hsat
    | cond c x y =>
      cases c with
      | tmp t =>
        simp only [exec] at hs
        obtain ⟨z, h1, hs1⟩ := forkO_sat h hs
        have hev : ∀ b, slotB { s with fr := z } t = some (.c b) → a.eval (.tmp t) = .bool b := by
          intro b hb
          rw [h1.eval (.tmp t)]
          show (({ s with fr := z } : St).fr.getD t undefS).den e = _
          rw [(slotB_spec hb).2]
          rfl
        split at hs1
        · rename_i hb
          exact ⟨true, (hev true hb), ih x { s with fr := z } k W0 Ψ bs e a w h1 hdp hs1⟩
        · rename_i hb
          exact ⟨false, (hev false hb), ih y { s with fr := z } k W0 Ψ bs e a w h1 hdp hs1⟩
        · exact hs1.elim
      | const v =>
        cases v with
        | bool b =>
          cases b with
          | true => exact ⟨true, rfl, ih x s k W0 Ψ bs e a w h hdp hs⟩
          | false => exact ⟨false, rfl, ih y s k W0 Ψ bs e a w h hdp hs⟩
        | _ => exact hs.elim
      | global g => exact hs.elim
      | func g => exact hs.elim
    | block id body =>
      refine wps_mono body (ih body s _ W0 Ψ bs e a w h hdp hs) ?_
      rintro ex a' w' ⟨out, s', e', more, rfl, hle, hrel, hf, hfr, hd, hsat⟩
      cases out with
      | norm => exact Px.mk (out := .norm) hle hrel hf hfr hd hsat
      | exit id' =>
        dsimp only at hsat
        show if id' = id then _ else _
        split at hsat
        · rename_i hid
          rw [if_pos hid]
          exact Px.mk (out := .norm) hle hrel hf hfr hd hsat
        · rename_i hid
          rw [if_neg hid]
          exact Px.mk (out := .exit id') hle hrel hf hfr hd hsat
      | ret => exact Px.mk (out := .ret) hle hrel hf hfr hd hsat
    | loop body =>
      simp only [exec] at hs
      split at hs
      · obtain ⟨n, hr⟩ := loopG_sound ih h hdp hs
        exact ⟨n, hr⟩
      · have key : ∀ (n : Nat) (s : St) (bs : List (List Int → Prop)) (e : Env) (a : Act) (w : World), Rel e W0 s a w → s.dp = bs.length → (loopN (exec P lp Γ f) body n s k).sat Γ e.R Ψ bs e.r → roundsS (wps P body) (Px Γ Ψ bs W0 e s.fl s.flr k) n a w := by
          intro n
          induction n with
          | zero => intro s bs e a w _ _ hs; exact hs.elim
          | succ n ihn =>
            intro s bs e a w h hdp hs
            rw [roundsS_succ]
            refine wps_mono body (ih body s _ W0 Ψ bs e a w h hdp hs) ?_
            rintro ex a' w' ⟨out, s', e', more, rfl, hle, hrel, hf, hfr, hd, hsat⟩
            cases out with
            | norm => exact rounds_mono' (fun x a w hp => Px.trans hle hf hfr hp) n a' w' (ihn s' (bs ++ more) e' a' w' hrel hd hsat)
            | exit id => exact Px.mk (out := .exit id) hle hrel hf hfr hd hsat
            | ret => exact Px.mk (out := .ret) hle hrel hf hfr hd hsat
        exact ⟨f, key f s bs e a w h hdp hs⟩
    | exit id => exact (Px.here (out := .exit id) rfl (Env.le_refl _) h rfl rfl hdp hs)
    | ret => exact (Px.here (out := .ret) rfl (Env.le_refl _) h rfl rfl hdp hs)
    | rangeFunc _ _ _ _ => exact hs.elim
    | scope _ => exact hs.elim
    | goto _ => exact hs.elim
    | refuse _ => exact hs.elim

theorem E.den_Rf (R R' : Fo) (r : List Int) : E.den R r = E.den R' r := funext fun a => E.den_R R R' r a
theorem B.den_R (R R' : Fo) (r : List Int) : ∀ a : B, a.den R r = a.den R' r := by
  intro a
  induction a <;> simp only [B.den, E.den_R R R'] <;> simp_all

theorem T.sat_R (R R' : Fo) : ∀ (t : T) (bs : List (List Int → Prop)) (r : List Int), t.sat Γ R Ψ bs r = t.sat Γ R' Ψ bs r := by
  intro t
  induction t with
  | ret es => intro bs r; simp only [T.sat, E.den_Rf R R']
  | ite b t f iht ihf => intro bs r; simp only [T.sat, B.den_R R R', iht bs r, ihf bs r]
  | asrt b t ih => intro bs r; simp only [T.sat, B.den_R R R', ih bs r]
  | call g args t ih =>
    intro bs r
    simp only [T.sat, E.den_Rf R R']
    split
    · rw [ih]
    · rfl
  | loop n ini t ih => intro bs r; simp only [T.sat, E.den_Rf R R', ih]
  | back d es =>
    intro bs r
    simp only [T.sat, E.den_Rf R R']
  | both t f iht ihf => intro bs r; simp only [T.sat, iht bs r, ihf bs r]
  | fail => intro bs r; rfl

theorem hsE_rows : ∀ {ks : List K} {es : List E} {i : Nat} {kr : List K} {x : E}, (hsE ks es)[i]? = some (kr, x) → ∃ ty, (rowsE ks es)[i]? = some ⟨ty, kr, x, true⟩
  | [], _, i, kr, x, h => by simp [hsE] at h
  | .i _ :: ks, [], i, kr, x, h => by simp [hsE] at h
  | .b :: ks, [], i, kr, x, h => by simp [hsE] at h
  | .s _ _ :: ks, [], i, kr, x, h => by simp [hsE] at h
  | .i _ :: ks, _ :: es, i, kr, x, h => hsE_rows (ks := ks) (es := es) (i := i) h
  | .b :: ks, _ :: es, i, kr, x, h => hsE_rows (ks := ks) (es := es) (i := i) h
  | .s ty _ :: ks, _ :: es, 0, kr, x, h => by
    simp only [hsE, List.getElem?_cons_zero, Option.some.injEq, Prod.mk.injEq] at h
    obtain ⟨rfl, rfl⟩ := h
    exact ⟨ty, rfl⟩
  | .s _ _ :: ks, _ :: es, i + 1, kr, x, h => by
    obtain ⟨ty, h'⟩ := hsE_rows (ks := ks) (es := es) (i := i) (by simpa [hsE] using h)
    exact ⟨ty, by simpa [rowsE] using h'⟩

theorem SlOK.slice {w : World} {ks : List K} {v : Value} {c : Int} (h : SlOK w ks v c) : ∃ a l cp, v = .slice a l cp := by
  rcases h with ⟨h, _⟩ | ⟨b, off, cap, h, _⟩
  · exact ⟨_, _, _, h⟩
  · exact ⟨_, _, _, h⟩

theorem symFnL_sound (hm : P.follows .mixedOrders = true) (hG : Gok P Γ) {lp : St → Code → Option Plan} {gl : List (Nat × List Int)} {fuel : Nat} {fn : FuncId} {ps rs : List Sh} {xs : List Int} {vs : List Value} (w : World) (hx : ShsR (fun _ ks u n => SlN w ks u n) ps vs xs)
    (hs : (symFnL P lp gl Γ fuel fn ps rs).sat Γ [] Ψ [] xs) (hgl : GlOK gl w) :
    Calls P fn vs.toArray w fun x w' => ∃ ys v, x = .returned v ∧ Ψ ys ∧ ResOK (fun k => w.heap.size ≤ k) w' rs v ys ∧ Below w.heap.size w w' := by
  unfold symFnL at hs
  split at hs
  · rename_i F hF
    split at hs
    · rename_i body hb
      have hxl := hx.len.1
      have hv : (varsFrom 0 (total ps)).map (E.den (slsShs ps vs) xs) = xs := by
        have := varsFrom_den (R := slsShs ps vs) (r := []) hxl
        simpa using this
      have hx' : ShsR (fun _ ks u n => SlN w ks u n) ps vs ((varsFrom 0 (total ps)).map (E.den (⟨xs, [], [], [], slsShs ps vs⟩ : Env).R (⟨xs, [], [], [], slsShs ps vs⟩ : Env).r)) := by
        show ShsR _ ps vs ((varsFrom 0 (total ps)).map (E.den (slsShs ps vs) xs))
        rw [hv]; exact hx
      obtain ⟨r1, r2⟩ := slsShs_rows hx'
      have hsl : ∀ (j : Nat) (u : Value), (slsShs ps vs)[j]? = some u → ∃ a l cp, u = .slice a l cp := fun j u hj => by
        obtain ⟨b, hb'⟩ : ∃ b, (rowsE (allK ps) (varsFrom 0 (total ps)))[j]? = some b := ⟨_, List.getElem?_eq_getElem (by rw [← r1]; exact (List.getElem?_eq_some_iff.1 hj).1)⟩
        exact (r2 j b u hb' hj).now.slice
      have hden : ((shsE argG 0 ps (varsFrom 0 (total ps))).map SV.w).map (SV.den ⟨xs, [], [], [], slsShs ps vs⟩) = vs := by
        rw [List.map_map]
        refine shsE_val (e := ⟨xs, [], [], [], slsShs ps vs⟩) hx' fun j u hj => ?_
        simp only [argG, SC.den, G.val, Nat.zero_add, List.getD, hj, Option.getD_some]
        exact slV_of (hsl j u hj)
      have hrep : Rep ⟨xs, [], [], [], slsShs ps vs⟩ ⟨w, fun _ => False⟩ ⟨frameOf ps F.ntmps, [], [], total ps, 0, 0, 0, gl, hsE (allK ps) (varsFrom 0 (total ps)), 0⟩ w := by
        refine ⟨BelowX.refl _, rfl, rfl, hxl, rfl, ?_, ?_, ?_, ?_, ?_, ?_, ?_, ⟨hgl, fun _ _ _ hh => hh⟩, ?_⟩
        · intro n b hb; simp at hb
        · intro n b hb; simp at hb
        · intro n m b c hb; simp at hb
        · intro n b hb; simp at hb
        · intro n b hb; simp at hb
        · intro n m b c k hb; simp at hb
        · intro n m b c hb; simp at hb
        · intro i ks c hi
          obtain ⟨ty, hr⟩ := hsE_rows hi
          have hlt : i < (slsShs ps vs).length := by rw [r1]; exact (List.getElem?_eq_some_iff.1 hr).1
          have hu : (slsShs ps vs)[i]? = some (slsShs ps vs)[i] := List.getElem?_eq_getElem hlt
          have := r2 i _ _ hr hu
          show SlN w ks (slV ((slsShs ps vs).getD i undef)) _
          rw [show (slsShs ps vs).getD i undef = (slsShs ps vs)[i] by simp [List.getD, hu], slV_of (hsl i _ hu)]
          exact this
      rw [T.sat_R [] (slsShs ps vs)] at hs
      have := calls_done (exec_sound hm (lp := lp) hG fuel) hrep (args := (shsE argG 0 ps (varsFrom 0 (total ps))).map SV.w) (rs := rs) (Ψ := Ψ) (bs := []) rfl hF hb hs
      rw [hden] at this
      refine this.mono ?_
      rintro x w' ⟨ys, v, h1, h2, h3, h4⟩
      exact ⟨ys, v, h1, h2, ResOK.up (fun k hk => hk.elim id (fun hh => hh.elim)) h3, h4.below⟩
    · exact hs.elim
  · exact hs.elim

theorem Sum.ok_ofL (hm : P.follows .mixedOrders = true) (hG : Gok P Γ) {lp : St → Code → Option Plan} {s : Sum} {fuel : Nat} {t : T} (ht : symFnL P lp s.gl Γ fuel s.fn s.ps s.rs = t)
    (hsh : (s.ps ++ s.rs).all (fun sh => sh.agg || sh.ks.length == 1) = true)
    (hs : ∀ xs : List Int, xs.length = total s.ps → s.pre xs → t.sat Γ [] (fun ys => ys = s.sem xs) [] xs)
    (hl : ∀ xs : List Int, xs.length = total s.ps → s.pre xs → (s.sem xs).length = total s.rs) : s.ok P := by
  subst ht
  refine ⟨fun sh h => ?_, fun xs vs w hgl hx hpre => ⟨hl xs hx.len.1 hpre, ?_⟩⟩
  · have := List.all_eq_true.1 hsh sh h
    simpa using this
  · refine (symFnL_sound hm hG w hx (hs xs hx.len.1 hpre) hgl).mono ?_
    rintro e w' ⟨ys, v, rfl, rfl, hv, hb⟩
    exact ⟨v, rfl, hv, hb⟩
end

#print axioms exec_sound
#print axioms Sum.ok_ofL
end Go.Sx
