/-
  Symbolic execution: THE SOUNDNESS THEOREM, and a function's contract by its tree.
-/
import Derived.Test.YtlgcjkolakcfiaaSxQ
namespace Go.Sx
open Go.RowKit

section
variable {P : Program} {Γ : List Sum} {Ψ : List Int → Prop} {bs : List (List Int → Prop)}

theorem tailLen_le : ∀ (l : List Oper) (i : Nat), tailLen i l ≤ l.length
  | [], _ => by simp [tailLen]
  | o :: l, i => by
    have := tailLen_le l (i + 1)
    simp only [tailLen, List.length_cons]
    split <;> omega

theorem execDraw_sound (hm : P.follows .mixedOrders = true) (hG : Gok P Γ) {ih : Code → St → Kont → T} (hih : IH P Γ ih) {id : Nat} {ops : Array Oper} {s : St} {k : St → T} {W0 : World} {e : Env} {a : Act} {w : World} {Q : Exit → Act → World → Prop}
    (h : Rel e W0 s a w) (hs : (execDraw P Γ ih ops s k).sat Γ e.R Ψ bs e.r) (hQ : ∀ a' w', Nx Γ Ψ bs W0 e s.fl s.flr k a' w' → Q .normal a' w') : (Code.region id ops true).wp P Q a w := by
  unfold execDraw at hs
  dsimp only at hs
  split at hs
  · rename_i hc
    simp only [Bool.and_eq_true] at hc
    obtain ⟨⟨hok, hsc⟩, hdst⟩ := hc
    generalize hN : ops.size - tailLen 0 ops.toList = N at hs hok
    have hNs : N ≤ ops.size := by omega
    unfold drawOK at hok
    simp only [Bool.and_eq_true] at hok
    obtain ⟨_, hok⟩ := hok
    have hrow : ∀ j oj, ops[j]? = some oj → ((bindsOn oj).all (fun i => decide (i < j)) &&
      (if j < N then (List.range j).all (fun i => match ops[i]? with
        | none => false
        | some oi => (oi.dst.isNone || oi.dst != oj.dst) && ((bindsOn oj).contains i || oi.apart ops oj))
      else forced j oj)) = true := by
      intro j oj hoj
      have hlt := (Array.getElem?_eq_some_iff.1 hoj).1
      have := List.all_eq_true.1 hok j (by simpa using hlt)
      rw [hoj] at this
      exact this
    have hbinds : ∀ (oj : Oper) i, i ∈ bindsOn oj → ∃ e ∈ oj.after, Region.binds .any e = true ∧ e.on = i := by
      intro oj i hi
      obtain ⟨e, he, rfl⟩ := List.mem_map.1 hi
      obtain ⟨h1, h2⟩ := List.mem_filter.1 he
      exact ⟨e, by simpa using h1, h2, rfl⟩
    have hdeps : ∀ j oj, ops[j]? = some oj → ∀ e ∈ oj.after, Region.binds .any e = true → e.on < j := by
      intro j oj hoj e he hb
      have := hrow j oj hoj
      simp only [Bool.and_eq_true] at this
      have h1 := List.all_eq_true.1 this.1 e.on (List.mem_map.2 ⟨e, List.mem_filter.2 ⟨by simpa using he, hb⟩, rfl⟩)
      simpa using h1
    have hforced : ∀ j oj, N ≤ j → ops[j]? = some oj → ∀ i, i < j → ∃ e ∈ oj.after, Region.binds .any e = true ∧ e.on = i := by
      intro j oj hj hoj i hi
      have := hrow j oj hoj
      simp only [Bool.and_eq_true] at this
      rw [if_neg (by omega)] at this
      have h1 := List.all_eq_true.1 this.2 i (by simpa using hi)
      exact hbinds oj i (by simpa using h1)
    have hpair : ∀ i j oi oj, i < j → j < N → ops[i]? = some oi → ops[j]? = some oj → (oi.dst = none ∨ oi.dst ≠ oj.dst) ∧ ((∃ e ∈ oj.after, Region.binds .any e = true ∧ e.on = i) ∨ oi.apart ops oj = true) := by
      intro i j oi oj hij hj hoi hoj
      have := hrow j oj hoj
      simp only [Bool.and_eq_true] at this
      rw [if_pos hj] at this
      have h1 := List.all_eq_true.1 this.2 i (by simpa using hij)
      rw [hoi] at h1
      simp only [Bool.and_eq_true, Bool.or_eq_true] at h1
      refine ⟨?_, ?_⟩
      · rcases h1.1 with h2 | h2
        · exact .inl (by simpa using h2)
        · exact .inr (by simpa using h2)
      · rcases h1.2 with h2 | h2
        · exact .inl (hbinds oj i (by simpa using h2))
        · exact .inr h2
    have hdl : ∀ i o d, i < N → ops[i]? = some o → o.dst = some d → d < s.fr.length := by
      intro i o d _ ho hd
      have := Array.all_eq_true_iff_forall_mem.1 hdst o (Array.mem_of_getElem? ho)
      rw [hd] at this
      simpa using this
    have hu : ∀ i j t, j < i → i < N → (ops[j]?).bind (·.dst) = some t → (ops[i]?).bind (·.dst) ≠ some t := by
      intro i j t hji hi h1 h2
      have hil : i < ops.size := by omega
      have hjl : j < ops.size := by omega
      have hoi : ops[i]? = some ops[i] := Array.getElem?_eq_getElem hil
      have hoj : ops[j]? = some ops[j] := Array.getElem?_eq_getElem hjl
      rw [hoj] at h1
      rw [hoi] at h2
      simp only [Option.bind_some] at h1 h2
      rcases (hpair j i _ _ hji hi hoj hoi).1 with h3 | h3
      · rw [h3] at h1; cases h1
      · exact h3 (h1.trans h2.symm)
    have huniq : ∀ i j t, i < N → j < N → (ops[i]?).bind (·.dst) = some t → (ops[j]?).bind (·.dst) = some t → i = j := by
      intro i j t hi hj h1 h2
      rcases Nat.lt_trichotomy i j with h3 | h3 | h3
      · exact absurd h2 (hu j i t h3 hj h1)
      · exact h3
      · exact absurd h1 (hu i j t h3 hi h2)
    have hscp := St.scp_of_sc hsc
    have hdrew : Below w.heap.size w { w with drawn := w.drawn + 1 } := (Below.refl _ _).drew
    have h0 : Rep e W0 s { w with drawn := w.drawn + 1 } := h.rep.grown hdrew
    have hlex0 : Lex s e a.tmps ops 0 (fun _ => ⟨fun _ => undef, none⟩) s e.r [] := by
      refine ⟨⟨[], by simp⟩, h.rep.nv.symm, rfl, rfl, rfl, rfl, ⟨[], by simp, rfl⟩, rfl, fun _ _ => rfl, fun _ _ => rfl, ?_, ?_, ?_, ?_, List.nodup_nil⟩
      · intro t _
        show some (a.tmps.getD t undef) = _
        rw [tmps_getD h t]
        rfl
      · intro t ht
        by_cases htl : t < s.fr.length
        · have := (St.scp_spec hscp).1 s.fr[t] (List.getElem_mem htl)
          rw [show s.fr.getD t undefS = s.fr[t] by simp [List.getD, htl]] at ht
          rw [this] at ht; cases ht
        · rw [show s.fr.getD t undefS = undefS by simp [List.getD, List.getElem?_eq_none (Nat.le_of_not_lt htl)]] at ht
          simp [undefS, SV.scp] at ht
      · intro j i' hj
        simp at hj
      · intro i' hi'
        omega
    obtain ⟨ents, sN, rN, al, hlex, hpre, hsat⟩ := execPre_sound hG hih h0 hu hdl (ops.toList.take N) 0 (fun j hj => by
        simp only [List.length_take, Array.length_toList] at hj
        rw [List.getElem?_take, if_pos (by omega)]
        simp) (by simp [Nat.min_eq_left hNs]) _ s e.r [] _ hlex0 (fun i' hi' => by omega) hs
    have hval : ∀ i, i < N → (ents i).obj = none → ∀ n, (ents i).val n = (ents i).val 0 := by
      intro i hi hob
      obtain ⟨_, _, h2, _⟩ := hpre i hi
      exact h2 hob
    have ha0 : a.tmps.size = s.fr.length := by rw [h.tmps]; simp
    refine wp_region_any hm ?_
    refine any_all (a0 := a.tmps) (w1 := w.heap.size) (C := fun w' => Below w.heap.size { w with drawn := w.drawn + 1 } w') hNs hforced hdeps hpair (fun i o d hi ho hd => by rw [ha0]; exact hdl i o d hi ho hd) hpre (fun w' hw' => hw'.size) ?_ ops.size _ a _ (fun _ => 0) (by simp) (fun i _ => by simp [Array.getD]) ?_ (Below.refl _ _) h.defs rfl ?_ ?_ ?_ ?_
    · intro act w' γ hw' hd hsz hγ hγu hslot
      obtain ⟨hrel, hle⟩ := hlex.done h0 hscp ha0 huniq hval hw' hd hsz hγ hγu hslot
      refine execOps_sound hG hih _ sN k _ act w' hrel hsat ?_
      rintro a'' w'' ⟨s'', e'', hle'', hrel'', hf, hfr, hsat''⟩
      exact hQ a'' w'' ⟨s'', e'', hle.trans hle'', hrel'', hf.trans hlex.fl, hfr.trans hlex.flr, hsat''⟩
    · unfold cnt
      exact Nat.le_trans (List.length_filter_le _ _) (by simp)
    · intro j oj _ hj
      simp [Array.getD] at hj
    · intro i ob hi
      simp [Array.getD] at hi
    · intro i j hi
      simp [Array.getD] at hi
    · intro t
      unfold slotV
      cases writer ops N t with
      | none => rfl
      | some i => simp [Array.getD]
  · exact hs.elim

/-- What stands behind a piece of code, through Px. -/
theorem Px.mk {W0 : World} {e e' : Env} {s' : St} {a : Act} {w : World} {fl flr : Nat} {k : Kont} {out : Out} (hle : Env.le e e') (hrel : Rel e' W0 s' a w) (hf : s'.fl = fl) (hfr : s'.flr = flr) (hs : (k out s').sat Γ e'.R Ψ bs e'.r) : Px Γ Ψ bs W0 e fl flr k out.exitOf a w :=
  ⟨out, s', e', rfl, hle, hrel, hf, hfr, hs⟩

theorem Px.trans {W0 : World} {e e' : Env} {fl flr fl' flr' : Nat} {k : Kont} {x : Exit} {a : Act} {w : World} (hle : Env.le e e') (hf : fl' = fl) (hfr : flr' = flr) (h : Px Γ Ψ bs W0 e' fl' flr' k x a w) : Px Γ Ψ bs W0 e fl flr k x a w := by
  obtain ⟨out, s', e'', h1, h2, h3, h4, h5, h6⟩ := h
  exact ⟨out, s', e'', h1, hle.trans h2, h3, h4.trans hf, h5.trans hfr, h6⟩

theorem exec_sound (hm : P.follows .mixedOrders = true) (hG : Gok P Γ) : ∀ f : Nat, IH P Γ (exec P Γ f)
  | 0 => fun c s k W0 Ψ bs e a w h hs => hs.elim
  | f + 1 => by
    have ih := exec_sound hm hG f
    intro c s k W0 Ψ bs e a w h hs
    cases c with
    | skip => exact wp_skip (Px.mk (out := .norm) (Env.le_refl _) h rfl rfl hs)
    | label l => exact wp_label (Px.mk (out := .norm) (Env.le_refl _) h rfl rfl hs)
    | region id ops draw =>
      have fin : ∀ a' w', Nx Γ Ψ bs W0 e s.fl s.flr (k .norm) a' w' → Px Γ Ψ bs W0 e s.fl s.flr k .normal a' w' := by
        rintro a' w' ⟨s', e', h1, h2, h3, h4, h5⟩
        exact Px.mk (out := .norm) h1 h2 h3 h4 h5
      cases draw with
      | true => exact execDraw_sound hm hG ih h hs fin
      | false => exact wp_region_list (execOps_sound hG ih ops.toList s (k .norm) e a w h hs fin)
    | seq x y =>
      refine wp_seq (wp_mono (ih x s _ W0 Ψ bs e a w h hs) ?_)
      rintro ex a' w' ⟨out, s', e', rfl, hle, hrel, hf, hfr, hsat⟩
      cases out with
      | norm => exact wp_mono (ih y s' k W0 Ψ bs e' a' w' hrel hsat) (fun _ _ _ hp => Px.trans hle hf hfr hp)
      | exit id => exact Px.mk (out := .exit id) hle hrel hf hfr hsat
      | ret => exact Px.mk (out := .ret) hle hrel hf hfr hsat
    | cond c x y =>
      cases c with
      | tmp t =>
        simp only [exec] at hs
        obtain ⟨z, h1, hs1⟩ := forkO_sat h hs
        have hev : ∀ b, slotB { s with fr := z } t = some (.c b) → a.eval (.tmp t) = .bool b := by
          intro b hb
          rw [h1.eval (.tmp t)]
          show (({ s with fr := z } : St).fr.getD t undefS).den e = _
          rw [(slotB_spec hb).2]
          rfl
        split at hs1
        · rename_i hb
          exact wp_cond_true (hev true hb) (ih x { s with fr := z } k W0 Ψ bs e a w h1 hs1)
        · rename_i hb
          exact wp_cond_false (hev false hb) (ih y { s with fr := z } k W0 Ψ bs e a w h1 hs1)
        · exact hs1.elim
      | const v =>
        cases v with
        | bool b =>
          cases b with
          | true => exact wp_cond_true rfl (ih x s k W0 Ψ bs e a w h hs)
          | false => exact wp_cond_false rfl (ih y s k W0 Ψ bs e a w h hs)
        | _ => exact hs.elim
      | global g => exact hs.elim
      | func g => exact hs.elim
    | block id body =>
      refine wp_block (wp_mono (ih body s _ W0 Ψ bs e a w h hs) ?_)
      rintro ex a' w' ⟨out, s', e', rfl, hle, hrel, hf, hfr, hsat⟩
      cases out with
      | norm => exact Px.mk (out := .norm) hle hrel hf hfr hsat
      | exit id' =>
        dsimp only at hsat
        show if id' = id then _ else _
        split at hsat
        · rename_i hid
          rw [if_pos hid]
          exact Px.mk (out := .norm) hle hrel hf hfr hsat
        · rename_i hid
          rw [if_neg hid]
          exact Px.mk (out := .exit id') hle hrel hf hfr hsat
      | ret => exact Px.mk (out := .ret) hle hrel hf hfr hsat
    | loop body =>
      have key : ∀ (n : Nat) (s : St) (e : Env) (a : Act) (w : World), Rel e W0 s a w → (loopN (exec P Γ f) body n s k).sat Γ e.R Ψ bs e.r → Code.rounds P body (Px Γ Ψ bs W0 e s.fl s.flr k) n a w := by
        intro n
        induction n with
        | zero => intro s e a w _ hs; exact hs.elim
        | succ n ihn =>
          intro s e a w h hs
          rw [rounds_succ]
          refine wp_mono (ih body s _ W0 Ψ bs e a w h hs) ?_
          rintro ex a' w' ⟨out, s', e', rfl, hle, hrel, hf, hfr, hsat⟩
          cases out with
          | norm =>
            have := ihn s' e' a' w' hrel hsat
            have mono : ∀ (n : Nat) (a' : Act) (w' : World), Code.rounds P body (Px Γ Ψ bs W0 e' s'.fl s'.flr k) n a' w' → Code.rounds P body (Px Γ Ψ bs W0 e s.fl s.flr k) n a' w' := by
              intro n
              induction n with
              | zero => intro a' w' h; exact h
              | succ n ihm =>
                intro a' w' h
                rw [rounds_succ] at h ⊢
                refine wp_mono h ?_
                intro ex a'' w'' hx
                cases ex with
                | normal => exact ihm a'' w'' hx
                | _ => exact Px.trans hle hf hfr hx
            exact mono n a' w' this
          | exit id => exact Px.mk (out := .exit id) hle hrel hf hfr hsat
          | ret => exact Px.mk (out := .ret) hle hrel hf hfr hsat
      exact wp_loop_rounds f (key f s e a w h hs)
    | exit id => exact wp_exit (Px.mk (out := .exit id) (Env.le_refl _) h rfl rfl hs)
    | ret => exact wp_ret (Px.mk (out := .ret) (Env.le_refl _) h rfl rfl hs)
    | rangeFunc _ _ _ _ => exact hs.elim
    | scope _ => exact hs.elim
    | goto _ => exact hs.elim
    | refuse _ => exact hs.elim

/-- **A FUNCTION's CONTRACT, BY ITS TREE.** -/
theorem symFn_sound (hm : P.follows .mixedOrders = true) (hG : Gok P Γ) {fuel : Nat} {fn : FuncId} {ps rs : List Sh} {xs : List Int} (hx : xs.length = total ps)
    (hs : (symFn P Γ fuel fn ps rs).sat Γ [] Ψ [] xs) (w : World) :
    Calls P fn (mkShs ps xs).toArray w fun x w' => ∃ ys, x = .returned (mkRes rs ys) ∧ Ψ ys ∧ ys.length = total rs ∧ Below w.heap.size w w' := by
  unfold symFn at hs
  split at hs
  · rename_i F hF
    split at hs
    · rename_i body hb
      have hden : ((shsE ps (varsFrom 0 (total ps))).map SV.w).map (SV.den ⟨xs, [], [], [], []⟩) = mkShs ps xs := by
        rw [List.map_map]
        have := shsE_den (e := ⟨xs, [], [], [], []⟩) ps (varsFrom 0 (total ps))
        have hv := varsFrom_den (R := []) (r := []) hx
        simp only [List.length_nil, List.nil_append] at hv
        rw [hv] at this
        exact this
      have hrep : Rep ⟨xs, [], [], [], []⟩ w ⟨frameOf ps F.ntmps, [], [], total ps, 0, 0, 0⟩ w := by
        refine ⟨Below.refl _ _, rfl, rfl, hx, rfl, ?_, ?_, ?_, ?_, ?_, ?_, ?_, ?_, ?_⟩
        all_goals (intros; simp_all [regOf, Reg.none])
      have := calls_done (exec_sound hm hG fuel) hrep (args := (shsE ps (varsFrom 0 (total ps))).map SV.w) (rs := rs) (Ψ := Ψ) (bs := []) hF hb hs
      rw [hden] at this
      exact this
    · exact hs.elim
  · exact hs.elim

/-- A summary, by the function's tree. -/
theorem Sum.ok_of (hm : P.follows .mixedOrders = true) (hG : Gok P Γ) {s : Sum} {fuel : Nat} {t : T} (ht : symFn P Γ fuel s.fn s.ps s.rs = t)
    (hsh : (s.ps ++ s.rs).all (fun sh => sh.agg || sh.ks.length == 1) = true)
    (hs : ∀ xs : List Int, xs.length = total s.ps → s.pre xs → t.sat Γ [] (fun ys => ys = s.sem xs) [] xs)
    (hl : ∀ xs : List Int, xs.length = total s.ps → s.pre xs → (s.sem xs).length = total s.rs) : s.ok P := by
  subst ht
  refine ⟨fun sh h => ?_, fun xs w hx hpre => ⟨hl xs hx hpre, ?_⟩⟩
  · have := List.all_eq_true.1 hsh sh h
    simpa using this
  · refine (symFn_sound hm hG hx (hs xs hx hpre) w).mono ?_
    rintro e w' ⟨ys, rfl, rfl, _, hb⟩
    exact ⟨rfl, hb⟩
end

#print axioms exec_sound
#print axioms Sum.ok_of
end Go.Sx
