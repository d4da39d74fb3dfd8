/-
  Symbolic execution: a region of plain operations, with its guards as conditions.
-/
import Derived.Test.YtgcoidbaoigkeaaSwL
namespace Go.Sx
open Go.RowKit

theorem B.same_eq : ∀ a b : B, a.same b = true → a = b
  | .c m, b, h => by cases b <;> simp [B.same] at h; rw [h]
  | .lt x y, b, h => by cases b <;> simp [B.same] at h; rw [E.same_eq x _ h.1, E.same_eq y _ h.2]
  | .le x y, b, h => by cases b <;> simp [B.same] at h; rw [E.same_eq x _ h.1, E.same_eq y _ h.2]
  | .eq x y, b, h => by cases b <;> simp [B.same] at h; rw [E.same_eq x _ h.1, E.same_eq y _ h.2]
  | .nz x, b, h => by cases b <;> simp [B.same] at h; rw [E.same_eq x _ h]
  | .not x, b, h => by cases b <;> simp [B.same] at h; rw [B.same_eq x _ h]
  | .and x y, b, h => by cases b <;> simp [B.same] at h; rw [B.same_eq x _ h.1, B.same_eq y _ h.2]
  | .beq x y, b, h => by cases b <;> simp [B.same] at h; rw [B.same_eq x _ h.1, B.same_eq y _ h.2]

section
variable {R : Fo} {r : List Int}

theorem hasLit_spec {g : B} : ∀ {w : B}, hasLit g w = true → w.den R r = true → g.den R r = true := by
  intro w
  induction w with
  | and a b iha ihb =>
    intro h hw
    simp only [hasLit, Bool.or_eq_true] at h
    rcases h with h | h | h
    · have := B.same_eq _ _ h
      subst this
      exact hw
    · simp only [B.den, Bool.and_eq_true] at hw
      exact iha h hw.1
    · simp only [B.den, Bool.and_eq_true] at hw
      exact ihb h hw.2
  | _ =>
    intro h hw
    have := B.same_eq _ _ h
    subst this
    exact hw

theorem implB_spec {w : B} : ∀ {g : B}, implB w g = true → w.den R r = true → g.den R r = true := by
  intro g
  induction g with
  | c b =>
    intro h hw
    cases b with
    | true => rfl
    | false => exact hasLit_spec h hw
  | and a b iha ihb =>
    intro h hw
    simp only [implB, Bool.and_eq_true] at h
    simp only [B.den, Bool.and_eq_true]
    exact ⟨iha h.1 hw, ihb h.2 hw⟩
  | _ => intro h hw; exact hasLit_spec h hw

theorem litB_den (c : B) (x : Bool) : (litB c x).den R r = (c.den R r == x) := by
  unfold litB
  cases x with
  | true => simp
  | false => simp [mkNot_den]

theorem pickB_den (c x y : B) : (pickB c x y).den R r = if c.den R r = true then x.den R r else y.den R r := by
  unfold pickB
  split <;> simp only [mkNot_den, mkAnd_den, B.den] <;> cases c.den R r <;> simp
end

variable {P : Program} {ops : Array Oper} {Γ : List Sum} {Ψ : List Int → Prop} {bs : List (List Int → Prop)}

/-- What is known in the midst of such a region. -/
structure SpR (e : Env) (W0 : Bas) (s : St) (pend : Pend) (a : Act) (w : World) : Prop where
  rep : Rep e W0 s w
  defs : a.defers = []
  size : a.tmps.size = s.fr.length
  slots : ∀ t, a.tmps.getD t undef = match lookP pend t with
    | some (g, x) => if g.den e.R e.r = true then x.den e else undef
    | none => (s.fr.getD t undefS).den e
  lt : ∀ p ∈ pend, p.1 < s.fr.length
  nd : pend.Pairwise fun p q => p.1 ≠ q.1

theorem lookP_none : ∀ {pend : Pend} {t : Nat}, lookP pend t = none → ∀ p ∈ pend, p.1 ≠ t
  | [], _, _, p, hp => by cases hp
  | (u, g, x) :: l, t, h, p, hp => by
    simp only [lookP] at h
    split at h
    · cases h
    · rename_i hu
      rcases List.mem_cons.1 hp with rfl | hp
      · exact hu
      · exact lookP_none h p hp
theorem lookP_none' : ∀ {pend : Pend} {t : Nat}, (∀ p ∈ pend, p.1 ≠ t) → lookP pend t = none
  | [], _, _ => rfl
  | (u, g, x) :: l, t, h => by
    simp only [lookP]
    rw [if_neg (h (u, g, x) (by simp))]
    exact lookP_none' fun p hp => h p (List.mem_cons_of_mem _ hp)

theorem underW_fr {s : St} {w : B} : ∀ {pend : Pend}, (∀ p ∈ pend, p.1 < s.fr.length) → (underW s pend w) = { s with fr := (underW s pend w).fr } ∧ (underW s pend w).fr.length = s.fr.length ∧
    ∀ t, (underW s pend w).fr.getD t undefS = match lookP pend t with
      | some (g, x) => if implB w g = true then .w x else undefS
      | none => s.fr.getD t undefS := by
  intro pend hlt
  cases pend with
  | nil => exact ⟨rfl, rfl, fun t => rfl⟩
  | cons p l =>
    refine ⟨rfl, ?_⟩
    have hu : (underW s (p :: l) w).fr = (p :: l).foldr (fun p fr => fr.set p.1 (if implB w p.2.1 then .w p.2.2 else undefS)) s.fr := rfl
    rw [hu]
    clear hu
    generalize p :: l = q at *
    induction q with
    | nil => exact ⟨rfl, fun t => rfl⟩
    | cons p q ih =>
      obtain ⟨h1, h2⟩ := ih (fun p hp => hlt p (List.mem_cons_of_mem _ hp))
      refine ⟨by simpa using h1, fun t => ?_⟩
      simp only [List.foldr_cons, lookP]
      have hp := hlt p (by simp)
      simp only [List.getD, List.getElem?_set, h1, hp, if_true]
      by_cases ht : p.1 = t
      · simp [ht]
      · simp only [ht, if_false]
        exact h2 t

theorem SpR.ev {e : Env} {W0 : Bas} {s : St} {pend : Pend} {a : Act} {w : World} (h : SpR e W0 s pend a w) {W : B} (hW : W.den e.R e.r = true) (x : Operand) (hne : ∀ t, x = .tmp t → ∀ g y, lookP pend t = some (g, y) → implB W g = true) : a.eval x = ((underW s pend W).ev x).den e := by
  obtain ⟨h1, h2, h3⟩ := underW_fr (w := W) h.lt
  cases x with
  | tmp t =>
    show a.tmps.getD t undef = ((underW s pend W).fr.getD t undefS).den e
    rw [h3 t, h.slots t]
    cases hl : lookP pend t with
    | none => rfl
    | some gx =>
      obtain ⟨g, x⟩ := gx
      have hi := hne t rfl g x hl
      have hg := implB_spec hi hW
      simp only [hi, hg, if_true]
      rfl
  | const v => simp [Act.eval, St.ev, SV.den]
  | global g => rfl
  | func f => rfl

/-- A slot that is not known under W is no value. -/
theorem underW_w {e : Env} {W0 : Bas} {s : St} {pend : Pend} {a : Act} {w : World} (h : SpR e W0 s pend a w) {W : B} (hW : W.den e.R e.r = true) (x : Operand) {y : SW} (hy : (underW s pend W).ev x = .w y) : a.eval x = y.den e := by
  have hne : ∀ t, x = .tmp t → ∀ g z, lookP pend t = some (g, z) → implB W g = true := by
    rintro t rfl g z hl
    obtain ⟨_, _, h3⟩ := underW_fr (w := W) h.lt
    have : (underW s pend W).fr.getD t undefS = .w y := hy
    rw [h3 t, hl] at this
    cases hi : implB W g with
    | true => rfl
    | false => simp [hi, undefS] at this
  rw [h.ev hW x hne, hy]
  rfl

theorem condW_spec {e : Env} {W0 : Bas} {s : St} {pend : Pend} {a : Act} {w : World} {o : Oper} {W : B} (h : SpR e W0 s pend a w) (hw : condW ops s pend o = some W) : Region.wanted o (yielded ops a.tmps) = W.den e.R e.r := by
  unfold condW at hw
  unfold Region.wanted
  split at hw
  · rename_i hg
    simp only [hg]
    simp only [Option.some.injEq] at hw
    subst hw
    rfl
  · rename_i j want hg
    simp only [hg]
    split at hw
    · rename_i t ht
      have hy : yielded ops a.tmps j = (match a.tmps.getD t undef with | .bool b => some b | _ => none) := by
        unfold yielded
        rw [ht]
        simp only [Option.bind_some]
        by_cases hlt : t < a.tmps.size
        · rw [Array.getElem?_eq_getElem hlt]
          simp only [Array.getD, hlt, dif_pos]
          show (match some a.tmps[t] with | some (.bool b) => some b | _ => none) = (match a.tmps[t] with | .bool b => some b | _ => none)
          cases a.tmps[t] <;> rfl
        · rw [Array.getElem?_eq_none (Nat.le_of_not_lt hlt)]
          simp only [Array.getD, hlt]
          rfl
      rw [hy, h.slots t]
      split at hw
      · rename_i g c hl
        simp only [Option.some.injEq] at hw
        subst hw
        rw [hl, mkAnd_den, litB_den]
        dsimp only
        cases hgd : g.den e.R e.r with
        | true =>
          simp only [if_true, SW.den, SC.den]
          simp
        | false => simp [undef]
      · cases hw
      · rename_i hl
        rw [hl]
        dsimp only
        split at hw
        · rename_i c hs
          simp only [Option.some.injEq] at hw
          subst hw
          rw [hs, litB_den]
          simp [SV.den, SW.den, SC.den]
        · cases hw
    · cases hw

theorem plain_env {e e' : Env} {W0 W1 : Bas} {s s' : St} {w w' : World} (hle : Env.le e e') (h : Rep e W0 s w) (h' : Rep e' W1 s' w') (hm : s'.mem.length = s.mem.length) (hr : s'.rows.length = s.rows.length) (h1 : e'.r = e.r) (h2 : e'.ω = e.ω) : e' = e := by
  obtain ⟨a, b, c, d, h3, h4, h5, h6, h7⟩ := hle
  have hb : b = [] := by
    have := h'.nb
    rw [h4, hm, ← h.nb] at this
    simpa using this
  have hc : c = [] := by
    have := h'.ng
    rw [h5, hr, ← h.ng] at this
    simpa using this
  subst hb hc
  cases e
  cases e'
  simp only [List.append_nil] at *
  simp_all

theorem foldl_same {f : Option (List B × SV × St) → Operand → Option (List B × SV × St)} (hf : ∀ acc y q, f acc y = some q → ∃ q', acc = some q' ∧ q.2.2 = q'.2.2) : ∀ (rest : List Operand) (init : Option (List B × SV × St)) (q : List B × SV × St), rest.foldl f init = some q → ∃ q', init = some q' ∧ q.2.2 = q'.2.2 := by
  intro rest
  induction rest with
  | nil => intro init q h; exact ⟨q, h, rfl⟩
  | cons y rest ih =>
    intro init q h
    obtain ⟨q', h1, h2⟩ := ih _ q h
    obtain ⟨q'', h3, h4⟩ := hf _ _ _ h1
    exact ⟨q'', h3, h2.trans h4⟩

/-- Plain operations leave memory as it is. -/
theorem plain_same {s s' : St} {o : Oper} {as : List B} {v : SV} (hp : plainOp o = true) (h : op1 P s o = some (as, v, s')) : s' = s := by
  unfold op1 at h
  dsimp only at h
  split at h <;> first
    | (rename_i ho; simp [plainOp, ho] at hp; done)
    | skip
  all_goals try (rename_i c ho)
  all_goals try (split at h)
  all_goals try (split at h)
  all_goals try (split at h)
  all_goals try (split at h)
  all_goals try (split at h)
  all_goals try (split at h)
  all_goals first
    | (cases h; done)
    | (simp only [Option.some.injEq, Prod.mk.injEq] at h; exact h.2.2.symm)
    | (simp only [Option.map_eq_some_iff, Prod.mk.injEq] at h; obtain ⟨_, _, _, _, h⟩ := h; exact h.symm)
    | skip
  all_goals
    obtain ⟨q', h1, h2⟩ := foldl_same (by
      intro acc y q hq
      split at hq
      · simp only [Option.some.injEq] at hq
        subst hq
        exact ⟨_, rfl, rfl⟩
      · cases hq) _ _ _ h
    first
      | (cases h1; done)
      | (simp only [Option.some.injEq] at h1; subst h1; exact h2)

theorem getD_put {a : Act} {d t : Nat} {v : Value} (hd : d < a.tmps.size) : (a.put (some d) v).tmps.getD t undef = if t = d then v else a.tmps.getD t undef := by
  simp only [Act.put]
  by_cases ht : t = d
  · subst ht
    simp [hd]
  · simp [Array.getElem?_setIfInBounds_ne (Ne.symm ht), ht]

/-- A plain operation under W. -/
theorem valW_spec {e : Env} {W0 : Bas} {s : St} {pend : Pend} {a : Act} {w : World} {o : Oper} {W : B} {as : List B} {x : SW} (h : SpR e W0 s pend a w) (hp : plainOp o = true) (hv : valW P s pend W o = some (as, x)) (hW : W.den e.R e.r = true) (has : ∀ b ∈ as, b.den e.R e.r = true) :
    ∃ w' nx, (execOp a.eval o).run P w = .ok nx w' ∧ (nx = .value (x.den e) ∨ (nx = .skip ∧ x.den e = undef)) ∧ Rep e W0 s w' := by
  unfold valW at hv
  split at hv
  · rename_i c ax bx ho
    have hc := fun (y : SW) hy => underW_w h hW c (y := y) hy
    have run : ∀ (bb : Bool), a.eval c = .bool bb → (execOp a.eval o).run P w = .ok (.value (if bb then a.eval ax else a.eval bx)) w := by
      intro bb hbb
      simp only [execOp, ho, hbb]
      cases bb <;> rfl
    split at hv
    · rename_i hcv
      split at hv
      · rename_i y hy
        simp only [Option.some.injEq, Prod.mk.injEq] at hv
        obtain ⟨rfl, rfl⟩ := hv
        refine ⟨w, _, run true (hc _ hcv), .inl ?_, h.rep⟩
        simp only [if_true]
        rw [underW_w h hW ax hy]
      · cases hv
    · rename_i hcv
      split at hv
      · rename_i y hy
        simp only [Option.some.injEq, Prod.mk.injEq] at hv
        obtain ⟨rfl, rfl⟩ := hv
        refine ⟨w, _, run false (hc _ hcv), .inl ?_, h.rep⟩
        simp only [Bool.false_eq_true, if_false]
        rw [underW_w h hW bx hy]
      · cases hv
    · rename_i cb _ _ hcv
      split at hv
      · rename_i y z hy hz
        simp only [Option.some.injEq, Prod.mk.injEq] at hv
        obtain ⟨rfl, rfl⟩ := hv
        have hcb : a.eval c = .bool (cb.den e.R e.r) := hc _ hcv
        refine ⟨w, _, run _ hcb, .inl ?_, h.rep⟩
        cases hcd : cb.den e.R e.r with
        | true =>
          have hW' : (mkAnd W cb).den e.R e.r = true := by rw [mkAnd_den, hW, hcd]; rfl
          simp only [if_true]
          rw [underW_w h hW' ax hy]
          simp only [SW.den, SC.den, pickB_den, hcd, if_true]
        | false =>
          have hW' : (mkAnd W (mkNot cb)).den e.R e.r = true := by rw [mkAnd_den, mkNot_den, hW, hcd]; rfl
          simp only [Bool.false_eq_true, if_false]
          rw [underW_w h hW' bx hz]
          simp only [SW.den, SC.den, pickB_den, hcd, Bool.false_eq_true, if_false]
      · cases hv
    · cases hv
  · split at hv
    · rename_i hkn
      split at hv
      · rename_i as' x' s' h1
        simp only [Option.some.injEq, Prod.mk.injEq] at hv
        obtain ⟨rfl, rfl⟩ := hv
        obtain ⟨hu1, hu2, hu3⟩ := underW_fr (w := W) h.lt
        have hrep : Rep e W0 (underW s pend W) w := by rw [hu1]; exact h.rep.fr _
        have hev : ∀ y ∈ o.op.operands, a.eval y = ((underW s pend W).ev y).den e := by
          intro y hy
          refine h.ev hW y ?_
          rintro t rfl g z hl
          have := List.all_eq_true.1 hkn (.tmp t) (by simpa using hy)
          simpa only [knownW, hl] using this
        obtain ⟨_, _, _, _, _, _, e', w', nx, hr, hnx, hrep', hle, hr', hR', hω', _⟩ := op1_sound h1 hrep hev has
        have hs' := plain_same hp h1
        subst hs'
        have he := plain_env hle hrep hrep' rfl rfl hr' hω'
        subst he
        refine ⟨w', nx, hr, hnx, ?_⟩
        rw [hu1] at hrep'
        exact hrep'.fr s.fr
      · cases hv
    · cases hv

theorem underB_spec {R : Fo} {r : List Int} {W : B} {as : List B} (h : ∀ b ∈ underB W as, b.den R r = true) (hW : W.den R r = true) : ∀ b ∈ as, b.den R r = true := by
  unfold underB at h
  split at h
  · exact h
  · intro b hb
    have := h _ (List.mem_map_of_mem (f := fun b => mkNot (mkAnd W (mkNot b))) hb)
    simpa [mkNot_den, mkAnd_den, hW] using this

theorem getD_set_fr' (l : List SV) (t t' : Nat) (v : SV) : (l.set t v).getD t' undefS = if t' = t ∧ t < l.length then v else l.getD t' undefS := by
  simp only [List.getD, List.getElem?_set]
  by_cases h : t = t'
  · subst h
    by_cases hl : t < l.length
    · simp [hl]
    · simp [hl]
  · have : ¬ t' = t := fun hh => h hh.symm
    simp [h, this]

theorem SpR.put {e : Env} {W0 : Bas} {s : St} {pend : Pend} {a : Act} {w w' : World} (h : SpR e W0 s pend a w) (hr : Rep e W0 s w') {d : Nat} (hd : d < s.fr.length) (hn : lookP pend d = none) {u : Value} {v : SV} (hv : u = v.den e) : SpR e W0 (s.put (some d) v) pend (a.put (some d) u) w' := by
  refine ⟨hr.fr _, h.defs, by simp [Act.put, St.put, h.size], fun t => ?_, fun p hp => by simpa [St.put] using h.lt p hp, h.nd⟩
  rw [getD_put (by rw [h.size]; exact hd)]
  simp only [St.put, getD_set_fr']
  by_cases ht : t = d
  · subst ht
    simp [hn, hd, hv]
  · simp only [ht, if_false, false_and]
    exact h.slots t

theorem SpR.pend {e : Env} {W0 : Bas} {s : St} {pend : Pend} {a : Act} {w w' : World} (h : SpR e W0 s pend a w) (hr : Rep e W0 s w') {d : Nat} (hd : d < s.fr.length) (hn : lookP pend d = none) {W : B} {x : SW} {u : Value} (hv : u = if W.den e.R e.r = true then x.den e else undef) : SpR e W0 s ((d, W, x) :: pend) (a.put (some d) u) w' := by
  refine ⟨hr, h.defs, by simp [Act.put, h.size], fun t => ?_, fun p hp => ?_, List.Pairwise.cons (fun p hp => (lookP_none hn p hp).symm) h.nd⟩
  · rw [getD_put (by rw [h.size]; exact hd)]
    simp only [lookP]
    by_cases ht : t = d
    · subst ht
      simp [hv]
    · simp only [ht, if_false, Ne.symm ht]
      exact h.slots t
  · rcases List.mem_cons.1 hp with rfl | hp
    · exact hd
    · exact h.lt p hp

theorem specRun_sound {Q : Exit → Act → World → Prop} : ∀ (l : List Oper) (s : St) (pend : Pend) (as : List B) (s' : St) (pend' : Pend) (e : Env) (W0 : Bas) (a : Act) (w : World), specRun P ops l s pend = some (as, s', pend') → (∀ b ∈ as, b.den e.R e.r = true) → SpR e W0 s pend a w →
    (∀ a' w', SpR e W0 s' pend' a' w' → Q .normal a' w') → wpList P ops Q l a w
  | [], s, pend, as, s', pend', e, W0, a, w, h, has, hs, hQ => by
    simp only [specRun, Option.some.injEq, Prod.mk.injEq] at h
    obtain ⟨rfl, rfl, rfl⟩ := h
    exact hQ a w hs
  | o :: l, s, pend, as, s', pend', e, W0, a, w, h, has, hs, hQ => by
    simp only [specRun] at h
    split at h
    · rename_i d W hd hW
      split at h
      · cases h
      · rename_i hc
        simp only [Bool.or_eq_true, Bool.not_eq_true', decide_eq_true_eq, not_or, Bool.not_eq_false, Nat.not_le] at hc
        obtain ⟨⟨hp, hn⟩, hlt⟩ := hc
        have hn' : lookP pend d = none := by cases hh : lookP pend d with | none => rfl | some _ => rw [hh] at hn; simp at hn
        have hwt := condW_spec hs hW
        unfold wpList
        rw [hwt, hd]
        split at h
        · -- never
          simp only [B.den, Bool.false_eq_true, if_false]
          exact specRun_sound l _ pend as s' pend' e W0 _ w h has (hs.put hs.rep hlt hn' (v := undefS) rfl) hQ
        · split at h
          · rename_i as1 x hv
            have main : ∀ (s2 : St) (pend2 : Pend) (bs : List B), specRun P ops l s2 pend2 = some (bs, s', pend') → as = underB W as1 ++ bs → (∀ w' u, Rep e W0 s w' → (u = if W.den e.R e.r = true then x.den e else undef) → SpR e W0 s2 pend2 (a.put (some d) u) w') →
                (if W.den e.R e.r = true then o.wp P a w (wpList P ops Q l) Q ∨ (o.asks P a w ∧ LetsOut Q) else wpList P ops Q l (a.put (some d) undef) w) := by
              intro s2 pend2 bs h2 has2 hput
              subst has2
              have h1 : ∀ b ∈ underB W as1, b.den e.R e.r = true := fun b hb => has b (List.mem_append_left _ hb)
              have h3 : ∀ b ∈ bs, b.den e.R e.r = true := fun b hb => has b (List.mem_append_right _ hb)
              cases hWd : W.den e.R e.r with
              | true =>
                simp only [if_true]
                left
                obtain ⟨w', nx, hr, hnx, hrep⟩ := valW_spec hs hp hv hWd (underB_spec h1 hWd)
                have hfin : wpList P ops Q l (a.put o.dst (x.den e)) w' := by
                  rw [hd]
                  exact specRun_sound l s2 pend2 bs s' pend' e W0 _ w' h2 h3 (hput w' _ hrep (by rw [hWd]; rfl)) hQ
                unfold Oper.wp
                rw [hr]
                rcases hnx with rfl | ⟨rfl, hu⟩
                · exact hfin
                · simp only [Oper.upon_skip]
                  rw [← hu]
                  exact hfin
              | false =>
                simp only [Bool.false_eq_true, if_false]
                exact specRun_sound l s2 pend2 bs s' pend' e W0 _ w h2 h3 (hput w _ hs.rep (by rw [hWd]; rfl)) hQ
            split at h
            · rename_i bs s2' pend2' h2
              simp only [Option.some.injEq, Prod.mk.injEq] at h
              obtain ⟨rfl, rfl, rfl⟩ := h
              split at h2
              · refine main _ _ bs h2 rfl (fun w' u hrep hu => hs.put hrep hlt hn' ?_)
                rw [hu]
                rfl
              · exact main _ _ bs h2 rfl (fun w' u hrep hu => hs.pend hrep hlt hn' hu)
            · cases h
          · cases h
    · cases h

theorem specRun_st : ∀ (l : List Oper) (s : St) (pend : Pend) (as : List B) (s' : St) (pend' : Pend), specRun P ops l s pend = some (as, s', pend') → s' = { s with fr := s'.fr }
  | [], s, pend, as, s', pend', h => by
    simp only [specRun, Option.some.injEq, Prod.mk.injEq] at h
    obtain ⟨rfl, rfl, rfl⟩ := h
    rfl
  | o :: l, s, pend, as, s', pend', h => by
    simp only [specRun] at h
    split at h
    · split at h
      · cases h
      · split at h
        · have := specRun_st l _ _ _ _ _ h
          rw [this]
          rfl
        · split at h
          · split at h
            · rename_i h2
              simp only [Option.some.injEq, Prod.mk.injEq] at h
              obtain ⟨rfl, rfl, rfl⟩ := h
              split at h2
              · have := specRun_st l _ _ _ _ _ h2
                rw [this]
                rfl
              · have := specRun_st l _ _ _ _ _ h2
                rw [this]
            · cases h
          · cases h
    · cases h

theorem den_un {e : Env} {x : List Value} : ∀ {v : SV}, unOK e.ω.length v = true → v.den { e with ω := e.ω ++ x } = v.den e := by
  intro v hv
  have hC : ∀ c : SC, c.den { e with ω := e.ω ++ x } = c.den e := by intro c; cases c <;> rfl
  have hW : ∀ c : SW, c.den { e with ω := e.ω ++ x } = c.den e := by
    intro c
    cases c with
    | o c => exact hC c
    | a cs => simp only [SW.den]; rw [List.map_congr_left fun c _ => hC c]
  cases v with
  | w c => exact hW c
  | t cs => simp only [SV.den]; rw [List.map_congr_left fun c _ => hW c]
  | un i =>
    simp only [unOK, decide_eq_true_eq] at hv
    simp only [SV.den]
    rw [getD_app_lt _ _ _ _ hv]

theorem Rep.un {e : Env} {W0 : Bas} {s : St} {w : World} (h : Rep e W0 s w) (x : Value) (fr : List SV) : Rep { e with ω := e.ω ++ [x] } W0 { s with fr := fr, nx := s.nx + 1 } w := by
  have hC : ∀ c : SC, c.den { e with ω := e.ω ++ [x] } = c.den e := by intro c; cases c <;> rfl
  have hm : ∀ cs : List SC, cs.map (SC.den { e with ω := e.ω ++ [x] }) = cs.map (SC.den e) := fun cs => List.map_congr_left fun c _ => hC c
  refine ⟨h.below, h.nb, h.ng, h.nv, by simp [h.nx], ?_, h.own, h.sep, h.row, h.rown, h.rsep, h.brs, h.gl, h.arg⟩
  · intro n b hb hl
    rw [hm]
    exact h.blk n b hb hl

/-- Slots of which one does not know whether they were written are made unknown values. -/
theorem finishP_rel : ∀ (pend : Pend) (s : St) (e : Env) {W0 : Bas} {a : Act} {w : World}, SpR e W0 s pend a w → s.fr.all (unOK s.nx) = true → ∃ e', Env.le e e' ∧ e'.r = e.r ∧ e'.R = e.R ∧ Rel e' W0 (finishP pend s) a w ∧ (finishP pend s).fl = s.fl ∧ (finishP pend s).flr = s.flr ∧ (finishP pend s).dp = s.dp
  | [], s, e, W0, a, w, h, hu => by
    refine ⟨e, Env.le_refl _, rfl, rfl, ⟨h.rep, ?_, h.defs⟩, rfl, rfl, rfl⟩
    apply Array.ext'
    apply List.ext_getElem?
    intro t
    have hs := h.slots t
    simp only [lookP] at hs
    show a.tmps.toList[t]? = (s.fr.map _)[t]?
    by_cases ht : t < s.fr.length
    · have ht' : t < a.tmps.size := by rw [h.size]; exact ht
      simp only [List.getElem?_map, List.getElem?_eq_getElem ht, Option.map_some]
      rw [List.getElem?_eq_getElem (by simpa using ht')]
      simp only [Option.some.injEq]
      rw [show s.fr.getD t undefS = s.fr[t] by simp [List.getD, ht]] at hs
      rw [← hs]
      simp [Array.getD, ht']
    · rw [List.getElem?_eq_none (by simp [h.size]; omega), List.getElem?_eq_none (by simp; omega)]
  | (d, g, x) :: l, s, e, W0, a, w, h, hu => by
    simp only [finishP]
    have hd := h.lt (d, g, x) (by simp)
    have hnx := h.rep.nx
    have key : SpR { e with ω := e.ω ++ [a.tmps.getD d undef] } W0 { s with fr := s.fr.set d (.un s.nx), nx := s.nx + 1 } l a w := by
      refine ⟨h.rep.un _ _, h.defs, by simpa using h.size, fun t => ?_, fun p hp => by simpa using h.lt p (List.mem_cons_of_mem _ hp), (List.pairwise_cons.1 h.nd).2⟩
      have hs := h.slots t
      simp only [lookP] at hs
      have hnd : lookP l d = none := lookP_none' fun p hp => ((List.pairwise_cons.1 h.nd).1 p hp).symm
      by_cases ht : t = d
      · subst ht
        rw [hnd]
        simp only [getD_set_fr', hd, and_self, if_true, SV.den]
        rw [← hnx]
        simp [List.getD]
      · simp only [Ne.symm ht, if_false] at hs
        rw [hs]
        cases hl : lookP l t with
        | some gx =>
          obtain ⟨g', x'⟩ := gx
          dsimp only
          have hC : ∀ c : SC, c.den { e with ω := e.ω ++ [a.tmps.getD d undef] } = c.den e := by intro c; cases c <;> rfl
          have hW : x'.den { e with ω := e.ω ++ [a.tmps.getD d undef] } = x'.den e := by
            cases x' with
            | o c => exact hC c
            | a cs => simp only [SW.den]; rw [List.map_congr_left fun c _ => hC c]
          rw [hW]
        | none =>
          dsimp only
          simp only [getD_set_fr', ht, false_and, if_false]
          by_cases htl : t < s.fr.length
          · rw [show s.fr.getD t undefS = s.fr[t] by simp [List.getD, htl]]
            refine (den_un ?_).symm
            rw [hnx]
            exact List.all_eq_true.1 hu _ (List.getElem_mem htl)
          · rw [show s.fr.getD t undefS = undefS by simp [List.getD, List.getElem?_eq_none (Nat.le_of_not_lt htl)]]
            rfl
    obtain ⟨e', h1, h2, h3, h4, h5, h6, h7⟩ := finishP_rel l _ _ key (by
      refine List.all_eq_true.2 fun v hv => ?_
      rcases List.mem_or_eq_of_mem_set hv with hv | rfl
      · have := List.all_eq_true.1 hu v hv
        cases v <;> simp_all [unOK]
        omega
      · simp [unOK])
    exact ⟨e', Env.le_trans ⟨[], [], [], [a.tmps.getD d undef], by simp⟩ h1, h2, h3, h4, h5, h6, h7⟩

end Go.Sx
