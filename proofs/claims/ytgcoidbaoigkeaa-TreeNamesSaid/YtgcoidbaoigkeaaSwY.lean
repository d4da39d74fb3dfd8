/-
  Trees pruned by what was asked before.
-/
import Derived.Test.YtgcoidbaoigkeaaSwU
set_option linter.unusedVariables false
set_option linter.unusedSimpArgs false
namespace Go.Sx
open Go.RowKit

structure Fact where
  eq : Bool
  a : X
  b : X
  yes : Bool

def Fact.holds (R : Fo) (r : List Int) (f : Fact) : Prop :=
  (if f.eq = true then f.a.den R r = f.b.den R r else f.a.den R r ≤ f.b.den R r) ↔ f.yes = true

def findF (eq : Bool) (a b : X) : List Fact → Option Bool
  | [] => none
  | f :: fs => if f.eq == eq && (f.a.same a && f.b.same b) then some f.yes else findF eq a b fs

def knowB (fs : List Fact) : XB → Option Bool
  | .c b => some b
  | .le a b => findF false a b fs
  | .lt a b => (findF false b a fs).map (!·)
  | .eq a b => findF true a b fs
  | .nz a => (findF true a (.c 0) fs).map (!·)
  | .not a => (knowB fs a).map (!·)
  | .and a b => match knowB fs a, knowB fs b with
    | some false, _ => some false
    | _, some false => some false
    | some true, some true => some true
    | _, _ => none
  | .or a b => match knowB fs a, knowB fs b with
    | some true, _ => some true
    | _, some true => some true
    | some false, some false => some false
    | _, _ => none
  | .iff a b => match knowB fs a, knowB fs b with
    | some x, some y => some (x == y)
    | _, _ => none

def learnB (fs : List Fact) : XB → Bool → List Fact
  | .le a b, x => ⟨false, a, b, x⟩ :: fs
  | .lt a b, x => ⟨false, b, a, !x⟩ :: fs
  | .eq a b, x => ⟨true, a, b, x⟩ :: fs
  | .nz a, x => ⟨true, a, .c 0, !x⟩ :: fs
  | .not a, x => learnB fs a (!x)
  | .and a b, true => learnB (learnB fs a true) b true
  | .or a b, false => learnB (learnB fs a false) b false
  | .iff a b, x => match knowB fs a with
    | some y => learnB fs b (x == y)
    | none => match knowB fs b with
      | some y => learnB fs a (x == y)
      | none => fs
  | _, _ => fs

def slimB (fs : List Fact) : XB → XB
  | .and a b => match knowB fs a, knowB fs b with
    | some true, _ => slimB fs b
    | _, some true => slimB fs a
    | _, _ => .and (slimB fs a) (slimB fs b)
  | .or a b => match knowB fs a, knowB fs b with
    | some false, _ => slimB fs b
    | _, some false => slimB fs a
    | _, _ => .or (slimB fs a) (slimB fs b)
  | .iff a b => match knowB fs a with
    | some true => b
    | some false => .not b
    | none => match knowB fs b with
      | some true => a
      | some false => .not a
      | none => .iff a b
  | b => b


/-! ### the scope of what is known: variables that were there -/
def X.low (n : Nat) : X → Bool
  | .c _ => true
  | .v i => decide (i < n)
  | .add a b => a.low n && b.low n
  | .sub a b => a.low n && b.low n
  | .mul a b => a.low n && b.low n
  | .quo a b => a.low n && b.low n
  | .rem a b => a.low n && b.low n
  | .mn a b => a.low n && b.low n
  | .mx a b => a.low n && b.low n
  | .wr _ a => a.low n
  | .nl => true
  | .ln a => a.low n
  | .l2 _ a b => a.low n && b.low n
  | .l3 a b x => a.low n && (b.low n && x.low n)

theorem X.den_low {R : Fo} {r x : List Int} : ∀ a : X, a.low r.length = true → a.den R (r ++ x) = a.den R r := by
  intro a
  induction a with
  | c n => intro _; rfl
  | v i =>
    intro h
    simp only [X.low, decide_eq_true_eq] at h
    simp only [X.den, List.getD]
    rw [List.getElem?_append_left h]
  | wr k a ih => intro h; simp only [X.den, ih h]
  | nl => intro _; rfl
  | ln a ih => intro h; simp only [X.den, ih h]
  | l2 o a b iha ihb =>
    intro h
    simp only [X.low, Bool.and_eq_true] at h
    simp only [X.den, iha h.1, ihb h.2]
  | l3 a b x iha ihb ihx =>
    intro h
    simp only [X.low, Bool.and_eq_true] at h
    simp only [X.den, iha h.1, ihb h.2.1, ihx h.2.2]
  | _ a b iha ihb =>
    intro h
    simp only [X.low, Bool.and_eq_true] at h
    simp only [X.den, iha h.1, ihb h.2]

theorem findF_spec {R : Fo} {r : List Int} {eq : Bool} {a b : X} : ∀ {fs : List Fact} {x : Bool}, (∀ f ∈ fs, f.holds R r) → findF eq a b fs = some x →
    ((if eq = true then a.den R r = b.den R r else a.den R r ≤ b.den R r) ↔ x = true)
  | [], _, _, h => by simp [findF] at h
  | f :: fs, x, hf, h => by
    simp only [findF] at h
    split at h
    · rename_i hc
      simp only [Bool.and_eq_true, beq_iff_eq] at hc
      obtain ⟨h1, h2, h3⟩ := hc
      simp only [Option.some.injEq] at h
      have := hf f (List.mem_cons_self ..)
      rw [Fact.holds, h1, X.same_eq _ _ h2, X.same_eq _ _ h3, h] at this
      exact this
    · exact findF_spec (fun g hg => hf g (List.mem_cons_of_mem _ hg)) h

theorem knowB_spec {R : Fo} {r : List Int} {fs : List Fact} (hf : ∀ f ∈ fs, f.holds R r) : ∀ (b : XB) (x : Bool), knowB fs b = some x → (b.prop R r ↔ x = true) := by
  intro b
  induction b with
  | c b => intro x h; simp only [knowB, Option.some.injEq] at h; subst h; exact Iff.rfl
  | le a b => intro x h; exact findF_spec (eq := false) hf h
  | lt a b =>
    intro x h
    simp only [knowB, Option.map_eq_some_iff] at h
    obtain ⟨y, h1, rfl⟩ := h
    have := findF_spec (eq := false) hf h1
    simp only [Bool.false_eq_true, if_false] at this
    simp only [XB.prop]
    rw [← Int.not_le, this]
    cases y <;> simp
  | eq a b => intro x h; exact findF_spec (eq := true) hf h
  | nz a =>
    intro x h
    simp only [knowB, Option.map_eq_some_iff] at h
    obtain ⟨y, h1, rfl⟩ := h
    have := findF_spec (eq := true) hf h1
    simp only [if_true, X.den] at this
    simp only [XB.prop, ne_eq, this]
    cases y <;> simp
  | not a ih =>
    intro x h
    simp only [knowB, Option.map_eq_some_iff] at h
    obtain ⟨y, h1, rfl⟩ := h
    simp only [XB.prop, ih y h1]
    cases y <;> simp
  | and a b iha ihb =>
    intro x h
    simp only [knowB] at h
    split at h
    · rename_i h1
      simp only [Option.some.injEq] at h; subst h
      simp [XB.prop, iha _ h1]
    · rename_i h1 _
      simp only [Option.some.injEq] at h; subst h
      simp [XB.prop, ihb _ h1]
    · rename_i h1 h2
      simp only [Option.some.injEq] at h; subst h
      simp [XB.prop, iha _ h1, ihb _ h2]
    · cases h
  | or a b iha ihb =>
    intro x h
    simp only [knowB] at h
    split at h
    · rename_i h1
      simp only [Option.some.injEq] at h; subst h
      simp [XB.prop, iha _ h1]
    · rename_i h1 _
      simp only [Option.some.injEq] at h; subst h
      simp [XB.prop, ihb _ h1]
    · rename_i h1 h2
      simp only [Option.some.injEq] at h; subst h
      simp [XB.prop, iha _ h1, ihb _ h2]
    · cases h
  | iff a b iha ihb =>
    intro x h
    simp only [knowB] at h
    split at h
    · rename_i y z h1 h2
      simp only [Option.some.injEq] at h; subst h
      have q1 := iha _ h1
      have q2 := ihb _ h2
      simp only [XB.prop, q1, q2]
      cases y <;> cases z <;> simp
    · cases h

theorem learnB_spec {R : Fo} {r : List Int} : ∀ (b : XB) (x : Bool) (fs : List Fact), (∀ f ∈ fs, f.holds R r) → (b.prop R r ↔ x = true) → ∀ f ∈ learnB fs b x, f.holds R r := by
  intro b
  induction b with
  | le a b =>
    intro x fs hf hb f hm
    rcases List.mem_cons.1 hm with rfl | hm
    · exact hb
    · exact hf f hm
  | lt a b =>
    intro x fs hf hb f hm
    rcases List.mem_cons.1 hm with rfl | hm
    · simp only [XB.prop] at hb
      simp only [Fact.holds, Bool.false_eq_true, if_false]
      rw [← Int.not_lt, hb]
      cases x <;> simp
    · exact hf f hm
  | eq a b =>
    intro x fs hf hb f hm
    rcases List.mem_cons.1 hm with rfl | hm
    · exact hb
    · exact hf f hm
  | nz a =>
    intro x fs hf hb f hm
    rcases List.mem_cons.1 hm with rfl | hm
    · simp only [XB.prop] at hb
      simp only [Fact.holds, if_true, X.den]
      cases x
      · simp only [Bool.false_eq_true, iff_false, ne_eq, Classical.not_not] at hb; simp [hb]
      · simp only [iff_true, ne_eq] at hb; simp [hb]
    · exact hf f hm
  | not a ih =>
    intro x fs hf hb
    refine ih (!x) fs hf ?_
    simp only [XB.prop] at hb
    cases x
    · simp only [Bool.false_eq_true, iff_false, Classical.not_not] at hb; simp [hb]
    · simp only [iff_true] at hb; simp [hb]
  | and a b iha ihb =>
    intro x fs hf hb
    cases x with
    | true =>
      simp only [XB.prop, iff_true] at hb
      exact ihb true _ (iha true fs hf (by simp [hb.1])) (by simp [hb.2])
    | false => exact hf
  | or a b iha ihb =>
    intro x fs hf hb
    cases x with
    | false =>
      simp only [XB.prop, Bool.false_eq_true, iff_false, not_or] at hb
      exact ihb false _ (iha false fs hf (by simp [hb.1])) (by simp [hb.2])
    | true => exact hf
  | c b => intro x fs hf _; exact hf
  | iff a b iha ihb =>
    intro x fs hf hb
    simp only [learnB]
    split
    · rename_i y h1
      have q := knowB_spec hf _ _ h1
      refine ihb _ fs hf ?_
      simp only [XB.prop, q] at hb
      cases x <;> cases y <;> simp at hb ⊢ <;> exact hb
    · split
      · rename_i y h1
        have q := knowB_spec hf _ _ h1
        refine iha _ fs hf ?_
        simp only [XB.prop, q] at hb
        cases x <;> cases y <;> simp at hb ⊢ <;> exact hb
      · exact hf

theorem slimB_spec {R : Fo} {r : List Int} {fs : List Fact} (hf : ∀ f ∈ fs, f.holds R r) : ∀ b : XB, (slimB fs b).prop R r ↔ b.prop R r := by
  intro b
  induction b with
  | and a b iha ihb =>
    simp only [slimB]
    split
    · rename_i h1
      have := knowB_spec hf _ _ h1
      simp only [iff_true] at this
      simp [XB.prop, ihb, this]
    · rename_i h1 _
      have := knowB_spec hf _ _ h1
      simp only [iff_true] at this
      simp [XB.prop, iha, this]
    · simp [XB.prop, iha, ihb]
  | or a b iha ihb =>
    simp only [slimB]
    split
    · rename_i h1
      have := knowB_spec hf _ _ h1
      simp only [Bool.false_eq_true, iff_false] at this
      simp [XB.prop, ihb, this]
    · rename_i h1 _
      have := knowB_spec hf _ _ h1
      simp only [Bool.false_eq_true, iff_false] at this
      simp [XB.prop, iha, this]
    · simp [XB.prop, iha, ihb]
  | iff a b =>
    simp only [slimB]
    split
    · rename_i h1
      have := knowB_spec hf _ _ h1
      simp only [iff_true] at this
      simp [XB.prop, this]
    · rename_i h1
      have := knowB_spec hf _ _ h1
      simp only [Bool.false_eq_true, iff_false] at this
      simp [XB.prop, this]
    · split
      · rename_i h1
        have := knowB_spec hf _ _ h1
        simp only [iff_true] at this
        simp [XB.prop, this]
      · rename_i h1
        have := knowB_spec hf _ _ h1
        simp only [Bool.false_eq_true, iff_false] at this
        simp [XB.prop, this]
      · exact Iff.rfl
  | _ => exact Iff.rfl

def Fact.low (n : Nat) (f : Fact) : Bool := f.a.low n && f.b.low n

def ivLoop (lv : List (Nat × List (Option Iv))) (m n : Nat) : List (Option Iv) := match lv.find? (fun p => p.1 == m && p.2.length == n) with
  | some p => p.2
  | none => List.replicate n none

def optFL (lv : List (Nat × List (Option Iv))) (outs : List Inf) : List Fact → List (Option Iv) → T → TX
  | _, vs, .ret es => .ret (es.map fun e => (conv vs e).1)
  | fs, vs, .ite b t f => match decB vs b with
    | some true => optFL lv outs fs vs t
    | some false => optFL lv outs fs vs f
    | none => match knowB fs (convB vs b) with
      | some true => optFL lv outs fs vs t
      | some false => optFL lv outs fs vs f
      | none => .ite (slimB fs (convB vs b)) (if deadV (refine' vs b true) then .ok else optFL lv outs ((learnB fs (convB vs b) true).filter (Fact.low vs.length)) (refine' vs b true) t)
          (if deadV (refine' vs b false) then .ok else optFL lv outs ((learnB fs (convB vs b) false).filter (Fact.low vs.length)) (refine' vs b false) f)
  | fs, vs, .asrt b t => match decB vs b with
    | some true => optFL lv outs fs vs t
    | _ => match knowB fs (convB vs b) with
      | some true => optFL lv outs fs vs t
      | _ => .asrt (slimB fs (convB vs b)) (optFL lv outs ((learnB fs (convB vs b) true).filter (Fact.low vs.length)) (refine' vs b true) t)
  | fs, vs, .call g args t =>
    if inIvs (args.map fun e => (conv vs e).2) (outs.getD g .none).pin then .callp g (args.map fun e => (conv vs e).1) (optFL lv outs fs (vs ++ (outs.getD g .none).out (args.map fun e => (conv vs e).2)) t)
    else .call g (args.map fun e => (conv vs e).1) (optFL lv outs fs (vs ++ (outs.getD g .none).out (args.map fun e => (conv vs e).2)) t)
  | fs, vs, .loop n ini t => .loop n (ivLoop lv vs.length n) (ini.map fun e => (conv vs e).1) (optFL lv outs fs (vs ++ ivLoop lv vs.length n) t)
  | _, vs, .back d es => .back d (es.map fun e => (conv vs e).1)
  | fs, vs, .both t f => mkBoth (optFL lv outs fs vs t) (optFL lv outs fs vs f)
  | _, _, .fail => .fail

section
variable {R : Fo}

theorem low_mono : ∀ (a : X) (m k : Nat), m ≤ k → a.low m = true → a.low k = true := by
  intro a m k hmk
  induction a with
  | c n => intro _; rfl
  | v i => simp only [X.low, decide_eq_true_eq]; omega
  | wr k a ih => exact ih
  | nl => intro _; rfl
  | ln a ih => exact ih
  | l2 o a b iha ihb =>
    simp only [X.low, Bool.and_eq_true]
    exact fun h => ⟨iha h.1, ihb h.2⟩
  | l3 a b x iha ihb ihx =>
    simp only [X.low, Bool.and_eq_true]
    exact fun h => ⟨iha h.1, ihb h.2.1, ihx h.2.2⟩
  | _ a b iha ihb =>
    simp only [X.low, Bool.and_eq_true]
    exact fun h => ⟨iha h.1, ihb h.2⟩

def factsOK (R : Fo) (fs : List Fact) (r : List Int) : Prop := ∀ f ∈ fs, f.holds R r ∧ f.low r.length = true

theorem factsOK_app {fs : List Fact} {r : List Int} (x : List Int) (h : factsOK R fs r) : factsOK R fs (r ++ x) := by
  intro f hm
  obtain ⟨h1, h2⟩ := h f hm
  have h2' := h2
  simp only [Fact.low, Bool.and_eq_true] at h2
  refine ⟨?_, ?_⟩
  · simp only [Fact.holds, X.den_low _ h2.1, X.den_low _ h2.2]
    exact h1
  · simp only [Fact.low, Bool.and_eq_true, List.length_append]
    exact ⟨low_mono _ _ _ (by omega) h2.1, low_mono _ _ _ (by omega) h2.2⟩

theorem factsOK_learn {fs : List Fact} {r : List Int} (h : factsOK R fs r) {b : XB} {x : Bool} (hb : b.prop R r ↔ x = true) : factsOK R ((learnB fs b x).filter (Fact.low r.length)) r :=
  fun f hm => ⟨learnB_spec b x fs (fun g hg => (h g hg).1) hb f (List.mem_filter.1 hm).1, (List.mem_filter.1 hm).2⟩

theorem optFL_sound {lv : List (Nat × List (Option Iv))} {Γ : List Sum} {outs : List Inf} {Ψ : List Int → Prop} (ho : outsOK Γ outs) : ∀ (t : T) (fs : List Fact) (vs : List (Option Iv)) (bs : List (List Int → Prop)) (r : List Int), factsOK R fs r → vsOK vs r → (optFL lv outs fs vs t).sat Γ R Ψ bs r → t.sat Γ R Ψ bs r := by
  intro t
  induction t with
  | ret es =>
    intro fs vs bs r hf h hs
    simp only [optFL, TX.sat, List.map_map] at hs
    have : es.map (X.den R r ∘ fun e => (conv vs e).1) = es.map (E.den R r) := List.map_congr_left fun e _ => (conv_has h e).1
    rw [this] at hs
    exact hs
  | ite b t f iht ihf =>
    intro fs vs bs r hf h hs
    simp only [optFL] at hs
    have hf1 : ∀ f ∈ fs, f.holds R r := fun f hm => (hf f hm).1
    have hcb := convB_prop (R := R) h b
    have key : ∀ x, b.den R r = x → deadV (refine' vs b x) = false ∧ vsOK (refine' vs b x) r := fun x hx => ⟨deadV_false (refine_ok (R := R) b x vs h hx), refine_ok (R := R) b x vs h hx⟩
    split at hs
    · rename_i hd
      have := decB_spec (R := R) h b true hd
      exact ⟨fun _ => iht fs vs bs r hf h hs, fun hf => by rw [this] at hf; cases hf⟩
    · rename_i hd
      have := decB_spec (R := R) h b false hd
      exact ⟨fun hf => (by rw [this] at hf; cases hf), fun _ => ihf fs vs bs r hf h hs⟩
    · split at hs
      · rename_i hk
        have := (hcb.1 ((knowB_spec hf1 _ _ hk).2 rfl))
        exact ⟨fun _ => iht fs vs bs r hf h hs, fun hb => by rw [this] at hb; cases hb⟩
      · rename_i hk
        have hn : ¬ b.den R r = true := fun hb => by have := (knowB_spec hf1 _ _ hk).1 (hcb.2 hb); cases this
        exact ⟨fun hb => absurd hb hn, fun _ => ihf fs vs bs r hf h hs⟩
      · obtain ⟨h1, h2⟩ := hs
        rw [slimB_spec hf1] at h1 h2
        refine ⟨fun hb => ?_, fun hb => ?_⟩
        · obtain ⟨k1, k2⟩ := key true hb
          have h3 := h1 (hcb.2 hb)
          rw [if_neg (by rw [k1]; simp)] at h3
          rw [h.1] at h3
          exact iht _ _ bs r (factsOK_learn hf (by simp [hcb.2 hb])) k2 h3
        · obtain ⟨k1, k2⟩ := key false hb
          have hnp : ¬ (convB vs b).prop R r := fun hp => by have := hcb.1 hp; rw [hb] at this; cases this
          have h3 := h2 hnp
          rw [if_neg (by rw [k1]; simp)] at h3
          rw [h.1] at h3
          exact ihf _ _ bs r (factsOK_learn hf (by simp [hnp])) k2 h3
  | asrt b t ih =>
    intro fs vs bs r hf h hs
    simp only [optFL] at hs
    have hf1 : ∀ f ∈ fs, f.holds R r := fun f hm => (hf f hm).1
    have hcb := convB_prop (R := R) h b
    split at hs
    · rename_i hd
      exact ⟨decB_spec (R := R) h b true hd, ih fs vs bs r hf h hs⟩
    · split at hs
      · rename_i hk
        exact ⟨hcb.1 ((knowB_spec hf1 _ _ hk).2 rfl), ih fs vs bs r hf h hs⟩
      · obtain ⟨h1, h2⟩ := hs
        rw [slimB_spec hf1] at h1
        have hb := hcb.1 h1
        rw [h.1] at h2
        exact ⟨hb, ih _ _ bs r (factsOK_learn hf (by simp [h1])) (refine_ok (R := R) b true vs h hb) h2⟩
  | call g args t ih =>
    intro fs vs bs r hf h hs
    have hm : args.map (X.den R r ∘ fun e => (conv vs e).1) = args.map (E.den R r) := List.map_congr_left fun e _ => (conv_has h e).1
    simp only [optFL] at hs
    simp only [T.sat]
    split at hs
    · rename_i hin
      simp only [TX.sat, List.map_map, hm] at hs
      split at hs
      · rename_i s hg
        rw [hg]
        obtain ⟨h1, h2⟩ := ho g s hg
        have h3 := inIvs_ok hin (conv_args (R := R) h args)
        exact ⟨h1 _ h3, ih _ _ bs _ (factsOK_app _ hf) (vsOK_app h (h2 _ _ (conv_args (R := R) h args) (h1 _ h3))) hs⟩
      · exact hs.elim
    · simp only [TX.sat, List.map_map, hm] at hs
      split at hs
      · rename_i s hg
        rw [hg]
        obtain ⟨h1, h2⟩ := ho g s hg
        exact ⟨hs.1, ih _ _ bs _ (factsOK_app _ hf) (vsOK_app h (h2 _ _ (conv_args (R := R) h args) hs.1)) hs.2⟩
      · exact hs.elim
  | loop n ini t ih =>
    intro fs vs bs r hf h hs
    have hm : ini.map (X.den R r ∘ fun e => (conv vs e).1) = ini.map (E.den R r) := List.map_congr_left fun e _ => (conv_has h e).1
    simp only [optFL, TX.sat, List.map_map, hm] at hs
    obtain ⟨I, μ, h1, h2, h3⟩ := hs
    exact ⟨I, μ, h2, fun xs hx hI => ih _ _ _ _ (factsOK_app _ hf) (vsOK_app h (h1 xs hx hI)) (h3 xs hx hI)⟩
  | back d es =>
    intro fs vs bs r hf h hs
    have hm : es.map (X.den R r ∘ fun e => (conv vs e).1) = es.map (E.den R r) := List.map_congr_left fun e _ => (conv_has h e).1
    simp only [optFL, TX.sat, List.map_map, hm] at hs
    exact hs
  | both t f iht ihf =>
    intro fs vs bs r hf h hs
    simp only [optFL] at hs
    obtain ⟨h1, h2⟩ := mkBoth_sat hs
    exact ⟨iht _ _ _ _ hf h h1, ihf _ _ _ _ hf h h2⟩
  | fail => intro fs vs bs r _ h hs; exact hs.elim
end

theorem factsOK_nil {R : Fo} {r : List Int} : factsOK R [] r := fun f h => by cases h

theorem Sum.okPL {P : Program} {Γ : List Sum} (hm : P.follows .mixedOrders = true) (hG : Gok P Γ) {lp : St → Code → Option Plan} {lv : List (Nat × List (Option Iv))} {gl : List (Nat × List Int)} {fuel : Nat} {outs : List Inf} (ho : outsOK Γ outs) {fn : FuncId} {ps rs : List Sh} {pin : List (Option Iv)} {pre : List Int → Prop} {sem : List Int → List Int} {t : TX}
    (ht : merge (optFL lv outs [] pin (symFnL P lp gl Γ fuel fn ps rs)) = t)
    (hsh : (ps ++ rs).all (fun sh => sh.agg || sh.ks.length == 1) = true)
    (hl : ∀ xs : List Int, (sem xs).length = total rs)
    (hpre : ∀ xs, pre xs → vsOK pin xs)
    (hs : ∀ xs : List Int, xs.length = total ps → pre xs → t.sat Γ [] (fun ys => ys = sem xs) [] xs) : (mkP gl fn ps rs pre sem).ok P := by
  subst ht
  exact Sum.ok_ofL hm hG rfl hsh (fun xs hx hp => optFL_sound ho _ [] pin [] xs factsOK_nil (hpre xs hp) (merge_sat _ _ _ (hs xs hx hp))) (fun xs _ _ => hl xs)

theorem Sum.okF {P : Program} {Γ : List Sum} (hm : P.follows .mixedOrders = true) (hG : Gok P Γ) {lp : St → Code → Option Plan} {lv : List (Nat × List (Option Iv))} {gl : List (Nat × List Int)} {fuel : Nat} {outs : List Inf} (ho : outsOK Γ outs) {fn : FuncId} {ps rs : List Sh} {pin : List (Option Iv)} {sem : List Int → List Int} {t : TX}
    (ht : merge (optFL lv outs [] pin (symFnL P lp gl Γ fuel fn ps rs)) = t)
    (hsh : (ps ++ rs).all (fun sh => sh.agg || sh.ks.length == 1) = true)
    (hl : ∀ xs : List Int, (sem xs).length = total rs)
    (hs : ∀ xs : List Int, xs.length = total ps → vsOK pin xs → t.sat Γ [] (fun ys => ys = sem xs) [] xs) : (mkS gl fn ps rs pin sem).ok P :=
  Sum.okPL hm hG ho (pre := vsOK pin) ht hsh hl (fun _ h => h) hs

theorem Sum.okPF {P : Program} {Γ : List Sum} (hm : P.follows .mixedOrders = true) (hG : Gok P Γ) {lp : St → Code → Option Plan} {lv : List (Nat × List (Option Iv))} {gl : List (Nat × List Int)} {fuel : Nat} {outs : List Inf} (ho : outsOK Γ outs) {fn : FuncId} {ps rs : List Sh} {pin : List (Option Iv)} {pre : List Int → Prop} {sem : List Int → List Int} {t : TX}
    (ht : merge (optFL lv outs [] pin (symFnL P lp gl Γ fuel fn ps rs)) = t)
    (hsh : (ps ++ rs).all (fun sh => sh.agg || sh.ks.length == 1) = true)
    (hl : ∀ xs : List Int, (sem xs).length = total rs)
    (hpre : ∀ xs, pre xs → vsOK pin xs)
    (hs : ∀ xs : List Int, xs.length = total ps → pre xs → t.sat Γ [] (fun ys => ys = sem xs) [] xs) : (mkP gl fn ps rs pre sem).ok P :=
  Sum.okPL hm hG ho ht hsh hl hpre hs

theorem lawFL {P : Program} {Γ : List Sum} (hm : P.follows .mixedOrders = true) (hG : Gok P Γ) {lp : St → Code → Option Plan} {lv : List (Nat × List (Option Iv))} {gl : List (Nat × List Int)} {fuel : Nat} {fn : FuncId} {ps : List Sh} {outs : List Inf} {vs : List (Option Iv)} {t : TX} (ho : outsOK Γ outs)
    (ht : merge (optFL lv outs [] vs (symFnL P lp gl Γ fuel fn ps [Bo])) = t) {xs : List Int} {us : List Value} (w : World) (hx : ShsR (fun _ ks u n => SlN w ks u n) ps us xs)
    (hv : vsOK vs xs) (hs : t.sat Γ [] (fun ys => ys = [1]) [] xs) (hgl : GlOK gl w) :
    Calls P fn us.toArray w fun e w' => e = .returned (.bool true) ∧ Below w.heap.size w w' := by
  subst ht
  exact law_trueL hm hG rfl w hx (optFL_sound ho _ [] vs [] xs factsOK_nil hv (merge_sat _ _ _ hs)) hgl

theorem lawF {P : Program} {Γ : List Sum} (hm : P.follows .mixedOrders = true) (hG : Gok P Γ) {lp : St → Code → Option Plan} {lv : List (Nat × List (Option Iv))} {gl : List (Nat × List Int)} {fuel : Nat} {fn : FuncId} {ps : List Sh} {outs : List Inf} {vs : List (Option Iv)} {t : TX} (ho : outsOK Γ outs)
    (ht : merge (optFL lv outs [] vs (symFnL P lp gl Γ fuel fn ps [Bo])) = t) {xs : List Int} (hps : ps.all (fun sh => sh.agg || sh.ks.length == 1) = true) (hns : nS (allK ps) = 0) (hx : xs.length = total ps)
    (hv : vsOK vs xs) (hs : t.sat Γ [] (fun ys => ys = [1]) [] xs) (w : World) (hgl : GlOK gl w) :
    Calls P fn (mkShs ps xs).toArray w fun e w' => e = .returned (.bool true) ∧ Below w.heap.size w w' :=
  lawFL hm hG ho ht w (ShsR_mk hps hns hx) hv hs hgl

end Go.Sx
