/-
  Symbolic execution: it is right.
-/
import Derived.Test.YtgcoidbaoigkeaaSwP
namespace Go.Sx
open Go.RowKit

section
variable {P : Program} {Γ : List Sum} {Ψ : List Int → Prop} {bs : List (List Int → Prop)} {ops : Array Oper}
variable {s0 : St} {e0 : Env} {a0 : Array Value} {W0 : Bas} {w0 : World}

theorem fork_den {s : St} {r : List Int} {x : List SV} (hx : x = s.fr ∨ ∃ t b v, slotB s t = some b ∧ b.den e0.R r = v ∧ x = s.fr.set t (one (.b (.c v)))) (t : Nat) :
    (x.getD t undefS).den (e0.at r) = (s.fr.getD t undefS).den (e0.at r) ∧ ((∃ b, s.fr.getD t undefS = one (.b b)) → ∃ b, x.getD t undefS = one (.b b)) := by
  rcases hx with rfl | ⟨t', b, v, hb, hv, rfl⟩
  · exact ⟨rfl, id⟩
  · obtain ⟨ht, hs⟩ := slotB_spec hb
    rw [getD_set_fr]
    split
    · rename_i hc
      obtain ⟨rfl, _⟩ := hc
      refine ⟨?_, fun _ => ⟨_, rfl⟩⟩
      rw [hs]
      show Value.bool v = Value.bool (b.den e0.R r)
      rw [hv]
    · exact ⟨rfl, id⟩

theorem looks_operand {o : Oper} {t : Tmp} (h : .tmp t ∈ o.op.operands) : t ∈ o.looksAt ops :=
  List.mem_append_left _ (List.mem_filterMap.2 ⟨.tmp t, by simpa using h, rfl⟩)

theorem looks_guard {o : Oper} {j : Nat} {want : Bool} {t : Tmp} (hg : o.guard = some (j, want)) (hd : (ops[j]?).bind (·.dst) = some t) : t ∈ o.looksAt ops := by
  refine List.mem_append_right _ ?_
  simp [hg, hd]

/-- What the guard says, by what is known of its slot. -/
theorem wantedS_beh {s : St} {o : Oper} {x : Bool} (hw : wantedS ops s o = some x) : (o.guard = none ∧ x = true) ∨ ∃ j want t y, o.guard = some (j, want) ∧ (ops[j]?).bind (·.dst) = some t ∧ (s.fr.getD t undefS = one (.b (.c y)) ∧ x = (y == want) ∨ s.fr.getD t undefS = undefS ∧ x = false) := by
  unfold wantedS at hw
  split at hw
  · rename_i hg
    exact .inl ⟨hg, by simpa using hw.symm⟩
  · rename_i j want hg
    split at hw
    · rename_i t ht
      split at hw
      · split at hw
        · rename_i y hy
          simp only [Option.some.injEq] at hw
          exact .inr ⟨j, want, t, y, hg, ht, .inl ⟨hy, hw.symm⟩⟩
        · rename_i hy
          simp only [Option.some.injEq] at hw
          exact .inr ⟨j, want, t, true, hg, ht, .inr ⟨hy, hw.symm⟩⟩
        · cases hw
      · cases hw
    · cases hw

/-- Two states that differ in which blocks are known, no more. -/
structure Twins (sf s0 : St) : Prop where
  len : sf.mem.length = s0.mem.length
  rows : sf.rows = s0.rows
  fr : sf.fr = s0.fr
  nx : sf.nx = s0.nx
  fl : sf.fl = s0.fl
  flr : sf.flr = s0.flr
  gl : sf.gl = s0.gl
  hs : sf.hs = s0.hs
  dp : sf.dp = s0.dp
  cells : ∀ b ∈ sf.mem, ∃ b' ∈ s0.mem, b.cells = b'.cells

theorem Lex.swap {sf : St} {i : Nat} {ents : Nat → Ent} {s : St} {r : List Int} {al : List Nat} (ht : Twins sf s0) (h : Lex s0 e0 a0 ops i ents s r al) : Lex sf e0 a0 ops i ents (swapM sf s0 s) r al := by
  obtain ⟨news, hm, hn⟩ := h.mem
  have hd : s.mem.drop s0.mem.length = news := by rw [hm]; simp
  refine ⟨h.ext, h.nv, h.nx.trans ht.nx.symm, h.fl.trans ht.fl.symm, h.flr.trans ht.flr.symm, h.gl.trans ht.gl.symm, h.hs.trans ht.hs.symm, h.dp.trans ht.dp.symm, h.rows.trans ht.rows.symm, ⟨news, by show sf.mem ++ s.mem.drop s0.mem.length = _; rw [hd], hn⟩, by rw [ht.fr]; exact h.len, ?_, ?_, ?_, ?_, ?_, ?_, h.alAll, h.alND⟩
  · intro b hb
    obtain ⟨b', h1, h2⟩ := ht.cells b hb
    rw [h2]; exact h.memd b' h1
  · rw [ht.rows]; exact h.rowd
  · rw [ht.hs]; exact h.hsd
  · rw [ht.len, ht.rows]; exact h.slots
  · rw [ht.len, ht.rows]; exact h.nscp
  · intro j i' hj
    obtain ⟨h1, b, h2, h3⟩ := h.alOK j i' hj
    rw [ht.len, ht.rows]
    refine ⟨h1, b, ?_, h3⟩
    show (sf.mem ++ s.mem.drop s0.mem.length)[s0.mem.length + j]? = some b
    rw [List.getElem?_append_right (by rw [ht.len]; omega), List.getElem?_drop, ht.len]
    rw [show s0.mem.length + (s0.mem.length + j - s0.mem.length) = s0.mem.length + j by omega]
    exact h2

theorem Twins.symm' {sf : St} (ht : Twins sf s0) (hc : ∀ b ∈ s0.mem, ∃ b' ∈ sf.mem, b.cells = b'.cells) : Twins s0 sf :=
  ⟨ht.len.symm, ht.rows.symm, ht.fr.symm, ht.nx.symm, ht.fl.symm, ht.flr.symm, ht.gl.symm, ht.hs.symm, ht.dp.symm, hc⟩

theorem execPre_sound {X : Nat → Prop} (hG : Gok P Γ) {ih : Code → St → Kont → T} (hih : IH P Γ ih) (h0 : Rep e0 W0 s0 w0) (hX : XOK e0 W0 s0 X) {sf : St} {sg : Nat → Bool} (hf : Rep e0 W0 sf w0) (ht : Twins sf s0) (ht' : Twins s0 sf) {N : Nat}
    (hu : ∀ i j t, j < i → i < N → (ops[j]?).bind (·.dst) = some t → (ops[i]?).bind (·.dst) ≠ some t) (hdl : ∀ i o d, i < N → ops[i]? = some o → o.dst = some d → d < s0.fr.length) :
    ∀ (l : List Oper) (i : Nat), (∀ j, j < l.length → l[j]? = ops[i + j]?) → i + l.length = N → ∀ (ents : Nat → Ent) (s : St) (r : List Int) (al : List Nat) (k : St → T), Lex s0 e0 a0 ops i ents s r al →
      (∀ i', i' < i → PreOK P (fun w => Cls w0 (fun k => sg i' = false ∧ X k) w) ops ents a0 i') → (execPre P Γ ih ops sf s0 sg i l s k).sat Γ e0.R Ψ bs r →
      ∃ ents' s' r' al', Lex s0 e0 a0 ops N ents' s' r' al' ∧ (∀ i', i' < N → PreOK P (fun w => Cls w0 (fun k => sg i' = false ∧ X k) w) ops ents' a0 i') ∧ (k s').sat Γ e0.R Ψ bs r'
  | [], i, _, hN, ents, s, r, al, k, hl, hp, hs => by
    simp only [List.length_nil, Nat.add_zero] at hN
    subst hN
    exact ⟨ents, s, r, al, hl, hp, hs⟩
  | o :: l, i, hlo, hN, ents, s, r, al, k, hl, hp, hs => by
    simp only [List.length_cons] at hN
    have ho : ops[i]? = some o := by have := hlo 0 (by simp); simpa using this.symm
    have hui : ∀ j t, j < i → (ops[j]?).bind (·.dst) = some t → (ops[i]?).bind (·.dst) ≠ some t := fun j t hj => hu i j t hj (by omega)
    have hdi : ∀ d, o.dst = some d → d < s0.fr.length := fun d => hdl i o d (by omega) ho
    have hlo' : ∀ j, j < l.length → l[j]? = ops[i + 1 + j]? := fun j hj => by
      have := hlo (j + 1) (by simp; omega)
      simpa [Nat.add_assoc, Nat.add_comm 1 j] using this
    simp only [execPre] at hs
    obtain ⟨x, hs1, hx⟩ := forkO_sat' hs
    have hl1 := hl.fork hx
    split at hs1
    · rename_i hw
      obtain ⟨y, hs2, hy⟩ := forkO_sat' hs1
      have hl2 := hl1.fork hy
      have hstep : ∃ ent s' r' al', Lex s0 e0 a0 ops (i + 1) (upd ents i ent) s' r' al' ∧ (execPre P Γ ih ops sf s0 sg (i + 1) l s' k).sat Γ e0.R Ψ bs r' ∧ (ent.obj = none → ∀ n, ent.val n = ent.val 0) ∧
          (∀ x ∈ o.op.operands, (St.ev { s with fr := y } x).scp s0.mem.length s0.rows.length = true) ∧
          ∀ (act : Act) (w : World), Cls w0 (fun k => sg i = false ∧ X k) w → (∀ x ∈ o.op.operands, act.eval x = (St.ev { s with fr := y } x).den (e0.at r)) → BehW P w0 (fun k => sg i = false ∧ X k) o ent act w := by
        split at hs2
        · rename_i hsg
          have hXf : XOK e0 W0 sf (fun k => sg i = false ∧ X k) := ⟨fun _ _ _ _ h => by rw [hsg] at h; exact absurd h.1 (by simp), fun _ _ _ _ _ _ h => by rw [hsg] at h; exact absurd h.1 (by simp), fun _ h => by rw [hsg] at h; exact absurd h.1 (by simp)⟩
          obtain ⟨ent, s', r', al', hl3, hs3, hval, hopsc, hbeh⟩ := preT_step hG hih hf hXf (hl2.swap ht) ho hui (by rw [ht.fr]; exact hdi) hs2
          rw [ht.len, ht.rows] at hopsc
          exact ⟨ent, _, r', al', hl3.swap ht', hs3, hval, hopsc, hbeh⟩
        · rename_i hsg
          have hsg' : sg i = false := by simpa using hsg
          have hXX : (fun k => sg i = false ∧ X k) = X := by funext k; simp [hsg']
          obtain ⟨ent, s', r', al', hl3, hs3, hval, hopsc, hbeh⟩ := preT_step hG hih h0 hX hl2 ho hui hdi hs2
          exact ⟨ent, s', r', al', hl3, hs3, hval, hopsc, by rw [hXX]; exact hbeh⟩
      obtain ⟨ent, s', r', al', hl3, hs3, hval, hopsc, hbeh⟩ := hstep
      refine execPre_sound hG hih h0 hX hf ht ht' hu hdl l (i + 1) hlo' (by omega) (upd ents i ent) s' r' al' k hl3 ?_ hs3
      intro i' hi'
      by_cases hii : i' = i
      · subst hii
        refine ⟨o, ho, by rw [upd_self]; exact hval, o.looksAt ops, fun t => ((y.getD t undefS).den (e0.at r)), fun _ h => h, ?_, ?_⟩
        · intro t ht
          rw [lexv_congr (fun j hj => upd_ne _ _ _ (Nat.ne_of_lt hj))]
          refine hl2.slots t ?_
          simp only [Oper.looksAt, List.mem_append] at ht
          rcases ht with ht | ht
          · obtain ⟨op, hop, hopt⟩ := List.mem_filterMap.1 ht
            cases op with
            | tmp t' =>
              simp only [Option.some.injEq] at hopt
              subst hopt
              exact hopsc (.tmp t') (by simpa using hop)
            | _ => simp at hopt
          · rcases wantedS_beh hw with ⟨hg, _⟩ | ⟨j, want, t', yy, hg, hd, ⟨hsl, _⟩ | ⟨_, hf⟩⟩
            · rw [hg] at ht; simp at ht
            · rw [hg] at ht
              simp only [hd, Option.toList_some, List.mem_singleton] at ht
              subst ht
              obtain ⟨b, hb⟩ := (fork_den (e0 := e0) hy t).2 ⟨_, hsl⟩
              show (y.getD t undefS).scp _ _ = true
              rw [hb]
              rfl
            · cases hf
        · rw [upd_self]
          intro act w hCw _ _ hlook K Q hK
          have hwt : Region.wanted o (yielded ops act.tmps) = true := by
            unfold Region.wanted
            rcases wantedS_beh hw with ⟨hg, _⟩ | ⟨j, want, t', yy, hg, hd, ⟨hsl, hyy⟩ | ⟨_, hf⟩⟩
            · rw [hg]
            · rw [hg]
              have hb : act.tmps.getD t' undef = .bool yy := by
                rw [hlook t' (looks_guard hg hd)]
                show (y.getD t' undefS).den (e0.at r) = _
                rw [(fork_den (e0 := e0) hy t').1]
                show (x.getD t' undefS).den _ = _
                have : x.getD t' undefS = one (.b (.c yy)) := hsl
                rw [this]
                rfl
              simp only [yielded_asB, hd, Option.bind_some, hb, asB]
              have := hyy.symm
              simp only [beq_iff_eq] at this ⊢
              rw [this]
            · cases hf
          rw [if_pos hwt]
          refine hbeh act w hCw (fun op hop => ?_) K Q ?_
          · cases op with
            | tmp t => exact hlook t (looks_operand hop)
            | const v => simp [Act.eval, St.ev, SV.den]
            | global g => rfl
            | func f => rfl
          · cases hob : ent.obj with
            | none => rw [hob] at hK; exact hK
            | some ob => rw [hob] at hK; exact hK
      · exact (hp i' (by omega)).congr (fun j hj => upd_ne _ _ _ (by omega))
    · rename_i hw
      have hput := hl1.put ho hui hdi (v := undefS) rfl
      refine execPre_sound hG hih h0 hX hf ht ht' hu hdl l (i + 1) hlo' (by omega) _ _ r al k hput ?_ hs1
      intro i' hi'
      by_cases hii : i' = i
      · subst hii
        rcases wantedS_beh hw with ⟨_, hf⟩ | ⟨j, want, t', yy, hg, hd, hor⟩
        · cases hf
        · have hsl' : x.getD t' undefS = one (.b (.c yy)) ∧ false = (yy == want) ∨ x.getD t' undefS = undefS := by
            rcases hor with h | h
            · exact .inl h
            · exact .inr h.1
          refine ⟨o, ho, by rw [upd_self]; exact fun _ _ => rfl, [t'], fun t => (x.getD t undefS).den (e0.at r), fun t ht => by simp only [List.mem_singleton] at ht; subst ht; exact looks_guard hg hd, ?_, ?_⟩
          · intro t ht
            simp only [List.mem_singleton] at ht
            subst ht
            rw [lexv_congr (fun j hj => upd_ne _ _ _ (Nat.ne_of_lt hj))]
            refine hl1.slots t ?_
            show (x.getD t undefS).scp _ _ = true
            rcases hsl' with ⟨hsl', _⟩ | hsl' <;> rw [hsl'] <;> rfl
          · rw [upd_self]
            intro act w hCw _ _ hlook K Q hK
            have hwt : ¬ Region.wanted o (yielded ops act.tmps) = true := by
              unfold Region.wanted
              rw [hg]
              have hb0 : act.tmps.getD t' undef = (x.getD t' undefS).den (e0.at r) := hlook t' (by simp)
              rcases hsl' with ⟨hsl', hyy⟩ | hsl'
              · have hb : act.tmps.getD t' undef = .bool yy := by rw [hb0, hsl']; rfl
                simp only [yielded_asB, hd, Option.bind_some, hb, asB]
                intro hh
                simp only [beq_iff_eq, Option.some.injEq] at hh
                subst hh
                simp at hyy
              · have hb : act.tmps.getD t' undef = undef := by rw [hb0, hsl']; rfl
                simp only [yielded_asB, hd, Option.bind_some, hb]
                intro hh
                have : asB undef = none := rfl
                rw [this] at hh
                cases hh
            rw [if_neg hwt]
            exact hK w hCw (Below.refl _ _)
      · exact (hp i' (by omega)).congr (fun j hj => upd_ne _ _ _ (by omega))
    · exact hs1.elim

theorem SC.scp_of_sc {nv nb ng : Nat} : ∀ {c : SC}, c.sc nv nb ng = true → c.scp nb ng = true := SC.sc_scp
theorem SW.scp_of_sc {nv nb ng : Nat} : ∀ {c : SW}, c.sc nv nb ng = true → c.scp nb ng = true := by
  intro c h
  cases c with
  | o c => exact SC.scp_of_sc h
  | a cs => exact List.all_eq_true.2 fun x hx => SC.scp_of_sc (List.all_eq_true.1 h x hx)
theorem SV.scp_of_sc {nv nb ng nx : Nat} : ∀ {c : SV}, c.sc nv nb ng nx = true → c.scp nb ng = true := SV.sc_scp
theorem St.scp_of_sc {s : St} (h : s.sc = true) : s.scp = true := St.sc_scp h

theorem killB_get (D : List Nat) : ∀ (l : List Blk) (k n : Nat), (killB D k l)[n]? = (l[n]?).map fun b => if D.contains (k + n) then { b with live := false } else b
  | [], k, n => by simp [killB]
  | b :: l, k, 0 => by simp [killB]
  | b :: l, k, n + 1 => by
    simp only [killB, List.getElem?_cons_succ]
    rw [killB_get D l (k + 1) n]
    simp only [Nat.add_assoc, Nat.add_comm 1 n]

theorem killB_some {D : List Nat} {l : List Blk} {n : Nat} {b : Blk} (h : (killB D 0 l)[n]? = some b) : ∃ b', l[n]? = some b' ∧ b.ty = b'.ty ∧ b.cells = b'.cells ∧ (b.live = true → b'.live = true ∧ n ∉ D ∧ b = b') := by
  rw [killB_get, Option.map_eq_some_iff] at h
  obtain ⟨b', h1, rfl⟩ := h
  refine ⟨b', h1, ?_⟩
  simp only [Nat.zero_add]
  split
  · exact ⟨rfl, rfl, fun h => by cases h⟩
  · rename_i hn
    exact ⟨rfl, rfl, fun h => ⟨h, by simpa using hn, rfl⟩⟩

theorem killB_length (D : List Nat) : ∀ (l : List Blk) (k : Nat), (killB D k l).length = l.length
  | [], _ => rfl
  | _ :: l, k => by simp [killB, killB_length D l (k + 1)]

theorem Rep.killM {e : Env} {sB : St} {w : World} (h : Rep e W0 sB w) (D : List Nat) : Rep e W0 { sB with mem := killB D 0 sB.mem } w := by
  refine ⟨h.below, by simp [killB_length, h.nb], h.ng, h.nv, h.nx, ?_, ?_, ?_, h.row, h.rown, h.rsep, ?_, h.gl, h.arg⟩
  · intro n b hb hl
    obtain ⟨b', h1, _, _, h4⟩ := killB_some hb
    obtain ⟨h5, _, rfl⟩ := h4 hl
    exact h.blk n b h1 h5
  · intro n b hb hl
    obtain ⟨b', h1, _, _, h4⟩ := killB_some hb
    obtain ⟨h5, _, rfl⟩ := h4 hl
    exact h.own n b h1 h5
  · intro n m b c hb hc hlb hlc
    obtain ⟨b', h1, _, _, h4⟩ := killB_some hb
    obtain ⟨h5, _, rfl⟩ := h4 hlb
    obtain ⟨c', h1', _, _, h4'⟩ := killB_some hc
    obtain ⟨h5', _, rfl⟩ := h4' hlc
    exact h.sep n m b c h1 h1' h5 h5'
  · intro n m b c hb hc hlb hlc
    obtain ⟨b', h1, _, _, h4⟩ := killB_some hb
    obtain ⟨h5, _, rfl⟩ := h4 hlb
    exact h.brs n m b c h1 hc h5 hlc

/-- Behind the drawn part: what is known, whatever the memory is said to hold. -/
theorem Lex.done {N : Nat} {X : Nat → Prop} {sB : St} {ents : Nat → Ent} {s : St} {r : List Int} {al : List Nat} (h : Lex s0 e0 a0 ops N ents s r al) (hB : Rep e0 W0 sB w0) (h0 : Rep e0 W0 s0 w0) (hX : XOK e0 W0 s0 X)
    (hsB : sB.mem.length = s0.mem.length ∧ sB.rows = s0.rows ∧ sB.fl = s0.fl ∧ sB.flr = s0.flr) (ha0 : a0.size = s0.fr.length)
    (huniq : ∀ i j t, i < N → j < N → (ops[i]?).bind (·.dst) = some t → (ops[j]?).bind (·.dst) = some t → i = j)
    (hval : ∀ i, i < N → (ents i).obj = none → ∀ n, (ents i).val n = (ents i).val 0)
    {act : Act} {w : World} {γ : Nat → Nat} (hw : Cls w0 X w) (hd : act.defers = []) (hsz : act.tmps.size = a0.size)
    (hγ : ∀ i, i ∈ al → w0.heap.size ≤ γ i)
    (hγu : ∀ i j, i < N → j < N → (ents i).obj.isSome = true → (ents j).obj.isSome = true → γ i = γ j → i = j)
    (hslot : ∀ t, act.tmps.getD t undef = match writer ops N t with | some i => (ents i).val (γ i) | none => a0.getD t undef)
    {memF : List Blk} (hmF : memF.length = s.mem.length) (hlv : ∀ n (b : Blk), memF[n]? = some b → b.live = true → n < s0.mem.length → ∃ b', sB.mem[n]? = some b' ∧ b'.live = true)
    (hblk : ∀ n (b : Blk), memF[n]? = some b → b.live = true → w.heap[(e0.β ++ al.map γ).getD n 0]? = some (.cells (b.cells.map (SC.den { e0 with r := r, β := e0.β ++ al.map γ })).toArray b.ty (0, 0))) :
    Rel { e0 with r := r, β := e0.β ++ al.map γ } W0 { s with mem := memF } act w ∧ Env.le e0 { e0 with r := r, β := e0.β ++ al.map γ } := by
  obtain ⟨hsBm, hsBr, hsBf, hsBfr⟩ := hsB
  obtain ⟨x, hx⟩ := h.ext
  obtain ⟨news, hmem, hnl⟩ := h.mem
  have hml : s.mem.length = s0.mem.length + al.length := by rw [hmem]; simp [hnl]
  have hle : Env.le e0 { e0 with r := r, β := e0.β ++ al.map γ } := ⟨x, al.map γ, [], [], hx, rfl, by simp, by simp, rfl⟩
  have hlike : Env.like s0.mem.length s0.rows.length (e0.at r) { e0 with r := r, β := e0.β ++ al.map γ } :=
    ⟨rfl, rfl, rfl, fun n hn => getD_app_lt _ _ _ _ (by show n < e0.β.length; rw [h0.nb]; exact hn), fun _ _ => rfl⟩
  have hβnew : ∀ (j i' : Nat), al[j]? = some i' → (e0.β ++ al.map γ).getD (s0.mem.length + j) 0 = γ i' := by
    intro j i' hj
    rw [← h0.nb]
    simp [List.getD, List.getElem?_append_right, hj]
  have hβold : ∀ n, n < s0.mem.length → (e0.β ++ al.map γ).getD n 0 = e0.β.getD n 0 := fun n hn => hlike.β n hn
  have hcases : ∀ n (b : Blk), memF[n]? = some b → b.live = true → (n < s0.mem.length ∧ ∃ b', sB.mem[n]? = some b' ∧ b'.live = true) ∨ ∃ (j i' : Nat), n = s0.mem.length + j ∧ al[j]? = some i' := by
    intro n b hb hl
    rcases Nat.lt_or_ge n s0.mem.length with hn | hn
    · exact .inl ⟨hn, hlv n b hb hl hn⟩
    · have hlt := (List.getElem?_eq_some_iff.1 hb).1
      exact .inr ⟨n - s0.mem.length, al[n - s0.mem.length]'(by omega), by omega, List.getElem?_eq_getElem (by omega)⟩
  have hnewb : ∀ (j i' : Nat), al[j]? = some i' → i' < N ∧ w0.heap.size ≤ γ i' ∧ (ents i').obj.isSome = true := by
    intro j i' hj
    obtain ⟨h1, b, h2, _, h4, h5, _⟩ := h.alOK j i' hj
    exact ⟨h1, hγ i' (List.mem_of_getElem? hj), by rw [h5]; rfl⟩
  have hold : ∀ n (b : Blk), sB.mem[n]? = some b → b.live = true → e0.β.getD n 0 < w0.heap.size := fun n b hb hl => heap_lt (hB.blk n b hb hl)
  have hrw := h0.cls hX hw
  refine ⟨⟨⟨hrw.below, ?_, ?_, ?_, ?_, hblk, ?_, ?_, ?_, ?_, ?_, ?_, by show GlX s.gl W0; rw [h.gl]; exact h0.gl, ?_⟩, ?_, hd⟩, hle⟩
  · show (e0.β ++ al.map γ).length = memF.length
    simp [h0.nb, hml, hmF]
  · show e0.σ.length = s.rows.length
    rw [h.rows]; exact h0.ng
  · exact h.nv.symm
  · show e0.ω.length = s.nx
    rw [h.nx]; exact h0.nx
  · intro n b hb hl hfl
    rcases hcases n b hb hl with ⟨hn, b', hb', hl'⟩ | ⟨j, i', rfl, hj⟩
    · show W0.may ((e0.β ++ al.map γ).getD n 0)
      rw [hβold n hn]
      exact hB.own n b' hb' hl' (by rw [hsBf, ← h.fl]; exact hfl)
    · show W0.may ((e0.β ++ al.map γ).getD (s0.mem.length + j) 0)
      rw [hβnew j i' hj]
      obtain ⟨_, h3, _⟩ := hnewb j i' hj
      exact .inl (Nat.le_trans h0.below.size h3)
  · intro n m b c hb hc hlb hlc heq
    have heq' : (e0.β ++ al.map γ).getD n 0 = (e0.β ++ al.map γ).getD m 0 := heq
    rcases hcases n b hb hlb with ⟨hn, b', hb', hl'⟩ | ⟨j, i', rfl, hj⟩ <;> rcases hcases m c hc hlc with ⟨hm, c', hc', hl''⟩ | ⟨j', i'', rfl, hj'⟩
    · rw [hβold n hn, hβold m hm] at heq'
      exact hB.sep n m b' c' hb' hc' hl' hl'' heq'
    · rw [hβold n hn, hβnew j' i'' hj'] at heq'
      have := hold n b' hb' hl'
      obtain ⟨_, h3, _⟩ := hnewb j' i'' hj'
      omega
    · rw [hβold m hm, hβnew j i' hj] at heq'
      have := hold m c' hc' hl''
      obtain ⟨_, h3, _⟩ := hnewb j i' hj
      omega
    · rw [hβnew j i' hj, hβnew j' i'' hj'] at heq'
      obtain ⟨h1, _, h5⟩ := hnewb j i' hj
      obtain ⟨h1', _, h5'⟩ := hnewb j' i'' hj'
      have := hγu i' i'' h1 h1' h5 h5' heq'
      subst this
      have hjj : j = j' := by
        have hl1 := (List.getElem?_eq_some_iff.1 hj).1
        exact (List.getElem?_inj hl1 h.alND).1 (hj.trans hj'.symm)
      rw [hjj]
  · intro n b hb hl
    have hb' : s0.rows[n]? = some b := by rw [← h.rows]; exact hb
    have h1 := hrw.row n b hb' hl
    show RowOK w b.ty b.ks ((G.o n).val e0) (b.c.den e0.R r)
    rw [h.rowd b (List.mem_of_getElem? hb')]
    exact h1
  · intro n b hb hl hfl
    have hb' : s0.rows[n]? = some b := by rw [← h.rows]; exact hb
    exact h0.rown n b hb' hl (by rw [← h.flr]; exact hfl)
  · intro n m b c k hb hc
    have hb' : s0.rows[n]? = some b := by rw [← h.rows]; exact hb
    have hc' : s0.rows[m]? = some c := by rw [← h.rows]; exact hc
    exact h0.rsep n m b c k hb' hc'
  · intro n m b c hb hc hlb hlc
    have hc' : s0.rows[m]? = some c := by rw [← h.rows]; exact hc
    rcases hcases n b hb hlb with ⟨hn, b', hb', hl'⟩ | ⟨j, i', rfl, hj⟩
    · show rowBlk ((G.o m).val e0) ≠ some ((e0.β ++ al.map γ).getD n 0)
      rw [hβold n hn]
      exact hB.brs n m b' c hb' (by rw [hsBr]; exact hc') hl' hlc
    · show rowBlk ((G.o m).val e0) ≠ some ((e0.β ++ al.map γ).getD (s0.mem.length + j) 0)
      rw [hβnew j i' hj]
      intro hk
      have := (h0.row m c hc' hlc).blk_lt hk
      obtain ⟨_, h3, _⟩ := hnewb j i' hj
      omega
  · intro i ks c hi
    have hi' : s.hs[i]? = some (ks, c) := hi
    rw [h.hs] at hi'
    show SlX W0 ks ((G.a i).val e0) (c.den e0.R r)
    rw [show c.den e0.R r = c.den e0.R e0.r from h.hsd (ks, c) (List.mem_of_getElem? hi')]
    exact h0.arg i ks c hi'
  · have key : ∀ t, act.tmps.getD t undef = (s.fr.getD t undefS).den { e0 with r := r, β := e0.β ++ al.map γ } := by
      intro t
      rw [hslot t]
      cases hsc : (s.fr.getD t undefS).scp s0.mem.length s0.rows.length with
      | true =>
        rw [SV.den_like hlike _ hsc]
        have hl := h.slots t hsc
        unfold lexv at hl
        cases hwr : writer ops N t with
        | none =>
          rw [hwr] at hl
          simpa using hl
        | some j =>
          rw [hwr] at hl
          dsimp only at hl ⊢
          split at hl
          · rename_i hob
            rw [hval j (writer_some hwr).1 (by simpa using hob) (γ j)]
            simpa using hl
          · cases hl
      | false =>
        obtain ⟨j, i', hj, hdt⟩ := h.nscp t hsc
        obtain ⟨h1, b, h2, _, h4, h5, mk, h6, h7, h8⟩ := h.alOK j i' hj
        rw [writer_eq h1 hdt (fun k hk hkd => huniq k i' t hk h1 hkd hdt), h8 t hdt]
        show _ = (mk (s0.mem.length + j)).den _
        rw [h7]
        show _ = (ents i').val ((e0.β ++ al.map γ).getD (s0.mem.length + j) 0)
        rw [hβnew j i' hj]
    apply Array.ext'
    apply List.ext_getElem?
    intro t
    have hlen : act.tmps.toList.length = s.fr.length := by simp [hsz, ha0, h.len]
    by_cases ht : t < s.fr.length
    · have hk := key t
      show act.tmps.toList[t]? = (s.fr.map _)[t]?
      simp only [List.getElem?_map]
      rw [List.getElem?_eq_getElem (by omega), List.getElem?_eq_getElem ht]
      simp only [Option.map_some, Option.some.injEq]
      have h1 : act.tmps.getD t undef = act.tmps.toList[t]'(by omega) := by
        have : t < act.tmps.size := by rw [hsz, ha0, ← h.len]; exact ht
        simp [Array.getD, this]
      have h2 : s.fr.getD t undefS = s.fr[t] := by simp [List.getD, ht]
      rw [← h1, hk, h2]
    · show act.tmps.toList[t]? = (s.fr.map _)[t]?
      rw [List.getElem?_eq_none (by omega), List.getElem?_eq_none (by simp; omega)]
end
end Go.Sx
