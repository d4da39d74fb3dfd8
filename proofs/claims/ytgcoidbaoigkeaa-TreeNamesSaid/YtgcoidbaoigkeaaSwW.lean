/-
  Symbolic execution: one operation ahead of the tail.
-/
import Derived.Test.YtgcoidbaoigkeaaSwO
import Derived.Test.YtgcoidbaoigkeaaSwL
namespace Go.Sx
open Go.RowKit

section
variable {P : Program} {Γ : List Sum} {Ψ : List Int → Prop} {bs : List (List Int → Prop)} {ops : Array Oper}
variable {s0 : St} {e0 : Env} {a0 : Array Value} {i : Nat} {ents : Nat → Ent} {s : St} {r : List Int} {al : List Nat} {W0 : Bas} {w0 : World}

structure Cls (w0 : World) (X : Nat → Prop) (w : World) : Prop where
  os : w.os = w0.os
  tape : w.tape = w0.tape
  output : w.output = w0.output
  size : w0.heap.size ≤ w.heap.size
  block : ∀ k, k < w0.heap.size → ¬ X k → w.heap[k]? = w0.heap[k]?

theorem Cls.refl (w0 : World) (X : Nat → Prop) : Cls w0 X w0 := ⟨rfl, rfl, rfl, Nat.le_refl _, fun _ _ _ => rfl⟩

theorem Cls.grow {X : Nat → Prop} {w w' : World} (h : Cls w0 X w) (hb : Below w.heap.size w w') : Cls w0 X w' :=
  ⟨hb.os.trans h.os, hb.tape.trans h.tape, hb.output.trans h.output, Nat.le_trans h.size hb.size, fun k hk hx => (hb.block k (Nat.lt_of_lt_of_le hk h.size)).trans (h.block k hk hx)⟩

theorem Cls.but {X : Nat → Prop} {w w' : World} {g : Nat} {ob : Obj} (h : Cls w0 X w) (hb : SameBut w w' g ob) (hg : w0.heap.size ≤ g ∨ X g) : Cls w0 X w' :=
  ⟨hb.os.trans h.os, hb.tape.trans h.tape, hb.output.trans h.output, by rw [hb.size]; exact h.size, fun k hk hx => by
    rw [hb.block k (by rintro rfl; exact hg.elim (fun h => by omega) hx)]
    exact h.block k hk hx⟩

structure XOK (e0 : Env) (W0 : Bas) (s0 : St) (X : Nat → Prop) : Prop where
  mem : ∀ n b, s0.mem[n]? = some b → b.live = true → ¬ X (e0.β.getD n 0)
  row : ∀ n b k, s0.rows[n]? = some b → b.live = true → rowBlk ((G.o n).val e0) = some k → ¬ X k
  own : ∀ k, X k → W0.may k

theorem Rep.cls {X : Nat → Prop} (h0 : Rep e0 W0 s0 w0) (hX : XOK e0 W0 s0 X) {w : World} (hw : Cls w0 X w) : Rep e0 W0 s0 w := by
  refine ⟨?_, h0.nb, h0.ng, h0.nv, h0.nx, ?_, h0.own, h0.sep, ?_, h0.rown, h0.rsep, h0.brs, h0.gl, h0.arg⟩
  · refine ⟨hw.os.trans h0.below.os, hw.tape.trans h0.below.tape, hw.output.trans h0.below.output, Nat.le_trans h0.below.size hw.size, fun k hk => ?_⟩
    have hkl : ¬ W0.w.heap.size ≤ k := fun hh => hk (.inl hh)
    rw [hw.block k (Nat.lt_of_lt_of_le (Nat.lt_of_not_le hkl) h0.below.size) (fun hx => hk (hX.own k hx))]
    exact h0.below.block k hk
  · intro n b hb hl
    have := h0.blk n b hb hl
    rw [hw.block _ (heap_lt this) (hX.mem n b hb hl)]
    exact this
  · intro n b hb hl
    have h1 := h0.row n b hb hl
    rcases h1.form with ⟨hn, hv⟩ | ⟨bb, off, hn, hv⟩ | ⟨g, cap, hv, hcap, hle, hk0, hel, hown⟩
    · exact .inl ⟨hn, .inl hv⟩
    · exact .inl ⟨hn, .inr ⟨bb, off, hv⟩⟩
    · refine .inr ⟨hk0, hel, hown.1, ?_⟩
      rcases hown.2 with h2 | ⟨g', cap', cur, h3, h4, h5, h6⟩
      · exact .inl h2
      · refine .inr ⟨g', cap', cur, h3, h4, ?_, h6⟩
        have hg : g' = g ∧ cap' = cap := by
          rw [hv] at h3
          simp only [Value.slice.injEq, Option.some.injEq, Addr.mk.injEq] at h3
          exact ⟨h3.1.1.symm, h3.2.2.symm⟩
        rw [hw.block g' (heap_lt h5) (hX.row n b g' hb hl (by rw [hv]; simp [rowBlk, hcap, hg.1]))]
        exact h5

theorem Lex.rep {X : Nat → Prop} (h : Lex s0 e0 a0 ops i ents s r al) (h0 : Rep e0 W0 s0 w0) (hX : XOK e0 W0 s0 X) {w : World} (hw : Cls w0 X w) (x : List SV) :
    Rep (e0.at r) ⟨w, fun _ => False⟩ { s with mem := s0.mem, rows := s0.rows, fl := s0.mem.length, flr := s0.rows.length, fr := x } w := by
  have hr := h0.cls hX hw
  refine ⟨BelowX.refl _, h0.nb, h0.ng, h.nv.symm, h0.nx.trans h.nx.symm, ?_, ?_, h0.sep, ?_, ?_, h0.rsep, h0.brs, ⟨by show GlOK s.gl w; rw [h.gl]; exact hr.glw, fun _ _ _ hh => hh⟩, ?_⟩
  · intro n b hb hl
    have := hr.blk n b hb hl
    show w.heap[e0.β.getD n 0]? = _
    rw [h.memd b (List.mem_of_getElem? hb)]
    exact this
  · intro n b hb _ hf
    have hf' : s0.mem.length ≤ n := hf
    have hlt : n < s0.mem.length := (List.getElem?_eq_some_iff.1 hb).1
    exact absurd hlt (Nat.not_lt_of_le hf')
  · intro n b hb hl
    show RowOK w b.ty b.ks ((G.o n).val e0) (b.c.den e0.R r)
    rw [h.rowd b (List.mem_of_getElem? hb)]
    exact hr.row n b hb hl
  · intro n b hb _ hf
    have hf' : s0.rows.length ≤ n := hf
    have hlt : n < s0.rows.length := (List.getElem?_eq_some_iff.1 hb).1
    exact absurd hlt (Nat.not_lt_of_le hf')
  · intro i ks c hi
    have hi' : s.hs[i]? = some (ks, c) := hi
    rw [h.hs] at hi'
    show SlN w ks ((G.a i).val e0) (c.den e0.R r)
    rw [show c.den e0.R r = c.den e0.R e0.r from h.hsd (ks, c) (List.mem_of_getElem? hi')]
    exact (hr.arg i ks c hi').nowN hr.below

def BehW (P : Program) (w0 : World) (X : Nat → Prop) (o : Oper) (ent : Ent) (act : Act) (w : World) : Prop :=
  ∀ (K : Act → World → Prop) (Q : Exit → Act → World → Prop),
    (match ent.obj with
      | none => ∀ w', Cls w0 X w' → Below w.heap.size w w' → K (act.put o.dst (ent.val 0)) w'
      | some ob => ∀ n w', Cls w0 X w' → Below w.heap.size w w' → w.heap.size ≤ n → w'.heap[n]? = some ob → K (act.put o.dst (ent.val n)) w') → o.wp P act w K Q

theorem wp_of_value {o : Oper} {act : Act} {w w' : World} {v : Value} {nx : Next} {K : Act → World → Prop} {Q : Exit → Act → World → Prop} (hr : (execOp act.eval o).run P w = .ok nx w') (hnx : nx = .value v ∨ (nx = .skip ∧ v = undef)) (hk : K (act.put o.dst v) w') : o.wp P act w K Q := by
  unfold Oper.wp
  rw [hr]
  rcases hnx with rfl | ⟨rfl, rfl⟩
  · exact hk
  · exact hk

theorem at_like {e' : Env} {w : World} (hle : Env.le (e0.at r) e') (hr : e'.r = (e0.at r).r) (hR : e'.R = (e0.at r).R) (hω : e'.ω = (e0.at r).ω) (h0 : Rep e0 W0 s0 w) : Env.like s0.mem.length s0.rows.length (e0.at r) e' := by
  obtain ⟨_, b, c, _, _, h2, h3, _, _⟩ := hle
  exact ⟨hr, hR, hω, fun n hn => by rw [h2]; exact getD_app_lt _ _ _ _ (by show n < e0.β.length; rw [h0.nb]; exact hn), fun n hn => by rw [h3]; exact getD_app_lt _ _ _ _ (by show n < e0.σ.length; rw [h0.ng]; exact hn)⟩

theorem cellsE_scp (nb ng : Nat) {mk : Nat → SC} : ∀ (ks : List K) (i : Nat) (es : List E), nS ks = 0 → (cellsE mk i ks es).all (SC.scp nb ng) = true
  | [], _, es, _ => by cases es <;> simp [cellsE]
  | k :: _, _, [], _ => by cases k <;> simp [cellsE]
  | .i k :: ks, i, e :: es, h => by simp [cellsE, SC.scp, cellsE_scp nb ng ks i es h]
  | .b :: ks, i, e :: es, h => by simp [cellsE, SC.scp, cellsE_scp nb ng ks i es h]
  | .s _ _ :: ks, i, e :: es, h => by simp [nS] at h

theorem shE_scp (nb ng : Nat) {mk : Nat → SC} (i : Nat) (s : Sh) (es : List E) (h : nS s.ks = 0) : (shE mk i s es).scp nb ng = true := by
  unfold shE
  have := cellsE_scp nb ng (mk := mk) s.ks i es h
  split
  · exact this
  · cases hce : cellsE mk i s.ks es with
    | nil => rfl
    | cons c cs => rw [hce] at this; simp only [List.all_cons, Bool.and_eq_true] at this; exact this.1

theorem shsE_scp (nb ng : Nat) {mk : Nat → SC} : ∀ (ss : List Sh) (i : Nat) (es : List E), nS (allK ss) = 0 → (shsE mk i ss es).all (SW.scp nb ng) = true
  | [], _, _, _ => by simp [shsE]
  | s :: ss, i, es, h => by
    rw [allK, nS_app] at h
    simp only [shsE, List.all_cons, Bool.and_eq_true]
    exact ⟨shE_scp nb ng i s _ (by omega), shsE_scp nb ng ss _ _ (by omega)⟩

theorem resE_scp (nb ng : Nat) {mk : Nat → SC} (i : Nat) (rs : List Sh) (es : List E) (h : nS (allK rs) = 0) : (resE mk i rs es).scp nb ng = true := by
  unfold resE
  have := shsE_scp nb ng (mk := mk) rs i es h
  split
  · rename_i x hx
    rw [hx] at this
    simp only [List.all_cons, List.all_nil, Bool.and_true] at this
    exact this
  · exact this

theorem cellsE_flat {e : Env} {mk : Nat → SC} : ∀ (ks : List K) (i : Nat) (es : List E), nS ks = 0 → (cellsE mk i ks es).map (SC.den e) = mkCells ks (es.map (E.den e.R e.r))
  | [], _, es, _ => by cases es <;> rfl
  | .i k :: ks, i, x :: es, h => by simp [cellsE, mkCells, cellsE_flat ks i es h, SC.den, K.mk]
  | .b :: ks, i, x :: es, h => by
    simp only [cellsE, List.map_cons, mkCells, cellsE_flat ks i es h, SC.den, K.mk]
    congr 2
    unfold mkNz
    split <;> simp [B.den, E.den]
  | .s _ _ :: _, _, _, h => by simp [nS] at h
  | .i _ :: _, _, [], _ => rfl
  | .b :: _, _, [], _ => rfl

theorem shE_flat {e : Env} {mk : Nat → SC} (i : Nat) (s : Sh) (es : List E) (h : nS s.ks = 0) : (shE mk i s es).den e = mkSh s (es.map (E.den e.R e.r)) := by
  unfold shE mkSh
  have := cellsE_flat (e := e) (mk := mk) s.ks i es h
  split
  · simp [SW.den, this]
  · rw [← this]
    cases cellsE mk i s.ks es <;> simp [SW.den, SC.den]

theorem shsE_flat {e : Env} {mk : Nat → SC} : ∀ (ss : List Sh) (i : Nat) (es : List E), nS (allK ss) = 0 → (shsE mk i ss es).map (SW.den e) = mkShs ss (es.map (E.den e.R e.r))
  | [], _, _, _ => by simp [shsE, mkShs]
  | s :: ss, i, es, h => by
    rw [allK, nS_app] at h
    simp only [shsE, mkShs, List.map_cons, shE_flat i s _ (by omega), shsE_flat ss _ _ (by omega), List.map_take, List.map_drop]

theorem resE_flat {e : Env} {mk : Nat → SC} (i : Nat) (rs : List Sh) (es : List E) (h : nS (allK rs) = 0) : (resE mk i rs es).den e = mkRes rs (es.map (E.den e.R e.r)) := by
  unfold resE mkRes
  rw [← shsE_flat (e := e) (mk := mk) rs i es h]
  match shsE mk i rs es with
  | [] => rfl
  | [x] => rfl
  | x :: y :: l => rfl

theorem evM {m g : Nat} {x : Operand} {mem : List Blk} {rows : List Row} {fl flr : Nat} (h : (s.ev x).scp m g = true) : ({ s with fr := maskFr m g s.fr, mem := mem, rows := rows, fl := fl, flr := flr } : St).ev x = s.ev x := by
  cases x with
  | tmp t =>
    show (maskFr m g s.fr).getD t undefS = s.fr.getD t undefS
    have h' : (s.fr.getD t undefS).scp m g = true := h
    unfold maskFr
    simp only [List.getD, List.getElem?_map] at h' ⊢
    cases hx : s.fr[t]? with
    | none => rfl
    | some v =>
      rw [hx] at h'
      simp only [Option.getD_some] at h'
      simp [h']
  | const v => rfl
  | global v => rfl
  | func v => rfl

theorem preT_step {X : Nat → Prop} (hG : Gok P Γ) {ih : Code → St → Kont → T} (hih : IH P Γ ih) (h0 : Rep e0 W0 s0 w0) (hX : XOK e0 W0 s0 X) (h : Lex s0 e0 a0 ops i ents s r al) {o : Oper} (ho : ops[i]? = some o)
    (hu : ∀ j t, j < i → (ops[j]?).bind (·.dst) = some t → (ops[i]?).bind (·.dst) ≠ some t) (hdl : ∀ d, o.dst = some d → d < s0.fr.length) {k : St → T}
    (hs : (preT P Γ ih s0 o s k).sat Γ e0.R Ψ bs r) :
    ∃ ent s' r' al', Lex s0 e0 a0 ops (i + 1) (upd ents i ent) s' r' al' ∧ (k s').sat Γ e0.R Ψ bs r' ∧ (ent.obj = none → ∀ n, ent.val n = ent.val 0) ∧
      (∀ x ∈ o.op.operands, (s.ev x).scp s0.mem.length s0.rows.length = true) ∧
      ∀ (act : Act) (w : World), Cls w0 X w → (∀ x ∈ o.op.operands, act.eval x = (s.ev x).den (e0.at r)) → BehW P w0 X o ent act w := by
  unfold preT at hs
  dsimp only at hs
  split at hs
  · exact hs.elim
  · rename_i hops
    have hops' : ∀ x ∈ o.op.operands, (s.ev x).scp s0.mem.length s0.rows.length = true := by
      intro x hx
      simp only [Bool.not_eq_true', Bool.not_eq_false] at hops
      exact List.all_eq_true.1 hops x (by simpa using hx)
    -- a value, and no new block
    have plain : ∀ {as : List B} {v : SV} {s' : St}, op1 P { s with fr := maskFr s0.mem.length s0.rows.length s.fr, mem := s0.mem, rows := s0.rows, fl := s0.mem.length, flr := s0.rows.length } o = some (as, v, s') → v.scp s0.mem.length s0.rows.length = true → (asrts as (k (s.put o.dst v))).sat Γ e0.R Ψ bs r →
        ∃ ent s' r' al', Lex s0 e0 a0 ops (i + 1) (upd ents i ent) s' r' al' ∧ (k s').sat Γ e0.R Ψ bs r' ∧ (ent.obj = none → ∀ n, ent.val n = ent.val 0) ∧
          (∀ x ∈ o.op.operands, (s.ev x).scp s0.mem.length s0.rows.length = true) ∧
          ∀ (act : Act) (w : World), Cls w0 X w → (∀ x ∈ o.op.operands, act.eval x = (s.ev x).den (e0.at r)) → BehW P w0 X o ent act w := by
      intro as v s' h1 hv hs
      obtain ⟨has, hs'⟩ := asrts_sat hs
      refine ⟨⟨fun _ => v.den (e0.at r), none⟩, _, r, al, h.put ho hu hdl hv, hs', fun _ _ => rfl, hops', ?_⟩
      intro act w hw hev K Q hK
      have hrep := h.rep h0 hX hw (maskFr s0.mem.length s0.rows.length s.fr)
      obtain ⟨_, _, _, _, _, _, e', w', nx, hr, hnx, hrep', hle, hr', hR', hω', _⟩ := op1_sound h1 hrep (fun x hx => (hev x hx).trans (congrArg (SV.den (e0.at r)) (evM (hops' x hx)).symm)) has
      have hlike := at_like hle hr' hR' hω' h0
      rw [SV.den_like hlike v hv] at hnx
      exact wp_of_value hr hnx (hK w' (hw.grow hrep'.below.below) hrep'.below.below)
    split at hs
    · rename_i c hoc
      split at hs
      · rename_i F hcal
        split at hs
        · rename_i fn caps hF
          split at hs
          · exact hs.elim
          · rename_i hcond
            simp only [Bool.or_eq_true, Bool.not_eq_true', not_or, Bool.not_eq_false] at hcond
            obtain ⟨hargsc, hcl⟩ := hcond
            have hoper : o.op.operands = #[F] ++ c.args := by rw [hoc]; simp [Op.operands, Call.operands, hcal]
            have hrun : ∀ (act : Act) (w : World), (∀ x ∈ o.op.operands, act.eval x = (s.ev x).den (e0.at r)) → (execOp act.eval o).run P w = .ok (.enter fn ((c.args.toList.map s.ev ++ caps.map fun p => one (.p p.1 p.2)).map (SV.den (e0.at r))).toArray) w := by
              intro act w hev
              have hevF : act.eval F = .func (.func fn) #[] ((caps.map fun p => one (.p p.1 p.2)).map (SV.den (e0.at r))).toArray := by
                rw [hev F (by rw [hoper]; simp), hF]
                simp [SV.den, SW.den, SC.den, one, Function.comp_def]
              rw [run_enter hcl hoc hcal hevF w]
              congr 2
              apply Array.ext'
              simp only [Array.toList_append, Array.toList_map, List.map_append, List.map_map]
              congr 1
              exact List.map_congr_left fun x hx => hev x (by rw [hoper]; simp; exact .inr (by simpa using hx))
            have fin : ∀ {v : Value}, (∀ w, Cls w0 X w → Calls P fn ((c.args.toList.map s.ev ++ caps.map fun p => one (.p p.1 p.2)).map (SV.den (e0.at r))).toArray w fun x w' => x = .returned v ∧ Below w.heap.size w w') →
                ∀ (act : Act) (w : World), Cls w0 X w → (∀ x ∈ o.op.operands, act.eval x = (s.ev x).den (e0.at r)) → BehW P w0 X o ⟨fun _ => v, none⟩ act w := by
              intro v hc act w hw hev K Q hK
              unfold Oper.wp
              rw [hrun act w hev]
              simp only [Oper.upon_enter]
              refine (hc w hw).mono ?_
              rintro x w' ⟨rfl, hb⟩
              exact hK w' (hw.grow hb) hb
            split at hs
            · rename_i g sum hfs
              obtain ⟨hfn, j, rfl, hg⟩ := findSum_spec hfs
              simp only [Nat.zero_add] at hs
              split at hs
              · exact hs.elim
              · rename_i hsc
                simp only [Bool.or_eq_true, Bool.not_eq_true', not_or, Bool.not_eq_false, decide_eq_true_eq, Decidable.not_not, ne_eq] at hsc
                obtain ⟨⟨⟨hsc, hgl⟩, hns⟩, hmn⟩ := hsc
                have hmn : sum.m = none := by
                  cases hh : sum.m with
                  | none => rfl
                  | some f => rw [hh] at hmn; simp at hmn
                have hglw : ∀ w, Cls w0 X w → GlOK sum.gl w := fun w hw => glIn_ok hgl (by rw [h.gl]; exact (h0.cls hX hw).glw)
                split at hs
                · rename_i as es hfl
                  obtain ⟨has, hs⟩ := asrts_sat hs
                  simp only [T.sat, hg] at hs
                  obtain ⟨hpre, hs⟩ := hs
                  have hargs : ∀ w, Cls w0 X w → ShsR (fun _ ks u n => SlN w ks u n) sum.ps ((c.args.toList.map s.ev ++ caps.map fun p => one (.p p.1 p.2)).map (SV.den (e0.at r))) (es.map (E.den e0.R r)) := fun w hw => (flats_ok (h.rep h0 hX hw _) hfl has).2
                  have hA := hG sum (List.mem_of_getElem? hg)
                  unfold Sum.okA at hA
                  rw [hmn] at hA
                  obtain ⟨_, hok⟩ := hA
                  have hl : (sum.sem (es.map (E.den e0.R r))).length = total sum.rs := (hok (es.map (E.den e0.R r)) _ w0 (hglw w0 (Cls.refl _ _)) (hargs w0 (Cls.refl _ _)) hpre).1
                  have hlex := h.more hsc (sum.sem (es.map (E.den e0.R r)))
                  rw [hl] at hlex
                  have hres : (resE ownG 0 sum.rs (varsFrom s.nv (total sum.rs))).den (e0.at (r ++ sum.sem (es.map (E.den e0.R r)))) = mkRes sum.rs (sum.sem (es.map (E.den e0.R r))) := by
                    rw [resE_flat _ _ _ hns, h.nv]
                    congr 1
                    exact varsFrom_den hl
                  have hput := hlex.put ho hu hdl (resE_scp _ _ (mk := ownG) 0 sum.rs (varsFrom s.nv (total sum.rs)) hns)
                  rw [hres] at hput
                  refine ⟨_, _, _, al, hput, hs, fun _ _ => rfl, hops', fin ?_⟩
                  intro w hw
                  rw [← hfn]
                  refine (hok (es.map (E.den e0.R r)) _ w (hglw w hw) (hargs w hw) hpre).2.mono ?_
                  rintro x w' ⟨v, rfl, hv, hb⟩
                  exact ⟨by rw [ResOK_flat hns hv], hb⟩
                · exact hs.elim
            · split at hs
              · rename_i Fn hFn
                split at hs
                · rename_i body rs hb hrs
                  obtain ⟨es, hk, hT⟩ := bindT_sat hs
                  split at hk
                  · rename_i hes
                    simp only [Bool.and_eq_true, decide_eq_true_eq] at hes
                    have hput := h.put ho hu hdl (resE_scp _ _ (mk := ownG) 0 rs es hes.2)
                    rw [resE_flat _ _ _ hes.2] at hput
                    refine ⟨_, _, _, al, hput, hk, fun _ _ => rfl, hops', fin ?_⟩
                    intro w hw
                    have hrep := h.rep h0 hX hw s.fr
                    refine (calls_done (Ψ := fun ys => ys = es.map (E.den e0.R r)) (bs := List.replicate s.dp (fun _ => True)) hih hrep (by simp) hFn hb (hT _ _ rfl)).mono ?_
                    rintro x w' ⟨ys, v, rfl, rfl, hv, hbel⟩
                    exact ⟨by rw [ResOK_flat hes.2 hv]; rfl, hbel.below⟩
                  · exact hk.elim
                · exact hs.elim
              · exact hs.elim
        · exact hs.elim
      · exact hs.elim
      · split at hs
        · rename_i as v s' h1
          split at hs
          · rename_i hv
            exact plain h1 hv hs
          · exact hs.elim
        · exact hs.elim
      · exact hs.elim
    · exact hs.elim
    · split at hs
      · rename_i as v s' h1
        obtain ⟨has, hs'⟩ := asrts_sat hs
        split at hs'
        · split at hs'
          · rename_i hv
            refine ⟨⟨fun _ => v.den (e0.at r), none⟩, _, r, al, h.put ho hu hdl hv, hs', fun _ _ => rfl, hops', ?_⟩
            intro act w hw hev K Q hK
            have hrep := h.rep h0 hX hw (maskFr s0.mem.length s0.rows.length s.fr)
            obtain ⟨_, _, _, _, _, _, e', w', nx, hr, hnx, hrep', hle, hr', hR', hω', _⟩ := op1_sound h1 hrep (fun x hx => (hev x hx).trans (congrArg (SV.den (e0.at r)) (evM (hops' x hx)).symm)) has
            have hlike := at_like hle hr' hR' hω' h0
            rw [SV.den_like hlike v hv] at hnx
            exact wp_of_value hr hnx (hK w' (hw.grow hrep'.below.below) hrep'.below.below)
          · exact hs'.elim
        · rename_i b hdrop
          split at hs'
          · rename_i hbc
            simp only [Bool.and_eq_true] at hbc
            have hblen : s'.mem.length = s0.mem.length + 1 ∧ s'.mem[s0.mem.length]? = some b := by
              have h2 : s'.mem[s0.mem.length]? = some b := by
                have := congrArg (fun l => l[0]?) hdrop
                simpa using this
              have h3 := congrArg List.length hdrop
              simp only [List.length_drop, List.length_cons, List.length_nil] at h3
              exact ⟨by omega, h2⟩
            have gen : ∀ {mk : Nat → SC} {val : Nat → Value}, ((∀ n, mk n = .p n 0) ∨ ∃ l c, ∀ n, mk n = .s n 0 l c) → (∀ (e : Env) n, (mk n).den e = val (e.β.getD n 0)) → v = one (mk s0.mem.length) →
                (k (({ s with mem := s.mem ++ [b] } : St).put o.dst (one (mk s.mem.length)))).sat Γ e0.R Ψ bs r →
                ∃ ent s' r' al', Lex s0 e0 a0 ops (i + 1) (upd ents i ent) s' r' al' ∧ (k s').sat Γ e0.R Ψ bs r' ∧ (ent.obj = none → ∀ n, ent.val n = ent.val 0) ∧
                  (∀ x ∈ o.op.operands, (s.ev x).scp s0.mem.length s0.rows.length = true) ∧
                  ∀ (act : Act) (w : World), Cls w0 X w → (∀ x ∈ o.op.operands, act.eval x = (s.ev x).den (e0.at r)) → BehW P w0 X o ent act w := by
              intro mk val hmk hval hv hs
              refine ⟨_, _, r, _, h.new ho hu hdl hbc.1 hbc.2 hmk hval, hs, fun hh => (by cases hh), hops', ?_⟩
              intro act w hw hev K Q hK
              have hrep := h.rep h0 hX hw (maskFr s0.mem.length s0.rows.length s.fr)
              obtain ⟨_, _, _, hfl, _, _, e', w', nx, hr, hnx, hrep', hle, hr', hR', hω', _⟩ := op1_sound h1 hrep (fun x hx => (hev x hx).trans (congrArg (SV.den (e0.at r)) (evM (hops' x hx)).symm)) has
              have hlike := at_like hle hr' hR' hω' h0
              have hblk := hrep'.blk _ b hblen.2 hbc.1
              have hown : w.heap.size ≤ e'.β.getD s0.mem.length 0 := (hrep'.own _ b hblen.2 hbc.1 (by rw [hfl]; exact Nat.le_refl _)).elim id (fun hh => hh.elim)
              rw [map_den_like hlike hbc.2] at hblk
              have hvd : v.den e' = val (e'.β.getD s0.mem.length 0) := by rw [hv]; exact hval e' _
              rw [hvd] at hnx
              exact wp_of_value hr hnx (hK _ w' (hw.grow hrep'.below.below) hrep'.below.below hown hblk)
            split at hs'
            · rename_i n
              split at hs'
              · rename_i hn
                subst hn
                exact gen (mk := fun n => .p n 0) (val := fun n => .pointer (some ⟨n, 0, none⟩)) (.inl fun _ => rfl) (fun _ _ => rfl) rfl hs'
              · exact hs'.elim
            · rename_i n l c
              split at hs'
              · rename_i hn
                subst hn
                exact gen (mk := fun n => .s n 0 l c) (val := fun n => .slice (some ⟨n, 0, none⟩) l c) (.inr ⟨l, c, fun _ => rfl⟩) (fun _ _ => rfl) rfl hs'
              · exact hs'.elim
            · exact hs'.elim
          · exact hs'.elim
        · exact hs'.elim
      · exact hs.elim
end
end Go.Sx
namespace Go.Sx
open Go.RowKit

section
variable {P : Program} {Γ : List Sum} {Ψ : List Int → Prop} {bs : List (List Int → Prop)} {ops : Array Oper}
variable {s0 : St} {e0 : Env} {a0 : Array Value} {W0 : Bas} {w0 : World}

theorem fork_den {s : St} {r : List Int} {x : List SV} (hx : x = s.fr ∨ ∃ t b v, slotB s t = some b ∧ b.den e0.R r = v ∧ x = s.fr.set t (one (.b (.c v)))) (t : Nat) :
    (x.getD t undefS).den (e0.at r) = (s.fr.getD t undefS).den (e0.at r) ∧ ((∃ b, s.fr.getD t undefS = one (.b b)) → ∃ b, x.getD t undefS = one (.b b)) := by
  rcases hx with rfl | ⟨t', b, v, hb, hv, rfl⟩
  · exact ⟨rfl, id⟩
  · obtain ⟨ht, hs⟩ := slotB_spec hb
    rw [getD_set_fr]
    split
    · rename_i hc
      obtain ⟨rfl, _⟩ := hc
      refine ⟨?_, fun _ => ⟨_, rfl⟩⟩
      rw [hs]
      show Value.bool v = Value.bool (b.den e0.R r)
      rw [hv]
    · exact ⟨rfl, id⟩

theorem looks_operand {o : Oper} {t : Tmp} (h : .tmp t ∈ o.op.operands) : t ∈ o.looksAt ops :=
  List.mem_append_left _ (List.mem_filterMap.2 ⟨.tmp t, by simpa using h, rfl⟩)

theorem looks_guard {o : Oper} {j : Nat} {want : Bool} {t : Tmp} (hg : o.guard = some (j, want)) (hd : (ops[j]?).bind (·.dst) = some t) : t ∈ o.looksAt ops := by
  refine List.mem_append_right _ ?_
  simp [hg, hd]

theorem wantedS_beh {s : St} {o : Oper} {x : Bool} (hw : wantedS ops s o = some x) : (o.guard = none ∧ x = true) ∨ ∃ j want t y, o.guard = some (j, want) ∧ (ops[j]?).bind (·.dst) = some t ∧ (s.fr.getD t undefS = one (.b (.c y)) ∧ x = (y == want) ∨ s.fr.getD t undefS = undefS ∧ x = false) := by
  unfold wantedS at hw
  split at hw
  · rename_i hg
    exact .inl ⟨hg, by simpa using hw.symm⟩
  · rename_i j want hg
    split at hw
    · rename_i t ht
      split at hw
      · split at hw
        · rename_i y hy
          simp only [Option.some.injEq] at hw
          exact .inr ⟨j, want, t, y, hg, ht, .inl ⟨hy, hw.symm⟩⟩
        · rename_i hy
          simp only [Option.some.injEq] at hw
          exact .inr ⟨j, want, t, true, hg, ht, .inr ⟨hy, hw.symm⟩⟩
        · cases hw
      · cases hw
    · cases hw

structure Twins (sf s0 : St) : Prop where
  len : sf.mem.length = s0.mem.length
  rows : sf.rows = s0.rows
  fr : sf.fr = s0.fr
  nx : sf.nx = s0.nx
  fl : sf.fl = s0.fl
  flr : sf.flr = s0.flr
  gl : sf.gl = s0.gl
  hs : sf.hs = s0.hs
  dp : sf.dp = s0.dp
  cells : ∀ b ∈ sf.mem, ∃ b' ∈ s0.mem, b.cells = b'.cells

theorem Lex.swap {sf : St} {i : Nat} {ents : Nat → Ent} {s : St} {r : List Int} {al : List Nat} (ht : Twins sf s0) (h : Lex s0 e0 a0 ops i ents s r al) : Lex sf e0 a0 ops i ents (swapM sf s0 s) r al := by
  obtain ⟨news, hm, hn⟩ := h.mem
  have hd : s.mem.drop s0.mem.length = news := by rw [hm]; simp
  refine ⟨h.ext, h.nv, h.nx.trans ht.nx.symm, h.fl.trans ht.fl.symm, h.flr.trans ht.flr.symm, h.gl.trans ht.gl.symm, h.hs.trans ht.hs.symm, h.dp.trans ht.dp.symm, h.rows.trans ht.rows.symm, ⟨news, by show sf.mem ++ s.mem.drop s0.mem.length = _; rw [hd], hn⟩, by rw [ht.fr]; exact h.len, ?_, ?_, ?_, ?_, ?_, ?_, h.alAll, h.alND⟩
  · intro b hb
    obtain ⟨b', h1, h2⟩ := ht.cells b hb
    rw [h2]; exact h.memd b' h1
  · rw [ht.rows]; exact h.rowd
  · rw [ht.hs]; exact h.hsd
  · rw [ht.len, ht.rows]; exact h.slots
  · rw [ht.len, ht.rows]; exact h.nscp
  · intro j i' hj
    obtain ⟨h1, b, h2, h3⟩ := h.alOK j i' hj
    rw [ht.len, ht.rows]
    refine ⟨h1, b, ?_, h3⟩
    show (sf.mem ++ s.mem.drop s0.mem.length)[s0.mem.length + j]? = some b
    rw [List.getElem?_append_right (by rw [ht.len]; omega), List.getElem?_drop, ht.len]
    rw [show s0.mem.length + (s0.mem.length + j - s0.mem.length) = s0.mem.length + j by omega]
    exact h2

theorem Twins.symm' {sf : St} (ht : Twins sf s0) (hc : ∀ b ∈ s0.mem, ∃ b' ∈ sf.mem, b.cells = b'.cells) : Twins s0 sf :=
  ⟨ht.len.symm, ht.rows.symm, ht.fr.symm, ht.nx.symm, ht.fl.symm, ht.flr.symm, ht.gl.symm, ht.hs.symm, ht.dp.symm, hc⟩

theorem execPre_sound {X : Nat → Prop} (hG : Gok P Γ) {ih : Code → St → Kont → T} (hih : IH P Γ ih) (h0 : Rep e0 W0 s0 w0) (hX : XOK e0 W0 s0 X) {sf : St} {sg : Nat → Bool} (hf : Rep e0 W0 sf w0) (ht : Twins sf s0) (ht' : Twins s0 sf) {N : Nat}
    (hu : ∀ i j t, j < i → i < N → (ops[j]?).bind (·.dst) = some t → (ops[i]?).bind (·.dst) ≠ some t) (hdl : ∀ i o d, i < N → ops[i]? = some o → o.dst = some d → d < s0.fr.length) :
    ∀ (l : List Oper) (i : Nat), (∀ j, j < l.length → l[j]? = ops[i + j]?) → i + l.length = N → ∀ (ents : Nat → Ent) (s : St) (r : List Int) (al : List Nat) (k : St → T), Lex s0 e0 a0 ops i ents s r al →
      (∀ i', i' < i → PreOK P (fun w => Cls w0 (fun k => sg i' = false ∧ X k) w) ops ents a0 i') → (execPre P Γ ih ops sf s0 sg i l s k).sat Γ e0.R Ψ bs r →
      ∃ ents' s' r' al', Lex s0 e0 a0 ops N ents' s' r' al' ∧ (∀ i', i' < N → PreOK P (fun w => Cls w0 (fun k => sg i' = false ∧ X k) w) ops ents' a0 i') ∧ (k s').sat Γ e0.R Ψ bs r'
  | [], i, _, hN, ents, s, r, al, k, hl, hp, hs => by
    simp only [List.length_nil, Nat.add_zero] at hN
    subst hN
    exact ⟨ents, s, r, al, hl, hp, hs⟩
  | o :: l, i, hlo, hN, ents, s, r, al, k, hl, hp, hs => by
    simp only [List.length_cons] at hN
    have ho : ops[i]? = some o := by have := hlo 0 (by simp); simpa using this.symm
    have hui : ∀ j t, j < i → (ops[j]?).bind (·.dst) = some t → (ops[i]?).bind (·.dst) ≠ some t := fun j t hj => hu i j t hj (by omega)
    have hdi : ∀ d, o.dst = some d → d < s0.fr.length := fun d => hdl i o d (by omega) ho
    have hlo' : ∀ j, j < l.length → l[j]? = ops[i + 1 + j]? := fun j hj => by
      have := hlo (j + 1) (by simp; omega)
      simpa [Nat.add_assoc, Nat.add_comm 1 j] using this
    simp only [execPre] at hs
    obtain ⟨x, hs1, hx⟩ := forkO_sat' hs
    have hl1 := hl.fork hx
    split at hs1
    · rename_i hw
      obtain ⟨y, hs2, hy⟩ := forkO_sat' hs1
      have hl2 := hl1.fork hy
      have hstep : ∃ ent s' r' al', Lex s0 e0 a0 ops (i + 1) (upd ents i ent) s' r' al' ∧ (execPre P Γ ih ops sf s0 sg (i + 1) l s' k).sat Γ e0.R Ψ bs r' ∧ (ent.obj = none → ∀ n, ent.val n = ent.val 0) ∧
          (∀ x ∈ o.op.operands, (St.ev { s with fr := y } x).scp s0.mem.length s0.rows.length = true) ∧
          ∀ (act : Act) (w : World), Cls w0 (fun k => sg i = false ∧ X k) w → (∀ x ∈ o.op.operands, act.eval x = (St.ev { s with fr := y } x).den (e0.at r)) → BehW P w0 (fun k => sg i = false ∧ X k) o ent act w := by
        split at hs2
        · rename_i hsg
          have hXf : XOK e0 W0 sf (fun k => sg i = false ∧ X k) := ⟨fun _ _ _ _ h => by rw [hsg] at h; exact absurd h.1 (by simp), fun _ _ _ _ _ _ h => by rw [hsg] at h; exact absurd h.1 (by simp), fun _ h => by rw [hsg] at h; exact absurd h.1 (by simp)⟩
          obtain ⟨ent, s', r', al', hl3, hs3, hval, hopsc, hbeh⟩ := preT_step hG hih hf hXf (hl2.swap ht) ho hui (by rw [ht.fr]; exact hdi) hs2
          rw [ht.len, ht.rows] at hopsc
          exact ⟨ent, _, r', al', hl3.swap ht', hs3, hval, hopsc, hbeh⟩
        · rename_i hsg
          have hsg' : sg i = false := by simpa using hsg
          have hXX : (fun k => sg i = false ∧ X k) = X := by funext k; simp [hsg']
          obtain ⟨ent, s', r', al', hl3, hs3, hval, hopsc, hbeh⟩ := preT_step hG hih h0 hX hl2 ho hui hdi hs2
          exact ⟨ent, s', r', al', hl3, hs3, hval, hopsc, by rw [hXX]; exact hbeh⟩
      obtain ⟨ent, s', r', al', hl3, hs3, hval, hopsc, hbeh⟩ := hstep
      refine execPre_sound hG hih h0 hX hf ht ht' hu hdl l (i + 1) hlo' (by omega) (upd ents i ent) s' r' al' k hl3 ?_ hs3
      intro i' hi'
      by_cases hii : i' = i
      · subst hii
        refine ⟨o, ho, by rw [upd_self]; exact hval, o.looksAt ops, fun t => ((y.getD t undefS).den (e0.at r)), fun _ h => h, ?_, ?_⟩
        · intro t ht
          rw [lexv_congr (fun j hj => upd_ne _ _ _ (Nat.ne_of_lt hj))]
          refine hl2.slots t ?_
          simp only [Oper.looksAt, List.mem_append] at ht
          rcases ht with ht | ht
          · obtain ⟨op, hop, hopt⟩ := List.mem_filterMap.1 ht
            cases op with
            | tmp t' =>
              simp only [Option.some.injEq] at hopt
              subst hopt
              exact hopsc (.tmp t') (by simpa using hop)
            | _ => simp at hopt
          · rcases wantedS_beh hw with ⟨hg, _⟩ | ⟨j, want, t', yy, hg, hd, ⟨hsl, _⟩ | ⟨_, hf⟩⟩
            · rw [hg] at ht; simp at ht
            · rw [hg] at ht
              simp only [hd, Option.toList_some, List.mem_singleton] at ht
              subst ht
              obtain ⟨b, hb⟩ := (fork_den (e0 := e0) hy t).2 ⟨_, hsl⟩
              show (y.getD t undefS).scp _ _ = true
              rw [hb]
              rfl
            · cases hf
        · rw [upd_self]
          intro act w hCw _ _ hlook K Q hK
          have hwt : Region.wanted o (yielded ops act.tmps) = true := by
            unfold Region.wanted
            rcases wantedS_beh hw with ⟨hg, _⟩ | ⟨j, want, t', yy, hg, hd, ⟨hsl, hyy⟩ | ⟨_, hf⟩⟩
            · rw [hg]
            · rw [hg]
              have hb : act.tmps.getD t' undef = .bool yy := by
                rw [hlook t' (looks_guard hg hd)]
                show (y.getD t' undefS).den (e0.at r) = _
                rw [(fork_den (e0 := e0) hy t').1]
                show (x.getD t' undefS).den _ = _
                have : x.getD t' undefS = one (.b (.c yy)) := hsl
                rw [this]
                rfl
              simp only [yielded_asB, hd, Option.bind_some, hb, asB]
              have := hyy.symm
              simp only [beq_iff_eq] at this ⊢
              rw [this]
            · cases hf
          rw [if_pos hwt]
          refine hbeh act w hCw (fun op hop => ?_) K Q ?_
          · cases op with
            | tmp t => exact hlook t (looks_operand hop)
            | const v => simp [Act.eval, St.ev, SV.den]
            | global g => rfl
            | func f => rfl
          · cases hob : ent.obj with
            | none => rw [hob] at hK; exact hK
            | some ob => rw [hob] at hK; exact hK
      · exact (hp i' (by omega)).congr (fun j hj => upd_ne _ _ _ (by omega))
    · rename_i hw
      have hput := hl1.put ho hui hdi (v := undefS) rfl
      refine execPre_sound hG hih h0 hX hf ht ht' hu hdl l (i + 1) hlo' (by omega) _ _ r al k hput ?_ hs1
      intro i' hi'
      by_cases hii : i' = i
      · subst hii
        rcases wantedS_beh hw with ⟨_, hf⟩ | ⟨j, want, t', yy, hg, hd, hor⟩
        · cases hf
        · have hsl' : x.getD t' undefS = one (.b (.c yy)) ∧ false = (yy == want) ∨ x.getD t' undefS = undefS := by
            rcases hor with h | h
            · exact .inl h
            · exact .inr h.1
          refine ⟨o, ho, by rw [upd_self]; exact fun _ _ => rfl, [t'], fun t => (x.getD t undefS).den (e0.at r), fun t ht => by simp only [List.mem_singleton] at ht; subst ht; exact looks_guard hg hd, ?_, ?_⟩
          · intro t ht
            simp only [List.mem_singleton] at ht
            subst ht
            rw [lexv_congr (fun j hj => upd_ne _ _ _ (Nat.ne_of_lt hj))]
            refine hl1.slots t ?_
            show (x.getD t undefS).scp _ _ = true
            rcases hsl' with ⟨hsl', _⟩ | hsl' <;> rw [hsl'] <;> rfl
          · rw [upd_self]
            intro act w hCw _ _ hlook K Q hK
            have hwt : ¬ Region.wanted o (yielded ops act.tmps) = true := by
              unfold Region.wanted
              rw [hg]
              have hb0 : act.tmps.getD t' undef = (x.getD t' undefS).den (e0.at r) := hlook t' (by simp)
              rcases hsl' with ⟨hsl', hyy⟩ | hsl'
              · have hb : act.tmps.getD t' undef = .bool yy := by rw [hb0, hsl']; rfl
                simp only [yielded_asB, hd, Option.bind_some, hb, asB]
                intro hh
                simp only [beq_iff_eq, Option.some.injEq] at hh
                subst hh
                simp at hyy
              · have hb : act.tmps.getD t' undef = undef := by rw [hb0, hsl']; rfl
                simp only [yielded_asB, hd, Option.bind_some, hb]
                intro hh
                have : asB undef = none := rfl
                rw [this] at hh
                cases hh
            rw [if_neg hwt]
            exact hK w hCw (Below.refl _ _)
      · exact (hp i' (by omega)).congr (fun j hj => upd_ne _ _ _ (by omega))
    · exact hs1.elim

theorem SC.scp_of_sc {nv nb ng : Nat} : ∀ {c : SC}, c.sc nv nb ng = true → c.scp nb ng = true := SC.sc_scp
theorem SW.scp_of_sc {nv nb ng : Nat} : ∀ {c : SW}, c.sc nv nb ng = true → c.scp nb ng = true := by
  intro c h
  cases c with
  | o c => exact SC.scp_of_sc h
  | a cs => exact List.all_eq_true.2 fun x hx => SC.scp_of_sc (List.all_eq_true.1 h x hx)
theorem SV.scp_of_sc {nv nb ng nx : Nat} : ∀ {c : SV}, c.sc nv nb ng nx = true → c.scp nb ng = true := SV.sc_scp
theorem St.scp_of_sc {s : St} (h : s.sc = true) : s.scp = true := St.sc_scp h

theorem killB_get (D : List Nat) : ∀ (l : List Blk) (k n : Nat), (killB D k l)[n]? = (l[n]?).map fun b => if D.contains (k + n) then { b with live := false } else b
  | [], k, n => by simp [killB]
  | b :: l, k, 0 => by simp [killB]
  | b :: l, k, n + 1 => by
    simp only [killB, List.getElem?_cons_succ]
    rw [killB_get D l (k + 1) n]
    simp only [Nat.add_assoc, Nat.add_comm 1 n]

theorem killB_some {D : List Nat} {l : List Blk} {n : Nat} {b : Blk} (h : (killB D 0 l)[n]? = some b) : ∃ b', l[n]? = some b' ∧ b.ty = b'.ty ∧ b.cells = b'.cells ∧ (b.live = true → b'.live = true ∧ n ∉ D ∧ b = b') := by
  rw [killB_get, Option.map_eq_some_iff] at h
  obtain ⟨b', h1, rfl⟩ := h
  refine ⟨b', h1, ?_⟩
  simp only [Nat.zero_add]
  split
  · exact ⟨rfl, rfl, fun h => by cases h⟩
  · rename_i hn
    exact ⟨rfl, rfl, fun h => ⟨h, by simpa using hn, rfl⟩⟩

theorem killB_length (D : List Nat) : ∀ (l : List Blk) (k : Nat), (killB D k l).length = l.length
  | [], _ => rfl
  | _ :: l, k => by simp [killB, killB_length D l (k + 1)]

theorem Rep.killM {e : Env} {sB : St} {w : World} (h : Rep e W0 sB w) (D : List Nat) : Rep e W0 { sB with mem := killB D 0 sB.mem } w := by
  refine ⟨h.below, by simp [killB_length, h.nb], h.ng, h.nv, h.nx, ?_, ?_, ?_, h.row, h.rown, h.rsep, ?_, h.gl, h.arg⟩
  · intro n b hb hl
    obtain ⟨b', h1, _, _, h4⟩ := killB_some hb
    obtain ⟨h5, _, rfl⟩ := h4 hl
    exact h.blk n b h1 h5
  · intro n b hb hl
    obtain ⟨b', h1, _, _, h4⟩ := killB_some hb
    obtain ⟨h5, _, rfl⟩ := h4 hl
    exact h.own n b h1 h5
  · intro n m b c hb hc hlb hlc
    obtain ⟨b', h1, _, _, h4⟩ := killB_some hb
    obtain ⟨h5, _, rfl⟩ := h4 hlb
    obtain ⟨c', h1', _, _, h4'⟩ := killB_some hc
    obtain ⟨h5', _, rfl⟩ := h4' hlc
    exact h.sep n m b c h1 h1' h5 h5'
  · intro n m b c hb hc hlb hlc
    obtain ⟨b', h1, _, _, h4⟩ := killB_some hb
    obtain ⟨h5, _, rfl⟩ := h4 hlb
    exact h.brs n m b c h1 hc h5 hlc

theorem Lex.done {N : Nat} {X : Nat → Prop} {sB : St} {ents : Nat → Ent} {s : St} {r : List Int} {al : List Nat} (h : Lex s0 e0 a0 ops N ents s r al) (hB : Rep e0 W0 sB w0) (h0 : Rep e0 W0 s0 w0) (hX : XOK e0 W0 s0 X)
    (hsB : sB.mem.length = s0.mem.length ∧ sB.rows = s0.rows ∧ sB.fl = s0.fl ∧ sB.flr = s0.flr) (ha0 : a0.size = s0.fr.length)
    (huniq : ∀ i j t, i < N → j < N → (ops[i]?).bind (·.dst) = some t → (ops[j]?).bind (·.dst) = some t → i = j)
    (hval : ∀ i, i < N → (ents i).obj = none → ∀ n, (ents i).val n = (ents i).val 0)
    {act : Act} {w : World} {γ : Nat → Nat} (hw : Cls w0 X w) (hd : act.defers = []) (hsz : act.tmps.size = a0.size)
    (hγ : ∀ i, i ∈ al → w0.heap.size ≤ γ i)
    (hγu : ∀ i j, i < N → j < N → (ents i).obj.isSome = true → (ents j).obj.isSome = true → γ i = γ j → i = j)
    (hslot : ∀ t, act.tmps.getD t undef = match writer ops N t with | some i => (ents i).val (γ i) | none => a0.getD t undef)
    {memF : List Blk} (hmF : memF.length = s.mem.length) (hlv : ∀ n (b : Blk), memF[n]? = some b → b.live = true → n < s0.mem.length → ∃ b', sB.mem[n]? = some b' ∧ b'.live = true)
    (hblk : ∀ n (b : Blk), memF[n]? = some b → b.live = true → w.heap[(e0.β ++ al.map γ).getD n 0]? = some (.cells (b.cells.map (SC.den { e0 with r := r, β := e0.β ++ al.map γ })).toArray b.ty (0, 0))) :
    Rel { e0 with r := r, β := e0.β ++ al.map γ } W0 { s with mem := memF } act w ∧ Env.le e0 { e0 with r := r, β := e0.β ++ al.map γ } := by
  obtain ⟨hsBm, hsBr, hsBf, hsBfr⟩ := hsB
  obtain ⟨x, hx⟩ := h.ext
  obtain ⟨news, hmem, hnl⟩ := h.mem
  have hml : s.mem.length = s0.mem.length + al.length := by rw [hmem]; simp [hnl]
  have hle : Env.le e0 { e0 with r := r, β := e0.β ++ al.map γ } := ⟨x, al.map γ, [], [], hx, rfl, by simp, by simp, rfl⟩
  have hlike : Env.like s0.mem.length s0.rows.length (e0.at r) { e0 with r := r, β := e0.β ++ al.map γ } :=
    ⟨rfl, rfl, rfl, fun n hn => getD_app_lt _ _ _ _ (by show n < e0.β.length; rw [h0.nb]; exact hn), fun _ _ => rfl⟩
  have hβnew : ∀ (j i' : Nat), al[j]? = some i' → (e0.β ++ al.map γ).getD (s0.mem.length + j) 0 = γ i' := by
    intro j i' hj
    rw [← h0.nb]
    simp [List.getD, List.getElem?_append_right, hj]
  have hβold : ∀ n, n < s0.mem.length → (e0.β ++ al.map γ).getD n 0 = e0.β.getD n 0 := fun n hn => hlike.β n hn
  have hcases : ∀ n (b : Blk), memF[n]? = some b → b.live = true → (n < s0.mem.length ∧ ∃ b', sB.mem[n]? = some b' ∧ b'.live = true) ∨ ∃ (j i' : Nat), n = s0.mem.length + j ∧ al[j]? = some i' := by
    intro n b hb hl
    rcases Nat.lt_or_ge n s0.mem.length with hn | hn
    · exact .inl ⟨hn, hlv n b hb hl hn⟩
    · have hlt := (List.getElem?_eq_some_iff.1 hb).1
      exact .inr ⟨n - s0.mem.length, al[n - s0.mem.length]'(by omega), by omega, List.getElem?_eq_getElem (by omega)⟩
  have hnewb : ∀ (j i' : Nat), al[j]? = some i' → i' < N ∧ w0.heap.size ≤ γ i' ∧ (ents i').obj.isSome = true := by
    intro j i' hj
    obtain ⟨h1, b, h2, _, h4, h5, _⟩ := h.alOK j i' hj
    exact ⟨h1, hγ i' (List.mem_of_getElem? hj), by rw [h5]; rfl⟩
  have hold : ∀ n (b : Blk), sB.mem[n]? = some b → b.live = true → e0.β.getD n 0 < w0.heap.size := fun n b hb hl => heap_lt (hB.blk n b hb hl)
  have hrw := h0.cls hX hw
  refine ⟨⟨⟨hrw.below, ?_, ?_, ?_, ?_, hblk, ?_, ?_, ?_, ?_, ?_, ?_, by show GlX s.gl W0; rw [h.gl]; exact h0.gl, ?_⟩, ?_, hd⟩, hle⟩
  · show (e0.β ++ al.map γ).length = memF.length
    simp [h0.nb, hml, hmF]
  · show e0.σ.length = s.rows.length
    rw [h.rows]; exact h0.ng
  · exact h.nv.symm
  · show e0.ω.length = s.nx
    rw [h.nx]; exact h0.nx
  · intro n b hb hl hfl
    rcases hcases n b hb hl with ⟨hn, b', hb', hl'⟩ | ⟨j, i', rfl, hj⟩
    · show W0.may ((e0.β ++ al.map γ).getD n 0)
      rw [hβold n hn]
      exact hB.own n b' hb' hl' (by rw [hsBf, ← h.fl]; exact hfl)
    · show W0.may ((e0.β ++ al.map γ).getD (s0.mem.length + j) 0)
      rw [hβnew j i' hj]
      obtain ⟨_, h3, _⟩ := hnewb j i' hj
      exact .inl (Nat.le_trans h0.below.size h3)
  · intro n m b c hb hc hlb hlc heq
    have heq' : (e0.β ++ al.map γ).getD n 0 = (e0.β ++ al.map γ).getD m 0 := heq
    rcases hcases n b hb hlb with ⟨hn, b', hb', hl'⟩ | ⟨j, i', rfl, hj⟩ <;> rcases hcases m c hc hlc with ⟨hm, c', hc', hl''⟩ | ⟨j', i'', rfl, hj'⟩
    · rw [hβold n hn, hβold m hm] at heq'
      exact hB.sep n m b' c' hb' hc' hl' hl'' heq'
    · rw [hβold n hn, hβnew j' i'' hj'] at heq'
      have := hold n b' hb' hl'
      obtain ⟨_, h3, _⟩ := hnewb j' i'' hj'
      omega
    · rw [hβold m hm, hβnew j i' hj] at heq'
      have := hold m c' hc' hl''
      obtain ⟨_, h3, _⟩ := hnewb j i' hj
      omega
    · rw [hβnew j i' hj, hβnew j' i'' hj'] at heq'
      obtain ⟨h1, _, h5⟩ := hnewb j i' hj
      obtain ⟨h1', _, h5'⟩ := hnewb j' i'' hj'
      have := hγu i' i'' h1 h1' h5 h5' heq'
      subst this
      have hjj : j = j' := by
        have hl1 := (List.getElem?_eq_some_iff.1 hj).1
        exact (List.getElem?_inj hl1 h.alND).1 (hj.trans hj'.symm)
      rw [hjj]
  · intro n b hb hl
    have hb' : s0.rows[n]? = some b := by rw [← h.rows]; exact hb
    have h1 := hrw.row n b hb' hl
    show RowOK w b.ty b.ks ((G.o n).val e0) (b.c.den e0.R r)
    rw [h.rowd b (List.mem_of_getElem? hb')]
    exact h1
  · intro n b hb hl hfl
    have hb' : s0.rows[n]? = some b := by rw [← h.rows]; exact hb
    exact h0.rown n b hb' hl (by rw [← h.flr]; exact hfl)
  · intro n m b c k hb hc
    have hb' : s0.rows[n]? = some b := by rw [← h.rows]; exact hb
    have hc' : s0.rows[m]? = some c := by rw [← h.rows]; exact hc
    exact h0.rsep n m b c k hb' hc'
  · intro n m b c hb hc hlb hlc
    have hc' : s0.rows[m]? = some c := by rw [← h.rows]; exact hc
    rcases hcases n b hb hlb with ⟨hn, b', hb', hl'⟩ | ⟨j, i', rfl, hj⟩
    · show rowBlk ((G.o m).val e0) ≠ some ((e0.β ++ al.map γ).getD n 0)
      rw [hβold n hn]
      exact hB.brs n m b' c hb' (by rw [hsBr]; exact hc') hl' hlc
    · show rowBlk ((G.o m).val e0) ≠ some ((e0.β ++ al.map γ).getD (s0.mem.length + j) 0)
      rw [hβnew j i' hj]
      intro hk
      have := (h0.row m c hc' hlc).blk_lt hk
      obtain ⟨_, h3, _⟩ := hnewb j i' hj
      omega
  · intro i ks c hi
    have hi' : s.hs[i]? = some (ks, c) := hi
    rw [h.hs] at hi'
    show SlX W0 ks ((G.a i).val e0) (c.den e0.R r)
    rw [show c.den e0.R r = c.den e0.R e0.r from h.hsd (ks, c) (List.mem_of_getElem? hi')]
    exact h0.arg i ks c hi'
  · have key : ∀ t, act.tmps.getD t undef = (s.fr.getD t undefS).den { e0 with r := r, β := e0.β ++ al.map γ } := by
      intro t
      rw [hslot t]
      cases hsc : (s.fr.getD t undefS).scp s0.mem.length s0.rows.length with
      | true =>
        rw [SV.den_like hlike _ hsc]
        have hl := h.slots t hsc
        unfold lexv at hl
        cases hwr : writer ops N t with
        | none =>
          rw [hwr] at hl
          simpa using hl
        | some j =>
          rw [hwr] at hl
          dsimp only at hl ⊢
          split at hl
          · rename_i hob
            rw [hval j (writer_some hwr).1 (by simpa using hob) (γ j)]
            simpa using hl
          · cases hl
      | false =>
        obtain ⟨j, i', hj, hdt⟩ := h.nscp t hsc
        obtain ⟨h1, b, h2, _, h4, h5, mk, h6, h7, h8⟩ := h.alOK j i' hj
        rw [writer_eq h1 hdt (fun k hk hkd => huniq k i' t hk h1 hkd hdt), h8 t hdt]
        show _ = (mk (s0.mem.length + j)).den _
        rw [h7]
        show _ = (ents i').val ((e0.β ++ al.map γ).getD (s0.mem.length + j) 0)
        rw [hβnew j i' hj]
    apply Array.ext'
    apply List.ext_getElem?
    intro t
    have hlen : act.tmps.toList.length = s.fr.length := by simp [hsz, ha0, h.len]
    by_cases ht : t < s.fr.length
    · have hk := key t
      show act.tmps.toList[t]? = (s.fr.map _)[t]?
      simp only [List.getElem?_map]
      rw [List.getElem?_eq_getElem (by omega), List.getElem?_eq_getElem ht]
      simp only [Option.map_some, Option.some.injEq]
      have h1 : act.tmps.getD t undef = act.tmps.toList[t]'(by omega) := by
        have : t < act.tmps.size := by rw [hsz, ha0, ← h.len]; exact ht
        simp [Array.getD, this]
      have h2 : s.fr.getD t undefS = s.fr[t] := by simp [List.getD, ht]
      rw [← h1, hk, h2]
    · show act.tmps.toList[t]? = (s.fr.map _)[t]?
      rw [List.getElem?_eq_none (by omega), List.getElem?_eq_none (by simp; omega)]
end
end Go.Sx
namespace Go.Sx
open Go.RowKit

section
variable {P : Program} {ops : Array Oper} {s0 sB : St} {e0 : Env} {a0 : Array Value} {W0 : Bas} {w0 : World} {ents : Nat → Ent} {s : St} {r : List Int} {al : List Nat} {X : List Nat} {m0 g0 : Nat}

structure Lt (P : Program) (X : List Nat) (m0 g0 : Nat) (o : Oper) (s s' : St) (t : TypeId) (ta : Tmp) (x : Operand) (n off : Nat) (y : SW) (b : Blk) : Prop where
  op : o.op = .store t (.tmp ta) x
  slot : s.fr.getD ta undefS = .w (.o (.p n off))
  ev : s.ev x = .w y
  blk : s.mem[n]? = some b
  guard : o.guard = none
  dst : o.dst = none
  at' : m0 ≤ n ∨ n ∈ X
  live : b.live = true
  info : (P.info? t).isSome = true
  fl : s.fl ≤ n
  size : y.cells.length = P.cellsOf t
  off' : off + y.cells.length ≤ b.cells.length
  one : y.cells.all SC.one = true
  scp : y.scp m0 g0 = true
  eq : s' = { s with mem := s.mem.set n { b with cells := setAt b.cells off y.cells } }

structure As (m0 g0 : Nat) (o : Oper) (s s' : St) (x : Operand) (d : Tmp) : Prop where
  op : o.op = .assign x
  dst : o.dst = some d
  guard : o.guard = none
  scp : (s.ev x).scp m0 g0 = true
  eq : s' = s

theorem lateS1_spec {o : Oper} {s s' : St} (h : lateS1 P X m0 g0 o s = some s') : (∃ t ta x n off y b, Lt P X m0 g0 o s s' t ta x n off y b) ∨ ∃ x d, As m0 g0 o s s' x d := by
  unfold lateS1 at h
  split at h
  · rename_i t ta x ho
    split at h
    · rename_i n off y hsl hev
      split at h
      · rename_i b hb
        split at h
        · rename_i hc
          simp only [Bool.and_eq_true, Bool.or_eq_true, decide_eq_true_eq, Option.isNone_iff_eq_none] at hc
          obtain ⟨⟨⟨⟨⟨⟨⟨⟨⟨h1, h2⟩, h3⟩, h4⟩, h5⟩, h6⟩, h7⟩, h8⟩, h9⟩, h10⟩ := hc
          simp only [Option.some.injEq] at h
          exact .inl ⟨t, ta, x, n, off, y, b, ⟨ho, hsl, hev, hb, h1, h2, h3.imp id (fun h => by simpa using h), h4, h5, h6, h7, h8, h9, h10, h.symm⟩⟩
        · cases h
      · cases h
    · cases h
  · rename_i x ho
    split at h
    · rename_i d hd
      split at h
      · rename_i hc
        simp only [Bool.and_eq_true, Option.isNone_iff_eq_none] at hc
        simp only [Option.some.injEq] at h
        exact .inr ⟨x, d, ho, hd, hc.1, hc.2, h.symm⟩
      · cases h
    · cases h
  · cases h

theorem lateS_states : ∀ {l : List Oper} {s s3 : St}, lateS P X m0 g0 l s = some s3 → ∃ st : Nat → St, st 0 = s ∧ st l.length = s3 ∧ ∀ c o, l[c]? = some o → lateS1 P X m0 g0 o (st c) = some (st (c + 1))
  | [], s, s3, h => by
    simp only [lateS, Option.some.injEq] at h
    exact ⟨fun _ => s, rfl, h, fun c o hc => by simp at hc⟩
  | o :: l, s, s3, h => by
    simp only [lateS] at h
    split at h
    · rename_i s' h1
      obtain ⟨st, h2, h3, h4⟩ := lateS_states h
      refine ⟨fun c => match c with | 0 => s | c + 1 => st c, rfl, h3, ?_⟩
      intro c oc hc
      cases c with
      | zero =>
        simp only [List.getElem?_cons_zero, Option.some.injEq] at hc
        subst hc
        show lateS1 P X m0 g0 o s = some (st 0)
        rw [h2]; exact h1
      | succ c => exact h4 c oc (by simpa using hc)
    · cases h

theorem late_same {l : List Oper} {st : Nat → St} (h : ∀ c o, l[c]? = some o → lateS1 P X m0 g0 o (st c) = some (st (c + 1))) : ∀ c, c ≤ l.length →
    st c = { st 0 with mem := (st c).mem } ∧ (st c).mem.length = (st 0).mem.length := by
  intro c
  induction c with
  | zero => intro _; exact ⟨rfl, rfl⟩
  | succ c ih =>
    intro hc
    obtain ⟨h1, h2⟩ := ih (by omega)
    rcases lateS1_spec (h c l[c] (List.getElem?_eq_getElem (by omega))) with ⟨t, ta, x, n, off, y, b, hl⟩ | ⟨x, d, hl⟩
    · rw [hl.eq]
      refine ⟨?_, by simpa using h2⟩
      rw [h1]
    · rw [hl.eq]
      exact ⟨h1, h2⟩

def tgtOf (s : St) (o : Oper) : Nat := match o.op with
  | .store _ (.tmp ta) _ => (match s.fr.getD ta undefS with
    | .w (.o (.p n _)) => n
    | _ => 0)
  | .assign _ => s.mem.length
  | _ => 0

theorem Lt.tgt {o : Oper} {s s' : St} {t : TypeId} {ta : Tmp} {x : Operand} {n off : Nat} {y : SW} {b : Blk} (h : Lt P X m0 g0 o s s' t ta x n off y b) : tgtOf s o = n := by
  unfold tgtOf
  rw [h.op]
  simp only [h.slot]

noncomputable def contOf (e : Env) (st : Nat → St) (n c : Nat) : Obj := match (st c).mem[n]? with
  | some b => .cells (b.cells.map (SC.den e)).toArray b.ty (0, 0)
  | none => .cells #[] 0 (0, 0)

noncomputable def lateD (ops : Array Oper) (m0 : Nat) (e : Env) (al : List Nat) (s : St) (Xa : Nat → Prop) (st : Nat → St) : LateD :=
  { nw := fun n => if n < m0 then none else al[n - m0]?, oldA := fun n => e.β.getD n 0, X := Xa, tgt := fun k => match ops[k]? with | some o => tgtOf s o | none => 0, cont := contOf e st }

theorem lateD_adr {m0 : Nat} {e : Env} {Xa : Nat → Prop} {st : Nat → St} (γ : Nat → Nat) (n : Nat) : (lateD ops m0 e al s Xa st).adr γ n = match (if n < m0 then none else al[n - m0]?) with | some i => γ i | none => e.β.getD n 0 := rfl

theorem writer_late {N1 M t : Nat} (h : ∀ k, N1 ≤ k → k < M → (ops[k]?).bind (·.dst) ≠ some t) (hM : N1 ≤ M) (hu : ∀ i j, i < M → j < M → (ops[i]?).bind (·.dst) = some t → (ops[j]?).bind (·.dst) = some t → i = j) : writer ops M t = writer ops N1 t := by
  cases hw : writer ops N1 t with
  | none =>
    cases hm : writer ops M t with
    | none => rfl
    | some j =>
      obtain ⟨h1, h2⟩ := writer_some hm
      rcases Nat.lt_or_ge j N1 with h3 | h3
      · exact absurd h2 (writer_none hw j h3)
      · exact absurd h2 (h j h3 h1)
  | some i =>
    obtain ⟨h1, h2⟩ := writer_some hw
    exact writer_eq (by omega) h2 (fun j hj hd => hu j i hj (by omega) hd h2)

theorem lateFr_len (s3 : St) : ∀ (l : List Oper) (fr : List SV), (lateFr s3 l fr).length = fr.length
  | [], _ => rfl
  | o :: l, fr => by
    unfold lateFr
    split
    · rw [lateFr_len s3 l]; simp
    · exact lateFr_len s3 l fr
theorem lateFr_not (s3 : St) {t : Nat} : ∀ (l : List Oper) (fr : List SV), (∀ o ∈ l, o.dst ≠ some t) → (lateFr s3 l fr).getD t undefS = fr.getD t undefS
  | [], _, _ => rfl
  | o :: l, fr, h => by
    unfold lateFr
    split
    · rename_i x d ho hd
      rw [lateFr_not s3 l _ fun o' ho' => h o' (List.mem_cons_of_mem _ ho'), getD_set_fr]
      have hne : ¬ t = d := by
        rintro rfl
        exact h o (List.mem_cons_self ..) hd
      rw [if_neg (fun hh => hne hh.1)]
    · exact lateFr_not s3 l fr fun o' ho' => h o' (List.mem_cons_of_mem _ ho')
theorem lateFr_at (s3 : St) {t : Nat} {x : Operand} : ∀ (l : List Oper) (fr : List SV) (c : Nat) (o : Oper), l[c]? = some o → o.op = .assign x → o.dst = some t → t < fr.length → (∀ j o', l[j]? = some o' → o'.dst = some t → j = c) → (lateFr s3 l fr).getD t undefS = s3.ev x
  | [], _, _, _, h, _, _, _, _ => by simp at h
  | o' :: l, fr, c, o, h, ho, hd, ht, hu => by
    cases c with
    | zero =>
      simp only [List.getElem?_cons_zero, Option.some.injEq] at h
      subst h
      unfold lateFr
      rw [ho, hd]
      dsimp only
      rw [lateFr_not s3 l _ (fun o1 h1 hd1 => by
        obtain ⟨j, hj⟩ := List.getElem?_of_mem h1
        have := hu (j + 1) o1 (by simpa using hj) hd1
        omega), getD_set_fr, if_pos ⟨rfl, ht⟩]
    | succ c =>
      simp only [List.getElem?_cons_succ] at h
      unfold lateFr
      have hu' : ∀ j o1, l[j]? = some o1 → o1.dst = some t → j = c := fun j o1 h1 h2 => by
        have := hu (j + 1) o1 (by simpa using h1) h2
        omega
      split
      · exact lateFr_at s3 l _ c o h ho hd (by simpa using ht) hu'
      · exact lateFr_at s3 l _ c o h ho hd ht hu'

theorem lateOK_of {N N1 : Nat} {Xa : Nat → Prop} (hlex : Lex s0 e0 a0 ops N1 ents s r al) (h0 : Rep e0 W0 s0 w0) (hval : ∀ i, i < N1 → (ents i).obj = none → ∀ n, (ents i).val n = (ents i).val 0)
    (huniq : ∀ i j t, i < N → j < N → (ops[i]?).bind (·.dst) = some t → (ops[j]?).bind (·.dst) = some t → i = j) (hN1 : N1 ≤ N)
    {c : Nat} {o : Oper} (hcN : N1 + c < N) (ho : ops[N1 + c]? = some o) {st : Nat → St} (hst : st c = { s with mem := (st c).mem })
    (hE : ∀ x d, As s0.mem.length s0.rows.length o (st c) (st (c + 1)) x d → ents (N1 + c) = ⟨fun _ => (s.ev x).den (e0.at r), none⟩)
    (hap : ∀ t ∈ o.looksAt ops, ∀ k, N1 ≤ k → k < N → (ops[k]?).bind (·.dst) ≠ some t) (h1 : lateS1 P X s0.mem.length s0.rows.length o (st c) = some (st (c + 1))) :
    LateOK P ops ents a0 N1 (lateD ops s0.mem.length (e0.at r) al s Xa st) (N1 + c) := by
  obtain ⟨news, hmem, hnl⟩ := hlex.mem
  have hml : s.mem.length = s0.mem.length + al.length := by rw [hmem]; simp [hnl]
  have hwl : ∀ t ∈ o.looksAt ops, writer ops (N1 + c) t = writer ops N1 t := fun t ht => writer_late (fun k h2 h3 => hap t ht k h2 (by omega)) (by omega) (fun i j hi hj => huniq i j t (by omega) (by omega))
  -- the value of a slot that is looked at
  have hsv' : ∀ (act : Act) (γ : Nat → Nat), (∀ t ∈ o.looksAt ops, act.tmps.getD t undef = match writer ops (N1 + c) t with | some j => (ents j).val (γ j) | none => a0.getD t undef) →
      ∀ t, t ∈ o.looksAt ops → (s.fr.getD t undefS).scp s0.mem.length s0.rows.length = true → act.tmps.getD t undef = (s.fr.getD t undefS).den (e0.at r) := by
    intro act γ hlook t ht hs
    rw [hlook t ht, hwl t ht]
    have hl := hlex.slots t hs
    unfold lexv at hl
    cases hw : writer ops N1 t with
    | none => rw [hw] at hl; simpa using hl
    | some j =>
      rw [hw] at hl
      dsimp only at hl ⊢
      split at hl
      · rename_i hob
        rw [hval j (writer_some hw).1 (by simpa using hob) (γ j)]
        simpa using hl
      · cases hl
  rcases lateS1_spec h1 with ⟨t, ta, x, n, off, y, b, hl⟩ | ⟨x, d, hl⟩
  case inr =>
    have hev : (st c).ev x = s.ev x := by rw [hst]; rfl
    have hsc : (s.ev x).scp s0.mem.length s0.rows.length = true := by rw [← hev]; exact hl.scp
    rw [LateOK]
    refine ⟨o, ho, .inr ?_⟩
    rw [hE x d hl]
    refine ⟨fun _ => rfl, fun n => ?_, fun act w γ hlook K Q hK => ?_⟩
    · rw [show N1 + c - N1 = c by omega]
      show contOf (e0.at r) st n (c + 1) = contOf (e0.at r) st n c
      unfold contOf
      rw [hl.eq]
    · have hwt : Region.wanted o (yielded ops act.tmps) = true := by unfold Region.wanted; rw [hl.guard]
      rw [if_pos hwt]
      have hx : act.eval x = (s.ev x).den (e0.at r) := by
        cases x with
        | tmp t' =>
          show act.tmps.getD t' undef = _
          exact hsv' act γ hlook t' (looks_operand (by rw [hl.op]; simp [Op.operands])) hsc
        | const v =>
          show _ = (SV.w (SW.ofV v)).den (e0.at r)
          simp [Act.eval, SV.den]
        | global g => rfl
        | func f => rfl
      have hrun : (execOp act.eval o).run P w = .ok (.value ((s.ev x).den (e0.at r))) w := by
        simp only [execOp, hl.op, hx]
        rfl
      unfold Oper.wp
      rw [hrun]
      exact hK
  have hslot : s.fr.getD ta undefS = .w (.o (.p n off)) := by have := hl.slot; rw [hst] at this; exact this
  have hev : s.ev x = .w y := by
    have := hl.ev
    rw [hst] at this
    exact this
  have htg : tgtOf s o = n := by
    unfold tgtOf
    rw [hl.op]
    simp only [hslot]
  refine ⟨o, ho, .inl ⟨hl.dst, ?_⟩⟩
  intro act w γ hlook hheap K Q hK
  have hcc : N1 + c - N1 = c := by omega
  have htgD : (lateD ops s0.mem.length (e0.at r) al s Xa st).tgt (N1 + c) = n := by
    unfold lateD
    simp only [ho, htg]
  rw [htgD, hcc] at hheap hK
  have hblk' : (st (c + 1)).mem[n]? = some { b with cells := setAt b.cells off y.cells } := by
    rw [hl.eq]
    have := (List.getElem?_eq_some_iff.1 hl.blk).1
    simp [this]
  have hc1 : (lateD ops s0.mem.length (e0.at r) al s Xa st).cont n c = .cells (b.cells.map (SC.den (e0.at r))).toArray b.ty (0, 0) := by
    unfold lateD contOf
    simp only [hl.blk]
  have hc2 : (lateD ops s0.mem.length (e0.at r) al s Xa st).cont n (c + 1) = .cells ((setAt b.cells off y.cells).map (SC.den (e0.at r))).toArray b.ty (0, 0) := by
    unfold lateD contOf
    simp only [hblk']
  rw [hc1] at hheap
  rw [hc2] at hK
  have hsv := hsv' act γ hlook
  have hta : ta ∈ o.looksAt ops := looks_operand (by rw [hl.op]; simp [Op.operands])
  have hadr : act.eval (.tmp ta) = .pointer (some ⟨(lateD ops s0.mem.length (e0.at r) al s Xa st).adr γ n, off, none⟩) := by
    show act.tmps.getD ta undef = _
    rw [lateD_adr]
    rcases Nat.lt_or_ge n s0.mem.length with hn | hn
    · simp only [hn, if_true]
      rw [hsv ta hta (by rw [hslot]; simpa [SV.scp, SW.scp, SC.scp] using hn), hslot]
      rfl
    · have hns : (s.fr.getD ta undefS).scp s0.mem.length s0.rows.length = false := by
        rw [hslot]; simpa [SV.scp, SW.scp, SC.scp] using hn
      obtain ⟨j, i', hj, hdt⟩ := hlex.nscp ta hns
      obtain ⟨h1, bb, h2, _, _, _, mk, h6, h7, h8⟩ := hlex.alOK j i' hj
      have hmk := h8 ta hdt
      rw [hslot] at hmk
      have hnj : n = s0.mem.length + j ∧ off = 0 := by
        rcases h6 with h6 | ⟨l, cc, h6⟩
        · rw [h6] at hmk
          simp only [one, SV.w.injEq, SW.o.injEq, SC.p.injEq] at hmk
          exact hmk
        · rw [h6] at hmk
          simp [one] at hmk
      obtain ⟨rfl, rfl⟩ := hnj
      simp only [Nat.not_lt_of_le (Nat.le_add_right _ _), if_false, Nat.add_sub_cancel_left, hj]
      rw [hlook ta hta, writer_eq (by omega) hdt (fun k hk hkd => huniq k i' ta (by omega) (by omega) hkd hdt)]
      dsimp only
      have hmkp : ∀ (n : Nat), mk n = .p n 0 := by
        rcases h6 with h6 | ⟨l, cc, h6⟩
        · exact h6
        · rw [h6] at hmk
          simp [one] at hmk
      have := h7 { e0 with β := List.replicate (s0.mem.length + j + 1) (γ i') } (s0.mem.length + j)
      rw [hmkp] at this
      simp only [SC.den, ownAddr] at this
      rw [show (List.replicate (s0.mem.length + j + 1) (γ i')).getD (s0.mem.length + j) 0 = γ i' by simp [List.getD]] at this
      exact this.symm
  have hx : act.eval x = y.den (e0.at r) := by
    cases x with
    | tmp t' =>
      have h2 : s.fr.getD t' undefS = .w y := hev
      show act.tmps.getD t' undef = _
      rw [hsv t' (looks_operand (by rw [hl.op]; simp [Op.operands])) (by rw [h2]; exact hl.scp), h2]
      rfl
    | const v =>
      have h2 : SV.w (SW.ofV v) = .w y := hev
      simp only [SV.w.injEq] at h2
      rw [← h2]
      simp [Act.eval]
    | global g =>
      have h2 : SV.w (.o (.l (.pointer (some ⟨g, 0, none⟩)))) = .w y := hev
      simp only [SV.w.injEq] at h2
      rw [← h2]
      rfl
    | func f =>
      have h2 : SV.w (.o (.f f [])) = .w y := hev
      simp only [SV.w.injEq] at h2
      rw [← h2]
      rfl
  generalize hgg : (lateD ops s0.mem.length (e0.at r) al s Xa st).adr γ n = g at *
  have hwt : Region.wanted o (yielded ops act.tmps) = true := by unfold Region.wanted; rw [hl.guard]
  rw [if_pos hwt]
  have hden1 : ∀ c : SC, c.one = true → c.scp s0.mem.length s0.rows.length = true → (c.den (e0.at r)).oneCell' = true := by
    intro cc h1 h2
    exact SC.den_one h1
  have hcells : (y.den (e0.at r)).cells = (y.cells.map (SC.den (e0.at r))).toArray := by
    cases y with
    | o cc =>
      have h1 := hl.one
      simp only [SW.cells, List.all_cons, List.all_nil, Bool.and_true] at h1
      simp only [SW.den, SW.cells, List.map_cons, List.map_nil]
      exact cells_of_one (hden1 cc h1 hl.scp)
    | a cs => rfl
  have hst' := run_storeCells_at P g off b.ty (y.cells.map (SC.den (e0.at r))) 0 _ w hheap (by simpa using hl.off') (fun u hu => by
    obtain ⟨cc, hc, rfl⟩ := List.mem_map.1 hu
    refine hden1 cc (List.all_eq_true.1 hl.one cc hc) ?_
    have hsc := hl.scp
    cases y with
    | o c' => simp only [SW.cells, List.mem_singleton] at hc; subst hc; exact hsc
    | a cs => exact List.all_eq_true.1 hsc cc hc)
  simp only [Nat.add_zero] at hst'
  have hrun : (execOp act.eval o).run P w = .ok .skip (w.setRow g ((setAt b.cells off y.cells).map (SC.den (e0.at r))).toArray) := by
    simp only [execOp, hl.op, hadr, hx, Instr.storeAt, Instr.sureAddr, Sem.run_bind, Sem.run_pure, Result.andThen_ok, storeVar, run_sizeOf' hl.info, Sem.run_ite]
    rw [hcells, if_neg (by simp [hl.size])]
    rw [hst']
    simp [setAt_den]
  unfold Oper.wp
  rw [hrun]
  have hput : act.put o.dst undef = act := by rw [hl.dst]; rfl
  show K (act.put o.dst undef) _
  rw [hput]
  refine hK _ ⟨rfl, rfl, rfl, by simp, fun k hk => setRow_other w g k _ hk, setRow_heap w g _ _ _ _ hheap⟩

theorem late_blk {l : List Oper} {st : Nat → St} (h : ∀ c o, l[c]? = some o → lateS1 P X m0 g0 o (st c) = some (st (c + 1))) : ∀ c, c ≤ l.length → ∀ (n : Nat) (b : Blk), (st c).mem[n]? = some b →
    (∃ b' : Blk, (st 0).mem[n]? = some b' ∧ b.ty = b'.ty ∧ b.live = b'.live) ∧ (n < m0 → n ∉ X → (st 0).mem[n]? = some b) ∧
    ((∀ (n : Nat) (b : Blk), (st 0).mem[n]? = some b → b.cells.all (SC.scp m0 g0) = true) → b.cells.all (SC.scp m0 g0) = true) := by
  intro c
  induction c with
  | zero => intro _ n b hb; exact ⟨⟨b, hb, rfl, rfl⟩, fun _ _ => hb, fun h => h n b hb⟩
  | succ c ih =>
    intro hc n b hb
    rcases lateS1_spec (h c l[c] (List.getElem?_eq_getElem (by omega))) with ⟨t, ta, x, n', off, y, b', hl⟩ | ⟨x, d, hl⟩
    case inr => rw [hl.eq] at hb; exact ih (by omega) n b hb
    rw [hl.eq] at hb
    rcases mem_set_cases hb with ⟨rfl, rfl, _⟩ | ⟨hne, hb'⟩
    · obtain ⟨h1, h2, h3⟩ := ih (by omega) n b' hl.blk
      refine ⟨h1, fun hn hx => ?_, fun hs => ?_⟩
      · rcases hl.at' with h | h
        · omega
        · exact absurd h hx
      · have h4 := h3 hs
        have h5 : y.cells.all (SC.scp m0 g0) = true := by
          have h6 := hl.scp
          cases y with
          | o cc => simpa [SW.cells, SW.scp] using h6
          | a cs => exact h6
        show (setAt b'.cells off y.cells).all (SC.scp m0 g0) = true
        unfold setAt
        rw [List.all_append, List.all_append, h5]
        have h7 : ∀ {q : List SC}, (∀ z ∈ q, z ∈ b'.cells) → q.all (SC.scp m0 g0) = true := fun hq => List.all_eq_true.2 fun z hz => List.all_eq_true.1 h4 z (hq z hz)
        rw [h7 (fun z hz => List.mem_of_mem_take hz), h7 (fun z hz => List.mem_of_mem_drop hz)]
        rfl
    · exact ih (by omega) n b hb'
end
end Go.Sx
namespace Go.Sx
open Go.RowKit

theorem B.same_eq : ∀ a b : B, a.same b = true → a = b
  | .c m, b, h => by cases b <;> simp [B.same] at h; rw [h]
  | .lt x y, b, h => by cases b <;> simp [B.same] at h; rw [E.same_eq x _ h.1, E.same_eq y _ h.2]
  | .le x y, b, h => by cases b <;> simp [B.same] at h; rw [E.same_eq x _ h.1, E.same_eq y _ h.2]
  | .eq x y, b, h => by cases b <;> simp [B.same] at h; rw [E.same_eq x _ h.1, E.same_eq y _ h.2]
  | .nz x, b, h => by cases b <;> simp [B.same] at h; rw [E.same_eq x _ h]
  | .not x, b, h => by cases b <;> simp [B.same] at h; rw [B.same_eq x _ h]
  | .and x y, b, h => by cases b <;> simp [B.same] at h; rw [B.same_eq x _ h.1, B.same_eq y _ h.2]
  | .beq x y, b, h => by cases b <;> simp [B.same] at h; rw [B.same_eq x _ h.1, B.same_eq y _ h.2]

section
variable {R : Fo} {r : List Int}

theorem hasLit_spec {g : B} : ∀ {w : B}, hasLit g w = true → w.den R r = true → g.den R r = true := by
  intro w
  induction w with
  | and a b iha ihb =>
    intro h hw
    simp only [hasLit, Bool.or_eq_true] at h
    rcases h with h | h | h
    · have := B.same_eq _ _ h
      subst this
      exact hw
    · simp only [B.den, Bool.and_eq_true] at hw
      exact iha h hw.1
    · simp only [B.den, Bool.and_eq_true] at hw
      exact ihb h hw.2
  | _ =>
    intro h hw
    have := B.same_eq _ _ h
    subst this
    exact hw

theorem implB_spec {w : B} : ∀ {g : B}, implB w g = true → w.den R r = true → g.den R r = true := by
  intro g
  induction g with
  | c b =>
    intro h hw
    cases b with
    | true => rfl
    | false => exact hasLit_spec h hw
  | and a b iha ihb =>
    intro h hw
    simp only [implB, Bool.and_eq_true] at h
    simp only [B.den, Bool.and_eq_true]
    exact ⟨iha h.1 hw, ihb h.2 hw⟩
  | _ => intro h hw; exact hasLit_spec h hw

theorem litB_den (c : B) (x : Bool) : (litB c x).den R r = (c.den R r == x) := by
  unfold litB
  cases x with
  | true => simp
  | false => simp [mkNot_den]

theorem pickB_den (c x y : B) : (pickB c x y).den R r = if c.den R r = true then x.den R r else y.den R r := by
  unfold pickB
  split <;> simp only [mkNot_den, mkAnd_den, B.den] <;> cases c.den R r <;> simp
end

variable {P : Program} {ops : Array Oper} {Γ : List Sum} {Ψ : List Int → Prop} {bs : List (List Int → Prop)}

structure SpR (e : Env) (W0 : Bas) (s : St) (pend : Pend) (a : Act) (w : World) : Prop where
  rep : Rep e W0 s w
  defs : a.defers = []
  size : a.tmps.size = s.fr.length
  slots : ∀ t, a.tmps.getD t undef = match lookP pend t with
    | some (g, x) => if g.den e.R e.r = true then x.den e else undef
    | none => (s.fr.getD t undefS).den e
  lt : ∀ p ∈ pend, p.1 < s.fr.length
  nd : pend.Pairwise fun p q => p.1 ≠ q.1

theorem lookP_none : ∀ {pend : Pend} {t : Nat}, lookP pend t = none → ∀ p ∈ pend, p.1 ≠ t
  | [], _, _, p, hp => by cases hp
  | (u, g, x) :: l, t, h, p, hp => by
    simp only [lookP] at h
    split at h
    · cases h
    · rename_i hu
      rcases List.mem_cons.1 hp with rfl | hp
      · exact hu
      · exact lookP_none h p hp
theorem lookP_none' : ∀ {pend : Pend} {t : Nat}, (∀ p ∈ pend, p.1 ≠ t) → lookP pend t = none
  | [], _, _ => rfl
  | (u, g, x) :: l, t, h => by
    simp only [lookP]
    rw [if_neg (h (u, g, x) (by simp))]
    exact lookP_none' fun p hp => h p (List.mem_cons_of_mem _ hp)

theorem underW_fr {s : St} {w : B} : ∀ {pend : Pend}, (∀ p ∈ pend, p.1 < s.fr.length) → (underW s pend w) = { s with fr := (underW s pend w).fr } ∧ (underW s pend w).fr.length = s.fr.length ∧
    ∀ t, (underW s pend w).fr.getD t undefS = match lookP pend t with
      | some (g, x) => if implB w g = true then .w x else undefS
      | none => s.fr.getD t undefS := by
  intro pend hlt
  cases pend with
  | nil => exact ⟨rfl, rfl, fun t => rfl⟩
  | cons p l =>
    refine ⟨rfl, ?_⟩
    have hu : (underW s (p :: l) w).fr = (p :: l).foldr (fun p fr => fr.set p.1 (if implB w p.2.1 then .w p.2.2 else undefS)) s.fr := rfl
    rw [hu]
    clear hu
    generalize p :: l = q at *
    induction q with
    | nil => exact ⟨rfl, fun t => rfl⟩
    | cons p q ih =>
      obtain ⟨h1, h2⟩ := ih (fun p hp => hlt p (List.mem_cons_of_mem _ hp))
      refine ⟨by simpa using h1, fun t => ?_⟩
      simp only [List.foldr_cons, lookP]
      have hp := hlt p (by simp)
      simp only [List.getD, List.getElem?_set, h1, hp, if_true]
      by_cases ht : p.1 = t
      · simp [ht]
      · simp only [ht, if_false]
        exact h2 t

theorem SpR.ev {e : Env} {W0 : Bas} {s : St} {pend : Pend} {a : Act} {w : World} (h : SpR e W0 s pend a w) {W : B} (hW : W.den e.R e.r = true) (x : Operand) (hne : ∀ t, x = .tmp t → ∀ g y, lookP pend t = some (g, y) → implB W g = true) : a.eval x = ((underW s pend W).ev x).den e := by
  obtain ⟨h1, h2, h3⟩ := underW_fr (w := W) h.lt
  cases x with
  | tmp t =>
    show a.tmps.getD t undef = ((underW s pend W).fr.getD t undefS).den e
    rw [h3 t, h.slots t]
    cases hl : lookP pend t with
    | none => rfl
    | some gx =>
      obtain ⟨g, x⟩ := gx
      have hi := hne t rfl g x hl
      have hg := implB_spec hi hW
      simp only [hi, hg, if_true]
      rfl
  | const v => simp [Act.eval, St.ev, SV.den]
  | global g => rfl
  | func f => rfl

theorem underW_w {e : Env} {W0 : Bas} {s : St} {pend : Pend} {a : Act} {w : World} (h : SpR e W0 s pend a w) {W : B} (hW : W.den e.R e.r = true) (x : Operand) {y : SW} (hy : (underW s pend W).ev x = .w y) : a.eval x = y.den e := by
  have hne : ∀ t, x = .tmp t → ∀ g z, lookP pend t = some (g, z) → implB W g = true := by
    rintro t rfl g z hl
    obtain ⟨_, _, h3⟩ := underW_fr (w := W) h.lt
    have : (underW s pend W).fr.getD t undefS = .w y := hy
    rw [h3 t, hl] at this
    cases hi : implB W g with
    | true => rfl
    | false => simp [hi, undefS] at this
  rw [h.ev hW x hne, hy]
  rfl

theorem condW_spec {e : Env} {W0 : Bas} {s : St} {pend : Pend} {a : Act} {w : World} {o : Oper} {W : B} (h : SpR e W0 s pend a w) (hw : condW ops s pend o = some W) : Region.wanted o (yielded ops a.tmps) = W.den e.R e.r := by
  unfold condW at hw
  unfold Region.wanted
  split at hw
  · rename_i hg
    simp only [hg]
    simp only [Option.some.injEq] at hw
    subst hw
    rfl
  · rename_i j want hg
    simp only [hg]
    split at hw
    · rename_i t ht
      have hy : yielded ops a.tmps j = (match a.tmps.getD t undef with | .bool b => some b | _ => none) := by
        unfold yielded
        rw [ht]
        simp only [Option.bind_some]
        by_cases hlt : t < a.tmps.size
        · rw [Array.getElem?_eq_getElem hlt]
          simp only [Array.getD, hlt, dif_pos]
          show (match some a.tmps[t] with | some (.bool b) => some b | _ => none) = (match a.tmps[t] with | .bool b => some b | _ => none)
          cases a.tmps[t] <;> rfl
        · rw [Array.getElem?_eq_none (Nat.le_of_not_lt hlt)]
          simp only [Array.getD, hlt]
          rfl
      rw [hy, h.slots t]
      split at hw
      · rename_i g c hl
        simp only [Option.some.injEq] at hw
        subst hw
        rw [hl, mkAnd_den, litB_den]
        dsimp only
        cases hgd : g.den e.R e.r with
        | true =>
          simp only [if_true, SW.den, SC.den]
          simp
        | false => simp [undef]
      · cases hw
      · rename_i hl
        rw [hl]
        dsimp only
        split at hw
        · rename_i c hs
          simp only [Option.some.injEq] at hw
          subst hw
          rw [hs, litB_den]
          simp [SV.den, SW.den, SC.den]
        · cases hw
    · cases hw

theorem plain_env {e e' : Env} {W0 W1 : Bas} {s s' : St} {w w' : World} (hle : Env.le e e') (h : Rep e W0 s w) (h' : Rep e' W1 s' w') (hm : s'.mem.length = s.mem.length) (hr : s'.rows.length = s.rows.length) (h1 : e'.r = e.r) (h2 : e'.ω = e.ω) : e' = e := by
  obtain ⟨a, b, c, d, h3, h4, h5, h6, h7⟩ := hle
  have hb : b = [] := by
    have := h'.nb
    rw [h4, hm, ← h.nb] at this
    simpa using this
  have hc : c = [] := by
    have := h'.ng
    rw [h5, hr, ← h.ng] at this
    simpa using this
  subst hb hc
  cases e
  cases e'
  simp only [List.append_nil] at *
  simp_all

theorem foldl_same {f : Option (List B × SV × St) → Operand → Option (List B × SV × St)} (hf : ∀ acc y q, f acc y = some q → ∃ q', acc = some q' ∧ q.2.2 = q'.2.2) : ∀ (rest : List Operand) (init : Option (List B × SV × St)) (q : List B × SV × St), rest.foldl f init = some q → ∃ q', init = some q' ∧ q.2.2 = q'.2.2 := by
  intro rest
  induction rest with
  | nil => intro init q h; exact ⟨q, h, rfl⟩
  | cons y rest ih =>
    intro init q h
    obtain ⟨q', h1, h2⟩ := ih _ q h
    obtain ⟨q'', h3, h4⟩ := hf _ _ _ h1
    exact ⟨q'', h3, h2.trans h4⟩

theorem plain_same {s s' : St} {o : Oper} {as : List B} {v : SV} (hp : plainOp o = true) (h : op1 P s o = some (as, v, s')) : s' = s := by
  unfold op1 at h
  dsimp only at h
  split at h <;> first
    | (rename_i ho; simp [plainOp, ho] at hp; done)
    | skip
  all_goals try (rename_i c ho)
  all_goals try (split at h)
  all_goals try (split at h)
  all_goals try (split at h)
  all_goals try (split at h)
  all_goals try (split at h)
  all_goals try (split at h)
  all_goals first
    | (cases h; done)
    | (simp only [Option.some.injEq, Prod.mk.injEq] at h; exact h.2.2.symm)
    | (simp only [Option.map_eq_some_iff, Prod.mk.injEq] at h; obtain ⟨_, _, _, _, h⟩ := h; exact h.symm)
    | skip
  all_goals
    obtain ⟨q', h1, h2⟩ := foldl_same (by
      intro acc y q hq
      split at hq
      · simp only [Option.some.injEq] at hq
        subst hq
        exact ⟨_, rfl, rfl⟩
      · cases hq) _ _ _ h
    first
      | (cases h1; done)
      | (simp only [Option.some.injEq] at h1; subst h1; exact h2)

theorem getD_put {a : Act} {d t : Nat} {v : Value} (hd : d < a.tmps.size) : (a.put (some d) v).tmps.getD t undef = if t = d then v else a.tmps.getD t undef := by
  simp only [Act.put]
  by_cases ht : t = d
  · subst ht
    simp [hd]
  · simp [Array.getElem?_setIfInBounds_ne (Ne.symm ht), ht]

theorem valW_spec {e : Env} {W0 : Bas} {s : St} {pend : Pend} {a : Act} {w : World} {o : Oper} {W : B} {as : List B} {x : SW} (h : SpR e W0 s pend a w) (hp : plainOp o = true) (hv : valW P s pend W o = some (as, x)) (hW : W.den e.R e.r = true) (has : ∀ b ∈ as, b.den e.R e.r = true) :
    ∃ w' nx, (execOp a.eval o).run P w = .ok nx w' ∧ (nx = .value (x.den e) ∨ (nx = .skip ∧ x.den e = undef)) ∧ Rep e W0 s w' := by
  unfold valW at hv
  split at hv
  · rename_i c ax bx ho
    have hc := fun (y : SW) hy => underW_w h hW c (y := y) hy
    have run : ∀ (bb : Bool), a.eval c = .bool bb → (execOp a.eval o).run P w = .ok (.value (if bb then a.eval ax else a.eval bx)) w := by
      intro bb hbb
      simp only [execOp, ho, hbb]
      cases bb <;> rfl
    split at hv
    · rename_i hcv
      split at hv
      · rename_i y hy
        simp only [Option.some.injEq, Prod.mk.injEq] at hv
        obtain ⟨rfl, rfl⟩ := hv
        refine ⟨w, _, run true (hc _ hcv), .inl ?_, h.rep⟩
        simp only [if_true]
        rw [underW_w h hW ax hy]
      · cases hv
    · rename_i hcv
      split at hv
      · rename_i y hy
        simp only [Option.some.injEq, Prod.mk.injEq] at hv
        obtain ⟨rfl, rfl⟩ := hv
        refine ⟨w, _, run false (hc _ hcv), .inl ?_, h.rep⟩
        simp only [Bool.false_eq_true, if_false]
        rw [underW_w h hW bx hy]
      · cases hv
    · rename_i cb _ _ hcv
      split at hv
      · rename_i y z hy hz
        simp only [Option.some.injEq, Prod.mk.injEq] at hv
        obtain ⟨rfl, rfl⟩ := hv
        have hcb : a.eval c = .bool (cb.den e.R e.r) := hc _ hcv
        refine ⟨w, _, run _ hcb, .inl ?_, h.rep⟩
        cases hcd : cb.den e.R e.r with
        | true =>
          have hW' : (mkAnd W cb).den e.R e.r = true := by rw [mkAnd_den, hW, hcd]; rfl
          simp only [if_true]
          rw [underW_w h hW' ax hy]
          simp only [SW.den, SC.den, pickB_den, hcd, if_true]
        | false =>
          have hW' : (mkAnd W (mkNot cb)).den e.R e.r = true := by rw [mkAnd_den, mkNot_den, hW, hcd]; rfl
          simp only [Bool.false_eq_true, if_false]
          rw [underW_w h hW' bx hz]
          simp only [SW.den, SC.den, pickB_den, hcd, Bool.false_eq_true, if_false]
      · cases hv
    · cases hv
  · split at hv
    · rename_i hkn
      split at hv
      · rename_i as' x' s' h1
        simp only [Option.some.injEq, Prod.mk.injEq] at hv
        obtain ⟨rfl, rfl⟩ := hv
        obtain ⟨hu1, hu2, hu3⟩ := underW_fr (w := W) h.lt
        have hrep : Rep e W0 (underW s pend W) w := by rw [hu1]; exact h.rep.fr _
        have hev : ∀ y ∈ o.op.operands, a.eval y = ((underW s pend W).ev y).den e := by
          intro y hy
          refine h.ev hW y ?_
          rintro t rfl g z hl
          have := List.all_eq_true.1 hkn (.tmp t) (by simpa using hy)
          simpa only [knownW, hl] using this
        obtain ⟨_, _, _, _, _, _, e', w', nx, hr, hnx, hrep', hle, hr', hR', hω', _⟩ := op1_sound h1 hrep hev has
        have hs' := plain_same hp h1
        subst hs'
        have he := plain_env hle hrep hrep' rfl rfl hr' hω'
        subst he
        refine ⟨w', nx, hr, hnx, ?_⟩
        rw [hu1] at hrep'
        exact hrep'.fr s.fr
      · cases hv
    · cases hv

theorem underB_spec {R : Fo} {r : List Int} {W : B} {as : List B} (h : ∀ b ∈ underB W as, b.den R r = true) (hW : W.den R r = true) : ∀ b ∈ as, b.den R r = true := by
  unfold underB at h
  split at h
  · exact h
  · intro b hb
    have := h _ (List.mem_map_of_mem (f := fun b => mkNot (mkAnd W (mkNot b))) hb)
    simpa [mkNot_den, mkAnd_den, hW] using this

theorem getD_set_fr' (l : List SV) (t t' : Nat) (v : SV) : (l.set t v).getD t' undefS = if t' = t ∧ t < l.length then v else l.getD t' undefS := by
  simp only [List.getD, List.getElem?_set]
  by_cases h : t = t'
  · subst h
    by_cases hl : t < l.length
    · simp [hl]
    · simp [hl]
  · have : ¬ t' = t := fun hh => h hh.symm
    simp [h, this]

theorem SpR.put {e : Env} {W0 : Bas} {s : St} {pend : Pend} {a : Act} {w w' : World} (h : SpR e W0 s pend a w) (hr : Rep e W0 s w') {d : Nat} (hd : d < s.fr.length) (hn : lookP pend d = none) {u : Value} {v : SV} (hv : u = v.den e) : SpR e W0 (s.put (some d) v) pend (a.put (some d) u) w' := by
  refine ⟨hr.fr _, h.defs, by simp [Act.put, St.put, h.size], fun t => ?_, fun p hp => by simpa [St.put] using h.lt p hp, h.nd⟩
  rw [getD_put (by rw [h.size]; exact hd)]
  simp only [St.put, getD_set_fr']
  by_cases ht : t = d
  · subst ht
    simp [hn, hd, hv]
  · simp only [ht, if_false, false_and]
    exact h.slots t

theorem SpR.pend {e : Env} {W0 : Bas} {s : St} {pend : Pend} {a : Act} {w w' : World} (h : SpR e W0 s pend a w) (hr : Rep e W0 s w') {d : Nat} (hd : d < s.fr.length) (hn : lookP pend d = none) {W : B} {x : SW} {u : Value} (hv : u = if W.den e.R e.r = true then x.den e else undef) : SpR e W0 s ((d, W, x) :: pend) (a.put (some d) u) w' := by
  refine ⟨hr, h.defs, by simp [Act.put, h.size], fun t => ?_, fun p hp => ?_, List.Pairwise.cons (fun p hp => (lookP_none hn p hp).symm) h.nd⟩
  · rw [getD_put (by rw [h.size]; exact hd)]
    simp only [lookP]
    by_cases ht : t = d
    · subst ht
      simp [hv]
    · simp only [ht, if_false, Ne.symm ht]
      exact h.slots t
  · rcases List.mem_cons.1 hp with rfl | hp
    · exact hd
    · exact h.lt p hp

theorem specRun_sound {Q : Exit → Act → World → Prop} : ∀ (l : List Oper) (s : St) (pend : Pend) (as : List B) (s' : St) (pend' : Pend) (e : Env) (W0 : Bas) (a : Act) (w : World), specRun P ops l s pend = some (as, s', pend') → (∀ b ∈ as, b.den e.R e.r = true) → SpR e W0 s pend a w →
    (∀ a' w', SpR e W0 s' pend' a' w' → Q .normal a' w') → wpList P ops Q l a w
  | [], s, pend, as, s', pend', e, W0, a, w, h, has, hs, hQ => by
    simp only [specRun, Option.some.injEq, Prod.mk.injEq] at h
    obtain ⟨rfl, rfl, rfl⟩ := h
    exact hQ a w hs
  | o :: l, s, pend, as, s', pend', e, W0, a, w, h, has, hs, hQ => by
    simp only [specRun] at h
    split at h
    · rename_i d W hd hW
      split at h
      · cases h
      · rename_i hc
        simp only [Bool.or_eq_true, Bool.not_eq_true', decide_eq_true_eq, not_or, Bool.not_eq_false, Nat.not_le] at hc
        obtain ⟨⟨hp, hn⟩, hlt⟩ := hc
        have hn' : lookP pend d = none := by cases hh : lookP pend d with | none => rfl | some _ => rw [hh] at hn; simp at hn
        have hwt := condW_spec hs hW
        unfold wpList
        rw [hwt, hd]
        split at h
        · -- never
          simp only [B.den, Bool.false_eq_true, if_false]
          exact specRun_sound l _ pend as s' pend' e W0 _ w h has (hs.put hs.rep hlt hn' (v := undefS) rfl) hQ
        · split at h
          · rename_i as1 x hv
            have main : ∀ (s2 : St) (pend2 : Pend) (bs : List B), specRun P ops l s2 pend2 = some (bs, s', pend') → as = underB W as1 ++ bs → (∀ w' u, Rep e W0 s w' → (u = if W.den e.R e.r = true then x.den e else undef) → SpR e W0 s2 pend2 (a.put (some d) u) w') →
                (if W.den e.R e.r = true then o.wp P a w (wpList P ops Q l) Q ∨ (o.asks P a w ∧ LetsOut Q) else wpList P ops Q l (a.put (some d) undef) w) := by
              intro s2 pend2 bs h2 has2 hput
              subst has2
              have h1 : ∀ b ∈ underB W as1, b.den e.R e.r = true := fun b hb => has b (List.mem_append_left _ hb)
              have h3 : ∀ b ∈ bs, b.den e.R e.r = true := fun b hb => has b (List.mem_append_right _ hb)
              cases hWd : W.den e.R e.r with
              | true =>
                simp only [if_true]
                left
                obtain ⟨w', nx, hr, hnx, hrep⟩ := valW_spec hs hp hv hWd (underB_spec h1 hWd)
                have hfin : wpList P ops Q l (a.put o.dst (x.den e)) w' := by
                  rw [hd]
                  exact specRun_sound l s2 pend2 bs s' pend' e W0 _ w' h2 h3 (hput w' _ hrep (by rw [hWd]; rfl)) hQ
                unfold Oper.wp
                rw [hr]
                rcases hnx with rfl | ⟨rfl, hu⟩
                · exact hfin
                · simp only [Oper.upon_skip]
                  rw [← hu]
                  exact hfin
              | false =>
                simp only [Bool.false_eq_true, if_false]
                exact specRun_sound l s2 pend2 bs s' pend' e W0 _ w h2 h3 (hput w _ hs.rep (by rw [hWd]; rfl)) hQ
            split at h
            · rename_i bs s2' pend2' h2
              simp only [Option.some.injEq, Prod.mk.injEq] at h
              obtain ⟨rfl, rfl, rfl⟩ := h
              split at h2
              · refine main _ _ bs h2 rfl (fun w' u hrep hu => hs.put hrep hlt hn' ?_)
                rw [hu]
                rfl
              · exact main _ _ bs h2 rfl (fun w' u hrep hu => hs.pend hrep hlt hn' hu)
            · cases h
          · cases h
    · cases h

theorem specRun_st : ∀ (l : List Oper) (s : St) (pend : Pend) (as : List B) (s' : St) (pend' : Pend), specRun P ops l s pend = some (as, s', pend') → s' = { s with fr := s'.fr }
  | [], s, pend, as, s', pend', h => by
    simp only [specRun, Option.some.injEq, Prod.mk.injEq] at h
    obtain ⟨rfl, rfl, rfl⟩ := h
    rfl
  | o :: l, s, pend, as, s', pend', h => by
    simp only [specRun] at h
    split at h
    · split at h
      · cases h
      · split at h
        · have := specRun_st l _ _ _ _ _ h
          rw [this]
          rfl
        · split at h
          · split at h
            · rename_i h2
              simp only [Option.some.injEq, Prod.mk.injEq] at h
              obtain ⟨rfl, rfl, rfl⟩ := h
              split at h2
              · have := specRun_st l _ _ _ _ _ h2
                rw [this]
                rfl
              · have := specRun_st l _ _ _ _ _ h2
                rw [this]
            · cases h
          · cases h
    · cases h

theorem den_un {e : Env} {x : List Value} : ∀ {v : SV}, unOK e.ω.length v = true → v.den { e with ω := e.ω ++ x } = v.den e := by
  intro v hv
  have hC : ∀ c : SC, c.den { e with ω := e.ω ++ x } = c.den e := by intro c; cases c <;> rfl
  have hW : ∀ c : SW, c.den { e with ω := e.ω ++ x } = c.den e := by
    intro c
    cases c with
    | o c => exact hC c
    | a cs => simp only [SW.den]; rw [List.map_congr_left fun c _ => hC c]
  cases v with
  | w c => exact hW c
  | t cs => simp only [SV.den]; rw [List.map_congr_left fun c _ => hW c]
  | un i =>
    simp only [unOK, decide_eq_true_eq] at hv
    simp only [SV.den]
    rw [getD_app_lt _ _ _ _ hv]

theorem Rep.un {e : Env} {W0 : Bas} {s : St} {w : World} (h : Rep e W0 s w) (x : Value) (fr : List SV) : Rep { e with ω := e.ω ++ [x] } W0 { s with fr := fr, nx := s.nx + 1 } w := by
  have hC : ∀ c : SC, c.den { e with ω := e.ω ++ [x] } = c.den e := by intro c; cases c <;> rfl
  have hm : ∀ cs : List SC, cs.map (SC.den { e with ω := e.ω ++ [x] }) = cs.map (SC.den e) := fun cs => List.map_congr_left fun c _ => hC c
  refine ⟨h.below, h.nb, h.ng, h.nv, by simp [h.nx], ?_, h.own, h.sep, h.row, h.rown, h.rsep, h.brs, h.gl, h.arg⟩
  · intro n b hb hl
    rw [hm]
    exact h.blk n b hb hl

theorem finishP_rel : ∀ (pend : Pend) (s : St) (e : Env) {W0 : Bas} {a : Act} {w : World}, SpR e W0 s pend a w → s.fr.all (unOK s.nx) = true → ∃ e', Env.le e e' ∧ e'.r = e.r ∧ e'.R = e.R ∧ Rel e' W0 (finishP pend s) a w ∧ (finishP pend s).fl = s.fl ∧ (finishP pend s).flr = s.flr ∧ (finishP pend s).dp = s.dp
  | [], s, e, W0, a, w, h, hu => by
    refine ⟨e, Env.le_refl _, rfl, rfl, ⟨h.rep, ?_, h.defs⟩, rfl, rfl, rfl⟩
    apply Array.ext'
    apply List.ext_getElem?
    intro t
    have hs := h.slots t
    simp only [lookP] at hs
    show a.tmps.toList[t]? = (s.fr.map _)[t]?
    by_cases ht : t < s.fr.length
    · have ht' : t < a.tmps.size := by rw [h.size]; exact ht
      simp only [List.getElem?_map, List.getElem?_eq_getElem ht, Option.map_some]
      rw [List.getElem?_eq_getElem (by simpa using ht')]
      simp only [Option.some.injEq]
      rw [show s.fr.getD t undefS = s.fr[t] by simp [List.getD, ht]] at hs
      rw [← hs]
      simp [Array.getD, ht']
    · rw [List.getElem?_eq_none (by simp [h.size]; omega), List.getElem?_eq_none (by simp; omega)]
  | (d, g, x) :: l, s, e, W0, a, w, h, hu => by
    simp only [finishP]
    have hd := h.lt (d, g, x) (by simp)
    have hnx := h.rep.nx
    have key : SpR { e with ω := e.ω ++ [a.tmps.getD d undef] } W0 { s with fr := s.fr.set d (.un s.nx), nx := s.nx + 1 } l a w := by
      refine ⟨h.rep.un _ _, h.defs, by simpa using h.size, fun t => ?_, fun p hp => by simpa using h.lt p (List.mem_cons_of_mem _ hp), (List.pairwise_cons.1 h.nd).2⟩
      have hs := h.slots t
      simp only [lookP] at hs
      have hnd : lookP l d = none := lookP_none' fun p hp => ((List.pairwise_cons.1 h.nd).1 p hp).symm
      by_cases ht : t = d
      · subst ht
        rw [hnd]
        simp only [getD_set_fr', hd, and_self, if_true, SV.den]
        rw [← hnx]
        simp [List.getD]
      · simp only [Ne.symm ht, if_false] at hs
        rw [hs]
        cases hl : lookP l t with
        | some gx =>
          obtain ⟨g', x'⟩ := gx
          dsimp only
          have hC : ∀ c : SC, c.den { e with ω := e.ω ++ [a.tmps.getD d undef] } = c.den e := by intro c; cases c <;> rfl
          have hW : x'.den { e with ω := e.ω ++ [a.tmps.getD d undef] } = x'.den e := by
            cases x' with
            | o c => exact hC c
            | a cs => simp only [SW.den]; rw [List.map_congr_left fun c _ => hC c]
          rw [hW]
        | none =>
          dsimp only
          simp only [getD_set_fr', ht, false_and, if_false]
          by_cases htl : t < s.fr.length
          · rw [show s.fr.getD t undefS = s.fr[t] by simp [List.getD, htl]]
            refine (den_un ?_).symm
            rw [hnx]
            exact List.all_eq_true.1 hu _ (List.getElem_mem htl)
          · rw [show s.fr.getD t undefS = undefS by simp [List.getD, List.getElem?_eq_none (Nat.le_of_not_lt htl)]]
            rfl
    obtain ⟨e', h1, h2, h3, h4, h5, h6, h7⟩ := finishP_rel l _ _ key (by
      refine List.all_eq_true.2 fun v hv => ?_
      rcases List.mem_or_eq_of_mem_set hv with hv | rfl
      · have := List.all_eq_true.1 hu v hv
        cases v <;> simp_all [unOK]
        omega
      · simp [unOK])
    exact ⟨e', Env.le_trans ⟨[], [], [], [a.tmps.getD d undef], by simp⟩ h1, h2, h3, h4, h5, h6, h7⟩

end Go.Sx
