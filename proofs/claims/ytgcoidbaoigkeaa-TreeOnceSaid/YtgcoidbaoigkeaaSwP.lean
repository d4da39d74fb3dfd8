/-
  Symbolic execution: one operation ahead of the tail.
-/
import Derived.Test.YtgcoidbaoigkeaaSwO
namespace Go.Sx
open Go.RowKit

section
variable {P : Program} {Γ : List Sum} {Ψ : List Int → Prop} {bs : List (List Int → Prop)} {ops : Array Oper}
variable {s0 : St} {e0 : Env} {a0 : Array Value} {i : Nat} {ents : Nat → Ent} {s : St} {r : List Int} {al : List Nat} {W0 : Bas} {w0 : World}

/-- The worlds of a region that draws: those that grow out of one, but for some blocks. -/
structure Cls (w0 : World) (X : Nat → Prop) (w : World) : Prop where
  os : w.os = w0.os
  tape : w.tape = w0.tape
  output : w.output = w0.output
  size : w0.heap.size ≤ w.heap.size
  block : ∀ k, k < w0.heap.size → ¬ X k → w.heap[k]? = w0.heap[k]?

theorem Cls.refl (w0 : World) (X : Nat → Prop) : Cls w0 X w0 := ⟨rfl, rfl, rfl, Nat.le_refl _, fun _ _ _ => rfl⟩

theorem Cls.grow {X : Nat → Prop} {w w' : World} (h : Cls w0 X w) (hb : Below w.heap.size w w') : Cls w0 X w' :=
  ⟨hb.os.trans h.os, hb.tape.trans h.tape, hb.output.trans h.output, Nat.le_trans h.size hb.size, fun k hk hx => (hb.block k (Nat.lt_of_lt_of_le hk h.size)).trans (h.block k hk hx)⟩

theorem Cls.but {X : Nat → Prop} {w w' : World} {g : Nat} {ob : Obj} (h : Cls w0 X w) (hb : SameBut w w' g ob) (hg : w0.heap.size ≤ g ∨ X g) : Cls w0 X w' :=
  ⟨hb.os.trans h.os, hb.tape.trans h.tape, hb.output.trans h.output, by rw [hb.size]; exact h.size, fun k hk hx => by
    rw [hb.block k (by rintro rfl; exact hg.elim (fun h => by omega) hx)]
    exact h.block k hk hx⟩

/-- Blocks that nothing known stands in. -/
structure XOK (e0 : Env) (W0 : Bas) (s0 : St) (X : Nat → Prop) : Prop where
  mem : ∀ n b, s0.mem[n]? = some b → b.live = true → ¬ X (e0.β.getD n 0)
  row : ∀ n b k, s0.rows[n]? = some b → b.live = true → rowBlk ((G.o n).val e0) = some k → ¬ X k
  own : ∀ k, X k → W0.may k

theorem Rep.cls {X : Nat → Prop} (h0 : Rep e0 W0 s0 w0) (hX : XOK e0 W0 s0 X) {w : World} (hw : Cls w0 X w) : Rep e0 W0 s0 w := by
  refine ⟨?_, h0.nb, h0.ng, h0.nv, h0.nx, ?_, h0.own, h0.sep, ?_, h0.rown, h0.rsep, h0.brs, h0.gl, h0.arg⟩
  · refine ⟨hw.os.trans h0.below.os, hw.tape.trans h0.below.tape, hw.output.trans h0.below.output, Nat.le_trans h0.below.size hw.size, fun k hk => ?_⟩
    have hkl : ¬ W0.w.heap.size ≤ k := fun hh => hk (.inl hh)
    rw [hw.block k (Nat.lt_of_lt_of_le (Nat.lt_of_not_le hkl) h0.below.size) (fun hx => hk (hX.own k hx))]
    exact h0.below.block k hk
  · intro n b hb hl
    have := h0.blk n b hb hl
    rw [hw.block _ (heap_lt this) (hX.mem n b hb hl)]
    exact this
  · intro n b hb hl
    have h1 := h0.row n b hb hl
    rcases h1.form with ⟨hn, hv⟩ | ⟨bb, off, hn, hv⟩ | ⟨g, cap, hv, hcap, hle, hk0, hel, hown⟩
    · exact .inl ⟨hn, .inl hv⟩
    · exact .inl ⟨hn, .inr ⟨bb, off, hv⟩⟩
    · refine .inr ⟨hk0, hel, hown.1, ?_⟩
      rcases hown.2 with h2 | ⟨g', cap', cur, h3, h4, h5, h6⟩
      · exact .inl h2
      · refine .inr ⟨g', cap', cur, h3, h4, ?_, h6⟩
        have hg : g' = g ∧ cap' = cap := by
          rw [hv] at h3
          simp only [Value.slice.injEq, Option.some.injEq, Addr.mk.injEq] at h3
          exact ⟨h3.1.1.symm, h3.2.2.symm⟩
        rw [hw.block g' (heap_lt h5) (hX.row n b g' hb hl (by rw [hv]; simp [rowBlk, hcap, hg.1]))]
        exact h5

/-- What was known when the region began is known in every world of the class, as memory that may not be written. -/
theorem Lex.rep {X : Nat → Prop} (h : Lex s0 e0 a0 ops i ents s r al) (h0 : Rep e0 W0 s0 w0) (hX : XOK e0 W0 s0 X) {w : World} (hw : Cls w0 X w) (x : List SV) :
    Rep (e0.at r) ⟨w, fun _ => False⟩ { s with mem := s0.mem, rows := s0.rows, fl := s0.mem.length, flr := s0.rows.length, fr := x } w := by
  have hr := h0.cls hX hw
  refine ⟨BelowX.refl _, h0.nb, h0.ng, h.nv.symm, h0.nx.trans h.nx.symm, ?_, ?_, h0.sep, ?_, ?_, h0.rsep, h0.brs, ⟨by show GlOK s.gl w; rw [h.gl]; exact hr.glw, fun _ _ _ hh => hh⟩, ?_⟩
  · intro n b hb hl
    have := hr.blk n b hb hl
    show w.heap[e0.β.getD n 0]? = _
    rw [h.memd b (List.mem_of_getElem? hb)]
    exact this
  · intro n b hb _ hf
    have hf' : s0.mem.length ≤ n := hf
    have hlt : n < s0.mem.length := (List.getElem?_eq_some_iff.1 hb).1
    exact absurd hlt (Nat.not_lt_of_le hf')
  · intro n b hb hl
    show RowOK w b.ty b.ks ((G.o n).val e0) (b.c.den e0.R r)
    rw [h.rowd b (List.mem_of_getElem? hb)]
    exact hr.row n b hb hl
  · intro n b hb _ hf
    have hf' : s0.rows.length ≤ n := hf
    have hlt : n < s0.rows.length := (List.getElem?_eq_some_iff.1 hb).1
    exact absurd hlt (Nat.not_lt_of_le hf')
  · intro i ks c hi
    have hi' : s.hs[i]? = some (ks, c) := hi
    rw [h.hs] at hi'
    show SlN w ks ((G.a i).val e0) (c.den e0.R r)
    rw [show c.den e0.R r = c.den e0.R e0.r from h.hsd (ks, c) (List.mem_of_getElem? hi')]
    exact (hr.arg i ks c hi').nowN hr.below

/-- What is done by an operation that may come in any order. -/
def BehW (P : Program) (w0 : World) (X : Nat → Prop) (o : Oper) (ent : Ent) (act : Act) (w : World) : Prop :=
  ∀ (K : Act → World → Prop) (Q : Exit → Act → World → Prop),
    (match ent.obj with
      | none => ∀ w', Cls w0 X w' → Below w.heap.size w w' → K (act.put o.dst (ent.val 0)) w'
      | some ob => ∀ n w', Cls w0 X w' → Below w.heap.size w w' → w.heap.size ≤ n → w'.heap[n]? = some ob → K (act.put o.dst (ent.val n)) w') → o.wp P act w K Q

theorem wp_of_value {o : Oper} {act : Act} {w w' : World} {v : Value} {nx : Next} {K : Act → World → Prop} {Q : Exit → Act → World → Prop} (hr : (execOp act.eval o).run P w = .ok nx w') (hnx : nx = .value v ∨ (nx = .skip ∧ v = undef)) (hk : K (act.put o.dst v) w') : o.wp P act w K Q := by
  unfold Oper.wp
  rw [hr]
  rcases hnx with rfl | ⟨rfl, rfl⟩
  · exact hk
  · exact hk

theorem at_like {e' : Env} {w : World} (hle : Env.le (e0.at r) e') (hr : e'.r = (e0.at r).r) (hR : e'.R = (e0.at r).R) (hω : e'.ω = (e0.at r).ω) (h0 : Rep e0 W0 s0 w) : Env.like s0.mem.length s0.rows.length (e0.at r) e' := by
  obtain ⟨_, b, c, _, _, h2, h3, _, _⟩ := hle
  exact ⟨hr, hR, hω, fun n hn => by rw [h2]; exact getD_app_lt _ _ _ _ (by show n < e0.β.length; rw [h0.nb]; exact hn), fun n hn => by rw [h3]; exact getD_app_lt _ _ _ _ (by show n < e0.σ.length; rw [h0.ng]; exact hn)⟩

theorem cellsE_scp (nb ng : Nat) {mk : Nat → SC} : ∀ (ks : List K) (i : Nat) (es : List E), nS ks = 0 → (cellsE mk i ks es).all (SC.scp nb ng) = true
  | [], _, es, _ => by cases es <;> simp [cellsE]
  | k :: _, _, [], _ => by cases k <;> simp [cellsE]
  | .i k :: ks, i, e :: es, h => by simp [cellsE, SC.scp, cellsE_scp nb ng ks i es h]
  | .b :: ks, i, e :: es, h => by simp [cellsE, SC.scp, cellsE_scp nb ng ks i es h]
  | .s _ _ :: ks, i, e :: es, h => by simp [nS] at h

theorem shE_scp (nb ng : Nat) {mk : Nat → SC} (i : Nat) (s : Sh) (es : List E) (h : nS s.ks = 0) : (shE mk i s es).scp nb ng = true := by
  unfold shE
  have := cellsE_scp nb ng (mk := mk) s.ks i es h
  split
  · exact this
  · cases hce : cellsE mk i s.ks es with
    | nil => rfl
    | cons c cs => rw [hce] at this; simp only [List.all_cons, Bool.and_eq_true] at this; exact this.1

theorem shsE_scp (nb ng : Nat) {mk : Nat → SC} : ∀ (ss : List Sh) (i : Nat) (es : List E), nS (allK ss) = 0 → (shsE mk i ss es).all (SW.scp nb ng) = true
  | [], _, _, _ => by simp [shsE]
  | s :: ss, i, es, h => by
    rw [allK, nS_app] at h
    simp only [shsE, List.all_cons, Bool.and_eq_true]
    exact ⟨shE_scp nb ng i s _ (by omega), shsE_scp nb ng ss _ _ (by omega)⟩

theorem resE_scp (nb ng : Nat) {mk : Nat → SC} (i : Nat) (rs : List Sh) (es : List E) (h : nS (allK rs) = 0) : (resE mk i rs es).scp nb ng = true := by
  unfold resE
  have := shsE_scp nb ng (mk := mk) rs i es h
  split
  · rename_i x hx
    rw [hx] at this
    simp only [List.all_cons, List.all_nil, Bool.and_true] at this
    exact this
  · exact this

/-- A tuple of plain numbers, as expressions. -/
theorem cellsE_flat {e : Env} {mk : Nat → SC} : ∀ (ks : List K) (i : Nat) (es : List E), nS ks = 0 → (cellsE mk i ks es).map (SC.den e) = mkCells ks (es.map (E.den e.R e.r))
  | [], _, es, _ => by cases es <;> rfl
  | .i k :: ks, i, x :: es, h => by simp [cellsE, mkCells, cellsE_flat ks i es h, SC.den, K.mk]
  | .b :: ks, i, x :: es, h => by
    simp only [cellsE, List.map_cons, mkCells, cellsE_flat ks i es h, SC.den, K.mk]
    congr 2
    unfold mkNz
    split <;> simp [B.den, E.den]
  | .s _ _ :: _, _, _, h => by simp [nS] at h
  | .i _ :: _, _, [], _ => rfl
  | .b :: _, _, [], _ => rfl

theorem shE_flat {e : Env} {mk : Nat → SC} (i : Nat) (s : Sh) (es : List E) (h : nS s.ks = 0) : (shE mk i s es).den e = mkSh s (es.map (E.den e.R e.r)) := by
  unfold shE mkSh
  have := cellsE_flat (e := e) (mk := mk) s.ks i es h
  split
  · simp [SW.den, this]
  · rw [← this]
    cases cellsE mk i s.ks es <;> simp [SW.den, SC.den]

theorem shsE_flat {e : Env} {mk : Nat → SC} : ∀ (ss : List Sh) (i : Nat) (es : List E), nS (allK ss) = 0 → (shsE mk i ss es).map (SW.den e) = mkShs ss (es.map (E.den e.R e.r))
  | [], _, _, _ => by simp [shsE, mkShs]
  | s :: ss, i, es, h => by
    rw [allK, nS_app] at h
    simp only [shsE, mkShs, List.map_cons, shE_flat i s _ (by omega), shsE_flat ss _ _ (by omega), List.map_take, List.map_drop]

theorem resE_flat {e : Env} {mk : Nat → SC} (i : Nat) (rs : List Sh) (es : List E) (h : nS (allK rs) = 0) : (resE mk i rs es).den e = mkRes rs (es.map (E.den e.R e.r)) := by
  unfold resE mkRes
  rw [← shsE_flat (e := e) (mk := mk) rs i es h]
  match shsE mk i rs es with
  | [] => rfl
  | [x] => rfl
  | x :: y :: l => rfl

theorem evM {m g : Nat} {x : Operand} {mem : List Blk} {rows : List Row} {fl flr : Nat} (h : (s.ev x).scp m g = true) : ({ s with fr := maskFr m g s.fr, mem := mem, rows := rows, fl := fl, flr := flr } : St).ev x = s.ev x := by
  cases x with
  | tmp t =>
    show (maskFr m g s.fr).getD t undefS = s.fr.getD t undefS
    have h' : (s.fr.getD t undefS).scp m g = true := h
    unfold maskFr
    simp only [List.getD, List.getElem?_map] at h' ⊢
    cases hx : s.fr[t]? with
    | none => rfl
    | some v =>
      rw [hx] at h'
      simp only [Option.getD_some] at h'
      simp [h']
  | const v => rfl
  | global v => rfl
  | func v => rfl

theorem preT_step {X : Nat → Prop} (hG : Gok P Γ) {ih : Code → St → Kont → T} (hih : IH P Γ ih) (h0 : Rep e0 W0 s0 w0) (hX : XOK e0 W0 s0 X) (h : Lex s0 e0 a0 ops i ents s r al) {o : Oper} (ho : ops[i]? = some o)
    (hu : ∀ j t, j < i → (ops[j]?).bind (·.dst) = some t → (ops[i]?).bind (·.dst) ≠ some t) (hdl : ∀ d, o.dst = some d → d < s0.fr.length) {k : St → T}
    (hs : (preT P Γ ih s0 o s k).sat Γ e0.R Ψ bs r) :
    ∃ ent s' r' al', Lex s0 e0 a0 ops (i + 1) (upd ents i ent) s' r' al' ∧ (k s').sat Γ e0.R Ψ bs r' ∧ (ent.obj = none → ∀ n, ent.val n = ent.val 0) ∧
      (∀ x ∈ o.op.operands, (s.ev x).scp s0.mem.length s0.rows.length = true) ∧
      ∀ (act : Act) (w : World), Cls w0 X w → (∀ x ∈ o.op.operands, act.eval x = (s.ev x).den (e0.at r)) → BehW P w0 X o ent act w := by
  unfold preT at hs
  dsimp only at hs
  split at hs
  · exact hs.elim
  · rename_i hops
    have hops' : ∀ x ∈ o.op.operands, (s.ev x).scp s0.mem.length s0.rows.length = true := by
      intro x hx
      simp only [Bool.not_eq_true', Bool.not_eq_false] at hops
      exact List.all_eq_true.1 hops x (by simpa using hx)
    -- a value, and no new block
    have plain : ∀ {as : List B} {v : SV} {s' : St}, op1 P { s with fr := maskFr s0.mem.length s0.rows.length s.fr, mem := s0.mem, rows := s0.rows, fl := s0.mem.length, flr := s0.rows.length } o = some (as, v, s') → v.scp s0.mem.length s0.rows.length = true → (asrts as (k (s.put o.dst v))).sat Γ e0.R Ψ bs r →
        ∃ ent s' r' al', Lex s0 e0 a0 ops (i + 1) (upd ents i ent) s' r' al' ∧ (k s').sat Γ e0.R Ψ bs r' ∧ (ent.obj = none → ∀ n, ent.val n = ent.val 0) ∧
          (∀ x ∈ o.op.operands, (s.ev x).scp s0.mem.length s0.rows.length = true) ∧
          ∀ (act : Act) (w : World), Cls w0 X w → (∀ x ∈ o.op.operands, act.eval x = (s.ev x).den (e0.at r)) → BehW P w0 X o ent act w := by
      intro as v s' h1 hv hs
      obtain ⟨has, hs'⟩ := asrts_sat hs
      refine ⟨⟨fun _ => v.den (e0.at r), none⟩, _, r, al, h.put ho hu hdl hv, hs', fun _ _ => rfl, hops', ?_⟩
      intro act w hw hev K Q hK
      have hrep := h.rep h0 hX hw (maskFr s0.mem.length s0.rows.length s.fr)
      obtain ⟨_, _, _, _, _, _, e', w', nx, hr, hnx, hrep', hle, hr', hR', hω', _⟩ := op1_sound h1 hrep (fun x hx => (hev x hx).trans (congrArg (SV.den (e0.at r)) (evM (hops' x hx)).symm)) has
      have hlike := at_like hle hr' hR' hω' h0
      rw [SV.den_like hlike v hv] at hnx
      exact wp_of_value hr hnx (hK w' (hw.grow hrep'.below.below) hrep'.below.below)
    split at hs
    · rename_i c hoc
      split at hs
      · rename_i F hcal
        split at hs
        · rename_i fn caps hF
          split at hs
          · exact hs.elim
          · rename_i hcond
            simp only [Bool.or_eq_true, Bool.not_eq_true', not_or, Bool.not_eq_false] at hcond
            obtain ⟨hargsc, hcl⟩ := hcond
            have hoper : o.op.operands = #[F] ++ c.args := by rw [hoc]; simp [Op.operands, Call.operands, hcal]
            have hrun : ∀ (act : Act) (w : World), (∀ x ∈ o.op.operands, act.eval x = (s.ev x).den (e0.at r)) → (execOp act.eval o).run P w = .ok (.enter fn ((c.args.toList.map s.ev ++ caps.map fun p => one (.p p.1 p.2)).map (SV.den (e0.at r))).toArray) w := by
              intro act w hev
              have hevF : act.eval F = .func (.func fn) #[] ((caps.map fun p => one (.p p.1 p.2)).map (SV.den (e0.at r))).toArray := by
                rw [hev F (by rw [hoper]; simp), hF]
                simp [SV.den, SW.den, SC.den, one, Function.comp_def]
              rw [run_enter hcl hoc hcal hevF w]
              congr 2
              apply Array.ext'
              simp only [Array.toList_append, Array.toList_map, List.map_append, List.map_map]
              congr 1
              exact List.map_congr_left fun x hx => hev x (by rw [hoper]; simp; exact .inr (by simpa using hx))
            have fin : ∀ {v : Value}, (∀ w, Cls w0 X w → Calls P fn ((c.args.toList.map s.ev ++ caps.map fun p => one (.p p.1 p.2)).map (SV.den (e0.at r))).toArray w fun x w' => x = .returned v ∧ Below w.heap.size w w') →
                ∀ (act : Act) (w : World), Cls w0 X w → (∀ x ∈ o.op.operands, act.eval x = (s.ev x).den (e0.at r)) → BehW P w0 X o ⟨fun _ => v, none⟩ act w := by
              intro v hc act w hw hev K Q hK
              unfold Oper.wp
              rw [hrun act w hev]
              simp only [Oper.upon_enter]
              refine (hc w hw).mono ?_
              rintro x w' ⟨rfl, hb⟩
              exact hK w' (hw.grow hb) hb
            split at hs
            · rename_i g sum hfs
              obtain ⟨hfn, j, rfl, hg⟩ := findSum_spec hfs
              simp only [Nat.zero_add] at hs
              split at hs
              · exact hs.elim
              · rename_i hsc
                simp only [Bool.or_eq_true, Bool.not_eq_true', not_or, Bool.not_eq_false, decide_eq_true_eq, Decidable.not_not, ne_eq] at hsc
                obtain ⟨⟨⟨hsc, hgl⟩, hns⟩, hmn⟩ := hsc
                have hmn : sum.m = none := by
                  cases hh : sum.m with
                  | none => rfl
                  | some f => rw [hh] at hmn; simp at hmn
                have hglw : ∀ w, Cls w0 X w → GlOK sum.gl w := fun w hw => glIn_ok hgl (by rw [h.gl]; exact (h0.cls hX hw).glw)
                split at hs
                · rename_i as es hfl
                  obtain ⟨has, hs⟩ := asrts_sat hs
                  simp only [T.sat, hg] at hs
                  obtain ⟨hpre, hs⟩ := hs
                  have hargs : ∀ w, Cls w0 X w → ShsR (fun _ ks u n => SlN w ks u n) sum.ps ((c.args.toList.map s.ev ++ caps.map fun p => one (.p p.1 p.2)).map (SV.den (e0.at r))) (es.map (E.den e0.R r)) := fun w hw => (flats_ok (h.rep h0 hX hw _) hfl has).2
                  have hA := hG sum (List.mem_of_getElem? hg)
                  unfold Sum.okA at hA
                  rw [hmn] at hA
                  obtain ⟨_, hok⟩ := hA
                  have hl : (sum.sem (es.map (E.den e0.R r))).length = total sum.rs := (hok (es.map (E.den e0.R r)) _ w0 (hglw w0 (Cls.refl _ _)) (hargs w0 (Cls.refl _ _)) hpre).1
                  have hlex := h.more hsc (sum.sem (es.map (E.den e0.R r)))
                  rw [hl] at hlex
                  have hres : (resE ownG 0 sum.rs (varsFrom s.nv (total sum.rs))).den (e0.at (r ++ sum.sem (es.map (E.den e0.R r)))) = mkRes sum.rs (sum.sem (es.map (E.den e0.R r))) := by
                    rw [resE_flat _ _ _ hns, h.nv]
                    congr 1
                    exact varsFrom_den hl
                  have hput := hlex.put ho hu hdl (resE_scp _ _ (mk := ownG) 0 sum.rs (varsFrom s.nv (total sum.rs)) hns)
                  rw [hres] at hput
                  refine ⟨_, _, _, al, hput, hs, fun _ _ => rfl, hops', fin ?_⟩
                  intro w hw
                  rw [← hfn]
                  refine (hok (es.map (E.den e0.R r)) _ w (hglw w hw) (hargs w hw) hpre).2.mono ?_
                  rintro x w' ⟨v, rfl, hv, hb⟩
                  exact ⟨by rw [ResOK_flat hns hv], hb⟩
                · exact hs.elim
            · split at hs
              · rename_i Fn hFn
                split at hs
                · rename_i body rs hb hrs
                  obtain ⟨es, hk, hT⟩ := bindT_sat hs
                  split at hk
                  · rename_i hes
                    simp only [Bool.and_eq_true, decide_eq_true_eq] at hes
                    have hput := h.put ho hu hdl (resE_scp _ _ (mk := ownG) 0 rs es hes.2)
                    rw [resE_flat _ _ _ hes.2] at hput
                    refine ⟨_, _, _, al, hput, hk, fun _ _ => rfl, hops', fin ?_⟩
                    intro w hw
                    have hrep := h.rep h0 hX hw s.fr
                    refine (calls_done (Ψ := fun ys => ys = es.map (E.den e0.R r)) (bs := List.replicate s.dp (fun _ => True)) hih hrep (by simp) hFn hb (hT _ _ rfl)).mono ?_
                    rintro x w' ⟨ys, v, rfl, rfl, hv, hbel⟩
                    exact ⟨by rw [ResOK_flat hes.2 hv]; rfl, hbel.below⟩
                  · exact hk.elim
                · exact hs.elim
              · exact hs.elim
        · exact hs.elim
      · exact hs.elim
      · split at hs
        · rename_i as v s' h1
          split at hs
          · rename_i hv
            exact plain h1 hv hs
          · exact hs.elim
        · exact hs.elim
      · exact hs.elim
    · exact hs.elim
    · split at hs
      · rename_i as v s' h1
        obtain ⟨has, hs'⟩ := asrts_sat hs
        split at hs'
        · split at hs'
          · rename_i hv
            refine ⟨⟨fun _ => v.den (e0.at r), none⟩, _, r, al, h.put ho hu hdl hv, hs', fun _ _ => rfl, hops', ?_⟩
            intro act w hw hev K Q hK
            have hrep := h.rep h0 hX hw (maskFr s0.mem.length s0.rows.length s.fr)
            obtain ⟨_, _, _, _, _, _, e', w', nx, hr, hnx, hrep', hle, hr', hR', hω', _⟩ := op1_sound h1 hrep (fun x hx => (hev x hx).trans (congrArg (SV.den (e0.at r)) (evM (hops' x hx)).symm)) has
            have hlike := at_like hle hr' hR' hω' h0
            rw [SV.den_like hlike v hv] at hnx
            exact wp_of_value hr hnx (hK w' (hw.grow hrep'.below.below) hrep'.below.below)
          · exact hs'.elim
        · rename_i b hdrop
          split at hs'
          · rename_i hbc
            simp only [Bool.and_eq_true] at hbc
            have hblen : s'.mem.length = s0.mem.length + 1 ∧ s'.mem[s0.mem.length]? = some b := by
              have h2 : s'.mem[s0.mem.length]? = some b := by
                have := congrArg (fun l => l[0]?) hdrop
                simpa using this
              have h3 := congrArg List.length hdrop
              simp only [List.length_drop, List.length_cons, List.length_nil] at h3
              exact ⟨by omega, h2⟩
            have gen : ∀ {mk : Nat → SC} {val : Nat → Value}, ((∀ n, mk n = .p n 0) ∨ ∃ l c, ∀ n, mk n = .s n 0 l c) → (∀ (e : Env) n, (mk n).den e = val (e.β.getD n 0)) → v = one (mk s0.mem.length) →
                (k (({ s with mem := s.mem ++ [b] } : St).put o.dst (one (mk s.mem.length)))).sat Γ e0.R Ψ bs r →
                ∃ ent s' r' al', Lex s0 e0 a0 ops (i + 1) (upd ents i ent) s' r' al' ∧ (k s').sat Γ e0.R Ψ bs r' ∧ (ent.obj = none → ∀ n, ent.val n = ent.val 0) ∧
                  (∀ x ∈ o.op.operands, (s.ev x).scp s0.mem.length s0.rows.length = true) ∧
                  ∀ (act : Act) (w : World), Cls w0 X w → (∀ x ∈ o.op.operands, act.eval x = (s.ev x).den (e0.at r)) → BehW P w0 X o ent act w := by
              intro mk val hmk hval hv hs
              refine ⟨_, _, r, _, h.new ho hu hdl hbc.1 hbc.2 hmk hval, hs, fun hh => (by cases hh), hops', ?_⟩
              intro act w hw hev K Q hK
              have hrep := h.rep h0 hX hw (maskFr s0.mem.length s0.rows.length s.fr)
              obtain ⟨_, _, _, hfl, _, _, e', w', nx, hr, hnx, hrep', hle, hr', hR', hω', _⟩ := op1_sound h1 hrep (fun x hx => (hev x hx).trans (congrArg (SV.den (e0.at r)) (evM (hops' x hx)).symm)) has
              have hlike := at_like hle hr' hR' hω' h0
              have hblk := hrep'.blk _ b hblen.2 hbc.1
              have hown : w.heap.size ≤ e'.β.getD s0.mem.length 0 := (hrep'.own _ b hblen.2 hbc.1 (by rw [hfl]; exact Nat.le_refl _)).elim id (fun hh => hh.elim)
              rw [map_den_like hlike hbc.2] at hblk
              have hvd : v.den e' = val (e'.β.getD s0.mem.length 0) := by rw [hv]; exact hval e' _
              rw [hvd] at hnx
              exact wp_of_value hr hnx (hK _ w' (hw.grow hrep'.below.below) hrep'.below.below hown hblk)
            split at hs'
            · rename_i n
              split at hs'
              · rename_i hn
                subst hn
                exact gen (mk := fun n => .p n 0) (val := fun n => .pointer (some ⟨n, 0, none⟩)) (.inl fun _ => rfl) (fun _ _ => rfl) rfl hs'
              · exact hs'.elim
            · rename_i n l c
              split at hs'
              · rename_i hn
                subst hn
                exact gen (mk := fun n => .s n 0 l c) (val := fun n => .slice (some ⟨n, 0, none⟩) l c) (.inr ⟨l, c, fun _ => rfl⟩) (fun _ _ => rfl) rfl hs'
              · exact hs'.elim
            · exact hs'.elim
          · exact hs'.elim
        · exact hs'.elim
      · exact hs.elim
end
end Go.Sx
