/-
  Symbolic execution: calls, appends, sequences.
-/
import Derived.Test.YtgcoidbaoigkeaaSwJ
namespace Go.Sx
open Go.RowKit

variable {P : Program} {Γ : List Sum} {Ψ : List Int → Prop} {bs : List (List Int → Prop)}

/-- A summary of a function that writes: what it makes of a state. -/
def Sum.okM (P : Program) (sum : Sum) (f : St → List SV → Option (List B × List E × (Nat → St × SV))) : Prop :=
  ∀ (W0 : Bas) (e : Env) (s : St) (w : World) (args : List SV) (as : List B) (es : List E) (kk : Nat → St × SV), Rep e W0 s w → s.sc = true → args.all (SV.sc s.nv s.mem.length s.rows.length s.nx) = true → glIn sum.gl s.gl = true →
    f s args = some (as, es, kk) → (∀ b ∈ as, b.den e.R e.r = true) → sum.pre (es.map (E.den e.R e.r)) →
    Calls P sum.fn (args.map (SV.den e)).toArray w fun x w' => ∃ e', x = .returned ((kk s.nv).2.den e') ∧ Env.le e e' ∧ e'.r = e.r ++ sum.sem (es.map (E.den e.R e.r)) ∧ Rep e' W0 (kk s.nv).1 w' ∧
      (kk s.nv).1.fr = s.fr ∧ (kk s.nv).1.fl = s.fl ∧ (kk s.nv).1.flr = s.flr ∧ (kk s.nv).1.dp = s.dp
def Sum.okA (P : Program) (sum : Sum) : Prop := match sum.m with
  | some f => sum.okM P f
  | none => sum.ok P
theorem Sum.ok.A {P : Program} {sum : Sum} (h : sum.ok P) (hm : sum.m = none) : sum.okA P := by
  unfold Sum.okA
  rw [hm]
  exact h
/-- Every summary in the list is right. -/
def Gok (P : Program) (Γ : List Sum) : Prop := ∀ s ∈ Γ, s.okA P

theorem findSum_spec {fn : FuncId} : ∀ {l : List Sum} {g0 g : Nat} {s : Sum}, findSum fn l g0 = some (g, s) → s.fn = fn ∧ ∃ j, g = g0 + j ∧ l[j]? = some s
  | [], _, _, _, h => by simp [findSum] at h
  | x :: l, g0, g, s, h => by
    simp only [findSum] at h
    split at h
    · rename_i hx
      simp only [Option.some.injEq, Prod.mk.injEq] at h
      obtain ⟨rfl, rfl⟩ := h
      exact ⟨hx, 0, rfl, rfl⟩
    · obtain ⟨h1, j, h2, h3⟩ := findSum_spec h
      exact ⟨h1, j + 1, by omega, by simpa using h3⟩

theorem callable_spec {fn : FuncId} (h : callable P fn = true) : ∃ F body, P.funcs[fn]? = some F ∧ F.body = some body ∧ (F.name == "runtime.NumGoroutine") = false := by
  unfold callable at h
  split at h
  · rename_i F hF
    simp only [Bool.and_eq_true, bne_iff_ne, ne_eq] at h
    obtain ⟨body, hb⟩ := Option.isSome_iff_exists.1 h.1
    exact ⟨F, body, hF, hb, by simpa using h.2⟩
  · cases h

/-- A call of a function by its value enters it. -/
theorem run_enter {fn : FuncId} (hc : callable P fn = true) {o : Oper} {c : Call} {F : Operand} (ho : o.op = .call c) (hcal : c.callee = .value F) {ev : Operand → Value} {caps : Array Value} (hF : ev F = .func (.func fn) #[] caps) (w : World) :
    (execOp ev o).run P w = .ok (.enter fn (c.args.map ev ++ caps)) w := by
  obtain ⟨Fn, body, h1, h2, h3⟩ := callable_spec hc
  simp only [execOp, ho, resolve, hcal, hF, Deferred.ofValue, pure_bind, invoke, callFunc, Sem.run_bind, run_program, Result.andThen_ok, h1, h2, h3]
  simp

/-- What a call leaves. -/
theorem glIn_ok {a b : List (Nat × List Int)} {w : World} (h : glIn a b = true) (hb : GlOK b w) : GlOK a w := by
  intro p hp
  obtain ⟨q, hq, hs⟩ := List.any_eq_true.1 (List.all_eq_true.1 h p hp)
  simp only [sameG, Bool.and_eq_true, beq_iff_eq] at hs
  have : p = q := Prod.ext hs.1 hs.2
  subst this
  exact hb p hq

theorem SC.sc_scp {nv nb ng : Nat} : ∀ {c : SC}, c.sc nv nb ng = true → c.scp nb ng = true := by
  intro c h
  have hG : ∀ {g : G}, g.sc nv ng = true → g.scp ng = true := by
    intro g hg
    cases g <;> first | exact hg | rfl
  cases c <;> simp only [SC.sc, SC.scp, Bool.and_eq_true] at h ⊢ <;> first | exact h | exact hG h | exact hG h.1 | exact h.1

theorem SV.sc_scp {nv nb ng nx : Nat} {v : SV} (h : v.sc nv nb ng nx = true) : v.scp nb ng = true := by
  have hW : ∀ {y : SW}, y.sc nv nb ng = true → y.scp nb ng = true := by
    intro y hy
    cases y with
    | o c => exact SC.sc_scp hy
    | a cs => exact List.all_eq_true.2 fun c hc => SC.sc_scp (List.all_eq_true.1 hy c hc)
  cases v with
  | w y => exact hW h
  | t xs => exact List.all_eq_true.2 fun y hy => hW (List.all_eq_true.1 h y hy)
  | un i => rfl

theorem St.sc_scp {s : St} (h : s.sc = true) : s.scp = true := by
  simp only [St.sc, St.scp, Bool.and_eq_true] at h ⊢
  exact ⟨List.all_eq_true.2 fun v hv => SV.sc_scp (List.all_eq_true.1 h.1.1 v hv), List.all_eq_true.2 fun b hb => List.all_eq_true.2 fun c hc => SC.sc_scp (List.all_eq_true.1 (List.all_eq_true.1 h.1.2 b hb) c hc)⟩

/-- Rows die. -/
theorem Rep.kill {e : Env} {W0 : Bas} {s : St} {w : World} (h : Rep e W0 s w) {rows : List Row} (hl : rows.length = s.rows.length) (hr : ∀ (j : Nat) (b : Row), rows[j]? = some b → b.live = true → s.rows[j]? = some b) : Rep e W0 { s with rows := rows } w :=
  ⟨h.below, h.nb, h.ng.trans hl.symm, h.nv, h.nx, h.blk, h.own, h.sep, fun n b hb hlv => h.row n b (hr n b hb hlv) hlv, fun n b hb hlv => h.rown n b (hr n b hb hlv) hlv,
    fun n m b c k hb hc h1 h2 => h.rsep n m b c k (hr n b hb h1) (hr m c hc h2) h1 h2, fun n m b c hb hc h1 h2 => h.brs n m b c hb (hr m c hc h2) h1 h2, h.gl, h.arg⟩

/-- The world changes where nothing is known. -/
theorem Rep.grownRow {e : Env} {W0 : Bas} {s : St} {w w' : World} (h : Rep e W0 s w) {row : Option Nat} (hg : w.grownBy w' row) (h0 : ∀ k, row = some k → W0.may k)
    (h1 : ∀ (n : Nat) (b : Blk), s.mem[n]? = some b → b.live = true → row ≠ some (e.β.getD n 0)) (h2 : ∀ (n : Nat) (b : Row), s.rows[n]? = some b → b.live = true → ∀ k, rowBlk ((G.o n).val e) = some k → row ≠ some k) : Rep e W0 s w' := by
  refine ⟨h.below.grown hg h0, h.nb, h.ng, h.nv, h.nx, ?_, h.own, h.sep, ?_, h.rown, h.rsep, h.brs, h.gl, h.arg⟩
  · intro n b hb hl
    rw [hg.block _ (heap_lt (h.blk n b hb hl)) (fun hk => h1 n b hb hl hk.symm)]
    exact h.blk n b hb hl
  · intro n b hb hl
    exact (h.row n b hb hl).kept hg (h2 n b hb hl)

/-- New rows. -/
theorem Rep.addRows {e : Env} {W0 : Bas} {s : St} {w : World} (h : Rep e W0 s w) (hs : s.scp = true) {rows : List Row} {vals : List Value} (hl : vals.length = rows.length)
    (hrow : ∀ (j : Nat) (b : Row) (v : Value), rows[j]? = some b → vals[j]? = some v → b.live = true → (∃ a l c, v = .slice a l c) ∧ RowOK w b.ty b.ks v (b.c.den e.R e.r))
    (hnew : ∀ (j : Nat) (b : Row) (v : Value) (k : Nat), rows[j]? = some b → vals[j]? = some v → b.live = true → rowBlk v = some k → W0.may k ∧ (∀ (n : Nat) (b : Blk), s.mem[n]? = some b → b.live = true → e.β.getD n 0 ≠ k) ∧ (∀ (n : Nat) (b : Row), s.rows[n]? = some b → b.live = true → rowBlk ((G.o n).val e) ≠ some k))
    (hap : ∀ (i j : Nat) (u v : Value) (k : Nat), vals[i]? = some u → vals[j]? = some v → rowBlk u = some k → rowBlk v = some k → i = j) :
    Rep { e with σ := e.σ ++ vals } W0 { s with rows := s.rows ++ rows } w ∧ Env.like s.mem.length s.rows.length e { e with σ := e.σ ++ vals } := by
  obtain ⟨hf, hm⟩ := St.scp_spec hs
  have hlike : Env.like s.mem.length s.rows.length e { e with σ := e.σ ++ vals } :=
    ⟨rfl, rfl, rfl, fun _ _ => rfl, fun n hn => getD_app_lt _ _ _ _ (by rw [h.ng]; exact hn)⟩
  refine ⟨?_, hlike⟩
  have hold : ∀ n, n < s.rows.length → (G.o n).val { e with σ := e.σ ++ vals } = (G.o n).val e := fun n hn => G.val_like hlike (.o n) (by simpa [G.scp] using hn)
  have hcases : ∀ (n : Nat) (b : Row), (s.rows ++ rows)[n]? = some b → (n < s.rows.length ∧ s.rows[n]? = some b) ∨ ∃ j v, n = s.rows.length + j ∧ rows[j]? = some b ∧ vals[j]? = some v ∧ ((b.live = true) → (G.o n).val { e with σ := e.σ ++ vals } = v) := by
    intro n b hb
    rcases Nat.lt_or_ge n s.rows.length with hn | hn
    · exact .inl ⟨hn, by rwa [List.getElem?_append_left hn] at hb⟩
    · rw [List.getElem?_append_right hn] at hb
      have hj := (List.getElem?_eq_some_iff.1 hb).1
      have hv : vals[n - s.rows.length]? = some (vals[n - s.rows.length]'(by omega)) := List.getElem?_eq_getElem (by omega)
      refine .inr ⟨n - s.rows.length, _, by omega, hb, hv, fun hlv => ?_⟩
      obtain ⟨⟨a, l, c, hsl⟩, _⟩ := hrow _ b _ hb hv hlv
      simp only [G.val]
      have : (e.σ ++ vals).getD n undef = vals[n - s.rows.length]'(by omega) := by
        simp only [List.getD]
        rw [List.getElem?_append_right (by rw [h.ng]; exact hn), h.ng, hv]
        rfl
      rw [this, hsl]
      rfl
  refine ⟨h.below, h.nb, ?_, h.nv, h.nx, ?_, h.own, h.sep, ?_, ?_, ?_, ?_, h.gl, ?_⟩
  · simp [h.ng, hl]
  · intro n b hb hlv
    rw [map_den_like hlike (hm b (List.mem_of_getElem? hb))]
    exact h.blk n b hb hlv
  · intro n b hb hlv
    rcases hcases n b hb with ⟨hn, hb'⟩ | ⟨j, v, rfl, hj, hv, hval⟩
    · rw [hold n hn]; exact h.row n b hb' hlv
    · rw [hval hlv]; exact (hrow j b v hj hv hlv).2
  · intro n b hb hlv hfl k hk
    rcases hcases n b hb with ⟨hn, hb'⟩ | ⟨j, v, rfl, hj, hv, hval⟩
    · rw [hold n hn] at hk; exact h.rown n b hb' hlv hfl k hk
    · rw [hval hlv] at hk; exact (hnew j b v k hj hv hlv hk).1
  · intro n m b c k hb hc hlb hlc h1 h2
    rcases hcases n b hb with ⟨hn, hb'⟩ | ⟨j, v, rfl, hj, hv, hval⟩ <;> rcases hcases m c hc with ⟨hm', hc'⟩ | ⟨j', v', rfl, hj', hv', hval'⟩
    · rw [hold n hn] at h1; rw [hold m hm'] at h2; exact h.rsep n m b c k hb' hc' hlb hlc h1 h2
    · rw [hold n hn] at h1; rw [hval' hlc] at h2; exact absurd h1 ((hnew j' c v' k hj' hv' hlc h2).2.2 n b hb' hlb)
    · rw [hval hlb] at h1; rw [hold m hm'] at h2; exact absurd h2 ((hnew j b v k hj hv hlb h1).2.2 m c hc' hlc)
    · rw [hval hlb] at h1; rw [hval' hlc] at h2; rw [hap j j' v v' k hv hv' h1 h2]
  · intro n m b c hb hc hlb hlc
    rcases hcases m c hc with ⟨hm', hc'⟩ | ⟨j', v', rfl, hj', hv', hval'⟩
    · rw [hold m hm']; exact h.brs n m b c hb hc' hlb hlc
    · rw [hval' hlc]
      intro hk
      exact (hnew j' c v' _ hj' hv' hlc hk).2.1 n b hb hlb rfl
  · intro i ks c hi
    exact h.arg i ks c hi

/-! ### slices among results -/
theorem slsC_rows {S : TypeId → List K → Value → Int → Prop} {e : Env} : ∀ {ks : List K} {cs : List Value} {es : List E}, CellsR S ks cs (es.map (E.den e.R e.r)) →
    (slsC ks cs).length = (rowsE ks es).length ∧ (slsC ks cs).length = nS ks ∧ ∀ (j : Nat) (b : Row) (v : Value), (rowsE ks es)[j]? = some b → (slsC ks cs)[j]? = some v → S b.ty b.ks v (b.c.den e.R e.r)
  | [], [], [], _ => ⟨rfl, rfl, fun j b v h => by simp [rowsE] at h⟩
  | k :: ks, c :: cs, x :: es, h => by
    obtain ⟨h1, h2⟩ := h
    obtain ⟨a1, a2, a3⟩ := slsC_rows (e := e) h2
    cases k with
    | i k => exact ⟨a1, a2, a3⟩
    | b => exact ⟨a1, a2, a3⟩
    | s ty kr =>
      refine ⟨by simp [slsC, rowsE, a1], by simp [slsC, nS, a2], fun j b v hj hv => ?_⟩
      cases j with
      | zero =>
        simp only [rowsE, slsC, List.getElem?_cons_zero, Option.some.injEq] at hj hv
        subst hj; subst hv
        exact h1
      | succ j => exact a3 j b v (by simpa [rowsE] using hj) (by simpa [slsC] using hv)
  | [], [], _ :: _, h => h.elim
  | [], _ :: _, _, h => h.elim
  | _ :: _, [], _, h => h.elim
  | _ :: _, _ :: _, [], h => h.elim

theorem CellsR.len {S : TypeId → List K → Value → Int → Prop} : ∀ {ks : List K} {cs : List Value} {xs : List Int}, CellsR S ks cs xs → cs.length = ks.length ∧ xs.length = ks.length
  | [], [], [], _ => ⟨rfl, rfl⟩
  | _ :: _, _ :: _, _ :: _, h => by obtain ⟨h1, h2⟩ := CellsR.len h.2; simp [h1, h2]
  | [], [], _ :: _, h => h.elim
  | [], _ :: _, _, h => h.elim
  | _ :: _, [], _, h => h.elim
  | _ :: _, _ :: _, [], h => h.elim

theorem rowsE_app : ∀ {ks kr : List K} {es er : List E}, es.length = ks.length → rowsE (ks ++ kr) (es ++ er) = rowsE ks es ++ rowsE kr er
  | [], _, [], _, _ => rfl
  | k :: ks, kr, x :: es, er, h => by
    simp only [List.length_cons, Nat.add_right_cancel_iff] at h
    cases k <;> simp [rowsE, rowsE_app h]
  | [], _, _ :: _, _, h => by simp at h
  | _ :: _, _, [], _, h => by simp at h

theorem rowsE_live : ∀ {ks : List K} {es : List E} {j : Nat} {b : Row}, (rowsE ks es)[j]? = some b → b.live = true
  | [], _, j, b, h => by simp [rowsE] at h
  | .i _ :: ks, [], j, b, h => by simp [rowsE] at h
  | .b :: ks, [], j, b, h => by simp [rowsE] at h
  | .s _ _ :: ks, [], j, b, h => by simp [rowsE] at h
  | .i _ :: ks, _ :: es, j, b, h => rowsE_live (ks := ks) (es := es) (j := j) h
  | .b :: ks, _ :: es, j, b, h => rowsE_live (ks := ks) (es := es) (j := j) h
  | .s _ _ :: ks, _ :: es, 0, b, h => by simp only [rowsE, List.getElem?_cons_zero, Option.some.injEq] at h; rw [← h]
  | .s _ _ :: ks, _ :: es, j + 1, b, h => rowsE_live (ks := ks) (es := es) (j := j) (by simpa [rowsE] using h)

theorem ShR.len {S : TypeId → List K → Value → Int → Prop} {s : Sh} {v : Value} {xs : List Int} (h : ShR S s v xs) : xs.length = s.ks.length := by
  unfold ShR at h
  split at h
  · obtain ⟨cs, _, h⟩ := h; exact h.len.2
  · exact h.len.2

theorem slsSh_rows {S : TypeId → List K → Value → Int → Prop} {e : Env} {s : Sh} {v : Value} {es : List E} (h : ShR S s v (es.map (E.den e.R e.r))) :
    (slsSh s v).length = (rowsE s.ks es).length ∧ (slsSh s v).length = nS s.ks ∧ ∀ (j : Nat) (b : Row) (u : Value), (rowsE s.ks es)[j]? = some b → (slsSh s v)[j]? = some u → S b.ty b.ks u (b.c.den e.R e.r) := by
  unfold ShR at h
  unfold slsSh
  split at h
  · rename_i ha
    obtain ⟨cs, rfl, h⟩ := h
    simp only [ha, if_true]
    exact slsC_rows h
  · rename_i ha
    simp only [ha]
    exact slsC_rows h

theorem total_allK : ∀ ss : List Sh, (allK ss).length = total ss
  | [] => rfl
  | s :: ss => by simp [allK, total, total_allK ss]

theorem ShsR.len {S : TypeId → List K → Value → Int → Prop} : ∀ {ss : List Sh} {vs : List Value} {xs : List Int}, ShsR S ss vs xs → xs.length = total ss ∧ vs.length = ss.length
  | [], _, _, h => by rw [h.1, h.2]; exact ⟨rfl, rfl⟩
  | s :: ss, _, _, ⟨v, vr, ys, yr, h1, h2, h3, h4⟩ => by
    obtain ⟨a1, a2⟩ := ShsR.len h4
    subst h1; subst h2
    exact ⟨by simp [total, h3.len, a1], by simp [a2]⟩

theorem map_split {e : Env} {es : List E} {ys yr : List Int} (h : es.map (E.den e.R e.r) = ys ++ yr) : ∃ e1 e2, es = e1 ++ e2 ∧ e1.map (E.den e.R e.r) = ys ∧ e2.map (E.den e.R e.r) = yr :=
  ⟨es.take ys.length, es.drop ys.length, by simp, by rw [List.map_take, h, List.take_left], by rw [List.map_drop, h, List.drop_left]⟩

theorem slsShs_rows {S : TypeId → List K → Value → Int → Prop} {e : Env} : ∀ {ss : List Sh} {vs : List Value} {es : List E}, ShsR S ss vs (es.map (E.den e.R e.r)) →
    (slsShs ss vs).length = (rowsE (allK ss) es).length ∧ ∀ (j : Nat) (b : Row) (u : Value), (rowsE (allK ss) es)[j]? = some b → (slsShs ss vs)[j]? = some u → S b.ty b.ks u (b.c.den e.R e.r)
  | [], vs, es, h => by
    rw [h.1]
    exact ⟨rfl, fun j b u hj => by simp [allK, rowsE] at hj⟩
  | s :: ss, vs, es, ⟨v, vr, ys, yr, h1, h2, h3, h4⟩ => by
    subst h1
    obtain ⟨e1, e2, rfl, he1, he2⟩ := map_split h2
    rw [← he1] at h3
    rw [← he2] at h4
    obtain ⟨a1, _, a3⟩ := slsSh_rows h3
    obtain ⟨b1, b2⟩ := slsShs_rows h4
    have hl : e1.length = s.ks.length := by have := h3.len; simpa using this
    simp only [allK, slsShs, rowsE_app hl, List.length_append, a1, b1, true_and]
    intro j b u hj hu
    rcases Nat.lt_or_ge j (rowsE s.ks e1).length with hlt | hge
    · rw [List.getElem?_append_left hlt] at hj
      rw [List.getElem?_append_left (by omega)] at hu
      exact a3 j b u hj hu
    · rw [List.getElem?_append_right hge] at hj
      rw [List.getElem?_append_right (by omega), a1] at hu
      exact b2 _ b u hj hu

theorem cellsE_val {S : TypeId → List K → Value → Int → Prop} {e : Env} {mk : Nat → SC} : ∀ {ks : List K} {cs : List Value} {es : List E} {i : Nat}, CellsR S ks cs (es.map (E.den e.R e.r)) →
    (∀ (j : Nat) (v : Value), (slsC ks cs)[j]? = some v → (mk (i + j)).den e = v) → (cellsE mk i ks es).map (SC.den e) = cs
  | [], [], [], i, _, _ => rfl
  | k :: ks, c :: cs, x :: es, i, h, hm => by
    obtain ⟨h1, h2⟩ := h
    cases k with
    | i k =>
      simp only [cellsE, List.map_cons, cellsE_val h2 hm]
      rw [show c = Value.int k (x.den e.R e.r) from h1]
      rfl
    | b =>
      simp only [cellsE, List.map_cons, cellsE_val h2 hm]
      rw [show c = Value.bool (x.den e.R e.r != 0) from h1]
      congr 1
      simp only [SC.den]
      congr 1
      unfold mkNz
      split <;> simp [B.den, E.den]
    | s ty kr =>
      simp only [cellsE, List.map_cons]
      rw [cellsE_val h2 (fun j v hj => by
        have := hm (j + 1) v (by simpa [slsC] using hj)
        rwa [show i + (j + 1) = i + 1 + j by omega] at this)]
      have := hm 0 c rfl
      rw [Nat.add_zero] at this
      rw [this]
  | [], [], _ :: _, _, h, _ => h.elim
  | [], _ :: _, _, _, h, _ => h.elim
  | _ :: _, [], _, _, h, _ => h.elim
  | _ :: _, _ :: _, [], _, h, _ => h.elim

theorem shE_val {S : TypeId → List K → Value → Int → Prop} {e : Env} {mk : Nat → SC} {s : Sh} {v : Value} {es : List E} {i : Nat} (h : ShR S s v (es.map (E.den e.R e.r)))
    (hm : ∀ (j : Nat) (u : Value), (slsSh s v)[j]? = some u → (mk (i + j)).den e = u) : (shE mk i s es).den e = v := by
  unfold ShR at h
  unfold slsSh at hm
  unfold shE
  split at h
  · rename_i ha
    obtain ⟨cs, rfl, h⟩ := h
    simp only [ha, if_true] at hm ⊢
    simp only [SW.den]
    rw [cellsE_val h hm]
  · rename_i ha
    simp only [ha] at hm
    have := cellsE_val h hm
    simp only [ha]
    cases hc : cellsE mk i s.ks es with
    | nil => rw [hc] at this; simp at this
    | cons c l =>
      rw [hc] at this
      simp only [List.map_cons, List.cons.injEq] at this
      exact this.1

theorem shsE_val {S : TypeId → List K → Value → Int → Prop} {e : Env} {mk : Nat → SC} : ∀ {ss : List Sh} {vs : List Value} {es : List E} {i : Nat}, ShsR S ss vs (es.map (E.den e.R e.r)) →
    (∀ (j : Nat) (u : Value), (slsShs ss vs)[j]? = some u → (mk (i + j)).den e = u) → (shsE mk i ss es).map (SW.den e) = vs
  | [], vs, es, i, h, _ => by rw [h.1]; rfl
  | s :: ss, vs, es, i, ⟨v, vr, ys, yr, h1, h2, h3, h4⟩, hm => by
    subst h1
    obtain ⟨e1, e2, rfl, he1, he2⟩ := map_split h2
    rw [← he1] at h3
    rw [← he2] at h4
    have hl : e1.length = s.ks.length := by have := h3.len; simpa using this
    obtain ⟨a1, a2, _⟩ := slsSh_rows h3
    simp only [shsE, List.map_cons]
    rw [← hl, List.take_left, List.drop_left]
    rw [shE_val h3 (fun j u hj => hm j u (by
      simp only [slsShs]
      rw [List.getElem?_append_left (List.getElem?_eq_some_iff.1 hj).1]
      exact hj))]
    rw [shsE_val h4 (fun j u hj => by
      have := hm (nS s.ks + j) u (by
        simp only [slsShs]
        rw [List.getElem?_append_right (by omega), a2, show nS s.ks + j - nS s.ks = j by omega]
        exact hj)
      rwa [← Nat.add_assoc] at this)]

theorem resE_val {S : TypeId → List K → Value → Int → Prop} {e : Env} {mk : Nat → SC} {ss : List Sh} {vs : List Value} {es : List E} {i : Nat} (h : ShsR S ss vs (es.map (E.den e.R e.r)))
    (hm : ∀ (j : Nat) (u : Value), (slsShs ss vs)[j]? = some u → (mk (i + j)).den e = u) : (resE mk i ss es).den e = resV vs := by
  have := shsE_val h hm
  unfold resE resV
  rw [← this]
  match shsE mk i ss es with
  | [] => rfl
  | [x] => rfl
  | x :: y :: l => rfl

theorem apartV_spec {l : List Value} (h : apartV l) : ∀ (i j : Nat) (u v : Value) (k : Nat), l[i]? = some u → l[j]? = some v → rowBlk u = some k → rowBlk v = some k → i = j := by
  unfold apartV at h
  intro i j u v k hi hj hu hv
  rw [List.pairwise_iff_getElem] at h
  obtain ⟨hi1, hi2⟩ := List.getElem?_eq_some_iff.1 hi
  obtain ⟨hj1, hj2⟩ := List.getElem?_eq_some_iff.1 hj
  rcases Nat.lt_trichotomy i j with hlt | heq | hgt
  · exact absurd (by rw [hj2]; exact hv) (h i j hi1 hj1 hlt k (by rw [hi2]; exact hu))
  · exact heq
  · exact absurd (by rw [hi2]; exact hu) (h j i hj1 hi1 hgt k (by rw [hj2]; exact hv))

theorem callW_sum {s : St} {a : Act} {w : World} {W0 : Bas} {e : Env} {sum : Sum} {as : List B} {es : List E} {args : List SV} {g : Nat} {dst : Option Tmp} {k : St → T} (hG : Gok P Γ) (h : Rel e W0 s a w) (hdp : s.dp = bs.length) (hsc : s.sc = true)
    (hg : Γ[g]? = some sum) (hmn : sum.m = none) (hgl : glIn sum.gl s.gl = true) (hfl : flats s sum.ps args = some (as, es))
    (hs : (asrts as (T.call g es (k ({ s with nv := s.nv + total sum.rs, rows := s.rows ++ rowsE (allK sum.rs) (varsFrom s.nv (total sum.rs)) }.put dst (resE ownG s.rows.length sum.rs (varsFrom s.nv (total sum.rs))))))).sat Γ e.R Ψ bs e.r) :
    Calls P sum.fn (args.map (SV.den e)).toArray w fun x w' => ∃ v, x = .returned v ∧ Nx Γ Ψ bs W0 e s.fl s.flr k (a.put dst v) w' := by
  obtain ⟨has, hs⟩ := asrts_sat hs
  simp only [T.sat, hg] at hs
  obtain ⟨hpre, hs⟩ := hs
  obtain ⟨hlen, hden⟩ := flats_ok h.rep hfl has
  have hA := hG sum (List.mem_of_getElem? hg)
  unfold Sum.okA at hA
  rw [hmn] at hA
  obtain ⟨_, hok⟩ := hA
  obtain ⟨hl, hcalls⟩ := hok (es.map (E.den e.R e.r)) _ w (glIn_ok hgl h.rep.glw) hden hpre
  refine hcalls.mono fun x w' ⟨v, hx, ⟨vs, hv, hres, hap⟩, hb⟩ => ⟨_, hx, ?_⟩
  obtain ⟨hrep, hfr, hle⟩ := h.rep.vars hsc (sum.sem (es.map (E.den e.R e.r)))
  have hrep2 := hrep.grown hb
  have hvars : (varsFrom s.nv (total sum.rs)).map (E.den e.R (e.r ++ sum.sem (es.map (E.den e.R e.r)))) = sum.sem (es.map (E.den e.R e.r)) := by
    rw [← h.rep.nv]; exact varsFrom_den hl
  have hres' : ShsR (fun ty ks u n => RowOK w' ty ks u n ∧ ∀ k, rowBlk u = some k → w.heap.size ≤ k) sum.rs vs ((varsFrom s.nv (total sum.rs)).map (E.den ({ e with r := e.r ++ sum.sem (es.map (E.den e.R e.r)) } : Env).R ({ e with r := e.r ++ sum.sem (es.map (E.den e.R e.r)) } : Env).r)) := by
    show ShsR _ sum.rs vs ((varsFrom s.nv (total sum.rs)).map (E.den e.R (e.r ++ sum.sem (es.map (E.den e.R e.r)))))
    rw [hvars]; exact hres
  obtain ⟨r1, r2⟩ := slsShs_rows hres'
  have hslice : ∀ {ty ks u n}, RowOK w' ty ks u n → ∃ a l c, u = .slice a l c := by
    intro ty ks u n hr
    rcases hr with ⟨_, h2 | ⟨b, off, h2⟩⟩ | ⟨_, _, h2⟩
    · exact ⟨_, _, _, h2⟩
    · exact ⟨_, _, _, h2⟩
    · rcases h2.2 with ⟨h3, _⟩ | ⟨g, cap, cur, h3, _⟩
      · exact ⟨_, _, _, h3⟩
      · exact ⟨_, _, _, h3⟩
  have hscp : ({ s with nv := s.nv + (sum.sem (es.map (E.den e.R e.r))).length } : St).scp = true := (St.sc_scp hsc : s.scp = true)
  obtain ⟨hrep3, hlike⟩ := hrep2.addRows hscp (rows := rowsE (allK sum.rs) (varsFrom s.nv (total sum.rs))) (vals := slsShs sum.rs vs) r1
    (fun j b u hj hu _ => ⟨hslice (r2 j b u hj hu).1, (r2 j b u hj hu).1⟩)
    (fun j b u k hj hu _ hk => by
      have hge := (r2 j b u hj hu).2 k hk
      refine ⟨.inl (Nat.le_trans h.rep.below.size hge), fun n c hc hlc heq => ?_, fun n c hc hlc heq => ?_⟩
      · have := heap_lt (h.rep.blk n c hc hlc)
        have heq' : e.β.getD n 0 = k := heq
        omega
      · have := (h.rep.row n c hc hlc).blk_lt heq
        omega)
    (apartV_spec hap)
  rw [hl] at hrep3
  have hle2 : Env.le e { e with r := e.r ++ sum.sem (es.map (E.den e.R e.r)), σ := e.σ ++ slsShs sum.rs vs } := ⟨sum.sem (es.map (E.den e.R e.r)), [], slsShs sum.rs vs, [], by simp⟩
  have hrel : Rel { e with r := e.r ++ sum.sem (es.map (E.den e.R e.r)), σ := e.σ ++ slsShs sum.rs vs } W0 { s with nv := s.nv + total sum.rs, rows := s.rows ++ rowsE (allK sum.rs) (varsFrom s.nv (total sum.rs)) } a w' :=
    ⟨hrep3, by
      rw [h.tmps]; congr 1
      refine List.map_congr_left fun v hv => ?_
      rw [← hfr v hv]
      exact (SV.den_like hlike v ((St.scp_spec hscp).1 v hv)).symm, h.defs⟩
  have hresv : (resE ownG s.rows.length sum.rs (varsFrom s.nv (total sum.rs))).den { e with r := e.r ++ sum.sem (es.map (E.den e.R e.r)), σ := e.σ ++ slsShs sum.rs vs } = v := by
    rw [hv]
    refine resE_val (e := { e with r := e.r ++ sum.sem (es.map (E.den e.R e.r)), σ := e.σ ++ slsShs sum.rs vs }) hres' fun j u hj => ?_
    obtain ⟨b, hb'⟩ : ∃ b, (rowsE (allK sum.rs) (varsFrom s.nv (total sum.rs)))[j]? = some b := ⟨_, List.getElem?_eq_getElem (by rw [← r1]; exact (List.getElem?_eq_some_iff.1 hj).1)⟩
    obtain ⟨aa, ll, cc, hsl⟩ := hslice (r2 j b u hb' hj).1
    simp only [ownG, SC.den, G.val]
    have : (e.σ ++ slsShs sum.rs vs).getD (s.rows.length + j) undef = u := by
      simp only [List.getD]
      rw [List.getElem?_append_right (by rw [h.rep.ng]; omega), h.rep.ng, show s.rows.length + j - s.rows.length = j by omega, hj]
      rfl
    rw [this, hsl]
    rfl
  rw [← hresv]
  exact Nx.here hle2 (hrel.put dst _) ((put_fields _ dst _).2.2.2.2.1) ((put_fields _ dst _).2.2.2.2.2) ((put_dp _ _ _).trans hdp) hs

/-- A call of a function that writes. -/
theorem callW_m {s : St} {a : Act} {w : World} {W0 : Bas} {e : Env} {sum : Sum} {f : St → List SV → Option (List B × List E × (Nat → St × SV))} {as : List B} {es : List E} {kk : Nat → St × SV} {args : List SV} {g : Nat} {dst : Option Tmp} {k : St → T} (hG : Gok P Γ) (h : Rel e W0 s a w) (hdp : s.dp = bs.length) (hsc : s.sc = true)
    (hg : Γ[g]? = some sum) (hmn : sum.m = some f) (hgl : glIn sum.gl s.gl = true) (hargs : args.all (SV.sc s.nv s.mem.length s.rows.length s.nx) = true) (hfl : f s args = some (as, es, kk))
    (hs : (asrts as (T.call g es (k ((kk s.nv).1.put dst (kk s.nv).2)))).sat Γ e.R Ψ bs e.r) :
    Calls P sum.fn (args.map (SV.den e)).toArray w fun x w' => ∃ v, x = .returned v ∧ Nx Γ Ψ bs W0 e s.fl s.flr k (a.put dst v) w' := by
  obtain ⟨has, hs⟩ := asrts_sat hs
  simp only [T.sat, hg] at hs
  obtain ⟨hpre, hs⟩ := hs
  have hA := hG sum (List.mem_of_getElem? hg)
  unfold Sum.okA at hA
  rw [hmn] at hA
  refine (hA W0 e s w args as es kk h.rep hsc hargs hgl hfl has hpre).mono ?_
  rintro x w' ⟨e', rfl, hle, hr, hrep, h1, h2, h3, h4⟩
  refine ⟨_, rfl, ?_⟩
  have hfr : s.fr.map (SV.den e') = s.fr.map (SV.den e) := by
    refine List.map_congr_left fun v hv => SV.den_le hle v ?_
    simp only [St.sc, Bool.and_eq_true] at hsc
    obtain ⟨⟨hf, _⟩, _⟩ := hsc
    rw [← h.rep.nv, ← h.rep.nb, ← h.rep.ng, ← h.rep.nx] at hf
    exact List.all_eq_true.1 hf v hv
  have hrel : Rel e' W0 (kk s.nv).1 a w' := ⟨hrep, by rw [h.tmps, h1, hfr], h.defs⟩
  have hR : e'.R = e.R := by obtain ⟨_, _, _, _, _, _, _, _, hR⟩ := hle; exact hR
  refine Nx.here hle (hrel.put dst _) (((put_fields _ dst _).2.2.2.2.1).trans h2) (((put_fields _ dst _).2.2.2.2.2).trans h3) ((put_dp _ _ _).trans (h4.trans hdp)) ?_
  rw [hr, hR]
  exact hs

/-! ### results -/
theorem loadS_run {e : Env} {W0 : Bas} {s : St} {w : World} (h : Rep e W0 s w) {t : TypeId} {v : SV} {y : SW} (hl : loadS P s t v = some y) : ∃ a, v.den e = .pointer (some a) ∧ (loadVar t a).run P w = .ok (y.den e) w := by
  unfold loadS at hl
  split at hl
  · rename_i n off
    split at hl
    · rename_i b hb
      split at hl
      · rename_i hlive
        refine ⟨⟨e.β.getD n 0, off, none⟩, rfl, ?_⟩
        have := run_loadVar_at (w := w) (e := e) hl (e.β.getD n 0) 0 (fun j hj => by rw [Nat.zero_add]; exact blk_cell h hb hlive j hj)
        rwa [Nat.zero_add] at this
      · cases hl
    · cases hl
  · cases hl

theorem tmps_getD {e : Env} {W0 : Bas} {s : St} {a : Act} {w : World} (h : Rel e W0 s a w) (t : Nat) : a.tmps.getD t undef = (s.fr.getD t undefS).den e := h.eval (.tmp t)

theorem resVars_run {e : Env} {W0 : Bas} {s : St} {a : Act} {w : World} (h : Rel e W0 s a w) : ∀ {l : List ResultVar} {ys : List SW}, resVars P s l = some ys →
    (l.mapM (m := Sem) fun
      | .tmp t => pure (a.tmps.getD t undef)
      | .cell x t => do loadVar t (← asAddr (a.tmps.getD x undef))).run P w = .ok (ys.map (SW.den e)) w
  | [], ys, hy => by simp only [resVars, Option.some.injEq] at hy; subst hy; simp
  | .tmp t :: l, ys, hy => by
    simp only [resVars] at hy
    split at hy
    · rename_i y ys' h1 h2
      simp only [Option.some.injEq] at hy
      subst hy
      have ih := resVars_run h h2
      simp only [List.mapM_cons, Sem.run_bind, Sem.run_pure, Result.andThen_ok, ih, tmps_getD h t, h1, List.map_cons]
      rfl
    · cases hy
  | .cell x t :: l, ys, hy => by
    simp only [resVars] at hy
    split at hy
    · rename_i y ys' h1 h2
      simp only [Option.some.injEq] at hy
      subst hy
      have ih := resVars_run h h2
      obtain ⟨ad, had, hrun⟩ := loadS_run h.rep h1
      have hasA : (asAddr (.pointer (some ad))).run P w = .ok ad w := rfl
      simp only [List.mapM_cons, Sem.run_bind, tmps_getD h x, had, hasA, Result.andThen_ok, hrun, ih, List.map_cons, Sem.run_pure]
    · cases hy

theorem resOf_run {e : Env} {W0 : Bas} {s : St} {a : Act} {w : World} {F : Func} {v : SV} (h : Rel e W0 s a w) (hv : resOf P F s = some v) : (results F a.tmps).run P w = .ok (v.den e) w := by
  unfold resOf at hv
  have key : ∀ {ys : List SW}, resVars P s F.results.toList = some ys → (results F a.tmps).run P w = .ok (if hh : (ys.map (SW.den e)).toArray.size = 1 then (ys.map (SW.den e)).toArray[0] else .tuple (ys.map (SW.den e)).toArray) w := by
    intro ys hy
    have := resVars_run h hy
    unfold results
    rw [Array.mapM_eq_mapM_toList]
    simp only [Sem.run_bind, Sem.run_map, Sem.run_pure]
    refine (congrArg (fun x => (Result.andThen (Result.andThen x _) _)) this).trans ?_
    rfl
  split at hv
  · rename_i y hy
    simp only [Option.some.injEq] at hv
    subst hv
    rw [key hy]
    rfl
  · rename_i ys hne hy
    simp only [Option.some.injEq] at hv
    subst hv
    rw [key hy]
    have : ¬ (ys.map (SW.den e)).toArray.size = 1 := by
      intro hh
      simp at hh
      match ys, hh with
      | [y], _ => exact hne y rfl
    rw [dif_neg this]
    rfl
  · cases hv

/-- Back in the caller. -/
theorem popT_rel {e e' : Env} {W0 : Bas} {s s' : St} {a a' : Act} {w w' : World} {v : SV} (h : Rel e W0 s a w) (hsc : s.sc = true) (hle : Env.le e e') (h' : Rel e' W0 s' a' w') (hf : s'.fl = s.fl) (hfr : s'.flr = s.flr) :
    ∃ e'', Env.le e e'' ∧ Rel e'' W0 (popT s s' v) a w' ∧ v.den e'' = v.den e' ∧ e''.r = e'.r ∧ e''.R = e'.R ∧ (popT s s' v).fl = s.fl ∧ (popT s s' v).flr = s.flr ∧ (popT s s' v).dp = s'.dp := by
  have hsc' := hsc
  simp only [St.sc, Bool.and_eq_true] at hsc'
  obtain ⟨⟨hfs, _⟩, _⟩ := hsc'
  rw [← h.rep.nv, ← h.rep.nb, ← h.rep.ng, ← h.rep.nx] at hfs
  have hfrm : ∀ {e'' : Env}, Env.le e e'' → a.tmps = (s.fr.map (SV.den e'')).toArray := fun hl => by
    rw [h.tmps]
    congr 1
    exact List.map_congr_left fun x hx => (SV.den_le hl x (List.all_eq_true.1 hfs x hx)).symm
  unfold popT
  split
  · rename_i hc
    simp only [Bool.and_eq_true] at hc
    obtain ⟨hv, hm⟩ := hc
    obtain ⟨p, q, x, y, h1, h2, h3, h4, h5⟩ := hle
    have hlike : Env.like s.mem.length s.rows.length e' { e' with β := e'.β.take s.mem.length, σ := e'.σ.take s.rows.length } :=
      ⟨rfl, rfl, rfl, fun n hn => by simp [List.getD, hn], fun n hn => by simp [List.getD, hn]⟩
    have hle'' : Env.le e { e' with β := e'.β.take s.mem.length, σ := e'.σ.take s.rows.length } :=
      ⟨p, [], [], y, h1, by simp [h2, ← h.rep.nb], by simp [h3, ← h.rep.ng], h4, h5⟩
    have hml : s.mem.length ≤ s'.mem.length := by rw [← h.rep.nb, ← h'.rep.nb, h2]; simp
    have hrl : s.rows.length ≤ s'.rows.length := by rw [← h.rep.ng, ← h'.rep.ng, h3]; simp
    have hmt : ∀ {n : Nat} {b : Blk}, (s'.mem.take s.mem.length)[n]? = some b → n < s.mem.length ∧ s'.mem[n]? = some b ∧ b.cells.all (SC.scp s.mem.length s.rows.length) = true := fun {n b} hb => by
      have hall := List.all_eq_true.1 hm b (List.mem_of_getElem? hb)
      rw [List.getElem?_take] at hb
      split at hb
      · rename_i hn; exact ⟨hn, hb, hall⟩
      · cases hb
    have hrt : ∀ {n : Nat} {b : Row}, (s'.rows.take s.rows.length)[n]? = some b → n < s.rows.length ∧ s'.rows[n]? = some b := fun {n b} hb => by
      rw [List.getElem?_take] at hb
      split at hb
      · rename_i hn; exact ⟨hn, hb⟩
      · cases hb
    have hgv : ∀ n, n < s.rows.length → (G.o n).val { e' with β := e'.β.take s.mem.length, σ := e'.σ.take s.rows.length } = (G.o n).val e' := fun n hn => G.val_like hlike (.o n) (by simpa [G.scp] using hn)
    have g := h'.rep
    refine ⟨_, hle'', ⟨⟨g.below, ?_, ?_, g.nv, g.nx, ?_, ?_, ?_, ?_, ?_, ?_, ?_, g.gl, g.arg⟩, hfrm hle'', h.defs⟩, SV.den_like hlike v hv, rfl, rfl, rfl, rfl, rfl⟩
    · simp [g.nb, hml]
    · simp [g.ng, hrl]
    · intro n b hb hl
      obtain ⟨hn, hb', hall⟩ := hmt hb
      show w'.heap[(e'.β.take s.mem.length).getD n 0]? = _
      rw [show (e'.β.take s.mem.length).getD n 0 = e'.β.getD n 0 from hlike.β n hn, map_den_like hlike hall]
      exact g.blk n b hb' hl
    · intro n b hb hl hfl
      obtain ⟨hn, hb', hall⟩ := hmt hb
      show W0.may ((e'.β.take s.mem.length).getD n 0)
      rw [show (e'.β.take s.mem.length).getD n 0 = e'.β.getD n 0 from hlike.β n hn]
      exact g.own n b hb' hl (by rw [hf]; exact hfl)
    · intro n m b c hb hc hlb hlc heq
      obtain ⟨hn, hb', _⟩ := hmt hb
      obtain ⟨hm', hc', _⟩ := hmt hc
      refine g.sep n m b c hb' hc' hlb hlc ?_
      rw [← hlike.β n hn, ← hlike.β m hm']
      exact heq
    · intro n b hb hl
      obtain ⟨hn, hb'⟩ := hrt hb
      rw [hgv n hn]
      exact g.row n b hb' hl
    · intro n b hb hl hfl j hj
      obtain ⟨hn, hb'⟩ := hrt hb
      rw [hgv n hn] at hj
      exact g.rown n b hb' hl (by rw [hfr]; exact hfl) j hj
    · intro n m b c j hb hc hlb hlc h6 h7
      obtain ⟨hn, hb'⟩ := hrt hb
      obtain ⟨hm', hc'⟩ := hrt hc
      rw [hgv n hn] at h6
      rw [hgv m hm'] at h7
      exact g.rsep n m b c j hb' hc' hlb hlc h6 h7
    · intro n m b c hb hc hlb hlc
      obtain ⟨hn, hb', _⟩ := hmt hb
      obtain ⟨hm', hc'⟩ := hrt hc
      have := g.brs n m b c hb' hc' hlb hlc
      rw [← hlike.β n hn, ← hgv m hm'] at this
      exact this
  · have g := h'.rep
    refine ⟨e', hle, ⟨⟨g.below, g.nb, g.ng, g.nv, g.nx, g.blk, ?_, g.sep, g.row, ?_, g.rsep, g.brs, g.gl, g.arg⟩, hfrm hle, h.defs⟩, rfl, rfl, rfl, rfl, rfl, rfl⟩
    · intro n b hb hl hfl
      exact g.own n b hb hl (by rw [hf]; exact hfl)
    · intro n b hb hl hfl
      exact g.rown n b hb hl (by rw [hfr]; exact hfl)

theorem den_undefS (e : Env) : undefS.den e = undef := rfl

/-- A callee, run in place. -/
theorem callW_in {ih : Code → St → Kont → T} (hih : IH P Γ ih) {s : St} {a : Act} {w : World} {W0 : Bas} {e : Env} {args : List SV} {fn : FuncId} {F : Func} {body : Code} {dst : Option Tmp} {k : St → T} (h : Rel e W0 s a w) (hdp : s.dp = bs.length) (hsc : s.sc = true)
    (hF : P.funcs[fn]? = some F) (hb : F.body = some body)
    (hs : (ih body { s with fr := args ++ List.replicate (F.ntmps - args.length) undefS } fun out s' => match out with
              | .exit _ => .fail
              | _ => match resOf P F s' with
                | some v => k ((popT s s' v).put dst v)
                | none => .fail).sat Γ e.R Ψ bs e.r) :
    Calls P fn (args.map (SV.den e)).toArray w fun x w' => ∃ v, x = .returned v ∧ Nx Γ Ψ bs W0 e s.fl s.flr k (a.put dst v) w' := by
  refine calls_of_wp hF hb ?_
  have hrel : Rel e W0 { s with fr := args ++ List.replicate (F.ntmps - args.length) undefS } { tmps := (args.map (SV.den e)).toArray ++ Array.replicate (F.ntmps - (args.map (SV.den e)).toArray.size) undef, defers := [] } w :=
    ⟨h.rep.fr _, by
      apply Array.ext'
      simp [den_undefS], rfl⟩
  refine wp_mono (wps_wp _ (hih _ _ _ W0 Ψ bs e _ w hrel hdp hs)) ?_
  rintro x a' w' ⟨out, s', e', more, rfl, hle, hrel', hf, hfr, hdp', hsat⟩
  have fin : ∀ {v : SV}, resOf P F s' = some v → (k ((popT s s' v).put dst v)).sat Γ e'.R Ψ (bs ++ more) e'.r →
      a'.defers = [] ∧ ∃ v, (results F a'.tmps).run P w' = .ok v w' ∧ ∃ v', Ending.returned v = .returned v' ∧ Nx Γ Ψ bs W0 e s.fl s.flr k (a.put dst v') w' := by
    intro v hv hk
    refine ⟨hrel'.defs, _, resOf_run hrel' hv, _, rfl, ?_⟩
    obtain ⟨e'', hle'', hrel'', hvd, hr, hR, h1, h2, h3⟩ := popT_rel (v := v) h hsc hle hrel' hf hfr
    rw [← hvd]
    exact ⟨_, e'', more, hle'', hrel''.put dst v, (put_fields _ dst v).2.2.2.2.1.trans h1, (put_fields _ dst v).2.2.2.2.2.trans h2, (put_dp _ _ _).trans (h3.trans hdp'), by rw [hr, hR]; exact hk⟩
  cases out with
  | norm =>
    dsimp only at hsat
    split at hsat
    · rename_i v hv; exact fin hv hsat
    · exact hsat.elim
  | exit id => exact hsat.elim
  | ret =>
    dsimp only at hsat
    split at hsat
    · rename_i v hv; exact fin hv hsat
    · exact hsat.elim

end Go.Sx
