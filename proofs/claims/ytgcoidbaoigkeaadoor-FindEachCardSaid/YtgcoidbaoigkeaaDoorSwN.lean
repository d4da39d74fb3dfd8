/-
  Symbolic execution: a region that draws its order: the walk in the order of the text gives what 'any_all' asks.
-/
import Derived.Test.YtgcoidbaoigkeaaDoorSwM
namespace Go.Sx
open Go.RowKit

def Env.at (e : Env) (r : List Int) : Env := { e with r := r }

section
variable {P : Program} {Γ : List Sum} {Ψ : List Int → Prop} {bs : List (List Int → Prop)} {ops : Array Oper}

theorem writer_succ (n t : Nat) : writer ops (n + 1) t = match writer ops n t with
    | some j => some j
    | none => if (ops[n]?).bind (·.dst) = some t then some n else none := by
  unfold writer
  rw [List.range_succ, List.find?_append]
  cases h : List.find? (fun i => decide ((ops[i]?).bind (·.dst) = some t)) (List.range n) with
  | some j => simp
  | none =>
    by_cases hd : (ops[n]?).bind (·.dst) = some t
    · simp [hd]
    · simp [hd]

/-- Dens of what is scoped do not see later numbers. -/
theorem SC.den_r {e : Env} {nv nb ng : Nat} (hnv : nv ≤ e.r.length) (x : List Int) : ∀ c : SC, c.sc nv nb ng = true → c.den (e.at (e.r ++ x)) = c.den e := by
  have hE : ∀ a : E, a.sc nv = true → a.sc e.r.length = true := by
    intro a
    induction a <;> simp_all [E.sc] <;> omega
  have hB : ∀ a : B, a.sc nv = true → a.sc e.r.length = true := by
    intro a
    induction a <;> simp_all [B.sc]
  intro c hc
  cases c <;> simp only [SC.sc, Bool.and_eq_true] at hc <;> simp only [SC.den, Env.at, ownAddr]
  case i k y => rw [E.den_app _ _ _ _ (hE _ hc)]
  case b y => rw [B.den_app _ _ _ _ (hB _ hc)]
  case go g => cases g <;> rfl
  case gv g size lo hi => rw [E.den_app _ _ _ _ (hE _ hc.2.1), E.den_app _ _ _ _ (hE _ hc.2.2)]; cases g <;> rfl
  case gp g size ix j => rw [E.den_app _ _ _ _ (hE _ hc.2)]; cases g <;> rfl
  case gz g => cases g <;> rfl

theorem map_den_r {e : Env} {nv nb ng : Nat} (hnv : nv ≤ e.r.length) (x : List Int) {cs : List SC} (hc : cs.all (SC.sc nv nb ng) = true) : cs.map (SC.den (e.at (e.r ++ x))) = cs.map (SC.den e) :=
  List.map_congr_left fun c h => SC.den_r hnv x c (List.all_eq_true.1 hc c h)

theorem SV.den_r {e : Env} {nv nb ng nx : Nat} (hnv : nv ≤ e.r.length) (x : List Int) : ∀ c : SV, c.sc nv nb ng nx = true → c.den (e.at (e.r ++ x)) = c.den e := by
  intro c hc
  have hW : ∀ y : SW, y.sc nv nb ng = true → y.den (e.at (e.r ++ x)) = y.den e := by
    intro y hy
    cases y with
    | o c => exact SC.den_r hnv x c hy
    | a cs => simp only [SW.den]; rw [map_den_r hnv x hy]
  cases c with
  | w y => exact hW y hc
  | t xs => simp only [SV.den]; rw [List.map_congr_left fun y hy => hW y (List.all_eq_true.1 hc y hy)]
  | un i => rfl

/-- What a fork does, without a walk. -/
theorem forkO_sat' {R : Fo} {r : List Int} {s : St} {t : Option Tmp} {k : St → T} (hs : (forkO t s k).sat Γ R Ψ bs r) :
    ∃ x, (k { s with fr := x }).sat Γ R Ψ bs r ∧ (x = s.fr ∨ ∃ t b v, slotB s t = some b ∧ b.den R r = v ∧ x = s.fr.set t (one (.b (.c v)))) := by
  unfold forkO at hs
  split at hs
  · exact ⟨s.fr, hs, .inl rfl⟩
  · rename_i t
    split at hs
    · exact ⟨s.fr, hs, .inl rfl⟩
    · rename_i b _ hb
      obtain ⟨h1, h2⟩ := hs
      cases hx : b.den R r with
      | true => exact ⟨_, h1 hx, .inr ⟨t, b, true, hb, hx, rfl⟩⟩
      | false => exact ⟨_, h2 hx, .inr ⟨t, b, false, hb, hx, rfl⟩⟩
    · exact ⟨s.fr, hs, .inl rfl⟩

structure Lex (s0 : St) (e0 : Env) (a0 : Array Value) (ops : Array Oper) (i : Nat) (ents : Nat → Ent) (s : St) (r : List Int) (al : List Nat) : Prop where
  ext : ∃ x, r = e0.r ++ x
  nv : s.nv = r.length
  nx : s.nx = s0.nx
  fl : s.fl = s0.fl
  flr : s.flr = s0.flr
  gl : s.gl = s0.gl
  hs : s.hs = s0.hs
  dp : s.dp = s0.dp
  rows : s.rows = s0.rows
  mem : ∃ news, s.mem = s0.mem ++ news ∧ news.length = al.length
  len : s.fr.length = s0.fr.length
  memd : ∀ b ∈ s0.mem, b.cells.map (SC.den (e0.at r)) = b.cells.map (SC.den e0)
  rowd : ∀ b ∈ s0.rows, b.c.den e0.R r = b.c.den e0.R e0.r
  hsd : ∀ b ∈ s0.hs, b.2.den e0.R r = b.2.den e0.R e0.r
  slots : ∀ t, (s.fr.getD t undefS).scp s0.mem.length s0.rows.length = true → lexv ops ents a0 i t = some ((s.fr.getD t undefS).den (e0.at r))
  nscp : ∀ t, (s.fr.getD t undefS).scp s0.mem.length s0.rows.length = false → ∃ (j i' : Nat), al[j]? = some i' ∧ (ops[i']?).bind (·.dst) = some t
  alOK : ∀ (j i' : Nat), al[j]? = some i' → i' < i ∧ ∃ b : Blk, s.mem[s0.mem.length + j]? = some b ∧ b.live = true ∧ b.cells.all (SC.scp s0.mem.length s0.rows.length) = true ∧
    (ents i').obj = some (.cells (b.cells.map (SC.den (e0.at r))).toArray b.ty (0, 0)) ∧
    ∃ mk : Nat → SC, ((∀ n, mk n = .p n 0) ∨ ∃ l c, ∀ n, mk n = .s n 0 l c) ∧ (∀ (e : Env) n, (mk n).den e = (ents i').val (e.β.getD n 0)) ∧ ∀ t, (ops[i']?).bind (·.dst) = some t → s.fr.getD t undefS = one (mk (s0.mem.length + j))
  alAll : ∀ i', i' < i → (ents i').obj.isSome = true → i' ∈ al
  alND : al.Nodup

variable {s0 : St} {e0 : Env} {a0 : Array Value} {i : Nat} {ents : Nat → Ent} {s : St} {r : List Int} {al : List Nat}

theorem getD_set_fr (l : List SV) (t t' : Nat) (v : SV) : (l.set t v).getD t' undefS = if t' = t ∧ t < l.length then v else l.getD t' undefS := by
  simp only [List.getD, List.getElem?_set]
  by_cases h : t = t'
  · subst h
    by_cases hl : t < l.length
    · simp [hl]
    · simp [hl]
  · have : ¬ t' = t := fun hh => h hh.symm
    simp [h, this]

theorem lexv_congrN {ents ents' : Nat → Ent} {N i t : Nat} (he : ∀ j, j < N → ents' j = ents j) (hi : i ≤ N) : lexv ops ents' a0 i t = lexv ops ents a0 i t := by
  unfold lexv
  cases hw : writer ops i t with
  | none => rfl
  | some j => simp only [he j (Nat.lt_of_lt_of_le (writer_some hw).1 hi)]
theorem PreOK.congrN {P : Program} {C : World → Prop} {ents ents' : Nat → Ent} {N i : Nat} (he : ∀ j, j < N → ents' j = ents j) (hi : i < N) (h : PreOK P C ops ents a0 i) : PreOK P C ops ents' a0 i := by
  obtain ⟨o, h1, h2, look, opv, h3, h4, h5⟩ := h
  refine ⟨o, h1, by rw [he i hi]; exact h2, look, opv, h3, fun t ht => ?_, fun act w hc hs hd hl => ?_⟩
  · rw [lexv_congrN he (Nat.le_of_lt hi)]; exact h4 t ht
  · rw [he i hi]; exact h5 act w hc hs hd hl
theorem Lex.congr {ents ents' : Nat → Ent} {N : Nat} (he : ∀ j, j < N → ents' j = ents j) (h : Lex s0 e0 a0 ops N ents s r al) : Lex s0 e0 a0 ops N ents' s r al :=
  { h with
    slots := fun t ht => by rw [lexv_congrN he (Nat.le_refl _)]; exact h.slots t ht
    alOK := fun j i' hj => by
      have h1 := h.alOK j i' hj
      rw [he i' h1.1]
      exact h1
    alAll := fun i' hi' h2 => h.alAll i' hi' (by rw [he i' hi'] at h2; exact h2) }

theorem Lex.fork (h : Lex s0 e0 a0 ops i ents s r al) {x : List SV} (hx : x = s.fr ∨ ∃ t b v, slotB s t = some b ∧ b.den e0.R r = v ∧ x = s.fr.set t (one (.b (.c v)))) : Lex s0 e0 a0 ops i ents { s with fr := x } r al := by
  rcases hx with rfl | ⟨t, b, v, hb, hv, rfl⟩
  · exact h
  · obtain ⟨ht, hs⟩ := slotB_spec hb
    have hval : (one (.b (.c v))).den (e0.at r) = (s.fr.getD t undefS).den (e0.at r) := by
      rw [hs]
      show Value.bool v = Value.bool (b.den e0.R r)
      rw [hv]
    have hscp : (s.fr.getD t undefS).scp s0.mem.length s0.rows.length = true := by rw [hs]; rfl
    refine ⟨h.ext, h.nv, h.nx, h.fl, h.flr, h.gl, h.hs, h.dp, h.rows, h.mem, by simpa using h.len, h.memd, h.rowd, h.hsd, ?_, ?_, ?_, h.alAll, h.alND⟩
    · intro t' ht'
      show lexv ops ents a0 i t' = some (((s.fr.set t (one (.b (.c v)))).getD t' undefS).den (e0.at r))
      have ht'' : ((s.fr.set t (one (.b (.c v)))).getD t' undefS).scp s0.mem.length s0.rows.length = true := ht'
      rw [getD_set_fr] at ht'' ⊢
      split
      · rename_i hc
        obtain ⟨rfl, _⟩ := hc
        rw [h.slots t' hscp, hval]
      · rename_i hc
        rw [if_neg hc] at ht''
        exact h.slots t' ht''
    · intro t' ht'
      have ht'' : ((s.fr.set t (one (.b (.c v)))).getD t' undefS).scp s0.mem.length s0.rows.length = false := ht'
      rw [getD_set_fr] at ht''
      split at ht''
      · simp [one, SV.scp, SW.scp, SC.scp] at ht''
      · exact h.nscp t' ht''
    · intro j i' hj
      obtain ⟨h1, bb, h2, h3, h4, h5, mk, h6, h7, h8⟩ := h.alOK j i' hj
      refine ⟨h1, bb, h2, h3, h4, h5, mk, h6, h7, fun t' ht' => ?_⟩
      show (s.fr.set t (one (.b (.c v)))).getD t' undefS = _
      rw [getD_set_fr]
      split
      · rename_i hc
        obtain ⟨rfl, _⟩ := hc
        have := h8 t' ht'
        rw [hs] at this
        rcases h6 with h6 | ⟨l, c, h6⟩ <;> rw [h6] at this <;> simp [one] at this
      · exact h8 t' ht'

/-- More numbers. -/
theorem Lex.more (h : Lex s0 e0 a0 ops i ents s r al) (hsc : s.sc = true) (y : List Int) : Lex s0 e0 a0 ops i ents { s with nv := s.nv + y.length } (r ++ y) al := by
  obtain ⟨x, hx⟩ := h.ext
  simp only [St.sc, Bool.and_eq_true] at hsc
  obtain ⟨⟨hf, hm⟩, hr, hh⟩ := hsc
  obtain ⟨news, hmem, hnl⟩ := h.mem
  have hat : (e0.at r).at ((e0.at r).r ++ y) = e0.at (r ++ y) := rfl
  have hlen : s.nv ≤ (e0.at r).r.length := by rw [h.nv]; exact Nat.le_refl _
  have hd : ∀ v, SV.sc s.nv s.mem.length s.rows.length s.nx v = true → v.den (e0.at (r ++ y)) = v.den (e0.at r) := fun v hv => by
    rw [← hat]; exact SV.den_r hlen y v hv
  have hcs : ∀ cs : List SC, cs.all (SC.sc s.nv s.mem.length s.rows.length) = true → cs.map (SC.den (e0.at (r ++ y))) = cs.map (SC.den (e0.at r)) := fun cs hc => by
    rw [← hat]; exact map_den_r hlen y hc
  have hslot : ∀ t, (s.fr.getD t undefS).den (e0.at (r ++ y)) = (s.fr.getD t undefS).den (e0.at r) := by
    intro t
    by_cases ht : t < s.fr.length
    · refine hd _ (List.all_eq_true.1 hf _ ?_)
      rw [show s.fr.getD t undefS = s.fr[t] by simp [List.getD, ht]]
      exact List.getElem_mem ht
    · have : s.fr.getD t undefS = undefS := by simp [List.getD, List.getElem?_eq_none (Nat.le_of_not_lt ht)]
      rw [this]
      rfl
  refine ⟨⟨x ++ y, by simp [hx]⟩, by simp [h.nv], h.nx, h.fl, h.flr, h.gl, h.hs, h.dp, h.rows, ⟨news, hmem, hnl⟩, h.len, ?_, ?_, ?_, ?_, h.nscp, ?_, h.alAll, h.alND⟩
  · intro b hb
    rw [hcs b.cells (List.all_eq_true.1 hm b (by rw [hmem]; exact List.mem_append_left _ hb))]
    exact h.memd b hb
  · intro b hb
    rw [E.den_app _ _ _ _ (by rw [← h.nv]; exact List.all_eq_true.1 hr b (by rw [h.rows]; exact hb))]
    exact h.rowd b hb
  · intro b hb
    rw [E.den_app _ _ _ _ (by rw [← h.nv]; exact List.all_eq_true.1 hh b (by rw [h.hs]; exact hb))]
    exact h.hsd b hb
  · intro t ht
    rw [show (({ s with nv := s.nv + y.length } : St).fr.getD t undefS).den (e0.at (r ++ y)) = _ from hslot t]
    exact h.slots t ht
  · intro j i' hj
    obtain ⟨h1, bb, h2, h3, h4, h5, mk, h6, h7, h8⟩ := h.alOK j i' hj
    refine ⟨h1, bb, h2, h3, h4, ?_, mk, h6, h7, h8⟩
    rw [hcs bb.cells (List.all_eq_true.1 hm bb (List.mem_of_getElem? h2))]
    exact h5

def upd (ents : Nat → Ent) (i : Nat) (x : Ent) : Nat → Ent := fun j => if j = i then x else ents j

theorem lexv_congr {ents' : Nat → Ent} {n : Nat} (h : ∀ j, j < n → ents' j = ents j) (t : Nat) : lexv ops ents' a0 n t = lexv ops ents a0 n t := by
  unfold lexv
  cases hw : writer ops n t with
  | none => rfl
  | some j => simp only [h j (writer_some hw).1]

theorem PreOK.congr {C : World → Prop} {ents' : Nat → Ent} {n : Nat} (h : ∀ j, j ≤ n → ents' j = ents j) (hp : PreOK P C ops ents a0 n) : PreOK P C ops ents' a0 n := by
  obtain ⟨o, h1, h2, look, opv, hl, h3, h4⟩ := hp
  refine ⟨o, h1, by rw [h n (Nat.le_refl _)]; exact h2, look, opv, hl, fun t ht => by rw [lexv_congr (fun j hj => h j (by omega))]; exact h3 t ht, ?_⟩
  rw [h n (Nat.le_refl _)]
  exact h4

theorem upd_self (ents : Nat → Ent) (i : Nat) (x : Ent) : upd ents i x i = x := by simp [upd]
theorem upd_ne (ents : Nat → Ent) (i : Nat) (x : Ent) {j : Nat} (h : j ≠ i) : upd ents i x j = ents j := by simp [upd, h]

/-- The new slot's place in the order of the text. -/
theorem lexv_succ (hu : ∀ j t, j < i → (ops[j]?).bind (·.dst) = some t → (ops[i]?).bind (·.dst) ≠ some t) (x : Ent) (t : Nat) : lexv ops (upd ents i x) a0 (i + 1) t =
    if (ops[i]?).bind (·.dst) = some t then (if x.obj.isNone then some (x.val 0) else none) else lexv ops ents a0 i t := by
  unfold lexv
  rw [writer_succ]
  cases hw : writer ops i t with
  | some j =>
    obtain ⟨h1, h2⟩ := writer_some hw
    simp only [upd_ne ents i x (Nat.ne_of_lt h1), if_neg (hu j t h1 h2)]
  | none =>
    by_cases hd : (ops[i]?).bind (·.dst) = some t
    · simp [hd, upd_self]
    · simp [hd]

/-- A value put. -/
theorem Lex.put (h : Lex s0 e0 a0 ops i ents s r al) {o : Oper} (ho : ops[i]? = some o) (hu : ∀ j t, j < i → (ops[j]?).bind (·.dst) = some t → (ops[i]?).bind (·.dst) ≠ some t) (hdl : ∀ d, o.dst = some d → d < s0.fr.length)
    {v : SV} (hv : v.scp s0.mem.length s0.rows.length = true) : Lex s0 e0 a0 ops (i + 1) (upd ents i ⟨fun _ => v.den (e0.at r), none⟩) (s.put o.dst v) r al := by
  obtain ⟨p1, p2, p3, p4, p5, p6⟩ := put_fields s o.dst v
  have hslot : ∀ t, ((s.put o.dst v).fr.getD t undefS) = if o.dst = some t then v else s.fr.getD t undefS := by
    intro t
    cases hd : o.dst with
    | none => simp [St.put]
    | some d =>
      simp only [St.put, getD_set_fr, Option.some.injEq]
      have := hdl d hd
      rw [← h.len] at this
      by_cases hdt : d = t
      · subst hdt; simp [this]
      · simp [hdt, Ne.symm hdt]
  have hob : (ops[i]?).bind (·.dst) = o.dst := by rw [ho]; rfl
  refine ⟨h.ext, p3.trans h.nv, p4.trans h.nx, p5.trans h.fl, p6.trans h.flr, (put_gl _ _ _).trans h.gl, (put_hs _ _ _).trans h.hs, (put_dp _ _ _).trans h.dp, p2.trans h.rows, by rw [p1]; exact h.mem, by cases hd : o.dst <;> simp [St.put, h.len], h.memd, h.rowd, h.hsd, ?_, ?_, ?_, ?_, h.alND⟩
  · intro t ht
    rw [hslot t] at ht ⊢
    rw [lexv_succ hu, hob]
    split
    · simp
    · rename_i hd
      rw [if_neg hd] at ht
      exact h.slots t ht
  · intro t ht
    rw [hslot t] at ht
    split at ht
    · rw [hv] at ht; cases ht
    · exact h.nscp t ht
  · intro j i' hj
    obtain ⟨h1, bb, h2, h3, h4, h5, mk, h6, h7, h8⟩ := h.alOK j i' hj
    refine ⟨by omega, bb, by rw [p1]; exact h2, h3, h4, by rw [upd_ne _ _ _ (Nat.ne_of_lt h1)]; exact h5, mk, h6, by rw [upd_ne _ _ _ (Nat.ne_of_lt h1)]; exact h7, fun t ht => ?_⟩
    rw [hslot t, if_neg (by rw [← hob]; exact hu i' t h1 ht)]
    exact h8 t ht
  · intro i' hi' hs'
    by_cases hii : i' = i
    · subst hii; rw [upd_self] at hs'; cases hs'
    · rw [upd_ne _ _ _ hii] at hs'
      exact h.alAll i' (by omega) hs'

/-- A block made. -/
theorem Lex.new (h : Lex s0 e0 a0 ops i ents s r al) {o : Oper} (ho : ops[i]? = some o) (hu : ∀ j t, j < i → (ops[j]?).bind (·.dst) = some t → (ops[i]?).bind (·.dst) ≠ some t) (hdl : ∀ d, o.dst = some d → d < s0.fr.length)
    {b : Blk} (hbl : b.live = true) (hbs : b.cells.all (SC.scp s0.mem.length s0.rows.length) = true) {mk : Nat → SC} (hmk : (∀ n, mk n = .p n 0) ∨ ∃ l c, ∀ n, mk n = .s n 0 l c) {val : Nat → Value} (hval : ∀ (e : Env) n, (mk n).den e = val (e.β.getD n 0)) :
    Lex s0 e0 a0 ops (i + 1) (upd ents i ⟨val, some (.cells (b.cells.map (SC.den (e0.at r))).toArray b.ty (0, 0))⟩) (({ s with mem := s.mem ++ [b] } : St).put o.dst (one (mk s.mem.length))) r (al ++ [i]) := by
  obtain ⟨news, hmem, hnl⟩ := h.mem
  have hml : s.mem.length = s0.mem.length + al.length := by rw [hmem]; simp [hnl]
  obtain ⟨p1, p2, p3, p4, p5, p6⟩ := put_fields ({ s with mem := s.mem ++ [b] } : St) o.dst (one (mk s.mem.length))
  have hmkscp : (one (mk s.mem.length)).scp s0.mem.length s0.rows.length = false := by
    rcases hmk with hmk | ⟨l, c, hmk⟩ <;> rw [hmk] <;> simp [one, SV.scp, SW.scp, SC.scp] <;> omega
  have hslot : ∀ t, ((({ s with mem := s.mem ++ [b] } : St).put o.dst (one (mk s.mem.length))).fr.getD t undefS) = if o.dst = some t then one (mk s.mem.length) else s.fr.getD t undefS := by
    intro t
    cases hd : o.dst with
    | none => simp [St.put]
    | some d =>
      simp only [St.put, getD_set_fr, Option.some.injEq]
      have := hdl d hd
      rw [← h.len] at this
      by_cases hdt : d = t
      · subst hdt; simp [this]
      · simp [hdt, Ne.symm hdt]
  have hob : (ops[i]?).bind (·.dst) = o.dst := by rw [ho]; rfl
  have hali : ∀ i' ∈ al, i' < i := fun i' hi' => by
    obtain ⟨j, hj⟩ := List.getElem?_of_mem hi'
    exact (h.alOK j i' hj).1
  refine ⟨h.ext, p3.trans h.nv, p4.trans h.nx, p5.trans h.fl, p6.trans h.flr, (put_gl _ _ _).trans h.gl, (put_hs _ _ _).trans h.hs, (put_dp _ _ _).trans h.dp, p2.trans h.rows, ⟨news ++ [b], by rw [p1]; simp [hmem], by simp [hnl]⟩, by cases hd : o.dst <;> simp [St.put, h.len], h.memd, h.rowd, h.hsd, ?_, ?_, ?_, ?_, ?_⟩
  · intro t ht
    rw [hslot t] at ht ⊢
    rw [lexv_succ hu, hob]
    split
    · rename_i hd
      rw [if_pos hd, hmkscp] at ht
      cases ht
    · rename_i hd
      rw [if_neg hd] at ht
      exact h.slots t ht
  · intro t ht
    rw [hslot t] at ht
    split at ht
    · rename_i hd
      exact ⟨al.length, i, by simp, by rw [hob]; exact hd⟩
    · obtain ⟨j, i', hj, hd⟩ := h.nscp t ht
      exact ⟨j, i', by rw [List.getElem?_append_left (List.getElem?_eq_some_iff.1 hj).1]; exact hj, hd⟩
  · intro j i' hj
    rcases Nat.lt_trichotomy j al.length with hlt | heq | hgt
    · rw [List.getElem?_append_left hlt] at hj
      obtain ⟨h1, bb, h2, h3, h4, h5, mk', h6, h7, h8⟩ := h.alOK j i' hj
      refine ⟨by omega, bb, by rw [p1]; exact (List.getElem?_append_left (List.getElem?_eq_some_iff.1 h2).1).trans h2, h3, h4, by rw [upd_ne _ _ _ (Nat.ne_of_lt h1)]; exact h5, mk', h6, by rw [upd_ne _ _ _ (Nat.ne_of_lt h1)]; exact h7, fun t ht => ?_⟩
      rw [hslot t, if_neg (by rw [← hob]; exact hu i' t h1 ht)]
      exact h8 t ht
    · subst heq
      simp only [List.getElem?_concat_length, Option.some.injEq] at hj
      subst hj
      refine ⟨by omega, b, by rw [p1, ← hml]; simp, hbl, hbs, by rw [upd_self], mk, hmk, by rw [upd_self]; exact hval, fun t ht => ?_⟩
      rw [hslot t, if_pos (by rw [← hob]; exact ht), hml]
    · rw [List.getElem?_eq_none (by simp; omega)] at hj
      cases hj
  · intro i' hi' hs'
    by_cases hii : i' = i
    · subst hii; simp
    · rw [upd_ne _ _ _ hii] at hs'
      exact List.mem_append_left _ (h.alAll i' (by omega) hs')
  · rw [List.nodup_append]
    refine ⟨h.alND, by simp, ?_⟩
    intro a ha b' hb' heq
    simp only [List.mem_singleton] at hb'
    subst hb'
    subst heq
    have := hali _ ha
    omega
end
end Go.Sx
