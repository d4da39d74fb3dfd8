/-
  Symbolic execution: stores that may come early, in a region that draws its order.
-/
import Derived.Test.YtgcoidbaoigkeaaSwQ
namespace Go.Sx
open Go.RowKit

section
variable {P : Program} {ops : Array Oper} {s0 sB : St} {e0 : Env} {a0 : Array Value} {W0 : Bas} {w0 : World} {ents : Nat → Ent} {s : St} {r : List Int} {al : List Nat} {X : List Nat} {m0 g0 : Nat}

/-- What a store that may come early says. -/
structure Lt (P : Program) (X : List Nat) (m0 g0 : Nat) (o : Oper) (s s' : St) (t : TypeId) (ta : Tmp) (x : Operand) (n off : Nat) (y : SW) (b : Blk) : Prop where
  op : o.op = .store t (.tmp ta) x
  slot : s.fr.getD ta undefS = .w (.o (.p n off))
  ev : s.ev x = .w y
  blk : s.mem[n]? = some b
  guard : o.guard = none
  dst : o.dst = none
  at' : m0 ≤ n ∨ n ∈ X
  live : b.live = true
  info : (P.info? t).isSome = true
  fl : s.fl ≤ n
  size : y.cells.length = P.cellsOf t
  off' : off + y.cells.length ≤ b.cells.length
  one : y.cells.all SC.one = true
  scp : y.scp m0 g0 = true
  eq : s' = { s with mem := s.mem.set n { b with cells := setAt b.cells off y.cells } }

/-- An assignment that may come early. -/
structure As (m0 g0 : Nat) (o : Oper) (s s' : St) (x : Operand) (d : Tmp) : Prop where
  op : o.op = .assign x
  dst : o.dst = some d
  guard : o.guard = none
  scp : (s.ev x).scp m0 g0 = true
  eq : s' = s

theorem lateS1_spec {o : Oper} {s s' : St} (h : lateS1 P X m0 g0 o s = some s') : (∃ t ta x n off y b, Lt P X m0 g0 o s s' t ta x n off y b) ∨ ∃ x d, As m0 g0 o s s' x d := by
  unfold lateS1 at h
  split at h
  · rename_i t ta x ho
    split at h
    · rename_i n off y hsl hev
      split at h
      · rename_i b hb
        split at h
        · rename_i hc
          simp only [Bool.and_eq_true, Bool.or_eq_true, decide_eq_true_eq, Option.isNone_iff_eq_none] at hc
          obtain ⟨⟨⟨⟨⟨⟨⟨⟨⟨h1, h2⟩, h3⟩, h4⟩, h5⟩, h6⟩, h7⟩, h8⟩, h9⟩, h10⟩ := hc
          simp only [Option.some.injEq] at h
          exact .inl ⟨t, ta, x, n, off, y, b, ⟨ho, hsl, hev, hb, h1, h2, h3.imp id (fun h => by simpa using h), h4, h5, h6, h7, h8, h9, h10, h.symm⟩⟩
        · cases h
      · cases h
    · cases h
  · rename_i x ho
    split at h
    · rename_i d hd
      split at h
      · rename_i hc
        simp only [Bool.and_eq_true, Option.isNone_iff_eq_none] at hc
        simp only [Option.some.injEq] at h
        exact .inr ⟨x, d, ho, hd, hc.1, hc.2, h.symm⟩
      · cases h
    · cases h
  · cases h

/-- The states between. -/
theorem lateS_states : ∀ {l : List Oper} {s s3 : St}, lateS P X m0 g0 l s = some s3 → ∃ st : Nat → St, st 0 = s ∧ st l.length = s3 ∧ ∀ c o, l[c]? = some o → lateS1 P X m0 g0 o (st c) = some (st (c + 1))
  | [], s, s3, h => by
    simp only [lateS, Option.some.injEq] at h
    exact ⟨fun _ => s, rfl, h, fun c o hc => by simp at hc⟩
  | o :: l, s, s3, h => by
    simp only [lateS] at h
    split at h
    · rename_i s' h1
      obtain ⟨st, h2, h3, h4⟩ := lateS_states h
      refine ⟨fun c => match c with | 0 => s | c + 1 => st c, rfl, h3, ?_⟩
      intro c oc hc
      cases c with
      | zero =>
        simp only [List.getElem?_cons_zero, Option.some.injEq] at hc
        subst hc
        show lateS1 P X m0 g0 o s = some (st 0)
        rw [h2]; exact h1
      | succ c => exact h4 c oc (by simpa using hc)
    · cases h

/-- What all those states have in common. -/
theorem late_same {l : List Oper} {st : Nat → St} (h : ∀ c o, l[c]? = some o → lateS1 P X m0 g0 o (st c) = some (st (c + 1))) : ∀ c, c ≤ l.length →
    st c = { st 0 with mem := (st c).mem } ∧ (st c).mem.length = (st 0).mem.length := by
  intro c
  induction c with
  | zero => intro _; exact ⟨rfl, rfl⟩
  | succ c ih =>
    intro hc
    obtain ⟨h1, h2⟩ := ih (by omega)
    rcases lateS1_spec (h c l[c] (List.getElem?_eq_getElem (by omega))) with ⟨t, ta, x, n, off, y, b, hl⟩ | ⟨x, d, hl⟩
    · rw [hl.eq]
      refine ⟨?_, by simpa using h2⟩
      rw [h1]
    · rw [hl.eq]
      exact ⟨h1, h2⟩

def tgtOf (s : St) (o : Oper) : Nat := match o.op with
  | .store _ (.tmp ta) _ => (match s.fr.getD ta undefS with
    | .w (.o (.p n _)) => n
    | _ => 0)
  | .assign _ => s.mem.length
  | _ => 0

theorem Lt.tgt {o : Oper} {s s' : St} {t : TypeId} {ta : Tmp} {x : Operand} {n off : Nat} {y : SW} {b : Blk} (h : Lt P X m0 g0 o s s' t ta x n off y b) : tgtOf s o = n := by
  unfold tgtOf
  rw [h.op]
  simp only [h.slot]

noncomputable def contOf (e : Env) (st : Nat → St) (n c : Nat) : Obj := match (st c).mem[n]? with
  | some b => .cells (b.cells.map (SC.den e)).toArray b.ty (0, 0)
  | none => .cells #[] 0 (0, 0)

noncomputable def lateD (ops : Array Oper) (m0 : Nat) (e : Env) (al : List Nat) (s : St) (Xa : Nat → Prop) (st : Nat → St) : LateD :=
  { nw := fun n => if n < m0 then none else al[n - m0]?, oldA := fun n => e.β.getD n 0, X := Xa, tgt := fun k => match ops[k]? with | some o => tgtOf s o | none => 0, cont := contOf e st }

theorem lateD_adr {m0 : Nat} {e : Env} {Xa : Nat → Prop} {st : Nat → St} (γ : Nat → Nat) (n : Nat) : (lateD ops m0 e al s Xa st).adr γ n = match (if n < m0 then none else al[n - m0]?) with | some i => γ i | none => e.β.getD n 0 := rfl

theorem writer_late {N1 M t : Nat} (h : ∀ k, N1 ≤ k → k < M → (ops[k]?).bind (·.dst) ≠ some t) (hM : N1 ≤ M) (hu : ∀ i j, i < M → j < M → (ops[i]?).bind (·.dst) = some t → (ops[j]?).bind (·.dst) = some t → i = j) : writer ops M t = writer ops N1 t := by
  cases hw : writer ops N1 t with
  | none =>
    cases hm : writer ops M t with
    | none => rfl
    | some j =>
      obtain ⟨h1, h2⟩ := writer_some hm
      rcases Nat.lt_or_ge j N1 with h3 | h3
      · exact absurd h2 (writer_none hw j h3)
      · exact absurd h2 (h j h3 h1)
  | some i =>
    obtain ⟨h1, h2⟩ := writer_some hw
    exact writer_eq (by omega) h2 (fun j hj hd => hu j i hj (by omega) hd h2)

theorem lateFr_len (s3 : St) : ∀ (l : List Oper) (fr : List SV), (lateFr s3 l fr).length = fr.length
  | [], _ => rfl
  | o :: l, fr => by
    unfold lateFr
    split
    · rw [lateFr_len s3 l]; simp
    · exact lateFr_len s3 l fr
theorem lateFr_not (s3 : St) {t : Nat} : ∀ (l : List Oper) (fr : List SV), (∀ o ∈ l, o.dst ≠ some t) → (lateFr s3 l fr).getD t undefS = fr.getD t undefS
  | [], _, _ => rfl
  | o :: l, fr, h => by
    unfold lateFr
    split
    · rename_i x d ho hd
      rw [lateFr_not s3 l _ fun o' ho' => h o' (List.mem_cons_of_mem _ ho'), getD_set_fr]
      have hne : ¬ t = d := by
        rintro rfl
        exact h o (List.mem_cons_self ..) hd
      rw [if_neg (fun hh => hne hh.1)]
    · exact lateFr_not s3 l fr fun o' ho' => h o' (List.mem_cons_of_mem _ ho')
theorem lateFr_at (s3 : St) {t : Nat} {x : Operand} : ∀ (l : List Oper) (fr : List SV) (c : Nat) (o : Oper), l[c]? = some o → o.op = .assign x → o.dst = some t → t < fr.length → (∀ j o', l[j]? = some o' → o'.dst = some t → j = c) → (lateFr s3 l fr).getD t undefS = s3.ev x
  | [], _, _, _, h, _, _, _, _ => by simp at h
  | o' :: l, fr, c, o, h, ho, hd, ht, hu => by
    cases c with
    | zero =>
      simp only [List.getElem?_cons_zero, Option.some.injEq] at h
      subst h
      unfold lateFr
      rw [ho, hd]
      dsimp only
      rw [lateFr_not s3 l _ (fun o1 h1 hd1 => by
        obtain ⟨j, hj⟩ := List.getElem?_of_mem h1
        have := hu (j + 1) o1 (by simpa using hj) hd1
        omega), getD_set_fr, if_pos ⟨rfl, ht⟩]
    | succ c =>
      simp only [List.getElem?_cons_succ] at h
      unfold lateFr
      have hu' : ∀ j o1, l[j]? = some o1 → o1.dst = some t → j = c := fun j o1 h1 h2 => by
        have := hu (j + 1) o1 (by simpa using h1) h2
        omega
      split
      · exact lateFr_at s3 l _ c o h ho hd (by simpa using ht) hu'
      · exact lateFr_at s3 l _ c o h ho hd ht hu'

theorem lateOK_of {N N1 : Nat} {Xa : Nat → Prop} (hlex : Lex s0 e0 a0 ops N1 ents s r al) (h0 : Rep e0 W0 s0 w0) (hval : ∀ i, i < N1 → (ents i).obj = none → ∀ n, (ents i).val n = (ents i).val 0)
    (huniq : ∀ i j t, i < N → j < N → (ops[i]?).bind (·.dst) = some t → (ops[j]?).bind (·.dst) = some t → i = j) (hN1 : N1 ≤ N)
    {c : Nat} {o : Oper} (hcN : N1 + c < N) (ho : ops[N1 + c]? = some o) {st : Nat → St} (hst : st c = { s with mem := (st c).mem })
    (hE : ∀ x d, As s0.mem.length s0.rows.length o (st c) (st (c + 1)) x d → ents (N1 + c) = ⟨fun _ => (s.ev x).den (e0.at r), none⟩)
    (hap : ∀ t ∈ o.looksAt ops, ∀ k, N1 ≤ k → k < N → (ops[k]?).bind (·.dst) ≠ some t) (h1 : lateS1 P X s0.mem.length s0.rows.length o (st c) = some (st (c + 1))) :
    LateOK P ops ents a0 N1 (lateD ops s0.mem.length (e0.at r) al s Xa st) (N1 + c) := by
  obtain ⟨news, hmem, hnl⟩ := hlex.mem
  have hml : s.mem.length = s0.mem.length + al.length := by rw [hmem]; simp [hnl]
  have hwl : ∀ t ∈ o.looksAt ops, writer ops (N1 + c) t = writer ops N1 t := fun t ht => writer_late (fun k h2 h3 => hap t ht k h2 (by omega)) (by omega) (fun i j hi hj => huniq i j t (by omega) (by omega))
  -- the value of a slot that is looked at
  have hsv' : ∀ (act : Act) (γ : Nat → Nat), (∀ t ∈ o.looksAt ops, act.tmps.getD t undef = match writer ops (N1 + c) t with | some j => (ents j).val (γ j) | none => a0.getD t undef) →
      ∀ t, t ∈ o.looksAt ops → (s.fr.getD t undefS).scp s0.mem.length s0.rows.length = true → act.tmps.getD t undef = (s.fr.getD t undefS).den (e0.at r) := by
    intro act γ hlook t ht hs
    rw [hlook t ht, hwl t ht]
    have hl := hlex.slots t hs
    unfold lexv at hl
    cases hw : writer ops N1 t with
    | none => rw [hw] at hl; simpa using hl
    | some j =>
      rw [hw] at hl
      dsimp only at hl ⊢
      split at hl
      · rename_i hob
        rw [hval j (writer_some hw).1 (by simpa using hob) (γ j)]
        simpa using hl
      · cases hl
  rcases lateS1_spec h1 with ⟨t, ta, x, n, off, y, b, hl⟩ | ⟨x, d, hl⟩
  case inr =>
    have hev : (st c).ev x = s.ev x := by rw [hst]; rfl
    have hsc : (s.ev x).scp s0.mem.length s0.rows.length = true := by rw [← hev]; exact hl.scp
    rw [LateOK]
    refine ⟨o, ho, .inr ?_⟩
    rw [hE x d hl]
    refine ⟨fun _ => rfl, fun n => ?_, fun act w γ hlook K Q hK => ?_⟩
    · rw [show N1 + c - N1 = c by omega]
      show contOf (e0.at r) st n (c + 1) = contOf (e0.at r) st n c
      unfold contOf
      rw [hl.eq]
    · have hwt : Region.wanted o (yielded ops act.tmps) = true := by unfold Region.wanted; rw [hl.guard]
      rw [if_pos hwt]
      have hx : act.eval x = (s.ev x).den (e0.at r) := by
        cases x with
        | tmp t' =>
          show act.tmps.getD t' undef = _
          exact hsv' act γ hlook t' (looks_operand (by rw [hl.op]; simp [Op.operands])) hsc
        | const v =>
          show _ = (SV.w (SW.ofV v)).den (e0.at r)
          simp [Act.eval, SV.den]
        | global g => rfl
        | func f => rfl
      have hrun : (execOp act.eval o).run P w = .ok (.value ((s.ev x).den (e0.at r))) w := by
        simp only [execOp, hl.op, hx]
        rfl
      unfold Oper.wp
      rw [hrun]
      exact hK
  have hslot : s.fr.getD ta undefS = .w (.o (.p n off)) := by have := hl.slot; rw [hst] at this; exact this
  have hev : s.ev x = .w y := by
    have := hl.ev
    rw [hst] at this
    exact this
  have htg : tgtOf s o = n := by
    unfold tgtOf
    rw [hl.op]
    simp only [hslot]
  refine ⟨o, ho, .inl ⟨hl.dst, ?_⟩⟩
  intro act w γ hlook hheap K Q hK
  have hcc : N1 + c - N1 = c := by omega
  have htgD : (lateD ops s0.mem.length (e0.at r) al s Xa st).tgt (N1 + c) = n := by
    unfold lateD
    simp only [ho, htg]
  rw [htgD, hcc] at hheap hK
  have hblk' : (st (c + 1)).mem[n]? = some { b with cells := setAt b.cells off y.cells } := by
    rw [hl.eq]
    have := (List.getElem?_eq_some_iff.1 hl.blk).1
    simp [this]
  have hc1 : (lateD ops s0.mem.length (e0.at r) al s Xa st).cont n c = .cells (b.cells.map (SC.den (e0.at r))).toArray b.ty (0, 0) := by
    unfold lateD contOf
    simp only [hl.blk]
  have hc2 : (lateD ops s0.mem.length (e0.at r) al s Xa st).cont n (c + 1) = .cells ((setAt b.cells off y.cells).map (SC.den (e0.at r))).toArray b.ty (0, 0) := by
    unfold lateD contOf
    simp only [hblk']
  rw [hc1] at hheap
  rw [hc2] at hK
  have hsv := hsv' act γ hlook
  have hta : ta ∈ o.looksAt ops := looks_operand (by rw [hl.op]; simp [Op.operands])
  have hadr : act.eval (.tmp ta) = .pointer (some ⟨(lateD ops s0.mem.length (e0.at r) al s Xa st).adr γ n, off, none⟩) := by
    show act.tmps.getD ta undef = _
    rw [lateD_adr]
    rcases Nat.lt_or_ge n s0.mem.length with hn | hn
    · simp only [hn, if_true]
      rw [hsv ta hta (by rw [hslot]; simpa [SV.scp, SW.scp, SC.scp] using hn), hslot]
      rfl
    · have hns : (s.fr.getD ta undefS).scp s0.mem.length s0.rows.length = false := by
        rw [hslot]; simpa [SV.scp, SW.scp, SC.scp] using hn
      obtain ⟨j, i', hj, hdt⟩ := hlex.nscp ta hns
      obtain ⟨h1, bb, h2, _, _, _, mk, h6, h7, h8⟩ := hlex.alOK j i' hj
      have hmk := h8 ta hdt
      rw [hslot] at hmk
      have hnj : n = s0.mem.length + j ∧ off = 0 := by
        rcases h6 with h6 | ⟨l, cc, h6⟩
        · rw [h6] at hmk
          simp only [one, SV.w.injEq, SW.o.injEq, SC.p.injEq] at hmk
          exact hmk
        · rw [h6] at hmk
          simp [one] at hmk
      obtain ⟨rfl, rfl⟩ := hnj
      simp only [Nat.not_lt_of_le (Nat.le_add_right _ _), if_false, Nat.add_sub_cancel_left, hj]
      rw [hlook ta hta, writer_eq (by omega) hdt (fun k hk hkd => huniq k i' ta (by omega) (by omega) hkd hdt)]
      dsimp only
      have hmkp : ∀ (n : Nat), mk n = .p n 0 := by
        rcases h6 with h6 | ⟨l, cc, h6⟩
        · exact h6
        · rw [h6] at hmk
          simp [one] at hmk
      have := h7 { e0 with β := List.replicate (s0.mem.length + j + 1) (γ i') } (s0.mem.length + j)
      rw [hmkp] at this
      simp only [SC.den, ownAddr] at this
      rw [show (List.replicate (s0.mem.length + j + 1) (γ i')).getD (s0.mem.length + j) 0 = γ i' by simp [List.getD]] at this
      exact this.symm
  have hx : act.eval x = y.den (e0.at r) := by
    cases x with
    | tmp t' =>
      have h2 : s.fr.getD t' undefS = .w y := hev
      show act.tmps.getD t' undef = _
      rw [hsv t' (looks_operand (by rw [hl.op]; simp [Op.operands])) (by rw [h2]; exact hl.scp), h2]
      rfl
    | const v =>
      have h2 : SV.w (SW.ofV v) = .w y := hev
      simp only [SV.w.injEq] at h2
      rw [← h2]
      simp [Act.eval]
    | global g =>
      have h2 : SV.w (.o (.l (.pointer (some ⟨g, 0, none⟩)))) = .w y := hev
      simp only [SV.w.injEq] at h2
      rw [← h2]
      rfl
    | func f =>
      have h2 : SV.w (.o (.f f [])) = .w y := hev
      simp only [SV.w.injEq] at h2
      rw [← h2]
      rfl
  generalize hgg : (lateD ops s0.mem.length (e0.at r) al s Xa st).adr γ n = g at *
  have hwt : Region.wanted o (yielded ops act.tmps) = true := by unfold Region.wanted; rw [hl.guard]
  rw [if_pos hwt]
  have hden1 : ∀ c : SC, c.one = true → c.scp s0.mem.length s0.rows.length = true → (c.den (e0.at r)).oneCell' = true := by
    intro cc h1 h2
    exact SC.den_one h1
  have hcells : (y.den (e0.at r)).cells = (y.cells.map (SC.den (e0.at r))).toArray := by
    cases y with
    | o cc =>
      have h1 := hl.one
      simp only [SW.cells, List.all_cons, List.all_nil, Bool.and_true] at h1
      simp only [SW.den, SW.cells, List.map_cons, List.map_nil]
      exact cells_of_one (hden1 cc h1 hl.scp)
    | a cs => rfl
  have hst' := run_storeCells_at P g off b.ty (y.cells.map (SC.den (e0.at r))) 0 _ w hheap (by simpa using hl.off') (fun u hu => by
    obtain ⟨cc, hc, rfl⟩ := List.mem_map.1 hu
    refine hden1 cc (List.all_eq_true.1 hl.one cc hc) ?_
    have hsc := hl.scp
    cases y with
    | o c' => simp only [SW.cells, List.mem_singleton] at hc; subst hc; exact hsc
    | a cs => exact List.all_eq_true.1 hsc cc hc)
  simp only [Nat.add_zero] at hst'
  have hrun : (execOp act.eval o).run P w = .ok .skip (w.setRow g ((setAt b.cells off y.cells).map (SC.den (e0.at r))).toArray) := by
    simp only [execOp, hl.op, hadr, hx, Instr.storeAt, Instr.sureAddr, Sem.run_bind, Sem.run_pure, Result.andThen_ok, storeVar, run_sizeOf' hl.info, Sem.run_ite]
    rw [hcells, if_neg (by simp [hl.size])]
    rw [hst']
    simp [setAt_den]
  unfold Oper.wp
  rw [hrun]
  have hput : act.put o.dst undef = act := by rw [hl.dst]; rfl
  show K (act.put o.dst undef) _
  rw [hput]
  refine hK _ ⟨rfl, rfl, rfl, by simp, fun k hk => setRow_other w g k _ hk, setRow_heap w g _ _ _ _ hheap⟩

/-- What becomes of single blocks. -/
theorem late_blk {l : List Oper} {st : Nat → St} (h : ∀ c o, l[c]? = some o → lateS1 P X m0 g0 o (st c) = some (st (c + 1))) : ∀ c, c ≤ l.length → ∀ (n : Nat) (b : Blk), (st c).mem[n]? = some b →
    (∃ b' : Blk, (st 0).mem[n]? = some b' ∧ b.ty = b'.ty ∧ b.live = b'.live) ∧ (n < m0 → n ∉ X → (st 0).mem[n]? = some b) ∧
    ((∀ (n : Nat) (b : Blk), (st 0).mem[n]? = some b → b.cells.all (SC.scp m0 g0) = true) → b.cells.all (SC.scp m0 g0) = true) := by
  intro c
  induction c with
  | zero => intro _ n b hb; exact ⟨⟨b, hb, rfl, rfl⟩, fun _ _ => hb, fun h => h n b hb⟩
  | succ c ih =>
    intro hc n b hb
    rcases lateS1_spec (h c l[c] (List.getElem?_eq_getElem (by omega))) with ⟨t, ta, x, n', off, y, b', hl⟩ | ⟨x, d, hl⟩
    case inr => rw [hl.eq] at hb; exact ih (by omega) n b hb
    rw [hl.eq] at hb
    rcases mem_set_cases hb with ⟨rfl, rfl, _⟩ | ⟨hne, hb'⟩
    · obtain ⟨h1, h2, h3⟩ := ih (by omega) n b' hl.blk
      refine ⟨h1, fun hn hx => ?_, fun hs => ?_⟩
      · rcases hl.at' with h | h
        · omega
        · exact absurd h hx
      · have h4 := h3 hs
        have h5 : y.cells.all (SC.scp m0 g0) = true := by
          have h6 := hl.scp
          cases y with
          | o cc => simpa [SW.cells, SW.scp] using h6
          | a cs => exact h6
        show (setAt b'.cells off y.cells).all (SC.scp m0 g0) = true
        unfold setAt
        rw [List.all_append, List.all_append, h5]
        have h7 : ∀ {q : List SC}, (∀ z ∈ q, z ∈ b'.cells) → q.all (SC.scp m0 g0) = true := fun hq => List.all_eq_true.2 fun z hz => List.all_eq_true.1 h4 z (hq z hz)
        rw [h7 (fun z hz => List.mem_of_mem_take hz), h7 (fun z hz => List.mem_of_mem_drop hz)]
        rfl
    · exact ih (by omega) n b hb'
end
end Go.Sx
