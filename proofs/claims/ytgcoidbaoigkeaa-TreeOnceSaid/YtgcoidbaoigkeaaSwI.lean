/-
  Symbolic execution: literals, builtins; all operations that call no Go function.
-/
import Derived.Test.YtgcoidbaoigkeaaSwH
namespace Go.Sx
open Go.RowKit

section
variable {P : Program} {e : Env} {W0 : Bas} {s s' : St} {o : Oper} {ev : Operand → Value} {v : SV} {w : World} {as : List B}

theorem foldl_set (off : Nat) : ∀ (new : List Value) (k : Nat) (cells : Array Value), off + k + new.length ≤ cells.size →
    (new.zipIdx k).foldl (fun cs (x : Value × Nat) => cs.setIfInBounds (off + x.2) x.1) cells = (cells.toList.take (off + k) ++ new ++ cells.toList.drop (off + k + new.length)).toArray
  | [], k, cells, _ => by simp
  | x :: new, k, cells, h => by
    simp only [List.zipIdx_cons, List.foldl_cons, List.length_cons] at h ⊢
    rw [foldl_set off new (k + 1) _ (by simpa using (by omega : off + (k + 1) + new.length ≤ cells.size))]
    congr 1
    apply List.ext_getElem?
    intro j
    have hs : cells.toList.length = cells.size := by simp
    simp only [Array.toList_setIfInBounds, List.getElem?_append, List.length_append, List.length_take, List.length_set, hs, List.getElem?_take, List.getElem?_drop, List.getElem?_set, List.length_cons]
    rw [Nat.min_eq_left (by omega), Nat.min_eq_left (by omega)]
    by_cases h1 : j < off + k
    · have e1 : off + k ≠ j := by omega
      simp only [h1, if_true]
      rw [if_pos (by omega), if_pos (by omega), if_pos (by omega), if_neg e1, if_pos (by omega)]
    · by_cases h2 : j = off + k
      · subst h2
        simp only [Nat.lt_irrefl, if_false, Nat.sub_self]
        rw [if_pos (by omega), if_pos (by omega), if_pos (by omega), if_pos trivial, if_pos (by omega), if_pos (by omega)]
        simp
      · by_cases h3 : j < off + k + (new.length + 1)
        · rw [if_neg h1, if_pos h3, if_pos (by omega), if_neg (by omega)]
          rw [show j - (off + k) = (j - (off + (k + 1))) + 1 by omega, List.getElem?_cons_succ]
        · rw [if_neg h3, if_neg (by omega), if_neg (by omega)]
          congr 1
          omega

theorem fill_run (hrep : Rep e W0 s w) {place : Nat → Option (Nat × Nat)} : ∀ (parts : List (Nat × SW)) (cells cs : List SC), fillS place cells parts = some cs → (∀ p ∈ parts, p.2.scp s.mem.length s.rows.length = true) →
    Instr.fill place (cells.map (SC.den e)).toArray (parts.map fun p => (p.1, p.2.den e)) = some (cs.map (SC.den e)).toArray
  | [], cells, cs, h, _ => by simp only [fillS, Option.some.injEq] at h; subst h; rfl
  | (i, v) :: rest, cells, cs, h, hs => by
    simp only [fillS] at h
    split at h
    · cases h
    · rename_i off size hp
      split at h
      · cases h
      · rename_i hc
        simp only [ne_eq, Bool.or_eq_true, decide_eq_true_eq, Bool.not_eq_true', not_or, Decidable.not_not, Bool.not_eq_false] at hc
        obtain ⟨⟨h1, h2⟩, h3⟩ := hc
        have ih := fill_run hrep rest _ cs h (fun p hp => hs p (by simp [hp]))
        have hcells := SW.cells_den hrep h3 (hs (i, v) (by simp))
        have hsz : (v.den e).cells.size = v.cells.length := by rw [hcells]; simp
        simp only [List.map_cons, Instr.fill, hp]
        rw [if_neg (by simp [hsz, h1]; omega)]
        have hz : ((v.den e).cells.zipIdx.foldl (fun cs (x : Value × Nat) => cs.setIfInBounds (off + x.2) x.1) (cells.map (SC.den e)).toArray) = ((setAt cells off v.cells).map (SC.den e)).toArray := by
          rw [hcells, ← Array.foldl_toList, Array.toList_zipIdx]
          have := foldl_set off (v.cells.map (SC.den e)) 0 (cells.map (SC.den e)).toArray (by simpa using h2)
          simp only [Nat.add_zero] at this
          rw [this]
          simp [setAt]
        rw [← ih, ← hz]

theorem partsS_den {parts : List (Nat × Operand)} : ∀ {l : List (Nat × SW)}, partsS s parts = some l → (∀ p ∈ parts, ev p.2 = (s.ev p.2).den e) → (parts.map fun p => (p.1, ev p.2)) = l.map fun p => (p.1, p.2.den e) := by
  induction parts with
  | nil => intro l h _; simp only [partsS, Option.some.injEq] at h; subst h; rfl
  | cons p parts ih =>
    intro l h hev
    obtain ⟨i, x⟩ := p
    simp only [partsS] at h
    split at h
    · rename_i y l' hy hl'
      simp only [Option.some.injEq] at h
      subst h
      simp only [List.map_cons]
      rw [ih hl' (fun p hp => hev p (by simp [hp])), hev (i, x) (by simp)]
      simp only [hy]
      rfl
    · cases h

theorem mapM_places : ∀ (fs : List Field), (fs.all fun f => (P.info? f.type).isSome) = true →
    (fs.mapM (m := Sem) fun f => do pure (f.offset, ← sizeOf f.type)).run P w = .ok (fs.map fun f => (f.offset, P.cellsOf f.type)) w
  | [], _ => by simp
  | f :: fs, h => by
    simp only [List.all_cons, Bool.and_eq_true] at h
    simp only [List.mapM_cons, Sem.run_bind, run_sizeOf' h.1, Result.andThen_ok, Sem.run_pure, mapM_places fs h.2, List.map_cons]

theorem run_build {t : TypeId} {l : List (Nat × SW)} {cs : List SC} (hrep : Rep e W0 s w) (h : buildS P t l = some cs) (hs : ∀ p ∈ l, p.2.scp s.mem.length s.rows.length = true) (parts : Array (Nat × Value)) (hp : parts.toList = l.map fun p => (p.1, p.2.den e)) :
    (Instr.build t parts).run P w = .ok (.agg (cs.map (SC.den e)).toArray) w := by
  unfold buildS at h
  split at h
  · cases h
  · rename_i zero hz
    obtain ⟨zv, hz1, hz2⟩ := run_zeroValue' hz w e
    split at h
    · rename_i fields hu
      split at h
      · cases h
      · rename_i hall
        simp only [Bool.not_eq_true', Bool.not_eq_false] at hall
        have hf := fill_run hrep l zero cs h hs
        simp only [Instr.build, Sem.run_bind, hz1, Result.andThen_ok, run_underlying hu]
        have hm : (fields.mapM (m := Sem) fun f => do pure (f.offset, ← sizeOf f.type)).run P w = .ok (fields.toList.map fun f => (f.offset, P.cellsOf f.type)).toArray w := by
          rw [Array.mapM_eq_mapM_toList]
          simp only [Sem.run_map, mapM_places fields.toList hall, Result.andThen_ok]
        rw [hm]
        simp only [Result.andThen_ok, hp, hz2]
        have hplace : (fun i : Nat => (fields.toList.map fun f => (f.offset, P.cellsOf f.type)).toArray[i]?) = fun i => (fields[i]?).map fun f => (f.offset, P.cellsOf f.type) := by
          funext i
          simp
        rw [hplace, hf]
        rfl
    · rename_i n elem hu
      split at h
      · cases h
      · rename_i hinf
        have hinf' : (P.info? elem).isSome = true := by cases hi : P.info? elem <;> simp_all
        have hf := fill_run hrep l zero cs h hs
        simp only [Instr.build, Sem.run_bind, hz1, Result.andThen_ok, run_underlying hu, run_sizeOf' hinf', hp, hz2, hf]
        rfl
    · cases h

theorem op_build {t : TypeId} {parts : Array (Nat × Operand)} (ho : o.op = .build t parts) (h : op1 P s o = some (as, v, s')) (hrep : Rep e W0 s w) (hev : ∀ p ∈ parts.toList, ev p.2 = (s.ev p.2).den e) : OpOut P e W0 s s' o ev v w := by
  simp only [op1, ho] at h
  split at h
  · rename_i l hl
    split at h
    · rename_i hsc
      simp only [Option.map_eq_some_iff, Prod.mk.injEq] at h
      obtain ⟨cs, hcs, rfl, rfl, rfl⟩ := h
      refine OpOut.same hrep ?_
      have := run_build hrep hcs (fun p hp => List.all_eq_true.1 hsc p hp) (parts.map fun p => (p.1, ev p.2)) (by
        rw [Array.toList_map]
        exact partsS_den hl hev)
      simp only [execOp, ho, Sem.run_bind, this, Result.andThen_ok, Sem.run_pure, SV.den, SW.den]
    · cases h
  · cases h

theorem range_repl (z : Array Value) : ∀ n, (Array.range (n * z.size)).map (z[· % z.size]!) = ((List.replicate n z.toList).flatten).toArray := by
  intro n
  apply Array.ext'
  simp only [Array.toList_map, Array.toList_range]
  induction n with
  | zero => simp
  | succ n ih =>
    rw [show (n + 1) * z.size = n * z.size + z.size by rw [Nat.add_mul, Nat.one_mul], List.range_add, List.map_append, ih, List.replicate_succ', List.flatten_append]
    congr 1
    simp only [List.flatten_cons, List.flatten_nil, List.append_nil, List.map_map]
    apply List.ext_getElem?
    intro j
    by_cases hj : j < z.size
    · simp [hj, Nat.mod_eq_of_lt hj]
    · simp [hj]

theorem repl_den (e : Env) (z : List SC) : ∀ n, (repl z n).map (SC.den e) = (List.replicate n (z.map (SC.den e))).flatten
  | 0 => rfl
  | n + 1 => by simp [repl, repl_den e z n, List.replicate_succ]

theorem op_makeSlice {t : TypeId} {l c : Operand} (ho : o.op = .makeSlice t l c) (h : op1 P s o = some (as, v, s')) (hrep : Rep e W0 s w) (hl : ev l = (s.ev l).den e) (hc : ev c = (s.ev c).den e) : OpOut P e W0 s s' o ev v w := by
  simp only [op1, ho] at h
  split at h
  · rename_i elem m m' hu hm hm'
    split at h
    · rename_i inf z hinf hz
      split at h
      · rename_i hcc
        simp only [Bool.and_eq_true, decide_eq_true_eq] at hcc
        obtain ⟨⟨⟨rfl, h64⟩, hby⟩, hzl⟩ := hcc
        simp only [Option.map_eq_some_iff, Prod.mk.injEq] at h
        obtain ⟨s1, hs1, rfl, rfl, rfl⟩ := h
        obtain ⟨k1, hk1⟩ := constOf_den hm e
        obtain ⟨k2, hk2⟩ := constOf_den hm' e
        have hzz : ∃ zv, inf.zero = some zv ∧ zv.cells.toList = z.map (SC.den e) := by
          simp only [zeroOf, hinf, Option.bind_some, Option.map_eq_some_iff] at hz
          obtain ⟨zv, hzv, rfl⟩ := hz
          refine ⟨zv, hzv, ?_⟩
          rw [List.map_map, show (SC.den e ∘ SC.ofV) = id from funext fun v => SC.den_ofV e v]
          simp
        obtain ⟨zv, hzv, hzl'⟩ := hzz
        have hzsz : zv.cells.size = inf.size := by
          have := congrArg List.length hzl'
          simp only [Array.length_toList, List.length_map] at this
          omega
        have hb' : (inf.bytes : Int) * (m : Int) ≤ 281474976710656 := by
          have := Nat.mul_le_mul hby h64
          have h2 : ((inf.bytes * m : Nat) : Int) ≤ 281474976710656 := by omega
          rwa [Int.natCast_mul] at h2
        have hr := run_make (P := P) w t elem inf zv hu hinf hzv k1 k2 m m (by omega) (Int.le_refl _) hb' (by omega)
        simp only [Int.toNat_natCast] at hr
        have hcells : madeCells zv.cells (m * inf.size) = ((repl z m).map (SC.den e)).toArray := by
          apply Array.ext'
          unfold madeCells
          rw [← hzsz, range_repl, repl_den, hzl']
        refine OpOut.alloc hrep hs1 ?_
        have hv : (one (.s s.mem.length 0 m m)).den { e with β := e.β ++ [w.heap.size] } = .slice (some ⟨w.heap.size, 0, none⟩) m m := by
          simp [one, SV.den, SW.den, SC.den, List.getD, ← hrep.nb]
        rw [hv]
        simp only [execOp, ho, hl.trans hk1, hc.trans hk2, Sem.run_bind, hr, Result.andThen_ok, Sem.run_pure, hcells]
      · cases h
    · cases h
  · cases h

theorem op_buildSlice {t : TypeId} {len : Nat} {parts : Array (Nat × Operand)} (ho : o.op = .buildSlice t len parts) (h : op1 P s o = some (as, v, s')) (hrep : Rep e W0 s w) (hev : ∀ p ∈ parts.toList, ev p.2 = (s.ev p.2).den e) : OpOut P e W0 s s' o ev v w := by
  simp only [op1, ho] at h
  split at h
  · rename_i elem l hu hl
    split at h
    · rename_i z hz
      split at h
      · rename_i hc
        simp only [Bool.and_eq_true, decide_eq_true_eq] at hc
        obtain ⟨⟨⟨hzl, hz0⟩, hle⟩, hsc⟩ := hc
        split at h
        · rename_i cs hcs
          simp only [Option.map_eq_some_iff, Prod.mk.injEq] at h
          obtain ⟨s1, hs1, rfl, rfl, rfl⟩ := h
          obtain ⟨zv, hz1, hz2⟩ := run_zeroValue' hz w e
          have hinf : (P.info? elem).isSome = true := by
            cases hi : P.info? elem with
            | none => simp [zeroOf, hi] at hz
            | some i => rfl
          have hzs : zv.cells.size = P.cellsOf elem := by rw [hz2, ← hzl]; simp
          have hzl' : P.cellsOf elem ≠ 0 := by omega
          refine OpOut.alloc hrep hs1 ?_
          have hf := fill_run hrep l _ cs hcs (fun p hp => List.all_eq_true.1 hsc p hp)
          have hrr := range_repl zv.cells len
          rw [hzs] at hrr
          rw [repl_den, show z.map (SC.den e) = zv.cells.toList by rw [hz2]] at hf
          have hplace : (fun i : Nat => some (i * z.length, z.length)) = fun i => some (i * P.cellsOf elem, P.cellsOf elem) := by rw [hzl]
          rw [hplace] at hf
          have hv : (one (.s s.mem.length 0 len len)).den { e with β := e.β ++ [w.heap.size] } = .slice (some ⟨w.heap.size, 0, none⟩) len len := by
            simp [one, SV.den, SW.den, SC.den, List.getD, ← hrep.nb]
          rw [hv]
          have hparts : (parts.map fun p => (p.1, ev p.2)).toList = l.map fun p => (p.1, p.2.den e) := by
            rw [Array.toList_map]
            exact partsS_den hl hev
          have hle' : ¬ (len * P.cellsOf elem > 2 ^ 24) := by rw [← hzl]; omega
          by_cases hl0 : len = 0
          · subst hl0
            have hrr0 : ∀ f : Nat → Value, (Array.range 0).map f = #[] := fun f => by simp
            simp only [Nat.zero_mul] at hrr hle'
            rw [hrr0] at hrr
            rw [← hrr] at hf
            simp only [execOp, ho, Instr.buildSlice, Sem.run_bind, run_underlying hu, Result.andThen_ok, run_sizeOf' hinf, Nat.zero_mul, if_neg hle', if_true, Sem.run_pure, hrr0, hparts, hf, newRow, run_newObj]
            rfl
          have hne : ¬ (len * P.cellsOf elem = 0) := by
            intro h0
            rcases Nat.mul_eq_zero.1 h0 with h0 | h0 <;> omega
          simp only [execOp, ho, Instr.buildSlice, Sem.run_bind, run_underlying hu, Result.andThen_ok, run_sizeOf' hinf, if_neg hle', if_neg hne, hz1, Sem.run_pure, hzs, hrr, hparts, hf, newRow, run_newObj]
          rfl
        · cases h
      · cases h
    · cases h
  · cases h

theorem op_len {c : Call} {x : Operand} (ho : o.op = .call c) (hc : c.callee = .builtin .len) (ha : c.args.toList = [x]) (h : op1 P s o = some (as, v, s')) (hrep : Rep e W0 s w) (hev : ev x = (s.ev x).den e) (has : ∀ b ∈ as, b.den e.R e.r = true) : OpOut P e W0 s s' o ev v w := by
  simp only [op1, ho, hc, ha] at h
  have hargs : c.args = #[x] := by
    apply Array.ext'
    simpa using ha
  split at h
  · rename_i t ht
    have hrun : ∀ n : Int, (Builtin.len_ c.argTypes o.type #[ev x]).run P w = .ok (.int .i64 n) w → (execOp ev o).run P w = .ok (.value (.int .i64 n)) w := fun n hn => by
      simp only [execOp, ho, resolve, hc, hargs, Sem.run_bind, Sem.run_pure, Result.andThen_ok, invoke, builtin]
      simp [hn]
    split at h
    · rename_i n elem hu
      simp only [Option.some.injEq, Prod.mk.injEq] at h
      obtain ⟨rfl, rfl, rfl⟩ := h
      refine OpOut.same hrep (hrun n ?_)
      simp [Builtin.len_, ht, run_underlying hu, goInt]
    · rename_i elem n off len cap hu hx
      simp only [Option.some.injEq, Prod.mk.injEq] at h
      obtain ⟨rfl, rfl, rfl⟩ := h
      rw [hx] at hev
      refine OpOut.same hrep (hrun len ?_)
      have hev' : ev x = .slice (some ⟨e.β.getD n 0, off, none⟩) len cap := hev
      simp [Builtin.len_, ht, run_underlying hu, goInt, hev']
    · rename_i elem g hu hx
      rw [hx] at hev
      split at h
      · rename_i ks c hg
        simp only [Option.some.injEq, Prod.mk.injEq] at h
        obtain ⟨rfl, rfl, rfl⟩ := h
        refine OpOut.same hrep ?_
        have hd : (one (.i .i64 (mkLn c))).den e = .int .i64 ((dec (c.den e.R e.r)).length : Int) := by simp only [one, SV.den, SW.den, SC.den, mkLn_den]
        rw [hd]
        refine hrun _ ?_
        rcases hrep.gread hg with ⟨hv, hn⟩ | ⟨b, off, cap, hv, _⟩
        · have hev' : ev x = .slice none 0 0 := hev.trans hv
          simp [Builtin.len_, ht, run_underlying hu, goInt, hev', hn]
        · have hev' : ev x = .slice (some ⟨b, off, none⟩) (dec (c.den e.R e.r)).length cap := hev.trans hv
          simp [Builtin.len_, ht, run_underlying hu, goInt, hev']
      · cases h
    · rename_i elem g size lo hi hu hx
      rw [hx] at hev
      split at h
      · rename_i ks c hg
        simp only [Option.some.injEq, Prod.mk.injEq] at h
        obtain ⟨rfl, rfl, rfl⟩ := h
        obtain ⟨v1, v2, v3⟩ := vB_den has
        refine OpOut.same hrep ?_
        have hml : ((dec (c.den e.R e.r)).length : Int) ≤ 9223372036854775807 := by
          rcases hrep.gread hg with ⟨_, hn⟩ | ⟨b, off, cap, hv, hle, hm, _⟩
          · rw [hn]; simp
          · simp only [maxLen] at hm; omega
        have hmin : (minusE hi lo).den e.R e.r = hi.den e.R e.r - lo.den e.R e.r := minusE_den _ _ (by omega) (by omega)
        have hlen : (hi.den e.R e.r - lo.den e.R e.r) = (((hi.den e.R e.r).toNat - (lo.den e.R e.r).toNat : Nat) : Int) := by omega
        have hd : (one (.i .i64 (minusE hi lo))).den e = .int .i64 (((hi.den e.R e.r).toNat - (lo.den e.R e.r).toNat : Nat) : Int) := by simp only [one, SV.den, SW.den, SC.den, hmin, hlen]
        rw [hd]
        refine hrun _ ?_
        obtain ⟨a, l, cp, hv⟩ := G.val_slice e g
        have hev' : ev x = .slice (if cp = (lo.den e.R e.r).toNat then a else a.map (·.add ((lo.den e.R e.r).toNat * size))) ((hi.den e.R e.r).toNat - (lo.den e.R e.r).toNat) (cp - (lo.den e.R e.r).toNat) := by
          rw [hev]; simp only [SV.den, SW.den, SC.den, hv, subV]
        simp [Builtin.len_, ht, run_underlying hu, goInt, hev']
      · cases h
    · rename_i elem hu hx
      simp only [Option.some.injEq, Prod.mk.injEq] at h
      obtain ⟨rfl, rfl, rfl⟩ := h
      rw [hx] at hev
      refine OpOut.same hrep (hrun 0 ?_)
      have hev' : ev x = .slice none 0 0 := hev
      simp [Builtin.len_, ht, run_underlying hu, goInt, hev']
    · cases h
  · cases h

/-- The fold that min and max are. -/
theorem foldl_none {α β : Type} (f : Option α → β → Option α) (hf : ∀ y, f none y = none) : ∀ l : List β, l.foldl f none = none
  | [] => rfl
  | y :: l => by rw [List.foldl_cons, hf]; exact foldl_none f hf l

theorem op_min {c : Call} {x : Operand} {rest : List Operand} (ho : o.op = .call c) (hc : c.callee = .builtin .min) (ha : c.args.toList = x :: rest) (h : op1 P s o = some (as, v, s')) (hrep : Rep e W0 s w) (hev : ∀ y ∈ x :: rest, ev y = (s.ev y).den e) : OpOut P e W0 s s' o ev v w := by
  simp only [op1, ho, hc, ha] at h
  have key : ∀ (l : List Operand) (k : IntKind) (a : E), (∀ y ∈ l, ev y = (s.ev y).den e) →
      l.foldl (fun (acc : Option (List B × SV × St)) y => match acc, s.ev y with
        | some (as, .w (.o (.i k a)), s'), .w (.o (.i _ b)) => some (as, one (.i k (mkMn a b)), s')
        | _, _ => none) (some ([], one (.i k a), s)) = some (as, v, s') →
      as = [] ∧ s' = s ∧ (l.map ev |>.foldlM (m := Sem) Builtin.min2 (.int k (a.den e.R e.r))).run P w = .ok (v.den e) w := by
    intro l
    induction l with
    | nil =>
      intro k a _ hf
      simp only [List.foldl_nil, Option.some.injEq, Prod.mk.injEq] at hf
      obtain ⟨rfl, rfl, rfl⟩ := hf
      exact ⟨rfl, rfl, rfl⟩
    | cons y l ih =>
      intro k a hl hf
      rw [List.foldl_cons] at hf
      cases hy : s.ev y with
      | w yw => cases yw with
        | o yc => cases yc with
          | i k' b =>
            simp only [hy, one] at hf
            obtain ⟨h1, h2, h3⟩ := ih k (mkMn a b) (fun z hz => hl z (by simp [hz])) hf
            refine ⟨h1, h2, ?_⟩
            rw [List.map_cons, List.foldlM_cons, Sem.run_bind, hl y (by simp), hy, den_i]
            simp only [Builtin.min2, Sem.run_pure, Result.andThen_ok]
            rw [mkMn_den] at h3
            exact h3
          | _ => simp only [hy, one] at hf; rw [foldl_none _ (by simp)] at hf; cases hf
        | a cs => simp only [hy, one] at hf; rw [foldl_none _ (by simp)] at hf; cases hf
      | t xs => simp only [hy, one] at hf; rw [foldl_none _ (by simp)] at hf; cases hf
      | un i => simp only [hy, one] at hf; rw [foldl_none _ (by simp)] at hf; cases hf
  have hargs : c.args = (x :: rest).toArray := by
    apply Array.ext'
    simpa using ha
  split at h
  · rename_i k a hx
    obtain ⟨rfl, rfl, h3⟩ := key rest k a (fun y hy => hev y (by simp [hy])) h
    refine OpOut.same hrep ?_
    have hx' : ev x = .int k (a.den e.R e.r) := by rw [hev x (by simp), hx]; rfl
    simp only [execOp, ho, resolve, hc, hargs, Sem.run_bind, Sem.run_pure, Result.andThen_ok, invoke, builtin, Builtin.min_, List.map_toArray, List.map_cons, hx', h3]
  · rw [foldl_none _ (by simp)] at h
    cases h

theorem op_max {c : Call} {x : Operand} {rest : List Operand} (ho : o.op = .call c) (hc : c.callee = .builtin .max) (ha : c.args.toList = x :: rest) (h : op1 P s o = some (as, v, s')) (hrep : Rep e W0 s w) (hev : ∀ y ∈ x :: rest, ev y = (s.ev y).den e) : OpOut P e W0 s s' o ev v w := by
  simp only [op1, ho, hc, ha] at h
  have key : ∀ (l : List Operand) (k : IntKind) (a : E), (∀ y ∈ l, ev y = (s.ev y).den e) →
      l.foldl (fun (acc : Option (List B × SV × St)) y => match acc, s.ev y with
        | some (as, .w (.o (.i k a)), s'), .w (.o (.i _ b)) => some (as, one (.i k (mkMx a b)), s')
        | _, _ => none) (some ([], one (.i k a), s)) = some (as, v, s') →
      as = [] ∧ s' = s ∧ (l.map ev |>.foldlM (m := Sem) Builtin.max2 (.int k (a.den e.R e.r))).run P w = .ok (v.den e) w := by
    intro l
    induction l with
    | nil =>
      intro k a _ hf
      simp only [List.foldl_nil, Option.some.injEq, Prod.mk.injEq] at hf
      obtain ⟨rfl, rfl, rfl⟩ := hf
      exact ⟨rfl, rfl, rfl⟩
    | cons y l ih =>
      intro k a hl hf
      rw [List.foldl_cons] at hf
      cases hy : s.ev y with
      | w yw => cases yw with
        | o yc => cases yc with
          | i k' b =>
            simp only [hy, one] at hf
            obtain ⟨h1, h2, h3⟩ := ih k (mkMx a b) (fun z hz => hl z (by simp [hz])) hf
            refine ⟨h1, h2, ?_⟩
            rw [List.map_cons, List.foldlM_cons, Sem.run_bind, hl y (by simp), hy, den_i]
            simp only [Builtin.max2, Sem.run_pure, Result.andThen_ok]
            rw [mkMx_den] at h3
            exact h3
          | _ => simp only [hy, one] at hf; rw [foldl_none _ (by simp)] at hf; cases hf
        | a cs => simp only [hy, one] at hf; rw [foldl_none _ (by simp)] at hf; cases hf
      | t xs => simp only [hy, one] at hf; rw [foldl_none _ (by simp)] at hf; cases hf
      | un i => simp only [hy, one] at hf; rw [foldl_none _ (by simp)] at hf; cases hf
  have hargs : c.args = (x :: rest).toArray := by
    apply Array.ext'
    simpa using ha
  split at h
  · rename_i k a hx
    obtain ⟨rfl, rfl, h3⟩ := key rest k a (fun y hy => hev y (by simp [hy])) h
    refine OpOut.same hrep ?_
    have hx' : ev x = .int k (a.den e.R e.r) := by rw [hev x (by simp), hx]; rfl
    simp only [execOp, ho, resolve, hc, hargs, Sem.run_bind, Sem.run_pure, Result.andThen_ok, invoke, builtin, Builtin.max_, List.map_toArray, List.map_cons, hx', h3]
  · rw [foldl_none _ (by simp)] at h
    cases h

/-- EVERY OPERATION THAT CALLS NO Go FUNCTION. -/
theorem op1_sound (h : op1 P s o = some (as, v, s')) (hrep : Rep e W0 s w) (hev : ∀ x ∈ o.op.operands, ev x = (s.ev x).den e) (has : ∀ b ∈ as, b.den e.R e.r = true) : OpOut P e W0 s s' o ev v w := by
  cases ho : o.op with
  | move x => exact op_move (.inl ho) h hrep (hev x (by simp [ho, Op.operands]))
  | assign x => exact op_move (.inr ho) h hrep (hev x (by simp [ho, Op.operands]))
  | pick c a b => exact op_pick ho h hrep (hev c (by simp [ho, Op.operands])) (hev a (by simp [ho, Op.operands])) (hev b (by simp [ho, Op.operands]))
  | alloc t => exact op_alloc ho h hrep
  | box t x => exact op_box ho h hrep (hev x (by simp [ho, Op.operands]))
  | build t ps => exact op_build ho h hrep (fun p hp => hev p.2 (by simp only [ho, Op.operands, List.mem_toArray]; exact List.mem_map_of_mem hp))
  | makeSlice t l c => exact op_makeSlice ho h hrep (hev l (by simp [ho, Op.operands])) (hev c (by simp [ho, Op.operands]))
  | buildSlice t n ps => exact op_buildSlice ho h hrep (fun p hp => hev p.2 (by simp only [ho, Op.operands, List.mem_toArray]; exact List.mem_map_of_mem hp))
  | load t a => exact op_load ho h hrep (hev a (by simp [ho, Op.operands])) has
  | store t a x => exact op_store ho h hrep (hev a (by simp [ho, Op.operands])) (hev x (by simp [ho, Op.operands])) has
  | nilCheck x => exact op_nilCheck ho h hrep (hev x (by simp [ho, Op.operands])) has
  | binOp op t x y yt => exact op_bin ho h hrep (hev x (by simp [ho, Op.operands])) (hev y (by simp [ho, Op.operands])) has
  | unOp u t x => exact op_un ho h hrep (hev x (by simp [ho, Op.operands]))
  | convert a b x => exact op_convert ho h hrep (hev x (by simp [ho, Op.operands]))
  | fieldAddr t x f => exact op_fieldAddr ho h hrep (hev x (by simp [ho, Op.operands])) has
  | field t x f => exact op_field ho h hrep (hev x (by simp [ho, Op.operands]))
  | indexAddr t x i => exact op_indexAddr ho h hrep (hev x (by simp [ho, Op.operands])) (hev i (by simp [ho, Op.operands])) has
  | index t x i => exact op_index ho h hrep (hev x (by simp [ho, Op.operands])) (hev i (by simp [ho, Op.operands]))
  | slice t x lo hi mx => exact op_slice ho h hrep (hev x (by simp [ho, Op.operands])) (fun y hy => hev y (by simp [ho, Op.operands, Option.mem_def.1 hy])) (fun y hy => hev y (by simp [ho, Op.operands, Option.mem_def.1 hy])) (fun y hy => hev y (by simp [ho, Op.operands, Option.mem_def.1 hy])) has
  | extract x i => exact op_extract ho h hrep (hev x (by simp [ho, Op.operands]))
  | makeFunc fn first caps => exact op_makeFunc ho h hrep (fun x hx => hev x (by simp [ho, Op.operands, hx]))
  | call c =>
    have hop : o.op.operands = c.operands := by rw [ho]; rfl
    cases hc : c.callee with
    | value f => simp [op1, ho, hc] at h
    | invoke r m => simp [op1, ho, hc] at h
    | builtin b =>
      have hargs : ∀ y ∈ c.args.toList, ev y = (s.ev y).den e := fun y hy => hev y (by rw [hop]; simp [Call.operands, hc]; simpa using hy)
      cases hl : c.args.toList with
      | nil => cases b <;> simp [op1, ho, hc, hl] at h
      | cons x rest =>
        rw [hl] at hargs
        cases b <;> first
          | exact op_min ho hc hl h hrep hargs
          | exact op_max ho hc hl h hrep hargs
          | (cases rest with
             | nil => exact op_len ho hc hl h hrep (hargs x (by simp)) has
             | cons y ys => simp [op1, ho, hc, hl] at h)
          | (simp [op1, ho, hc, hl] at h; done)
  | _ => simp [op1, ho] at h
end
end Go.Sx
