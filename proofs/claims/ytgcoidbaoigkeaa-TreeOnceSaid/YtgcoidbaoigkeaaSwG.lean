/-
  Symbolic execution: single operations, the rest.
-/
import Derived.Test.YtgcoidbaoigkeaaSwE
namespace Go.Sx
open Go.RowKit

section
variable {P : Program} {e : Env} {W0 : Bas} {s s' : St} {o : Oper} {ev : Operand → Value} {v : SV} {w : World} {as : List B}

theorem setAt_den (e : Env) (cs new : List SC) (off : Nat) : (setAt cs off new).map (SC.den e) = (cs.map (SC.den e)).take off ++ new.map (SC.den e) ++ (cs.map (SC.den e)).drop (off + new.length) := by
  simp [setAt]

theorem SW.scp_cells {nb ng : Nat} {y : SW} (h : y.cells.all (SC.scp nb ng) = true) : y.scp nb ng = true := by
  cases y <;> simpa [SW.scp, SW.cells] using h

theorem flatC_den {e : Env} : ∀ {ks : List K} {cs : List SC} {es : List E}, flatC ks cs = some es → es.length = ks.length ∧ cs.map (SC.den e) = mkCells ks (es.map (E.den e.R e.r)) := by
  intro ks
  induction ks with
  | nil =>
    intro cs es h
    cases cs with
    | nil => simp only [flatC, Option.some.injEq] at h; subst h; simp [mkCells]
    | cons c cs => simp [flatC] at h
  | cons k ks ih =>
    intro cs es h
    unfold flatC at h
    split at h
    · simp_all
    · rename_i heq
      cases heq
      split at h
      · rename_i hk
        subst hk
        simp only [Option.map_eq_some_iff] at h
        obtain ⟨es', h', rfl⟩ := h
        obtain ⟨h1, h2⟩ := ih h'
        simp [h1, h2, mkCells, K.mk, SC.den]
      · cases h
    · rename_i heq
      cases heq
      simp only [Option.map_eq_some_iff] at h
      obtain ⟨es', h', rfl⟩ := h
      obtain ⟨h1, h2⟩ := ih h'
      cases ‹Bool› <;> simp [h1, h2, mkCells, K.mk, SC.den, B.den, E.den]
    · rename_i heq
      cases heq
      simp only [Option.map_eq_some_iff] at h
      obtain ⟨es', h', rfl⟩ := h
      obtain ⟨h1, h2⟩ := ih h'
      simp [h1, h2, mkCells, K.mk, SC.den, B.den]
    · cases h

theorem flatC_one {e : Env} : ∀ {ks : List K} {cs : List SC} {es : List E}, flatC ks cs = some es → ∀ c ∈ cs, (c.den e).oneCell' = true := by
  intro ks
  induction ks with
  | nil =>
    intro cs es h
    cases cs with
    | nil => simp
    | cons c cs => simp [flatC] at h
  | cons k ks ih =>
    intro cs es h
    unfold flatC at h
    split at h
    · simp_all
    · rename_i heq
      cases heq
      split at h
      · simp only [Option.map_eq_some_iff] at h
        obtain ⟨es', h', rfl⟩ := h
        intro c hc
        rcases List.mem_cons.1 hc with rfl | hc
        · rfl
        · exact ih h' c hc
      · cases h
    · rename_i heq
      cases heq
      simp only [Option.map_eq_some_iff] at h
      obtain ⟨es', h', rfl⟩ := h
      intro c hc
      rcases List.mem_cons.1 hc with rfl | hc
      · rfl
      · exact ih h' c hc
    · rename_i heq
      cases heq
      simp only [Option.map_eq_some_iff] at h
      obtain ⟨es', h', rfl⟩ := h
      intro c hc
      rcases List.mem_cons.1 hc with rfl | hc
      · rfl
      · exact ih h' c hc
    · cases h

theorem splice (cur new : List Value) (L m n j : Nat) (h1 : j + new.length ≤ n) (h2 : m + n ≤ L) (h3 : L ≤ cur.length) :
    (cur.take (m + j) ++ new ++ cur.drop (m + j + new.length)).take L =
      (cur.take L).take m ++ ((((cur.take L).drop m).take n).take j ++ new ++ (((cur.take L).drop m).take n).drop (j + new.length)) ++ (cur.take L).drop (m + n) := by
  apply List.ext_getElem?
  intro p
  simp only [List.getElem?_take, List.getElem?_append, List.length_append, List.length_take, List.length_drop, List.getElem?_drop]
  rw [Nat.min_eq_left (by omega : m + j ≤ cur.length), Nat.min_eq_left h3, Nat.min_eq_left (by omega : m ≤ L), Nat.min_eq_left (by omega : n ≤ L - m), Nat.min_eq_left (by omega : j ≤ n)]
  by_cases hp : p < L <;> by_cases p1 : p < m <;> by_cases p2 : p < m + j <;> by_cases p3 : p < m + j + new.length <;> by_cases p4 : p < m + n <;>
    first
    | omega
    | ((repeat (first | rw [if_pos (by omega)] | rw [if_neg (by omega)])) <;> first | done | rfl | (congr 1; omega))

theorem elem_slice {ks : List K} {l : List Int} {i : Nat} (h : ∀ x ∈ l, (elt ks x).length = ks.length) (hi : i < l.length) :
    ((cellsL ks l).drop (i * ks.length)).take ks.length = mkCells ks (elt ks (l.getD i 0)) := by
  apply List.ext_getElem?
  intro j
  rw [List.getElem?_take, List.getElem?_drop]
  have hx := mkCells_length (h (l.getD i 0) (by simp [List.getD, hi]))
  split
  · rename_i hj
    exact cellsL_at h hi hj
  · rw [List.getElem?_eq_none (by omega)]

theorem op_store {t : TypeId} {a x : Operand} (ho : o.op = .store t a x) (h : op1 P s o = some (as, v, s')) (hrep : Rep e W0 s w) (ha : ev a = (s.ev a).den e) (hx : ev x = (s.ev x).den e) (has : ∀ b ∈ as, b.den e.R e.r = true) : OpOut P e W0 s s' o ev v w := by
  simp only [op1, ho] at h
  split at h
  · rename_i n off y hea hex
    split at h
    · rename_i b hb
      split at h
      · rename_i hc
        simp only [Bool.and_eq_true, decide_eq_true_eq] at hc
        obtain ⟨⟨⟨⟨⟨⟨hl, hinf⟩, hfl⟩, hsz⟩, hoff⟩, hone⟩, hys⟩ := hc
        simp only [Option.some.injEq, Prod.mk.injEq] at h
        obtain ⟨rfl, rfl, rfl⟩ := h
        rw [hea] at ha
        rw [hex] at hx
        have hx' : ev x = y.den e := hx
        have hcells := SW.cells_den hrep hone hys
        have hst := run_storeCells_at P (e.β.getD n 0) off b.ty (y.cells.map (SC.den e)) 0 _ w (hrep.blk n b hb hl) (by simpa using hoff) (fun u hu => by
          obtain ⟨c, hc, rfl⟩ := List.mem_map.1 hu
          refine SC.den_one' hrep (List.all_eq_true.1 hone c hc) ?_
          cases y with
          | o c' => simp only [SW.cells, List.mem_singleton] at hc; subst hc; exact hys
          | a cs => exact List.all_eq_true.1 hys c hc)
        refine ⟨rfl, rfl, rfl, rfl, rfl, rfl, e, _, .skip, ?_, .inr ⟨rfl, rfl⟩, hrep.store hb hl hfl (setAt b.cells off y.cells), Env.le_refl _, rfl, rfl, rfl, fun _ _ => rfl⟩
        have ha' : ev a = .pointer (some ⟨e.β.getD n 0, off, none⟩) := ha
        simp only [execOp, ho, ha', hx', Instr.storeAt, Instr.sureAddr, Sem.run_bind, Sem.run_pure, Result.andThen_ok, storeVar, run_sizeOf' hinf, Sem.run_ite]
        rw [hcells, if_neg (by simp [hsz])]
        simp only [Nat.add_zero] at hst
        rw [hst]
        simp [setAt_den]
      · cases h
    · cases h
  · rename_i n size ix j y hea hex
    split at h
    · rename_i b hb
      split at h
      · rename_i hc
        simp only [Bool.and_eq_true, decide_eq_true_eq] at hc
        obtain ⟨⟨⟨⟨⟨hl, hinf⟩, hfl⟩, hsize⟩, hsz⟩, hj⟩ := hc
        split at h
        · rename_i es hes
          simp only [Option.some.injEq, Prod.mk.injEq] at h
          obtain ⟨rfl, rfl, rfl⟩ := h
          rw [hea] at ha
          rw [hex] at hx
          have hx' : ev x = y.den e := hx
          obtain ⟨h0, h1, h2⟩ := inB_den has
          have hrow := hrep.row n b hb hl
          obtain ⟨g, cap, cur, hv, hob, hk0, hel, hg, hle, hm, hcs, htake⟩ := hrow.block (fun hn => by rw [hn] at h1; simp at h1)
          have hxe := hel ((dec (b.c.den e.R e.r)).getD (ix.den e.R e.r).toNat 0) (by simp [List.getD, h1])
          obtain ⟨hel1, hel2⟩ := flatC_den (e := e) hes
          have hecl : (elemC (.o n) b.ks b.c ix).length = b.ks.length := by
            have h1 := congrArg List.length (elemC_den (e := e) (g := .o n) hxe)
            rw [mkCells_length hxe] at h1
            simpa using h1
          have hmem : ∀ c ∈ y.cells, c ∈ setAt (elemC (.o n) b.ks b.c ix) j y.cells := fun c hc => by simp [setAt, hc]
          have hcells : (y.den e).cells = (y.cells.map (SC.den e)).toArray := by
            cases y with
            | o c => exact cells_of_one (flatC_one (e := e) hes c (hmem c (by simp [SW.cells])))
            | a cs => rfl
          have hcur : cur.toList.length = cap * b.ks.length := by simpa using hcs
          have hlen : (cellsL b.ks (dec (b.c.den e.R e.r))).length = (dec (b.c.den e.R e.r)).length * b.ks.length := cellsL_length hel
          have hmul : (ix.den e.R e.r).toNat * b.ks.length + b.ks.length ≤ (dec (b.c.den e.R e.r)).length * b.ks.length := by
            rw [← Nat.succ_mul]; exact Nat.mul_le_mul_right _ h1
          have hmul2 : (dec (b.c.den e.R e.r)).length * b.ks.length ≤ cap * b.ks.length := Nat.mul_le_mul_right _ hle
          have hst := run_storeCells_at P g ((ix.den e.R e.r).toNat * b.ks.length + j) b.ty (y.cells.map (SC.den e)) 0 _ w hg (by
            simp only [List.length_map]; omega) (fun u hu => by
            obtain ⟨c, hc, rfl⟩ := List.mem_map.1 hu
            exact flatC_one (e := e) hes c (hmem c hc))
          have hnew : (dec ((mkSet b.c ix (elemE es)).den e.R e.r)) = (dec (b.c.den e.R e.r)).set (ix.den e.R e.r).toNat ((elemE es).den e.R e.r) := by rw [mkSet_den, dec_cod]
          have helt : elt b.ks ((elemE es).den e.R e.r) = es.map (E.den e.R e.r) := elemE_elt _ _ hel1
          have heltl : (elt b.ks ((elemE es).den e.R e.r)).length = b.ks.length := by rw [helt]; simpa using hel1
          have hcl : cellsL b.ks (dec ((mkSet b.c ix (elemE es)).den e.R e.r)) = (cur.toList.take ((ix.den e.R e.r).toNat * b.ks.length + j) ++ y.cells.map (SC.den e) ++ cur.toList.drop ((ix.den e.R e.r).toNat * b.ks.length + j + y.cells.length)).take ((dec (b.c.den e.R e.r)).length * b.ks.length) := by
            rw [hnew, cellsL_set heltl _ hel h1, helt, ← hel2]
            have hsp := splice cur.toList (y.cells.map (SC.den e)) ((dec (b.c.den e.R e.r)).length * b.ks.length) ((ix.den e.R e.r).toNat * b.ks.length) b.ks.length j (by simpa using hj) hmul (by rw [hcur]; exact hmul2)
            rw [List.length_map] at hsp
            rw [hsp, htake, elem_slice hel h1, ← elemC_den (g := .o n) hxe]
            simp only [setAt, List.map_append, List.map_take, List.map_drop]
          have hrow' : RowOK (w.setRow g (cur.toList.take ((ix.den e.R e.r).toNat * b.ks.length + j) ++ y.cells.map (SC.den e) ++ cur.toList.drop ((ix.den e.R e.r).toNat * b.ks.length + j + y.cells.length)).toArray) b.ty b.ks ((G.o n).val e) ((mkSet b.c ix (elemE es)).den e.R e.r) := by
            refine .inr ⟨hk0, ?_, ?_, .inr ⟨g, cap, _, ?_, Nat.zero_le _, setRow_heap w g cur _ _ _ hg, ?_, hm, ?_, ?_⟩⟩
            · rw [hnew]
              intro z hz
              rcases List.mem_or_eq_of_mem_set hz with hz | hz
              · exact hel z hz
              · rw [hz]; exact heltl
            · rw [cellsL_length]
              rw [hnew]
              intro z hz
              rcases List.mem_or_eq_of_mem_set hz with hz | hz
              · exact hel z hz
              · rw [hz]; exact heltl
            · rw [hv, hnew, List.length_set]
            · rw [hnew, List.length_set]; exact hle
            · simp only [List.size_toArray, List.length_append, List.length_take, List.length_drop, List.length_map, hcur]
              omega
            · rw [hcl, hnew, List.length_set]
          refine ⟨rfl, rfl, rfl, rfl, rfl, rfl, e, _, .skip, ?_, .inr ⟨rfl, rfl⟩, hrep.storeRow hb hl hfl hob _ hrow', Env.le_refl _, rfl, rfl, rfl, fun _ _ => rfl⟩
          have ha' : ev a = .pointer (some ⟨g, (ix.den e.R e.r).toNat * b.ks.length + j, none⟩) := by
            rw [ha]
            simp only [SV.den, SW.den, SC.den]
            rw [hv, hsize]
            simp [atV, Addr.add_lit]
          simp only [execOp, ho, ha', hx', Instr.storeAt, Instr.sureAddr, Sem.run_bind, Sem.run_pure, Result.andThen_ok, storeVar, run_sizeOf' hinf, Sem.run_ite]
          rw [hcells, if_neg (by simp [hsz])]
          simp only [Nat.add_zero] at hst
          rw [hst]
          simp
        · cases h
      · cases h
    · cases h
  · cases h

theorem op_nilCheck {x : Operand} (ho : o.op = .nilCheck x) (h : op1 P s o = some (as, v, s')) (hrep : Rep e W0 s w) (hev : ev x = (s.ev x).den e) (has : ∀ b ∈ as, b.den e.R e.r = true) : OpOut P e W0 s s' o ev v w := by
  simp only [op1, ho] at h
  split at h
  · rename_i hx
    simp only [Option.some.injEq, Prod.mk.injEq] at h
    obtain ⟨rfl, rfl, rfl⟩ := h
    rw [hx] at hev
    exact OpOut.same hrep (by simp [execOp, ho, hev, one, SV.den, SW.den, SC.den, ownAddr])
  · rename_i hx
    rw [hx] at hev
    split at h
    · rename_i hg
      simp only [Option.some.injEq, Prod.mk.injEq] at h
      obtain ⟨rfl, rfl, rfl⟩ := h
      obtain ⟨b, off, hat, _, _⟩ := gp_spec hrep hg has
      exact OpOut.same hrep (by simp [execOp, ho, hev, one, SV.den, SW.den, SC.den, hat])
    · cases h
  · rename_i hx
    simp only [Option.some.injEq, Prod.mk.injEq] at h
    obtain ⟨rfl, rfl, rfl⟩ := h
    rw [hx] at hev
    exact OpOut.same hrep (by simp [execOp, ho, hev, one, SV.den, SW.den, SC.den, ownAddr])
  · cases h

theorem op_un {u : UnOp} {t : TypeId} {x : Operand} (ho : o.op = .unOp u t x) (h : op1 P s o = some (as, v, s')) (hrep : Rep e W0 s w) (hev : ev x = (s.ev x).den e) : OpOut P e W0 s s' o ev v w := by
  simp only [op1, ho] at h
  split at h <;> first
    | (rename_i hx
       simp only [Option.some.injEq, Prod.mk.injEq] at h
       obtain ⟨rfl, rfl, rfl⟩ := h
       rw [hx] at hev
       exact OpOut.same hrep (by simp [execOp, ho, hev, one, SV.den, SW.den, SC.den, Op.unary, Op.intArith, mkSub_den, mkNot_den, E.den]))
    | cases h

theorem op_convert {a b : TypeId} {x : Operand} (ho : o.op = .convert a b x) (h : op1 P s o = some (as, v, s')) (hrep : Rep e W0 s w) (hev : ev x = (s.ev x).den e) : OpOut P e W0 s s' o ev v w := by
  simp only [op1, ho] at h
  split at h
  · rename_i h1 h2 hx
    simp only [Option.some.injEq, Prod.mk.injEq] at h
    obtain ⟨rfl, rfl, rfl⟩ := h
    rw [hx] at hev
    exact OpOut.same hrep (by simp [execOp, ho, hev, one, SV.den, SW.den, SC.den, convert, run_underlying h1, run_underlying h2, Conv.intToInt, mkCv_den])
  · cases h

theorem op_extract {x : Operand} {ix : Nat} (ho : o.op = .extract x ix) (h : op1 P s o = some (as, v, s')) (hrep : Rep e W0 s w) (hev : ev x = (s.ev x).den e) : OpOut P e W0 s s' o ev v w := by
  simp only [op1, ho] at h
  split at h
  · rename_i xs hx
    simp only [Option.map_eq_some_iff, Prod.mk.injEq] at h
    obtain ⟨y, hy, rfl, rfl, rfl⟩ := h
    rw [hx] at hev
    exact OpOut.same hrep (by simp [execOp, ho, hev, SV.den, Instr.extract, hy])
  · cases h

/-! ### parts, fields, indexes -/
theorem run_part {t : TypeId} {cs : List SC} {off : Nat} {y : SW} (h : partS P t cs off = some y) : (part t (cs.map (SC.den e)).toArray off).run P w = .ok (y.den e) w := by
  unfold partS at h
  split at h
  · cases h
  · rename_i hk
    simp only [Bool.not_eq_true] at hk
    split at h
    · rename_i hagg
      simp only [Option.some.injEq] at h
      subst h
      simp only [part, Sem.run_bind, run_isAgg' hk, Result.andThen_ok, hagg, if_true, run_sizeOf' (infoSome hk), Sem.run_pure, SW.den]
      congr 2
      apply Array.ext'
      simp
    · rename_i hagg
      simp only [Option.map_eq_some_iff] at h
      obtain ⟨c, hc, rfl⟩ := h
      simp only [part, Sem.run_bind, run_isAgg' hk, Result.andThen_ok, hagg, Bool.false_eq_true, if_false]
      simp [hc, SW.den]

theorem op_field {t : TypeId} {x : Operand} {f : Nat} (ho : o.op = .field t x f) (h : op1 P s o = some (as, v, s')) (hrep : Rep e W0 s w) (hev : ev x = (s.ev x).den e) : OpOut P e W0 s s' o ev v w := by
  simp only [op1, ho] at h
  split at h
  · rename_i fields cs hu hx
    split at h
    · rename_i fd hf
      simp only [Option.map_eq_some_iff, Prod.mk.injEq] at h
      obtain ⟨y, hy, rfl, rfl, rfl⟩ := h
      rw [hx] at hev
      refine OpOut.same hrep ?_
      simp only [execOp, ho, hev, SV.den, SW.den, Instr.field, Sem.run_bind, run_underlying hu, Result.andThen_ok, hf, asAgg, Sem.run_pure, run_part hy]
    · cases h
  · cases h

theorem op_fieldAddr {t : TypeId} {x : Operand} {f : Nat} (ho : o.op = .fieldAddr t x f) (h : op1 P s o = some (as, v, s')) (hrep : Rep e W0 s w) (hev : ev x = (s.ev x).den e) (has : ∀ b ∈ as, b.den e.R e.r = true) : OpOut P e W0 s s' o ev v w := by
  simp only [op1, ho] at h
  split at h
  · rename_i fields hu
    split at h
    · rename_i fd hf
      split at h
      · cases h
      · rename_i hz
        simp only [Bool.or_eq_true, decide_eq_true_eq, not_or, Bool.not_eq_true] at hz
        have hinf : (P.info? fd.type).isSome = true := by
          cases hi : P.info? fd.type <;> simp_all
        have hrun : ∀ a : Addr, (Instr.fieldAt t (.pointer (some a)) f).run P w = .ok (.pointer (some (a.add fd.offset))) w := fun a => by
          simp only [Instr.fieldAt, Sem.run_bind, run_underlying hu, Result.andThen_ok, hf, Instr.sureAddr, Sem.run_pure, fieldPlace, run_sizeOf' hinf, Sem.run_ite, if_neg hz.1]
        split at h
        · rename_i n off hx
          simp only [Option.some.injEq, Prod.mk.injEq] at h
          obtain ⟨rfl, rfl, rfl⟩ := h
          rw [hx] at hev
          exact OpOut.same hrep (by simp only [execOp, ho, hev, one, SV.den, SW.den, SC.den, ownAddr, Sem.run_bind, hrun, Result.andThen_ok, Sem.run_pure, Addr.add_lit])
        · rename_i g size ix j hx
          rw [hx] at hev
          split at h
          · rename_i c hg
            simp only [Option.some.injEq, Prod.mk.injEq] at h
            obtain ⟨rfl, rfl, rfl⟩ := h
            obtain ⟨b, off, hat, _, _⟩ := gp_spec hrep hg has
            have hev' : ev x = .pointer (some ⟨b, off + ((ix.den e.R e.r).toNat * size + j), none⟩) := by rw [hev]; simp only [SV.den, SW.den, SC.den, hat]
            refine OpOut.same hrep ?_
            simp only [execOp, ho, hev', Sem.run_bind, hrun, Result.andThen_ok, Sem.run_pure, Addr.add_lit, one, SV.den, SW.den, SC.den, hat]
            congr 5
            omega
          · cases h
        · cases h
    · cases h
  · cases h
end
end Go.Sx
namespace Go.Sx
open Go.RowKit

section
variable {P : Program} {e : Env} {W0 : Bas} {s s' : St} {o : Oper} {ev : Operand → Value} {v : SV} {w : World} {as : List B}

theorem constOf_den {x : SV} {i : Nat} (h : constOf x = some i) (e : Env) : ∃ k, x.den e = .int k (i : Int) := by
  unfold constOf at h
  split at h
  · rename_i k n
    split at h
    · rename_i hn
      simp only [Option.some.injEq] at h
      subst h
      exact ⟨k, by simp [SV.den, SW.den, SC.den, E.den, Int.toNat_of_nonneg hn]⟩
    · cases h
  · cases h

theorem intE_den {x : SV} {i : E} (h : intE x = some i) (e : Env) : ∃ k, x.den e = .int k (i.den e.R e.r) := by
  unfold intE at h
  split at h
  · rename_i k n
    simp only [Option.some.injEq] at h
    subst h
    exact ⟨k, rfl⟩
  · cases h

theorem op_indexAddr {t : TypeId} {x ix : Operand} (ho : o.op = .indexAddr t x ix) (h : op1 P s o = some (as, v, s')) (hrep : Rep e W0 s w) (hev : ev x = (s.ev x).den e) (hix : ev ix = (s.ev ix).den e) (has : ∀ b ∈ as, b.den e.R e.r = true) : OpOut P e W0 s s' o ev v w := by
  simp only [op1, ho] at h
  have arr : ∀ {len : Nat} {elem : TypeId} {i : Nat} {k : IntKind} (a : Addr), P.underlying t = some (.array len elem) → (P.info? elem).isSome = true → i < len → ev ix = .int k (i : Int) → ev x = .pointer (some a) →
      (execOp ev o).run P w = .ok (.value (.pointer (some (a.add (i * P.cellsOf elem))))) w := by
    intro len elem i k a hu hinf hi he hx
    simp only [execOp, ho, Instr.indexAt, he, hx, asIntOf, Sem.run_bind, Sem.run_pure, Result.andThen_ok, run_underlying hu, Instr.sureAddr, Sem.run_ite, run_sizeOf' hinf]
    rw [if_pos ⟨by omega, by omega⟩]
    simp
  have slc : ∀ {len cap : Nat} {elem : TypeId} {i : Int} {k : IntKind} (a : Addr), P.underlying t = some (.slice elem) → (P.info? elem).isSome = true → 0 ≤ i → i < (len : Int) → ev ix = .int k i → ev x = .slice (some a) len cap →
      (execOp ev o).run P w = .ok (.value (.pointer (some (a.add (i.toNat * P.cellsOf elem))))) w := by
    intro len cap elem i k a hu hinf hi0 hi he hx
    simp only [execOp, ho, Instr.indexAt, he, hx, asIntOf, Sem.run_bind, Sem.run_pure, Result.andThen_ok, run_underlying hu, Sem.run_ite, run_sizeOf' hinf]
    rw [if_pos ⟨by omega, by omega⟩]
    rfl
  split at h
  · rename_i len elem n off hu hx
    rw [hx] at hev
    split at h
    · rename_i i hi
      split at h
      · rename_i hc
        simp only [Bool.and_eq_true, decide_eq_true_eq] at hc
        simp only [Option.some.injEq, Prod.mk.injEq] at h
        obtain ⟨rfl, rfl, rfl⟩ := h
        obtain ⟨k, hk⟩ := constOf_den hi e
        refine OpOut.same hrep ?_
        rw [arr ⟨e.β.getD n 0, off, none⟩ hu hc.2 hc.1 (hix.trans hk) hev, Addr.add_lit]
        rfl
      · cases h
    · cases h
  · rename_i len elem g size gx j hu hx
    rw [hx] at hev
    split at h
    · rename_i hbig
      simp only [Bool.and_eq_true, decide_eq_true_eq] at hbig
      obtain ⟨_, rfl, hlen, rfl, hgx⟩ := hbig
      have hgx := E.same_eq _ _ hgx
      subst hgx
      split at h
      · rename_i ie ks c hie hg
        split at h
        · rename_i hinf
          simp only [Option.some.injEq, Prod.mk.injEq] at h
          obtain ⟨rfl, rfl, rfl⟩ := h
          obtain ⟨k, hk⟩ := intE_den hie e
          obtain ⟨h0, h1, h2⟩ := inB_den (c := c) (ix := ie) (fun b hb => has b (List.mem_append_left _ hb))
          have h3 := has (mkLt ie (.c len)) (by simp)
          rw [mkLt_den, decide_eq_true_eq] at h3
          simp only [E.den] at h3
          refine OpOut.same hrep ?_
          rcases hrep.gread hg with ⟨_, hn⟩ | ⟨b, off, cap, hv, hle, hm, hel, hcell⟩
          · rw [hn] at h1; simp at h1
          · obtain ⟨m, hm'⟩ := Int.eq_ofNat_of_zero_le h0
            rw [arr (i := m) (k := k) ⟨b, off, none⟩ hu hinf (by omega) (by rw [hix.trans hk, hm']) (hev.trans (by simp [SV.den, SW.den, SC.den, hv, atV, Addr.add_lit, E.den])), Addr.add_lit]
            simp [one, SV.den, SW.den, SC.den, hv, atV, Addr.add_lit, hm']
        · cases h
      · cases h
    split at h
    · rename_i i ks c hi hg
      split at h
      · rename_i hc
        simp only [Bool.and_eq_true, decide_eq_true_eq] at hc
        simp only [Option.some.injEq, Prod.mk.injEq] at h
        obtain ⟨rfl, rfl, rfl⟩ := h
        obtain ⟨k, hk⟩ := constOf_den hi e
        obtain ⟨b, off, hat, _, _⟩ := gp_spec hrep hg has
        refine OpOut.same hrep ?_
        rw [arr ⟨b, off + ((gx.den e.R e.r).toNat * size + j), none⟩ hu hc.2 hc.1 (hix.trans hk) (hev.trans (by simp only [SV.den, SW.den, SC.den, hat])), Addr.add_lit]
        simp only [one, SV.den, SW.den, SC.den, hat]
        congr 5
        omega
      · cases h
    · cases h
  · rename_i elem n off len cap hu hx
    rw [hx] at hev
    split at h
    · rename_i i hi
      split at h
      · rename_i hc
        simp only [Bool.and_eq_true, decide_eq_true_eq] at hc
        simp only [Option.some.injEq, Prod.mk.injEq] at h
        obtain ⟨rfl, rfl, rfl⟩ := h
        obtain ⟨k, hk⟩ := constOf_den hi e
        refine OpOut.same hrep ?_
        rw [slc ⟨e.β.getD n 0, off, none⟩ hu hc.2 (by omega) (by omega) (hix.trans hk) hev, Addr.add_lit]
        simp [one, SV.den, SW.den, SC.den, ownAddr]
      · cases h
    · cases h
  · rename_i elem g hu hx
    rw [hx] at hev
    split at h
    · rename_i ie ks c hi hg
      split at h
      · rename_i hinf
        simp only [Option.some.injEq, Prod.mk.injEq] at h
        obtain ⟨rfl, rfl, rfl⟩ := h
        obtain ⟨k, hk⟩ := intE_den hi e
        obtain ⟨h0, h1, h2⟩ := inB_den has
        refine OpOut.same hrep ?_
        rcases hrep.gread hg with ⟨_, hn⟩ | ⟨b, off, cap, hv, hle, hm, hel, hcell⟩
        · rw [hn] at h1; simp at h1
        · rw [slc ⟨b, off, none⟩ hu hinf h0 h2 (hix.trans hk) (hev.trans hv), Addr.add_lit]
          simp only [one, SV.den, SW.den, SC.den, hv, atV, Addr.add_lit, Nat.add_zero]
      · cases h
    · cases h
  · rename_i elem g size lo hi hu hx
    rw [hx] at hev
    split at h
    · rename_i ie ks c hie hg
      split at h
      · rename_i hc
        simp only [Bool.and_eq_true, decide_eq_true_eq] at hc
        obtain ⟨hinf, rfl⟩ := hc
        simp only [Option.some.injEq, Prod.mk.injEq] at h
        obtain ⟨rfl, rfl, rfl⟩ := h
        obtain ⟨k, hk⟩ := intE_den hie e
        obtain ⟨v1, v2, v3⟩ := vB_den (c := c) (lo := lo) (hi := hi) (fun b hb => has b (List.mem_append_left _ hb))
        have h1 := has (mkLe (.c 0) ie) (by simp)
        have h2 := has (mkLt ie (minusE hi lo)) (by simp)
        rw [mkLe_den, decide_eq_true_eq] at h1
        rw [mkLt_den, decide_eq_true_eq] at h2
        simp only [E.den] at h1
        refine OpOut.same hrep ?_
        rcases hrep.gread hg with ⟨_, hn⟩ | ⟨b, off, cap, hv, hle, hm, hel, hcell⟩
        · rw [hn] at v3
          simp only [List.length_nil] at v3
          have hmin : (minusE hi lo).den e.R e.r = hi.den e.R e.r - lo.den e.R e.r := minusE_den _ _ (by omega) (by simp at v3; omega)
          rw [hmin] at h2
          simp at v3
          omega
        · have hml : ((dec (c.den e.R e.r)).length : Int) ≤ 9223372036854775807 := by simp only [maxLen] at hm; omega
          have hmin : (minusE hi lo).den e.R e.r = hi.den e.R e.r - lo.den e.R e.r := minusE_den _ _ (by omega) (by omega)
          rw [hmin] at h2
          have hpl : (plusE lo ie).den e.R e.r = lo.den e.R e.r + ie.den e.R e.r := plusE_den _ _ (by omega) (by omega)
          have hcl : cap ≠ (lo.den e.R e.r).toNat := by omega
          have hev' : ev x = .slice (some ⟨b, off + (lo.den e.R e.r).toNat * P.cellsOf elem, none⟩) ((hi.den e.R e.r).toNat - (lo.den e.R e.r).toNat) (cap - (lo.den e.R e.r).toNat) := by
            rw [hev]
            simp only [SV.den, SW.den, SC.den, hv, subV, if_neg hcl, Option.map_some, Addr.add_lit]
          rw [slc _ hu hinf h1 (by omega) (hix.trans hk) hev', Addr.add_lit]
          simp only [one, SV.den, SW.den, SC.den, hv, atV, Addr.add_lit, Nat.add_zero, hpl]
          congr 5
          rw [Int.toNat_add v1 h1, Nat.add_mul]
          omega
      · cases h
    · cases h
  · cases h

theorem op_index {t : TypeId} {x ix : Operand} (ho : o.op = .index t x ix) (h : op1 P s o = some (as, v, s')) (hrep : Rep e W0 s w) (hev : ev x = (s.ev x).den e) (hix : ev ix = (s.ev ix).den e) : OpOut P e W0 s s' o ev v w := by
  simp only [op1, ho] at h
  split at h
  · rename_i len elem cs i hu hx hi
    split at h
    · rename_i hc
      simp only [Bool.and_eq_true, decide_eq_true_eq] at hc
      simp only [Option.map_eq_some_iff, Prod.mk.injEq] at h
      obtain ⟨y, hy, rfl, rfl, rfl⟩ := h
      rw [hx] at hev
      obtain ⟨k, hk⟩ := constOf_den hi e
      have hix' := hix.trans hk
      have hev' : ev x = .agg (cs.map (SC.den e)).toArray := hev
      refine OpOut.same hrep ?_
      simp only [execOp, ho, Instr.index, hix', hev', asIntOf, Sem.run_bind, Sem.run_pure, Result.andThen_ok, run_underlying hu, Sem.run_ite, run_sizeOf' hc.2]
      rw [if_pos ⟨by omega, by omega⟩]
      simp [run_part hy, SV.den]
    · cases h
  · cases h

theorem op_makeFunc {fn : Fn} {first caps : Array Operand} (ho : o.op = .makeFunc fn first caps) (h : op1 P s o = some (as, v, s')) (hrep : Rep e W0 s w) (hev : ∀ x ∈ caps, ev x = (s.ev x).den e) : OpOut P e W0 s s' o ev v w := by
  simp only [op1, ho] at h
  split at h
  · rename_i f hf
    simp only [Option.map_eq_some_iff, Prod.mk.injEq] at h
    obtain ⟨l, hl, rfl, rfl, rfl⟩ := h
    have hfirst : first = #[] := by
      apply Array.ext'
      simpa using hf
    subst hfirst
    have key : ∀ (cs : List Operand) (l : List (Nat × Nat)), (∀ x ∈ cs, ev x = (s.ev x).den e) → capsS s cs = some l → cs.map ev = l.map fun c => ownAddr e c.1 c.2 := by
      intro cs
      induction cs with
      | nil => intro l _ hl; simp [capsS] at hl; simp [← hl]
      | cons c cs ih =>
        intro l hcs hl
        simp only [capsS] at hl
        split at hl
        · rename_i n off l' hx hl'
          simp only [Option.some.injEq] at hl
          subst hl
          have := ih l' (fun x hx => hcs x (by simp [hx])) hl'
          rw [List.map_cons, this, hcs c (by simp), hx]
          rfl
        · cases hl
    have hk := key caps.toList l (fun x hx => hev x (by simpa using hx)) hl
    refine OpOut.same hrep ?_
    have hk' : caps.map ev = (l.map fun c => ownAddr e c.1 c.2).toArray := by
      apply Array.ext'
      simpa using hk
    simp [execOp, ho, Instr.makeFunc, hk', one, SV.den, SW.den, SC.den]
  · cases h

/-! ### slices -/
theorem boundS_run {x : Option Operand} {dflt i : Nat} (h : boundS s x dflt = some i) (hev : ∀ y ∈ x, ev y = (s.ev y).den e) :
    (x = none ∧ i = dflt) ∨ ∃ y k, x = some y ∧ ev y = .int k (i : Int) := by
  unfold boundS at h
  split at h
  · exact .inl ⟨rfl, by simpa using h.symm⟩
  · rename_i y
    obtain ⟨k, hk⟩ := constOf_den h e
    exact .inr ⟨y, k, rfl, (hev y rfl).trans hk⟩

theorem run_sliceBounds' {isSlice : Bool} {len cap l h : Nat} {lo hi : Option Value} (hh : (hi = none ∧ h = len) ∨ ∃ k, hi = some (.int k (h : Int))) (hl : (lo = none ∧ l = 0) ∨ ∃ k, lo = some (.int k (l : Int))) (h1 : l ≤ h) (h2 : h ≤ cap) :
    (Instr.sliceBounds isSlice len cap lo hi none).run P w = .ok (l, h, cap) w := by
  rcases hh with ⟨rfl, rfl⟩ | ⟨k, rfl⟩ <;> rcases hl with ⟨rfl, rfl⟩ | ⟨k', rfl⟩ <;>
    simp [Instr.sliceBounds, Instr.sliceBound, asIntOf, h1, h2]

/-- A bound that is a number. -/
theorem bndE_run {x : Option Operand} {dflt i : E} (h : bndE s x dflt = some i) (hev : ∀ y ∈ x, ev y = (s.ev y).den e) :
    (x = none ∧ i = dflt) ∨ ∃ y k, x = some y ∧ ev y = .int k (i.den e.R e.r) := by
  unfold bndE at h
  split at h
  · exact .inl ⟨rfl, by simpa using h.symm⟩
  · rename_i y
    obtain ⟨k, hk⟩ := intE_den h e
    exact .inr ⟨y, k, rfl, (hev y rfl).trans hk⟩

theorem run_sliceBounds0 {len cap : Nat} {lo hi mx : Option Value} (hh : ∃ k, hi = some (.int k 0)) (hm : ∃ k, mx = some (.int k 0)) (hl : lo = none ∨ ∃ k, lo = some (.int k 0)) :
    (Instr.sliceBounds true len cap lo hi mx).run P w = .ok (0, 0, 0) w := by
  obtain ⟨k, rfl⟩ := hh
  obtain ⟨k', rfl⟩ := hm
  rcases hl with rfl | ⟨k'', rfl⟩ <;> simp [Instr.sliceBounds, Instr.sliceBound, asIntOf]

theorem run_sliceBoundsE {len cap : Nat} {l h : Int} {lo hi : Option Value} (hh : (hi = none ∧ h = len) ∨ ∃ k, hi = some (.int k h)) (hl : (lo = none ∧ l = 0) ∨ ∃ k, lo = some (.int k l)) (h0 : 0 ≤ l) (h1 : l ≤ h) (h2 : h ≤ (cap : Int)) :
    (Instr.sliceBounds true len cap lo hi none).run P w = .ok (l.toNat, h.toNat, cap) w := by
  have e2 : 0 ≤ h := by omega
  have e3 : l ≤ ((h.toNat : Nat) : Int) := by omega
  rcases hh with ⟨rfl, rfl⟩ | ⟨k, rfl⟩ <;> rcases hl with ⟨rfl, rfl⟩ | ⟨k', rfl⟩
  · simp [Instr.sliceBounds]
  · simp [Instr.sliceBounds, Instr.sliceBound, asIntOf, h0, h1]
  · simp [Instr.sliceBounds, Instr.sliceBound, asIntOf, e2, h2]
  · simp [Instr.sliceBounds, Instr.sliceBound, asIntOf, e2, h2, h0]
    intro hc
    omega

theorem op_slice {t : TypeId} {x : Operand} {lo hi mx : Option Operand} (ho : o.op = .slice t x lo hi mx) (h : op1 P s o = some (as, v, s')) (hrep : Rep e W0 s w) (hev : ev x = (s.ev x).den e) (hlo : ∀ y ∈ lo, ev y = (s.ev y).den e) (hhi : ∀ y ∈ hi, ev y = (s.ev y).den e) (hmx0 : ∀ y ∈ mx, ev y = (s.ev y).den e) (has : ∀ b ∈ as, b.den e.R e.r = true) : OpOut P e W0 s s' o ev v w := by
  simp only [op1, ho] at h
  split at h
  · split at h
    · rename_i elem g hu hx hbl hbh hbm
      split at h
      · rename_i hc
        simp only [Bool.and_eq_true] at hc
        simp only [Option.some.injEq, Prod.mk.injEq] at h
        obtain ⟨rfl, rfl, rfl⟩ := h
        rw [hx] at hev
        obtain ⟨a, l, c, hv⟩ := G.val_slice e g
        have hev' : ev x = .slice a l c := hev.trans hv
        refine OpOut.same hrep ?_
        have b1 : ∃ k, hi.map ev = some (.int k 0) := by
          rcases boundS_run hbh hhi with ⟨_, h1⟩ | ⟨y, k, h1, h2⟩
          · cases h1
          · exact ⟨k, by rw [h1]; simp [h2]⟩
        have b2 : ∃ k, mx.map ev = some (.int k 0) := by
          rcases boundS_run hbm hmx0 with ⟨_, h1⟩ | ⟨y, k, h1, h2⟩
          · cases h1
          · exact ⟨k, by rw [h1]; simp [h2]⟩
        have b3 : lo.map ev = none ∨ ∃ k, lo.map ev = some (.int k 0) := by
          rcases boundS_run hbl hlo with ⟨h1, _⟩ | ⟨y, k, h1, h2⟩
          · exact .inl (by rw [h1]; rfl)
          · exact .inr ⟨k, by rw [h1]; simp [h2]⟩
        simp only [execOp, ho, Instr.sliceAt, Instr.slice, Sem.run_bind, run_underlying hu, Result.andThen_ok, hev', Sem.run_pure, run_sliceBounds0 b1 b2 b3, run_sizeOf' hc.2]
        simp [one, SV.den, SW.den, SC.den, hv, zeroV]
      · cases h
    · cases h
  · rename_i hmx
    have hmx' : mx = none := by cases mx <;> simp_all
    subst hmx'
    have conv : ∀ {x : Option Operand} {dflt i : Nat}, boundS s x dflt = some i → (∀ y ∈ x, ev y = (s.ev y).den e) → (x.map ev = none ∧ i = dflt) ∨ ∃ k, x.map ev = some (.int k (i : Int)) := by
      intro x dflt i hb hx
      rcases boundS_run hb hx with ⟨rfl, rfl⟩ | ⟨y, k, rfl, hy⟩
      · exact .inl ⟨rfl, rfl⟩
      · exact .inr ⟨k, by simp [hy]⟩
    have conv2 : ∀ {x : Option Operand} {dflt i : E}, bndE s x dflt = some i → (∀ y ∈ x, ev y = (s.ev y).den e) → (x.map ev = none ∧ i.den e.R e.r = dflt.den e.R e.r) ∨ ∃ k, x.map ev = some (.int k (i.den e.R e.r)) := by
      intro x dflt i hb hx
      rcases bndE_run hb hx with ⟨rfl, rfl⟩ | ⟨y, k, rfl, hy⟩
      · exact .inl ⟨rfl, rfl⟩
      · exact .inr ⟨k, by simp [hy]⟩
    split at h
    · rename_i elem g hu hx
      rw [hx] at hev
      split at h
      · rename_i ks c hg
        split at h
        · rename_i l hh hlb hhb
          split at h
          · rename_i hinf
            simp only [Option.some.injEq, Prod.mk.injEq] at h
            obtain ⟨rfl, rfl, rfl⟩ := h
            obtain ⟨v1, v2, v3⟩ := vB_den has
            have cl := conv2 hlb hlo
            have ch := conv2 hhb hhi
            rw [mkLn_den] at ch
            refine OpOut.same hrep ?_
            rcases hrep.gread hg with ⟨hv, hn⟩ | ⟨b, off, cap, hv, hle, hm, hel, hcell⟩
            · rw [hn] at v3 ch
              simp only [List.length_nil] at ch
              have hev' : ev x = .slice none 0 0 := hev.trans hv
              simp only [execOp, ho, Instr.sliceAt, Instr.slice, Sem.run_bind, run_underlying hu, Result.andThen_ok, hev', Sem.run_pure, Option.map_none, run_sliceBoundsE (P := P) (w := w) (cap := 0) ch cl v1 v2 v3, run_sizeOf' hinf]
              simp only [one, SV.den, SW.den, SC.den, hv, subV]
              simp
            · have hev' : ev x = .slice (some ⟨b, off, none⟩) (dec (c.den e.R e.r)).length cap := hev.trans hv
              simp only [execOp, ho, Instr.sliceAt, Instr.slice, Sem.run_bind, run_underlying hu, Result.andThen_ok, hev', Sem.run_pure, Option.map_none, run_sliceBoundsE (P := P) (w := w) (cap := cap) ch cl v1 v2 (by omega), run_sizeOf' hinf]
              simp only [one, SV.den, SW.den, SC.den, hv, subV]
          · cases h
        · cases h
      · cases h
    · rename_i elem g size lo0 hi0 hu hx
      rw [hx] at hev
      split at h
      · rename_i ks c hg
        split at h
        · rename_i hh hlb hhb
          split at h
          · rename_i hc
            simp only [Bool.and_eq_true, decide_eq_true_eq] at hc
            obtain ⟨hinf, rfl⟩ := hc
            simp only [Option.some.injEq, Prod.mk.injEq] at h
            obtain ⟨rfl, rfl, rfl⟩ := h
            obtain ⟨v1, v2, v3⟩ := vB_den (c := c) (lo := lo0) (hi := hi0) (fun b hb => has b (List.mem_append_left _ hb))
            have h1 := has (mkLe (.c 0) hh) (by simp)
            have h3 := has (mkLe hh (minusE hi0 lo0)) (by simp)
            rw [mkLe_den, decide_eq_true_eq] at h1 h3
            simp only [E.den] at h1
            have cl : (lo.map ev = none ∧ (0 : Int) = 0) ∨ ∃ k, lo.map ev = some (.int k 0) := conv2 hlb hlo
            have ch := conv2 hhb hhi
            have hml : ((dec (c.den e.R e.r)).length : Int) ≤ 9223372036854775807 := by
              rcases hrep.gread hg with ⟨_, hn⟩ | ⟨b, off, cap, hv, hle, hm, hel, hcell⟩
              · rw [hn]; simp
              · simp only [maxLen] at hm; omega
            have hmin : (minusE hi0 lo0).den e.R e.r = hi0.den e.R e.r - lo0.den e.R e.r := minusE_den _ _ (by omega) (by omega)
            rw [hmin] at h3 ch
            have hph : (plusE lo0 hh).den e.R e.r = lo0.den e.R e.r + hh.den e.R e.r := plusE_den _ _ (by omega) (by omega)
            have hlen : (hi0.den e.R e.r - lo0.den e.R e.r) = (((hi0.den e.R e.r).toNat - (lo0.den e.R e.r).toNat : Nat) : Int) := by omega
            rw [hlen] at ch
            refine OpOut.same hrep ?_
            rcases hrep.gread hg with ⟨hv, hn⟩ | ⟨b, off, cap, hv, hle, hm, hel, hcell⟩
            · rw [hn] at v3
              simp only [List.length_nil] at v3
              have e1 : lo0.den e.R e.r = 0 := by simp at v3; omega
              have e2 : hi0.den e.R e.r = 0 := by simp at v3; omega
              have e4 : hh.den e.R e.r = 0 := by omega
              have hev' : ev x = .slice none 0 0 := by rw [hev]; simp [SV.den, SW.den, SC.den, hv, subV, e1, e2]
              rw [e1, e2] at ch
              simp only [Int.toNat_zero, Nat.sub_self] at ch
              simp only [execOp, ho, Instr.sliceAt, Instr.slice, Sem.run_bind, run_underlying hu, Result.andThen_ok, hev', Sem.run_pure, Option.map_none, run_sliceBoundsE (P := P) (w := w) (cap := 0) ch cl (Int.le_refl 0) h1 (by omega), run_sizeOf' hinf]
              simp only [one, SV.den, SW.den, SC.den, hv, subV, hph, e1, e4]
              simp
            · have hev' : ev x = .slice (if cap = (lo0.den e.R e.r).toNat then some ⟨b, off, none⟩ else some ⟨b, off + (lo0.den e.R e.r).toNat * P.cellsOf elem, none⟩) ((hi0.den e.R e.r).toNat - (lo0.den e.R e.r).toNat) (cap - (lo0.den e.R e.r).toNat) := by
                rw [hev]
                simp only [SV.den, SW.den, SC.den, hv, subV, Option.map_some, Addr.add_lit]
              simp only [execOp, ho, Instr.sliceAt, Instr.slice, Sem.run_bind, run_underlying hu, Result.andThen_ok, hev', Sem.run_pure, Option.map_none, run_sliceBoundsE (P := P) (w := w) (cap := cap - (lo0.den e.R e.r).toNat) ch cl (Int.le_refl 0) h1 (by omega), run_sizeOf' hinf]
              simp only [one, SV.den, SW.den, SC.den, hv, subV, hph, Option.map_some, Addr.add_lit, Int.toNat_zero, Nat.zero_mul, Nat.sub_zero]
              rw [Int.toNat_add v1 h1]
              have hsub : (lo0.den e.R e.r).toNat + (hh.den e.R e.r).toNat - (lo0.den e.R e.r).toNat = (hh.den e.R e.r).toNat := by omega
              rw [hsub]
              have hadd : ∀ q : Option Addr, q.map (fun x => x.add 0) = q := fun q => by cases q <;> simp [Addr.add]
              rw [hadd]
              split <;> rfl
          · cases h
        · rename_i ll hh hnz hlb hhb
          split at h
          · rename_i hc
            simp only [Bool.and_eq_true, decide_eq_true_eq] at hc
            obtain ⟨hinf, rfl⟩ := hc
            simp only [Option.some.injEq, Prod.mk.injEq] at h
            obtain ⟨rfl, rfl, rfl⟩ := h
            obtain ⟨v1, v2, v3⟩ := vB_den (c := c) (lo := lo0) (hi := hi0) (fun b hb => has b (List.mem_append_left _ hb))
            have h1 := has (mkLe (.c 0) ll) (by simp)
            have h2 := has (mkLe ll hh) (by simp)
            have h3 := has (mkLe hh (minusE hi0 lo0)) (by simp)
            have h4 := has (mkLt ll (minusE hi0 lo0)) (by simp)
            rw [mkLe_den, decide_eq_true_eq] at h1 h2 h3
            rw [mkLt_den, decide_eq_true_eq] at h4
            simp only [E.den] at h1
            have cl := conv2 hlb hlo
            have ch := conv2 hhb hhi
            have hml : ((dec (c.den e.R e.r)).length : Int) ≤ 9223372036854775807 := by
              rcases hrep.gread hg with ⟨_, hn⟩ | ⟨b, off, cap, hv, hle, hm, hel, hcell⟩
              · rw [hn]; simp
              · simp only [maxLen] at hm; omega
            have hmin : (minusE hi0 lo0).den e.R e.r = hi0.den e.R e.r - lo0.den e.R e.r := minusE_den _ _ (by omega) (by omega)
            rw [hmin] at h3 h4 ch
            have hph : (plusE lo0 hh).den e.R e.r = lo0.den e.R e.r + hh.den e.R e.r := plusE_den _ _ (by omega) (by omega)
            have hpl : (plusE lo0 ll).den e.R e.r = lo0.den e.R e.r + ll.den e.R e.r := plusE_den _ _ (by omega) (by omega)
            have hlen : (hi0.den e.R e.r - lo0.den e.R e.r) = (((hi0.den e.R e.r).toNat - (lo0.den e.R e.r).toNat : Nat) : Int) := by omega
            rw [hlen] at ch
            refine OpOut.same hrep ?_
            rcases hrep.gread hg with ⟨hv, hn⟩ | ⟨b, off, cap, hv, hle, hm, hel, hcell⟩
            · rw [hn] at v3
              simp only [List.length_nil] at v3
              exfalso
              simp at v3
              omega
            · have hev' : ev x = .slice (if cap = (lo0.den e.R e.r).toNat then some ⟨b, off, none⟩ else some ⟨b, off + (lo0.den e.R e.r).toNat * P.cellsOf elem, none⟩) ((hi0.den e.R e.r).toNat - (lo0.den e.R e.r).toNat) (cap - (lo0.den e.R e.r).toNat) := by
                rw [hev]
                simp only [SV.den, SW.den, SC.den, hv, subV, Option.map_some, Addr.add_lit]
              simp only [execOp, ho, Instr.sliceAt, Instr.slice, Sem.run_bind, run_underlying hu, Result.andThen_ok, hev', Sem.run_pure, Option.map_none, run_sliceBoundsE (P := P) (w := w) (cap := cap - (lo0.den e.R e.r).toNat) ch cl h1 h2 (by omega), run_sizeOf' hinf]
              simp only [one, SV.den, SW.den, SC.den, hv, subV, hph, hpl, Option.map_some, Addr.add_lit]
              have n1 : ¬ cap = (lo0.den e.R e.r).toNat := by omega
              have n2 : ¬ cap - (lo0.den e.R e.r).toNat = (ll.den e.R e.r).toNat := by omega
              rw [Int.toNat_add v1 (by omega : 0 ≤ hh.den e.R e.r), Int.toNat_add v1 h1]
              have n3 : ¬ cap = (lo0.den e.R e.r).toNat + (ll.den e.R e.r).toNat := by omega
              rw [if_neg n1, if_neg n2, if_neg n3]
              simp only [Option.map_some, Addr.add_lit]
              rw [Nat.add_mul, ← Nat.add_assoc, show (lo0.den e.R e.r).toNat + (hh.den e.R e.r).toNat - ((lo0.den e.R e.r).toNat + (ll.den e.R e.r).toNat) = (hh.den e.R e.r).toNat - (ll.den e.R e.r).toNat by omega, Nat.sub_add_eq]
          · cases h
        · cases h
      · cases h
    · rename_i len elem n off hu hx
      rw [hx] at hev
      split at h
      · rename_i hh hhb
        split at h
        · rename_i ll hlb
          split at h
          · rename_i hc
            simp only [Bool.and_eq_true, decide_eq_true_eq] at hc
            simp only [Option.some.injEq, Prod.mk.injEq] at h
            obtain ⟨rfl, rfl, rfl⟩ := h
            have hev' : ev x = .pointer (some ⟨e.β.getD n 0, off, none⟩) := hev
            refine OpOut.same hrep ?_
            simp only [execOp, ho, Instr.sliceAt, Sem.run_bind, run_underlying hu, Result.andThen_ok, hev', Instr.sureAddr, Sem.run_pure, Option.map_none, run_sliceBounds' (conv hhb hhi) (conv hlb hlo) hc.1.1 hc.1.2, run_sizeOf' hc.2]
            simp only [one, SV.den, SW.den, SC.den, Addr.add_lit]
            congr 4
            split <;> rfl
          · cases h
        · cases h
      · cases h
    · rename_i elem n off len cap hu hx
      rw [hx] at hev
      split at h
      · rename_i hh hhb
        split at h
        · rename_i ll hlb
          split at h
          · rename_i hc
            simp only [Bool.and_eq_true, decide_eq_true_eq] at hc
            simp only [Option.some.injEq, Prod.mk.injEq] at h
            obtain ⟨rfl, rfl, rfl⟩ := h
            have hev' : ev x = .slice (some ⟨e.β.getD n 0, off, none⟩) len cap := hev
            refine OpOut.same hrep ?_
            simp only [execOp, ho, Instr.sliceAt, Instr.slice, Sem.run_bind, run_underlying hu, Result.andThen_ok, hev', Sem.run_pure, Option.map_none, run_sliceBounds' (conv hhb hhi) (conv hlb hlo) hc.1.1 hc.1.2, run_sizeOf' hc.2]
            simp only [one, SV.den, SW.den, SC.den, Option.map_some, Addr.add_lit]
            congr 4
            split <;> rfl
          · cases h
        · cases h
      · cases h
    · cases h
end
end Go.Sx
