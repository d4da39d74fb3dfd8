/-
  Symbolic execution: single operations, the rest.
-/
import Derived.Test.YtgcoidbaoigkeaaDoorSwE
namespace Go.Sx
open Go.RowKit

section
variable {P : Program} {e : Env} {W0 : Bas} {s s' : St} {o : Oper} {ev : Operand → Value} {v : SV} {w : World} {as : List B}

theorem setAt_den (e : Env) (cs new : List SC) (off : Nat) : (setAt cs off new).map (SC.den e) = (cs.map (SC.den e)).take off ++ new.map (SC.den e) ++ (cs.map (SC.den e)).drop (off + new.length) := by
  simp [setAt]

theorem SW.scp_cells {nb ng : Nat} {y : SW} (h : y.cells.all (SC.scp nb ng) = true) : y.scp nb ng = true := by
  cases y <;> simpa [SW.scp, SW.cells] using h

theorem flatC_den {e : Env} : ∀ {ks : List K} {cs : List SC} {es : List E}, flatC ks cs = some es → es.length = ks.length ∧ cs.map (SC.den e) = mkCells ks (es.map (E.den e.R e.r)) := by
  intro ks
  induction ks with
  | nil =>
    intro cs es h
    cases cs with
    | nil => simp only [flatC, Option.some.injEq] at h; subst h; simp [mkCells]
    | cons c cs => simp [flatC] at h
  | cons k ks ih =>
    intro cs es h
    unfold flatC at h
    split at h
    · simp_all
    · rename_i heq
      cases heq
      split at h
      · rename_i hk
        subst hk
        simp only [Option.map_eq_some_iff] at h
        obtain ⟨es', h', rfl⟩ := h
        obtain ⟨h1, h2⟩ := ih h'
        simp [h1, h2, mkCells, K.mk, SC.den]
      · cases h
    · rename_i heq
      cases heq
      simp only [Option.map_eq_some_iff] at h
      obtain ⟨es', h', rfl⟩ := h
      obtain ⟨h1, h2⟩ := ih h'
      cases ‹Bool› <;> simp [h1, h2, mkCells, K.mk, SC.den, B.den, E.den]
    · rename_i heq
      cases heq
      simp only [Option.map_eq_some_iff] at h
      obtain ⟨es', h', rfl⟩ := h
      obtain ⟨h1, h2⟩ := ih h'
      simp [h1, h2, mkCells, K.mk, SC.den, B.den]
    · cases h

theorem flatC_one {e : Env} : ∀ {ks : List K} {cs : List SC} {es : List E}, flatC ks cs = some es → ∀ c ∈ cs, (c.den e).oneCell' = true := by
  intro ks
  induction ks with
  | nil =>
    intro cs es h
    cases cs with
    | nil => simp
    | cons c cs => simp [flatC] at h
  | cons k ks ih =>
    intro cs es h
    unfold flatC at h
    split at h
    · simp_all
    · rename_i heq
      cases heq
      split at h
      · simp only [Option.map_eq_some_iff] at h
        obtain ⟨es', h', rfl⟩ := h
        intro c hc
        rcases List.mem_cons.1 hc with rfl | hc
        · rfl
        · exact ih h' c hc
      · cases h
    · rename_i heq
      cases heq
      simp only [Option.map_eq_some_iff] at h
      obtain ⟨es', h', rfl⟩ := h
      intro c hc
      rcases List.mem_cons.1 hc with rfl | hc
      · rfl
      · exact ih h' c hc
    · rename_i heq
      cases heq
      simp only [Option.map_eq_some_iff] at h
      obtain ⟨es', h', rfl⟩ := h
      intro c hc
      rcases List.mem_cons.1 hc with rfl | hc
      · rfl
      · exact ih h' c hc
    · cases h

theorem splice (cur new : List Value) (L m n j : Nat) (h1 : j + new.length ≤ n) (h2 : m + n ≤ L) (h3 : L ≤ cur.length) :
    (cur.take (m + j) ++ new ++ cur.drop (m + j + new.length)).take L =
      (cur.take L).take m ++ ((((cur.take L).drop m).take n).take j ++ new ++ (((cur.take L).drop m).take n).drop (j + new.length)) ++ (cur.take L).drop (m + n) := by
  apply List.ext_getElem?
  intro p
  simp only [List.getElem?_take, List.getElem?_append, List.length_append, List.length_take, List.length_drop, List.getElem?_drop]
  rw [Nat.min_eq_left (by omega : m + j ≤ cur.length), Nat.min_eq_left h3, Nat.min_eq_left (by omega : m ≤ L), Nat.min_eq_left (by omega : n ≤ L - m), Nat.min_eq_left (by omega : j ≤ n)]
  by_cases hp : p < L <;> by_cases p1 : p < m <;> by_cases p2 : p < m + j <;> by_cases p3 : p < m + j + new.length <;> by_cases p4 : p < m + n <;>
    first
    | omega
    | ((repeat (first | rw [if_pos (by omega)] | rw [if_neg (by omega)])) <;> first | done | rfl | (congr 1; omega))

theorem elem_slice {ks : List K} {l : List Int} {i : Nat} (h : ∀ x ∈ l, (elt ks x).length = ks.length) (hi : i < l.length) :
    ((cellsL ks l).drop (i * ks.length)).take ks.length = mkCells ks (elt ks (l.getD i 0)) := by
  apply List.ext_getElem?
  intro j
  rw [List.getElem?_take, List.getElem?_drop]
  have hx := mkCells_length (h (l.getD i 0) (by simp [List.getD, hi]))
  split
  · rename_i hj
    exact cellsL_at h hi hj
  · rw [List.getElem?_eq_none (by omega)]

theorem op_store {t : TypeId} {a x : Operand} (ho : o.op = .store t a x) (h : op1 P s o = some (as, v, s')) (hrep : Rep e W0 s w) (ha : ev a = (s.ev a).den e) (hx : ev x = (s.ev x).den e) (has : ∀ b ∈ as, b.den e.R e.r = true) : OpOut P e W0 s s' o ev v w := by
  simp only [op1, ho] at h
  split at h
  · rename_i n off y hea hex
    split at h
    · rename_i b hb
      split at h
      · rename_i hc
        simp only [Bool.and_eq_true, decide_eq_true_eq] at hc
        obtain ⟨⟨⟨⟨⟨⟨hl, hinf⟩, hfl⟩, hsz⟩, hoff⟩, hone⟩, hys⟩ := hc
        simp only [Option.some.injEq, Prod.mk.injEq] at h
        obtain ⟨rfl, rfl, rfl⟩ := h
        rw [hea] at ha
        rw [hex] at hx
        have hx' : ev x = y.den e := hx
        have hcells := SW.cells_den hrep hone hys
        have hst := run_storeCells_at P (e.β.getD n 0) off b.ty (y.cells.map (SC.den e)) 0 _ w (hrep.blk n b hb hl) (by simpa using hoff) (fun u hu => by
          obtain ⟨c, hc, rfl⟩ := List.mem_map.1 hu
          refine SC.den_one' hrep (List.all_eq_true.1 hone c hc) ?_
          cases y with
          | o c' => simp only [SW.cells, List.mem_singleton] at hc; subst hc; exact hys
          | a cs => exact List.all_eq_true.1 hys c hc)
        refine ⟨rfl, rfl, rfl, rfl, rfl, rfl, e, _, .skip, ?_, .inr ⟨rfl, rfl⟩, hrep.store hb hl hfl (setAt b.cells off y.cells), Env.le_refl _, rfl, rfl, rfl, fun _ _ => rfl⟩
        have ha' : ev a = .pointer (some ⟨e.β.getD n 0, off, none⟩) := ha
        simp only [execOp, ho, ha', hx', Instr.storeAt, Instr.sureAddr, Sem.run_bind, Sem.run_pure, Result.andThen_ok, storeVar, run_sizeOf' hinf, Sem.run_ite]
        rw [hcells, if_neg (by simp [hsz])]
        simp only [Nat.add_zero] at hst
        rw [hst]
        simp [setAt_den]
      · cases h
    · cases h
  · rename_i n size ix j y hea hex
    split at h
    · rename_i b hb
      split at h
      · rename_i hc
        simp only [Bool.and_eq_true, decide_eq_true_eq] at hc
        obtain ⟨⟨⟨⟨⟨hl, hinf⟩, hfl⟩, hsize⟩, hsz⟩, hj⟩ := hc
        split at h
        · rename_i es hes
          simp only [Option.some.injEq, Prod.mk.injEq] at h
          obtain ⟨rfl, rfl, rfl⟩ := h
          rw [hea] at ha
          rw [hex] at hx
          have hx' : ev x = y.den e := hx
          obtain ⟨h0, h1, h2⟩ := inB_den has
          have hrow := hrep.row n b hb hl
          obtain ⟨g, cap, cur, hv, hob, hk0, hel, hg, hle, hm, hcs, htake⟩ := hrow.block (fun hn => by rw [hn] at h1; simp at h1)
          have hxe := hel ((dec (b.c.den e.R e.r)).getD (ix.den e.R e.r).toNat 0) (by simp [List.getD, h1])
          obtain ⟨hel1, hel2⟩ := flatC_den (e := e) hes
          have hecl : (elemC b.ks b.c ix).length = b.ks.length := by
            have h1 := congrArg List.length (elemC_den (e := e) hxe)
            rw [mkCells_length hxe] at h1
            simpa using h1
          have hmem : ∀ c ∈ y.cells, c ∈ setAt (elemC b.ks b.c ix) j y.cells := fun c hc => by simp [setAt, hc]
          have hcells : (y.den e).cells = (y.cells.map (SC.den e)).toArray := by
            cases y with
            | o c => exact cells_of_one (flatC_one (e := e) hes c (hmem c (by simp [SW.cells])))
            | a cs => rfl
          have hcur : cur.toList.length = cap * b.ks.length := by simpa using hcs
          have hlen : (cellsL b.ks (dec (b.c.den e.R e.r))).length = (dec (b.c.den e.R e.r)).length * b.ks.length := cellsL_length hel
          have hmul : (ix.den e.R e.r).toNat * b.ks.length + b.ks.length ≤ (dec (b.c.den e.R e.r)).length * b.ks.length := by
            rw [← Nat.succ_mul]; exact Nat.mul_le_mul_right _ h1
          have hmul2 : (dec (b.c.den e.R e.r)).length * b.ks.length ≤ cap * b.ks.length := Nat.mul_le_mul_right _ hle
          have hst := run_storeCells_at P g ((ix.den e.R e.r).toNat * b.ks.length + j) b.ty (y.cells.map (SC.den e)) 0 _ w hg (by
            simp only [List.length_map]; omega) (fun u hu => by
            obtain ⟨c, hc, rfl⟩ := List.mem_map.1 hu
            exact flatC_one (e := e) hes c (hmem c hc))
          have hnew : (dec ((mkSet b.c ix (elemE es)).den e.R e.r)) = (dec (b.c.den e.R e.r)).set (ix.den e.R e.r).toNat ((elemE es).den e.R e.r) := by rw [mkSet_den, dec_cod]
          have helt : elt b.ks ((elemE es).den e.R e.r) = es.map (E.den e.R e.r) := elemE_elt _ _ hel1
          have heltl : (elt b.ks ((elemE es).den e.R e.r)).length = b.ks.length := by rw [helt]; simpa using hel1
          have hcl : cellsL b.ks (dec ((mkSet b.c ix (elemE es)).den e.R e.r)) = (cur.toList.take ((ix.den e.R e.r).toNat * b.ks.length + j) ++ y.cells.map (SC.den e) ++ cur.toList.drop ((ix.den e.R e.r).toNat * b.ks.length + j + y.cells.length)).take ((dec (b.c.den e.R e.r)).length * b.ks.length) := by
            rw [hnew, cellsL_set heltl _ hel h1, helt, ← hel2]
            have hsp := splice cur.toList (y.cells.map (SC.den e)) ((dec (b.c.den e.R e.r)).length * b.ks.length) ((ix.den e.R e.r).toNat * b.ks.length) b.ks.length j (by simpa using hj) hmul (by rw [hcur]; exact hmul2)
            rw [List.length_map] at hsp
            rw [hsp, htake, elem_slice hel h1, ← elemC_den hxe]
            simp only [setAt, List.map_append, List.map_take, List.map_drop]
          have hrow' : RowOK (w.setRow g (cur.toList.take ((ix.den e.R e.r).toNat * b.ks.length + j) ++ y.cells.map (SC.den e) ++ cur.toList.drop ((ix.den e.R e.r).toNat * b.ks.length + j + y.cells.length)).toArray) b.ty b.ks ((G.o n).val e) ((mkSet b.c ix (elemE es)).den e.R e.r) := by
            refine .inr ⟨hk0, ?_, ?_, .inr ⟨g, cap, _, ?_, Nat.zero_le _, setRow_heap w g cur _ _ _ hg, ?_, hm, ?_, ?_⟩⟩
            · rw [hnew]
              intro z hz
              rcases List.mem_or_eq_of_mem_set hz with hz | hz
              · exact hel z hz
              · rw [hz]; exact heltl
            · rw [cellsL_length]
              rw [hnew]
              intro z hz
              rcases List.mem_or_eq_of_mem_set hz with hz | hz
              · exact hel z hz
              · rw [hz]; exact heltl
            · rw [hv, hnew, List.length_set]
            · rw [hnew, List.length_set]; exact hle
            · simp only [List.size_toArray, List.length_append, List.length_take, List.length_drop, List.length_map, hcur]
              omega
            · rw [hcl, hnew, List.length_set]
          refine ⟨rfl, rfl, rfl, rfl, rfl, rfl, e, _, .skip, ?_, .inr ⟨rfl, rfl⟩, hrep.storeRow hb hl hfl hob _ hrow', Env.le_refl _, rfl, rfl, rfl, fun _ _ => rfl⟩
          have ha' : ev a = .pointer (some ⟨g, (ix.den e.R e.r).toNat * b.ks.length + j, none⟩) := by
            rw [ha]
            simp only [SV.den, SW.den, SC.den]
            rw [hv, hsize]
            simp [atV, Addr.add_lit]
          simp only [execOp, ho, ha', hx', Instr.storeAt, Instr.sureAddr, Sem.run_bind, Sem.run_pure, Result.andThen_ok, storeVar, run_sizeOf' hinf, Sem.run_ite]
          rw [hcells, if_neg (by simp [hsz])]
          simp only [Nat.add_zero] at hst
          rw [hst]
          simp
        · cases h
      · cases h
    · cases h
  · cases h

theorem op_nilCheck {x : Operand} (ho : o.op = .nilCheck x) (h : op1 P s o = some (as, v, s')) (hrep : Rep e W0 s w) (hev : ev x = (s.ev x).den e) (has : ∀ b ∈ as, b.den e.R e.r = true) : OpOut P e W0 s s' o ev v w := by
  simp only [op1, ho] at h
  split at h
  · rename_i hx
    simp only [Option.some.injEq, Prod.mk.injEq] at h
    obtain ⟨rfl, rfl, rfl⟩ := h
    rw [hx] at hev
    exact OpOut.same hrep (by simp [execOp, ho, hev, one, SV.den, SW.den, SC.den, ownAddr])
  · rename_i hx
    rw [hx] at hev
    split at h
    · rename_i hg
      simp only [Option.some.injEq, Prod.mk.injEq] at h
      obtain ⟨rfl, rfl, rfl⟩ := h
      obtain ⟨b, off, hat, _, _⟩ := gp_spec hrep hg has
      exact OpOut.same hrep (by simp [execOp, ho, hev, one, SV.den, SW.den, SC.den, hat])
    · cases h
  · rename_i hx
    simp only [Option.some.injEq, Prod.mk.injEq] at h
    obtain ⟨rfl, rfl, rfl⟩ := h
    rw [hx] at hev
    exact OpOut.same hrep (by simp [execOp, ho, hev, one, SV.den, SW.den, SC.den, ownAddr])
  · cases h

theorem op_un {u : UnOp} {t : TypeId} {x : Operand} (ho : o.op = .unOp u t x) (h : op1 P s o = some (as, v, s')) (hrep : Rep e W0 s w) (hev : ev x = (s.ev x).den e) : OpOut P e W0 s s' o ev v w := by
  simp only [op1, ho] at h
  split at h <;> first
    | (rename_i hx
       simp only [Option.some.injEq, Prod.mk.injEq] at h
       obtain ⟨rfl, rfl, rfl⟩ := h
       rw [hx] at hev
       exact OpOut.same hrep (by simp [execOp, ho, hev, one, SV.den, SW.den, SC.den, Op.unary, Op.intArith, mkSub_den, mkNot_den, E.den]))
    | cases h

theorem op_convert {a b : TypeId} {x : Operand} (ho : o.op = .convert a b x) (h : op1 P s o = some (as, v, s')) (hrep : Rep e W0 s w) (hev : ev x = (s.ev x).den e) : OpOut P e W0 s s' o ev v w := by
  simp only [op1, ho] at h
  split at h
  · rename_i h1 h2 hx
    simp only [Option.some.injEq, Prod.mk.injEq] at h
    obtain ⟨rfl, rfl, rfl⟩ := h
    rw [hx] at hev
    exact OpOut.same hrep (by simp [execOp, ho, hev, one, SV.den, SW.den, SC.den, convert, run_underlying h1, run_underlying h2, Conv.intToInt, mkCv_den])
  · cases h

theorem op_extract {x : Operand} {ix : Nat} (ho : o.op = .extract x ix) (h : op1 P s o = some (as, v, s')) (hrep : Rep e W0 s w) (hev : ev x = (s.ev x).den e) : OpOut P e W0 s s' o ev v w := by
  simp only [op1, ho] at h
  split at h
  · rename_i xs hx
    simp only [Option.map_eq_some_iff, Prod.mk.injEq] at h
    obtain ⟨y, hy, rfl, rfl, rfl⟩ := h
    rw [hx] at hev
    exact OpOut.same hrep (by simp [execOp, ho, hev, SV.den, Instr.extract, hy])
  · cases h

/-! ### parts, fields, indexes -/
theorem run_part {t : TypeId} {cs : List SC} {off : Nat} {y : SW} (h : partS P t cs off = some y) : (part t (cs.map (SC.den e)).toArray off).run P w = .ok (y.den e) w := by
  unfold partS at h
  split at h
  · cases h
  · rename_i hk
    simp only [Bool.not_eq_true] at hk
    split at h
    · rename_i hagg
      simp only [Option.some.injEq] at h
      subst h
      simp only [part, Sem.run_bind, run_isAgg' hk, Result.andThen_ok, hagg, if_true, run_sizeOf' (infoSome hk), Sem.run_pure, SW.den]
      congr 2
      apply Array.ext'
      simp
    · rename_i hagg
      simp only [Option.map_eq_some_iff] at h
      obtain ⟨c, hc, rfl⟩ := h
      simp only [part, Sem.run_bind, run_isAgg' hk, Result.andThen_ok, hagg, Bool.false_eq_true, if_false]
      simp [hc, SW.den]

theorem op_field {t : TypeId} {x : Operand} {f : Nat} (ho : o.op = .field t x f) (h : op1 P s o = some (as, v, s')) (hrep : Rep e W0 s w) (hev : ev x = (s.ev x).den e) : OpOut P e W0 s s' o ev v w := by
  simp only [op1, ho] at h
  split at h
  · rename_i fields cs hu hx
    split at h
    · rename_i fd hf
      simp only [Option.map_eq_some_iff, Prod.mk.injEq] at h
      obtain ⟨y, hy, rfl, rfl, rfl⟩ := h
      rw [hx] at hev
      refine OpOut.same hrep ?_
      simp only [execOp, ho, hev, SV.den, SW.den, Instr.field, Sem.run_bind, run_underlying hu, Result.andThen_ok, hf, asAgg, Sem.run_pure, run_part hy]
    · cases h
  · cases h

theorem op_fieldAddr {t : TypeId} {x : Operand} {f : Nat} (ho : o.op = .fieldAddr t x f) (h : op1 P s o = some (as, v, s')) (hrep : Rep e W0 s w) (hev : ev x = (s.ev x).den e) (has : ∀ b ∈ as, b.den e.R e.r = true) : OpOut P e W0 s s' o ev v w := by
  simp only [op1, ho] at h
  split at h
  · rename_i fields hu
    split at h
    · rename_i fd hf
      split at h
      · cases h
      · rename_i hz
        simp only [Bool.or_eq_true, decide_eq_true_eq, not_or, Bool.not_eq_true] at hz
        have hinf : (P.info? fd.type).isSome = true := by
          cases hi : P.info? fd.type <;> simp_all
        have hrun : ∀ a : Addr, (Instr.fieldAt t (.pointer (some a)) f).run P w = .ok (.pointer (some (a.add fd.offset))) w := fun a => by
          simp only [Instr.fieldAt, Sem.run_bind, run_underlying hu, Result.andThen_ok, hf, Instr.sureAddr, Sem.run_pure, fieldPlace, run_sizeOf' hinf, Sem.run_ite, if_neg hz.1]
        split at h
        · rename_i n off hx
          simp only [Option.some.injEq, Prod.mk.injEq] at h
          obtain ⟨rfl, rfl, rfl⟩ := h
          rw [hx] at hev
          exact OpOut.same hrep (by simp only [execOp, ho, hev, one, SV.den, SW.den, SC.den, ownAddr, Sem.run_bind, hrun, Result.andThen_ok, Sem.run_pure, Addr.add_lit])
        · rename_i g size ix j hx
          rw [hx] at hev
          split at h
          · rename_i c hg
            simp only [Option.some.injEq, Prod.mk.injEq] at h
            obtain ⟨rfl, rfl, rfl⟩ := h
            obtain ⟨b, off, hat, _, _⟩ := gp_spec hrep hg has
            have hev' : ev x = .pointer (some ⟨b, off + ((ix.den e.R e.r).toNat * size + j), none⟩) := by rw [hev]; simp only [SV.den, SW.den, SC.den, hat]
            refine OpOut.same hrep ?_
            simp only [execOp, ho, hev', Sem.run_bind, hrun, Result.andThen_ok, Sem.run_pure, Addr.add_lit, one, SV.den, SW.den, SC.den, hat]
            congr 5
            omega
          · cases h
        · cases h
    · cases h
  · cases h
end
end Go.Sx
