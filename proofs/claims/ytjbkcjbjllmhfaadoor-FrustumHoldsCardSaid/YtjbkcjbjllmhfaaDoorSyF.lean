/-
  Symbolic execution: single operations, the rest.
-/
import Derived.Test.YtjbkcjbjllmhfaaDoorSyE
namespace Go.Sx
open Go.RowKit

section
variable {P : Program} {e : Env} {W0 : World} {s s' : St} {o : Oper} {ev : Operand → Value} {v : SV} {w : World} {as : List B}

theorem setAt_den (e : Env) (cs new : List SC) (off : Nat) : (setAt cs off new).map (SC.den e) = (cs.map (SC.den e)).take off ++ new.map (SC.den e) ++ (cs.map (SC.den e)).drop (off + new.length) := by
  simp [setAt]

theorem SW.scp_cells {nb ng : Nat} {y : SW} (h : y.cells.all (SC.scp nb ng) = true) : y.scp nb ng = true := by
  cases y <;> simpa [SW.scp, SW.cells] using h

theorem op_store {t : TypeId} {a x : Operand} (ho : o.op = .store t a x) (h : op1 P s o = some (as, v, s')) (hrep : Rep e W0 s w) (ha : ev a = (s.ev a).den e) (hx : ev x = (s.ev x).den e) : OpOut P e W0 s s' o ev v w := by
  simp only [op1, ho] at h
  split at h
  · rename_i n off y hea hex
    split at h
    · rename_i b hb
      split at h
      · rename_i hc
        simp only [Bool.and_eq_true, decide_eq_true_eq] at hc
        obtain ⟨⟨⟨⟨⟨⟨hl, hinf⟩, hfl⟩, hsz⟩, hoff⟩, hone⟩, hys⟩ := hc
        simp only [Option.some.injEq, Prod.mk.injEq] at h
        obtain ⟨rfl, rfl, rfl⟩ := h
        rw [hea] at ha
        rw [hex] at hx
        have hx' : ev x = y.den e := hx
        have hcells := SW.cells_den hrep hone hys
        have hst := run_storeCells_at P (e.β.getD n 0) off b.ty (y.cells.map (SC.den e)) 0 _ w (hrep.blk n b hb hl) (by simpa using hoff) (fun u hu => by
          obtain ⟨c, hc, rfl⟩ := List.mem_map.1 hu
          refine SC.den_one' hrep (List.all_eq_true.1 hone c hc) ?_
          cases y with
          | o c' => simp only [SW.cells, List.mem_singleton] at hc; subst hc; exact hys
          | a cs => exact List.all_eq_true.1 hys c hc)
        refine ⟨rfl, rfl, rfl, rfl, rfl, e, _, .skip, ?_, .inr ⟨rfl, rfl⟩, hrep.store hb hl hfl (setAt b.cells off y.cells), Env.le_refl _, rfl, rfl, rfl, fun _ _ => rfl⟩
        have ha' : ev a = .pointer (some ⟨e.β.getD n 0, off, none⟩) := ha
        simp only [execOp, ho, ha', hx', Instr.storeAt, Instr.sureAddr, Sem.run_bind, Sem.run_pure, Result.andThen_ok, storeVar, run_sizeOf' hinf, Sem.run_ite]
        rw [hcells, if_neg (by simp [hsz])]
        simp only [Nat.add_zero] at hst
        rw [hst]
        simp [setAt_den]
      · cases h
    · cases h
  · rename_i n off y hea hex
    split at h
    · rename_i b hb
      split at h
      · rename_i hc
        simp only [Bool.and_eq_true, decide_eq_true_eq] at hc
        obtain ⟨⟨⟨⟨⟨⟨⟨hl, hne⟩, hinf⟩, hfl⟩, hsz⟩, hoff⟩, hone⟩, hys⟩ := hc
        simp only [Option.some.injEq, Prod.mk.injEq] at h
        obtain ⟨rfl, rfl, rfl⟩ := h
        rw [hea] at ha
        rw [hex] at hx
        have hx' : ev x = y.den e := hx
        have hcells := SW.cells_den hrep hone hys
        obtain ⟨g, cap, cur, hv, hg, hcap, hm, hcs, htake⟩ := row_some hrep hb hl hne
        have hlen : b.cells.length = b.len * b.size := by have := (hrep.row n b hb hl).1; simpa using this
        have hst := run_storeCells_at P g off b.ty (y.cells.map (SC.den e)) 0 _ w hg (by
          have : b.len * b.size ≤ cap * b.size := Nat.mul_le_mul_right _ hcap
          simp only [List.length_map]; omega) (fun u hu => by
          obtain ⟨c, hc, rfl⟩ := List.mem_map.1 hu
          refine SC.den_one' hrep (List.all_eq_true.1 hone c hc) ?_
          cases y with
          | o c' => simp only [SW.cells, List.mem_singleton] at hc; subst hc; exact hys
          | a cs => exact List.all_eq_true.1 hys c hc)
        refine ⟨rfl, rfl, rfl, rfl, rfl, e, _, .skip, ?_, .inr ⟨rfl, rfl⟩, hrep.storeRow hb hl hfl hv hg hcap hm hcs htake off y.cells hoff, Env.le_refl _, rfl, rfl, rfl, fun _ _ => rfl⟩
        have ha' : ev a = .pointer (some ⟨g, off, none⟩) := by rw [ha]; simp only [SV.den, SW.den, SC.den, hv]
        simp only [execOp, ho, ha', hx', Instr.storeAt, Instr.sureAddr, Sem.run_bind, Sem.run_pure, Result.andThen_ok, storeVar, run_sizeOf' hinf, Sem.run_ite]
        rw [hcells, if_neg (by simp [hsz])]
        simp only [Nat.add_zero] at hst
        rw [hst]
        simp
      · cases h
    · cases h
  · cases h

theorem gpOK_some (hrep : Rep e W0 s w) {n : Nat} (h : gpOK s n = true) : ∃ g, ∀ off, (SC.gp n off).den e = .pointer (some ⟨g, off, none⟩) := by
  unfold gpOK at h
  split at h
  · rename_i b hb
    simp only [Bool.and_eq_true, decide_eq_true_eq] at h
    obtain ⟨g, cap, cur, hv, _⟩ := row_some hrep hb h.1 h.2
    exact ⟨g, fun off => by simp only [SC.den, hv]⟩
  · cases h

theorem op_nilCheck {x : Operand} (ho : o.op = .nilCheck x) (h : op1 P s o = some (as, v, s')) (hrep : Rep e W0 s w) (hev : ev x = (s.ev x).den e) : OpOut P e W0 s s' o ev v w := by
  simp only [op1, ho] at h
  split at h <;> first
    | (rename_i hx
       simp only [Option.some.injEq, Prod.mk.injEq] at h
       obtain ⟨rfl, rfl, rfl⟩ := h
       rw [hx] at hev
       exact OpOut.same hrep (by simp [execOp, ho, hev, one, SV.den, SW.den, SC.den, ownAddr]))
    | cases h

theorem op_un {u : UnOp} {t : TypeId} {x : Operand} (ho : o.op = .unOp u t x) (h : op1 P s o = some (as, v, s')) (hrep : Rep e W0 s w) (hev : ev x = (s.ev x).den e) : OpOut P e W0 s s' o ev v w := by
  simp only [op1, ho] at h
  split at h <;> first
    | (rename_i hx
       simp only [Option.some.injEq, Prod.mk.injEq] at h
       obtain ⟨rfl, rfl, rfl⟩ := h
       rw [hx] at hev
       exact OpOut.same hrep (by simp [execOp, ho, hev, one, SV.den, SW.den, SC.den, Op.unary, Op.intArith, mkSub_den, mkNot_den, E.den]))
    | cases h

theorem op_convert {a b : TypeId} {x : Operand} (ho : o.op = .convert a b x) (h : op1 P s o = some (as, v, s')) (hrep : Rep e W0 s w) (hev : ev x = (s.ev x).den e) : OpOut P e W0 s s' o ev v w := by
  simp only [op1, ho] at h
  split at h
  · rename_i h1 h2 hx
    simp only [Option.some.injEq, Prod.mk.injEq] at h
    obtain ⟨rfl, rfl, rfl⟩ := h
    rw [hx] at hev
    exact OpOut.same hrep (by simp [execOp, ho, hev, one, SV.den, SW.den, SC.den, convert, run_underlying h1, run_underlying h2, Conv.intToInt, mkCv_den])
  · cases h

theorem op_extract {x : Operand} {ix : Nat} (ho : o.op = .extract x ix) (h : op1 P s o = some (as, v, s')) (hrep : Rep e W0 s w) (hev : ev x = (s.ev x).den e) : OpOut P e W0 s s' o ev v w := by
  simp only [op1, ho] at h
  split at h
  · rename_i xs hx
    simp only [Option.map_eq_some_iff, Prod.mk.injEq] at h
    obtain ⟨y, hy, rfl, rfl, rfl⟩ := h
    rw [hx] at hev
    exact OpOut.same hrep (by simp [execOp, ho, hev, SV.den, Instr.extract, hy])
  · cases h

/-! ### parts, fields, indexes -/
theorem run_part {t : TypeId} {cs : List SC} {off : Nat} {y : SW} (h : partS P t cs off = some y) : (part t (cs.map (SC.den e)).toArray off).run P w = .ok (y.den e) w := by
  unfold partS at h
  split at h
  · cases h
  · rename_i hk
    simp only [Bool.not_eq_true] at hk
    split at h
    · rename_i hagg
      simp only [Option.some.injEq] at h
      subst h
      simp only [part, Sem.run_bind, run_isAgg' hk, Result.andThen_ok, hagg, if_true, run_sizeOf' (infoSome hk), Sem.run_pure, SW.den]
      congr 2
      apply Array.ext'
      simp
    · rename_i hagg
      simp only [Option.map_eq_some_iff] at h
      obtain ⟨c, hc, rfl⟩ := h
      simp only [part, Sem.run_bind, run_isAgg' hk, Result.andThen_ok, hagg, Bool.false_eq_true, if_false]
      simp [hc, SW.den]

theorem op_field {t : TypeId} {x : Operand} {f : Nat} (ho : o.op = .field t x f) (h : op1 P s o = some (as, v, s')) (hrep : Rep e W0 s w) (hev : ev x = (s.ev x).den e) : OpOut P e W0 s s' o ev v w := by
  simp only [op1, ho] at h
  split at h
  · rename_i fields cs hu hx
    split at h
    · rename_i fd hf
      simp only [Option.map_eq_some_iff, Prod.mk.injEq] at h
      obtain ⟨y, hy, rfl, rfl, rfl⟩ := h
      rw [hx] at hev
      refine OpOut.same hrep ?_
      simp only [execOp, ho, hev, SV.den, SW.den, Instr.field, Sem.run_bind, run_underlying hu, Result.andThen_ok, hf, asAgg, Sem.run_pure, run_part hy]
    · cases h
  · cases h

theorem op_fieldAddr {t : TypeId} {x : Operand} {f : Nat} (ho : o.op = .fieldAddr t x f) (h : op1 P s o = some (as, v, s')) (hrep : Rep e W0 s w) (hev : ev x = (s.ev x).den e) (has : ∀ b ∈ as, b.den e.R e.r = true) : OpOut P e W0 s s' o ev v w := by
  simp only [op1, ho] at h
  split at h
  · rename_i fields hu
    split at h
    · rename_i fd hf
      split at h
      · cases h
      · rename_i hz
        simp only [Bool.or_eq_true, decide_eq_true_eq, not_or, Bool.not_eq_true] at hz
        have hinf : (P.info? fd.type).isSome = true := by
          cases hi : P.info? fd.type <;> simp_all
        have hrun : ∀ a : Addr, (Instr.fieldAt t (.pointer (some a)) f).run P w = .ok (.pointer (some (a.add fd.offset))) w := fun a => by
          simp only [Instr.fieldAt, Sem.run_bind, run_underlying hu, Result.andThen_ok, hf, Instr.sureAddr, Sem.run_pure, fieldPlace, run_sizeOf' hinf, Sem.run_ite, if_neg hz.1]
        split at h
        · rename_i n off hx
          simp only [Option.some.injEq, Prod.mk.injEq] at h
          obtain ⟨rfl, rfl, rfl⟩ := h
          rw [hx] at hev
          exact OpOut.same hrep (by simp only [execOp, ho, hev, one, SV.den, SW.den, SC.den, ownAddr, Sem.run_bind, hrun, Result.andThen_ok, Sem.run_pure, Addr.add_lit])
        · rename_i n off hx
          rw [hx] at hev
          split at h
          · rename_i hok
            simp only [Option.some.injEq, Prod.mk.injEq] at h
            obtain ⟨rfl, rfl, rfl⟩ := h
            obtain ⟨g, hg⟩ := gpOK_some hrep hok
            have hev' : ev x = .pointer (some ⟨g, off, none⟩) := by rw [hev]; exact hg off
            refine OpOut.same hrep ?_
            simp only [execOp, ho, hev', Sem.run_bind, hrun, Result.andThen_ok, Sem.run_pure, Addr.add_lit]
            rw [show SV.den e (one (.gp n (off + fd.offset))) = _ from hg _]
          · cases h
        · rename_i n off hx
          simp only [Option.some.injEq, Prod.mk.injEq] at h
          obtain ⟨rfl, rfl, rfl⟩ := h
          rw [hx] at hev
          have h0 : 0 ≤ off.den e.R e.r := of_decide_eq_true (has (.le (.c 0) off) (by simp))
          refine OpOut.same hrep ?_
          simp only [execOp, ho, hev, one, SV.den, SW.den, SC.den, Sem.run_bind, hrun, Result.andThen_ok, Sem.run_pure, Addr.add_lit, mkPl_den, E.den]
          congr 5
          omega
        · cases h
    · cases h
  · cases h
end
end Go.Sx
