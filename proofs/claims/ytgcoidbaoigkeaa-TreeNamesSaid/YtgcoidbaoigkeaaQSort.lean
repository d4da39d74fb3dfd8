/-
  sort.SliceStable, as tree.build calls it: the plain law, the contract.
-/
import Derived.Test.YtgcoidbaoigkeaaQLess
import Derived.Test.YtgcoidbaoigkeaaPStab
import Derived.Test.YtgcoidbaoigkeaaQLay
set_option linter.unusedVariables false
set_option linter.unusedSimpArgs false
namespace Go.Proofs.Ytgcoidbaoigkeaa.fix
open Go.RowKit Go.Sx Go.Sort

def toF (N : Nat) (x : Int) : Fin (N + 1) := Fin.ofNat (N + 1) x.toNat
def ofF {N : Nat} (x : Fin (N + 1)) : Int := (x.val : Int)
theorem ofF_toF {N : Nat} {x : Int} (h0 : 0 ≤ x) (h1 : x < (N : Int) + 1) : ofF (toF N x) = x := by
  unfold ofF toF
  simp only [Fin.ofNat]
  rw [Nat.mod_eq_of_lt (by omega)]
  omega
noncomputable def ltF {N : Nat} (L : List Int) (ax : Nat) (x y : Fin (N + 1)) : Bool := ltK L ax (ofF x) (ofF y)
theorem swo_ltF {N : Nat} (L : List Int) (ax : Nat) : SWO (ltF (N := N) L ax) where
  irrefl x := by unfold ltF ltK; exact decide_eq_false (by omega)
  trans x y z h1 h2 := by
    unfold ltF ltK at *
    simp only [decide_eq_true_eq] at *
    omega
  ntrans x y z h1 h2 := by
    unfold ltF ltK at *
    simp only [decide_eq_false_iff_not] at *
    omega
theorem sort_eqF {N : Nat} {L : List Int} {ax : Nat} {d d' : Array (Fin (N + 1))} (hP : PermIn 0 d.size d d') (hS : SortedIn (ltF L ax) 0 d.size d') : d'.toList.map ofF = sortK L ax (d.toList.map ofF) := by
  have := sorted_unique_holds (lt := ltF L ax) (swo_ltF L ax) (fun x y h1 h2 => by
    unfold ltF ltK at *
    simp only [decide_eq_false_iff_not] at *
    have : ofF x = ofF y := by omega
    unfold ofF at this
    exact Fin.ext (by omega)) d d' hP hS
  rw [this]
  exact List.map_mergeSort fun a _ b _ => rfl
theorem sortK_len (L : List Int) (ax : Nat) (s : List Int) : (sortK L ax s).length = s.length := by simp [sortK]
theorem sortK_mem {L : List Int} {ax : Nat} {s : List Int} {x : Int} : x ∈ sortK L ax s ↔ x ∈ s := by simp [sortK]
theorem sortK_perm (L : List Int) (ax : Nat) (s : List Int) : (sortK L ax s).Perm s := List.mergeSort_perm _ _

def segL (I : List Int) (lo hi : Int) : List Int := (I.take hi.toNat).drop lo.toNat
theorem segL_len {I : List Int} {lo hi : Int} (h0 : 0 ≤ lo) (h1 : lo ≤ hi) (h2 : hi ≤ (I.length : Int)) : (segL I lo hi).length = (hi - lo).toNat := by
  simp only [segL, List.length_drop, List.length_take]
  omega
def putL (I : List Int) (lo hi : Int) (s : List Int) : List Int := I.take lo.toNat ++ (s ++ I.drop hi.toNat)
theorem putL_len {I : List Int} {lo hi : Int} {s : List Int} (h0 : 0 ≤ lo) (h1 : lo ≤ hi) (h2 : hi ≤ (I.length : Int)) (hs : s.length = (hi - lo).toNat) : (putL I lo hi s).length = I.length := by
  simp only [putL, List.length_append, List.length_take, List.length_drop, hs]
  omega
noncomputable def sem_sst (x : List Int) : List Int := [cod (putL (dec (x.getD 0 0)) (x.getD 1 0) (x.getD 2 0) (sortK (dec (x.getD 3 0)) (x.getD 4 0).toNat (segL (dec (x.getD 0 0)) (x.getD 1 0) (x.getD 2 0))))]
structure SstPre (I L : List Int) (lo hi ax : Int) : Prop where
  lo0 : 0 ≤ lo
  two : lo + 2 ≤ hi
  hi1 : hi ≤ (I.length : Int)
  len : I.length ≤ 1000
  its : ∀ x ∈ segL I lo hi, 0 ≤ x ∧ x < (L.length : Int)
  bxs : ∀ b ∈ L, okBox b = true
  ax0 : 0 ≤ ax
  ax2 : ax < 3
def pre_sst (x : List Int) : Prop := SstPre (dec (x.getD 0 0)) (dec (x.getD 3 0)) (x.getD 1 0) (x.getD 2 0) (x.getD 4 0)
noncomputable def s_sst : Sum := ⟨78, [], [], sem_sst, pre_sst, gl0, some fun _ _ => none⟩
theorem ok_sst : s_sst.okA Try.prog := by
  show s_sst.okM Try.prog fun _ _ => none
  intro W0 e s w args bb es kk _ _ _ _ hf
  cases hf
noncomputable def fSst : SpF := fun s t v gf caps => match v, caps with
  | .gv (.o m) 1 lo hi, [(n4, 0), (n5, 0), (n11, 0)] => match s.mem[n4]?, s.mem[n5]?, s.mem[n11]?, s.rows[m]? with
    | some b4, some b5, some b11, some r => match b4.cells, b5.cells, b11.cells with
      | [.go (.a i)], [.gv (.o m') 1 lo' hi'], [.i .i64 axE] => match s.hs[i]? with
        | some (ks, cl) => if ((decide (gf = 79) && decide (t = 37)) && ((b4.live && b5.live) && (b11.live && r.live))) && (((decide (b4.ty = 50) && decide (b5.ty = 37)) && (decide (b11.ty = 3) && decide (r.ty = 3))) &&
            ((decide (m' = m) && (lo.same lo' && hi.same hi')) && ((ksame r.ks [.i .i64] && ksame ks Bs_ks) && ((decide (s.flr ≤ m) && glIn gl0 s.gl) && (decide (n4 ≠ n5) && (decide (n4 ≠ n11) && decide (n5 ≠ n11)))))))
          then some ([r.c, lo, hi, cl, axE], fun nv => { s with rows := s.rows.set m { r with c := .v nv }, nv := nv + 1 }) else none
        | none => none
      | _, _, _ => none
    | _, _, _, _ => none
  | _, _ => none

/-! ### the worlds that the sort passes through -/
open Ytgcoidbaoigkeaa.stab in
theorem sw_block {α : Type} [Inhabited α] {enc : α → Value} {w W : World} {g off : Nat} {dk : Array α} (h : stab.SW enc w g off dk W) {k : Nat} (hk : k < w.heap.size) (hne : k ≠ g) : W.heap[k]? = w.heap[k]? := by
  obtain ⟨n, os, rfl⟩ := h
  unfold stab.sortWorld
  rw [heap_grow_old _ _ (by rw [size_putRow]; exact hk)]
  simp [putRow, mapBlock, Array.getElem?_modify, Ne.symm hne]
theorem sw_size {α : Type} [Inhabited α] {enc : α → Value} {w W : World} {g off : Nat} {dk : Array α} (h : stab.SW enc w g off dk W) : w.heap.size ≤ W.heap.size := h.le
theorem slx_other {W0 : Bas} {w W : World} {ks : List K} {v : Value} {c : Int} {g : Nat} (h : SlX W0 ks v c) (hb : BelowX W0 w) (hg : W0.may g) (hW : ∀ k, k < w.heap.size → k ≠ g → W.heap[k]? = w.heap[k]?) : SlOK W ks v c := by
  have hn := h.now hb
  obtain ⟨h0, hx⟩ := h.base
  rcases h0 with h0 | ⟨b, off, cap, h1, h2, h3, h4, h5⟩
  · exact .inl h0
  · rcases hn with hn | ⟨b', off', cap', h1', _, _, _, h5'⟩
    · rw [hn.1] at h1; cases h1
    · rw [h1] at h1'
      cases h1'
      refine .inr ⟨b, off, cap, h1, h2, h3, h4, fun j u hj => ?_⟩
      have c0 := h5 j u hj
      have c1 := h5' j u hj
      have hlt := World.block_lt_of_cell? _ _ c0
      have hlt1 := World.block_lt_of_cell? _ _ c1
      have hne : b ≠ g := by
        rintro rfl
        rcases hg with hg | hg
        · exact absurd hlt (Nat.not_lt.2 hg)
        · exact hx (by intro h0'; rw [h0'] at hj; simp at hj) b (by rw [h1]; rfl) hg
      rw [World.cell?_of_block (w := w) (hW b hlt1 hne)]
      exact c1
theorem glx_other {W0 : Bas} {w W : World} {gl : List (Nat × List Int)} {g : Nat} (h : GlX gl W0) (hb : BelowX W0 w) (hg : W0.may g) (hW : ∀ k, k < w.heap.size → k ≠ g → W.heap[k]? = w.heap[k]?) : GlOK gl W := by
  intro p hp j n hj
  have c1 := h.now hb p hp j n hj
  have c0 := h.1 p hp j n hj
  have hlt := World.block_lt_of_cell? _ _ c0
  have hlt1 := World.block_lt_of_cell? _ _ c1
  have hne : p.1 ≠ g := by
    intro he
    rcases hg with hg | hg
    · rw [← he] at hg
      exact absurd hlt (Nat.not_lt.2 hg)
    · rw [← he] at hg
      exact h.2 p hp (by intro h0'; rw [h0'] at hj; simp at hj) hg
  rw [World.cell?_of_block (w := w) (hW p.1 hlt1 hne)]
  exact c1
noncomputable def siT : TypeInfo := (Try.prog.info? 37).get (by kernel_rfl)
noncomputable def siE : TypeInfo := (Try.prog.info? 3).get (by kernel_rfl)
theorem siK (n : Nat) (h2 : 2 ≤ n) : Lib.swapperK n siE 2 = 5 := by
  have a : siE.hasPointers = false := by kernel_rfl
  have b : siE.bytes = 8 := by kernel_rfl
  have c : (n == 0) = false := by simp; omega
  have d : (n == 1) = false := by simp; omega
  simp [Lib.swapperK, a, b, c, d]
def encF {N : Nat} (x : Fin (N + 1)) : Value := .int .i64 (ofF x)

theorem sst_run {W0 : Bas} {w : World} {b4 b5 b11 g cap ax : Nat} {cur : Array Value} {vL : Value} {I : List Int} {cL lo hi : Int} (hpre : SstPre I (dec cL) lo hi ax) (hgl : GlX gl0 W0) (hb : BelowX W0 w) (hg : W0.may g) (hL : SlX W0 Bs_ks vL cL)
    (h4 : w.heap[b4]? = some (.cells #[vL] 50 (0, 0))) (h5 : w.heap[b5]? = some (.cells #[.slice (some ⟨g, lo.toNat, none⟩) (hi.toNat - lo.toNat) (cap - lo.toNat)] 37 (0, 0))) (h11 : w.heap[b11]? = some (.cells #[.int .i64 ax] 3 (0, 0)))
    (n1 : b4 ≠ b5) (n2 : b4 ≠ b11) (n3 : b5 ≠ b11) (g4 : b4 ≠ g) (g5 : b5 ≠ g) (g11 : b11 ≠ g) (hheap : w.heap[g]? = some (.cells cur 3 (0, 0))) (hcap : I.length ≤ cap) (hmx : cap ≤ maxLen) (hcs : cur.size = cap) (htake : cur.toList.take I.length = I.map (Value.int .i64)) :
    Calls Try.prog 78 #[.iface 37 (.slice (some ⟨g, lo.toNat, none⟩) (hi.toNat - lo.toNat) (cap - lo.toNat)), .func (.func 79) #[] #[.pointer (some ⟨b4, 0, none⟩), .pointer (some ⟨b5, 0, none⟩), .pointer (some ⟨b11, 0, none⟩)]] w fun x w' =>
      x = .returned (.tuple #[]) ∧ w.grownBy w' (some g) ∧ ∃ cur', w'.heap[g]? = some (.cells cur' 3 (0, 0)) ∧ cur'.size = cap ∧ cur'.toList.take I.length = (putL I lo hi (sortK (dec cL) ax (segL I lo hi))).map (Value.int .i64) := by
  obtain ⟨lo0, two, hi1, len, its, bxs, ax0, ax2⟩ := hpre
  have hlenS := segL_len lo0 (by omega : lo ≤ hi) hi1
  have hLpos : 0 < (dec cL).length := by
    have := its _ (mem_at (l := segL I lo hi) (i := 0) (by omega))
    omega
  obtain ⟨N, hN⟩ : ∃ N, (dec cL).length = N + 1 := ⟨(dec cL).length - 1, by omega⟩
  obtain ⟨d, hd⟩ : ∃ d : Array (Fin (N + 1)), d = ((segL I lo hi).map (toF N)).toArray := ⟨_, rfl⟩
  have hds : d.size = hi.toNat - lo.toNat := by rw [hd]; simp [hlenS]; omega
  have hmap : d.toList.map ofF = segL I lo hi := by
    rw [hd]
    simp only [List.map_map]
    conv => rhs; rw [← List.map_id (segL I lo hi)]
    refine List.map_congr_left fun x hx => ?_
    have := its x hx
    exact ofF_toF this.1 (by omega)
  have hget : ∀ (dk : Array (Fin (N + 1))) (j : Nat), j < dk.size → (dk.toList.map ofF).getD j 0 = ofF dk[j]! := fun dk j hj => by
    simp [List.getD, hj]
  have hIc : ∀ j, j < I.length → w.cell? ⟨g, j, none⟩ = some (.int .i64 (I.getD j 0)) := fun j hj => by
    have := (holds_of_blockI hheap htake) j (by simpa using hj)
    rw [Nat.zero_add] at this
    rw [this.1]
    simp [List.getD, hj]
  have hH : Holds (encF (N := N)) w g lo.toNat d := fun j hj => by
    refine ⟨?_, by simp [World.frozen?, hheap]⟩
    rw [hIc _ (by omega)]
    have h1 : ofF d[j]! = (segL I lo hi).getD j 0 := by rw [← hget d j hj, hmap]
    unfold encF
    rw [h1]
    congr 2
    simp only [segL, List.getD, List.getElem?_drop]
    rw [List.getElem?_take_of_lt (by omega)]
  have hblk : g < w.heap.size := heap_lt hheap
  have hless : stab.LessG Try.prog 79 #[.pointer (some ⟨b4, 0, none⟩), .pointer (some ⟨b5, 0, none⟩), .pointer (some ⟨b11, 0, none⟩)] (encF (N := N)) (ltF (dec cL) ax) g lo.toNat d.size w := by
    intro W dk hSW hs i j hi' hj'
    have hW : ∀ k, k < w.heap.size → k ≠ g → W.heap[k]? = w.heap[k]? := fun k h1 h2 => sw_block hSW h1 h2
    have hHk := hSW.holds hblk hH hs
    have hS : SlOK W [.i .i64] (.slice (some ⟨g, lo.toNat, none⟩) (hi.toNat - lo.toNat) (cap - lo.toNat)) (cod (dk.toList.map ofF)) := by
      refine .inr ⟨g, lo.toNat, cap - lo.toNat, ?_, ?_, ?_, ?_, ?_⟩
      · rw [dec_cod]; simp [hs, hds]
      · rw [dec_cod]; simp [hs, hds]; omega
      · omega
      · intro x _; simp [elt]
      · intro k u hk
        rw [dec_cod, cellsL_int, List.getElem?_map, List.getElem?_map] at hk
        simp only [Option.map_eq_some_iff] at hk
        obtain ⟨y, ⟨z, hz, rfl⟩, rfl⟩ := hk
        obtain ⟨hk1, hk2⟩ := List.getElem?_eq_some_iff.1 hz
        have hk1' : k < dk.size := by simpa using hk1
        rw [(hHk k hk1').1]
        unfold encF
        simp only [Array.getElem_toList] at hk2
        simp [hk1', hk2]
    have hp : LessPre cL (cod (dk.toList.map ofF)) i j := by
      refine ⟨by omega, by rw [dec_cod]; simp [hs]; omega, by omega, by rw [dec_cod]; simp [hs]; omega, by rw [dec_cod]; simp [hs]; omega, ?_, bxs⟩
      rw [dec_cod]
      intro x hx
      obtain ⟨z, _, rfl⟩ := List.mem_map.1 hx
      have := z.isLt
      unfold ofF
      omega
    have hc := less_c (ax := ax) (by omega) (glx_other hgl hb hg hW) (by rw [hW _ (heap_lt h4) g4]; exact h4) (by rw [hW _ (heap_lt h5) g5]; exact h5) (by rw [hW _ (heap_lt h11) g11]; exact h11) n1 n2 n3 (slx_other hL hb hg hW) hS hp
    refine hc.mono ?_
    rintro x w' ⟨rfl, hbel⟩
    refine ⟨?_, stab.Grew.of_below hbel⟩
    rw [dec_cod, Int.toNat_natCast, Int.toNat_natCast, hget dk i (by omega), hget dk j (by omega)]
    rfl
  have hS := stab.sliceStable_w Try.laysGt8 37 3 siT siE (by kernel_rfl) (by kernel_rfl) (by kernel_rfl) (by kernel_rfl) 2 (fun _ => by kernel_rfl) (by kernel_rfl) (fun _ => by kernel_rfl) (encF (N := N)) (fun _ => rfl) (ltF (dec cL) ax) (swo_ltF _ _) 79 _
    (enters_of Try.func79 (by kernel_rfl) rfl) g lo.toNat (cap - lo.toNat) d (by omega) (by omega) 129 (by rw [siK _ (by omega)]; kernel_rfl) true
    (fun args W => run_callFunc_extern Try.func129 (by kernel_rfl) (by kernel_rfl) (by kernel_rfl) (e := Extern.ReflectliteSwapper.swap true) (by kernel_rfl) args W) w hless hH hblk
  change Calls Try.prog 78 _ _ _ at hS
  rw [hds] at hS
  refine hS.mono ?_
  rintro x w' ⟨rfl, n, os, d', rfl, hP, hSo⟩
  rw [← hds] at hP hSo
  have hd's : d'.size = d.size := hP.1
  have hE := sort_eqF hP hSo
  rw [hmap] at hE
  refine ⟨rfl, ⟨rfl, rfl, rfl, sw_size ⟨n, os, rfl⟩, fun k hk hne => sw_block ⟨n, os, rfl⟩ hk (fun e => hne (by rw [e]))⟩, putCells encF lo.toNat d' cur, ?_, by simp [putCells, hcs], ?_⟩
  · unfold stab.sortWorld
    rw [heap_grow_old _ _ (by rw [size_putRow]; exact hblk)]
    simp [putRow, mapBlock, Array.getElem?_modify, hheap, onCells]
  · apply List.ext_getElem?
    intro k
    by_cases hk : k < I.length
    · rw [List.getElem?_take_of_lt hk, Array.getElem?_toList]
      have hkc : k < cur.size := by omega
      simp only [putCells, Array.getElem?_mapIdx, Array.getElem?_eq_getElem hkc, Option.map_some]
      have hcurk : cur[k]'hkc = .int .i64 (I.getD k 0) := by
        have : (cur.toList.take I.length)[k]? = (I.map (Value.int .i64))[k]? := by rw [htake]
        rw [List.getElem?_take_of_lt hk, Array.getElem?_toList, Array.getElem?_eq_getElem hkc, List.getElem?_map, List.getElem?_eq_getElem hk] at this
        simp only [Option.map_some, Option.some.injEq] at this
        rw [this]
        simp [List.getD, hk]
      have hlenT : (I.take lo.toNat).length = lo.toNat := by simp; omega
      have hlenK : (sortK (dec cL) ax (segL I lo hi)).length = hi.toNat - lo.toNat := by rw [sortK_len, hlenS]; omega
      rw [List.getElem?_map]
      unfold putL
      by_cases k1 : k < lo.toNat
      · rw [if_neg (by omega), List.getElem?_append_left (by omega), List.getElem?_take_of_lt k1, List.getElem?_eq_getElem hk, hcurk]
        simp [List.getD, hk]
      · rw [List.getElem?_append_right (by omega), hlenT]
        by_cases k2 : k < hi.toNat
        · rw [if_pos (by omega), List.getElem?_append_left (by omega), ← hE, List.getElem?_map]
          have hkd : k - lo.toNat < d'.size := by omega
          simp [hkd, encF]
        · rw [if_neg (by omega), List.getElem?_append_right (by omega), hlenK, List.getElem?_drop, hcurk, show hi.toNat + (k - lo.toNat - (hi.toNat - lo.toNat)) = k by omega, List.getElem?_eq_getElem hk]
          simp [List.getD, hk]
    · rw [List.getElem?_take_eq_none (by omega), List.getElem?_eq_none]
      rw [List.length_map, putL_len lo0 (by omega) hi1 (by rw [sortK_len, hlenS])]
      omega
#print axioms sst_run
end Go.Proofs.Ytgcoidbaoigkeaa.fix
set_option linter.unusedVariables false
set_option linter.unusedSimpArgs false
namespace Go.Proofs.Ytgcoidbaoigkeaa.fix
open Go.RowKit Go.Sx

theorem sst_M : SpM Try.prog 78 s_sst fSst := by
  intro W0 e s w t v gf caps es kk hrep hsc hv hf hpre
  unfold fSst at hf
  split at hf
  · rename_i m lo hi n4 n5 n11
    split at hf
    · rename_i b4 b5 b11 r h4 h5 h11 hm
      split at hf
      · rename_i i m' lo' hi' axE c4 c5 c11
        split at hf
        · rename_i ks cl hhs
          split at hf
          · rename_i hc
            simp only [Bool.and_eq_true, decide_eq_true_eq] at hc
            obtain ⟨⟨⟨hgf, ht⟩, ⟨l4, l5⟩, l11, lr⟩, ⟨⟨ty4, ty5⟩, ty11, tyr⟩, ⟨hmm, e1, e2⟩, ⟨kr, kks⟩, ⟨hfl, hgl⟩, d1, d2, d3⟩ := hc
            have e1 := E.same_eq _ _ e1
            have e2 := E.same_eq _ _ e2
            subst e1 e2 hmm hgf ht
            simp only [Option.some.injEq, Prod.mk.injEq] at hf
            obtain ⟨rfl, rfl⟩ := hf
            have hkr := ksame_eq kr
            have hkks := ksame_eq kks
            have hp : SstPre (dec (r.c.den e.R e.r)) (dec (cl.den e.R e.r)) (lo.den e.R e.r) (hi.den e.R e.r) (axE.den e.R e.r) := hpre
            clear hpre
            have hsem : s_sst.sem ([r.c, lo, hi, cl, axE].map (E.den e.R e.r)) = [cod (putL (dec (r.c.den e.R e.r)) (lo.den e.R e.r) (hi.den e.R e.r) (sortK (dec (cl.den e.R e.r)) (axE.den e.R e.r).toNat (segL (dec (r.c.den e.R e.r)) (lo.den e.R e.r) (hi.den e.R e.r))))] := rfl
            rw [hsem]
            have hrow := hrep.row m' r hm lr
            have hlen2 : 2 ≤ (dec (r.c.den e.R e.r)).length := by have := hp.lo0; have := hp.two; have := hp.hi1; omega
            rcases hrow with ⟨hn, _⟩ | ⟨hk0, hel, hown⟩
            · rw [hn] at hlen2; simp at hlen2
            rcases hown.2 with ⟨_, hn⟩ | ⟨g, cap, cur, hval, _, hheap, hle1, hmx, hcs, htake⟩
            · omega
            have hcap0 : cap ≠ 0 := by omega
            have hblkR : rowBlk ((G.o m').val e) = some g := by rw [hval]; simp [rowBlk, hcap0]
            rw [hkr, cellsL_int] at htake
            rw [hkr] at hcs
            simp only [List.length_cons, List.length_nil, Nat.zero_add, Nat.mul_one] at htake hcs
            rw [tyr] at hheap
            have h4' := hrep.blk n4 b4 h4 l4
            have h5' := hrep.blk n5 b5 h5 l5
            have h11' := hrep.blk n11 b11 h11 l11
            rw [c4, ty4] at h4'
            rw [c5, ty5] at h5'
            rw [c11, ty11] at h11'
            have hvden : (SC.gv (.o m') 1 lo hi).den e = .slice (some ⟨g, (lo.den e.R e.r).toNat, none⟩) ((hi.den e.R e.r).toNat - (lo.den e.R e.r).toNat) (cap - (lo.den e.R e.r).toNat) := by
              have h1 : ¬ cap = (lo.den e.R e.r).toNat := by have := hp.lo0; have := hp.two; have := hp.hi1; omega
              simp only [SC.den, hval, subV, if_neg h1, Option.map_some, Addr.add_lit, Nat.mul_one, Nat.zero_add]
            have hax : axE.den e.R e.r = (((axE.den e.R e.r).toNat : Nat) : Int) := by have := hp.ax0; omega
            have h5'' : w.heap[e.β.getD n5 0]? = some (.cells #[.slice (some ⟨g, (lo.den e.R e.r).toNat, none⟩) ((hi.den e.R e.r).toNat - (lo.den e.R e.r).toNat) (cap - (lo.den e.R e.r).toNat)] 37 (0, 0)) := by
              rw [h5']
              simp only [List.map_cons, List.map_nil, hvden]
            have h11'' : w.heap[e.β.getD n11 0]? = some (.cells #[.int .i64 (((axE.den e.R e.r).toNat : Nat) : Int)] 3 (0, 0)) := by
              rw [h11', ← hax]
              rfl
            have hsl := hrep.arg i ks cl hhs
            rw [hkks] at hsl
            have hmay := hrep.rown m' r hm lr hfl g hblkR
            have hglx : GlX gl0 W0 := by
              refine ⟨glIn_ok hgl hrep.gl.1, fun p hp' h0 => ?_⟩
              have := List.all_eq_true.1 hgl p hp'
              obtain ⟨q, hq, hs⟩ := List.any_eq_true.1 this
              simp only [sameG, Bool.and_eq_true, beq_iff_eq] at hs
              have := hrep.gl.2 q hq (by rw [← hs.2]; exact h0)
              rwa [← hs.1] at this
            have hp' : SstPre (dec (r.c.den e.R e.r)) (dec (cl.den e.R e.r)) (lo.den e.R e.r) (hi.den e.R e.r) (((axE.den e.R e.r).toNat : Nat) : Int) := by rw [← hax]; exact hp
            have hne : ∀ n b, s.mem[n]? = some b → b.live = true → e.β.getD n 0 ≠ g := fun n b hb hl he => hrep.brs n m' b r hb hm hl lr (by rw [hblkR, he])
            have hsep : ∀ n n' b b', s.mem[n]? = some b → s.mem[n']? = some b' → b.live = true → b'.live = true → n ≠ n' → e.β.getD n 0 ≠ e.β.getD n' 0 := fun n n' b b' h1 h2 h3 h4 hn he => hn (hrep.sep n n' b b' h1 h2 h3 h4 he)
            have hrun := sst_run hp' hglx hrep.below hmay hsl h4' h5'' h11'' (hsep _ _ _ _ h4 h5 l4 l5 d1) (hsep _ _ _ _ h4 h11 l4 l11 d2) (hsep _ _ _ _ h5 h11 l5 l11 d3) (hne _ _ h4 l4) (hne _ _ h5 l5) (hne _ _ h11 l11) hheap hle1 hmx hcs htake
            rw [hvden, show (SC.f 79 [(n4, 0), (n5, 0), (n11, 0)]).den e = .func (.func 79) #[] #[.pointer (some ⟨e.β.getD n4 0, 0, none⟩), .pointer (some ⟨e.β.getD n5 0, 0, none⟩), .pointer (some ⟨e.β.getD n11 0, 0, none⟩)] from rfl]
            refine hrun.mono ?_
            rintro x w' ⟨rfl, hgb, cur', hh, hcs', ht'⟩
            refine ⟨rfl, _, ⟨[cod (putL (dec (r.c.den e.R e.r)) (lo.den e.R e.r) (hi.den e.R e.r) (sortK (dec (cl.den e.R e.r)) (axE.den e.R e.r).toNat (segL (dec (r.c.den e.R e.r)) (lo.den e.R e.r) (hi.den e.R e.r))))], [], [], [], by simp⟩, rfl, hrep.rowTo hsc hm lr hfl hgb (fun k hk => by cases hk; exact hblkR) ?_, rfl, rfl, rfl, rfl⟩
            have hlenP : (putL (dec (r.c.den e.R e.r)) (lo.den e.R e.r) (hi.den e.R e.r) (sortK (dec (cl.den e.R e.r)) (axE.den e.R e.r).toNat (segL (dec (r.c.den e.R e.r)) (lo.den e.R e.r) (hi.den e.R e.r)))).length = (dec (r.c.den e.R e.r)).length :=
              putL_len hp.lo0 (by have := hp.two; omega) hp.hi1 (by rw [sortK_len, segL_len hp.lo0 (by have := hp.two; omega) hp.hi1])
            refine .inr ⟨hk0, ?_, ?_⟩
            · intro z _
              rw [hkr]
              simp [elt]
            · rw [dec_cod, hlenP, hkr, cellsL_int, tyr]
              refine ⟨by simp [hlenP], .inr ⟨g, cap, cur', hval, Nat.zero_le _, hh, hle1, hmx, by simpa using hcs', ?_⟩⟩
              simp only [List.length_cons, List.length_nil, Nat.zero_add, Nat.mul_one]
              exact ht'
          · cases hf
        · cases hf
      · cases hf
    · cases hf
  · cases hf
#print axioms sst_M
end Go.Proofs.Ytgcoidbaoigkeaa.fix
