/-
  A call that writes a block, appends to its row and sorts another: what it makes of a state.
-/
import Derived.Test.YtgcoidbaoigkeaaQBSat
set_option linter.unusedVariables false
set_option linter.unusedSimpArgs false
namespace Go.Proofs.Ytgcoidbaoigkeaa.fix
open Go.RowKit Go.Sx

theorem rowOK_same {w w' : World} {ty : TypeId} {ks : List K} {v : Value} {c : Int} (h : RowOK w ty ks v c) (hb : ∀ k, rowBlk v = some k → w'.heap[k]? = w.heap[k]?) : RowOK w' ty ks v c := by
  rcases h with h | ⟨h0, h1, h2⟩
  · exact .inl h
  · rcases h2.2 with ⟨hv, hn⟩ | ⟨g, cap, cur, hv, hbb, hc, hle, hm, hsz, ht⟩
    · exact .inl ⟨List.eq_nil_of_length_eq_zero hn, .inl hv⟩
    · by_cases hcap : cap = 0
      · subst hcap
        have hl : (dec c).length = 0 := by omega
        exact .inl ⟨List.eq_nil_of_length_eq_zero hl, .inr ⟨g, 0, by rw [hv, hl]⟩⟩
      · have := hb g (by rw [hv]; simp [rowBlk, hcap])
        exact .inr ⟨h0, h1, h2.1, .inr ⟨g, cap, cur, hv, hbb, by rw [this]; exact hc, hle, hm, hsz, ht⟩⟩

theorem slV_of {v : Value} (h : ∃ a l c, v = .slice a l c) : slV v = v := by
  obtain ⟨a, l, c, rfl⟩ := h
  rfl

theorem callB_rep {e : Env} {W0 : Bas} {s : St} {w w' : World} (h : Rep e W0 s w) (hsc : s.sc = true) {n m : Nat} {b : Blk} {r : Row} (hb : s.mem[n]? = some b) (hlb : b.live = true) (hfb : s.fl ≤ n) (hr : s.rows[m]? = some r) (hlr : r.live = true) (hfr : s.flr ≤ m)
    {vT vT' : Value} {rows' : List Row} (hlen : rows'.length = s.rows.length) (hrm : rows'[m]? = some r)
    (hold : ∀ (j : Nat) (b' : Row), rows'[j]? = some b' → b'.live = true → s.rows[j]? = some b' ∧ ∀ g, rowBlk vT = some g → rowBlk ((G.o j).val e) ≠ some g)
    (hmay : ∀ g, rowBlk vT = some g → W0.may g) (hTm : ∀ (n' : Nat) (b' : Blk), s.mem[n']? = some b' → b'.live = true → rowBlk vT ≠ some (e.β.getD n' 0))
    {ty : TypeId} {ks : List K} {x0 x1 x2 : Int} (hbel : BelowX ⟨w, fun g => g = e.β.getD n 0 ∨ rowBlk vT = some g ∨ rowBlk ((G.o m).val e) = some g⟩ w')
    (hcell : w'.heap[e.β.getD n 0]? = some (.cells #[vT'] b.ty (0, 0))) (hsl : ∃ a l c, vT' = .slice a l c) (hT' : RowOK w' ty ks vT' x0) (hI' : RowOK w' r.ty r.ks ((G.o m).val e) x1)
    (hap : ∀ g, rowBlk vT' = some g → (w.heap.size ≤ g ∨ g = e.β.getD n 0 ∨ rowBlk vT = some g ∨ rowBlk ((G.o m).val e) = some g) ∧ g ≠ e.β.getD n 0 ∧ rowBlk ((G.o m).val e) ≠ some g) :
    Rep { e with r := e.r ++ [x0, x1, x2], σ := e.σ ++ [vT'] } W0 { s with mem := s.mem.set n { b with cells := [.go (.o s.rows.length)] }, rows := rows'.set m { r with c := .v (s.nv + 1) } ++ [⟨ty, ks, .v s.nv, true⟩], nv := s.nv + 3 } w' := by
  obtain ⟨hv, _, _⟩ := h.vars hsc [x0, x1, x2]
  have hle : Env.le e { e with r := e.r ++ [x0, x1, x2], σ := e.σ ++ [vT'] } := ⟨[x0, x1, x2], [], [vT'], [], by simp⟩
  have hscp := hsc
  simp only [St.sc, Bool.and_eq_true] at hscp
  obtain ⟨⟨_, hmsc⟩, _, _⟩ := hscp
  rw [← h.nv, ← h.nb, ← h.ng] at hmsc
  have hx : ∀ (j : Nat) (x : Int), [x0, x1, x2][j]? = some x → (E.v (s.nv + j)).den e.R (e.r ++ [x0, x1, x2]) = x := fun j x hj => by
    simp only [E.den]
    rw [← h.nv]
    simp only [List.getD]
    rw [List.getElem?_append_right (by omega), Nat.add_sub_cancel_left, hj]
    rfl
  have hrl : rows'.length = e.σ.length := by rw [hlen, h.ng]
  have hval : ∀ j, j < s.rows.length → (G.o j).val { e with r := e.r ++ [x0, x1, x2], σ := e.σ ++ [vT'] } = (G.o j).val e := fun j hj => G.val_le hle (.o j) (by simp [G.sc, h.ng, hj])
  have hnew : (G.o s.rows.length).val { e with r := e.r ++ [x0, x1, x2], σ := e.σ ++ [vT'] } = vT' := by
    simp only [G.val]
    have : (e.σ ++ [vT']).getD s.rows.length undef = vT' := by
      simp only [List.getD]
      rw [List.getElem?_append_right (by rw [h.ng]; exact Nat.le_refl _), h.ng, Nat.sub_self]
      rfl
    rw [this, slV_of hsl]
  -- the rows, one by one
  have hrows : ∀ (j : Nat) (z : Row), (rows'.set m { r with c := .v (s.nv + 1) } ++ [⟨ty, ks, .v s.nv, true⟩])[j]? = some z → z.live = true →
      (j = s.rows.length ∧ z = ⟨ty, ks, .v s.nv, true⟩) ∨ (j = m ∧ z = { r with c := .v (s.nv + 1) }) ∨ (j ≠ m ∧ j < s.rows.length ∧ s.rows[j]? = some z ∧ ∀ g, rowBlk vT = some g → rowBlk ((G.o j).val e) ≠ some g) := by
    intro j z hj hz
    by_cases hjl : j < s.rows.length
    · rw [List.getElem?_append_left (by rw [List.length_set, hlen]; exact hjl)] at hj
      rcases mem_set_cases hj with ⟨rfl, rfl, _⟩ | ⟨hne, hj'⟩
      · exact .inr (.inl ⟨rfl, rfl⟩)
      · exact .inr (.inr ⟨hne, hjl, hold j z hj' hz⟩)
    · rw [List.getElem?_append_right (by rw [List.length_set, hlen]; omega), List.length_set, hlen] at hj
      have : j - s.rows.length = 0 := by
        have := (List.getElem?_eq_some_iff.1 hj).1
        simp only [List.length_cons, List.length_nil] at this
        omega
      rw [this] at hj
      simp only [List.getElem?_cons_zero, Option.some.injEq] at hj
      exact .inl ⟨by omega, hj.symm⟩
  have hml : m < s.rows.length := (List.getElem?_eq_some_iff.1 hr).1
  -- blocks that stay
  have hstay : ∀ g, g < w.heap.size → g ≠ e.β.getD n 0 → rowBlk vT ≠ some g → rowBlk ((G.o m).val e) ≠ some g → w'.heap[g]? = w.heap[g]? := fun g h1 h2 h3 h4 => hbel.block g (fun hh => by
    rcases hh with hh | hh | hh | hh
    · exact absurd h1 (Nat.not_lt.2 hh)
    · exact h2 hh
    · exact h3 hh
    · exact h4 hh)
  have hblkne : ∀ (n' : Nat) (b' : Blk), s.mem[n']? = some b' → b'.live = true → n' ≠ n → e.β.getD n' 0 ≠ e.β.getD n 0 := fun n' b' h1 h2 h3 he => h3 (h.sep n' n b' b h1 hb h2 hlb he)
  have hTlt : ∀ g, rowBlk vT' = some g → ∀ g', g' < w.heap.size → rowBlk vT ≠ some g' → rowBlk ((G.o m).val e) ≠ some g' → g' ≠ e.β.getD n 0 → g ≠ g' := fun g hg g' h1 h2 h3 h4 he => by
    subst he
    rcases (hap g hg).1 with hh | hh | hh | hh
    · exact absurd h1 (Nat.not_lt.2 hh)
    · exact h4 hh
    · exact h2 hh
    · exact h3 hh
  refine ⟨h.below.trans hbel ?_, ?_, ?_, hv.nv, hv.nx, ?_, ?_, ?_, ?_, ?_, ?_, ?_, hv.gl, hv.arg⟩
  · rintro i (hi | hi | hi | hi)
    · exact .inl (Nat.le_trans h.below.size hi)
    · rw [hi]; exact h.own n b hb hlb hfb
    · exact hmay i hi
    · exact h.rown m r hr hlr hfr i hi
  · simp [h.nb]
  · simp [hrl]
  · intro n' c hc hlc
    rcases mem_set_cases hc with ⟨rfl, rfl, _⟩ | ⟨hne, hc'⟩
    · show w'.heap[e.β.getD n' 0]? = _
      rw [hcell]
      simp only [List.map_cons, List.map_nil, SC.den, hnew]
    · have hbk := h.blk n' c hc' hlc
      show w'.heap[e.β.getD n' 0]? = _
      rw [hstay _ (heap_lt hbk) (hblkne n' c hc' hlc hne) (hTm n' c hc' hlc) (h.brs n' m c r hc' hr hlc hlr), hbk, map_den_le hle (List.all_eq_true.1 hmsc c (List.mem_of_getElem? hc'))]
  · intro n' c hc hlc hfl
    rcases mem_set_cases hc with ⟨rfl, rfl, _⟩ | ⟨hne, hc'⟩
    · exact h.own n' b hb hlb hfl
    · exact h.own n' c hc' hlc hfl
  · intro i j c d hc hd hlc hld he
    have old : ∀ (i : Nat) (c : Blk), (s.mem.set n { b with cells := [.go (.o s.rows.length)] })[i]? = some c → c.live = true → ∃ c0, s.mem[i]? = some c0 ∧ c0.live = true := fun i c hc hlc => by
      rcases mem_set_cases hc with ⟨rfl, rfl, _⟩ | ⟨hne, hc'⟩
      · exact ⟨b, hb, hlb⟩
      · exact ⟨c, hc', hlc⟩
    obtain ⟨c0, h1, h2⟩ := old i c hc hlc
    obtain ⟨d0, h3, h4⟩ := old j d hd hld
    exact h.sep i j c0 d0 h1 h3 h2 h4 he
  · intro j z hj hz
    rcases hrows j z hj hz with ⟨rfl, rfl⟩ | ⟨rfl, rfl⟩ | ⟨hne, hlt, hz', hg⟩
    · rw [hnew]
      show RowOK w' ty ks vT' ((E.v s.nv).den e.R (e.r ++ [x0, x1, x2]))
      rw [show s.nv = s.nv + 0 from rfl, hx 0 x0 rfl]
      exact hT'
    · rw [hval _ hml]
      show RowOK w' r.ty r.ks _ ((E.v (s.nv + 1)).den e.R (e.r ++ [x0, x1, x2]))
      rw [hx 1 x1 rfl]
      exact hI'
    · rw [hval _ hlt]
      refine rowOK_same (hv.row j z hz' hz) fun k hk => ?_
      have hk' : rowBlk ((G.o j).val e) = some k := hk
      refine hstay k ((h.row j z hz' hz).blk_lt hk') (fun he => h.brs n j b z hb hz' hlb hz (by rw [hk', he])) (fun hh => hg k hh hk') (fun hh => hne (h.rsep j m z r k hz' hr hz hlr hk' hh))
  · intro j z hj hz hfj k hk
    rcases hrows j z hj hz with ⟨rfl, rfl⟩ | ⟨rfl, rfl⟩ | ⟨hne, hlt, hz', hg⟩
    · rw [hnew] at hk
      rcases (hap k hk).1 with hh | hh | hh | hh
      · exact .inl (Nat.le_trans h.below.size hh)
      · rw [hh]; exact h.own n b hb hlb hfb
      · exact hmay k hh
      · exact h.rown m r hr hlr hfr k hh
    · rw [hval _ hml] at hk
      exact h.rown j r hr hlr hfj k hk
    · rw [hval _ hlt] at hk
      exact h.rown j z hz' hz hfj k hk
  · have newNe : ∀ (j : Nat) (z : Row) (k : Nat), j ≠ m → j < s.rows.length → s.rows[j]? = some z → z.live = true → (∀ g, rowBlk vT = some g → rowBlk ((G.o j).val e) ≠ some g) → rowBlk vT' = some k → rowBlk ((G.o j).val e) = some k → False := by
      intro j z k hne hlt hz' hz hg h1 h2
      exact hTlt k h1 k ((h.row j z hz' hz).blk_lt h2) (fun hh => hg k hh h2) (fun hh => hne (h.rsep j m z r k hz' hr hz hlr h2 hh)) (fun he => h.brs n j b z hb hz' hlb hz (by rw [h2, he])) rfl
    intro i j c d k hi hj hc hd h1 h2
    rcases hrows i c hi hc with ⟨rfl, rfl⟩ | ⟨rfl, rfl⟩ | ⟨hne, hlt, hz', hg⟩
    · rw [hnew] at h1
      rcases hrows j d hj hd with ⟨rfl, rfl⟩ | ⟨rfl, rfl⟩ | ⟨hne2, hlt2, hz2, hg2⟩
      · rfl
      · rw [hval _ hml] at h2
        exact absurd h2 (hap k h1).2.2
      · rw [hval _ hlt2] at h2
        exact (newNe j d k hne2 hlt2 hz2 hd hg2 h1 h2).elim
    · rw [hval _ hml] at h1
      rcases hrows j d hj hd with ⟨rfl, rfl⟩ | ⟨rfl, rfl⟩ | ⟨hne2, hlt2, hz2, hg2⟩
      · rw [hnew] at h2
        exact absurd h1 (hap k h2).2.2
      · rfl
      · rw [hval _ hlt2] at h2
        exact h.rsep i j r d k hr hz2 hlr hd h1 h2
    · rw [hval _ hlt] at h1
      rcases hrows j d hj hd with ⟨rfl, rfl⟩ | ⟨rfl, rfl⟩ | ⟨hne2, hlt2, hz2, hg2⟩
      · rw [hnew] at h2
        exact (newNe i c k hne hlt hz' hc hg h2 h1).elim
      · rw [hval _ hml] at h2
        exact h.rsep i j c r k hz' hr hc hlr h1 h2
      · rw [hval _ hlt2] at h2
        exact h.rsep i j c d k hz' hz2 hc hd h1 h2
  · intro i j c d hi hj hc hd
    have old : ∃ c0, s.mem[i]? = some c0 ∧ c0.live = true := by
      rcases mem_set_cases hi with ⟨rfl, rfl, _⟩ | ⟨hne, hc'⟩
      · exact ⟨b, hb, hlb⟩
      · exact ⟨c, hc', hc⟩
    obtain ⟨c0, h1, h2⟩ := old
    show rowBlk _ ≠ some (e.β.getD i 0)
    rcases hrows j d hj hd with ⟨rfl, rfl⟩ | ⟨rfl, rfl⟩ | ⟨hne2, hlt2, hz2, hg2⟩
    · rw [hnew]
      intro hk
      have hne := (hap _ hk).2.1
      exact hTlt _ hk _ (heap_lt (h.blk i c0 h1 h2)) (hTm i c0 h1 h2) (h.brs i m c0 r h1 hr h2 hlr) hne rfl
    · rw [hval _ hml]
      exact h.brs i j c0 r h1 hr h2 hlr
    · rw [hval _ hlt2]
      exact h.brs i j c0 d h1 hz2 h2 hd
#print axioms callB_rep
end Go.Proofs.Ytgcoidbaoigkeaa.fix
set_option linter.unusedVariables false
set_option linter.unusedSimpArgs false
namespace Go.Proofs.Ytgcoidbaoigkeaa.fix
open Go.RowKit Go.Sx

def XB (tb : Nat) (vT vI : Value) (g : Nat) : Prop := g = tb ∨ rowBlk vT = some g ∨ rowBlk vI = some g
structure BuildW (w : World) (tb : Nat) (vT vI vL : Value) (cT cI cL : Int) : Prop where
  cell : w.heap[tb]? = some (.cells #[vT] 49 (0, 0))
  sT : ∃ a l c, vT = .slice a l c
  rT : RowOK w 66 Br_ks vT cT
  sI : ∃ a l c, vI = .slice a l c
  rI : RowOK w 3 [.i .i64] vI cI
  sL : ∃ a l c, vL = .slice a l c
  rL : SlX ⟨w, XB tb vT vI⟩ Bs_ks vL cL
  gl : GlX gl0 ⟨w, XB tb vT vI⟩
  tT : rowBlk vT ≠ some tb
  tI : rowBlk vI ≠ some tb
  tTI : ∀ g, rowBlk vT = some g → rowBlk vI ≠ some g
structure BuildR (w w' : World) (tb : Nat) (vT vI vT' : Value) (c0 c1 : Int) : Prop where
  bel : BelowX ⟨w, XB tb vT vI⟩ w'
  cell : w'.heap[tb]? = some (.cells #[vT'] 49 (0, 0))
  sT : ∃ a l c, vT' = .slice a l c
  rT : RowOK w' 66 Br_ks vT' c0
  rI : RowOK w' 3 [.i .i64] vI c1
  ap : ∀ g, rowBlk vT' = some g → (w.heap.size ≤ g ∨ XB tb vT vI g) ∧ g ≠ tb ∧ rowBlk vI ≠ some g
def BuildC (k : Nat) : Prop := ∀ (w : World) (tb : Nat) (vT vI vL : Value) (cT cI cL lo hi : Int), BuildW w tb vT vI vL cT cI cL → BuildPre k (dec cT) (dec cI) (dec cL) lo hi →
  Calls Try.prog 48 #[.pointer (some ⟨tb, 0, none⟩), vL, subV 1 vI lo.toNat hi.toNat] w fun x w' => x = .returned (.int .i64 ((dec cT).length : Int)) ∧ ∃ vT', BuildR w w' tb vT vI vT' ((sem_build [cT, cI, cL, lo, hi]).getD 0 0) ((sem_build [cT, cI, cL, lo, hi]).getD 1 0)

theorem gok_build {k : Nat} (h : (s_buildK k).okA Try.prog) : Gok Try.prog (G_build k) := by
  intro s hs
  simp only [G_build, List.mem_cons, List.mem_nil_iff, or_false] at hs
  rcases hs with rfl | rfl | rfl
  · exact ok_bjoin.A rfl
  · exact h
  · exact ok_sst
theorem gok_one : Gok Try.prog [s_bjoin] := by
  intro s hs
  simp only [List.mem_cons, List.mem_nil_iff, or_false] at hs
  subst hs
  exact ok_bjoin.A rfl
theorem two_lt {α : Type} {a b : α} {n : Nat} {x : α} (h : [a, b][n]? = some x) : (n = 0 ∧ x = a) ∨ (n = 1 ∧ x = b) := by
  match n, h with
  | 0, h => exact .inl ⟨rfl, by simpa using h.symm⟩
  | 1, h => exact .inr ⟨rfl, by simpa using h.symm⟩
  | n + 2, h => simp at h
theorem one_lt {α : Type} {a : α} {n : Nat} {x : α} (h : [a][n]? = some x) : n = 0 ∧ x = a := by
  match n, h with
  | 0, h => exact ⟨rfl, by simpa using h.symm⟩
  | n + 1, h => simp at h

theorem rep_build {w : World} {tb : Nat} {vT vI vL : Value} {cT cI cL : Int} (lo hi : Int) (h : BuildW w tb vT vI vL cT cI cL) : Rep ⟨[cT, cI, cL, lo, hi], [tb], [vT, vI], [], [vL]⟩ ⟨w, XB tb vT vI⟩ st_build w := by
  have v0 : (G.o 0).val ⟨[cT, cI, cL, lo, hi], [tb], [vT, vI], [], [vL]⟩ = vT := slV_of h.sT
  have v1 : (G.o 1).val ⟨[cT, cI, cL, lo, hi], [tb], [vT, vI], [], [vL]⟩ = vI := slV_of h.sI
  have v2 : (G.a 0).val ⟨[cT, cI, cL, lo, hi], [tb], [vT, vI], [], [vL]⟩ = vL := slV_of h.sL
  refine ⟨BelowX.refl _, rfl, rfl, rfl, rfl, ?_, ?_, ?_, ?_, ?_, ?_, ?_, h.gl, ?_⟩
  · intro n b hb hl
    obtain ⟨rfl, rfl⟩ := one_lt hb
    simp only [List.map_cons, List.map_nil, SC.den, v0]
    exact h.cell
  · intro n b hb hl _
    obtain ⟨rfl, rfl⟩ := one_lt hb
    exact .inr (.inl rfl)
  · intro n m b c hb hc _ _ _
    exact (one_lt hb).1.trans (one_lt hc).1.symm
  · intro n b hb hl
    rcases two_lt hb with ⟨rfl, rfl⟩ | ⟨rfl, rfl⟩
    · rw [v0]; exact h.rT
    · rw [v1]; exact h.rI
  · intro n b hb hl _ k hk
    rcases two_lt hb with ⟨rfl, rfl⟩ | ⟨rfl, rfl⟩
    · rw [v0] at hk; exact .inr (.inr (.inl hk))
    · rw [v1] at hk; exact .inr (.inr (.inr hk))
  · intro n m b c k hb hc _ _ h1 h2
    rcases two_lt hb with ⟨rfl, rfl⟩ | ⟨rfl, rfl⟩ <;> rcases two_lt hc with ⟨rfl, rfl⟩ | ⟨rfl, rfl⟩
    · rfl
    · rw [v0] at h1; rw [v1] at h2; exact absurd h2 (h.tTI k h1)
    · rw [v1] at h1; rw [v0] at h2; exact absurd h1 (h.tTI k h2)
    · rfl
  · intro n m b c hb hc _ _
    obtain ⟨rfl, _⟩ := one_lt hb
    rcases two_lt hc with ⟨rfl, rfl⟩ | ⟨rfl, rfl⟩
    · rw [v0]; exact h.tT
    · rw [v1]; exact h.tI
  · intro i ks c hi
    obtain ⟨rfl, he⟩ := one_lt hi
    cases he
    rw [v2]
    exact h.rL
theorem den_build {w : World} {tb : Nat} {vT vI vL : Value} {cT cI cL : Int} (lo hi : Int) (h : BuildW w tb vT vI vL cT cI cL) : as_build.map (SV.den ⟨[cT, cI, cL, lo, hi], [tb], [vT, vI], [], [vL]⟩) = [.pointer (some ⟨tb, 0, none⟩), vL, subV 1 vI lo.toNat hi.toNat] := by
  have v1 : (G.o 1).val ⟨[cT, cI, cL, lo, hi], [tb], [vT, vI], [], [vL]⟩ = vI := slV_of h.sI
  have v2 : (G.a 0).val ⟨[cT, cI, cL, lo, hi], [tb], [vT, vI], [], [vL]⟩ = vL := slV_of h.sL
  simp only [as_build, Go.Sx.one, List.map_cons, List.map_nil, SV.den, SW.den, SC.den, v1, v2]
  rfl

theorem hv_build {cT cI cL lo hi : Int} (h0 : 0 ≤ lo) (h1 : lo ≤ 1000) (h2 : 0 ≤ hi) (h3 : hi ≤ 1000) : vsOK pin_build [cT, cI, cL, lo, hi] :=
  vsOK_cons trivial (vsOK_cons trivial (vsOK_cons trivial (vsOK_cons (iv_def.2 ⟨h0, h1⟩) (vsOK_cons (iv_def.2 ⟨h2, h3⟩) vsOK_nil))))
theorem outs_build {k : Nat} : outsOK (G_build k) [i_bjoin, i_buildK, i_sst] :=
  outsOK_cons inf_bjoin (outsOK_cons ⟨fun xs h => (small_not xs h).elim, fun vs xs h hp => vsOK_cons trivial (vsOK_cons trivial (vsOK_cons trivial vsOK_nil))⟩ (outsOK_cons ⟨fun xs h => (small_not xs h).elim, fun vs xs h hp => vsOK_cons trivial vsOK_nil⟩ outsOK_nil))
theorem build_two {k : Nat} (hG : (s_buildK k).okA Try.prog) {w : World} {tb : Nat} {vT vI vL : Value} {cT cI cL lo hi : Int} (h : BuildW w tb vT vI vL cT cI cL) (hp : BuildPre (k + 1) (dec cT) (dec cI) (dec cL) lo hi) (two : lo + 2 ≤ hi) :
    Calls Try.prog 48 #[.pointer (some ⟨tb, 0, none⟩), vL, subV 1 vI lo.toNat hi.toNat] w fun x w' => x = .returned (.int .i64 ((dec cT).length : Int)) ∧ ∃ vT', BuildR w w' tb vT vI vT' ((sem_build [cT, cI, cL, lo, hi]).getD 0 0) ((sem_build [cT, cI, cL, lo, hi]).getD 1 0) := by
  have hsat := build_sat hp two
  have htree := tree_build k
  obtain ⟨T0, hT⟩ : ∃ T0, T_build k = T0 := ⟨_, rfl⟩
  rw [hT] at htree
  have hs : T0.sat (G_build k) [] (fun ys => ys = sem_build [cT, cI, cL, lo, hi]) [] [cT, cI, cL, lo, hi] := by
    rw [← htree] at hsat
    exact optFL_sound outs_build _ [] pin_build [] _ factsOK_nil (hv_build hp.lo0 (by have := hp.hi1; have := hp.lenI; omega) (by have := hp.lo0; omega) (by have := hp.hi1; have := hp.lenI; omega)) (merge_sat _ _ _ hsat)
  have hc := ownB_own' (Γ := G_build k) (Ψ := fun ys => ys = sem_build [cT, cI, cL, lo, hi]) (R := fun x w' => x = .returned (.int .i64 ((dec cT).length : Int)) ∧ ∃ vT', BuildR w w' tb vT vI vT' ((sem_build [cT, cI, cL, lo, hi]).getD 0 0) ((sem_build [cT, cI, cL, lo, hi]).getD 1 0))
    facts.mixed (gok_build hG) (g := 2) (sum := s_sst) rfl sst_M (rep_build lo hi h) rfl hT hs ?_
  · rw [den_build lo hi h] at hc
    exact hc
  · intro F out s' e' a' w' more hrel hle hsat
    obtain ⟨hne, hK⟩ : (∀ id, out ≠ .exit id) ∧ (match s'.mem[0]?, s'.rows[1]?, resOf Try.prog F s' with
      | some b, some r1, some (.w (.o (.i .i64 E))) => if (b.live && r1.live) && ((decide (b.ty = 49) && decide (r1.ty = 3)) && ksame r1.ks [.i .i64]) then (match b.cells with
        | [.go (.o j)] => match s'.rows[j]? with
          | some r => if (r.live && decide (j ≠ 1)) && ((decide (r.ty = 66) && decide (s'.flr ≤ j)) && ksame r.ks Br_ks) then .ret [r.c, r1.c, E] else .fail
          | none => .fail
        | _ => .fail) else .fail
      | _, _, _ => .fail : T).sat (G_build k) e'.R (fun ys => ys = sem_build [cT, cI, cL, lo, hi]) more e'.r := by
      cases out with
      | norm => exact ⟨fun _ hh => (by cases hh), hsat⟩
      | exit id => exact hsat.elim
      | ret => exact ⟨fun _ hh => (by cases hh), hsat⟩
    refine ⟨hne, ?_⟩
    clear hsat
    split at hK
    · rename_i b r1 E hb hr1 hres
      split at hK
      · rename_i hc
        simp only [Bool.and_eq_true, decide_eq_true_eq] at hc
        obtain ⟨⟨lb, l1⟩, ⟨tb', t1⟩, k1⟩ := hc
        split at hK
        · rename_i j hcells
          split at hK
          · rename_i r hr
            split at hK
            · rename_i hc
              simp only [Bool.and_eq_true, decide_eq_true_eq] at hc
              obtain ⟨⟨lr, hj1⟩, ⟨tr, hfl⟩, kr⟩ := hc
              have hrep := hrel.rep
              obtain ⟨x0, x1, x2, x3, h1, h2, h3, h4, h5⟩ := hle
              have hys : [r.c.den e'.R e'.r, r1.c.den e'.R e'.r, E.den e'.R e'.r] = sem_build [cT, cI, cL, lo, hi] := hK
              have hβ : e'.β.getD 0 0 = tb := by rw [h2]; rfl
              have hσ : (G.o 1).val e' = vI := by
                simp only [G.val]
                rw [h3]
                exact slV_of h.sI
              have hblk := hrep.blk 0 b hb lb
              have hrw := hrep.row j r hr lr
              have hrw1 := hrep.row 1 r1 hr1 l1
              rw [tr, ksame_eq kr] at hrw
              rw [t1, ksame_eq k1, hσ] at hrw1
              refine ⟨_, resOf_run hrel hres, ?_, (G.o j).val e', hrep.below, ?_, G.val_slice _ _, ?_, ?_, ?_⟩
              · show Ending.returned (.int .i64 (E.den e'.R e'.r)) = _
                have : E.den e'.R e'.r = (sem_build [cT, cI, cL, lo, hi]).getD 2 0 := by rw [← hys]; rfl
                rw [this]
                rfl
              · rw [← hβ, hblk, hcells, tb']
                rfl
              · rw [← hys]; exact hrw
              · rw [← hys]; exact hrw1
              · intro g hg
                refine ⟨hrep.rown j r hr lr hfl g hg, fun he => hrep.brs 0 j b r hb hr lb lr (by rw [hg, he, hβ]), fun hh => hj1 (hrep.rsep j 1 r r1 g hr hr1 lr l1 hg (by rw [hσ]; exact hh))⟩
            · exact hK.elim
          · exact hK.elim
        · exact hK.elim
      · exact hK.elim
    · exact hK.elim
#print axioms build_two
end Go.Proofs.Ytgcoidbaoigkeaa.fix
set_option linter.unusedVariables false
set_option linter.unusedSimpArgs false
namespace Go.Proofs.Ytgcoidbaoigkeaa.fix
open Go.RowKit Go.Sx

theorem items_row {w : World} {vI : Value} {cI : Int} (h : RowOK w 3 [.i .i64] vI cI) (h1 : 1 ≤ (dec cI).length) : ∃ (g cap : Nat) (cur : Array Value), vI = .slice (some ⟨g, 0, none⟩) (dec cI).length cap ∧ w.heap[g]? = some (.cells cur 3 (0, 0)) ∧ (dec cI).length ≤ cap ∧ cap ≤ maxLen ∧ cur.size = cap ∧
    cur.toList.take (dec cI).length = (dec cI).map (Value.int .i64) := by
  rcases h with ⟨hn, _⟩ | ⟨hk0, hel, hown⟩
  · rw [hn] at h1; simp at h1
  rcases hown.2 with ⟨_, hn⟩ | ⟨g, cap, cur, hval, _, hheap, hle1, hmx, hcs, htake⟩
  · omega
  rw [cellsL_int] at htake
  simp only [List.length_cons, List.length_nil, Nat.zero_add, Nat.mul_one] at htake hcs
  exact ⟨g, cap, cur, hval, hheap, hle1, hmx, hcs, htake⟩
theorem items_sl {w : World} {vI : Value} {cI lo hi : Int} (h : RowOK w 3 [.i .i64] vI cI) (h0 : 0 ≤ lo) (h1 : lo < hi) (h2 : hi ≤ ((dec cI).length : Int)) :
    SlOK w [.i .i64] (subV 1 vI lo.toNat hi.toNat) (cod (segL (dec cI) lo hi)) ∧ (∃ a l c, subV 1 vI lo.toNat hi.toNat = .slice a l c) ∧ ∀ k, slBlk (subV 1 vI lo.toNat hi.toNat) = some k → rowBlk vI = some k := by
  obtain ⟨g, cap, cur, rfl, hheap, hle, hmx, hcs, htake⟩ := items_row h (by omega)
  have hlen := segL_len h0 (by omega : lo ≤ hi) h2
  have hsub : subV 1 (.slice (some ⟨g, 0, none⟩) (dec cI).length cap) lo.toNat hi.toNat = .slice (some ⟨g, lo.toNat, none⟩) (hi.toNat - lo.toNat) (cap - lo.toNat) := by
    have h1 : ¬ cap = lo.toNat := by omega
    simp only [subV, if_neg h1, Option.map_some, Addr.add_lit, Nat.mul_one, Nat.zero_add]
  rw [hsub]
  refine ⟨.inr ⟨g, lo.toNat, cap - lo.toNat, ?_, ?_, by omega, ?_, ?_⟩, ⟨_, _, _, rfl⟩, ?_⟩
  · rw [dec_cod, hlen]
    congr 1
    omega
  · rw [dec_cod, hlen]; omega
  · intro x _; simp [elt]
  · intro j u hj
    rw [dec_cod, cellsL_int, List.getElem?_map] at hj
    simp only [Option.map_eq_some_iff] at hj
    obtain ⟨y, hy, rfl⟩ := hj
    have hjl := (List.getElem?_eq_some_iff.1 hy).1
    have hH := holds_of_blockI hheap htake
    have hc := (hH (lo.toNat + j) (by simp; omega)).1
    rw [Nat.zero_add] at hc
    rw [hc]
    simp only [segL, List.getElem?_drop] at hy
    rw [List.getElem?_take_of_lt (by omega)] at hy
    congr 2
    simp only [List.getElem!_toArray]
    rw [List.getElem!_eq_getElem?_getD, hy]
    rfl
  · intro k hk
    simp only [slBlk, Option.some.injEq] at hk
    subst hk
    have : cap ≠ 0 := by omega
    simp [rowBlk, this]

theorem rep_one {w : World} {tb : Nat} {vT vL vS : Value} {cT cS cL : Int} {X : Nat → Prop} (hXt : X tb) (hXT : ∀ k, rowBlk vT = some k → X k) (cell : w.heap[tb]? = some (.cells #[vT] 49 (0, 0))) (sT : ∃ a l c, vT = .slice a l c) (rT : RowOK w 66 Br_ks vT cT) (sL : ∃ a l c, vL = .slice a l c) (rL : SlX ⟨w, X⟩ Bs_ks vL cL)
    (sS : ∃ a l c, vS = .slice a l c) (rS : SlX ⟨w, X⟩ [.i .i64] vS cS) (gl : GlX gl0 ⟨w, X⟩) (tT : rowBlk vT ≠ some tb) : Rep ⟨[cT, cS, cL], [tb], [vT], [], [vL, vS]⟩ ⟨w, X⟩ st_one w := by
  have v0 : (G.o 0).val ⟨[cT, cS, cL], [tb], [vT], [], [vL, vS]⟩ = vT := slV_of sT
  have v1 : (G.a 0).val ⟨[cT, cS, cL], [tb], [vT], [], [vL, vS]⟩ = vL := slV_of sL
  have v2 : (G.a 1).val ⟨[cT, cS, cL], [tb], [vT], [], [vL, vS]⟩ = vS := slV_of sS
  refine ⟨BelowX.refl _, rfl, rfl, rfl, rfl, ?_, ?_, ?_, ?_, ?_, ?_, ?_, gl, ?_⟩
  · intro n b hb hl
    obtain ⟨rfl, rfl⟩ := one_lt hb
    simp only [List.map_cons, List.map_nil, SC.den, v0]
    exact cell
  · intro n b hb hl _
    obtain ⟨rfl, rfl⟩ := one_lt hb
    exact .inr hXt
  · intro n m b c hb hc _ _ _
    exact (one_lt hb).1.trans (one_lt hc).1.symm
  · intro n b hb hl
    obtain ⟨rfl, rfl⟩ := one_lt hb
    rw [v0]; exact rT
  · intro n b hb hl _ k hk
    obtain ⟨rfl, rfl⟩ := one_lt hb
    rw [v0] at hk; exact .inr (hXT k hk)
  · intro n m b c k hb hc _ _ h1 h2
    exact (one_lt hb).1.trans (one_lt hc).1.symm
  · intro n m b c hb hc _ _
    obtain ⟨rfl, _⟩ := one_lt hb
    obtain ⟨rfl, _⟩ := one_lt hc
    rw [v0]; exact tT
  · intro i ks c hi
    rcases two_lt hi with ⟨rfl, he⟩ | ⟨rfl, he⟩
    · cases he
      rw [v1]
      exact rL
    · cases he
      rw [v2]
      exact rS
theorem den_one {tb : Nat} {vT vL vS : Value} {cT cS cL : Int} (sL : ∃ a l c, vL = .slice a l c) (sS : ∃ a l c, vS = .slice a l c) : as_one.map (SV.den ⟨[cT, cS, cL], [tb], [vT], [], [vL, vS]⟩) = [.pointer (some ⟨tb, 0, none⟩), vL, vS] := by
  have v1 : (G.a 0).val ⟨[cT, cS, cL], [tb], [vT], [], [vL, vS]⟩ = vL := slV_of sL
  have v2 : (G.a 1).val ⟨[cT, cS, cL], [tb], [vT], [], [vL, vS]⟩ = vS := slV_of sS
  simp only [as_one, Go.Sx.one, List.map_cons, List.map_nil, SV.den, SW.den, SC.den, v1, v2]
  rfl
theorem outs_one : outsOK [s_bjoin] [i_bjoin] := outsOK_cons inf_bjoin outsOK_nil
theorem put_seg {I : List Int} {lo hi : Int} (h0 : 0 ≤ lo) (h1 : lo ≤ hi) (h2 : hi ≤ (I.length : Int)) : putL I lo hi (segL I lo hi) = I := by
  obtain ⟨A, B, hI, hlo, hhi⟩ := three I h0 h1 h2
  generalize segL I lo hi = s at *
  subst hI
  rw [hlo, hhi, put_app]

theorem row_codI {w : World} {ty : TypeId} {ks : List K} {u : Value} {c : Int} (h : RowOK w ty ks u c) : RowOK w ty ks u (cod (dec c)) := by
  unfold RowOK
  rw [dec_cod]
  exact h
theorem build_one {k : Nat} {w : World} {tb : Nat} {vT vI vL : Value} {cT cI cL lo hi : Int} (h : BuildW w tb vT vI vL cT cI cL) (hp : BuildPre k (dec cT) (dec cI) (dec cL) lo hi) (hone : hi = lo + 1) :
    Calls Try.prog 48 #[.pointer (some ⟨tb, 0, none⟩), vL, subV 1 vI lo.toNat hi.toNat] w fun x w' => x = .returned (.int .i64 ((dec cT).length : Int)) ∧ ∃ vT', BuildR w w' tb vT vI vT' ((sem_build [cT, cI, cL, lo, hi]).getD 0 0) ((sem_build [cT, cI, cL, lo, hi]).getD 1 0) := by
  have hn1 := hp.lo0
  have hn2 := hp.hi1
  have hn4 := hp.lenT
  obtain ⟨hsl, hsS, hslb⟩ := items_sl (lo := lo) (hi := hi) h.rI hn1 (by omega) hn2
  have hlen := segL_len hn1 (by omega : lo ≤ hi) hn2
  have hits := hp.its
  obtain ⟨s, hs0⟩ : ∃ s, segL (dec cI) lo hi = s := ⟨_, rfl⟩
  have hsem : sem_build [cT, cI, cL, lo, hi] = [cod (dec cT ++ [cod (boxOf (dec cL) s ++ [-1, -1, s.getD 0 0])]), cod (dec cI), ((dec cT).length : Int)] := by
    have h1 : (hi - lo).toNat = 0 + 1 := by omega
    simp only [sem_build, List.getD_cons_zero, List.getD_cons_succ, h1]
    rw [hs0, built_one (by rw [← hs0]; omega), items_one (by rw [← hs0]; omega), ← hs0, put_seg hn1 (by omega) hn2]
  rw [hsem]
  rw [hs0] at hlen hits hsl
  have hsat := one_sat (cT := cT) (cI := cod s) (cL := cL) (by rw [dec_cod]; omega) (by rw [dec_cod]; exact hits _ (mem_at (by omega))) hp.bxs (by omega)
  rw [dec_cod] at hsat
  obtain ⟨T0, hT⟩ : ∃ T0, T_one = T0 := ⟨_, rfl⟩
  have htree := tree_one
  rw [hT] at htree
  have hs : T0.sat [s_bjoin] [] (fun ys => ys = [cod (dec cT ++ [cod (boxOf (dec cL) s ++ [-1, -1, s.getD 0 0])]), ((dec cT).length : Int)]) [] [cT, cod s, cL] := by
    rw [← htree] at hsat
    exact optFL_sound outs_one _ [] pin_one [] _ factsOK_nil (vsOK_cons trivial (vsOK_cons trivial (vsOK_cons trivial vsOK_nil))) (merge_sat _ _ _ hsat)
  -- what may be written: the tree's block and its row
  obtain ⟨X, hX⟩ : ∃ X : Nat → Prop, X = fun g => g = tb ∨ rowBlk vT = some g := ⟨_, rfl⟩
  have hXB : ∀ g, X g → XB tb vT vI g := fun g hg => by
    rw [hX] at hg
    rcases hg with hg | hg
    · exact .inl hg
    · exact .inr (.inl hg)
  have hrep := rep_one (X := X) (vS := subV 1 vI lo.toNat hi.toNat) (cS := cod s) (by rw [hX]; exact .inl rfl) (fun k hk => by rw [hX]; exact .inr hk) h.cell h.sT h.rT h.sL (SlOK.toX (b := ⟨w, X⟩) rfl h.rL.base.1 fun h0 k hk hh => h.rL.base.2 h0 k hk (hXB k hh)) hsS
    (SlOK.toX (b := ⟨w, X⟩) rfl hsl fun _ k hk hh => by
      have := hslb k hk
      rw [hX] at hh
      rcases hh with hh | hh
      · exact h.tI (by rw [this, hh])
      · exact h.tTI k hh this) ⟨h.gl.1, fun p hp0 h0 hh => h.gl.2 p hp0 h0 (hXB _ hh)⟩ h.tT
  have hc := ownT_own' (Γ := [s_bjoin]) (Ψ := fun ys => ys = [cod (dec cT ++ [cod (boxOf (dec cL) s ++ [-1, -1, s.getD 0 0])]), ((dec cT).length : Int)]) (R := fun x w' => x = .returned (.int .i64 ((dec cT).length : Int)) ∧ ∃ vT', BuildR w w' tb vT vI vT' ([cod (dec cT ++ [cod (boxOf (dec cL) s ++ [-1, -1, s.getD 0 0])]), cod (dec cI), ((dec cT).length : Int)].getD 0 0) ([cod (dec cT ++ [cod (boxOf (dec cL) s ++ [-1, -1, s.getD 0 0])]), cod (dec cI), ((dec cT).length : Int)].getD 1 0))
    facts.mixed gok_one hrep rfl hT hs ?_
  · rw [den_one h.sL hsS] at hc
    exact hc
  · intro F out s' e' a' w' more hrel hle hsat
    obtain ⟨hne, hK⟩ : (∀ id, out ≠ .exit id) ∧ (match s'.mem[0]?, resOf Try.prog F s' with
      | some b, some (.w (.o (.i .i64 E))) => if b.live && decide (b.ty = 49) then (match b.cells with
        | [.go (.o j)] => match s'.rows[j]? with
          | some r => if r.live && ((decide (r.ty = 66) && decide (s'.flr ≤ j)) && ksame r.ks Br_ks) then .ret [r.c, E] else .fail
          | none => .fail
        | _ => .fail) else .fail
      | _, _ => .fail : T).sat [s_bjoin] e'.R (fun ys => ys = [cod (dec cT ++ [cod (boxOf (dec cL) s ++ [-1, -1, s.getD 0 0])]), ((dec cT).length : Int)]) more e'.r := by
      cases out with
      | norm => exact ⟨fun _ hh => (by cases hh), hsat⟩
      | exit id => exact hsat.elim
      | ret => exact ⟨fun _ hh => (by cases hh), hsat⟩
    refine ⟨hne, ?_⟩
    clear hsat
    split at hK
    · rename_i b E hb hres
      split at hK
      · rename_i hc
        simp only [Bool.and_eq_true, decide_eq_true_eq] at hc
        obtain ⟨lb, tb'⟩ := hc
        split at hK
        · rename_i j hcells
          split at hK
          · rename_i r hr
            split at hK
            · rename_i hc
              simp only [Bool.and_eq_true, decide_eq_true_eq] at hc
              obtain ⟨lr, ⟨tr, hfl⟩, kr⟩ := hc
              have hrep' := hrel.rep
              obtain ⟨x0, x1, x2, x3, h1, h2, h3, h4, h5⟩ := hle
              have hys : [r.c.den e'.R e'.r, E.den e'.R e'.r] = [cod (dec cT ++ [cod (boxOf (dec cL) s ++ [-1, -1, s.getD 0 0])]), ((dec cT).length : Int)] := hK
              have hβ : e'.β.getD 0 0 = tb := by rw [h2]; rfl
              have hblk := hrep'.blk 0 b hb lb
              have hrw := hrep'.row j r hr lr
              rw [tr, ksame_eq kr] at hrw
              simp only [List.cons.injEq, and_true] at hys
              have hbel := hrep'.below
              have hI : ∀ g, rowBlk vI = some g → ¬ Bas.may ⟨w, X⟩ g := fun g hg hh => by
                rcases hh with hh | hh
                · exact absurd (h.rI.blk_lt hg) (Nat.not_lt.2 hh)
                · rw [hX] at hh
                  rcases hh with hh | hh
                  · exact h.tI (by rw [hg, hh])
                  · exact h.tTI g hh hg
              refine ⟨_, resOf_run hrel hres, ?_, (G.o j).val e', ⟨BelowX.trans (b := ⟨w, XB tb vT vI⟩) (c := ⟨w, X⟩) (BelowX.refl _) hbel (fun i hi => Or.imp id (hXB i) hi), ?_, G.val_slice _ _, ?_, ?_, ?_⟩⟩
              · show Ending.returned (.int .i64 (E.den e'.R e'.r)) = _
                rw [hys.2]
              · rw [← hβ, hblk, hcells, tb']
                rfl
              · rw [hys.1] at hrw; exact hrw
              · exact rowOK_same (row_codI h.rI) fun g hg => hbel.block g (hI g hg)
              · intro g hg
                have hm := hrep'.rown j r hr lr hfl g hg
                exact ⟨hm.imp id (hXB g), fun he => hrep'.brs 0 j b r hb hr lb lr (by rw [hg, he, hβ]), fun hh => hI g hh hm⟩
            · exact hK.elim
          · exact hK.elim
        · exact hK.elim
      · exact hK.elim
    · exact hK.elim
#print axioms build_one
theorem buildC_zero : BuildC 0 := fun w tb vT vI vL cT cI cL lo hi h hp => absurd hp.fuel (by have := hp.one; omega)
theorem buildC_succ {k : Nat} (hG : (s_buildK k).okA Try.prog) : BuildC (k + 1) := fun w tb vT vI vL cT cI cL lo hi h hp => by
  by_cases h1 : hi = lo + 1
  · exact build_one h hp h1
  · exact build_two hG h hp (by have := hp.one; omega)
#print axioms buildC_succ
end Go.Proofs.Ytgcoidbaoigkeaa.fix
set_option linter.unusedVariables false
set_option linter.unusedSimpArgs false
namespace Go.Proofs.Ytgcoidbaoigkeaa.fix
open Go.RowKit Go.Sx

theorem slx_may {W0 : Bas} {ks : List K} {v : Value} {c : Int} (h : SlX W0 ks v c) (h0 : cellsL ks (dec c) ≠ []) {k : Nat} (hk : slBlk v = some k) : ¬ W0.may k := by
  rintro (hh | hh)
  · rcases h.base.1 with ⟨rfl, hn⟩ | ⟨b, off, cap, hv, h1, h2, h3, h4⟩
    · cases hk
    · rw [hv] at hk
      simp only [slBlk, Option.some.injEq] at hk
      subst hk
      obtain ⟨u, us, hu⟩ := List.exists_cons_of_ne_nil h0
      have := h4 0 u (by rw [hu]; rfl)
      exact absurd (World.block_lt_of_cell? _ _ this) (Nat.not_lt.2 hh)
  · exact h.base.2 h0 k hk hh
theorem glx_may {W0 : Bas} {gl : List (Nat × List Int)} (h : GlX gl W0) {p : Nat × List Int} (hp : p ∈ gl) (h0 : p.2 ≠ []) : ¬ W0.may p.1 := by
  rintro (hh | hh)
  · obtain ⟨u, us, hu⟩ := List.exists_cons_of_ne_nil h0
    have := h.1 p hp 0 u (by rw [hu]; rfl)
    exact absurd (World.block_lt_of_cell? _ _ this) (Nat.not_lt.2 hh)
  · exact h.2 p hp h0 hh
theorem glIn_X {W0 : Bas} {s : St} (hgl : glIn gl0 s.gl = true) (h : GlX s.gl W0) : GlX gl0 W0 := by
  refine ⟨glIn_ok hgl h.1, fun p hp' h0 => ?_⟩
  have := List.all_eq_true.1 hgl p hp'
  obtain ⟨q, hq, hs⟩ := List.any_eq_true.1 this
  simp only [sameG, Bool.and_eq_true, beq_iff_eq] at hs
  have := h.2 q hq (by rw [← hs.2]; exact h0)
  rwa [← hs.1] at this
theorem headB_spec {e : Env} {W0 : Bas} {s : St} {w : World} (h : Rep e W0 s w) {m : Nat} {r : Row} (hr : s.rows[m]? = some r) (hlr : r.live = true) {cells : List SC} {cT : E} {rows' : List Row} (hb : headB s m cells = some (cT, rows')) :
    ∃ vT, cells.map (SC.den e) = [vT] ∧ (∃ a l c, vT = .slice a l c) ∧ RowOK w 66 Br_ks vT (cT.den e.R e.r) ∧ rows'.length = s.rows.length ∧ rows'[m]? = some r ∧
      (∀ (j : Nat) (b' : Row), rows'[j]? = some b' → b'.live = true → s.rows[j]? = some b' ∧ ∀ g, rowBlk vT = some g → rowBlk ((G.o j).val e) ≠ some g) ∧ (∀ g, rowBlk vT = some g → W0.may g) ∧
      (∀ (n' : Nat) (b' : Blk), s.mem[n']? = some b' → b'.live = true → rowBlk vT ≠ some (e.β.getD n' 0)) ∧ ∀ g, rowBlk vT = some g → rowBlk ((G.o m).val e) ≠ some g := by
  unfold headB at hb
  split at hb
  · rename_i k
    split at hb
    · rename_i rk hk
      split at hb
      · rename_i hc
        simp only [Bool.and_eq_true, decide_eq_true_eq] at hc
        obtain ⟨⟨lk, hne⟩, ⟨hfl, tk⟩, kk⟩ := hc
        simp only [Option.some.injEq, Prod.mk.injEq] at hb
        obtain ⟨rfl, rfl⟩ := hb
        have hrow := h.row k rk hk lk
        rw [tk, ksame_eq kk] at hrow
        refine ⟨(G.o k).val e, rfl, G.val_slice _ _, hrow, by simp, by rw [List.getElem?_set, if_neg hne]; exact hr, ?_, fun g hg => h.rown k rk hk lk hfl g hg, fun n' b' h1 h2 => h.brs n' k b' rk h1 hk h2 lk, fun g h1 h2 => hne (h.rsep k m rk r g hk hr lk hlr h1 h2)⟩
        intro j b' hj hl
        rcases mem_set_cases hj with ⟨rfl, rfl, _⟩ | ⟨hjne, hj'⟩
        · cases hl
        · exact ⟨hj', fun g h1 h2 => hjne (h.rsep j k b' rk g hj' hk hl lk h2 h1)⟩
      · cases hb
    · cases hb
  · simp only [Option.some.injEq, Prod.mk.injEq] at hb
    obtain ⟨rfl, rfl⟩ := hb
    refine ⟨.slice none 0 0, rfl, ⟨_, _, _, rfl⟩, .inl ⟨?_, .inl rfl⟩, rfl, hr, fun j b' h1 _ => ⟨h1, fun g hg => by cases hg⟩, fun g hg => by (cases hg), fun _ _ _ _ hh => by (cases hh), fun g hg => by cases hg⟩
    show dec (cod []) = []
    rw [dec_cod]
  · cases hb
theorem viewB_spec {e : Env} {s : St} {v : SC} {m : Nat} {lo hi : E} (hv : viewB s v = some (m, lo, hi)) {r : Row} (hr : s.rows[m]? = some r) {w : World} (hrow : RowOK w 3 [.i .i64] ((G.o m).val e) (r.c.den e.R e.r)) (h1 : 1 ≤ (dec (r.c.den e.R e.r)).length) :
    v.den e = subV 1 ((G.o m).val e) (lo.den e.R e.r).toNat (hi.den e.R e.r).toNat := by
  unfold viewB at hv
  split at hv
  · simp only [Option.some.injEq, Prod.mk.injEq] at hv
    obtain ⟨rfl, rfl, rfl⟩ := hv
    rfl
  · rename_i m'
    split at hv
    · rename_i r' hr'
      simp only [Option.some.injEq, Prod.mk.injEq] at hv
      obtain ⟨rfl, rfl, rfl⟩ := hv
      rw [hr] at hr'
      cases hr'
      obtain ⟨g, cap, cur, hval, _, hle, _, _, _⟩ := items_row hrow h1
      show (G.o m').val e = _
      rw [mkLn_den, hval]
      have h2 : ¬ cap = 0 := by omega
      simp only [E.den, subV, Int.toNat_zero, if_neg h2, Option.map_some, Addr.add_lit, Nat.zero_mul, Nat.zero_add, Nat.sub_zero, Int.toNat_natCast]
    · cases hv
  · cases hv

theorem build_okM {k : Nat} (hC : BuildC k) : (s_buildK k).okA Try.prog := by
  show (s_buildK k).okM Try.prog fBuild
  intro W0 e s w args bb es kk hrep hsc hargs hgl hf has hpre
  unfold fBuild at hf
  split at hf
  · rename_i n i v
    split at hf
    · rename_i b ks cl m lo hi hb hhs hview
      split at hf
      · rename_i r cT rows' hr hhead
        split at hf
        · rename_i hc
          simp only [Bool.and_eq_true, decide_eq_true_eq] at hc
          obtain ⟨⟨⟨lb, lr⟩, tb, tr⟩, ⟨⟨hfl, hflr⟩, kr, kks⟩, hglin⟩ := hc
          simp only [Option.some.injEq, Prod.mk.injEq] at hf
          obtain ⟨rfl, rfl, rfl⟩ := hf
          have hp : BuildPre k (dec (cT.den e.R e.r)) (dec (r.c.den e.R e.r)) (dec (cl.den e.R e.r)) (lo.den e.R e.r) (hi.den e.R e.r) := hpre
          have hsem : (s_buildK k).sem ([cT, r.c, cl, lo, hi].map (E.den e.R e.r)) = sem_build [cT.den e.R e.r, r.c.den e.R e.r, cl.den e.R e.r, lo.den e.R e.r, hi.den e.R e.r] := rfl
          obtain ⟨S0, S1, hS⟩ : ∃ S0 S1, sem_build [cT.den e.R e.r, r.c.den e.R e.r, cl.den e.R e.r, lo.den e.R e.r, hi.den e.R e.r] = [S0, S1, ((dec (cT.den e.R e.r)).length : Int)] := ⟨_, _, rfl⟩
          rw [hS] at hsem
          rw [hsem]
          have hrow := hrep.row m r hr lr
          rw [tr, ksame_eq kr] at hrow
          have hv := viewB_spec hview hr hrow (by have := hp.lo0; have := hp.one; have := hp.hi1; omega)
          obtain ⟨vT, hcells, hsT, hrT, hrl, hrm, hold, hmay, hTm, hTI⟩ := headB_spec hrep hr lr hhead
          have hblk := hrep.blk n b hb lb
          rw [hcells, tb] at hblk
          have harg := hrep.arg i ks cl hhs
          rw [ksame_eq kks] at harg
          have hglx := glIn_X hglin hrep.gl
          have hXm : ∀ g, XB (e.β.getD n 0) vT ((G.o m).val e) g → W0.may g := fun g hg => by
            rcases hg with hg | hg | hg
            · rw [hg]; exact hrep.own n b hb lb hfl
            · exact hmay g hg
            · exact hrep.rown m r hr lr hflr g hg
          have hW : BuildW w (e.β.getD n 0) vT ((G.o m).val e) ((G.a i).val e) (cT.den e.R e.r) (r.c.den e.R e.r) (cl.den e.R e.r) :=
            ⟨hblk, hsT, hrT, G.val_slice _ _, hrow, G.val_slice _ _, SlOK.toX (b := ⟨w, XB (e.β.getD n 0) vT (G.val e (G.o m))⟩) rfl (harg.now hrep.below) fun h0 k hk hh => slx_may harg h0 hk (hXm k hh), ⟨hglx.now hrep.below, fun p hp0 h0 hh => glx_may hglx hp0 h0 (hXm _ hh)⟩,
              hTm n b hb lb, hrep.brs n m b r hb hr lb lr, hTI⟩
          have hcall := hC w _ vT _ _ _ _ _ _ _ hW hp
          rw [hS] at hcall
          have hden : ([SV.w (.o (.p n 0)), .w (.o (.go (.a i))), .w (.o v)].map (SV.den e)).toArray = #[.pointer (some ⟨e.β.getD n 0, 0, none⟩), (G.a i).val e, subV 1 ((G.o m).val e) (lo.den e.R e.r).toNat (hi.den e.R e.r).toNat] := by
            show #[(SC.p n 0).den e, (G.a i).val e, v.den e] = _
            rw [hv]
            rfl
          rw [hden]
          refine hcall.mono ?_
          rintro x w' ⟨rfl, vT', hR⟩
          refine ⟨_, ?_, ?_, rfl, callB_rep (x2 := ((dec (cT.den e.R e.r)).length : Int)) hrep hsc hb lb hfl hr lr hflr hrl hrm hold hmay hTm hR.bel (by rw [tb]; exact hR.cell) hR.sT hR.rT (by rw [tr, ksame_eq kr]; exact hR.rI) hR.ap, rfl, rfl, rfl, rfl⟩
          · show _ = Ending.returned (Value.int .i64 ((E.v (s.nv + 2)).den e.R (e.r ++ _)))
            congr 2
            simp only [E.den]
            rw [← hrep.nv]
            simp only [List.getD]
            rw [List.getElem?_append_right (by omega), Nat.add_sub_cancel_left]
            rfl
          · exact ⟨[S0, S1, ((dec (cT.den e.R e.r)).length : Int)], [], [vT'], [], by simp⟩
        · cases hf
      · cases hf
    · cases hf
  · cases hf
theorem buildC_all : ∀ k, BuildC k
  | 0 => buildC_zero
  | k + 1 => buildC_succ (build_okM (buildC_all k))
theorem ok_buildK (k : Nat) : (s_buildK k).okA Try.prog := build_okM (buildC_all k)
#print axioms ok_buildK
end Go.Proofs.Ytgcoidbaoigkeaa.fix
