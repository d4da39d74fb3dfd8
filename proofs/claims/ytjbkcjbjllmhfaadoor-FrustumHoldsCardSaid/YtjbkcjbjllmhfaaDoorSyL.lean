/-
  Symbolic execution: append; operations in sequence.
-/
import Derived.Test.YtjbkcjbjllmhfaaDoorSyK
import Derived.Deep.AppendLies
namespace Go.Sx
open Go.RowKit

variable {P : Program} {Γ : List Sum} {Ψ : List Int → Prop} {bs : List (List Int → Prop)}

theorem Rep.append {e : Env} {W0 : World} {s : St} {w : World} (h : Rep e W0 s w) (hs : s.scp = true) {cells : List SC} (hc : cells.all (SC.scp s.mem.length s.rows.length) = true) {row : Option Nat} {rows0 : List Row} (hlen : rows0.length = s.rows.length)
    (h0 : ∀ j (b : Row), rows0[j]? = some b → b.live = true → s.rows[j]? = some b ∧ ∀ k, row = some k → (e.σ.getD j undef).ownBlock ≠ some k)
    (hrow : ∀ k, row = some k → W0.heap.size ≤ k ∧ k < w.heap.size ∧ ∀ j (b : Blk), s.mem[j]? = some b → b.live = true → e.β.getD j 0 ≠ k)
    {w' : World} (hg : w.grownBy w' row) {g cap len size : Nat} {ty : TypeId} (hown : w'.ownsRow W0.heap.size ty size (.slice (some ⟨g, 0, none⟩) len cap) len (cells.map (SC.den e))) (hat : row = some g ∨ g = w.heap.size) :
    Rep { e with σ := e.σ ++ [Value.slice (some ⟨g, 0, none⟩) len cap] } W0 { s with rows := rows0 ++ [⟨ty, size, len, cells, true⟩] } w' ∧
    Env.like s.mem.length s.rows.length e { e with σ := e.σ ++ [Value.slice (some ⟨g, 0, none⟩) len cap] } := by
  obtain ⟨hf, hm, hr⟩ := St.scp_spec hs
  have hlike : Env.like s.mem.length s.rows.length e { e with σ := e.σ ++ [Value.slice (some ⟨g, 0, none⟩) len cap] } :=
    ⟨rfl, rfl, rfl, fun _ _ => rfl, fun n hn => getD_app_lt _ _ _ _ (by rw [h.ng]; exact hn)⟩
  refine ⟨?_, hlike⟩
  have hnew : (e.σ ++ [Value.slice (some ⟨g, 0, none⟩) len cap]).getD s.rows.length undef = .slice (some ⟨g, 0, none⟩) len cap := by
    simp [List.getD, ← h.ng]
  have hold : ∀ n, n < s.rows.length → (e.σ ++ [Value.slice (some ⟨g, 0, none⟩) len cap]).getD n undef = e.σ.getD n undef := fun n hn => hlike.σ n hn
  have hcases : ∀ n (b : Row), (rows0 ++ [(⟨ty, size, len, cells, true⟩ : Row)])[n]? = some b → (n < s.rows.length ∧ rows0[n]? = some b) ∨ (n = s.rows.length ∧ b = ⟨ty, size, len, cells, true⟩) := by
    intro n b hb
    rcases Nat.lt_trichotomy n rows0.length with hn | hn | hn
    · exact .inl ⟨by omega, by rwa [List.getElem?_append_left hn] at hb⟩
    · subst hn; simp at hb; exact .inr ⟨hlen, hb.symm⟩
    · rw [List.getElem?_eq_none (by simp; omega)] at hb; cases hb
  have hmemk : ∀ n (b : Blk), s.mem[n]? = some b → b.live = true → w'.heap[e.β.getD n 0]? = w.heap[e.β.getD n 0]? := fun n b hb hl =>
    hg.block _ (heap_lt (h.blk n b hb hl)) (fun hk => (hrow _ hk.symm).2.2 n b hb hl rfl)
  have hnewblk : ∀ n (b : Row), rows0[n]? = some b → b.live = true → ∀ k, (e.σ.getD n undef).ownBlock = some k → k ≠ g := by
    intro n b hb hl k hk heq
    subst heq
    obtain ⟨hb', hne⟩ := h0 n b hb hl
    rcases hat with hat | hat
    · exact hne k hat hk
    · have := ownsRow_block_lt (h.row n b hb' hl) hk
      omega
  refine ⟨?_, h.nb, ?_, h.nv, h.nx, ?_, h.own, h.sep, ?_, ?_, ?_, ?_, ?_, h.reg, h.gl⟩
  · exact h.below.grown hg h.below.size (fun k hk => (hrow k hk).1)
  · simp [h.ng, hlen]
  · intro n b hb hl
    rw [hmemk n b hb hl, map_den_like hlike (hm b (List.mem_of_getElem? hb))]
    exact h.blk n b hb hl
  · intro n b hb hl
    rcases hcases n b hb with ⟨hn, hb'⟩ | ⟨rfl, rfl⟩
    · obtain ⟨hb'', hne⟩ := h0 n b hb' hl
      show w'.ownsRow 0 _ _ ((e.σ ++ [Value.slice (some ⟨g, 0, none⟩) len cap]).getD n undef) _ _
      rw [hold n hn, map_den_like hlike (hr b (List.mem_of_getElem? hb''))]
      refine (h.row n b hb'' hl).kept hg ?_
      cases hob : (e.σ.getD n undef).ownBlock with
      | none => exact .inl rfl
      | some k => exact .inr (fun hk => hne k hk.symm (by rw [hob]))
    · show w'.ownsRow 0 _ _ ((e.σ ++ [Value.slice (some ⟨g, 0, none⟩) len cap]).getD s.rows.length undef) _ _
      rw [hnew, map_den_like hlike hc]
      obtain ⟨h1, h2⟩ := hown
      refine ⟨h1, ?_⟩
      rcases h2 with h2 | ⟨g', cap', cur, h3, _, h4⟩
      · exact .inl h2
      · exact .inr ⟨g', cap', cur, h3, Nat.zero_le _, h4⟩
  · intro n b hb hl hfl k hk
    rcases hcases n b hb with ⟨hn, hb'⟩ | ⟨rfl, rfl⟩
    · have hk' : ((e.σ ++ [Value.slice (some ⟨g, 0, none⟩) len cap]).getD n undef).ownBlock = some k := hk
      rw [hold n hn] at hk'
      exact h.rown n b (h0 n b hb' hl).1 hl hfl k hk'
    · have hk' : ((e.σ ++ [Value.slice (some ⟨g, 0, none⟩) len cap]).getD s.rows.length undef).ownBlock = some k := hk
      rw [hnew] at hk'
      simp only [Value.ownBlock, Option.some.injEq] at hk'
      subst hk'
      rcases hat with hat | hat
      · exact (hrow _ hat).1
      · rw [hat]; exact h.below.size
  · intro n m b c k hb hc' hlb hlc h1 h2
    have h1' : ((e.σ ++ [Value.slice (some ⟨g, 0, none⟩) len cap]).getD n undef).ownBlock = some k := h1
    have h2' : ((e.σ ++ [Value.slice (some ⟨g, 0, none⟩) len cap]).getD m undef).ownBlock = some k := h2
    rcases hcases n b hb with ⟨hn, hb'⟩ | ⟨rfl, rfl⟩ <;> rcases hcases m c hc' with ⟨hm', hc''⟩ | ⟨rfl, rfl⟩
    · rw [hold n hn] at h1'
      rw [hold m hm'] at h2'
      exact h.rsep n m b c k (h0 n b hb' hlb).1 (h0 m c hc'' hlc).1 hlb hlc h1' h2'
    · rw [hold n hn] at h1'
      rw [hnew] at h2'
      simp only [Value.ownBlock, Option.some.injEq] at h2'
      exact absurd h2'.symm (hnewblk n b hb' hlb k h1')
    · rw [hold m hm'] at h2'
      rw [hnew] at h1'
      simp only [Value.ownBlock, Option.some.injEq] at h1'
      exact absurd h1'.symm (hnewblk m c hc'' hlc k h2')
    · rfl
  · intro n m b c hb hc' hlb hlc
    rcases hcases m c hc' with ⟨hm', hc''⟩ | ⟨rfl, rfl⟩
    · show ((e.σ ++ [Value.slice (some ⟨g, 0, none⟩) len cap]).getD m undef).ownBlock ≠ _
      rw [hold m hm']
      exact h.brs n m b c hb (h0 m c hc'' hlc).1 hlb hlc
    · show ((e.σ ++ [Value.slice (some ⟨g, 0, none⟩) len cap]).getD s.rows.length undef).ownBlock ≠ _
      rw [hnew]
      simp only [Value.ownBlock, ne_eq, Option.some.injEq]
      intro heq
      rcases hat with hat | hat
      · exact (hrow g hat).2.2 n b hb hlb heq.symm
      · have := heap_lt (h.blk n b hb hlb)
        omega
  · intro n hn
    rcases Nat.lt_or_ge n e.σ.length with h1 | h1
    · show ∃ a l c, (e.σ ++ [Value.slice (some ⟨g, 0, none⟩) len cap]).getD n undef = _
      rw [getD_app_lt _ _ _ _ h1]
      exact h.sl n h1
    · have : n = s.rows.length := by
        have : n < (e.σ ++ [Value.slice (some ⟨g, 0, none⟩) len cap]).length := hn
        simp at this
        rw [← h.ng]
        omega
      subst this
      exact ⟨_, _, _, hnew⟩

theorem elemsOf_spec {e : Env} {W0 : World} {s : St} {w : World} (h : Rep e W0 s w) (hs : s.scp = true) {size : Nat} {v : SV} {m : Nat} {new : List SC} (he : elemsOf s size v = some (m, new)) :
    ∃ ad cap, v.den e = .slice (some ad) m cap ∧ new.length = m * size ∧ (∀ j u, (new.map (SC.den e))[j]? = some u → w.cell? (ad.add j) = some u) ∧ new.all (SC.scp s.mem.length s.rows.length) = true := by
  unfold elemsOf at he
  split at he
  · rename_i n off len cap
    split at he
    · rename_i b hb
      split at he
      · rename_i hc
        simp only [Bool.and_eq_true, decide_eq_true_eq] at hc
        simp only [Option.some.injEq, Prod.mk.injEq] at he
        obtain ⟨rfl, rfl⟩ := he
        refine ⟨⟨e.β.getD n 0, off, none⟩, cap, rfl, by simp; omega, ?_, ?_⟩
        · intro j u hj
          rw [List.getElem?_map, getElem?_drop_take] at hj
          split at hj
          · rename_i hjn
            have hlt : off + j < b.cells.length := by omega
            rw [Addr.add_lit, blk_cell h hb hc.1 (off + j) hlt]
            simp [hlt] at hj
            simp [List.getD, hlt, hj]
          · simp at hj
        · refine List.all_eq_true.2 fun c hc' => ?_
          exact List.all_eq_true.1 ((St.scp_spec hs).2.1 b (List.mem_of_getElem? hb)) c (List.mem_of_mem_drop (List.mem_of_mem_take hc'))
      · cases he
    · cases he
  · cases he

theorem appT_sound {s : St} {a : Act} {w : World} {W0 : World} {e : Env} {o : Oper} {c : Call} {k : St → T} {Q : Exit → Act → World → Prop} (h : Rel e W0 s a w) (ho : o.op = .call c) (hcal : c.callee = .builtin .append)
    (hs : (appT P o c s k).sat Γ e.R Ψ bs e.r) : o.wp P a w (Nx Γ Ψ bs W0 e s.fl s.flr k) Q := by
  unfold appT at hs
  split at hs
  · rename_i ax x t t' hargs htys
    split at hs
    · exact hs.elim
    · rename_i htt
      simp only [ne_eq, Decidable.not_not] at htt
      subst htt
      have hc : c = { callee := .builtin .append, args := #[ax, x], argTypes := #[t, t] } := by
        cases c
        simp only at hcal hargs htys
        subst hcal
        congr 1
        · apply Array.ext'; simpa using hargs
        · apply Array.ext'; simpa using htys
      subst hc
      split at hs
      · rename_i elem hu
        split at hs
        · rename_i inf hinf
          split at hs
          · rename_i z hz
            split at hs
            · exact hs.elim
            · rename_i hsz
              simp only [ne_eq, Bool.or_eq_true, decide_eq_true_eq, not_or, Decidable.not_not] at hsz
              split at hs
              · rename_i m new hel
                split at hs
                · exact hs.elim
                · rename_i hcond
                  simp only [Bool.or_eq_true, decide_eq_true_eq, Bool.not_eq_true', not_or, Bool.not_eq_false] at hcond
                  obtain ⟨⟨hm0, hone⟩, hscp⟩ := hcond
                  obtain ⟨ad, capx, hvx, hnl, hcells, hnscp⟩ := elemsOf_spec h.rep hscp hel
                  have hx : a.eval x = .slice (some ad) m capx := (h.eval x).trans hvx
                  have h1 : ∀ u ∈ new.map (SC.den e), u.oneCell' = true := fun u hu => by
                    obtain ⟨cc, hcc, rfl⟩ := List.mem_map.1 hu
                    exact SC.den_one' h.rep (List.all_eq_true.1 hone cc hcc) (List.all_eq_true.1 hnscp cc hcc)
                  split at hs
                  · rename_i hev
                    split at hs
                    · rename_i hb
                      simp only [Bool.and_eq_true, decide_eq_true_eq] at hb
                      have ha : a.eval ax = .slice none 0 0 := by rw [h.eval ax, hev]; rfl
                      refine wp_append_lies w ax x t ho W0.heap.size elem inf z inf.size inf.bytes hu hinf hz rfl rfl hsz.2 (by omega) (.slice none 0 0) 0 [] ha (World.ownsRow_nil _ _ _ _) ad m capx (new.map (SC.den e)) hx (by simpa using hnl) hcells h1 (by omega) (by unfold maxLen; omega) (by simpa using hb.1) h.rep.below.size _ rfl ?_
                      intro g cap w' hown hgrow hat _
                      have hat' : (none : Option Nat) = some g ∨ g = w.heap.size := hat
                      obtain ⟨hrep, hlike⟩ := h.rep.append hscp hnscp (row := none) (rows0 := s.rows) rfl (fun j b hb hl => ⟨hb, fun k hk => by cases hk⟩) (fun k hk => by cases hk) hgrow (by simpa using hown) hat'
                      have hrel : Rel _ W0 _ a w' := ⟨hrep, by rw [h.tmps]; congr 1; exact List.map_congr_left fun y hy => (SV.den_like hlike y ((St.scp_spec hscp).1 y hy)).symm, h.defs⟩
                      have hv : (one (.g s.rows.length m)).den { e with σ := e.σ ++ [Value.slice (some ⟨g, 0, none⟩) (0 + m) cap] } = .slice (some ⟨g, 0, none⟩) (0 + m) cap := by
                        simp [one, SV.den, SW.den, SC.den, List.getD, ← h.rep.ng]
                      rw [← hv]
                      simp only [Nat.zero_add] at hrel ⊢
                      exact ⟨_, _, ⟨[], [], [Value.slice (some ⟨g, 0, none⟩) m cap], [], by simp⟩, hrel.put o.dst _, (put_fields _ _ _).2.2.2.2.1, (put_fields _ _ _).2.2.2.2.2, hs⟩
                    · exact hs.elim
                  · rename_i n len hev
                    split at hs
                    · rename_i b hb
                      split at hs
                      · rename_i hcc
                        simp only [Bool.and_eq_true, decide_eq_true_eq] at hcc
                        obtain ⟨⟨⟨⟨⟨⟨hl, hfl⟩, hlen⟩, hty⟩, hsize⟩, hby⟩, hmx⟩ := hcc
                        have ha : a.eval ax = e.σ.getD n undef := by rw [h.eval ax, hev]; rfl
                        have hrow := h.rep.row n b hb hl
                        rw [hty, hsize, hlen] at hrow
                        have hrow' : w.ownsRow W0.heap.size elem inf.size (e.σ.getD n undef) len (b.cells.map (SC.den e)) := by
                          refine ⟨hrow.1, ?_⟩
                          rcases hrow.2 with h2 | ⟨g', cap', cur, h3, _, h4⟩
                          · exact .inl h2
                          · exact .inr ⟨g', cap', cur, h3, h.rep.rown n b hb hl hfl g' (by rw [h3]; rfl), h4⟩
                        refine wp_append_lies w ax x t ho W0.heap.size elem inf z inf.size inf.bytes hu hinf hz rfl rfl hsz.2 (by omega) _ len _ ha hrow' ad m capx (new.map (SC.den e)) hx (by simpa using hnl) hcells h1 (by omega) (by unfold maxLen; omega) hby h.rep.below.size _ rfl ?_
                        intro g cap w' hown hgrow hat _
                        have hbs : b.cells.all (SC.scp s.mem.length s.rows.length) = true := (St.scp_spec hscp).2.2 b (List.mem_of_getElem? hb)
                        obtain ⟨hrep, hlike⟩ := h.rep.append hscp (cells := b.cells ++ new) (by rw [List.all_append, hbs, hnscp]; rfl) (rows0 := s.rows.set n { b with live := false }) (by simp) (fun j bb hbb hll => by
                          rcases mem_set_cases hbb with ⟨rfl, rfl, _⟩ | ⟨hne, hbb'⟩
                          · cases hll
                          · exact ⟨hbb', fun k hk hk' => hne (h.rep.rsep j n bb b k hbb' hb hll hl hk' hk)⟩) (fun k hk => ⟨h.rep.rown n b hb hl hfl k hk, ownsRow_block_lt (h.rep.row n b hb hl) hk, fun j bb hbb hll heq => h.rep.brs j n bb b hbb hb hll hl (by rw [hk, heq])⟩) hgrow (by rw [List.map_append]; exact hown) hat
                        have hrel : Rel _ W0 _ a w' := ⟨hrep, by rw [h.tmps]; congr 1; exact List.map_congr_left fun y hy => (SV.den_like hlike y ((St.scp_spec hscp).1 y hy)).symm, h.defs⟩
                        have hv : (one (.g s.rows.length (len + m))).den { e with σ := e.σ ++ [Value.slice (some ⟨g, 0, none⟩) (len + m) cap] } = .slice (some ⟨g, 0, none⟩) (len + m) cap := by
                          simp [one, SV.den, SW.den, SC.den, List.getD, ← h.rep.ng]
                        rw [← hv]
                        exact ⟨_, _, ⟨[], [], [Value.slice (some ⟨g, 0, none⟩) (len + m) cap], [], by simp⟩, hrel.put o.dst _, (put_fields _ _ _).2.2.2.2.1, (put_fields _ _ _).2.2.2.2.2, hs⟩
                      · exact hs.elim
                    · exact hs.elim
                  · exact hs.elim
              · exact hs.elim
          · exact hs.elim
        · exact hs.elim
      · exact hs.elim
  · exact hs.elim

theorem Env.le.trans {a b c : Env} (h : Env.le a b) (h' : Env.le b c) : Env.le a c := Env.le_trans h h'

/-- An operation. -/
theorem opT_sound (hG : Gok P Γ) {ih : Code → St → Kont → T} (hih : IH P Γ ih) {s : St} {a : Act} {w : World} {W0 : World} {e : Env} {o : Oper} {k : St → T} {Q : Exit → Act → World → Prop} (h : Rel e W0 s a w)
    (hs : (opT P Γ ih o s k).sat Γ e.R Ψ bs e.r) : o.wp P a w (Nx Γ Ψ bs W0 e s.fl s.flr k) Q := by
  have h1 : ∀ {as : List B} {v : SV} {s' : St}, op1 P s o = some (as, v, s') → (asrts as (k (s'.put o.dst v))).sat Γ e.R Ψ bs e.r → o.wp P a w (Nx Γ Ψ bs W0 e s.fl s.flr k) Q := by
    intro as v s' h1 hs
    obtain ⟨has, hs'⟩ := asrts_sat hs
    exact opOut_wp h (op1_sound h1 h.rep (fun x _ => h.eval x) has) hs'
  unfold opT at hs
  split at hs
  · rename_i c ho
    unfold callT at hs
    split at hs
    · rename_i F hcal
      split at hs
      · rename_i fn caps hF
        dsimp only at hs
        split at hs
        · exact hs.elim
        · rename_i hcond
          simp only [Bool.or_eq_true, Bool.not_eq_true', not_or, Bool.not_eq_false] at hcond
          obtain ⟨hsc, hcl⟩ := hcond
          have hevF : a.eval F = .func (.func fn) #[] ((caps.map fun p => one (.p p.1 p.2)).map (SV.den e)).toArray := by
            rw [h.eval F, hF]
            simp [SV.den, SW.den, SC.den, one, Function.comp_def]
          have hrun := run_enter hcl ho hcal hevF w
          have hargs : c.args.map a.eval ++ ((caps.map fun p => one (.p p.1 p.2)).map (SV.den e)).toArray = ((c.args.toList.map s.ev ++ caps.map fun p => one (.p p.1 p.2)).map (SV.den e)).toArray := by
            apply Array.ext'
            simp only [Array.toList_append, Array.toList_map, List.map_append, List.map_map]
            congr 1
            exact List.map_congr_left fun x _ => h.eval x
          rw [hargs] at hrun
          have fin : ∀ {R : Ending → World → Prop}, Calls P fn ((c.args.toList.map s.ev ++ caps.map fun p => one (.p p.1 p.2)).map (SV.den e)).toArray w (fun x w' => ∃ v, x = .returned v ∧ Nx Γ Ψ bs W0 e s.fl s.flr k (a.put o.dst v) w') → o.wp P a w (Nx Γ Ψ bs W0 e s.fl s.flr k) Q := by
            intro _ hcalls
            unfold Oper.wp
            rw [hrun]
            simp only [Oper.upon_enter]
            refine hcalls.mono ?_
            rintro x w' ⟨v, rfl, hn⟩
            exact hn
          split at hs
          · rename_i g sum hfs
            obtain ⟨hfn, j, rfl, hg⟩ := findSum_spec hfs
            simp only [Nat.zero_add] at hs
            split at hs
            · exact hs.elim
            · rename_i hgl
              simp only [Bool.not_eq_true', Bool.not_eq_false] at hgl
              split at hs
              · rename_i es hfl
                subst hfn
                exact fin (R := fun _ _ => True) (callW_sum hG h hsc hg hgl hfl hs)
              · exact hs.elim
          · split at hs
            · rename_i Fn hFn
              split at hs
              · rename_i body hb
                exact fin (R := fun _ _ => True) (callW_in hih h hsc hFn hb hs)
              · exact hs.elim
            · exact hs.elim
      · exact hs.elim
    · rename_i hcal
      exact appT_sound h ho hcal hs
    · rename_i b _ hcal
      split at hs
      · rename_i as v s' h1'
        exact h1 h1' hs
      · exact hs.elim
    · exact hs.elim
  · split at hs
    · rename_i as v s' h1'
      exact h1 h1' hs
    · exact hs.elim

theorem Oper.wp_mono' {o : Oper} {a : Act} {w : World} {K K' : Act → World → Prop} {Q : Exit → Act → World → Prop} (hh : o.wp P a w K Q) (h : ∀ a w, K a w → K' a w) : o.wp P a w K' Q := Oper.wp_mono h hh

theorem sat_fr {s : St} {x : List SV} : ({ s with fr := x } : St).fl = s.fl ∧ ({ s with fr := x } : St).flr = s.flr := ⟨rfl, rfl⟩

/-- Operations in sequence. -/
theorem execOps_sound (hG : Gok P Γ) {ih : Code → St → Kont → T} (hih : IH P Γ ih) {W0 : World} {ops : Array Oper} {Q : Exit → Act → World → Prop} : ∀ (l : List Oper) (s : St) (k : St → T) (e : Env) (a : Act) (w : World), Rel e W0 s a w →
    (execOps P Γ ih ops l s k).sat Γ e.R Ψ bs e.r → (∀ a' w', Nx Γ Ψ bs W0 e s.fl s.flr k a' w' → Q .normal a' w') → wpList P ops Q l a w
  | [], s, k, e, a, w, h, hs, hQ => hQ a w ⟨s, e, Env.le_refl _, h, rfl, rfl, hs⟩
  | o :: l, s, k, e, a, w, h, hs, hQ => by
    simp only [execOps] at hs
    obtain ⟨x, h1, hs1⟩ := forkO_sat h hs
    have next : ∀ (s3 : St) (e3 : Env) (a3 : Act) (w3 : World), Env.le e e3 → Rel e3 W0 s3 a3 w3 → s3.fl = s.fl → s3.flr = s.flr → (execOps P Γ ih ops l s3 k).sat Γ e3.R Ψ bs e3.r → wpList P ops Q l a3 w3 := by
      intro s3 e3 a3 w3 hle h3 hf hfr hs3
      refine execOps_sound hG hih l s3 k e3 a3 w3 h3 hs3 ?_
      rintro a' w' ⟨s', e', hle', hrel', hf', hfr', hsat'⟩
      exact hQ a' w' ⟨s', e', hle.trans hle', hrel', hf'.trans hf, hfr'.trans hfr, hsat'⟩
    unfold wpList
    split at hs1
    · rename_i hw
      rw [if_pos (wantedS_spec h1 hw)]
      left
      obtain ⟨y, h2, hs2⟩ := forkO_sat h1 hs1
      refine Oper.wp_mono' (opT_sound hG hih h2 hs2) ?_
      rintro a3 w3 ⟨s3, e3, hle, hrel, hf, hfr, hsat⟩
      exact next s3 e3 a3 w3 hle hrel hf hfr hsat
    · rename_i hw
      rw [if_neg (by rw [wantedS_spec h1 hw]; simp)]
      have hput := h1.put o.dst undefS
      exact next _ e _ w (Env.le_refl _) hput (put_fields _ _ _).2.2.2.2.1 (put_fields _ _ _).2.2.2.2.2 hs1
    · exact hs1.elim

end Go.Sx
