/-
  Symbolic execution: THE SOUNDNESS THEOREM, and a function's contract by its tree.
-/
import Derived.Test.YtjbkcjbjllmhfaaDoorSyT
import Derived.Test.YtjbkcjbjllmhfaaDoorSyW
namespace Go.Sx
open Go.RowKit

section
variable {P : Program} {Γ : List Sum} {Ψ : List Int → Prop} {bs : List (List Int → Prop)}

theorem tailLen_le (ms : List Nat) : ∀ (l : List Oper) (i : Nat), tailLen ms i l ≤ l.length
  | [], _ => by simp [tailLen]
  | _ :: l, i => by
    have := tailLen_le ms l (i + 1)
    simp only [tailLen, List.length_cons]
    split <;> omega

theorem earlyLen_le : ∀ (l : List Oper), earlyLen l ≤ l.length
  | [] => by simp [earlyLen]
  | o :: l => by
    have := earlyLen_le l
    simp only [earlyLen, List.length_cons]
    split <;> omega

theorem liveAt_spec {s : St} {n : Nat} (h : liveAt s n = true) : ∃ b, s.mem[n]? = some b ∧ b.live = true := by
  unfold liveAt at h
  split at h
  · rename_i b hb
    exact ⟨b, hb, h⟩
  · cases h

theorem execDraw_sound (hm : P.follows .mixedOrders = true) (hG : Gok P Γ) {ih : Code → St → Kont → T} (hih : IH P Γ ih) {id : Nat} {ops : Array Oper} {s : St} {k : St → T} {W0 : World} {e : Env} {a : Act} {w : World} {Q : Exit → Act → World → Prop}
    (h : Rel e W0 s a w) (hs : (execDraw P Γ ih ops s k).sat Γ e.R Ψ bs e.r) (hQ : ∀ a' w', Nx Γ Ψ bs W0 e s.fl s.flr k a' w' → Q .normal a' w') : (Code.region id ops true).wp P Q a w := by
  unfold execDraw at hs
  dsimp only at hs
  split at hs
  · rename_i hc
    simp only [Bool.and_eq_true] at hc
    obtain ⟨⟨hok, hsc⟩, hdst⟩ := hc
    generalize hN : ops.size - tailLen (masks ops) 0 ops.toList = N at hs hok
    have hNs : N ≤ ops.size := by omega
    generalize hN1 : earlyLen (ops.toList.take N) = N1 at hs
    have hN1N : N1 ≤ N := by
      have := earlyLen_le (ops.toList.take N)
      simp only [List.length_take] at this
      omega
    generalize hXe : lateOld ops s N1 ((ops.toList.take N).drop N1) = X at hs
    split at hs
    · rename_i hc2
      simp only [Bool.and_eq_true] at hc2
      obtain ⟨hXall, hch⟩ := hc2
      have hXl : ∀ n ∈ X, s.fl ≤ n ∧ ∃ b, s.mem[n]? = some b ∧ b.live = true := by
        intro n hn
        have := List.all_eq_true.1 hXall n hn
        simp only [Bool.and_eq_true, decide_eq_true_eq] at this
        exact ⟨this.1, liveAt_spec this.2⟩
      unfold drawOK at hok
      simp only [Bool.and_eq_true] at hok
      obtain ⟨_, hok⟩ := hok
      have hrow : ∀ j oj, ops[j]? = some oj → ((bindsOn oj).all (fun i => decide (i < j)) &&
        (if j < N then (List.range j).all (fun i => match ops[i]? with
          | none => false
          | some oi => (oi.dst.isNone || oi.dst != oj.dst) && (behind (masks ops) j i || oi.apart ops oj))
        else forced (masks ops) j)) = true := by
        intro j oj hoj
        have hlt := (Array.getElem?_eq_some_iff.1 hoj).1
        have := List.all_eq_true.1 hok j (by simpa using hlt)
        rw [hoj] at this
        exact this
      have hdeps : ∀ j oj, ops[j]? = some oj → ∀ e ∈ oj.after, Region.binds .any e = true → e.on < j := by
        intro j oj hoj e he hb
        have := hrow j oj hoj
        simp only [Bool.and_eq_true] at this
        have h1 := List.all_eq_true.1 this.1 e.on (List.mem_map.2 ⟨e, List.mem_filter.2 ⟨by simpa using he, hb⟩, rfl⟩)
        simpa using h1
      have hforced : ∀ j oj, N ≤ j → ops[j]? = some oj → ∀ i, i < j → Comes ops j i := by
        intro j oj hj hoj i hi
        have := hrow j oj hoj
        simp only [Bool.and_eq_true] at this
        rw [if_neg (by omega)] at this
        have h1 := List.all_eq_true.1 this.2 i (by simpa using hi)
        exact masks_reach h1
      have hpair : ∀ i j oi oj, i < j → j < N → ops[i]? = some oi → ops[j]? = some oj → (oi.dst = none ∨ oi.dst ≠ oj.dst) ∧ (Comes ops j i ∨ oi.apart ops oj = true) := by
        intro i j oi oj hij hj hoi hoj
        have := hrow j oj hoj
        simp only [Bool.and_eq_true] at this
        rw [if_pos hj] at this
        have h1 := List.all_eq_true.1 this.2 i (by simpa using hij)
        rw [hoi] at h1
        simp only [Bool.and_eq_true, Bool.or_eq_true] at h1
        refine ⟨?_, ?_⟩
        · rcases h1.1 with h2 | h2
          · exact .inl (by simpa using h2)
          · exact .inr (by simpa using h2)
        · rcases h1.2 with h2 | h2
          · exact .inl (masks_reach h2)
          · exact .inr h2
      have hchain : ∀ i j, N1 ≤ j → j < i → i < N → Comes ops i j := by
        intro i j hj hji hi
        have := List.all_eq_true.1 hch i (by simpa using hi)
        simp only [Bool.or_eq_true, decide_eq_true_eq] at this
        rcases this with h1 | h1
        · omega
        · have h2 := List.all_eq_true.1 h1 j (by simpa using hji)
          simp only [Bool.or_eq_true, decide_eq_true_eq] at h2
          rcases h2 with h2 | h2
          · omega
          · exact masks_reach h2
      have hdl : ∀ i o d, i < N → ops[i]? = some o → o.dst = some d → d < s.fr.length := by
        intro i o d _ ho hd
        have := Array.all_eq_true_iff_forall_mem.1 hdst o (Array.mem_of_getElem? ho)
        rw [hd] at this
        simpa using this
      have hu : ∀ i j t, j < i → i < N → (ops[j]?).bind (·.dst) = some t → (ops[i]?).bind (·.dst) ≠ some t := by
        intro i j t hji hi h1 h2
        have hil : i < ops.size := by omega
        have hjl : j < ops.size := by omega
        have hoi : ops[i]? = some ops[i] := Array.getElem?_eq_getElem hil
        have hoj : ops[j]? = some ops[j] := Array.getElem?_eq_getElem hjl
        rw [hoj] at h1
        rw [hoi] at h2
        simp only [Option.bind_some] at h1 h2
        rcases (hpair j i _ _ hji hi hoj hoi).1 with h3 | h3
        · rw [h3] at h1; cases h1
        · exact h3 (h1.trans h2.symm)
      have huniq : ∀ i j t, i < N → j < N → (ops[i]?).bind (·.dst) = some t → (ops[j]?).bind (·.dst) = some t → i = j := by
        intro i j t hi hj h1 h2
        rcases Nat.lt_trichotomy i j with h3 | h3 | h3
        · exact absurd h2 (hu j i t h3 hj h1)
        · exact h3
        · exact absurd h1 (hu i j t h3 hi h2)
      have hscp := St.scp_of_sc hsc
      obtain ⟨hscf, hscm, hscr⟩ := St.scp_spec hscp
      have hdrew : Below w.heap.size w { w with drawn := w.drawn + 1 } := (Below.refl _ _).drew
      have hB : Rep e W0 s { w with drawn := w.drawn + 1 } := h.rep.grown hdrew
      generalize hs0 : ({ s with mem := killB X 0 s.mem } : St) = s0 at hs
      have hkl : s0.mem.length = s.mem.length := by rw [← hs0]; exact killB_length X s.mem 0
      have hkr : s0.rows = s.rows := by rw [← hs0]
      have hkf : s0.fr = s.fr := by rw [← hs0]
      have h0 : Rep e W0 s0 { w with drawn := w.drawn + 1 } := by rw [← hs0]; exact hB.kill X
      have hkm : ∀ (n : Nat) (b : Blk), s.mem[n]? = some b → ∃ b' : Blk, s0.mem[n]? = some b' ∧ b'.cells = b.cells := by
        intro n b hb
        rw [← hs0]
        simp only [killB_get, hb, Option.map_some, Option.some.injEq, exists_eq_left']
        split <;> rfl
      have hXok : XOK e W0 s0 (fun k => ∃ n, n ∈ X ∧ k = e.β.getD n 0) := by
        refine ⟨?_, ?_, ?_⟩
        · rintro n b hb hl ⟨m, hm, heq⟩
          rw [← hs0] at hb
          obtain ⟨b', h1, _, _, h4⟩ := killB_some hb
          obtain ⟨h5, h6, rfl⟩ := h4 hl
          obtain ⟨_, c, hc, hlc⟩ := hXl m hm
          have := hB.sep n m b c h1 hc h5 hlc heq
          subst this
          exact h6 hm
        · rintro n b k hb hl hk ⟨m, hm, rfl⟩
          rw [hkr] at hb
          obtain ⟨_, c, hc, hlc⟩ := hXl m hm
          exact hB.brs m n c b hc hb hlc hl hk
        · rintro k ⟨m, hm, rfl⟩
          obtain ⟨h1, c, hc, hlc⟩ := hXl m hm
          exact hB.own m c hc hlc h1
      have hlex0 : Lex s0 e a.tmps ops 0 (fun _ => ⟨fun _ => undef, none⟩) s0 e.r [] := by
        refine ⟨⟨[], by simp⟩, h0.nv.symm, rfl, rfl, rfl, rfl, rfl, ⟨[], by simp, rfl⟩, rfl, fun _ _ => rfl, fun _ _ => rfl, ?_, ?_, ?_, ?_, List.nodup_nil⟩
        · intro t _
          show some (a.tmps.getD t undef) = _
          rw [tmps_getD h t, hkf]
          rfl
        · intro t ht
          rw [hkf, hkl, hkr] at ht
          by_cases htl : t < s.fr.length
          · have := hscf s.fr[t] (List.getElem_mem htl)
            rw [show s.fr.getD t undefS = s.fr[t] by simp [List.getD, htl]] at ht
            rw [this] at ht; cases ht
          · rw [show s.fr.getD t undefS = undefS by simp [List.getD, List.getElem?_eq_none (Nat.le_of_not_lt htl)]] at ht
            simp [undefS, SV.scp] at ht
        · intro j i' hj
          simp at hj
        · intro i' hi'
          omega
      have htw : Twins s s0 := ⟨hkl.symm, hkr.symm, hkf.symm, by rw [← hs0], by rw [← hs0], by rw [← hs0], by rw [← hs0], fun b hb => by
        obtain ⟨n, hn⟩ := List.getElem?_of_mem hb
        obtain ⟨b', h1, h2⟩ := hkm n b hn
        exact ⟨b', List.mem_of_getElem? h1, h2.symm⟩⟩
      have htw' : Twins s0 s := htw.symm' (fun b hb => by
        obtain ⟨n, hn⟩ := List.getElem?_of_mem hb
        rw [← hs0] at hn
        obtain ⟨b', h1, _, h3, _⟩ := killB_some hn
        exact ⟨b', List.mem_of_getElem? h1, h3⟩)
      obtain ⟨ents, sN, rN, al, hlex, hpre, hsat⟩ := execPre_sound hG hih h0 hXok (sf := s) (sg := strictAt (masks ops) N1 N) hB htw htw' (N := N1) (fun i j t hji hi => hu i j t hji (by omega)) (fun i o d hi => by rw [hkf]; exact hdl i o d (by omega)) (ops.toList.take N1) 0 (fun j hj => by
          simp only [List.length_take, Array.length_toList] at hj
          rw [List.getElem?_take, if_pos (by omega)]
          simp) (by simp [Nat.min_eq_left (Nat.le_trans hN1N hNs)]) _ s0 e.r [] _ hlex0 (fun i' hi' => by omega) hs
      split at hsat
      · rename_i s3 hs3
        have hval : ∀ i, i < N1 → (ents i).obj = none → ∀ n, (ents i).val n = (ents i).val 0 := by
          intro i hi hob
          obtain ⟨_, _, h2, _⟩ := hpre i hi
          exact h2 hob
        have ha0 : a.tmps.size = s0.fr.length := by rw [h.tmps, hkf]; simp
        rw [← hkl, ← hkr] at hs3
        obtain ⟨st, hst0, hstE, hstS⟩ := lateS_states hs3
        have hll : ((ops.toList.take N).drop N1).length = N - N1 := by simp [Nat.min_eq_left hNs]
        have hlget : ∀ c, ((ops.toList.take N).drop N1)[c]? = if N1 + c < N then ops[N1 + c]? else none := by
          intro c
          rw [List.getElem?_drop, List.getElem?_take]
          split <;> simp
        have hstep1 : ∀ c o, N1 + c < N → ops[N1 + c]? = some o → lateS1 P X s0.mem.length s0.rows.length o (st c) = some (st (c + 1)) := by
          intro c o hc ho
          exact hstS c o (by rw [hlget, if_pos hc]; exact ho)
        have hsame : ∀ c, c ≤ N - N1 → st c = { sN with mem := (st c).mem } ∧ (st c).mem.length = sN.mem.length := by
          intro c hc
          obtain ⟨h1, h2⟩ := late_same hstS c (by rw [hll]; exact hc)
          obtain ⟨news, hmem, hnl⟩ := hlex.mem
          refine ⟨?_, ?_⟩
          · rw [h1, hst0]
          · rw [h2, hst0]
            simp only [List.length_append, List.length_drop, hmem]
            omega
        obtain ⟨news, hmem, hnl⟩ := hlex.mem
        have hst0m : ∀ n, (st 0).mem[n]? = if n < s0.mem.length then s.mem[n]? else sN.mem[n]? := by
          intro n
          rw [hst0]
          simp only [hkl]
          split
          · rename_i hn
            rw [List.getElem?_append_left hn]
          · rename_i hn
            rw [List.getElem?_append_right (by omega), List.getElem?_drop]
            congr 1
            omega
        have hcell : ∀ (n : Nat) (b : Blk), s.mem[n]? = some b → b.cells.map (SC.den (e.at rN)) = b.cells.map (SC.den e) := by
          intro n b hb
          obtain ⟨b', h1, h2⟩ := hkm n b hb
          have := hlex.memd b' (List.mem_of_getElem? h1)
          rwa [h2] at this
        have hscp0 : ∀ (n : Nat) (b : Blk), (st 0).mem[n]? = some b → b.cells.all (SC.scp s0.mem.length s0.rows.length) = true := by
          intro n b hb
          rw [hst0m] at hb
          split at hb
          · rw [hkl, hkr]
            exact hscm b (List.mem_of_getElem? hb)
          · rename_i hn
            have hlt := (List.getElem?_eq_some_iff.1 hb).1
            have hml : sN.mem.length = s0.mem.length + al.length := by rw [hmem]; simp [hnl]
            obtain ⟨_, b', h2, _, h4, _⟩ := hlex.alOK (n - s0.mem.length) (al[n - s0.mem.length]'(by omega)) (List.getElem?_eq_getElem (by omega))
            rw [show s0.mem.length + (n - s0.mem.length) = n by omega, hb] at h2
            simp only [Option.some.injEq] at h2
            subst h2
            exact h4
        have hXlt : ∀ n ∈ X, n < s0.mem.length := by
          intro n hn
          obtain ⟨_, b, hb, _⟩ := hXl n hn
          rw [hkl]
          exact (List.getElem?_eq_some_iff.1 hb).1
        have hLt : ∀ c, N1 + c < N → ∃ o t ta x n off y b, ops[N1 + c]? = some o ∧ Lt P X s0.mem.length s0.rows.length o (st c) (st (c + 1)) t ta x n off y b ∧ sN.fr.getD ta undefS = .w (.o (.p n off)) ∧ (lateD ops s0.mem.length (e.at rN) al sN (fun n => n ∈ X) st).tgt (N1 + c) = n := by
          intro c hc
          have hil : N1 + c < ops.size := by omega
          have hoi : ops[N1 + c]? = some ops[N1 + c] := Array.getElem?_eq_getElem hil
          obtain ⟨t, ta, x, n, off, y, b, hl⟩ := lateS1_spec (hstep1 c _ hc hoi)
          have hslot : sN.fr.getD ta undefS = .w (.o (.p n off)) := by
            have := hl.slot
            rw [(hsame c (by omega)).1] at this
            exact this
          refine ⟨_, t, ta, x, n, off, y, b, hoi, hl, hslot, ?_⟩
          unfold lateD
          simp only [hoi]
          unfold tgtOf
          rw [hl.op]
          simp only [hslot]
        have hnwS : ∀ n i, (lateD ops s0.mem.length (e.at rN) al sN (fun n => n ∈ X) st).nw n = some i → s0.mem.length ≤ n ∧ al[n - s0.mem.length]? = some i := by
          intro n i hn
          have hn' : (if n < s0.mem.length then none else al[n - s0.mem.length]?) = some i := hn
          split at hn'
          · cases hn'
          · exact ⟨by omega, hn'⟩
        have hXcont : ∀ n, n ∈ X → w.heap[e.β.getD n 0]? = some (contOf (e.at rN) st n 0) := by
          intro n hn'
          obtain ⟨_, b, hb, hl⟩ := hXl n hn'
          unfold contOf
          rw [hst0m, if_pos (hXlt n hn'), hb]
          simp only
          rw [hcell n b hb]
          exact hB.blk n b hb hl
        refine wp_region_any hm ?_
        refine any_all (a0 := a.tmps) (w1 := w.heap.size) (C := fun w' => Cls { w with drawn := w.drawn + 1 } (fun k => ∃ n, n ∈ X ∧ k = e.β.getD n 0) w') (CI := fun i w' => Cls { w with drawn := w.drawn + 1 } (fun k => strictAt (masks ops) N1 N i = false ∧ ∃ n, n ∈ X ∧ k = e.β.getD n 0) w') (S := strictAt (masks ops) N1 N) (D := lateD ops s0.mem.length (e.at rN) al sN (fun n => n ∈ X) st) hNs hN1N hforced hdeps hpair (fun i o d hi ho hd => by rw [ha0, hkf]; exact hdl i o d hi ho hd) (fun i w' hw' => ⟨hw'.os, hw'.tape, hw'.output, hw'.size, fun k hk hx => hw'.block k hk (fun h => hx h.2)⟩) ?_ ?_ hpre ?_ hchain (fun w' hw' => hw'.size) ?_ ?_ ?_ ?_ ?_ ?_ ?_ ?_ ops.size _ a _ (fun _ => 0) 0 (by simp) (fun i _ => by simp [Array.getD]) (by omega) (fun i h1 _ => by simp [Array.getD]; omega) ?_ (Cls.refl _ _) h.defs rfl ?_ ?_ ?_ ?_ ?_ ?_
        · intro i w' hw' hS
          refine ⟨hw'.os, hw'.tape, hw'.output, hw'.size, fun k hk hx => ?_⟩
          by_cases hkx : ∃ n, n ∈ X ∧ k = e.β.getD n 0
          · have hSi : strictAt (masks ops) N1 N i = true := by
              cases hh : strictAt (masks ops) N1 N i with
              | true => rfl
              | false => exact absurd ⟨hh, hkx⟩ hx
            obtain ⟨n, hn, rfl⟩ := hkx
            rw [hXcont n hn]
            exact hS hSi n hn
          · exact hw'.block k hk hkx
        · intro i hi k h1 h2
          have := List.all_eq_true.1 hi k (by simpa using h2)
          simp only [Bool.or_eq_true, decide_eq_true_eq] at this
          rcases this with h3 | h3
          · omega
          · exact masks_reach h3
        · intro i h1 h2
          obtain ⟨c, rfl⟩ : ∃ c, i = N1 + c := ⟨i - N1, by omega⟩
          have hil : N1 + c < ops.size := by omega
          have hoi : ops[N1 + c]? = some ops[N1 + c] := Array.getElem?_eq_getElem hil
          exact lateOK_of (Xa := fun n => n ∈ X) hlex h0 hval huniq hN1N hoi (hsame c (by omega)).1 (hstep1 c _ h2 hoi)
        · intro w1 w2 g ob hw1 hsb hg
          exact hw1.but hsb hg
        · intro n i hn
          obtain ⟨h1, h2⟩ := hnwS n i hn
          obtain ⟨h3, b, h4, _, _, h5, _⟩ := hlex.alOK _ i h2
          refine ⟨h3, ?_⟩
          rw [h5]
          show _ = some (contOf (e.at rN) st n 0)
          unfold contOf
          rw [hst0m, if_neg (by omega)]
          rw [show s0.mem.length + (n - s0.mem.length) = n by omega] at h4
          rw [h4]
        · intro n n' i hn hn'
          obtain ⟨h1, h2⟩ := hnwS n i hn
          obtain ⟨h3, h4⟩ := hnwS n' i hn'
          have hl1 := (List.getElem?_eq_some_iff.1 h2).1
          have := (List.getElem?_inj hl1 hlex.alND).1 (h2.trans h4.symm)
          omega
        · intro n hn
          have hn' : n ∈ X := hn
          obtain ⟨_, b, hb, hl⟩ := hXl n hn'
          exact ⟨if_pos (hXlt n hn'), heap_lt (hB.blk n b hb hl)⟩
        · intro n n' hn hn' heq
          obtain ⟨_, b, hb, hl⟩ := hXl n hn
          obtain ⟨_, b', hb', hl'⟩ := hXl n' hn'
          exact hB.sep n n' b b' hb hb' hl hl' heq
        · intro k h1 h2
          obtain ⟨c, rfl⟩ : ∃ c, k = N1 + c := ⟨k - N1, by omega⟩
          obtain ⟨o, t, ta, x, n, off, y, b, ho, hl, hslot, htg⟩ := hLt c h2
          rw [htg]
          have hnlt : n < sN.mem.length := by
            rw [← (hsame c (by omega)).2]
            exact (List.getElem?_eq_some_iff.1 hl.blk).1
          have hml : sN.mem.length = s0.mem.length + al.length := by rw [hmem]; simp [hnl]
          refine ⟨fun hn => ?_, fun j hn => ?_⟩
          · rcases hl.at' with h3 | h3
            · have hn' : (if n < s0.mem.length then none else al[n - s0.mem.length]?) = none := hn
              rw [if_neg (by omega), List.getElem?_eq_none_iff] at hn'
              omega
            · exact h3
          · obtain ⟨h3, h4⟩ := hnwS n j hn
            have hns : (sN.fr.getD ta undefS).scp s0.mem.length s0.rows.length = false := by
              rw [hslot]; simpa [SV.scp, SW.scp, SC.scp] using h3
            obtain ⟨j', i', hj', hdt⟩ := hlex.nscp ta hns
            obtain ⟨h5, bb, _, _, _, _, mk, h6, _, h8⟩ := hlex.alOK j' i' hj'
            have hmk := h8 ta hdt
            rw [hslot] at hmk
            have hnj : n = s0.mem.length + j' := by
              rcases h6 with h6 | ⟨l, cc, h6⟩
              · rw [h6] at hmk
                simp only [one, SV.w.injEq, SW.o.injEq, SC.p.injEq] at hmk
                exact hmk.1
              · rw [h6] at hmk
                simp [one] at hmk
            rw [hnj, Nat.add_sub_cancel_left, hj'] at h4
            simp only [Option.some.injEq] at h4
            subst h4
            have hjl : i' < ops.size := by omega
            have hoj : ops[i']? = some ops[i'] := Array.getElem?_eq_getElem hjl
            rcases (hpair i' (N1 + c) _ _ (by omega) h2 hoj ho).2 with hr | hap
            · exact hr
            · rw [hoj] at hdt
              exact absurd (looks_operand (ops := ops) (by rw [hl.op]; simp [Op.operands])) ((Oper.apart_spec hap).1 ta hdt)
        · intro k n h1 h2 hne
          obtain ⟨c, rfl⟩ : ∃ c, k = N1 + c := ⟨k - N1, by omega⟩
          obtain ⟨o, t, ta, x, n', off, y, b, ho, hl, hslot, htg⟩ := hLt c h2
          rw [htg] at hne
          rw [show N1 + c - N1 = c by omega]
          show contOf (e.at rN) st n (c + 1) = contOf (e.at rN) st n c
          unfold contOf
          rw [hl.eq]
          simp only [List.getElem?_set_ne (Ne.symm hne)]
        · intro act w' γ hw' hd hsz hγ hγX hγu hslot
          have hend : st (N - N1) = s3 := by rw [← hll]; exact hstE
          have h3m := hsame (N - N1) (Nat.le_refl _)
          rw [hend] at h3m
          have hml : sN.mem.length = s0.mem.length + al.length := by rw [hmem]; simp [hnl]
          have hb3 := fun (n : Nat) (b : Blk) (hb : s3.mem[n]? = some b) => late_blk hstS (N - N1) (by rw [hll]; exact Nat.le_refl _) n b (by rw [hend]; exact hb)
          have hlike : Env.like s0.mem.length s0.rows.length (e.at rN) { e with r := rN, β := e.β ++ al.map γ } :=
            ⟨rfl, rfl, rfl, fun n hn => getD_app_lt _ _ _ _ (by show n < e.β.length; rw [h0.nb]; exact hn), fun _ _ => rfl⟩
          obtain ⟨hrel, hle⟩ := hlex.done (γ := γ) hB h0 hXok ⟨hkl.symm, hkr.symm, by rw [← hs0], by rw [← hs0]⟩ (by rw [hkl, hkr]; exact hscr) ha0 (fun i j t hi hj => huniq i j t (by omega) (by omega)) hval hw' hd hsz (fun i hi => by
              obtain ⟨j, hj⟩ := List.getElem?_of_mem hi
              exact (hγ (s0.mem.length + j) i (by
                show (if s0.mem.length + j < s0.mem.length then none else al[s0.mem.length + j - s0.mem.length]?) = some i
                rw [if_neg (by omega), Nat.add_sub_cancel_left]; exact hj)).1) hγu hslot (memF := s3.mem) h3m.2 (fun n b hb hl hn => by
              obtain ⟨⟨b', h1, _, h2⟩, _⟩ := hb3 n b hb
              rw [hst0m, if_pos hn] at h1
              exact ⟨b', h1, by rw [← h2]; exact hl⟩) (fun n b hb hl => by
              obtain ⟨⟨b', h1, hty, h2⟩, hun, hsc3⟩ := hb3 n b hb
              rw [map_den_like hlike (hsc3 hscp0)]
              have hcontb : contOf (e.at rN) st n (N - N1) = .cells (b.cells.map (SC.den (e.at rN))).toArray b.ty (0, 0) := by
                unfold contOf
                rw [hend, hb]
              rcases Nat.lt_or_ge n s0.mem.length with hn | hn
              · rw [show (e.β ++ al.map γ).getD n 0 = e.β.getD n 0 from hlike.β n hn]
                by_cases hx : n ∈ X
                · have := hγX n hx
                  rw [show (lateD ops s0.mem.length (e.at rN) al sN (fun n => n ∈ X) st).cont n (N - N1) = _ from hcontb] at this
                  exact this
                · have h4 := hun hn hx
                  rw [hst0m, if_pos hn] at h4
                  have h5 := hB.blk n b h4 hl
                  rw [hw'.block _ (heap_lt h5) (by
                    rintro ⟨m, hm, heq⟩
                    obtain ⟨_, c, hc, hlc⟩ := hXl m hm
                    have := hB.sep n m b c h4 hc hl hlc heq
                    subst this
                    exact hx hm), h5, hcell n b h4]
              · have hlt := (List.getElem?_eq_some_iff.1 hb).1
                obtain ⟨j, rfl⟩ : ∃ j, n = s0.mem.length + j := ⟨n - s0.mem.length, by omega⟩
                obtain ⟨i', hj⟩ : ∃ i', al[j]? = some i' := ⟨al[j]'(by omega), List.getElem?_eq_getElem (by omega)⟩
                have h4 := (hγ (s0.mem.length + j) i' (by
                  show (if s0.mem.length + j < s0.mem.length then none else al[s0.mem.length + j - s0.mem.length]?) = some _
                  rw [if_neg (by omega), Nat.add_sub_cancel_left]; exact hj)).2
                rw [show (lateD ops s0.mem.length (e.at rN) al sN (fun n => n ∈ X) st).cont (s0.mem.length + j) (N - N1) = _ from hcontb] at h4
                have h5 : (e.β ++ al.map γ).getD (s0.mem.length + j) 0 = γ i' := by
                  rw [← h0.nb]
                  simp [List.getD, List.getElem?_append_right, hj]
                rw [h5]
                exact h4)
          have h3e : ({ sN with mem := s3.mem } : St) = s3 := h3m.1.symm
          rw [h3e] at hrel
          have hfl3 : s3.fl = s.fl ∧ s3.flr = s.flr := by
            rw [h3m.1]
            refine ⟨hlex.fl.trans ?_, hlex.flr.trans ?_⟩ <;> rw [← hs0]
          refine execOps_sound hG hih _ s3 k _ act w' hrel hsat ?_
          rintro a'' w'' ⟨s'', e'', hle'', hrel'', hf, hfr, hsat''⟩
          exact hQ a'' w'' ⟨s'', e'', hle.trans hle'', hrel'', hf.trans hfl3.1, hfr.trans hfl3.2, hsat''⟩
        · unfold cnt
          exact Nat.le_trans (List.length_filter_le _ _) (by simp)
        · intro j oj _ hj
          simp [Array.getD] at hj
        · intro n i _ hi
          simp [Array.getD] at hi
        · intro n hn
          exact hXcont n hn
        · intro i ob _ hi
          simp [Array.getD] at hi
        · intro i j _ _ hi
          simp [Array.getD] at hi
        · intro t
          unfold slotV
          cases writer ops N1 t with
          | none => rfl
          | some i => simp [Array.getD]
      · exact hsat.elim
    · exact hs.elim
  · exact hs.elim

/-- What stands behind a piece of code, through Px. -/
theorem Px.mk {W0 : World} {e e' : Env} {s' : St} {a : Act} {w : World} {fl flr : Nat} {k : Kont} {out : Out} (hle : Env.le e e') (hrel : Rel e' W0 s' a w) (hf : s'.fl = fl) (hfr : s'.flr = flr) (hs : (k out s').sat Γ e'.R Ψ bs e'.r) : Px Γ Ψ bs W0 e fl flr k out.exitOf a w :=
  ⟨out, s', e', rfl, hle, hrel, hf, hfr, hs⟩

theorem Px.trans {W0 : World} {e e' : Env} {fl flr fl' flr' : Nat} {k : Kont} {x : Exit} {a : Act} {w : World} (hle : Env.le e e') (hf : fl' = fl) (hfr : flr' = flr) (h : Px Γ Ψ bs W0 e' fl' flr' k x a w) : Px Γ Ψ bs W0 e fl flr k x a w := by
  obtain ⟨out, s', e'', h1, h2, h3, h4, h5, h6⟩ := h
  exact ⟨out, s', e'', h1, hle.trans h2, h3, h4.trans hf, h5.trans hfr, h6⟩

theorem exec_sound (hm : P.follows .mixedOrders = true) (hG : Gok P Γ) : ∀ f : Nat, IH P Γ (exec P Γ f)
  | 0 => fun c s k W0 Ψ bs e a w h hs => hs.elim
  | f + 1 => by
    have ih := exec_sound hm hG f
    intro c s k W0 Ψ bs e a w h hs
    cases c with
    | skip => exact wp_skip (Px.mk (out := .norm) (Env.le_refl _) h rfl rfl hs)
    | label l => exact wp_label (Px.mk (out := .norm) (Env.le_refl _) h rfl rfl hs)
    | region id ops draw =>
      have fin : ∀ a' w', Nx Γ Ψ bs W0 e s.fl s.flr (k .norm) a' w' → Px Γ Ψ bs W0 e s.fl s.flr k .normal a' w' := by
        rintro a' w' ⟨s', e', h1, h2, h3, h4, h5⟩
        exact Px.mk (out := .norm) h1 h2 h3 h4 h5
      cases draw with
      | true => exact execDraw_sound hm hG ih h hs fin
      | false =>
        have alt : (execOps P Γ (exec P Γ f) ops ops.toList s (k .norm)).sat Γ e.R Ψ bs e.r → (Code.region id ops false).wp P (Px Γ Ψ bs W0 e s.fl s.flr k) a w := fun hs =>
          wp_region_list (execOps_sound hG ih ops.toList s (k .norm) e a w h hs fin)
        have hs' : (specT P ops s (k .norm) (execOps P Γ (exec P Γ f) ops ops.toList s (k .norm))).sat Γ e.R Ψ bs e.r := hs
        unfold specT at hs'
        split at hs'
        · split at hs'
          · rename_i as s' pend hsp
            split at hs'
            · rename_i hun
              obtain ⟨has, hk⟩ := asrts_sat hs'
              have hsr : SpR e W0 s [] a w := ⟨h.rep, h.defs, by rw [h.tmps]; simp, fun t => by rw [tmps_getD h t]; rfl, fun p hp => (by cases hp), List.Pairwise.nil⟩
              refine wp_region_list (specRun_sound ops.toList s [] as s' pend e W0 a w hsp has hsr ?_)
              intro a' w' hsr'
              obtain ⟨e', h1, h2, h3, h4, h5, h6⟩ := finishP_rel pend s' e hsr' hun
              have hst := specRun_st _ _ _ _ _ _ hsp
              exact fin a' w' ⟨_, e', h1, h4, h5.trans (by rw [hst]), h6.trans (by rw [hst]), by rw [h2, h3]; exact hk⟩
            · exact alt hs'
          · exact alt hs'
        · exact alt hs'

    | seq x y =>
      refine wp_seq (wp_mono (ih x s _ W0 Ψ bs e a w h hs) ?_)
      rintro ex a' w' ⟨out, s', e', rfl, hle, hrel, hf, hfr, hsat⟩
      cases out with
      | norm => exact wp_mono (ih y s' k W0 Ψ bs e' a' w' hrel hsat) (fun _ _ _ hp => Px.trans hle hf hfr hp)
      | exit id => exact Px.mk (out := .exit id) hle hrel hf hfr hsat
      | ret => exact Px.mk (out := .ret) hle hrel hf hfr hsat
    | cond c x y =>
      cases c with
      | tmp t =>
        simp only [exec] at hs
        obtain ⟨z, h1, hs1⟩ := forkO_sat h hs
        have hev : ∀ b, slotB { s with fr := z } t = some (.c b) → a.eval (.tmp t) = .bool b := by
          intro b hb
          rw [h1.eval (.tmp t)]
          show (({ s with fr := z } : St).fr.getD t undefS).den e = _
          rw [(slotB_spec hb).2]
          rfl
        split at hs1
        · rename_i hb
          exact wp_cond_true (hev true hb) (ih x { s with fr := z } k W0 Ψ bs e a w h1 hs1)
        · rename_i hb
          exact wp_cond_false (hev false hb) (ih y { s with fr := z } k W0 Ψ bs e a w h1 hs1)
        · exact hs1.elim
      | const v =>
        cases v with
        | bool b =>
          cases b with
          | true => exact wp_cond_true rfl (ih x s k W0 Ψ bs e a w h hs)
          | false => exact wp_cond_false rfl (ih y s k W0 Ψ bs e a w h hs)
        | _ => exact hs.elim
      | global g => exact hs.elim
      | func g => exact hs.elim
    | block id body =>
      refine wp_block (wp_mono (ih body s _ W0 Ψ bs e a w h hs) ?_)
      rintro ex a' w' ⟨out, s', e', rfl, hle, hrel, hf, hfr, hsat⟩
      cases out with
      | norm => exact Px.mk (out := .norm) hle hrel hf hfr hsat
      | exit id' =>
        dsimp only at hsat
        show if id' = id then _ else _
        split at hsat
        · rename_i hid
          rw [if_pos hid]
          exact Px.mk (out := .norm) hle hrel hf hfr hsat
        · rename_i hid
          rw [if_neg hid]
          exact Px.mk (out := .exit id') hle hrel hf hfr hsat
      | ret => exact Px.mk (out := .ret) hle hrel hf hfr hsat
    | loop body =>
      have key : ∀ (n : Nat) (s : St) (e : Env) (a : Act) (w : World), Rel e W0 s a w → (loopN (exec P Γ f) body n s k).sat Γ e.R Ψ bs e.r → Code.rounds P body (Px Γ Ψ bs W0 e s.fl s.flr k) n a w := by
        intro n
        induction n with
        | zero => intro s e a w _ hs; exact hs.elim
        | succ n ihn =>
          intro s e a w h hs
          rw [rounds_succ]
          refine wp_mono (ih body s _ W0 Ψ bs e a w h hs) ?_
          rintro ex a' w' ⟨out, s', e', rfl, hle, hrel, hf, hfr, hsat⟩
          cases out with
          | norm =>
            have := ihn s' e' a' w' hrel hsat
            have mono : ∀ (n : Nat) (a' : Act) (w' : World), Code.rounds P body (Px Γ Ψ bs W0 e' s'.fl s'.flr k) n a' w' → Code.rounds P body (Px Γ Ψ bs W0 e s.fl s.flr k) n a' w' := by
              intro n
              induction n with
              | zero => intro a' w' h; exact h
              | succ n ihm =>
                intro a' w' h
                rw [rounds_succ] at h ⊢
                refine wp_mono h ?_
                intro ex a'' w'' hx
                cases ex with
                | normal => exact ihm a'' w'' hx
                | _ => exact Px.trans hle hf hfr hx
            exact mono n a' w' this
          | exit id => exact Px.mk (out := .exit id) hle hrel hf hfr hsat
          | ret => exact Px.mk (out := .ret) hle hrel hf hfr hsat
      exact wp_loop_rounds f (key f s e a w h hs)
    | exit id => exact wp_exit (Px.mk (out := .exit id) (Env.le_refl _) h rfl rfl hs)
    | ret => exact wp_ret (Px.mk (out := .ret) (Env.le_refl _) h rfl rfl hs)
    | rangeFunc _ _ _ _ => exact hs.elim
    | scope _ => exact hs.elim
    | goto _ => exact hs.elim
    | refuse _ => exact hs.elim

/-- **A FUNCTION's CONTRACT, BY ITS TREE.** -/
theorem symFnG_sound (hm : P.follows .mixedOrders = true) (hG : Gok P Γ) {gl : List (Nat × List Int)} {fuel : Nat} {fn : FuncId} {ps rs : List Sh} {xs : List Int} (hx : xs.length = total ps)
    (hs : (symFnG P gl Γ fuel fn ps rs).sat Γ [] Ψ [] xs) (w : World) (hgl : GlOK gl w) :
    Calls P fn (mkShs ps xs).toArray w fun x w' => ∃ ys, x = .returned (mkRes rs ys) ∧ Ψ ys ∧ ys.length = total rs ∧ Below w.heap.size w w' := by
  unfold symFnG at hs
  split at hs
  · rename_i F hF
    split at hs
    · rename_i body hb
      have hden : ((shsE ps (varsFrom 0 (total ps))).map SV.w).map (SV.den ⟨xs, [], [], [], []⟩) = mkShs ps xs := by
        rw [List.map_map]
        have := shsE_den (e := ⟨xs, [], [], [], []⟩) ps (varsFrom 0 (total ps))
        have hv := varsFrom_den (R := []) (r := []) hx
        simp only [List.length_nil, List.nil_append] at hv
        rw [hv] at this
        exact this
      have hrep : Rep ⟨xs, [], [], [], []⟩ w ⟨frameOf ps F.ntmps, [], [], total ps, 0, 0, 0, gl⟩ w := by
        refine ⟨Below.refl _ _, rfl, rfl, hx, rfl, ?_, ?_, ?_, ?_, ?_, ?_, ?_, ?_, ?_, hgl⟩
        all_goals (intros; simp_all [regOf, Reg.none])
      have := calls_done (exec_sound hm hG fuel) hrep (args := (shsE ps (varsFrom 0 (total ps))).map SV.w) (rs := rs) (Ψ := Ψ) (bs := []) hF hb hs
      rw [hden] at this
      exact this
    · exact hs.elim
  · exact hs.elim

/-- A summary, by the function's tree. -/
theorem Sum.ok_ofG (hm : P.follows .mixedOrders = true) (hG : Gok P Γ) {s : Sum} {fuel : Nat} {t : T} (ht : symFnG P s.gl Γ fuel s.fn s.ps s.rs = t)
    (hsh : (s.ps ++ s.rs).all (fun sh => sh.agg || sh.ks.length == 1) = true)
    (hs : ∀ xs : List Int, xs.length = total s.ps → s.pre xs → t.sat Γ [] (fun ys => ys = s.sem xs) [] xs)
    (hl : ∀ xs : List Int, xs.length = total s.ps → s.pre xs → (s.sem xs).length = total s.rs) : s.ok P := by
  subst ht
  refine ⟨fun sh h => ?_, fun xs w hgl hx hpre => ⟨hl xs hx hpre, ?_⟩⟩
  · have := List.all_eq_true.1 hsh sh h
    simpa using this
  · refine (symFnG_sound hm hG hx (hs xs hx hpre) w hgl).mono ?_
    rintro e w' ⟨ys, rfl, rfl, _, hb⟩
    exact ⟨rfl, hb⟩
end

#print axioms exec_sound
#print axioms Sum.ok_ofG
end Go.Sx
