/-
  Symbolic execution: append; operations in sequence.
-/
import Derived.Test.YtgcoidbaoigkeaaSwK
import Derived.Deep.AppendLies
import Derived.Laws.OwnMore
namespace Go.Sx
open Go.RowKit

variable {P : Program} {Γ : List Sum} {Ψ : List Int → Prop} {bs : List (List Int → Prop)}

theorem ksame_one : ∀ {ks : List K}, ksame ks ks = true → ∀ {xs : List Int} {u : Value}, u ∈ mkCells ks xs → u.oneCell' = true
  | [], _, _, _, h => by simp [mkCells] at h
  | k :: ks, hk, [], _, h => by simp [mkCells] at h
  | k :: ks, hk, x :: xs, u, h => by
    simp only [ksame, Bool.and_eq_true] at hk
    simp only [mkCells, List.mem_cons] at h
    rcases h with rfl | h
    · cases k with
      | i k => rfl
      | b => rfl
      | s ty kr => simp [K.same] at hk
    · exact ksame_one hk.2 h

theorem cellsL_one {ks : List K} (hk : ksame ks ks = true) {l : List Int} {u : Value} (h : u ∈ cellsL ks l) : u.oneCell' = true := by
  simp only [cellsL, List.mem_flatMap] at h
  obtain ⟨x, _, hx⟩ := h
  exact ksame_one hk hx

theorem run_append_zero {t ty elem : TypeId} {inf : TypeInfo} {w : World} (ht : P.underlying t = some (.slice elem)) (hi : P.info? elem = some inf) {q r : Option Addr} {n cap c : Nat} (hle : n ≤ cap) :
    (Builtin.append_ #[t, t] ty #[.slice q n cap, .slice r 0 c]).run P w = .ok (.slice q n cap) w := by
  cases q <;> cases r <;> simp [Builtin.append_, run_underlying ht, sizeOf, typeInfo, hi, Builtin.lenOf, hle, Builtin.firstCells, loadCells, loadCellsFrom, storeCells]

/-- What an own slice looks like. -/
theorem RowOK.form {w : World} {ty : TypeId} {ks : List K} {v : Value} {c : Int} (h : RowOK w ty ks v c) :
    (dec c = [] ∧ v = .slice none 0 0) ∨ (∃ b off, dec c = [] ∧ v = .slice (some ⟨b, off, none⟩) 0 0) ∨
    (∃ g cap, v = .slice (some ⟨g, 0, none⟩) (dec c).length cap ∧ cap ≠ 0 ∧ (dec c).length ≤ cap ∧ ks.length ≠ 0 ∧ (∀ x ∈ dec c, (elt ks x).length = ks.length) ∧ w.ownsRow 0 ty ks.length v (dec c).length (cellsL ks (dec c))) := by
  rcases h with ⟨h1, h2 | ⟨b, off, h2⟩⟩ | ⟨h0, h1, h2⟩
  · exact .inl ⟨h1, h2⟩
  · exact .inr (.inl ⟨b, off, h1, h2⟩)
  · have h3 := h2
    rcases h2.2 with ⟨hv, hn⟩ | ⟨g, cap, cur, hv, _, hc, hle, hm, hsz, ht⟩
    · exact .inl ⟨List.eq_nil_of_length_eq_zero hn, hv⟩
    · by_cases hcap : cap = 0
      · subst hcap
        have hl : (dec c).length = 0 := by omega
        exact .inr (.inl ⟨g, 0, List.eq_nil_of_length_eq_zero hl, by rw [hv, hl]⟩)
      · exact .inr (.inr ⟨g, cap, hv, hcap, hle, h0, h1, h3⟩)

theorem app_run {t ty elem : TypeId} {inf : TypeInfo} {z : Value} {ks : List K} {w : World} (ht : P.underlying t = some (.slice elem)) (hi : P.info? elem = some inf) (hz : inf.zero = some z) (hzs : z.cells.size = inf.size) (h0 : inf.size ≠ 0)
    (hks : ks.length = inf.size) (hflat : ksame ks ks = true) (hby : inf.bytes ≤ 100000000) {v x : Value} {c d : Int} (hv : RowOK w elem ks v c) (hx : SlOK w ks x d) (hlen : (dec c).length + (dec d).length ≤ 1000000) :
    ∃ v' w', (Builtin.append_ #[t, t] ty #[v, x]).run P w = .ok v' w' ∧ (∀ c', dec c' = dec c ++ dec d → RowOK w' elem ks v' c') ∧ w.grownBy w' (rowBlk v) ∧ (∀ k, rowBlk v' = some k → rowBlk v = some k ∨ k = w.heap.size) ∧ ∃ a l cp, v' = .slice a l cp := by
  have hsame : ∀ row, w.grownBy w row := fun row => ⟨rfl, rfl, rfl, Nat.le_refl _, fun _ _ _ => rfl⟩
  by_cases hd : dec d = []
  · -- nothing is appended
    have hxz : ∃ r cp, x = .slice r 0 cp := by
      rcases hx with ⟨hx, _⟩ | ⟨b, off, cap, hx, _⟩
      · exact ⟨_, _, hx⟩
      · exact ⟨_, _, by rw [hx, hd]; rfl⟩
    obtain ⟨r, cp, rfl⟩ := hxz
    have hvz : ∃ q n cap, v = .slice q n cap ∧ n ≤ cap := by
      rcases hv.form with ⟨_, hv⟩ | ⟨b, off, _, hv⟩ | ⟨g, cap, hv, _, hle, _⟩
      · exact ⟨_, _, _, hv, Nat.le_refl _⟩
      · exact ⟨_, _, _, hv, Nat.le_refl _⟩
      · exact ⟨_, _, _, hv, hle⟩
    obtain ⟨q, n, cap, rfl, hle⟩ := hvz
    refine ⟨_, w, run_append_zero ht hi hle, fun c' hc' => ?_, hsame _, fun k hk => .inl hk, _, _, _, rfl⟩
    rw [hd, List.append_nil] at hc'
    unfold RowOK at hv ⊢
    rw [hc']
    exact hv
  · rcases hx with ⟨_, hn⟩ | ⟨b, off, cx, rfl, hle, hm, hel, hcell⟩
    · exact absurd hn hd
    have hm0 : 0 < (dec d).length := List.length_pos_iff.2 hd
    have hnl : (cellsL ks (dec d)).length = (dec d).length * inf.size := by rw [cellsL_length hel, hks]
    have hnews : ∀ j u, (cellsL ks (dec d))[j]? = some u → w.cell? ((⟨b, off, none⟩ : Addr).add j) = some u := fun j u hj => by rw [Addr.add_lit]; exact hcell j u hj
    have h1 : ∀ u ∈ cellsL ks (dec d), u.oneCell' = true := fun u hu => cellsL_one hflat hu
    have hbytes : ∀ n, n ≤ 1000000 → n * inf.bytes ≤ 140737488355328 := fun n hn => by
      have := Nat.mul_le_mul hn hby
      omega
    -- an own slice ahead
    have own : ∀ {v : Value}, w.ownsRow 0 elem ks.length v (dec c).length (cellsL ks (dec c)) → (∀ x ∈ dec c, (elt ks x).length = ks.length) → v.ownBlock = rowBlk v →
        ∃ v' w', (Builtin.append_ #[t, t] ty #[v, .slice (some ⟨b, off, none⟩) (dec d).length cx]).run P w = .ok v' w' ∧ (∀ c', dec c' = dec c ++ dec d → RowOK w' elem ks v' c') ∧ w.grownBy w' (rowBlk v) ∧ (∀ k, rowBlk v' = some k → rowBlk v = some k ∨ k = w.heap.size) ∧ ∃ a l cp, v' = .slice a l cp := by
      intro v hown helc hob
      rw [hks] at hown
      obtain ⟨g, cap, w', hr, ho, hgr, hat, _⟩ := run_append_lies (P := P) w t ty 0 elem inf z inf.size inf.bytes ht hi hz rfl rfl hzs (by omega) v (dec c).length _ hown ⟨b, off, none⟩ (dec d).length cx _ hnl hnews h1 hm0 (by unfold maxLen; omega) (hbytes _ hlen) (Nat.zero_le _) _ rfl
      refine ⟨_, w', hr, fun c' hc' => .inr ⟨by omega, ?_, ?_⟩, by rw [← hob]; exact hgr, ?_, _, _, _, rfl⟩
      · rw [hc']
        intro y hy
        rcases List.mem_append.1 hy with hy | hy
        · exact helc y hy
        · exact hel y hy
      · rw [hc', cellsL_app, List.length_append, hks]
        exact ho
      · intro k hk
        simp only [rowBlk] at hk
        split at hk
        · cases hk
        · simp only [Option.some.injEq] at hk
          rw [hob] at hat
          rcases hat with hat | hat
          · exact .inl (by rw [hat, hk])
          · exact .inr (by rw [← hk, hat])
    rcases hv.form with ⟨hn, rfl⟩ | ⟨b', off', hn, rfl⟩ | ⟨g, cap, hvv, hcap, hle', hk0, helc, hown⟩
    · refine own ?_ (by rw [hn]; simp) rfl
      rw [hn]
      exact World.ownsRow_nil _ _ _ _
    · -- an empty slice of anywhere
      have hr := run_append_grow (P := P) w t ty elem inf z ht hi hz ⟨b', off', none⟩ 0 0 [] (by simp) (by simp) ⟨b, off, none⟩ (dec d).length cx _ hnl hnews (by omega) (by omega) (growslice_fits (by omega) (by have := hbytes (dec d).length (by omega); simpa using this))
      simp only [Nat.zero_add] at hr
      refine ⟨_, _, hr, fun c' hc' => .inr ⟨by omega, ?_, ?_⟩, ⟨rfl, rfl, rfl, by simp, fun k hk _ => heap_alloc_old w.drew _ hk⟩, ?_, _, _, _, rfl⟩
      · rw [hc', hn]
        simpa using hel
      · rw [hc', hn, List.nil_append]
        have hge := grownCap_ge w (dec d).length 0 elem
        refine ⟨by rw [hnl, hks], .inr ⟨w.heap.size, _, _, rfl, Nat.zero_le _, heap_alloc_new w.drew _, hge, grownCap_le_maxLen w (dec d).length 0 elem (by unfold maxLen; omega), ?_, ?_⟩⟩
        · simp only [Array.size_append, List.size_toArray, List.length_nil, size_zeroCells, hzs, hnl, hks, ← Nat.add_mul, Nat.zero_add]
          congr 1
          omega
        · simp only [Array.toList_append, List.nil_append]
          rw [hks, ← hnl]
          exact List.take_left
      · intro k hk
        simp only [rowBlk] at hk
        split at hk
        · cases hk
        · simp only [Option.some.injEq] at hk
          exact .inr hk.symm
    · refine own hown helc ?_
      rw [hvv]
      simp [Value.ownBlock, rowBlk, hcap]

/-- The beginning of an own slice. -/
theorem RowOK.take {w : World} {ty : TypeId} {ks : List K} {v : Value} {c c' : Int} (h : RowOK w ty ks v c) {hi : Nat} (hc : dec c' = (dec c).take hi) (hle : hi ≤ (dec c).length) (size : Nat) :
    RowOK w ty ks (subV size v 0 hi) c' ∧ rowBlk (subV size v 0 hi) = rowBlk v := by
  have hadd : ∀ q : Option Addr, q.map (fun x => x.add (0 * size)) = q := fun q => by cases q <;> simp [Addr.add]
  rcases h.form with ⟨hn, rfl⟩ | ⟨b, off, hn, rfl⟩ | ⟨g, cap, hvv, hcap, hle', hk0, helc, hown⟩
  · rw [hn] at hle hc
    have : hi = 0 := by simpa using hle
    subst this
    exact ⟨.inl ⟨by rw [hc]; simp, .inl (by simp [subV])⟩, by simp [subV, rowBlk]⟩
  · rw [hn] at hle hc
    have : hi = 0 := by simpa using hle
    subst this
    exact ⟨.inl ⟨by rw [hc]; simp, .inr ⟨b, off, by simp [subV]⟩⟩, by simp [subV, rowBlk]⟩
  · rcases hown.2 with ⟨hv, _⟩ | ⟨g', cap', cur, hv, _, hcu, hl2, hm, hsz, ht⟩
    · rw [hvv] at hv; cases hv
    · rw [hvv] at hv
      simp only [Value.slice.injEq, Option.some.injEq, Addr.mk.injEq] at hv
      obtain ⟨⟨rfl, _⟩, _, rfl⟩ := hv
      have hsub : subV size v 0 hi = .slice (some ⟨g, 0, none⟩) hi cap := by
        rw [hvv]
        simp only [subV, hadd, Nat.sub_zero, ite_self]
      rw [hsub]
      have hl : (dec c').length = hi := by rw [hc, List.length_take]; omega
      refine ⟨.inr ⟨hk0, ?_, ?_, .inr ⟨g, cap, cur, by rw [hl], Nat.zero_le _, hcu, by omega, hm, hsz, ?_⟩⟩, ?_⟩
      · rw [hc]; exact fun x hx => helc x (List.mem_of_mem_take hx)
      · rw [cellsL_length]
        rw [hc]; exact fun x hx => helc x (List.mem_of_mem_take hx)
      · rw [hl, hc, cellsL_take helc, ← ht, List.take_take]
        congr 1
        rw [Nat.min_eq_left]
        exact Nat.mul_le_mul_right _ hle
      · rw [hvv]; simp [rowBlk]

/-- What something is appended to. -/
theorem baseE_spec {e : Env} {W0 : Bas} {s : St} {w : World} (h : Rep e W0 s w) {elem : TypeId} {ks : List K} {v : SV} {as : List B} {be : E} {rows : List Row} (hb : baseE s elem ks v = some (as, be, rows)) (has : ∀ b ∈ as, b.den e.R e.r = true) :
    RowOK w elem ks (v.den e) (be.den e.R e.r) ∧ rows.length = s.rows.length ∧ (∀ (j : Nat) (b : Row), rows[j]? = some b → b.live = true → s.rows[j]? = some b ∧ ∀ k, rowBlk (v.den e) = some k → rowBlk ((G.o j).val e) ≠ some k) ∧
      (∀ k, rowBlk (v.den e) = some k → W0.may k ∧ ∀ (n : Nat) (b : Blk), s.mem[n]? = some b → b.live = true → e.β.getD n 0 ≠ k) := by
  unfold baseE at hb
  split at hb
  · simp only [Option.some.injEq, Prod.mk.injEq] at hb
    obtain ⟨rfl, rfl, rfl⟩ := hb
    refine ⟨.inl ⟨by simp [E.den], .inl rfl⟩, rfl, fun j b hj hl => ⟨hj, fun k hk => by cases hk⟩, fun k hk => by cases hk⟩
  · simp only [Option.some.injEq, Prod.mk.injEq] at hb
    obtain ⟨rfl, rfl, rfl⟩ := hb
    exact ⟨.inl ⟨by simp [E.den], .inr ⟨_, _, rfl⟩⟩, rfl, fun j b hj hl => ⟨hj, fun k hk => by cases hk⟩, fun k hk => by cases hk⟩
  · rename_i g
    split at hb
    · rename_i hg
      simp only [Option.some.injEq, Prod.mk.injEq] at hb
      obtain ⟨rfl, rfl, rfl⟩ := hb
      obtain ⟨⟨ks', c'⟩, hg'⟩ := Option.isSome_iff_exists.1 hg
      have hnb : rowBlk ((SV.w (.o (.gz g))).den e) = none := by
        obtain ⟨a, l, c, hv⟩ := G.val_slice e g
        simp only [SV.den, SW.den, SC.den, hv, zeroV]
        cases a <;> simp [rowBlk]
      refine ⟨.inl ⟨by simp [E.den], ?_⟩, rfl, fun j b hj hl => ⟨hj, fun k hk => by rw [hnb] at hk; cases hk⟩, fun k hk => by rw [hnb] at hk; cases hk⟩
      simp only [SV.den, SW.den, SC.den]
      rcases h.gread hg' with ⟨hv, hn⟩ | ⟨b, off, cap, hv, hle, hm, hel, hcell⟩
      · exact .inl (by rw [hv]; rfl)
      · exact .inr ⟨b, off, by rw [hv]; rfl⟩
    · cases hb
  · rename_i n
    split at hb
    · rename_i b hbn
      split at hb
      · rename_i hc
        simp only [Bool.and_eq_true, decide_eq_true_eq] at hc
        obtain ⟨⟨⟨hl, hfl⟩, hty⟩, hks⟩ := hc
        have hks' := ksame_eq hks
        simp only [Option.some.injEq, Prod.mk.injEq] at hb
        obtain ⟨rfl, rfl, rfl⟩ := hb
        subst hty
        rw [← hks']
        refine ⟨h.row n b hbn hl, by simp, fun j bb hj hll => ?_, fun k hk => ⟨h.rown n b hbn hl hfl k hk, fun m bb hm hml heq => h.brs m n bb b hm hbn hml hl (by rw [heq]; exact hk)⟩⟩
        rcases mem_set_cases hj with ⟨rfl, rfl, _⟩ | ⟨hne, hj'⟩
        · cases hll
        · exact ⟨hj', fun k hk hk' => hne (h.rsep j n bb b k hj' hbn hll hl hk' hk)⟩
      · cases hb
    · cases hb
  · rename_i n size hi
    split at hb
    · rename_i b hbn
      split at hb
      · rename_i hc
        simp only [Bool.and_eq_true, decide_eq_true_eq] at hc
        obtain ⟨⟨⟨⟨hl, hfl⟩, hty⟩, hks⟩, hsz⟩ := hc
        have hks' := ksame_eq hks
        simp only [Option.some.injEq, Prod.mk.injEq] at hb
        obtain ⟨rfl, rfl, rfl⟩ := hb
        subst hty
        rw [← hks']
        obtain ⟨v1, v2, v3⟩ := vB_den has
        simp only [E.den] at v2
        obtain ⟨ht1, ht2⟩ := (h.row n b hbn hl).take (c' := (mkTake b.c hi).den e.R e.r) (hi := (hi.den e.R e.r).toNat) (by rw [mkTake_den, dec_cod]) (by omega) size
        have hval : (SV.w (.o (.gv (.o n) size (.c 0) hi))).den e = subV size ((G.o n).val e) 0 (hi.den e.R e.r).toNat := rfl
        rw [hval, ht2]
        refine ⟨ht1, by simp, fun j bb hj hll => ?_, fun k hk => ⟨h.rown n b hbn hl hfl k hk, fun m bb hm hml heq => h.brs m n bb b hm hbn hml hl (by rw [heq]; exact hk)⟩⟩
        rcases mem_set_cases hj with ⟨rfl, rfl, _⟩ | ⟨hne, hj'⟩
        · cases hll
        · exact ⟨hj', fun k hk hk' => hne (h.rsep j n bb b k hj' hbn hll hl hk' hk)⟩
      · cases hb
    · cases hb
  · cases hb

theorem appT_sound {s : St} {a : Act} {w : World} {W0 : Bas} {e : Env} {o : Oper} {c : Call} {k : St → T} {Q : Exit → Act → World → Prop} (h : Rel e W0 s a w) (hdp : s.dp = bs.length) (ho : o.op = .call c) (hcal : c.callee = .builtin .append)
    (hs : (appT P o c s k).sat Γ e.R Ψ bs e.r) : o.wp P a w (Nx Γ Ψ bs W0 e s.fl s.flr k) Q := by
  unfold appT at hs
  split at hs
  · rename_i ax x t t' hargs htys
    split at hs
    · exact hs.elim
    · rename_i htt
      simp only [ne_eq, Decidable.not_not] at htt
      subst htt
      have hc : c = { callee := .builtin .append, args := #[ax, x], argTypes := #[t, t] } := by
        cases c
        simp only at hcal hargs htys
        subst hcal
        congr 1
        · apply Array.ext'; simpa using hargs
        · apply Array.ext'; simpa using htys
      subst hc
      split at hs
      · rename_i elem hu
        split at hs
        · rename_i inf ks hinf hks
          split at hs
          · rename_i z hz
            split at hs
            · exact hs.elim
            · rename_i hcond
              simp only [ne_eq, Bool.or_eq_true, decide_eq_true_eq, Bool.not_eq_true', not_or, Decidable.not_not, Bool.not_eq_false, gt_iff_lt, Nat.not_lt] at hcond
              obtain ⟨⟨⟨⟨⟨h0, hzs⟩, hkl⟩, hby⟩, hflat⟩, hscp⟩ := hcond
              split at hs
              · rename_i as xe bs' be rows hsrc hbase
                obtain ⟨has, hs⟩ := asrts_sat hs
                have hxv : SlOK w ks (a.eval x) (xe.den e.R e.r) := by
                  rw [h.eval x]
                  split at hsrc
                  · rename_i xc hxc
                    rw [hxc]
                    exact sliceE_ok0 h.rep hsrc (fun b hb => has b (by simp [hb]))
                  · cases hsrc
                obtain ⟨b1, b2, b3, b4⟩ := baseE_spec h.rep hbase (fun b hb => has b (by simp [hb]))
                rw [← h.eval ax] at b1 b3 b4
                have hlim := has (mkLe (mkLn (mkApp be xe)) (.c 1000000)) (by simp)
                rw [mkLe_den, decide_eq_true_eq, mkLn_den, mkApp_dec] at hlim
                simp only [E.den, List.length_append] at hlim
                obtain ⟨v', w', hr, hrow, hgr, hat, hsl⟩ := app_run (P := P) (ty := o.type) hu hinf hz hzs h0 hkl hflat hby b1 hxv (by omega)
                have hk := h.rep.kill b2 (fun j b hj hl => (b3 j b hj hl).1)
                have hrep1 := hk.grownRow hgr (fun k hk => (b4 k hk).1) (fun n b hb hl hk' => (b4 _ hk').2 n b hb hl rfl) (fun n b hb hl k hk' hk'' => (b3 n b hb hl).2 k hk'' hk')
                have hscp' : ({ s with rows := rows } : St).scp = true := by
                  unfold St.scp at hscp ⊢
                  show (s.fr.all (SV.scp s.mem.length rows.length) && s.mem.all (fun b => b.cells.all (SC.scp s.mem.length rows.length))) = true
                  rw [b2]; exact hscp
                obtain ⟨hrep, hlike⟩ := hrep1.addRows hscp' (rows := [(⟨elem, ks, mkApp be xe, true⟩ : Row)]) (vals := [v']) rfl (fun j b v hj hv _ => by
                    cases j with
                    | zero =>
                      simp only [List.getElem?_cons_zero, Option.some.injEq] at hj hv
                      subst hj; subst hv
                      exact ⟨hsl, hrow _ (mkApp_dec _ _ _ _)⟩
                    | succ j => simp at hj)
                  (fun j b v k hj hv _ hk => by
                    cases j with
                    | zero =>
                      simp only [List.getElem?_cons_zero, Option.some.injEq] at hv
                      subst hv
                      rcases hat k hk with hk' | rfl
                      · exact ⟨(b4 k hk').1, (b4 k hk').2, fun n b hb hl => (b3 n b hb hl).2 k hk'⟩
                      · refine ⟨.inl h.rep.below.size, fun n b hb hl heq => ?_, fun n b hb hl heq => ?_⟩
                        · have := heap_lt (h.rep.blk n b hb hl); omega
                        · have := (h.rep.row n b (b3 n b hb hl).1 hl).blk_lt heq; omega
                    | succ j => simp at hj)
                  (fun i j u v k hi hj _ _ => by
                    cases i <;> cases j <;> simp at hi hj ⊢)
                have hrel : Rel { e with σ := e.σ ++ [v'] } W0 { s with rows := rows ++ [(⟨elem, ks, mkApp be xe, true⟩ : Row)] } a w' := ⟨hrep, by
                  rw [h.tmps]; congr 1
                  exact List.map_congr_left fun y hy => (SV.den_like hlike y ((St.scp_spec hscp').1 y hy)).symm, h.defs⟩
                have hv : (one (.go (.o s.rows.length))).den { e with σ := e.σ ++ [v'] } = v' := by
                  obtain ⟨a', l, cp, rfl⟩ := hsl
                  simp [one, SV.den, SW.den, SC.den, G.val, List.getD, ← h.rep.ng, slV]
                have hfin : Nx Γ Ψ bs W0 e s.fl s.flr k (a.put o.dst v') w' := by
                  rw [← hv]
                  exact Nx.here ⟨[], [], [v'], [], by simp⟩ (hrel.put o.dst _) ((put_fields _ _ _).2.2.2.2.1) ((put_fields _ _ _).2.2.2.2.2) ((put_dp _ _ _).trans hdp) hs
                unfold Oper.wp execOp
                simp only [ho, resolve, invoke, builtin, Sem.run_bind, Sem.run_pure, Result.andThen_ok, List.map_toArray, List.map_cons, List.map_nil, hr]
                exact hfin
              · exact hs.elim
          · exact hs.elim
        · exact hs.elim
      · exact hs.elim
  · exact hs.elim

theorem makeT_sound {s : St} {a : Act} {w : World} {W0 : Bas} {e : Env} {o : Oper} {t : TypeId} {l c : Operand} {k : St → T} {Q : Exit → Act → World → Prop} (h : Rel e W0 s a w) (hdp : s.dp = bs.length) (ho : o.op = .makeSlice t l c)
    (hs : (makeT P o t l c s k).sat Γ e.R Ψ bs e.r) : o.wp P a w (Nx Γ Ψ bs W0 e s.fl s.flr k) Q := by
  unfold makeT at hs
  split at hs
  · rename_i elem le ce hu hle hce
    split at hs
    · rename_i inf ks z hinf hks hz
      split at hs
      · exact hs.elim
      · rename_i hcond
        simp only [ne_eq, Bool.or_eq_true, decide_eq_true_eq, Bool.not_eq_true', not_or, Decidable.not_not, Bool.not_eq_false, gt_iff_lt, Nat.not_lt] at hcond
        obtain ⟨⟨⟨h0, hkl⟩, hby⟩, hscp⟩ := hcond
        split at hs
        · rename_i es hes
          obtain ⟨has, hs⟩ := asrts_sat hs
          have e1 := has (mkEq le ce) (by simp)
          have e2 := has (mkLe (.c 0) le) (by simp)
          have e3 := has (mkLe le (.c 1000000)) (by simp)
          rw [mkEq_den, beq_iff_eq] at e1
          rw [mkLe_den, decide_eq_true_eq] at e2 e3
          simp only [E.den] at e2 e3
          obtain ⟨n, hn⟩ := Int.eq_ofNat_of_zero_le e2
          obtain ⟨k1, hk1⟩ := intE_den hle e
          obtain ⟨k2, hk2⟩ := intE_den hce e
          rw [← h.eval l] at hk1
          rw [← h.eval c, ← e1] at hk2
          obtain ⟨f1, f2⟩ := flatC_den (e := e) hes
          have hzz : ∃ zv, inf.zero = some zv ∧ zv.cells.toList = z.map (SC.den e) := by
            simp only [zeroOf, hinf, Option.bind_some, Option.map_eq_some_iff] at hz
            obtain ⟨zv, hzv, rfl⟩ := hz
            refine ⟨zv, hzv, ?_⟩
            rw [List.map_map, show (SC.den e ∘ SC.ofV) = id from funext fun v => SC.den_ofV e v]
            simp
          obtain ⟨zv, hzv, hzl⟩ := hzz
          have hel : elt ks ((elemE es).den e.R e.r) = es.map (E.den e.R e.r) := elemE_elt _ _ f1
          have hzsz : zv.cells.size = inf.size := by
            have := congrArg List.length hzl
            rw [f2, mkCells_length (by simpa using f1), hkl] at this
            simpa using this
          obtain ⟨w', hr, hown, hgr⟩ := run_make_full (P := P) w 0 t elem inf zv inf.size hu hinf hzv rfl k1 k2 n (by
            have h2 : n ≤ 1000000 := by omega
            have := Nat.mul_le_mul hby h2
            omega) (by unfold maxLen; omega) (Nat.zero_le _)
          have hdec : dec ((mkRep le (elemE es)).den e.R e.r) = List.replicate n ((elemE es).den e.R e.r) := by rw [mkRep_den, dec_cod, hn]; rfl
          have hcells : (madeCells zv.cells (n * inf.size)).toList = cellsL ks (List.replicate n ((elemE es).den e.R e.r)) := by
            unfold madeCells
            rw [← hzsz, range_repl]
            simp only [cellsL, List.flatMap_replicate, hel, ← f2, hzl]
          have hrow : RowOK w' elem ks (.slice (some ⟨w.heap.size, 0, none⟩) n n) ((mkRep le (elemE es)).den e.R e.r) := by
            refine .inr ⟨by omega, ?_, ?_⟩
            · rw [hdec]
              intro x hx
              rw [(List.mem_replicate.1 hx).2, hel]
              simpa using f1
            · rw [hdec, List.length_replicate, ← hcells, hkl]
              exact hown
          have hrep1 := h.rep.grownRow hgr (fun k hk => by cases hk) (fun n b hb hl hk => by cases hk) (fun n b hb hl k hk hk' => by cases hk')
          obtain ⟨hrep, hlike⟩ := hrep1.addRows hscp (rows := [(⟨elem, ks, mkRep le (elemE es), true⟩ : Row)]) (vals := [Value.slice (some ⟨w.heap.size, 0, none⟩) n n]) rfl (fun j b v hj hv _ => by
              cases j with
              | zero =>
                simp only [List.getElem?_cons_zero, Option.some.injEq] at hj hv
                subst hj; subst hv
                exact ⟨⟨_, _, _, rfl⟩, hrow⟩
              | succ j => simp at hj)
            (fun j b v k hj hv _ hk => by
              cases j with
              | zero =>
                simp only [List.getElem?_cons_zero, Option.some.injEq] at hv
                subst hv
                simp only [rowBlk] at hk
                split at hk
                · cases hk
                · simp only [Option.some.injEq] at hk
                  subst hk
                  refine ⟨.inl h.rep.below.size, fun n b hb hl heq => ?_, fun n b hb hl heq => ?_⟩
                  · have := heap_lt (h.rep.blk n b hb hl); omega
                  · have := (h.rep.row n b hb hl).blk_lt heq; omega
              | succ j => simp at hj)
            (fun i j u v k hi hj _ _ => by
              cases i <;> cases j <;> simp at hi hj ⊢)
          have hrel : Rel { e with σ := e.σ ++ [Value.slice (some ⟨w.heap.size, 0, none⟩) n n] } W0 { s with rows := s.rows ++ [(⟨elem, ks, mkRep le (elemE es), true⟩ : Row)] } a w' := ⟨hrep, by
            rw [h.tmps]; congr 1
            exact List.map_congr_left fun y hy => (SV.den_like hlike y ((St.scp_spec hscp).1 y hy)).symm, h.defs⟩
          have hv : (one (.go (.o s.rows.length))).den { e with σ := e.σ ++ [Value.slice (some ⟨w.heap.size, 0, none⟩) n n] } = Value.slice (some ⟨w.heap.size, 0, none⟩) n n := by
            simp [one, SV.den, SW.den, SC.den, G.val, List.getD, ← h.rep.ng, slV]
          have hfin : Nx Γ Ψ bs W0 e s.fl s.flr k (a.put o.dst (Value.slice (some ⟨w.heap.size, 0, none⟩) n n)) w' := by
            rw [← hv]
            exact Nx.here ⟨[], [], [Value.slice (some ⟨w.heap.size, 0, none⟩) n n], [], by simp⟩ (hrel.put o.dst _) ((put_fields _ _ _).2.2.2.2.1) ((put_fields _ _ _).2.2.2.2.2) ((put_dp _ _ _).trans hdp) hs
          rw [hn] at hk1 hk2
          unfold Oper.wp
          simp only [execOp, ho, hk1, hk2, Sem.run_bind, hr, Result.andThen_ok, Sem.run_pure]
          exact hfin
        · exact hs.elim
    · exact hs.elim
  · exact hs.elim

theorem zsame_eq : ∀ {a b : List SC}, zsame a b = true → a = b
  | [], [], _ => rfl
  | [], y :: ys, h => by simp [zsame] at h
  | x :: xs, [], h => by unfold zsame at h; split at h <;> simp_all
  | x :: xs, y :: ys, h => by
    have key : x = y ∧ zsame xs ys = true := by
      unfold zsame at h
      split at h
      · simp_all
      · rename_i h1 h2
        simp only [List.cons.injEq] at h1 h2
        simp only [Bool.and_eq_true, beq_iff_eq] at h
        exact ⟨by rw [h1.1, h2.1, h.1.1, h.1.2], by rw [h1.2, h2.2]; exact h.2⟩
      · rename_i h1 h2
        simp only [List.cons.injEq] at h1 h2
        simp only [Bool.and_eq_true, beq_iff_eq] at h
        exact ⟨by rw [h1.1, h2.1, h.1], by rw [h1.2, h2.2]; exact h.2⟩
      · cases h
    rw [key.1, zsame_eq key.2]
theorem allocT_sound {s : St} {a : Act} {w : World} {W0 : Bas} {e : Env} {o : Oper} {t : TypeId} {ks : List K} {n : Nat} {z : List SC} {es : List E} {k : St → T} {Q : Exit → Act → World → Prop} (h : Rel e W0 s a w) (hdp : s.dp = bs.length) (ho : o.op = .alloc t)
    (hz : bigZ P t = some (ks, n, z, es)) (hs : (allocT o t ks n es s k).sat Γ e.R Ψ bs e.r) : o.wp P a w (Nx Γ Ψ bs W0 e s.fl s.flr k) Q := by
  unfold bigZ at hz
  split at hz
  · rename_i n0 elem hu
    split at hz
    · rename_i ks0 z0 hks hz0
      split at hz
      · rename_i es0 hes
        split at hz
        · rename_i hc
          simp only [Bool.and_eq_true, decide_eq_true_eq] at hc
          obtain ⟨⟨⟨hn1, hn2⟩, hk0⟩, hzs⟩ := hc
          simp only [Option.some.injEq, Prod.mk.injEq] at hz
          obtain ⟨rfl, rfl, rfl, rfl⟩ := hz
          unfold allocT at hs
          split at hs
          · rename_i hscp
            obtain ⟨zv, hz1, hz2⟩ := run_zeroValue' hz0 w e
            obtain ⟨f1, f2⟩ := flatC_den (e := e) hes
            have hzz := zsame_eq hzs
            have hel : elt ks0 ((elemE es0).den e.R e.r) = es0.map (E.den e.R e.r) := elemE_elt _ _ f1
            have hdec : dec ((mkRep (.c (n0 : Int)) (elemE es0)).den e.R e.r) = List.replicate n0 ((elemE es0).den e.R e.r) := by rw [mkRep_den, dec_cod]; simp [E.den]
            have hcl : z0.map (SC.den e) = cellsL ks0 (List.replicate n0 ((elemE es0).den e.R e.r)) := by
              rw [← hzz, repl_den]
              simp only [cellsL, List.flatMap_replicate, hel, ← f2]
            have hr : (execOp a.eval o).run P w = .ok (.value (.pointer (some ⟨w.heap.size, 0, none⟩))) (w.alloc (.cells (z0.map (SC.den e)).toArray t)) := by
              simp [execOp, ho, Instr.alloc, hz1, newVar, newRow, hz2]
            have hgr := World.grownBy_alloc w (.cells (z0.map (SC.den e)).toArray t) none
            have hll : (cellsL ks0 (List.replicate n0 ((elemE es0).den e.R e.r))).length = n0 * ks0.length := by
              rw [cellsL_length (fun x hx => by rw [(List.mem_replicate.1 hx).2, hel]; simpa using f1), List.length_replicate]
            have hrow : RowOK (w.alloc (.cells (z0.map (SC.den e)).toArray t)) t ks0 (.slice (some ⟨w.heap.size, 0, none⟩) n0 n0) ((mkRep (.c (n0 : Int)) (elemE es0)).den e.R e.r) := by
              refine .inr ⟨hk0, ?_, ?_⟩
              · rw [hdec]
                intro x hx
                rw [(List.mem_replicate.1 hx).2, hel]
                simpa using f1
              · rw [hdec, List.length_replicate]
                refine ⟨hll, .inr ⟨w.heap.size, n0, (z0.map (SC.den e)).toArray, rfl, Nat.zero_le _, heap_alloc_new _ _, Nat.le_refl _, by unfold maxLen; omega, by rw [hcl]; simpa using hll, ?_⟩⟩
                rw [hcl, ← hll]
                exact List.take_length
            have hrep1 := h.rep.grownRow hgr (fun k hk => by cases hk) (fun n b hb hl hk => by cases hk) (fun n b hb hl k hk hk' => by cases hk')
            obtain ⟨hrep, hlike⟩ := hrep1.addRows hscp (rows := [(⟨t, ks0, mkRep (.c (n0 : Int)) (elemE es0), true⟩ : Row)]) (vals := [Value.slice (some ⟨w.heap.size, 0, none⟩) n0 n0]) rfl (fun j b v hj hv _ => by
                cases j with
                | zero =>
                  simp only [List.getElem?_cons_zero, Option.some.injEq] at hj hv
                  subst hj; subst hv
                  exact ⟨⟨_, _, _, rfl⟩, hrow⟩
                | succ j => simp at hj)
              (fun j b v k hj hv _ hk => by
                cases j with
                | zero =>
                  simp only [List.getElem?_cons_zero, Option.some.injEq] at hv
                  subst hv
                  simp only [rowBlk] at hk
                  split at hk
                  · cases hk
                  · simp only [Option.some.injEq] at hk
                    subst hk
                    refine ⟨.inl h.rep.below.size, fun n b hb hl heq => ?_, fun n b hb hl heq => ?_⟩
                    · have := heap_lt (h.rep.blk n b hb hl); omega
                    · have := (h.rep.row n b hb hl).blk_lt heq; omega
                | succ j => simp at hj)
              (fun i j u v k hi hj _ _ => by
                cases i <;> cases j <;> simp at hi hj ⊢)
            have hrel : Rel { e with σ := e.σ ++ [Value.slice (some ⟨w.heap.size, 0, none⟩) n0 n0] } W0 { s with rows := s.rows ++ [(⟨t, ks0, mkRep (.c (n0 : Int)) (elemE es0), true⟩ : Row)] } a (w.alloc (.cells (z0.map (SC.den e)).toArray t)) := ⟨hrep, by
              rw [h.tmps]; congr 1
              exact List.map_congr_left fun y hy => (SV.den_like hlike y ((St.scp_spec hscp).1 y hy)).symm, h.defs⟩
            have hv : (one (.gp (.o s.rows.length) ks0.length (.c 0) 0)).den { e with σ := e.σ ++ [Value.slice (some ⟨w.heap.size, 0, none⟩) n0 n0] } = Value.pointer (some ⟨w.heap.size, 0, none⟩) := by
              simp [one, SV.den, SW.den, SC.den, G.val, List.getD, ← h.rep.ng, slV, atV, E.den, Addr.add_lit]
            have hfin : Nx Γ Ψ bs W0 e s.fl s.flr k (a.put o.dst (Value.pointer (some ⟨w.heap.size, 0, none⟩))) (w.alloc (.cells (z0.map (SC.den e)).toArray t)) := by
              rw [← hv]
              exact Nx.here ⟨[], [], [Value.slice (some ⟨w.heap.size, 0, none⟩) n0 n0], [], by simp⟩ (hrel.put o.dst _) ((put_fields _ _ _).2.2.2.2.1) ((put_fields _ _ _).2.2.2.2.2) ((put_dp _ _ _).trans hdp) hs
            unfold Oper.wp
            rw [hr]
            exact hfin
          · exact hs.elim
        · cases hz
      · cases hz
    · cases hz
  · cases hz

theorem Env.le.trans {a b c : Env} (h : Env.le a b) (h' : Env.le b c) : Env.le a c := Env.le_trans h h'

/-- An operation. -/
theorem opT_sound (hG : Gok P Γ) {ih : Code → St → Kont → T} (hih : IH P Γ ih) {s : St} {a : Act} {w : World} {W0 : Bas} {e : Env} {o : Oper} {k : St → T} {Q : Exit → Act → World → Prop} (h : Rel e W0 s a w) (hdp : s.dp = bs.length)
    (hs : (opT P Γ ih o s k).sat Γ e.R Ψ bs e.r) : o.wp P a w (Nx Γ Ψ bs W0 e s.fl s.flr k) Q := by
  have h1 : ∀ {as : List B} {v : SV} {s' : St}, op1 P s o = some (as, v, s') → (asrts as (k (s'.put o.dst v))).sat Γ e.R Ψ bs e.r → o.wp P a w (Nx Γ Ψ bs W0 e s.fl s.flr k) Q := by
    intro as v s' h1 hs
    obtain ⟨has, hs'⟩ := asrts_sat hs
    exact opOut_wp h (op1_sound h1 h.rep (fun x _ => h.eval x) has) hdp hs'
  unfold opT at hs
  split at hs
  · rename_i c ho
    unfold callT at hs
    split at hs
    · rename_i F hcal
      split at hs
      · rename_i fn caps hF
        dsimp only at hs
        split at hs
        · exact hs.elim
        · rename_i hcond
          simp only [Bool.or_eq_true, Bool.not_eq_true', not_or, Bool.not_eq_false] at hcond
          obtain ⟨hsc, hcl⟩ := hcond
          have hevF : a.eval F = .func (.func fn) #[] ((caps.map fun p => one (.p p.1 p.2)).map (SV.den e)).toArray := by
            rw [h.eval F, hF]
            simp [SV.den, SW.den, SC.den, one, Function.comp_def]
          have hrun := run_enter hcl ho hcal hevF w
          have hargs : c.args.map a.eval ++ ((caps.map fun p => one (.p p.1 p.2)).map (SV.den e)).toArray = ((c.args.toList.map s.ev ++ caps.map fun p => one (.p p.1 p.2)).map (SV.den e)).toArray := by
            apply Array.ext'
            simp only [Array.toList_append, Array.toList_map, List.map_append, List.map_map]
            congr 1
            exact List.map_congr_left fun x _ => h.eval x
          rw [hargs] at hrun
          have fin : ∀ {R : Ending → World → Prop}, Calls P fn ((c.args.toList.map s.ev ++ caps.map fun p => one (.p p.1 p.2)).map (SV.den e)).toArray w (fun x w' => ∃ v, x = .returned v ∧ Nx Γ Ψ bs W0 e s.fl s.flr k (a.put o.dst v) w') → o.wp P a w (Nx Γ Ψ bs W0 e s.fl s.flr k) Q := by
            intro _ hcalls
            unfold Oper.wp
            rw [hrun]
            simp only [Oper.upon_enter]
            refine hcalls.mono ?_
            rintro x w' ⟨v, rfl, hn⟩
            exact hn
          split at hs
          · rename_i g sum hfs
            obtain ⟨hfn, j, rfl, hg⟩ := findSum_spec hfs
            simp only [Nat.zero_add] at hs
            split at hs
            · exact hs.elim
            · rename_i hgl
              simp only [Bool.not_eq_true', Bool.not_eq_false] at hgl
              subst hfn
              split at hs
              · rename_i f hmn
                split at hs
                · exact hs.elim
                · rename_i hargs
                  simp only [Bool.not_eq_true', Bool.not_eq_false] at hargs
                  split at hs
                  · rename_i as es kk hfl
                    exact fin (R := fun _ _ => True) (callW_m hG h hdp hsc hg hmn hgl hargs hfl hs)
                  · exact hs.elim
              · rename_i hmn
                split at hs
                · rename_i as es hfl
                  exact fin (R := fun _ _ => True) (callW_sum hG h hdp hsc hg hmn hgl hfl hs)
                · exact hs.elim
          · split at hs
            · rename_i Fn hFn
              split at hs
              · rename_i body hb
                exact fin (R := fun _ _ => True) (callW_in hih h hdp hsc hFn hb hs)
              · exact hs.elim
            · exact hs.elim
      · exact hs.elim
    · rename_i hcal
      exact appT_sound h hdp ho hcal hs
    · rename_i b _ hcal
      split at hs
      · rename_i as v s' h1'
        exact h1 h1' hs
      · exact hs.elim
    · exact hs.elim
  · rename_i t l c ho
    exact makeT_sound h hdp ho hs
  · rename_i t ho
    split at hs
    · rename_i hz
      exact allocT_sound h hdp ho hz hs
    · split at hs
      · rename_i as v s' h1'
        exact h1 h1' hs
      · exact hs.elim
  · split at hs
    · rename_i as v s' h1'
      exact h1 h1' hs
    · exact hs.elim

theorem Oper.wp_mono' {o : Oper} {a : Act} {w : World} {K K' : Act → World → Prop} {Q : Exit → Act → World → Prop} (hh : o.wp P a w K Q) (h : ∀ a w, K a w → K' a w) : o.wp P a w K' Q := Oper.wp_mono h hh

theorem sat_fr {s : St} {x : List SV} : ({ s with fr := x } : St).fl = s.fl ∧ ({ s with fr := x } : St).flr = s.flr := ⟨rfl, rfl⟩

/-- Operations in sequence. -/
theorem execOps_sound (hG : Gok P Γ) {ih : Code → St → Kont → T} (hih : IH P Γ ih) {W0 : Bas} {ops : Array Oper} {Q : Exit → Act → World → Prop} : ∀ (l : List Oper) (s : St) (k : St → T) (bs : List (List Int → Prop)) (e : Env) (a : Act) (w : World), Rel e W0 s a w → s.dp = bs.length →
    (execOps P Γ ih ops l s k).sat Γ e.R Ψ bs e.r → (∀ a' w', Nx Γ Ψ bs W0 e s.fl s.flr k a' w' → Q .normal a' w') → wpList P ops Q l a w
  | [], s, k, bs, e, a, w, h, hdp, hs, hQ => hQ a w (Nx.here (Env.le_refl _) h rfl rfl hdp hs)
  | o :: l, s, k, bs, e, a, w, h, hdp, hs, hQ => by
    simp only [execOps] at hs
    obtain ⟨x, h1, hs1⟩ := forkO_sat h hs
    have next : ∀ (s3 : St) (e3 : Env) (more : List (List Int → Prop)) (a3 : Act) (w3 : World), Env.le e e3 → Rel e3 W0 s3 a3 w3 → s3.fl = s.fl → s3.flr = s.flr → s3.dp = (bs ++ more).length → (execOps P Γ ih ops l s3 k).sat Γ e3.R Ψ (bs ++ more) e3.r → wpList P ops Q l a3 w3 := by
      intro s3 e3 more a3 w3 hle h3 hf hfr hd hs3
      refine execOps_sound hG hih l s3 k (bs ++ more) e3 a3 w3 h3 hd hs3 ?_
      rintro a' w' ⟨s', e', more', hle', hrel', hf', hfr', hd', hsat'⟩
      exact hQ a' w' ⟨s', e', more ++ more', hle.trans hle', hrel', hf'.trans hf, hfr'.trans hfr, by rw [← List.append_assoc]; exact hd', by rw [← List.append_assoc]; exact hsat'⟩
    unfold wpList
    split at hs1
    · rename_i hw
      rw [if_pos (wantedS_spec h1 hw)]
      left
      obtain ⟨y, h2, hs2⟩ := forkO_sat h1 hs1
      refine Oper.wp_mono' (opT_sound hG hih h2 hdp hs2) ?_
      rintro a3 w3 ⟨s3, e3, more, hle, hrel, hf, hfr, hd, hsat⟩
      exact next s3 e3 more a3 w3 hle hrel hf hfr hd hsat
    · rename_i hw
      rw [if_neg (by rw [wantedS_spec h1 hw]; simp)]
      have hput := h1.put o.dst undefS
      exact next _ e [] _ w (Env.le_refl _) hput (put_fields _ _ _).2.2.2.2.1 (put_fields _ _ _).2.2.2.2.2 ((put_dp _ _ _).trans (by simpa using hdp)) (by simpa using hs1)
    · exact hs1.elim

end Go.Sx
