/-
  Symbolic execution: a slice of a block that is known cell by cell becomes a row.
-/
import Derived.Test.YtgcoidbaoigkeaaSwSp
set_option linter.unusedVariables false
set_option linter.unusedSimpArgs false
namespace Go.Sx
open Go.RowKit

def promT (P : Program) (s : St) (t : Tmp) : Option St := match s.ev (.tmp t) with
  | .w (.o (.s n 0 len cap)) => match s.mem[n]? with
    | some b => match shTy P 8 b.ty with
      | some ks => match chunks ks len b.cells with
        | some l => if ((b.live && decide (s.fl ≤ n)) && (decide (len = cap) && decide (b.cells.length = len * ks.length))) && ((decide (ks.length ≠ 0) && decide (0 < len)) && (decide (cap ≤ 1000000) && (s.sc && decide (t < s.fr.length)))) then
            some { s with mem := killB [n] 0 s.mem, rows := s.rows ++ [⟨b.ty, ks, listE l, true⟩], fr := s.fr.set t (.w (.o (.go (.o s.rows.length)))) } else none
        | none => none
      | none => none
    | none => none
  | _ => none

section
variable {P : Program}
theorem promT_rel {e : Env} {W0 : Bas} {s s2 : St} {a : Act} {w : World} {t : Tmp} (hp : promT P s t = some s2) (h : Rel e W0 s a w) :
    ∃ e', Env.le e e' ∧ e'.r = e.r ∧ e'.R = e.R ∧ Rel e' W0 s2 a w ∧ s2.fl = s.fl ∧ s2.flr = s.flr ∧ s2.dp = s.dp := by
  unfold promT at hp
  split at hp
  · rename_i n len cap hev
    split at hp
    · rename_i b hb
      split at hp
      · rename_i ks hks
        split at hp
        · rename_i l hch
          split at hp
          · rename_i hc
            simp only [Bool.and_eq_true, decide_eq_true_eq] at hc
            obtain ⟨⟨⟨hl, hfl⟩, rfl, hbl⟩, ⟨hk0, hlen⟩, hcap, hsc, htl⟩ := hc
            simp only [Option.some.injEq] at hp
            subst hp
            have hrep := h.rep
            obtain ⟨a1, a2, a3⟩ := chunks_den (e := e) hch (by omega)
            have hd : dec ((listE l).den e.R e.r) = l.map (E.den e.R e.r) := by rw [listE_den, dec_cod]
            have hblk := hrep.blk n b hb hl
            have hcl : cellsL ks (dec ((listE l).den e.R e.r)) = b.cells.map (SC.den e) := by
              rw [hd, a3, List.take_of_length_le (by simp; omega)]
            have hrow : RowOK w b.ty ks (.slice (some ⟨e.β.getD n 0, 0, none⟩) len len) ((listE l).den e.R e.r) := by
              refine .inr ⟨hk0, by rw [hd]; exact a2, ?_⟩
              rw [hcl]
              have hlen' : (dec ((listE l).den e.R e.r)).length = len := by rw [hd, List.length_map, a1]
              rw [hlen']
              refine ⟨by simp [hbl], .inr ⟨e.β.getD n 0, len, _, rfl, Nat.zero_le _, hblk, Nat.le_refl _, by simp only [maxLen]; omega, by simp [hbl], by simp only [List.toList_toArray]; exact List.take_of_length_le (by simp [hbl])⟩⟩
            have hk := hrep.killM [n]
            have hscp := St.sc_scp hsc
            have hkscp : ({ s with mem := killB [n] 0 s.mem } : St).scp = true := by
              obtain ⟨hf, hm⟩ := St.scp_spec hscp
              unfold St.scp
              rw [Bool.and_eq_true]
              refine ⟨List.all_eq_true.2 fun v hv => ?_, List.all_eq_true.2 fun c hc => ?_⟩
              · rw [killB_length]
                exact hf v hv
              · rw [killB_length]
                obtain ⟨i, hi⟩ := List.mem_iff_getElem?.1 hc
                obtain ⟨c', h1, _, h2, _⟩ := killB_some hi
                rw [h2]
                exact hm c' (List.mem_of_getElem? h1)
            have hadd := hk.addRows hkscp (rows := [⟨b.ty, ks, listE l, true⟩]) (vals := [.slice (some ⟨e.β.getD n 0, 0, none⟩) len len]) rfl
              (by
                intro j b' v hj hv _
                obtain ⟨rfl, rfl⟩ : j = 0 ∧ b' = ⟨b.ty, ks, listE l, true⟩ := by
                  match j, hj with
                  | 0, hj => exact ⟨rfl, by simpa using hj.symm⟩
                  | j + 1, hj => simp at hj
                simp only [List.getElem?_cons_zero, Option.some.injEq] at hv
                subst hv
                exact ⟨⟨_, _, _, rfl⟩, hrow⟩)
              (by
                intro j b' v k hj hv _ hk'
                obtain rfl : j = 0 := by
                  match j, hj with
                  | 0, hj => rfl
                  | j + 1, hj => simp at hj
                simp only [List.getElem?_cons_zero, Option.some.injEq] at hv
                subst hv
                have hkk : e.β.getD n 0 = k := by
                  have h0 : ¬ len = 0 := by omega
                  simpa [rowBlk, h0] using hk'
                subst hkk
                refine ⟨hrep.own n b hb hl hfl, fun n' c hc hlc he => ?_, fun n' c hc hlc he => hrep.brs n n' b c hb hc hl hlc he⟩
                obtain ⟨c', h1, _, _, h4⟩ := killB_some hc
                obtain ⟨h5, h6, rfl⟩ := h4 hlc
                have := hrep.sep n' n c b h1 hb hlc hl he
                subst this
                exact absurd h6 (by simp))
              (by
                intro i j u v k hi hj _ _
                match i, j, hi, hj with
                | 0, 0, _, _ => rfl
                | i + 1, _, hi, _ => simp at hi
                | 0, j + 1, _, hj => simp at hj)
            obtain ⟨hadd, _⟩ := hadd
            have hle : Env.le e { e with σ := e.σ ++ [.slice (some ⟨e.β.getD n 0, 0, none⟩) len len] } := ⟨[], [], [.slice (some ⟨e.β.getD n 0, 0, none⟩) len len], [], by simp⟩
            refine ⟨_, hle, rfl, rfl, ⟨hadd.fr _, ?_, h.defs⟩, rfl, rfl, rfl⟩
            rw [h.tmps]
            congr 1
            simp only [St.sc, Bool.and_eq_true] at hsc
            obtain ⟨⟨hf, _⟩, _⟩ := hsc
            rw [← hrep.nv, ← hrep.nb, ← hrep.ng, ← hrep.nx] at hf
            have hfe : s.fr.map (SV.den e) = s.fr.map (SV.den { e with σ := e.σ ++ [.slice (some ⟨e.β.getD n 0, 0, none⟩) len len] }) :=
              List.map_congr_left fun v hv => (SV.den_le hle v (List.all_eq_true.1 hf v hv)).symm
            rw [hfe]
            have hft : s.fr[t]? = some (.w (.o (.s n 0 len len))) := by
              simp only [St.ev, List.getD] at hev
              rw [List.getElem?_eq_getElem htl] at hev ⊢
              simpa using hev
            have hden : (SV.w (.o (.go (.o s.rows.length)))).den { e with σ := e.σ ++ [.slice (some ⟨e.β.getD n 0, 0, none⟩) len len] } = (SV.w (.o (.s n 0 len len))).den { e with σ := e.σ ++ [.slice (some ⟨e.β.getD n 0, 0, none⟩) len len] } := by
              simp only [SV.den, SW.den, SC.den, G.val]
              have : (e.σ ++ [Value.slice (some ⟨e.β.getD n 0, 0, none⟩) len len]).getD s.rows.length undef = .slice (some ⟨e.β.getD n 0, 0, none⟩) len len := by
                simp only [List.getD]
                rw [List.getElem?_append_right (by rw [hrep.ng]; exact Nat.le_refl _), hrep.ng, Nat.sub_self]
                rfl
              rw [this]
              rfl
            apply List.ext_getElem?
            intro i
            simp only [List.getElem?_map, List.getElem?_set]
            by_cases hi : t = i
            · subst hi
              rw [if_pos rfl, if_pos htl, hft]
              simp only [Option.map_some, hden]
            · rw [if_neg hi]
          · cases hp
        · cases hp
      · cases hp
    · cases hp
  · cases hp
#print axioms promT_rel
end

def symP (P : Program) (id0 : Nat) (t0 : Tmp) (ex : Code → St → Kont → T) : Code → List Code → St → Kont → T
  | .seq x y, rest, s, k => if hasId id0 x then symP P id0 t0 ex x (y :: rest) s k else ex x s fun o s' => match o with
    | .norm => if hasId id0 y then symP P id0 t0 ex y rest s' k else ex (seqs (y :: rest)) s' k
    | o => k o s'
  | .region id ops d, rest, s, k => match promT P s t0 with
    | some s' => ex (seqs (.region id ops d :: rest)) s' k
    | none => ex (seqs (.region id ops d :: rest)) s k
  | _, _, _, _ => .fail
def doneP (P : Program) (F : Func) (rs : List Sh) (t : Tmp) : Kont := fun out s => match promT P s t with
  | some s' => doneK P F rs out s'
  | none => doneK P F rs out s
section
variable {P : Program} {Γ : List Sum} {Ψ : List Int → Prop}
theorem symP_sound {id0 : Nat} {t0 : Tmp} {ex : Code → St → Kont → T} (hih : IH P Γ ex) {W0 : Bas} {k : Kont} :
    ∀ (c : Code) (rest : List Code) (s : St) (bs : List (List Int → Prop)) (e : Env) (a : Act) (w : World), Rel e W0 s a w → s.dp = bs.length → (symP P id0 t0 ex c rest s k).sat Γ e.R Ψ bs e.r →
      c.wp P (seqQ P rest (Px Γ Ψ bs W0 e s.fl s.flr k)) a w := by
  have up : ∀ {bs more : List (List Int → Prop)} {e e' : Env} {fl flr fl' flr' : Nat} {x : Exit} {a : Act} {w : World}, Env.le e e' → fl' = fl → flr' = flr → Px Γ Ψ (bs ++ more) W0 e' fl' flr' k x a w → Px Γ Ψ bs W0 e fl flr k x a w := by
    rintro bs more e e' fl flr fl' flr' x a w hle h1 h2 ⟨out, s', e2, more', hx, hle', hrel, hf, hfr, hd, hsat⟩
    exact ⟨out, s', e2, more ++ more', hx, hle.trans hle', hrel, hf.trans h1, hfr.trans h2, by rw [← List.append_assoc]; exact hd, by rw [← List.append_assoc]; exact hsat⟩
  have seqQ_mono : ∀ (l : List Code) {Q Q' : Exit → Act → World → Prop}, (∀ x a w, Q x a w → Q' x a w) → ∀ x a w, seqQ P l Q x a w → seqQ P l Q' x a w := by
    intro l
    induction l with
    | nil => intro Q Q' hQ x a w h; exact hQ x a w h
    | cons y r ih =>
      intro Q Q' hQ x a w h
      have h1 := ih hQ
      cases x with
      | normal => exact wp_mono h h1
      | _ => exact h1 _ _ _ h
  intro c
  induction c with
  | seq x y ihx ihy =>
    intro rest s bs e a w h hdp hs
    simp only [symP] at hs
    split at hs
    · exact wp_seq (ihx (y :: rest) s bs e a w h hdp hs)
    · refine wp_seq (wp_mono (wps_wp x (hih x s _ _ Ψ bs e a w h hdp hs)) ?_)
      rintro ex' a' w' ⟨out, s', e', more, rfl, hle, hrel, hf, hfr, hd, hsat⟩
      cases out with
      | norm =>
        dsimp only at hsat
        split at hsat
        · exact wp_mono (ihy rest s' (bs ++ more) e' a' w' hrel hd hsat) (seqQ_mono rest fun x a w hh => up hle hf hfr hh)
        · have := seqs_wp (y :: rest) (hih (seqs (y :: rest)) s' _ W0 Ψ (bs ++ more) e' a' w' hrel hd hsat)
          exact seqQ_mono (y :: rest) (fun x a w hh => up hle hf hfr hh) _ _ _ this
      | exit id => exact seqQ_out (x := .exit id) (by intro hh; cases hh) ⟨.exit id, s', e', more, rfl, hle, hrel, hf, hfr, hd, hsat⟩ rest
      | ret => exact seqQ_out (x := .ret) (by intro hh; cases hh) ⟨.ret, s', e', more, rfl, hle, hrel, hf, hfr, hd, hsat⟩ rest
  | region id ops d =>
    intro rest s bs e a w h hdp hs
    simp only [symP] at hs
    split at hs
    · rename_i s' hp
      obtain ⟨e', hle, hr, hR, hrel, hf, hfr, hd⟩ := promT_rel hp h
      rw [← hr, ← hR] at hs
      have := seqs_wp (.region id ops d :: rest) (hih (seqs (.region id ops d :: rest)) s' _ W0 Ψ bs e' a w hrel (hd.trans hdp) hs)
      refine wp_mono (show Code.wp P (.region id ops d) _ a w from this) (seqQ_mono rest fun x a w hh => ?_)
      exact up (more := []) hle hf hfr (by rw [List.append_nil]; exact hh)
    · have := seqs_wp (.region id ops d :: rest) (hih (seqs (.region id ops d :: rest)) s _ W0 Ψ bs e a w h hdp hs)
      exact (show Code.wp P (.region id ops d) _ a w from this)
  | _ => intro rest s bs e a w h hdp hs; simp only [symP] at hs; exact hs.elim

def symPr (P : Program) (lp : St → Code → Option Plan) (gl : List (Nat × List Int)) (Γ : List Sum) (id0 : Nat) (t0 t1 : Tmp) (fuel : Nat) (fn : FuncId) (ps rs : List Sh) : T := match P.funcs[fn]? with
  | some F => match F.body with
    | some body => symP P id0 t0 (exec P lp Γ fuel) body [] ⟨frameOf ps F.ntmps, [], [], total ps, 0, 0, 0, gl, hsE (allK ps) (varsFrom 0 (total ps)), 0⟩ (doneP P F rs t1)
    | none => .fail
  | none => .fail
theorem symPr_sound (hm : P.follows .mixedOrders = true) (hG : Gok P Γ) {id0 : Nat} {t0 t1 : Tmp} {lp : St → Code → Option Plan} {gl : List (Nat × List Int)} {fuel : Nat} {fn : FuncId} {ps rs : List Sh} {xs : List Int} {vs : List Value} (w : World) (hx : ShsR (fun _ ks u n => SlN w ks u n) ps vs xs)
    (hs : (symPr P lp gl Γ id0 t0 t1 fuel fn ps rs).sat Γ [] Ψ [] xs) (hgl : GlOK gl w) :
    Calls P fn vs.toArray w fun x w' => ∃ ys v, x = .returned v ∧ Ψ ys ∧ ResOK (fun k => w.heap.size ≤ k) w' rs v ys ∧ Below w.heap.size w w' := by
  unfold symPr at hs
  split at hs
  · rename_i F hF
    split at hs
    · rename_i body hb
      have hxl := hx.len.1
      have hv : (varsFrom 0 (total ps)).map (E.den (slsShs ps vs) xs) = xs := by
        have := varsFrom_den (R := slsShs ps vs) (r := []) hxl
        simpa using this
      have hx' : ShsR (fun _ ks u n => SlN w ks u n) ps vs ((varsFrom 0 (total ps)).map (E.den (⟨xs, [], [], [], slsShs ps vs⟩ : Env).R (⟨xs, [], [], [], slsShs ps vs⟩ : Env).r)) := by
        show ShsR _ ps vs ((varsFrom 0 (total ps)).map (E.den (slsShs ps vs) xs))
        rw [hv]; exact hx
      obtain ⟨r1, r2⟩ := slsShs_rows hx'
      have hsl : ∀ (j : Nat) (u : Value), (slsShs ps vs)[j]? = some u → ∃ a l cp, u = .slice a l cp := fun j u hj => by
        obtain ⟨b, hb'⟩ : ∃ b, (rowsE (allK ps) (varsFrom 0 (total ps)))[j]? = some b := ⟨_, List.getElem?_eq_getElem (by rw [← r1]; exact (List.getElem?_eq_some_iff.1 hj).1)⟩
        exact (r2 j b u hb' hj).now.slice
      have hden : ((shsE argG 0 ps (varsFrom 0 (total ps))).map SV.w).map (SV.den ⟨xs, [], [], [], slsShs ps vs⟩) = vs := by
        rw [List.map_map]
        refine shsE_val (e := ⟨xs, [], [], [], slsShs ps vs⟩) hx' fun j u hj => ?_
        simp only [argG, SC.den, G.val, Nat.zero_add, List.getD, hj, Option.getD_some]
        exact slV_of (hsl j u hj)
      have hrep : Rep ⟨xs, [], [], [], slsShs ps vs⟩ ⟨w, fun _ => False⟩ ⟨frameOf ps F.ntmps, [], [], total ps, 0, 0, 0, gl, hsE (allK ps) (varsFrom 0 (total ps)), 0⟩ w := by
        refine ⟨BelowX.refl _, rfl, rfl, hxl, rfl, ?_, ?_, ?_, ?_, ?_, ?_, ?_, ⟨hgl, fun _ _ _ hh => hh⟩, ?_⟩
        · intro n b hb; simp at hb
        · intro n b hb; simp at hb
        · intro n m b c hb; simp at hb
        · intro n b hb; simp at hb
        · intro n b hb; simp at hb
        · intro n m b c k hb; simp at hb
        · intro n m b c hb; simp at hb
        · intro i ks c hi
          obtain ⟨ty, hr⟩ := hsE_rows hi
          have hlt : i < (slsShs ps vs).length := by rw [r1]; exact (List.getElem?_eq_some_iff.1 hr).1
          have hu : (slsShs ps vs)[i]? = some (slsShs ps vs)[i] := List.getElem?_eq_getElem hlt
          have := r2 i _ _ hr hu
          show SlN w ks (slV ((slsShs ps vs).getD i undef)) _
          rw [show (slsShs ps vs).getD i undef = (slsShs ps vs)[i] by simp [List.getD, hu], slV_of (hsl i _ hu)]
          exact this
      rw [T.sat_R [] (slsShs ps vs)] at hs
      have hfr : frameOf ps F.ntmps = ((shsE argG 0 ps (varsFrom 0 (total ps))).map SV.w) ++ List.replicate (F.ntmps - ((shsE argG 0 ps (varsFrom 0 (total ps))).map SV.w).length) undefS := rfl
      have hc := calls_own (P := P) (Γ := Γ) (Ψ := Ψ) (bs := []) (args := (shsE argG 0 ps (varsFrom 0 (total ps))).map SV.w) (k := doneP P F rs t1)
        (R := fun x w' => ∃ ys v, x = .returned v ∧ Ψ ys ∧ ResOK (fun k => w.heap.size ≤ k) w' rs v ys ∧ Below w.heap.size w w') hrep hF hb (fun a hrel => ?_) ?_
      · rw [hden] at hc
        exact hc
      · exact symP_sound (exec_sound hm (lp := lp) hG fuel) body [] _ [] _ a w hrel rfl hs
      · intro out s' e' a' w' more hrel hle hsat
        have fin : ∀ (s2 : St) (e2 : Env) (bs : List (List Int → Prop)), Rel e2 ⟨w, fun _ => False⟩ s2 a' w' → (doneK P F rs out s2).sat Γ e2.R Ψ bs e2.r → (∀ id, out ≠ .exit id) ∧ ∃ v, (results F a'.tmps).run P w' = .ok v w' ∧ ∃ ys v', Ending.returned v = .returned v' ∧ Ψ ys ∧ ResOK (fun k => w.heap.size ≤ k) w' rs v' ys ∧ Below w.heap.size w w' := by
          intro s2 e2 bs hrel2 hs2
          obtain ⟨hne, ys, v, h1, h2, h3⟩ := doneK_sat hrel2 hs2
          exact ⟨hne, v, h3, ys, v, rfl, h1, h2.up (fun k hk => hk.elim id (fun hh => hh.elim)), hrel2.rep.below.below⟩
        unfold doneP at hsat
        split at hsat
        · rename_i s2 hp
          obtain ⟨e2, hle2, hr, hR, hrel2, _, _, _⟩ := promT_rel hp hrel
          rw [← hr, ← hR] at hsat
          exact fin s2 e2 _ hrel2 hsat
        · exact fin s' e' _ hrel hsat
    · exact hs.elim
  · exact hs.elim
theorem Sum.okPr (hm : P.follows .mixedOrders = true) (hG : Gok P Γ) {id0 : Nat} {t0 t1 : Tmp} {lp : St → Code → Option Plan} {lv : List (Nat × List (Option Iv))} {gl : List (Nat × List Int)} {fuel : Nat} {outs : List Inf} (ho : outsOK Γ outs) {fn : FuncId} {ps rs : List Sh} {pin : List (Option Iv)} {pre : List Int → Prop} {sem : List Int → List Int} {t : TX}
    (ht : merge (optFL lv outs [] pin (symPr P lp gl Γ id0 t0 t1 fuel fn ps rs)) = t)
    (hsh : (ps ++ rs).all (fun sh => sh.agg || sh.ks.length == 1) = true)
    (hl : ∀ xs : List Int, (sem xs).length = total rs)
    (hpre : ∀ xs, pre xs → vsOK pin xs)
    (hs : ∀ xs : List Int, xs.length = total ps → pre xs → t.sat Γ [] (fun ys => ys = sem xs) [] xs) : (mkP gl fn ps rs pre sem).ok P := by
  subst ht
  refine ⟨fun sh h => ?_, fun xs vs w hgl hx hp => ⟨hl xs, ?_⟩⟩
  · have := List.all_eq_true.1 hsh sh h
    simpa using this
  · refine (symPr_sound (Ψ := fun ys => ys = sem xs) hm hG (gl := gl) w hx (optFL_sound ho _ [] pin [] xs factsOK_nil (hpre xs hp) (merge_sat _ _ _ (hs xs hx.len.1 hp))) hgl).mono ?_
    rintro e w' ⟨ys, v, rfl, rfl, hv, hb⟩
    exact ⟨v, rfl, hv, hb⟩
#print axioms Sum.okPr
end
end Go.Sx
