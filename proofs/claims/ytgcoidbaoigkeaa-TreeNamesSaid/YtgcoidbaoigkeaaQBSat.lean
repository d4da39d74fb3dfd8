/-
  tree.build: the definitions.
-/
import Derived.Test.YtgcoidbaoigkeaaQSort
set_option linter.unusedVariables false
namespace Go.Proofs.Ytgcoidbaoigkeaa.fix
open Go.RowKit Go.Sx

noncomputable def joinB (L b : List Int) (i : Int) : List Int := ex6 (joinP (b ++ six6 (L.getD i.toNat 0)))
noncomputable def boxOf (L s : List Int) : List Int := (s.drop 1).foldl (joinB L) (six6 (L.getD (s.getD 0 0).toNat 0))
def axisOf (b : List Int) : Nat := if b.getD 4 0 - b.getD 1 0 > b.getD 3 0 - b.getD 0 0 then (if b.getD 5 0 - b.getD 2 0 > b.getD 4 0 - b.getD 1 0 then 2 else 1) else (if b.getD 5 0 - b.getD 2 0 > b.getD 3 0 - b.getD 0 0 then 2 else 0)
noncomputable def halfK (L s : List Int) : List Int := sortK L (axisOf (boxOf L s)) s
noncomputable def builtN (L : List Int) : Nat → List Int → Int → List Int
  | 0, _, _ => []
  | f + 1, s, at0 => if s.length ≤ 1 then [cod (boxOf L s ++ [-1, -1, s.getD 0 0])] else
    cod (boxOf L s ++ [at0 + 1, at0 + 1 + ((builtN L f ((halfK L s).take ((s.length + 1) / 2)) (at0 + 1)).length : Int), -1]) ::
      (builtN L f ((halfK L s).take ((s.length + 1) / 2)) (at0 + 1) ++ builtN L f ((halfK L s).drop ((s.length + 1) / 2)) (at0 + 1 + ((builtN L f ((halfK L s).take ((s.length + 1) / 2)) (at0 + 1)).length : Int)))
noncomputable def itemsN (L : List Int) : Nat → List Int → List Int
  | 0, s => s
  | f + 1, s => if s.length ≤ 1 then s else itemsN L f ((halfK L s).take ((s.length + 1) / 2)) ++ itemsN L f ((halfK L s).drop ((s.length + 1) / 2))
structure BuildPre (k : Nat) (T I L : List Int) (lo hi : Int) : Prop where
  lo0 : 0 ≤ lo
  one : lo + 1 ≤ hi
  hi1 : hi ≤ (I.length : Int)
  fuel : hi - lo ≤ (k : Int)
  lenI : I.length ≤ 1000
  lenT : (T.length : Int) + 2 * (hi - lo) ≤ 3000
  its : ∀ x ∈ segL I lo hi, 0 ≤ x ∧ x < (L.length : Int)
  bxs : ∀ b ∈ L, okBox b = true
noncomputable def sem_build (x : List Int) : List Int := [cod (dec (x.getD 0 0) ++ builtN (dec (x.getD 2 0)) (x.getD 4 0 - x.getD 3 0).toNat (segL (dec (x.getD 1 0)) (x.getD 3 0) (x.getD 4 0)) ((dec (x.getD 0 0)).length : Int)),
  cod (putL (dec (x.getD 1 0)) (x.getD 3 0) (x.getD 4 0) (itemsN (dec (x.getD 2 0)) (x.getD 4 0 - x.getD 3 0).toNat (segL (dec (x.getD 1 0)) (x.getD 3 0) (x.getD 4 0)))), ((dec (x.getD 0 0)).length : Int)]
def pre_build (k : Nat) (x : List Int) : Prop := BuildPre k (dec (x.getD 0 0)) (dec (x.getD 1 0)) (dec (x.getD 2 0)) (x.getD 3 0) (x.getD 4 0)
def viewB (s : St) : SC → Option (Nat × E × E)
  | .gv (.o m) 1 lo hi => some (m, lo, hi)
  | .go (.o m) => match s.rows[m]? with
    | some r => some (m, .c 0, mkLn r.c)
    | none => none
  | _ => none
def headB (s : St) (m : Nat) : List SC → Option (E × List Row)
  | [.go (.o k)] => match s.rows[k]? with
    | some r => if (r.live && decide (k ≠ m)) && ((decide (s.flr ≤ k) && decide (r.ty = 66)) && ksame r.ks Br_ks) then some (r.c, s.rows.set k { r with live := false }) else none
    | none => none
  | [.l (.slice none 0 0)] => some (.nl, s.rows)
  | _ => none
noncomputable def fBuild (s : St) (args : List SV) : Option (List B × List E × (Nat → St × SV)) := match args with
  | [.w (.o (.p n 0)), .w (.o (.go (.a i))), .w (.o v)] => match s.mem[n]?, s.hs[i]?, viewB s v with
    | some b, some (ks, cl), some (m, lo, hi) => match s.rows[m]?, headB s m b.cells with
      | some r, some (cT, rows') => if ((b.live && r.live) && (decide (b.ty = 49) && decide (r.ty = 3))) && (((decide (s.fl ≤ n) && decide (s.flr ≤ m)) && (ksame r.ks [.i .i64] && ksame ks Bs_ks)) && glIn gl0 s.gl) then
          some ([], [cT, r.c, cl, lo, hi], fun nv => ({ s with mem := s.mem.set n { b with cells := [.go (.o s.rows.length)] }, rows := rows'.set m { r with c := .v (nv + 1) } ++ [⟨66, Br_ks, .v nv, true⟩], nv := nv + 3 }, Go.Sx.one (.i .i64 (.v (nv + 2))))) else none
      | _, _ => none
    | _, _, _ => none
  | _ => none
noncomputable def s_buildK (k : Nat) : Sum := ⟨48, [], [], sem_build, pre_build k, gl0, some fBuild⟩

noncomputable def st_build : St := { fr := [], mem := [⟨49, [.go (.o 0)], true⟩], rows := [⟨66, Br_ks, .v 0, true⟩, ⟨3, [.i .i64], .v 1, true⟩], nv := 5, nx := 0, fl := 0, flr := 0, gl := gl0, hs := [(Bs_ks, .v 2)] }
noncomputable def as_build : List SV := [Go.Sx.one (.p 0 0), Go.Sx.one (.go (.a 0)), Go.Sx.one (.gv (.o 1) 1 (.v 3) (.v 4))]
noncomputable def K_build (F : Func) : Kont := fun out s => match out with
  | .exit _ => .fail
  | _ => match s.mem[0]?, s.rows[1]?, resOf Try.prog F s with
    | some b, some r1, some (.w (.o (.i .i64 E))) => if (b.live && r1.live) && ((decide (b.ty = 49) && decide (r1.ty = 3)) && ksame r1.ks [.i .i64]) then (match b.cells with
      | [.go (.o j)] => match s.rows[j]? with
        | some r => if (r.live && decide (j ≠ 1)) && ((decide (r.ty = 66) && decide (s.flr ≤ j)) && ksame r.ks Br_ks) then .ret [r.c, r1.c, E] else .fail
        | none => .fail
      | _ => .fail) else .fail
    | _, _, _ => .fail
noncomputable def G_build (k : Nat) : List Sum := [s_bjoin, s_buildK k, s_sst]
noncomputable def T_build (k : Nat) : T := ownB Try.prog (openAt Try.prog [(4, 34)]) (G_build k) 1000 48 st_build as_build 20 2 78 fSst K_build
noncomputable def st_one : St := { fr := [], mem := [⟨49, [.go (.o 0)], true⟩], rows := [⟨66, Br_ks, .v 0, true⟩], nv := 3, nx := 0, fl := 0, flr := 0, gl := gl0, hs := [(Bs_ks, .v 2), ([.i .i64], .v 1)] }
noncomputable def as_one : List SV := [Go.Sx.one (.p 0 0), Go.Sx.one (.go (.a 0)), Go.Sx.one (.go (.a 1))]
noncomputable def K_one (F : Func) : Kont := fun out s => match out with
  | .exit _ => .fail
  | _ => match s.mem[0]?, resOf Try.prog F s with
    | some b, some (.w (.o (.i .i64 E))) => if b.live && decide (b.ty = 49) then (match b.cells with
      | [.go (.o j)] => match s.rows[j]? with
        | some r => if r.live && ((decide (r.ty = 66) && decide (s.flr ≤ j)) && ksame r.ks Br_ks) then .ret [r.c, E] else .fail
        | none => .fail
      | _ => .fail) else .fail
    | _, _ => .fail
noncomputable def T_one : T := ownT Try.prog (openAt Try.prog [(4, 34)]) [s_bjoin] 1000 48 st_one as_one K_one
def pin_build : List (Option Iv) := [none, none, none, iv 0 1000, iv 0 1000]
def pin_one : List (Option Iv) := [none, none, none]
end Go.Proofs.Ytgcoidbaoigkeaa.fix
namespace Go.Proofs.Ytgcoidbaoigkeaa.fix
open Go.RowKit Go.Sx
def i_buildK : Inf := ⟨[some ⟨1, 0⟩], fun _ => [none, none, none]⟩
def i_sst : Inf := ⟨[some ⟨1, 0⟩], fun _ => [none]⟩
end Go.Proofs.Ytgcoidbaoigkeaa.fix
set_option linter.unusedVariables false
set_option linter.unusedSimpArgs false
namespace Go.Proofs.Ytgcoidbaoigkeaa.fix
open Go.RowKit Go.Sx

theorem seg_app (A s B : List Int) : segL (A ++ (s ++ B)) (A.length : Int) ((A.length + s.length : Nat) : Int) = s := by
  unfold segL
  rw [Int.toNat_natCast, Int.toNat_natCast, ← List.append_assoc, List.take_left' (by simp), List.drop_left' rfl]
theorem put_app (A s B s' : List Int) : putL (A ++ (s ++ B)) (A.length : Int) ((A.length + s.length : Nat) : Int) s' = A ++ (s' ++ B) := by
  unfold putL
  rw [Int.toNat_natCast, Int.toNat_natCast, List.take_left' rfl, ← List.append_assoc A s B, List.drop_left' (by simp)]
theorem three (I : List Int) {lo hi : Int} (h0 : 0 ≤ lo) (h1 : lo ≤ hi) (h2 : hi ≤ (I.length : Int)) : ∃ A B : List Int, I = A ++ (segL I lo hi ++ B) ∧ lo = (A.length : Int) ∧ hi = ((A.length + (segL I lo hi).length : Nat) : Int) := by
  have hl := segL_len h0 h1 h2
  refine ⟨I.take lo.toNat, I.drop hi.toNat, ?_, by simp; omega, by rw [hl]; simp; omega⟩
  unfold segL
  conv => lhs; rw [← List.take_append_drop hi.toNat I]
  rw [← List.append_assoc]
  congr 1
  conv => lhs; rw [← List.take_append_drop lo.toNat (I.take hi.toNat)]
  congr 1
  rw [List.take_take, Nat.min_eq_left (by omega)]
theorem halfK_len (L s : List Int) : (halfK L s).length = s.length := sortK_len _ _ _
theorem halfK_mem {L s : List Int} {x : Int} : x ∈ halfK L s ↔ x ∈ s := sortK_mem
theorem built_one {L : List Int} {f : Nat} {s : List Int} {a : Int} (h : s.length ≤ 1) : builtN L (f + 1) s a = [cod (boxOf L s ++ [-1, -1, s.getD 0 0])] := by
  unfold builtN
  rw [if_pos h]
theorem built_two {L : List Int} {f : Nat} {s : List Int} {a : Int} (h : ¬ s.length ≤ 1) : builtN L (f + 1) s a = cod (boxOf L s ++ [a + 1, a + 1 + ((builtN L f ((halfK L s).take ((s.length + 1) / 2)) (a + 1)).length : Int), -1]) ::
      (builtN L f ((halfK L s).take ((s.length + 1) / 2)) (a + 1) ++ builtN L f ((halfK L s).drop ((s.length + 1) / 2)) (a + 1 + ((builtN L f ((halfK L s).take ((s.length + 1) / 2)) (a + 1)).length : Int))) := by
  rw [builtN, if_neg h]
theorem items_two {L : List Int} {f : Nat} {s : List Int} (h : ¬ s.length ≤ 1) : itemsN L (f + 1) s = itemsN L f ((halfK L s).take ((s.length + 1) / 2)) ++ itemsN L f ((halfK L s).drop ((s.length + 1) / 2)) := by
  rw [itemsN, if_neg h]
theorem items_one {L : List Int} {f : Nat} {s : List Int} (h : s.length ≤ 1) : itemsN L f s = s := by
  cases f with
  | zero => rfl
  | succ f => rw [itemsN, if_pos h]
theorem built_fuel {L : List Int} : ∀ (f : Nat) (s : List Int) (a : Int), 0 < s.length → s.length ≤ f → ∀ f', s.length ≤ f' → builtN L f' s a = builtN L f s a
  | 0, s, a, h0, h1, f', h2 => absurd h1 (by omega)
  | f + 1, s, a, h0, h1, f', h2 => by
    obtain ⟨g, rfl⟩ : ∃ g, f' = g + 1 := ⟨f' - 1, by omega⟩
    by_cases hs : s.length ≤ 1
    · rw [built_one hs, built_one hs]
    · have l1 : ((halfK L s).take ((s.length + 1) / 2)).length = (s.length + 1) / 2 := by rw [List.length_take, halfK_len]; omega
      have l2 : ((halfK L s).drop ((s.length + 1) / 2)).length = s.length - (s.length + 1) / 2 := by rw [List.length_drop, halfK_len]
      rw [built_two hs, built_two hs, built_fuel f _ (a + 1) (by omega) (by omega) g (by omega), built_fuel f _ _ (by omega) (by omega) g (by omega)]
theorem items_fuel {L : List Int} : ∀ (f : Nat) (s : List Int), s.length ≤ f → ∀ f', s.length ≤ f' → itemsN L f' s = itemsN L f s
  | 0, s, h1, f', h2 => by rw [items_one (by omega), items_one (by omega)]
  | f + 1, s, h1, f', h2 => by
    by_cases hs : s.length ≤ 1
    · rw [items_one hs, items_one hs]
    · obtain ⟨g, rfl⟩ : ∃ g, f' = g + 1 := ⟨f' - 1, by omega⟩
      have l1 : ((halfK L s).take ((s.length + 1) / 2)).length = (s.length + 1) / 2 := by rw [List.length_take, halfK_len]; omega
      have l2 : ((halfK L s).drop ((s.length + 1) / 2)).length = s.length - (s.length + 1) / 2 := by rw [List.length_drop, halfK_len]
      rw [items_two hs, items_two hs, items_fuel f _ (by omega) g (by omega), items_fuel f _ (by omega) g (by omega)]
theorem built_len {L : List Int} : ∀ (f : Nat) (s : List Int) (a : Int), 0 < s.length → s.length ≤ f → (builtN L f s a).length = 2 * s.length - 1
  | 0, s, a, h0, h1 => absurd h1 (by omega)
  | f + 1, s, a, h0, h1 => by
    by_cases hs : s.length ≤ 1
    · rw [built_one hs]
      simp only [List.length_cons, List.length_nil]
      omega
    · have l1 : ((halfK L s).take ((s.length + 1) / 2)).length = (s.length + 1) / 2 := by rw [List.length_take, halfK_len]; omega
      have l2 : ((halfK L s).drop ((s.length + 1) / 2)).length = s.length - (s.length + 1) / 2 := by rw [List.length_drop, halfK_len]
      rw [built_two hs, List.length_cons, List.length_append, built_len f _ _ (by omega) (by omega), built_len f _ _ (by omega) (by omega), l1, l2]
      omega
theorem items_len {L : List Int} : ∀ (f : Nat) (s : List Int), (itemsN L f s).length = s.length
  | 0, s => rfl
  | f + 1, s => by
    by_cases hs : s.length ≤ 1
    · rw [items_one hs]
    · rw [items_two hs, List.length_append, items_len f, items_len f, List.length_take, List.length_drop, halfK_len]
      omega
theorem set_at (T r : List Int) (x y : Int) : (T ++ x :: r).set T.length y = T ++ y :: r := by
  rw [List.set_append_right _ _ (Nat.le_refl _), Nat.sub_self]
  rfl
theorem get_at (T r : List Int) (x : Int) : (T ++ x :: r).getD T.length 0 = x := by
  simp [List.getD]
#print axioms built_len
end Go.Proofs.Ytgcoidbaoigkeaa.fix
set_option linter.unusedVariables false
set_option linter.unusedSimpArgs false
namespace Go.Proofs.Ytgcoidbaoigkeaa.fix
open Go.RowKit Go.Sx

def tail_build (ax : Int) : TX := (.call 2 [(.v 1), (.v 3), (.v 4), (.v 2), (.c ax)] (.asrt (.le (.v 4) (.ln (.v 12))) (.asrt (.le (.c 0) (.quo (.add (.sub (.v 4) (.v 3)) (.c 1)) (.c 2))) (.asrt (.le (.quo (.add (.sub (.v 4) (.v 3)) (.c 1)) (.c 2)) (.sub (.v 4) (.v 3))) (.call 1 [(.l2 .snoc (.v 0) (.l2 .cons (.v 6) (.l2 .cons (.v 7) (.l2 .cons (.v 8) (.l2 .cons (.v 9) (.l2 .cons (.v 10) (.l2 .cons (.v 11) (.l2 .cons (.c (-1)) (.l2 .cons (.c (-1)) (.l2 .cons (.c (-1)) .nl)))))))))), (.v 12), (.v 2), (.v 3), (.add (.v 3) (.quo (.add (.sub (.v 4) (.v 3)) (.c 1)) (.c 2)))] (.asrt (.le (.v 4) (.ln (.v 14))) (.asrt (.lt (.quo (.add (.sub (.v 4) (.v 3)) (.c 1)) (.c 2)) (.sub (.v 4) (.v 3))) (.call 1 [(.v 13), (.v 14), (.v 2), (.add (.v 3) (.quo (.add (.sub (.v 4) (.v 3)) (.c 1)) (.c 2))), (.add (.v 3) (.sub (.v 4) (.v 3)))] (.asrt (.le (.c 0) (.ln (.v 0))) (.asrt (.lt (.ln (.v 0)) (.ln (.v 16))) (.asrt (.lt (.ln (.v 0)) (.ln (.l3 (.v 16) (.ln (.v 0)) (.l2 .cons (.l2 .at (.l2 .at (.v 16) (.ln (.v 0))) (.c 0)) (.l2 .cons (.l2 .at (.l2 .at (.v 16) (.ln (.v 0))) (.c 1)) (.l2 .cons (.l2 .at (.l2 .at (.v 16) (.ln (.v 0))) (.c 2)) (.l2 .cons (.l2 .at (.l2 .at (.v 16) (.ln (.v 0))) (.c 3)) (.l2 .cons (.l2 .at (.l2 .at (.v 16) (.ln (.v 0))) (.c 4)) (.l2 .cons (.l2 .at (.l2 .at (.v 16) (.ln (.v 0))) (.c 5)) (.l2 .cons (.v 15) (.l2 .cons (.l2 .at (.l2 .at (.v 16) (.ln (.v 0))) (.c 7)) (.l2 .cons (.l2 .at (.l2 .at (.v 16) (.ln (.v 0))) (.c 8)) .nl)))))))))))) (.ret [(.l3 (.l3 (.v 16) (.ln (.v 0)) (.l2 .cons (.l2 .at (.l2 .at (.v 16) (.ln (.v 0))) (.c 0)) (.l2 .cons (.l2 .at (.l2 .at (.v 16) (.ln (.v 0))) (.c 1)) (.l2 .cons (.l2 .at (.l2 .at (.v 16) (.ln (.v 0))) (.c 2)) (.l2 .cons (.l2 .at (.l2 .at (.v 16) (.ln (.v 0))) (.c 3)) (.l2 .cons (.l2 .at (.l2 .at (.v 16) (.ln (.v 0))) (.c 4)) (.l2 .cons (.l2 .at (.l2 .at (.v 16) (.ln (.v 0))) (.c 5)) (.l2 .cons (.v 15) (.l2 .cons (.l2 .at (.l2 .at (.v 16) (.ln (.v 0))) (.c 7)) (.l2 .cons (.l2 .at (.l2 .at (.v 16) (.ln (.v 0))) (.c 8)) .nl)))))))))) (.ln (.v 0)) (.l2 .cons (.l2 .at (.l2 .at (.l3 (.v 16) (.ln (.v 0)) (.l2 .cons (.l2 .at (.l2 .at (.v 16) (.ln (.v 0))) (.c 0)) (.l2 .cons (.l2 .at (.l2 .at (.v 16) (.ln (.v 0))) (.c 1)) (.l2 .cons (.l2 .at (.l2 .at (.v 16) (.ln (.v 0))) (.c 2)) (.l2 .cons (.l2 .at (.l2 .at (.v 16) (.ln (.v 0))) (.c 3)) (.l2 .cons (.l2 .at (.l2 .at (.v 16) (.ln (.v 0))) (.c 4)) (.l2 .cons (.l2 .at (.l2 .at (.v 16) (.ln (.v 0))) (.c 5)) (.l2 .cons (.v 15) (.l2 .cons (.l2 .at (.l2 .at (.v 16) (.ln (.v 0))) (.c 7)) (.l2 .cons (.l2 .at (.l2 .at (.v 16) (.ln (.v 0))) (.c 8)) .nl)))))))))) (.ln (.v 0))) (.c 0)) (.l2 .cons (.l2 .at (.l2 .at (.l3 (.v 16) (.ln (.v 0)) (.l2 .cons (.l2 .at (.l2 .at (.v 16) (.ln (.v 0))) (.c 0)) (.l2 .cons (.l2 .at (.l2 .at (.v 16) (.ln (.v 0))) (.c 1)) (.l2 .cons (.l2 .at (.l2 .at (.v 16) (.ln (.v 0))) (.c 2)) (.l2 .cons (.l2 .at (.l2 .at (.v 16) (.ln (.v 0))) (.c 3)) (.l2 .cons (.l2 .at (.l2 .at (.v 16) (.ln (.v 0))) (.c 4)) (.l2 .cons (.l2 .at (.l2 .at (.v 16) (.ln (.v 0))) (.c 5)) (.l2 .cons (.v 15) (.l2 .cons (.l2 .at (.l2 .at (.v 16) (.ln (.v 0))) (.c 7)) (.l2 .cons (.l2 .at (.l2 .at (.v 16) (.ln (.v 0))) (.c 8)) .nl)))))))))) (.ln (.v 0))) (.c 1)) (.l2 .cons (.l2 .at (.l2 .at (.l3 (.v 16) (.ln (.v 0)) (.l2 .cons (.l2 .at (.l2 .at (.v 16) (.ln (.v 0))) (.c 0)) (.l2 .cons (.l2 .at (.l2 .at (.v 16) (.ln (.v 0))) (.c 1)) (.l2 .cons (.l2 .at (.l2 .at (.v 16) (.ln (.v 0))) (.c 2)) (.l2 .cons (.l2 .at (.l2 .at (.v 16) (.ln (.v 0))) (.c 3)) (.l2 .cons (.l2 .at (.l2 .at (.v 16) (.ln (.v 0))) (.c 4)) (.l2 .cons (.l2 .at (.l2 .at (.v 16) (.ln (.v 0))) (.c 5)) (.l2 .cons (.v 15) (.l2 .cons (.l2 .at (.l2 .at (.v 16) (.ln (.v 0))) (.c 7)) (.l2 .cons (.l2 .at (.l2 .at (.v 16) (.ln (.v 0))) (.c 8)) .nl)))))))))) (.ln (.v 0))) (.c 2)) (.l2 .cons (.l2 .at (.l2 .at (.l3 (.v 16) (.ln (.v 0)) (.l2 .cons (.l2 .at (.l2 .at (.v 16) (.ln (.v 0))) (.c 0)) (.l2 .cons (.l2 .at (.l2 .at (.v 16) (.ln (.v 0))) (.c 1)) (.l2 .cons (.l2 .at (.l2 .at (.v 16) (.ln (.v 0))) (.c 2)) (.l2 .cons (.l2 .at (.l2 .at (.v 16) (.ln (.v 0))) (.c 3)) (.l2 .cons (.l2 .at (.l2 .at (.v 16) (.ln (.v 0))) (.c 4)) (.l2 .cons (.l2 .at (.l2 .at (.v 16) (.ln (.v 0))) (.c 5)) (.l2 .cons (.v 15) (.l2 .cons (.l2 .at (.l2 .at (.v 16) (.ln (.v 0))) (.c 7)) (.l2 .cons (.l2 .at (.l2 .at (.v 16) (.ln (.v 0))) (.c 8)) .nl)))))))))) (.ln (.v 0))) (.c 3)) (.l2 .cons (.l2 .at (.l2 .at (.l3 (.v 16) (.ln (.v 0)) (.l2 .cons (.l2 .at (.l2 .at (.v 16) (.ln (.v 0))) (.c 0)) (.l2 .cons (.l2 .at (.l2 .at (.v 16) (.ln (.v 0))) (.c 1)) (.l2 .cons (.l2 .at (.l2 .at (.v 16) (.ln (.v 0))) (.c 2)) (.l2 .cons (.l2 .at (.l2 .at (.v 16) (.ln (.v 0))) (.c 3)) (.l2 .cons (.l2 .at (.l2 .at (.v 16) (.ln (.v 0))) (.c 4)) (.l2 .cons (.l2 .at (.l2 .at (.v 16) (.ln (.v 0))) (.c 5)) (.l2 .cons (.v 15) (.l2 .cons (.l2 .at (.l2 .at (.v 16) (.ln (.v 0))) (.c 7)) (.l2 .cons (.l2 .at (.l2 .at (.v 16) (.ln (.v 0))) (.c 8)) .nl)))))))))) (.ln (.v 0))) (.c 4)) (.l2 .cons (.l2 .at (.l2 .at (.l3 (.v 16) (.ln (.v 0)) (.l2 .cons (.l2 .at (.l2 .at (.v 16) (.ln (.v 0))) (.c 0)) (.l2 .cons (.l2 .at (.l2 .at (.v 16) (.ln (.v 0))) (.c 1)) (.l2 .cons (.l2 .at (.l2 .at (.v 16) (.ln (.v 0))) (.c 2)) (.l2 .cons (.l2 .at (.l2 .at (.v 16) (.ln (.v 0))) (.c 3)) (.l2 .cons (.l2 .at (.l2 .at (.v 16) (.ln (.v 0))) (.c 4)) (.l2 .cons (.l2 .at (.l2 .at (.v 16) (.ln (.v 0))) (.c 5)) (.l2 .cons (.v 15) (.l2 .cons (.l2 .at (.l2 .at (.v 16) (.ln (.v 0))) (.c 7)) (.l2 .cons (.l2 .at (.l2 .at (.v 16) (.ln (.v 0))) (.c 8)) .nl)))))))))) (.ln (.v 0))) (.c 5)) (.l2 .cons (.l2 .at (.l2 .at (.l3 (.v 16) (.ln (.v 0)) (.l2 .cons (.l2 .at (.l2 .at (.v 16) (.ln (.v 0))) (.c 0)) (.l2 .cons (.l2 .at (.l2 .at (.v 16) (.ln (.v 0))) (.c 1)) (.l2 .cons (.l2 .at (.l2 .at (.v 16) (.ln (.v 0))) (.c 2)) (.l2 .cons (.l2 .at (.l2 .at (.v 16) (.ln (.v 0))) (.c 3)) (.l2 .cons (.l2 .at (.l2 .at (.v 16) (.ln (.v 0))) (.c 4)) (.l2 .cons (.l2 .at (.l2 .at (.v 16) (.ln (.v 0))) (.c 5)) (.l2 .cons (.v 15) (.l2 .cons (.l2 .at (.l2 .at (.v 16) (.ln (.v 0))) (.c 7)) (.l2 .cons (.l2 .at (.l2 .at (.v 16) (.ln (.v 0))) (.c 8)) .nl)))))))))) (.ln (.v 0))) (.c 6)) (.l2 .cons (.v 18) (.l2 .cons (.l2 .at (.l2 .at (.l3 (.v 16) (.ln (.v 0)) (.l2 .cons (.l2 .at (.l2 .at (.v 16) (.ln (.v 0))) (.c 0)) (.l2 .cons (.l2 .at (.l2 .at (.v 16) (.ln (.v 0))) (.c 1)) (.l2 .cons (.l2 .at (.l2 .at (.v 16) (.ln (.v 0))) (.c 2)) (.l2 .cons (.l2 .at (.l2 .at (.v 16) (.ln (.v 0))) (.c 3)) (.l2 .cons (.l2 .at (.l2 .at (.v 16) (.ln (.v 0))) (.c 4)) (.l2 .cons (.l2 .at (.l2 .at (.v 16) (.ln (.v 0))) (.c 5)) (.l2 .cons (.v 15) (.l2 .cons (.l2 .at (.l2 .at (.v 16) (.ln (.v 0))) (.c 7)) (.l2 .cons (.l2 .at (.l2 .at (.v 16) (.ln (.v 0))) (.c 8)) .nl)))))))))) (.ln (.v 0))) (.c 8)) .nl)))))))))), (.v 17), (.ln (.v 0))]))))))))))))
set_option maxHeartbeats 1000000 in
theorem tail_sat {k : Nat} {cT cI cL lo hi v5 b0 b1 b2 b3 b4 b5 : Int} {bs : List (List Int → Prop)} (hp : BuildPre (k + 1) (dec cT) (dec cI) (dec cL) lo hi) (two : lo + 2 ≤ hi) (hb : boxOf (dec cL) (segL (dec cI) lo hi) = [b0, b1, b2, b3, b4, b5]) {ax : Int} (hax : ax = (axisOf [b0, b1, b2, b3, b4, b5] : Int)) :
    (tail_build ax).sat (G_build k) [] (fun ys => ys = sem_build [cT, cI, cL, lo, hi]) bs [cT, cI, cL, lo, hi, v5, b0, b1, b2, b3, b4, b5] := by
  have hLb := hp.bxs
  have hits := hp.its
  have hn1 := hp.lo0
  have hn2 := hp.hi1
  have hn3 := hp.lenI
  have hn4 := hp.lenT
  have hn5 := hp.fuel
  clear hp
  simp only [tail_build, G_build, s_bjoin, s_buildK, s_sst, TX.sat, XB.prop, X.den, List.map_cons, List.map_nil, List.getElem?_cons_zero, List.getElem?_cons_succ, List.cons_append, List.nil_append, List.getD_cons_zero, List.getD_cons_succ, mkS, mkP, and_true, true_and, Int.not_lt, Int.not_le, not_or, not_and, Classical.not_not, ne_eq, not_true_eq_false, not_false_eq_true, sem_sst, sem_build, L2.den, dec_cod, pre_sst, pre_build]
  generalize dec cT = T at *
  generalize dec cI = I at *
  generalize dec cL = L at *
  have hsl := segL_len hn1 (by omega : lo ≤ hi) hn2
  obtain ⟨A, B, hI, hlo, hhi⟩ := three I hn1 (by omega : lo ≤ hi) hn2
  generalize hsg : segL I lo hi = s at *
  have hs2 : 2 ≤ s.length := by omega
  have hns : ¬ s.length ≤ 1 := by omega
  have hK : sortK L ax.toNat s = halfK L s := by
    unfold halfK
    rw [hb, hax, Int.toNat_natCast]
  have hax2 : 0 ≤ ax ∧ ax < 3 := by
    rw [hax]
    unfold axisOf
    split <;> split <;> decide
  obtain ⟨K1, K2, hK12, hk1, hk2, hKt, hKd⟩ : ∃ K1 K2, halfK L s = K1 ++ K2 ∧ K1.length = (s.length + 1) / 2 ∧ K2.length = s.length - (s.length + 1) / 2 ∧ (halfK L s).take ((s.length + 1) / 2) = K1 ∧ (halfK L s).drop ((s.length + 1) / 2) = K2 :=
    ⟨_, _, (List.take_append_drop ((s.length + 1) / 2) (halfK L s)).symm, by rw [List.length_take, halfK_len]; omega, by rw [List.length_drop, halfK_len], rfl, rfl⟩
  have hq : (hi - lo + 1).tdiv 2 = (((s.length + 1) / 2 : Nat) : Int) := by
    rw [Int.tdiv_eq_ediv_of_nonneg (by omega)]
    omega
  have hX1 : putL I lo hi (sortK L ax.toNat s) = A ++ (K1 ++ (K2 ++ B)) := by
    rw [hK, hI, hlo, hhi, put_app, hK12, List.append_assoc]
  have hm1 : lo + (hi - lo + 1).tdiv 2 = ((A.length + K1.length : Nat) : Int) := by rw [hq, hk1]; omega
  have hf1 : (lo + (hi - lo + 1).tdiv 2 - lo).toNat = K1.length := by rw [hq, hk1]; omega
  have hS1 : segL (A ++ (K1 ++ (K2 ++ B))) lo (lo + (hi - lo + 1).tdiv 2) = K1 := by rw [hm1, hlo]; exact seg_app _ _ _
  obtain ⟨J1, hJ1⟩ : ∃ J1, J1 = itemsN L K1.length K1 := ⟨_, rfl⟩
  have hj1 : J1.length = K1.length := by rw [hJ1, items_len]
  have hX2 : putL (A ++ (K1 ++ (K2 ++ B))) lo (lo + (hi - lo + 1).tdiv 2) J1 = A ++ J1 ++ (K2 ++ B) := by rw [hm1, hlo, put_app, List.append_assoc]
  have hm2 : lo + (hi - lo + 1).tdiv 2 = ((A ++ J1).length : Int) := by rw [hm1, List.length_append, hj1]
  have hm3 : lo + (hi - lo) = (((A ++ J1).length + K2.length : Nat) : Int) := by rw [List.length_append, hj1, hk1, hk2]; omega
  have hf2 : (lo + (hi - lo) - (lo + (hi - lo + 1).tdiv 2)).toNat = K2.length := by rw [hm2, hm3]; omega
  have hS2 : segL (A ++ J1 ++ (K2 ++ B)) (lo + (hi - lo + 1).tdiv 2) (lo + (hi - lo)) = K2 := by rw [hm2, hm3]; exact seg_app _ _ _
  obtain ⟨J2, hJ2⟩ : ∃ J2, J2 = itemsN L K2.length K2 := ⟨_, rfl⟩
  have hj2 : J2.length = K2.length := by rw [hJ2, items_len]
  have hX3 : putL (A ++ J1 ++ (K2 ++ B)) (lo + (hi - lo + 1).tdiv 2) (lo + (hi - lo)) J2 = A ++ ((J1 ++ J2) ++ B) := by rw [hm2, hm3, put_app]; simp only [List.append_assoc]
  have hmem1 : ∀ x ∈ K1, 0 ≤ x ∧ x < (L.length : Int) := fun x hx => hits x (by rw [← halfK_mem (L := L), hK12]; exact List.mem_append_left _ hx)
  have hmem2 : ∀ x ∈ K2, 0 ≤ x ∧ x < (L.length : Int) := fun x hx => hits x (by rw [← halfK_mem (L := L), hK12]; exact List.mem_append_right _ hx)
  have hIl : I.length = A.length + s.length + B.length := by rw [hI]; simp only [List.length_append]; omega
  have hlX1 : (A ++ (K1 ++ (K2 ++ B))).length = I.length := by simp only [List.length_append, hk1, hk2, hIl]; omega
  have hlX2 : (A ++ J1 ++ (K2 ++ B)).length = I.length := by simp only [List.length_append, hj1, hk1, hk2, hIl]; omega
  rw [hX1, hS1, hf1, ← hJ1, hX2, hS2, hf2, ← hJ2, hX3]
  have hbl1 := built_len (L := L) K1.length K1 ((T.length : Int) + 1) (by omega) (Nat.le_refl _)
  have hbl2 : ∀ a, (builtN L K2.length K2 a).length = 2 * K2.length - 1 := fun a => built_len _ _ _ (by omega) (Nat.le_refl _)
  have hT1 : ∀ x : Int, ((T ++ [x]).length : Int) = (T.length : Int) + 1 := fun x => by simp
  simp only [hT1]
  have hT2 : ∀ x : Int, ((T ++ [x] ++ builtN L K1.length K1 ((T.length : Int) + 1)).length : Int) = (T.length : Int) + 1 + ((builtN L K1.length K1 ((T.length : Int) + 1)).length : Int) := fun x => by simp only [List.length_append, List.length_cons, List.length_nil]; omega
  simp only [hT2]
  have happ : ∀ (y : Int) (l r : List Int), T ++ [y] ++ l ++ r = T ++ y :: (l ++ r) := fun y l r => by simp
  simp only [happ, Int.toNat_natCast, set_at, get_at, dec_cod, TX.sat, XB.prop, X.den, List.map_cons, List.map_nil, List.getElem?_cons_zero, List.getElem?_cons_succ, List.cons_append, List.nil_append, List.getD_cons_zero, List.getD_cons_succ, mkS, mkP, and_true, true_and, Int.not_lt, Int.not_le, not_or, not_and, Classical.not_not, ne_eq, not_true_eq_false, not_false_eq_true]
  have hlen : ∀ (y : Int) (l : List Int), (T.length : Int) < ((T ++ y :: l).length : Int) := fun y l => by simp only [List.length_append, List.length_cons]; omega
  have hfu : (hi - lo).toNat = s.length - 1 + 1 := by omega
  refine ⟨⟨hn1, two, hn2, hn3, by rw [hsg]; exact hits, hLb, hax2.1, hax2.2⟩, by omega, by rw [hq]; omega, by rw [hq]; omega, ⟨hn1, by rw [hq]; omega, by rw [hq, hlX1]; omega, by rw [hq]; omega, by rw [hlX1]; exact hn3, by rw [hq, hT1]; omega, by rw [hS1]; exact hmem1, hLb⟩, by omega, by rw [hq]; omega,
    ⟨by rw [hq]; omega, by rw [hq]; omega, by rw [hlX2]; omega, by rw [hq]; omega, by rw [hlX2]; exact hn3, by rw [hT2, hbl1, hq]; omega, by rw [hS2]; exact hmem2, hLb⟩, by omega, hlen _ _, hlen _ _, ?_⟩
  rw [hfu, built_two hns, items_two hns, hKt, hKd, hb, built_fuel K1.length K1 _ (by omega) (Nat.le_refl _) (s.length - 1) (by omega), built_fuel K2.length K2 _ (by omega) (Nat.le_refl _) (s.length - 1) (by omega), items_fuel K1.length K1 (Nat.le_refl _) (s.length - 1) (by omega), items_fuel K2.length K2 (Nat.le_refl _) (s.length - 1) (by omega), ← hJ1, ← hJ2, hI, hlo, hhi, put_app]
  simp only [Int.reduceToNat, Int.toNat_zero, Int.toNat_one, List.getD_cons_zero, List.getD_cons_succ, List.cons_append, List.nil_append]
#print axioms tail_sat
end Go.Proofs.Ytgcoidbaoigkeaa.fix
set_option linter.unusedVariables false
set_option linter.unusedSimpArgs false
namespace Go.Proofs.Ytgcoidbaoigkeaa.fix
open Go.RowKit Go.Sx

noncomputable def boxR (L s : List Int) (i : Nat) : List Int := ((s.drop 1).take i).foldl (joinB L) (six6 (L.getD (s.getD 0 0).toNat 0))
theorem boxR_step {L s : List Int} {i : Nat} (h : i + 1 < s.length) : boxR L s (i + 1) = joinB L (boxR L s i) (s.getD (i + 1) 0) := by
  unfold boxR
  have hl : i < (s.drop 1).length := by rw [List.length_drop]; omega
  rw [List.take_add_one, List.foldl_append, List.getElem?_eq_getElem hl]
  simp only [Option.toList_some, List.foldl_cons, List.foldl_nil]
  congr 1
  simp [List.getD, Nat.add_comm 1 i, h]
theorem boxR_all {L s : List Int} {i : Nat} (h : i + 1 = s.length) : boxR L s i = boxOf L s := by
  unfold boxR boxOf
  rw [List.take_of_length_le (by rw [List.length_drop]; omega)]
theorem six_cod6 (c0 c1 c2 c3 c4 c5 : Int) : six6 (cod [c0, c1, c2, c3, c4, c5]) = [c0, c1, c2, c3, c4, c5] := by
  simp only [six6, co_cod]
  rfl
theorem box_run {c0 c1 c2 c3 c4 c5 x : Int} (hb : boxB [c0, c1, c2, c3, c4, c5] 0 = true) (hx : okBox x = true) :
    vsOK pin_bjoin [c0, c1, c2, c3, c4, c5, co x 0, co x 1, co x 2, co x 3, co x 4, co x 5] ∧ joinL [c0, c1, c2, c3, c4, c5, co x 0, co x 1, co x 2, co x 3, co x 4, co x 5] = joinP ([c0, c1, c2, c3, c4, c5] ++ six6 x) ∧
    boxB (ex6 (joinP ([c0, c1, c2, c3, c4, c5] ++ six6 x))) 0 = true := by
  have ha : okBox (cod [c0, c1, c2, c3, c4, c5]) = true := by rw [okBox_six, six_cod6]; exact hb
  have h1 := zz12 ha hx
  have h2 := join_ok ha hx
  have h3 := box_join ha hx
  rw [six_cod6] at h2 h3
  simp only [co_cod, List.getD_cons_zero, List.getD_cons_succ] at h1 h2
  exact ⟨h1, h2, h3⟩
def LoopI (L s : List Int) (ys : List Int) : Prop := ∃ i : Nat, i < s.length ∧ ys = (i : Int) :: boxR L s i ∧ boxB (boxR L s i) 0 = true
theorem loop0 {L s : List Int} (h : 0 < s.length) (h0 : 0 ≤ s.getD 0 0) (h1 : s.getD 0 0 < (L.length : Int)) (hL : ∀ b ∈ L, okBox b = true) : LoopI L s (0 :: six6 (L.getD (s.getD 0 0).toNat 0)) :=
  ⟨0, h, rfl, by
    show boxB (six6 _) 0 = true
    rw [← okBox_six]
    exact hL _ (mem_at (by omega))⟩
theorem loop_step {L s : List Int} {i : Nat} {c0 c1 c2 c3 c4 c5 x : Int} (hi : i + 1 < s.length) (hR : boxR L s i = [c0, c1, c2, c3, c4, c5]) (hb : boxB [c0, c1, c2, c3, c4, c5] 0 = true) (hx : x = L.getD (s.getD (i + 1) 0).toNat 0) (hk : okBox x = true) :
    LoopI L s (((i + 1 : Nat) : Int) :: ex6 (joinP ([c0, c1, c2, c3, c4, c5] ++ six6 x))) := by
  have h : boxR L s (i + 1) = ex6 (joinP ([c0, c1, c2, c3, c4, c5] ++ six6 x)) := by
    rw [boxR_step hi, hR, hx]
    rfl
  exact ⟨i + 1, hi, by rw [h], by rw [h]; exact (box_run hb hk).2.2⟩
theorem boxR_len {L s : List Int} : ∀ i : Nat, i < s.length → (boxR L s i).length = 6
  | 0, _ => rfl
  | i + 1, h => by rw [boxR_step h]; rfl
theorem six_list {l : List Int} (h : l.length = 6) : ∃ c0 c1 c2 c3 c4 c5, l = [c0, c1, c2, c3, c4, c5] := by
  match l, h with
  | [c0, c1, c2, c3, c4, c5], _ => exact ⟨c0, c1, c2, c3, c4, c5, rfl⟩

def t_one : TX := (.asrt (.lt (.c 0) (.ln (.v 1))) (.asrt (.le (.c 0) (.l2 .at (.v 1) (.c 0))) (.asrt (.lt (.l2 .at (.v 1) (.c 0)) (.ln (.v 2))) (.asrt (.le (.c 1) (.ln (.v 1))) (.asrt (.le (.ln (.v 1)) (.ln (.v 1))) (.loop 7 [none, none, none, none, none, none, none] [(.c 0), (.l2 .at (.l2 .at (.v 2) (.l2 .at (.v 1) (.c 0))) (.c 0)), (.l2 .at (.l2 .at (.v 2) (.l2 .at (.v 1) (.c 0))) (.c 1)), (.l2 .at (.l2 .at (.v 2) (.l2 .at (.v 1) (.c 0))) (.c 2)), (.l2 .at (.l2 .at (.v 2) (.l2 .at (.v 1) (.c 0))) (.c 3)), (.l2 .at (.l2 .at (.v 2) (.l2 .at (.v 1) (.c 0))) (.c 4)), (.l2 .at (.l2 .at (.v 2) (.l2 .at (.v 1) (.c 0))) (.c 5))] (.ite (.lt (.v 3) (.wr .i64 (.sub (.ln (.v 1)) (.c 1)))) (.asrt (.le (.c 0) (.v 3)) (.asrt (.le (.c 0) (.wr .i64 (.add (.c 1) (.v 3)))) (.asrt (.lt (.wr .i64 (.add (.c 1) (.v 3))) (.ln (.v 1))) (.asrt (.le (.c 0) (.l2 .at (.v 1) (.wr .i64 (.add (.c 1) (.v 3))))) (.asrt (.lt (.l2 .at (.v 1) (.wr .i64 (.add (.c 1) (.v 3)))) (.ln (.v 2))) (.call 0 [(.v 4), (.v 5), (.v 6), (.v 7), (.v 8), (.v 9), (.l2 .at (.l2 .at (.v 2) (.l2 .at (.v 1) (.wr .i64 (.add (.c 1) (.v 3))))) (.c 0)), (.l2 .at (.l2 .at (.v 2) (.l2 .at (.v 1) (.wr .i64 (.add (.c 1) (.v 3))))) (.c 1)), (.l2 .at (.l2 .at (.v 2) (.l2 .at (.v 1) (.wr .i64 (.add (.c 1) (.v 3))))) (.c 2)), (.l2 .at (.l2 .at (.v 2) (.l2 .at (.v 1) (.wr .i64 (.add (.c 1) (.v 3))))) (.c 3)), (.l2 .at (.l2 .at (.v 2) (.l2 .at (.v 1) (.wr .i64 (.add (.c 1) (.v 3))))) (.c 4)), (.l2 .at (.l2 .at (.v 2) (.l2 .at (.v 1) (.wr .i64 (.add (.c 1) (.v 3))))) (.c 5))] (.back 0 [(.wr .i64 (.add (.v 3) (.c 1))), (.v 10), (.v 11), (.v 12), (.v 13), (.v 14), (.v 15)])))))))
(.asrt (.le (.ln (.l2 .snoc (.v 0) (.l2 .cons (.v 4) (.l2 .cons (.v 5) (.l2 .cons (.v 6) (.l2 .cons (.v 7) (.l2 .cons (.v 8) (.l2 .cons (.v 9) (.l2 .cons (.c (-1)) (.l2 .cons (.c (-1)) (.l2 .cons (.c (-1)) .nl))))))))))) (.c 1000000)) (.ite (.eq (.ln (.v 1)) (.c 1)) (.asrt (.le (.c 0) (.ln (.v 0))) (.asrt (.lt (.ln (.v 0)) (.ln (.l2 .snoc (.v 0) (.l2 .cons (.v 4) (.l2 .cons (.v 5) (.l2 .cons (.v 6) (.l2 .cons (.v 7) (.l2 .cons (.v 8) (.l2 .cons (.v 9) (.l2 .cons (.c (-1)) (.l2 .cons (.c (-1)) (.l2 .cons (.c (-1)) .nl)))))))))))) (.ret [(.l3 (.l2 .snoc (.v 0) (.l2 .cons (.v 4) (.l2 .cons (.v 5) (.l2 .cons (.v 6) (.l2 .cons (.v 7) (.l2 .cons (.v 8) (.l2 .cons (.v 9) (.l2 .cons (.c (-1)) (.l2 .cons (.c (-1)) (.l2 .cons (.c (-1)) .nl)))))))))) (.ln (.v 0)) (.l2 .cons (.l2 .at (.l2 .at (.l2 .snoc (.v 0) (.l2 .cons (.v 4) (.l2 .cons (.v 5) (.l2 .cons (.v 6) (.l2 .cons (.v 7) (.l2 .cons (.v 8) (.l2 .cons (.v 9) (.l2 .cons (.c (-1)) (.l2 .cons (.c (-1)) (.l2 .cons (.c (-1)) .nl)))))))))) (.ln (.v 0))) (.c 0)) (.l2 .cons (.l2 .at (.l2 .at (.l2 .snoc (.v 0) (.l2 .cons (.v 4) (.l2 .cons (.v 5) (.l2 .cons (.v 6) (.l2 .cons (.v 7) (.l2 .cons (.v 8) (.l2 .cons (.v 9) (.l2 .cons (.c (-1)) (.l2 .cons (.c (-1)) (.l2 .cons (.c (-1)) .nl)))))))))) (.ln (.v 0))) (.c 1)) (.l2 .cons (.l2 .at (.l2 .at (.l2 .snoc (.v 0) (.l2 .cons (.v 4) (.l2 .cons (.v 5) (.l2 .cons (.v 6) (.l2 .cons (.v 7) (.l2 .cons (.v 8) (.l2 .cons (.v 9) (.l2 .cons (.c (-1)) (.l2 .cons (.c (-1)) (.l2 .cons (.c (-1)) .nl)))))))))) (.ln (.v 0))) (.c 2)) (.l2 .cons (.l2 .at (.l2 .at (.l2 .snoc (.v 0) (.l2 .cons (.v 4) (.l2 .cons (.v 5) (.l2 .cons (.v 6) (.l2 .cons (.v 7) (.l2 .cons (.v 8) (.l2 .cons (.v 9) (.l2 .cons (.c (-1)) (.l2 .cons (.c (-1)) (.l2 .cons (.c (-1)) .nl)))))))))) (.ln (.v 0))) (.c 3)) (.l2 .cons (.l2 .at (.l2 .at (.l2 .snoc (.v 0) (.l2 .cons (.v 4) (.l2 .cons (.v 5) (.l2 .cons (.v 6) (.l2 .cons (.v 7) (.l2 .cons (.v 8) (.l2 .cons (.v 9) (.l2 .cons (.c (-1)) (.l2 .cons (.c (-1)) (.l2 .cons (.c (-1)) .nl)))))))))) (.ln (.v 0))) (.c 4)) (.l2 .cons (.l2 .at (.l2 .at (.l2 .snoc (.v 0) (.l2 .cons (.v 4) (.l2 .cons (.v 5) (.l2 .cons (.v 6) (.l2 .cons (.v 7) (.l2 .cons (.v 8) (.l2 .cons (.v 9) (.l2 .cons (.c (-1)) (.l2 .cons (.c (-1)) (.l2 .cons (.c (-1)) .nl)))))))))) (.ln (.v 0))) (.c 5)) (.l2 .cons (.l2 .at (.l2 .at (.l2 .snoc (.v 0) (.l2 .cons (.v 4) (.l2 .cons (.v 5) (.l2 .cons (.v 6) (.l2 .cons (.v 7) (.l2 .cons (.v 8) (.l2 .cons (.v 9) (.l2 .cons (.c (-1)) (.l2 .cons (.c (-1)) (.l2 .cons (.c (-1)) .nl)))))))))) (.ln (.v 0))) (.c 6)) (.l2 .cons (.l2 .at (.l2 .at (.l2 .snoc (.v 0) (.l2 .cons (.v 4) (.l2 .cons (.v 5) (.l2 .cons (.v 6) (.l2 .cons (.v 7) (.l2 .cons (.v 8) (.l2 .cons (.v 9) (.l2 .cons (.c (-1)) (.l2 .cons (.c (-1)) (.l2 .cons (.c (-1)) .nl)))))))))) (.ln (.v 0))) (.c 7)) (.l2 .cons (.l2 .at (.v 1) (.c 0)) .nl)))))))))), (.ln (.v 0))])))
(.ite (.lt (.c (-1)) (.wr .i64 (.sub (.v 7) (.v 4)))) (.ite (.lt (.wr .i64 (.sub (.v 7) (.v 4))) (.wr .i64 (.sub (.v 8) (.v 5)))) (.ite (.lt (.wr .i64 (.sub (.v 8) (.v 5))) (.wr .i64 (.sub (.v 9) (.v 6)))) .fail
.fail)
(.ite (.lt (.wr .i64 (.sub (.v 7) (.v 4))) (.wr .i64 (.sub (.v 9) (.v 6)))) .fail
.fail))
(.ite (.lt (.c (-1)) (.wr .i64 (.sub (.v 8) (.v 5)))) (.ite (.lt (.wr .i64 (.sub (.v 8) (.v 5))) (.wr .i64 (.sub (.v 9) (.v 6)))) .fail
.fail)
(.ite (.lt (.c (-1)) (.wr .i64 (.sub (.v 9) (.v 6)))) .fail
.fail))))))))))))
set_option maxRecDepth 100000 in
theorem tree_one : merge (optFL [] [i_bjoin] [] pin_one T_one) = t_one := by kernel_rfl
def t_build : TX := (.asrt (.le (.v 3) (.v 4)) (.asrt (.le (.v 4) (.ln (.v 1))) (.asrt (.lt (.c 0) (.sub (.v 4) (.v 3))) (.asrt (.lt (.v 3) (.ln (.v 1))) (.asrt (.le (.c 0) (.l2 .at (.v 1) (.v 3))) (.asrt (.lt (.l2 .at (.v 1) (.v 3)) (.ln (.v 2))) (.asrt (.le (.c 1) (.sub (.v 4) (.v 3))) (.asrt (.le (.sub (.v 4) (.v 3)) (.sub (.v 4) (.v 3))) (.asrt (.lt (.c 1) (.sub (.v 4) (.v 3))) (.asrt (.le (.add (.v 3) (.c 1)) (.add (.v 3) (.sub (.v 4) (.v 3)))) (.asrt (.le (.add (.v 3) (.sub (.v 4) (.v 3))) (.ln (.v 1))) (.loop 7 [none, none, none, none, none, none, none] [(.c 0), (.l2 .at (.l2 .at (.v 2) (.l2 .at (.v 1) (.v 3))) (.c 0)), (.l2 .at (.l2 .at (.v 2) (.l2 .at (.v 1) (.v 3))) (.c 1)), (.l2 .at (.l2 .at (.v 2) (.l2 .at (.v 1) (.v 3))) (.c 2)), (.l2 .at (.l2 .at (.v 2) (.l2 .at (.v 1) (.v 3))) (.c 3)), (.l2 .at (.l2 .at (.v 2) (.l2 .at (.v 1) (.v 3))) (.c 4)), (.l2 .at (.l2 .at (.v 2) (.l2 .at (.v 1) (.v 3))) (.c 5))] (.ite (.lt (.v 5) (.sub (.add (.v 3) (.sub (.v 4) (.v 3))) (.add (.v 3) (.c 1)))) (.asrt (.le (.c 0) (.v 5)) (.asrt (.le (.c 0) (.wr .i64 (.add (.add (.v 3) (.c 1)) (.v 5)))) (.asrt (.lt (.wr .i64 (.add (.add (.v 3) (.c 1)) (.v 5))) (.ln (.v 1))) (.asrt (.le (.c 0) (.l2 .at (.v 1) (.wr .i64 (.add (.add (.v 3) (.c 1)) (.v 5))))) (.asrt (.lt (.l2 .at (.v 1) (.wr .i64 (.add (.add (.v 3) (.c 1)) (.v 5)))) (.ln (.v 2))) (.call 0 [(.v 6), (.v 7), (.v 8), (.v 9), (.v 10), (.v 11), (.l2 .at (.l2 .at (.v 2) (.l2 .at (.v 1) (.wr .i64 (.add (.add (.v 3) (.c 1)) (.v 5))))) (.c 0)), (.l2 .at (.l2 .at (.v 2) (.l2 .at (.v 1) (.wr .i64 (.add (.add (.v 3) (.c 1)) (.v 5))))) (.c 1)), (.l2 .at (.l2 .at (.v 2) (.l2 .at (.v 1) (.wr .i64 (.add (.add (.v 3) (.c 1)) (.v 5))))) (.c 2)), (.l2 .at (.l2 .at (.v 2) (.l2 .at (.v 1) (.wr .i64 (.add (.add (.v 3) (.c 1)) (.v 5))))) (.c 3)), (.l2 .at (.l2 .at (.v 2) (.l2 .at (.v 1) (.wr .i64 (.add (.add (.v 3) (.c 1)) (.v 5))))) (.c 4)), (.l2 .at (.l2 .at (.v 2) (.l2 .at (.v 1) (.wr .i64 (.add (.add (.v 3) (.c 1)) (.v 5))))) (.c 5))] (.back 0 [(.wr .i64 (.add (.v 5) (.c 1))), (.v 12), (.v 13), (.v 14), (.v 15), (.v 16), (.v 17)]))))))) (.asrt (.le (.ln (.l2 .snoc (.v 0) (.l2 .cons (.v 6) (.l2 .cons (.v 7) (.l2 .cons (.v 8) (.l2 .cons (.v 9) (.l2 .cons (.v 10) (.l2 .cons (.v 11) (.l2 .cons (.c (-1)) (.l2 .cons (.c (-1)) (.l2 .cons (.c (-1)) .nl))))))))))) (.c 1000000)) (.ite (.eq (.sub (.v 4) (.v 3)) (.c 1)) (.asrt (.le (.c 0) (.ln (.v 0))) (.asrt (.lt (.ln (.v 0)) (.ln (.l2 .snoc (.v 0) (.l2 .cons (.v 6) (.l2 .cons (.v 7) (.l2 .cons (.v 8) (.l2 .cons (.v 9) (.l2 .cons (.v 10) (.l2 .cons (.v 11) (.l2 .cons (.c (-1)) (.l2 .cons (.c (-1)) (.l2 .cons (.c (-1)) .nl)))))))))))) (.ret [(.l3 (.l2 .snoc (.v 0) (.l2 .cons (.v 6) (.l2 .cons (.v 7) (.l2 .cons (.v 8) (.l2 .cons (.v 9) (.l2 .cons (.v 10) (.l2 .cons (.v 11) (.l2 .cons (.c (-1)) (.l2 .cons (.c (-1)) (.l2 .cons (.c (-1)) .nl)))))))))) (.ln (.v 0)) (.l2 .cons (.l2 .at (.l2 .at (.l2 .snoc (.v 0) (.l2 .cons (.v 6) (.l2 .cons (.v 7) (.l2 .cons (.v 8) (.l2 .cons (.v 9) (.l2 .cons (.v 10) (.l2 .cons (.v 11) (.l2 .cons (.c (-1)) (.l2 .cons (.c (-1)) (.l2 .cons (.c (-1)) .nl)))))))))) (.ln (.v 0))) (.c 0)) (.l2 .cons (.l2 .at (.l2 .at (.l2 .snoc (.v 0) (.l2 .cons (.v 6) (.l2 .cons (.v 7) (.l2 .cons (.v 8) (.l2 .cons (.v 9) (.l2 .cons (.v 10) (.l2 .cons (.v 11) (.l2 .cons (.c (-1)) (.l2 .cons (.c (-1)) (.l2 .cons (.c (-1)) .nl)))))))))) (.ln (.v 0))) (.c 1)) (.l2 .cons (.l2 .at (.l2 .at (.l2 .snoc (.v 0) (.l2 .cons (.v 6) (.l2 .cons (.v 7) (.l2 .cons (.v 8) (.l2 .cons (.v 9) (.l2 .cons (.v 10) (.l2 .cons (.v 11) (.l2 .cons (.c (-1)) (.l2 .cons (.c (-1)) (.l2 .cons (.c (-1)) .nl)))))))))) (.ln (.v 0))) (.c 2)) (.l2 .cons (.l2 .at (.l2 .at (.l2 .snoc (.v 0) (.l2 .cons (.v 6) (.l2 .cons (.v 7) (.l2 .cons (.v 8) (.l2 .cons (.v 9) (.l2 .cons (.v 10) (.l2 .cons (.v 11) (.l2 .cons (.c (-1)) (.l2 .cons (.c (-1)) (.l2 .cons (.c (-1)) .nl)))))))))) (.ln (.v 0))) (.c 3)) (.l2 .cons (.l2 .at (.l2 .at (.l2 .snoc (.v 0) (.l2 .cons (.v 6) (.l2 .cons (.v 7) (.l2 .cons (.v 8) (.l2 .cons (.v 9) (.l2 .cons (.v 10) (.l2 .cons (.v 11) (.l2 .cons (.c (-1)) (.l2 .cons (.c (-1)) (.l2 .cons (.c (-1)) .nl)))))))))) (.ln (.v 0))) (.c 4)) (.l2 .cons (.l2 .at (.l2 .at (.l2 .snoc (.v 0) (.l2 .cons (.v 6) (.l2 .cons (.v 7) (.l2 .cons (.v 8) (.l2 .cons (.v 9) (.l2 .cons (.v 10) (.l2 .cons (.v 11) (.l2 .cons (.c (-1)) (.l2 .cons (.c (-1)) (.l2 .cons (.c (-1)) .nl)))))))))) (.ln (.v 0))) (.c 5)) (.l2 .cons (.l2 .at (.l2 .at (.l2 .snoc (.v 0) (.l2 .cons (.v 6) (.l2 .cons (.v 7) (.l2 .cons (.v 8) (.l2 .cons (.v 9) (.l2 .cons (.v 10) (.l2 .cons (.v 11) (.l2 .cons (.c (-1)) (.l2 .cons (.c (-1)) (.l2 .cons (.c (-1)) .nl)))))))))) (.ln (.v 0))) (.c 6)) (.l2 .cons (.l2 .at (.l2 .at (.l2 .snoc (.v 0) (.l2 .cons (.v 6) (.l2 .cons (.v 7) (.l2 .cons (.v 8) (.l2 .cons (.v 9) (.l2 .cons (.v 10) (.l2 .cons (.v 11) (.l2 .cons (.c (-1)) (.l2 .cons (.c (-1)) (.l2 .cons (.c (-1)) .nl)))))))))) (.ln (.v 0))) (.c 7)) (.l2 .cons (.l2 .at (.v 1) (.v 3)) .nl)))))))))), (.v 1), (.ln (.v 0))]))) (.ite (.lt (.c (-1)) (.wr .i64 (.sub (.v 9) (.v 6)))) (.ite (.lt (.wr .i64 (.sub (.v 9) (.v 6))) (.wr .i64 (.sub (.v 10) (.v 7)))) (.ite (.lt (.wr .i64 (.sub (.v 10) (.v 7))) (.wr .i64 (.sub (.v 11) (.v 8)))) (tail_build 2) (tail_build 1)) (.ite (.lt (.wr .i64 (.sub (.v 9) (.v 6))) (.wr .i64 (.sub (.v 11) (.v 8)))) (tail_build 2) (tail_build 0))) (.ite (.lt (.c (-1)) (.wr .i64 (.sub (.v 10) (.v 7)))) (.ite (.lt (.wr .i64 (.sub (.v 10) (.v 7))) (.wr .i64 (.sub (.v 11) (.v 8)))) (tail_build 2) (tail_build 1)) (.ite (.lt (.c (-1)) (.wr .i64 (.sub (.v 11) (.v 8)))) (tail_build 2) (tail_build 0)))))))))))))))))))
set_option maxRecDepth 100000 in
theorem tree_build (k : Nat) : merge (optFL [] [i_bjoin, i_buildK, i_sst] [] pin_build (T_build k)) = t_build := by kernel_rfl
#print axioms tree_build
end Go.Proofs.Ytgcoidbaoigkeaa.fix
set_option linter.unusedVariables false
set_option linter.unusedSimpArgs false
namespace Go.Proofs.Ytgcoidbaoigkeaa.fix
open Go.RowKit Go.Sx

theorem eq_box {b0 b1 b2 b3 b4 b5 : Int} (hb : boxB [b0, b1, b2, b3, b4, b5] 0 = true) : ((-32768 ≤ b0 ∧ b0 ≤ 32768) ∧ (-32768 ≤ b1 ∧ b1 ≤ 32768) ∧ (-32768 ≤ b2 ∧ b2 ≤ 32768)) ∧ ((-32768 ≤ b3 ∧ b3 ≤ 32768) ∧ (-32768 ≤ b4 ∧ b4 ≤ 32768) ∧ (-32768 ≤ b5 ∧ b5 ≤ 32768)) ∧ b0 ≤ b3 ∧ b1 ≤ b4 ∧ b2 ≤ b5 := boxB_true.1 hb

theorem one_sat {cT cI cL : Int} (hI : (dec cI).length = 1) (hits : 0 ≤ (dec cI).getD 0 0 ∧ (dec cI).getD 0 0 < ((dec cL).length : Int)) (hLb : ∀ b ∈ dec cL, okBox b = true) (hT : (dec cT).length ≤ 3000) :
    t_one.sat [s_bjoin] [] (fun ys => ys = [cod (dec cT ++ [cod (boxOf (dec cL) (dec cI) ++ [-1, -1, (dec cI).getD 0 0])]), ((dec cT).length : Int)]) [] [cT, cI, cL] := by
  have hco : ∀ x j, (dec x).getD j 0 = co x j := fun _ _ => rfl
  simp only [t_one, s_bjoin, sem_bjoin, ex7, TX.sat, XB.prop, X.den, List.map_cons, List.map_nil, List.getElem?_cons_zero, List.getElem?_cons_succ, List.cons_append, List.nil_append, List.getD_cons_zero, List.getD_cons_succ, mkS, mkP, and_true, true_and, Int.not_lt, Int.not_le, not_or, not_and, Classical.not_not, ne_eq, not_true_eq_false, not_false_eq_true, L2.den, dec_cod]
  generalize dec cT = T at *
  generalize dec cI = I at *
  generalize dec cL = L at *
  simp only [hco, show Int.toNat 0 = 0 from rfl, show Int.toNat 1 = 1 from rfl, show Int.toNat 2 = 2 from rfl, show Int.toNat 3 = 3 from rfl, show Int.toNat 4 = 4 from rfl, show Int.toNat 5 = 5 from rfl, show Int.toNat 6 = 6 from rfl, show Int.toNat 7 = 7 from rfl, show Int.toNat 8 = 8 from rfl, Int.toNat_natCast]
  refine ⟨by omega, by omega, by omega, by omega, by omega, LoopI L I, fun xs => I.length - (xs.getD 0 0).toNat, fun xs hx _ => vs_none (n := 7) hx, loop0 (by omega) hits.1 hits.2 hLb, ?_⟩
  rintro xs hx ⟨i, hi, rfl, hbB⟩
  obtain rfl : i = 0 := by omega
  rw [boxR_all (by omega)] at hbB ⊢
  obtain ⟨b0, b1, b2, b3, b4, b5, hb⟩ := six_list (l := boxOf L I) (by rw [← boxR_all (i := 0) (by omega)]; exact boxR_len _ (by omega))
  rw [hb] at hbB ⊢
  simp only [TX.sat, XB.prop, X.den, List.map_cons, List.map_nil, List.getElem?_cons_zero, List.getElem?_cons_succ, List.cons_append, List.nil_append, List.getD_cons_zero, List.getD_cons_succ, mkS, mkP, and_true, true_and, Int.not_lt, Int.not_le, not_or, not_and, Classical.not_not, ne_eq, not_true_eq_false, not_false_eq_true, List.cons_append, List.nil_append]
  have hw : IntKind.i64.wrap ((I.length : Int) - 1) = 0 := by rw [hI]; decide
  rw [hw]
  have hg : ∀ x : Int, (T ++ [x]).getD T.length 0 = x := fun x => get_at T [] x
  have hs : ∀ x y : Int, (T ++ [x]).set T.length y = T ++ [y] := fun x y => set_at T [] x y
  have hlen : ∀ x : Int, ((T ++ [x]).length : Int) = (T.length : Int) + 1 := fun x => by simp
  refine ⟨fun h => absurd h (by omega), fun _ => ⟨by rw [hlen]; omega, fun _ => ⟨by omega, by rw [hlen]; omega, ?_⟩, fun h => absurd (by omega) h⟩⟩
  rw [hg, hs]
  simp only [co_cod, List.getD_cons_zero, List.getD_cons_succ]

set_option maxHeartbeats 1000000 in
theorem build_sat {k : Nat} {cT cI cL lo hi : Int} (hp : BuildPre (k + 1) (dec cT) (dec cI) (dec cL) lo hi) (two : lo + 2 ≤ hi) :
    t_build.sat (G_build k) [] (fun ys => ys = sem_build [cT, cI, cL, lo, hi]) [] [cT, cI, cL, lo, hi] := by
  have htail := @tail_sat k cT cI cL lo hi
  have hLb := hp.bxs
  have hits := hp.its
  have hn1 := hp.lo0
  have hn2 := hp.hi1
  have hn3 := hp.lenI
  have hn4 := hp.lenT
  replace htail := fun v5 b0 b1 b2 b3 b4 b5 bs => htail (v5 := v5) (b0 := b0) (b1 := b1) (b2 := b2) (b3 := b3) (b4 := b4) (b5 := b5) (bs := bs) hp two
  clear hp
  have hco : ∀ x j, (dec x).getD j 0 = co x j := fun _ _ => rfl
  unfold t_build
  generalize hts : tail_build = tb at *
  simp only [G_build, s_bjoin, s_buildK, s_sst, sem_bjoin, ex7, TX.sat, XB.prop, X.den, List.map_cons, List.map_nil, List.getElem?_cons_zero, List.getElem?_cons_succ, List.cons_append, List.nil_append, List.getD_cons_zero, List.getD_cons_succ, mkS, mkP, and_true, true_and, Int.not_lt, Int.not_le, not_or, not_and, Classical.not_not, ne_eq, not_true_eq_false, not_false_eq_true, L2.den, dec_cod]
  simp only [G_build, s_bjoin, s_buildK, s_sst] at htail
  generalize dec cT = T at *
  generalize dec cI = I at *
  generalize dec cL = L at *
  simp only [hco, show Int.toNat 0 = 0 from rfl, show Int.toNat 1 = 1 from rfl, show Int.toNat 2 = 2 from rfl, show Int.toNat 3 = 3 from rfl, show Int.toNat 4 = 4 from rfl, show Int.toNat 5 = 5 from rfl, Int.toNat_natCast]
  have hsl := segL_len hn1 (by omega : lo ≤ hi) hn2
  obtain ⟨A, B, hI, hlo, hhi⟩ := three I hn1 (by omega : lo ≤ hi) hn2
  generalize hsg : segL I lo hi = s at *
  have hIl : I.length = A.length + s.length + B.length := by rw [hI]; simp only [List.length_append]; omega
  have hget : ∀ j : Nat, j < s.length → I.getD (A.length + j) 0 = s.getD j 0 := fun j hj => by
    rw [hI]
    simp only [List.getD]
    rw [List.getElem?_append_right (by omega), List.getElem?_append_left (by omega)]
    congr 2
    omega
  have hg0 : I.getD lo.toNat 0 = s.getD 0 0 := by rw [← hget 0 (by omega), hlo, Int.toNat_natCast]; rfl
  have hitg : ∀ j : Nat, j < s.length → 0 ≤ s.getD j 0 ∧ s.getD j 0 < (L.length : Int) := fun j hj => hits _ (mem_at (by omega))
  rw [hg0]
  have i0 := hitg 0 (by omega)
  refine ⟨by omega, by omega, by omega, by omega, by omega, by omega, by omega, by omega, by omega, by omega, by omega, LoopI L s, fun xs => s.length - (xs.getD 0 0).toNat, fun xs hx _ => vs_none (n := 7) hx, loop0 (by omega) i0.1 i0.2 hLb, ?_⟩
  rintro xs hx ⟨i, hi', rfl, hbB⟩
  obtain ⟨b0, b1, b2, b3, b4, b5, hb⟩ := six_list (l := boxR L s i) (boxR_len _ hi')
  rw [hb] at hbB ⊢
  have hk := eq_box hbB
  simp only [TX.sat, XB.prop, X.den, List.map_cons, List.map_nil, List.getElem?_cons_zero, List.getElem?_cons_succ, List.cons_append, List.nil_append, List.getD_cons_zero, List.getD_cons_succ, mkS, mkP, and_true, true_and, Int.not_lt, Int.not_le, not_or, not_and, Classical.not_not, ne_eq, not_true_eq_false, not_false_eq_true, List.cons_append, List.nil_append]
  refine ⟨fun h => ?_, fun h => ?_⟩
  · have hj := hitg (i + 1) (by omega)
    have hw1 : IntKind.i64.wrap (lo + 1 + (i : Int)) = ((A.length + (i + 1) : Nat) : Int) := by rw [wrap64 (by omega) (by omega)]; omega
    have hw2 : IntKind.i64.wrap ((i : Int) + 1) = ((i + 1 : Nat) : Int) := by rw [wrap64 (by omega) (by omega)]; omega
    rw [hw1, hw2]
    simp only [Int.toNat_natCast]
    rw [hget _ (by omega)]
    have hx := hLb (L.getD (s.getD (i + 1) 0).toNat 0) (mem_at (by omega))
    obtain ⟨r1, r2, r3⟩ := box_run hbB hx
    refine ⟨by omega, by omega, by omega, by omega, by omega, r1, ?_⟩
    rw [r2]
    refine ⟨loop_step (i := i) (by omega) hb hbB rfl hx, ?_⟩
    show s.length - (((i + 1 : Nat) : Int)).toNat < s.length - ((i : Int)).toNat
    omega
  · rw [boxR_all (by omega)] at hb
    have hlen : ∀ x : Int, ((T ++ [x]).length : Int) = (T.length : Int) + 1 := fun x => by simp
    rw [wrap64 (by omega) (by omega), wrap64 (by omega) (by omega), wrap64 (by omega) (by omega)]
    refine ⟨by rw [hlen]; omega, fun h => absurd h (by omega), fun _ => ?_⟩
    refine ⟨fun q1 => ⟨fun q2 => ⟨fun q3 => ?_, fun q3 => ?_⟩, fun q2 => ⟨fun q3 => ?_, fun q3 => ?_⟩⟩, fun q1 => absurd q1 (by omega)⟩
    · exact htail i b0 b1 b2 b3 b4 b5 _ hb (by unfold axisOf; simp only [List.getD_cons_zero, List.getD_cons_succ]; rw [if_pos (by omega), if_pos (by omega)]; rfl)
    · exact htail i b0 b1 b2 b3 b4 b5 _ hb (by unfold axisOf; simp only [List.getD_cons_zero, List.getD_cons_succ]; rw [if_pos (by omega), if_neg (by omega)]; rfl)
    · exact htail i b0 b1 b2 b3 b4 b5 _ hb (by unfold axisOf; simp only [List.getD_cons_zero, List.getD_cons_succ]; rw [if_neg (by omega), if_pos (by omega)]; rfl)
    · exact htail i b0 b1 b2 b3 b4 b5 _ hb (by unfold axisOf; simp only [List.getD_cons_zero, List.getD_cons_succ]; rw [if_neg (by omega), if_neg (by omega)]; rfl)
#print axioms build_sat
end Go.Proofs.Ytgcoidbaoigkeaa.fix
