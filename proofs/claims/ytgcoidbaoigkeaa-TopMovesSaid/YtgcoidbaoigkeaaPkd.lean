/-
  Symbolic execution of the model, and what functions of the program come to: part 4.
-/
import Derived.Sort.LotA
import Derived.Shelf.GgSortMore.Stable
import Derived.Below
import Derived.Shelf.SlSortCmp.KitK
import Derived.Shelf.SlSortCmp.InsertionK
import Derived.Test.YtgcoidbaoigkeaaProg
import Derived.RangeFuncNested
import Derived.RangeFuncLeaves
import Derived.Sort.OwnSortedInts
import Derived.Shelf.Small.Wraps
import Derived.Test.YtgcoidbaoigkeaaPkc
set_option linter.unusedVariables false
set_option linter.unusedSimpArgs false
open List renaming getElem?_cons_zero → Z18e, getElem?_cons_succ → Z18f, getD_cons_zero → Z18g, getD_cons_succ → Z18h, cons_append → Z18i, nil_append → Z18j, map_cons → Z18k, map_nil → Z18l
namespace Go.Proofs.Ytgcoidbaoigkeaa.stab
open Go.Sort
variable {α:Type} [Inhabited α]
def Rot (d:Array α) (a m b:Nat) (d':Array α):Prop:=d'.size=d.size∧∀ k,d'[k]! = if k < a∨b≤k then d[k]! else if k < a + (b - m) then d[k + (m - a)]! else d[k - (b - m)]!
def Swr (d:Array α) (a b n:Nat) (d':Array α):Prop:=d'.size=d.size∧∀ k,d'[k]! = if a≤k∧k < a + n then d[k + (b - a)]! else if b≤k∧k < b + n then d[k - (b - a)]! else d[k]!
theorem Swr.start (d:Array α) (a b:Nat):Swr d a b 0 d:=⟨rfl,fun k=>by rw [if_neg (by omega),if_neg (by omega)]⟩
theorem Swr.step {d d':Array α} {a b n:Nat} (h:Swr d a b n d') (hab:a + n < b) (hb:b + n < d.size):Swr d a b (n + 1) (swp d' (a + n) (b + n)):=by
 refine ⟨by rw [swp_size]; exact h.1,fun k=>?_⟩
 have hs:=h.1
 by_cases h1:k=a + n
 ·subst h1
  rw [swp_left _ _ _ (by omega) (by omega),h.2,if_neg (by omega),if_neg (by omega),if_pos (by omega)]
  congr 1
  omega
 ·by_cases h2:k=b + n
  ·subst h2
   rw [swp_right _ _ _ (by omega),h.2,if_neg (by omega),if_neg (by omega),if_neg (by omega),if_pos (by omega)]
   congr 1
   omega
  ·rw [swp_other _ _ _ _ h1 h2,h.2]
   by_cases h3:a≤k∧k < a + n
   ·rw [if_pos h3,if_pos (by omega)]
   ·rw [if_neg h3,if_neg (show ¬ (a≤k∧k < a + (n + 1)) by omega)]
    by_cases h4:b≤k∧k < b + n
    ·rw [if_pos h4,if_pos (by omega)]
    ·rw [if_neg h4,if_neg (by omega)]
theorem Rot.front {d d1 d2:Array α} {l m j i:Nat} (h1:Swr d l m j d1) (hi:j < i) (hl:l + i=m) (h2:Rot d1 (l + j) m (m + j) d2):Rot d l m (m + j) d2:=by
 refine ⟨h2.1.trans h1.1,fun k=>?_⟩
 rw [h2.2]
 by_cases c1:k < l∨m + j≤k
 ·rw [if_pos (by omega),if_pos c1,h1.2,if_neg (by omega),if_neg (by omega)]
 ·rw [if_neg c1]
  by_cases c2:k < l + j
  ·rw [if_pos (by omega),h1.2,if_pos (by omega),if_pos (by omega)]
  ·rw [if_neg (by omega),if_neg (by omega:¬ k < l + (m + j - m))]
   by_cases c3:k < l + j + (m + j - m)
   ·rw [if_pos c3,h1.2]
    rw [if_neg (by omega),if_pos (by omega)]
    congr 1
    omega
   ·rw [if_neg c3,h1.2,if_neg (by omega),if_neg (by omega)]
theorem Rot.back {d d1 d2:Array α} {l m j i:Nat} (h1:Swr d l (m + j - i) i d1) (hi:i < j) (hl:l + i=m) (h2:Rot d1 l m (m + j - i) d2):Rot d l m (m + j) d2:=by
 refine ⟨h2.1.trans h1.1,fun k=>?_⟩
 rw [h2.2]
 by_cases c1:k < l∨m + j≤k
 ·rw [if_pos (by omega),if_pos c1,h1.2,if_neg (by omega),if_neg (by omega)]
 ·rw [if_neg c1]
  by_cases c2:m + j - i≤k
  ·rw [if_pos (by omega),if_neg (by omega),h1.2,if_neg (by omega),if_pos (by omega)]
   congr 1
   omega
  ·rw [if_neg (by omega)]
   by_cases c3:k < l + (m + j - i - m)
   ·rw [if_pos c3,if_pos (by omega),h1.2,if_neg (by omega),if_neg (by omega)]
   ·rw [if_neg c3,h1.2,if_pos (by omega)]
    by_cases c4:k < l + (m + j - m)
    ·rw [if_pos c4]
     congr 1
     omega
    ·omega
theorem Rot.even {d d1:Array α} {l m i:Nat} (h1:Swr d l m i d1) (hl:l + i=m):Rot d l m (m + i) d1:=by
 refine ⟨h1.1,fun k=>?_⟩
 rw [h1.2]
 by_cases c1:k < l∨m + i≤k
 ·rw [if_neg (by omega),if_neg (by omega),if_pos c1]
 ·rw [if_neg c1]
  by_cases c2:k < l + (m + i - m)
  ·rw [if_pos (by omega),if_pos c2]
  ·rw [if_neg (by omega),if_pos (by omega),if_neg c2]
   congr 1
   omega
theorem Rot.none {d:Array α} {a m b:Nat} (hm:a≤m∧m≤b) (h:m=a∨m=b):Rot d a m b d:=by
 refine ⟨rfl,fun k=>?_⟩
 by_cases c1:k < a∨b≤k
 ·rw [if_pos c1]
 ·rw [if_neg c1]
  by_cases c2:k < a + (b - m)
  ·rw [if_pos c2]
   congr 1
   omega
  ·rw [if_neg c2]
   congr 1
   omega
theorem Rot.up {d d':Array α} {a k:Nat} (h:Rot d a (a + 1) (k + 1) d') (hak:a≤k) (hk:k + 1 < d.size):Rot d a (a + 1) (k + 2) (swp d' k (k + 1)):=by
 have hs:=h.1
 refine ⟨by rw [swp_size]; exact h.1,fun x=>?_⟩
 by_cases h1:x=k
 ·subst h1
  rw [swp_left _ _ _ (by omega) (by omega),h.2,if_pos (by omega),if_neg (by omega),if_pos (by omega)]
  congr 1
  omega
 ·by_cases h2:x=k + 1
  ·subst h2
   rw [swp_right _ _ _ (by omega),h.2]
   by_cases c:k < a∨k + 1≤k
   ·omega
   ·rw [if_neg c,if_neg (by omega),if_neg (by omega),if_neg (by omega)]
    congr 1
    omega
  ·rw [swp_other _ _ _ _ h1 h2,h.2]
   by_cases c1:x < a∨k + 1≤x
   ·rw [if_pos c1,if_pos (by omega)]
   ·rw [if_neg c1,if_neg (show ¬ (x < a∨k + 2≤x) by omega),if_pos (show x < a + (k + 1 - (a + 1)) by omega),if_pos (show x < a + (k + 2 - (a + 1)) by omega)]
theorem Rot.down {d d':Array α} {k m:Nat} (h:Rot d k m (m + 1) d') (hk:k≤m) (h0:0 < k) (hm:m < d.size):Rot d (k - 1) m (m + 1) (swp d' k (k - 1)):=by
 have hs:=h.1
 refine ⟨by rw [swp_size]; exact h.1,fun x=>?_⟩
 by_cases h1:x=k
 ·subst h1
  rw [swp_left _ _ _ (by omega) (by omega),h.2,if_pos (by omega),if_neg (by omega),if_neg (by omega)]
  congr 1
  omega
 ·by_cases h2:x=k - 1
  ·subst h2
   rw [swp_right _ _ _ (by omega),h.2,if_neg (by omega),if_pos (by omega),if_neg (by omega),if_pos (by omega)]
   congr 1
   omega
  ·rw [swp_other _ _ _ _ h1 h2,h.2]
   by_cases c1:x < k∨m + 1≤x
   ·rw [if_pos c1,if_pos (by omega)]
   ·rw [if_neg c1,if_neg (show ¬ (x < k - 1∨m + 1≤x) by omega),if_neg (show ¬ x < k + (m + 1 - m) by omega),if_neg (show ¬ x < k - 1 + (m + 1 - m) by omega)]
variable {lt:α→α→Bool}
theorem Rot.at1 {d d':Array α} {a m b k:Nat} (h:Rot d a m b d') (h1:a≤k) (h2:k < a + (b - m)) (h3:k < b):d'[k]! = d[k + (m - a)]! := by rw [h.2,if_neg (by omega),if_pos h2]
theorem Rot.at2 {d d':Array α} {a m b k:Nat} (h:Rot d a m b d') (h1:a + (b - m)≤k) (h3:k < b) (h0:a≤k):d'[k]! = d[k - (b - m)]! := by rw [h.2,if_neg (by omega),if_neg (by omega)]
theorem Rot.out {d d':Array α} {a m b k:Nat} (h:Rot d a m b d') (h1:k < a∨b≤k):d'[k]! = d[k]! := by rw [h.2,if_pos h1]
theorem parts {d d1:Array α} {a s m e b mid:Nat} (hA:SortedIn lt a m d) (hB:SortedIn lt m b d) (h:Rot d s m e d1) (h1:a≤s∧s≤m∧m≤e∧e≤b) (hmid:mid=s + (e - m)) :
  SortedIn lt a s d1∧SortedIn lt s mid d1∧SortedIn lt mid e d1∧SortedIn lt e b d1:=by
 refine ⟨fun i j c1 c2 c3=>?_,fun i j c1 c2 c3=>?_,fun i j c1 c2 c3=>?_,fun i j c1 c2 c3=>?_⟩
 ·rw [h.out (by omega),h.out (by omega)]
  exact hA i j c1 c2 (by omega)
 ·rw [h.at1 (k:=i) (by omega) (by omega) (by omega),h.at1 (k:=j) (by omega) (by omega) (by omega)]
  exact hB _ _ (by omega) (by omega) (by omega)
 ·rw [h.at2 (k:=i) (by omega) (by omega) (by omega),h.at2 (k:=j) (by omega) (by omega) (by omega)]
  exact hA _ _ (by omega) (by omega) (by omega)
 ·rw [h.out (by omega),h.out (by omega)]
  exact hB i j (by omega) c2 c3
theorem SortedIn.le_of (hS:SWO lt) {d:Array α} {a b i j:Nat} (h:SortedIn lt a b d) (hi:a≤i) (hij:i≤j) (hj:j < b):lt d[j]! d[i]! = false:=by
 rcases Nat.lt_or_ge i j with c | c
 ·exact h i j hi c hj
 ·have:i=j:=by omega
  subst this
  exact hS.irrefl _
theorem Zwn (hS:SWO lt) {d d1:Array α} {a s m e b mid:Nat} (hA:SortedIn lt a m d) (hB:SortedIn lt m b d) (h:Rot d s m e d1) (h1:a≤s∧s≤m∧m≤e∧e≤b) (hmid:mid=s + (e - m))
  (hlo:s=a∨e=b∨lt d[e]! d[s - 1]! = false) (hhi:s=m∨e=m∨lt d[e - 1]! d[s]! = true):∀ i j,a≤i→i < mid→mid≤j→j < b→lt d1[j]! d1[i]! = false:=by
 have g1:∀ x y,a≤x→x < s→s≤y→y < m→lt d[y]! d[x]! = false:=fun x y q1 q2 q3 q4=>hA x y q1 (by omega) q4
 have g2:∀ x y,a≤x→x < s→e≤y→y < b→lt d[y]! d[x]! = false:=fun x y q1 q2 q3 q4=>by
  have h3:lt d[e]! d[s - 1]! = false:=by
   rcases hlo with h | h | h
   ·omega
   ·omega
   ·exact h
  exact hS.ntrans _ _ _ (SortedIn.le_of hS hB (by omega:m≤e) q3 q4) (hS.ntrans _ _ _ h3 (SortedIn.le_of hS hA q1 (by omega:x≤s - 1) (by omega)))
 have g3:∀ x y,m≤x→x < e→s≤y→y < m→lt d[y]! d[x]! = false:=fun x y q1 q2 q3 q4=>by
  have h3:lt d[e - 1]! d[s]! = true:=by
   rcases hhi with h | h | h
   ·omega
   ·omega
   ·exact h
  have h4:=hS.asymmA h3
  exact hS.ntrans _ _ _ (SortedIn.le_of hS hA (by omega:a≤s) q3 q4) (hS.ntrans _ _ _ h4 (SortedIn.le_of hS hB q1 (by omega:x≤e - 1) (by omega)))
 have g4:∀ x y,m≤x→x < e→e≤y→y < b→lt d[y]! d[x]! = false:=fun x y q1 q2 q3 q4=>hB x y q1 (by omega) q4
 intro i j c1 c2 c3 c4
 by_cases k1:i < s
 ·rw [h.out (k:=i) (by omega)]
  by_cases k2:j < e
  ·rw [h.at2 (k:=j) (by omega) (by omega) (by omega)]
   exact g1 _ _ c1 k1 (by omega) (by omega)
  ·rw [h.out (k:=j) (by omega)]
   exact g2 _ _ c1 k1 (by omega) c4
 ·rw [h.at1 (k:=i) (by omega) (by omega) (by omega)]
  by_cases k2:j < e
  ·rw [h.at2 (k:=j) (by omega) (by omega) (by omega)]
   exact g3 _ _ (by omega) (by omega) (by omega) (by omega)
  ·rw [h.out (k:=j) (by omega)]
   exact g4 _ _ (by omega) (by omega) (by omega) c4
theorem joined {d:Array α} {a mid b:Nat} (h1:SortedIn lt a mid d) (h2:SortedIn lt mid b d) (h3:∀ i j,a≤i→i < mid→mid≤j→j < b→lt d[j]! d[i]! = false):SortedIn lt a b d:=fun i j c1 c2 c3=>by
 by_cases k1:j < mid
 ·exact h1 i j c1 c2 k1
 ·by_cases k2:i < mid
  ·exact h3 i j c1 k2 (by omega) c3
  ·exact h2 i j (by omega) c2 c3
theorem Z4n {d d':Array α} {a b:Nat} (h:SortedIn lt a b d) (he:∀ k,a≤k→k < b→d'[k]! = d[k]!):SortedIn lt a b d':=fun i j c1 c2 c3=>by
 rw [he i c1 (by omega),he j (by omega) c3]
 exact h i j c1 c2 c3
theorem Zwo {d d':Array α} {a mid b:Nat} (hm:a≤mid∧mid≤b) (hb:b≤d.size) (h3:∀ i j,a≤i→i < mid→mid≤j→j < b→lt d[j]! d[i]! = false) (hP:PermIn a mid d d'∨PermIn mid b d d'):∀ i j,a≤i→i < mid→mid≤j→j < b→lt d'[j]! d'[i]! = false:=by
 rcases hP with hP | hP
 ·intro i j c1 c2 c3 c4
  rw [hP.2.1 j (by omega)]
  exact permIn_all d d' a mid (fun x=>lt d[j]! x=false) (by omega) hP (fun k q1 q2=>h3 k j q1 q2 c3 c4) i c1 c2
 ·intro i j c1 c2 c3 c4
  rw [hP.2.1 i (by omega)]
  exact permIn_all d d' mid b (fun x=>lt x d[i]! = false) (by omega) hP (fun k q1 q2=>h3 i k c1 c2 q1 q2) j c3 c4
def Z1a (lt:α→α→Bool) (a m b:Nat) (d d':Array α):Prop:=PermIn a b d d'∧(SortedIn lt a m d→SortedIn lt m b d→SortedIn lt a b d')
theorem Zla (hS:SWO lt) {d d':Array α} {a b i:Nat} (hR:Rot d a (a + 1) i d') (hP:PermIn a b d d') (hi:a + 1≤i∧i≤b) (h1:i=a + 1∨lt d[i - 1]! d[a]! = true) (h2:i=b∨lt d[i]! d[a]! = false):Z1a lt a (a + 1) b d d':=by
 refine ⟨hP,fun hA hB=>?_⟩
 obtain ⟨p1,p2,p3,p4⟩:=parts (mid:=a + (i - (a + 1))) hA hB hR (by omega) rfl
 refine joined p2 (mid:=a + (i - (a + 1))) (joined p3 p4 fun x y c1 c2 c3 c4=>?_) (Zwn hS hA hB hR (by omega) rfl (by omega) (by
  rcases h1 with h | h
  ·exact .inr (.inl h)
  ·exact .inr (.inr h)))
 have hx:x=i - 1:=by omega
 subst hx
 rw [hR.at2 (k:=i - 1) (by omega) (by omega) (by omega),hR.out (k:=y) (by omega),show i - 1 - (i - (a + 1))=a by omega]
 have h3:lt d[i]! d[a]! = false:=by
  rcases h2 with h | h
  ·omega
  ·exact h
 exact hS.ntrans _ _ _ (SortedIn.le_of hS hB (by omega:a + 1≤i) c3 c4) h3
theorem Znu (hS:SWO lt) {d d':Array α} {a m i:Nat} (hR:Rot d i m (m + 1) d') (hP:PermIn a (m + 1) d d') (hi:a≤i∧i≤m) (h1:i=a∨lt d[m]! d[i - 1]! = false) (h2:i=m∨lt d[m]! d[i]! = true):Z1a lt a m (m + 1) d d':=by
 refine ⟨hP,fun hA hB=>?_⟩
 obtain ⟨p1,p2,p3,p4⟩:=parts (mid:=i + (m + 1 - m)) hA hB hR (by omega) rfl
 refine joined (mid:=i + (m + 1 - m)) (joined p1 p2 fun x y c1 c2 c3 c4=>?_) p3 (Zwn hS hA hB hR (by omega) rfl (by omega) (by
  rcases h2 with h | h
  ·exact .inl h
  ·exact .inr (.inr h)))
 have hy:y=i:=by omega
 subst hy
 rw [hR.out (k:=x) (by omega),hR.at1 (k:=y) (by omega) (by omega) (by omega),show y + (m - y)=m by omega]
 have h3:lt d[m]! d[y - 1]! = false:=by
  rcases h1 with h | h
  ·omega
  ·exact h
 exact hS.ntrans _ _ _ h3 (SortedIn.le_of hS hA c1 (by omega:x≤y - 1) (by omega))
theorem Zgq (hS:SWO lt) {d d1 d2 d3:Array α} {a s m e b mid:Nat} (hsz:b≤d.size) (hR:Rot d s m e d1) (hP:PermIn a b d d1) (h1:a≤s∧s≤m∧m≤e∧e≤b) (hmid:mid=s + (e - m))
  (hlo:s=a∨e=b∨lt d[e]! d[s - 1]! = false) (hhi:s=m∨e=m∨lt d[e - 1]! d[s]! = true)
  (hL:(Z1a lt a s mid d1 d2∨(s=a∨s=mid)∧d2=d1)) (hG:(Z1a lt mid e b d2 d3∨(e=mid∨e=b)∧d3=d2)):Z1a lt a m b d d3:=by
 have q1:PermIn a mid d1 d2:=by
  rcases hL with h | ⟨_,h⟩
  ·exact h.1
  ·rw [h]; exact permIn_refl _ _ _
 have q2:PermIn mid b d2 d3:=by
  rcases hG with h | ⟨_,h⟩
  ·exact h.1
  ·rw [h]; exact permIn_refl _ _ _
 have s1:=hP.1
 have s2:=q1.1
 have s3:=q2.1
 refine ⟨permIn_trans _ _ _ _ _ hP (permIn_trans _ _ _ _ _ (permIn_mono _ _ a mid a b (Nat.le_refl _) (by omega) (by omega) q1) (permIn_mono _ _ mid b a b (by omega) (Nat.le_refl _) (by omega) q2)),fun hA hB=>?_⟩
 obtain ⟨p1,p2,p3,p4⟩:=parts hA hB hR h1 hmid
 have hb:=Zwn hS hA hB hR h1 hmid hlo hhi
 have r1:SortedIn lt a mid d2:=by
  rcases hL with h | ⟨h | h,h'⟩
  ·exact h.2 p1 p2
  ·subst h'; subst h; exact p2
  ·subst h'; rw [← h]; exact p1
 have r2:SortedIn lt mid b d3:=by
  have k3:SortedIn lt mid e d2:=Z4n p3 fun k c1 c2=>q1.2.1 k (by omega)
  have k4:SortedIn lt e b d2:=Z4n p4 fun k c1 c2=>q1.2.1 k (by omega)
  rcases hG with h | ⟨h | h,h'⟩
  ·exact h.2 k3 k4
  ·subst h'; rw [← h]; exact k4
  ·subst h'; rw [← h]; exact k3
 have r3:SortedIn lt a mid d3:=Z4n r1 fun k c1 c2=>q2.2.1 k (by omega)
 exact joined r3 r2 (Zwo (by omega) (by omega) (Zwo (by omega) (by omega) hb (.inl q1)) (.inr q2))
end Go.Proofs.Ytgcoidbaoigkeaa.stab
namespace Go.Proofs.Ytgcoidbaoigkeaa.stab
open Go.Shelf Go.RowKit Go.Lib Go.Sort
variable {α:Type} [Inhabited α]
def Zf (enc:α→Value) (w:World) (blk off n:Nat) (dk:Array α) (os:Array Obj):World:=Sort.grow (putRow enc { w with drawn:=n } blk off dk) os
def SW (enc:α→Value) (w0:World) (blk off:Nat) (dk:Array α) (W:World):Prop:=∃ n os,W=Zf enc w0 blk off n dk os
section
variable {enc:α→Value} {w0 W:World} {blk off:Nat} {dk:Array α}
theorem Zlb (enc:α→Value) (w:World) (blk off n m:Nat) (dk dk':Array α) (os os':Array Obj) (hblk:blk < w.heap.size) (h:dk'.size=dk.size) :
  Zf enc (Zf enc w blk off n dk os) blk off m dk' os'=Zf enc w blk off m dk' (os++os'):=by
 unfold Zf
 show Sort.grow (putRow enc (Sort.grow (putRow enc { w with drawn:=m } blk off dk) os) blk off dk') os'=_
 rw [putRow_grow enc _ os blk off dk' (by rw [size_putRow]; exact hblk),putRow_putRow enc _ blk off dk dk' h,grow_grow]
theorem SW.start (h:Holds enc w0 blk off dk):SW enc w0 blk off dk w0:=⟨w0.drawn,#[],by unfold Zf; rw [grow_empty]; exact (putRow_self enc w0 blk off dk h).symm⟩
theorem SW.alloc (h:SW enc w0 blk off dk W) (o:Obj):SW enc w0 blk off dk (W.alloc o):=by
 obtain ⟨n,os,rfl⟩:=h
 exact ⟨n,os++#[o],by unfold Zf; rw [alloc_eq_grow,grow_grow]⟩
theorem SW.le (h:SW enc w0 blk off dk W):w0.heap.size≤W.heap.size:=by
 obtain ⟨n,os,rfl⟩:=h
 unfold Zf
 rw [size_grow,size_putRow]
 show w0.heap.size≤w0.heap.size + _
 omega
theorem SW.on (h:SW enc w0 blk off dk W) (hblk:blk < w0.heap.size) (m:Nat) (dk':Array α) (os':Array Obj) (hs:dk'.size=dk.size):SW enc w0 blk off dk' (Zf enc W blk off m dk' os'):=by
 obtain ⟨n,os,rfl⟩:=h
 exact ⟨m,_,Zlb enc w0 blk off n m dk dk' os os' hblk hs⟩
theorem SW.holds (h:SW enc w0 blk off dk W) (hblk:blk < w0.heap.size) {d0:Array α} (h0:Holds enc w0 blk off d0) (hs:dk.size=d0.size):Holds enc W blk off dk:=by
 obtain ⟨n,os,rfl⟩:=h
 unfold Zf
 rw [← putRow_grow enc { w0 with drawn:=n } os blk off dk hblk]
 exact holds_putRow enc _ blk off d0 dk (holds_grow enc _ _ blk off d0 hblk h0) hs
theorem SW.lt (h:SW enc w0 blk off dk W) (hblk:blk < w0.heap.size):blk < W.heap.size:=Nat.lt_of_lt_of_le hblk h.le
theorem SW.swap (h:SW enc w0 blk off dk W) (hblk:blk < w0.heap.size) (i j:Nat) (hi:i < dk.size) (hj:j < dk.size) :
  SW enc w0 blk off (swp dk i j) ((W.setCell ⟨blk,off + i,none⟩ (enc dk[j]!)).setCell ⟨blk,off + j,none⟩ (enc dk[i]!)):=by
 obtain ⟨n,os,rfl⟩:=h
 refine ⟨n,os,?_⟩
 unfold Zf
 rw [← putRow_grow enc { w0 with drawn:=n } os blk off dk hblk,putRow_swp enc _ blk off dk i j hi hj,putRow_grow enc { w0 with drawn:=n } os blk off _ hblk]
end
theorem Z9y (enc:α→Value) (w:World) (o:Obj) (blk off n:Nat) (X:Array α) (hblk:blk < w.heap.size):putRow enc (Sort.ahead (w.alloc o) n) blk off X=Zf enc w blk off (w.drawn + n) X #[o]:=by
 unfold Zf
 rw [alloc_eq_grow,ahead_grow,putRow_grow enc (Sort.ahead w n) _ blk off _ hblk]
 rfl
def Grew (W W':World):Prop:=∃ n os,W'=Sort.grow { W with drawn:=n } os
theorem Grew.refl (W:World):Grew W W:=⟨W.drawn,#[],by rw [grow_empty]⟩
theorem Z6w {enc:α→Value} {w0 W W':World} {blk off:Nat} {dk:Array α} (h:SW enc w0 blk off dk W) (hG:Grew W W'):SW enc w0 blk off dk W':=by
 obtain ⟨q,os',rfl⟩:=hG
 obtain ⟨n,os,rfl⟩:=h
 exact ⟨q,os++os',by unfold Zf; rw [← grow_grow]; rfl⟩
end Go.Proofs.Ytgcoidbaoigkeaa.stab
namespace Go.Proofs.Ytgcoidbaoigkeaa.stab
open Go.Shelf Go.RowKit Go.Lib Go.Sort
variable {P:Program} {ρ:Ren} {α:Type} [Inhabited α]
set_option maxHeartbeats 1600000 in
set_option maxRecDepth 1000000 in
theorem Zig (L:LaysGt.n49 P ρ) (enc:α→Value) (lf:Fn) (la lb:Array Value) (sf:Nat) (sb:Array Value) (blk off a b n:Nat) (d:Array α) (w:World)
  (hswap:SwapSwaps P sf sb enc blk off d.size) (hH:Holds enc w blk off d) (hblk:blk < w.heap.size) (hab:a + n≤b) (hb:b + n≤d.size) (hsz:d.size < 4611686018427387904) :
  Calls P (ρ.f 49) #[.agg #[.func lf la lb,.func (.func sf) #[] sb],.int .i64 a,.int .i64 b,.int .i64 n] w fun e w'=>e=.returned (.tuple #[])∧∃ m d',w'=putRow enc (Sort.ahead (w.alloc (.cells #[.func lf la lb,.func (.func sf) #[] sb] (ρ.t 42))) m) blk off d'∧Swr d a b n d'∧PermIn a (b + n) d d':=by
 have mixed:=L.mixed; have t0:=L.t0; have a0:=L.a0; have z0:=L.z0; have v0:=L.v0; have t3:=L.t3; have a3:=L.a3; have z3:=L.z3; have v3:=L.v3; have t4:=L.t4; have a4:=L.a4; have z4:=L.z4; have v4:=L.v4; have t26:=L.t26; have a26:=L.a26; have z26:=L.z26; have v26:=L.v26; have t38:=L.t38; have a38:=L.a38; have z38:=L.z38; have v38:=L.v38; have t42:=L.t42; have a42:=L.a42; have z42:=L.z42; have v42:=L.v42
 have u42:=run_underlying L.t42
 have hH1:Holds enc (w.alloc (.cells #[.func lf la lb,.func (.func sf) #[] sb] (ρ.t 42))) blk off d:=by rw [alloc_eq_grow]; exact holds_grow enc w _ blk off d hblk hH
 go_enter L.f49,BodyGt.n49_ntmps ρ
 go_wp2
 go_loopg [8] n (fun k s8 wr=>∃ (i m:Nat) (dk:Array α),s8=.int .i64 i∧i + k=n∧wr=putRow enc (Sort.ahead (w.alloc (.cells #[.func lf la lb,.func (.func sf) #[] sb] (ρ.t 42))) m) blk off dk∧Swr d a b i dk∧PermIn a (b + n) d dk)
 case atStart=>exact ⟨0,0,d,rfl,by omega,(putRow_self enc _ blk off d hH1).symm,Swr.start d a b,permIn_refl _ _ _⟩
 case round =>
  obtain ⟨i,m,dk,rfl,hk,hwr,hS,hP⟩:=hrel
  have hds:dk.size=d.size:=hS.1
  by_cases hlt:i < n
  ·have hHk:Holds enc wr blk off dk:=by rw [hwr]; exact holds_putRow enc _ blk off d dk (holds_ahead enc _ m blk off d hH1) hds
   have c1:wr.cell? ⟨w.heap.size,1,none⟩=some (.func (.func sf) #[] sb):=by
    rw [hwr,cell?_putRow_other enc _ blk off dk _ (Or.inl (by show w.heap.size ≠ blk; omega))]; show ((w.alloc (.cells #[.func lf la lb,.func (.func sf) #[] sb] (ρ.t 42)))).cell? _=_; simp
   have hs:=hswap wr dk hHk hds (a + i) (b + i) (by omega) (by omega)
   rw [show (((a + i:Nat):Int))=(a:Int) + i by omega,show (((b + i:Nat):Int))=(b:Int) + i by omega] at hs
   have A:Aside (wr=putRow enc (Sort.ahead (w.alloc (.cells #[.func lf la lb,.func (.func sf) #[] sb] (ρ.t 42))) m) blk off dk∧Swr d a b i dk∧PermIn a (b + n) d dk):=⟨hwr,hS,hP⟩
   clear hwr hHk hH hH1 hswap hS hP
   go_wp2
   go_roundg (gk - 1)
   case measure=>omega
   case rel =>
    obtain ⟨hwr,hS,hP⟩:=A.out
    exact ⟨i + 1,m,swp dk (a + i) (b + i),by simp,by omega,
     by rw [hwr,← putRow_swp enc _ blk off dk (a + i) (b + i) (by omega) (by omega)],
     hS.step (by omega) (by omega),permIn_trans _ _ _ _ _ hP (swp_permIn _ _ _ _ _ (by omega) (by omega) (by omega) (by omega) (by omega))⟩
  ·go_wp2
   go_end0
   have:i=n:=by omega
   subst this
   exact ⟨rfl,m,dk,rfl,hS,hP⟩
theorem Znv (L:LaysGt.n49 P ρ) (enc:α→Value) (lf:Fn) (la lb:Array Value) (sf:Nat) (sb:Array Value) (blk off a b n:Nat) (d:Array α) (w:World)
  (hswap:SwapSwaps P sf sb enc blk off d.size) (hH:Holds enc w blk off d) (hblk:blk < w.heap.size) (hab:a + n≤b) (hb:b + n≤d.size) (hsz:d.size < 4611686018427387904) :
  Calls P (ρ.f 49) #[.agg #[.func lf la lb,.func (.func sf) #[] sb],.int .i64 a,.int .i64 b,.int .i64 n] w fun e w'=>e=.returned (.tuple #[])∧∃ m os d',w'=Zf enc w blk off m d' os∧Swr d a b n d'∧PermIn a (b + n) d d' :=
 (Zig L enc lf la lb sf sb blk off a b n d w hswap hH hblk hab hb hsz).mono fun _ _ ⟨he,m,d',hw,h1,h2⟩=>⟨he,_,_,d',hw.trans (Z9y enc w _ blk off m _ hblk),h1,h2⟩
end Go.Proofs.Ytgcoidbaoigkeaa.stab
namespace Go.Proofs.Ytgcoidbaoigkeaa.stab
open Go.Shelf Go.RowKit Go.Lib Go.Sort
variable {P:Program} {ρ:Ren} {α:Type} [Inhabited α]
def Dat (bx:Nat) (f0 f1:Value) (W:World):Prop:=bx < W.heap.size∧W.cell? ⟨bx,0,none⟩=some f0∧W.cell? ⟨bx,1,none⟩=some f1
theorem Zwp (enc:α→Value) (w:World) (blk off n:Nat) (dk:Array α) (os:Array Obj) (k i:Nat) (hk:k < w.heap.size) (hne:k ≠ blk):(Zf enc w blk off n dk os).cell? ⟨k,i,none⟩=w.cell? ⟨k,i,none⟩:=by
 unfold Zf
 rw [cell?_grow _ _ _ (by rw [size_putRow]; exact hk),cell?_putRow_other enc _ blk off _ _ (Or.inl hne)]
 rfl
theorem Z16n (enc:α→Value) (w:World) (blk off n:Nat) (dk:Array α) (os:Array Obj):w.heap.size≤(Zf enc w blk off n dk os).heap.size:=by
 unfold Zf
 rw [size_grow,size_putRow]
 show w.heap.size≤w.heap.size + _
 omega
theorem Dat.on {bx:Nat} {f0 f1:Value} {W:World} (h:Dat bx f0 f1 W) (enc:α→Value) (blk off n:Nat) (dk:Array α) (os:Array Obj) (hne:bx ≠ blk):Dat bx f0 f1 (Zf enc W blk off n dk os) :=
 ⟨Nat.lt_of_lt_of_le h.1 (Z16n enc W blk off n dk os),by rw [Zwp enc W blk off n dk os bx 0 h.1 hne]; exact h.2.1,by rw [Zwp enc W blk off n dk os bx 1 h.1 hne]; exact h.2.2⟩
theorem Dat.drewN {bx:Nat} {f0 f1:Value} {W:World} (h:Dat bx f0 f1 W) (q:Nat):Dat bx f0 f1 (W.drewN q):=h
theorem Dat.set {bx:Nat} {f0 f1:Value} {W:World} (h:Dat bx f0 f1 W) (a:Addr) (v:Value) (ha:a.block ≠ bx):Dat bx f0 f1 (W.setCell a v):=by
 refine ⟨by simpa using h.1,?_,?_⟩
 ·rw [World.cell?_setCell_other]
  ·exact h.2.1
  ·intro e; exact ha (by rw [e])
 ·rw [World.cell?_setCell_other]
  ·exact h.2.2
  ·intro e; exact ha (by rw [e])
theorem Dat.start (w:World) (f0 f1:Value) (t:TypeId):Dat w.heap.size f0 f1 (w.alloc (.cells #[f0,f1] t)):=⟨by simp,by simp,by simp⟩
theorem Dat.grew {bx:Nat} {f0 f1:Value} {W W':World} (h:Dat bx f0 f1 W) (hG:Grew W W'):Dat bx f0 f1 W':=by
 obtain ⟨q,os,rfl⟩:=hG
 obtain ⟨h1,h2,h3⟩:=h
 refine ⟨by rw [size_grow]; exact Nat.lt_of_lt_of_le h1 (Nat.le_add_right _ _),?_,?_⟩
 ·rw [cell?_grow _ _ _ (by exact h1)]; exact h2
 ·rw [cell?_grow _ _ _ (by exact h1)]; exact h3
def Z9z (P:Program) (g:Nat) (lb:Array Value) (enc:α→Value) (lt:α→α→Bool) (blk off size:Nat) (w:World):Prop :=
  ∀ (W:World) (dk:Array α),SW enc w blk off dk W→dk.size=size→∀ i j:Nat,i < size→j < size →
    Calls P g (#[.int .i64 i,.int .i64 j]++lb) W fun e w'=>e=.returned (.bool (lt dk[i]! dk[j]!))∧Grew W w'
theorem Zca {P:Program} {enc:α→Value} {w0 W:World} {blk off:Nat} {dk:Array α} {g:Nat} {lb:Array Value} {lt:α→α→Bool} {size:Nat} (h:SW enc w0 blk off dk W) (hL:Z9z P g lb enc lt blk off size w0) (hs:dk.size=size) (i j:Nat) (hi:i < size) (hj:j < size) :
  Calls P g (#[.int .i64 i,.int .i64 j]++lb) W fun e w'=>e=.returned (.bool (lt dk[i]! dk[j]!))∧Grew W w':=hL W dk h hs i j hi hj
theorem Zlc {P:Program} {enc:α→Value} {w0 W:World} {blk off:Nat} {dk:Array α} {g:Nat} {lb:Array Value} {lt:α→α→Bool} {size:Nat} (h:SW enc w0 blk off dk W) (hL:Z9z P g lb enc lt blk off size w0) (hblk:blk < w0.heap.size) (hs:dk.size=size):Z9z P g lb enc lt blk off size W:=fun W' dk' h' hs' i j hi hj=>by
 obtain ⟨n,os,rfl⟩:=h'
 exact hL _ dk' (h.on hblk n dk' os (hs'.trans hs.symm)) hs' i j hi hj
theorem Z9z.grow {P:Program} {enc:α→Value} {w:World} {blk off:Nat} {g:Nat} {lb:Array Value} {lt:α→α→Bool} {size:Nat} (hL:Z9z P g lb enc lt blk off size w) (hblk:blk < w.heap.size) (os0:Array Obj):Z9z P g lb enc lt blk off size (Sort.grow w os0):=fun W' dk' h' hs' i j hi hj=>by
 obtain ⟨n,os,rfl⟩:=h'
 refine hL _ dk' ⟨n,os0++os,?_⟩ hs' i j hi hj
 unfold Zf
 show Sort.grow (putRow enc (Sort.grow { w with drawn:=n } os0) blk off dk') os=_
 rw [putRow_grow enc { w with drawn:=n } _ blk off _ hblk,grow_grow]
set_option maxHeartbeats 1600000 in
set_option maxRecDepth 1000000 in
theorem Zq4 (L:LaysGt.n42 P ρ) (enc:α→Value) (lf:Fn) (la lb:Array Value) (sf:Nat) (sb:Array Value) (blk off a m b:Nat) (d:Array α) (w:World)
  (hswap:SwapSwaps P sf sb enc blk off d.size) (hH:Holds enc w blk off d) (hblk:blk < w.heap.size) (ham:a < m) (hmb:m < b) (hb:b≤d.size) (hsz:d.size < 4611686018427387904) :
  Calls P (ρ.f 42) #[.agg #[.func lf la lb,.func (.func sf) #[] sb],.int .i64 a,.int .i64 m,.int .i64 b] w fun e w'=>e=.returned (.tuple #[])∧∃ n os d',w'=Zf enc w blk off n d' os∧Rot d a m b d'∧PermIn a b d d':=by
 have mixed:=L.mixed; have t0:=L.t0; have a0:=L.a0; have z0:=L.z0; have v0:=L.v0; have t3:=L.t3; have a3:=L.a3; have z3:=L.z3; have v3:=L.v3; have t4:=L.t4; have a4:=L.a4; have z4:=L.z4; have v4:=L.v4; have t26:=L.t26; have a26:=L.a26; have z26:=L.z26; have v26:=L.v26; have t38:=L.t38; have a38:=L.a38; have z38:=L.z38; have v38:=L.v38; have t42:=L.t42; have a42:=L.a42; have z42:=L.z42; have v42:=L.v42
 have u42:=run_underlying L.t42
 have e49:∀ args w,(callFunc (ρ.f 49) args).run P w=.ok (.enter (ρ.f 49) args) w:=enters_of L.f49 (by kernel_rfl) rfl
 have LS:LaysGt.n49 P ρ:={ L with }
 have hSW:=(SW.start hH).alloc (.cells #[.func lf la lb,.func (.func sf) #[] sb] (ρ.t 42))
 have hD:=Dat.start w (.func lf la lb) (.func (.func sf) #[] sb) (ρ.t 42)
 have hne:w.heap.size ≠ blk:=by omega
 go_enter L.f42,BodyGt.n42_ntmps ρ
 go_wp2
 go_loopg [8,9] (b - a) (fun k s8 s9 wr=>∃ (i j:Nat) (dk:Array α),s8=.int .i64 i∧s9=.int .i64 j∧0 < i∧0 < j∧a + i≤m∧m + j≤b∧i + j≤k∧SW enc w blk off dk wr∧Dat w.heap.size (.func lf la lb) (.func (.func sf) #[] sb) wr ∧
  (∀ d',Rot dk (m - i) m (m + j) d'→Rot d a m b d')∧PermIn a b d dk)
 case atStart=>exact ⟨m - a,b - m,d,by congr 1; omega,by congr 1; omega,by omega,by omega,by omega,by omega,by omega,hSW,hD,fun d' h=>by rwa [show m - (m - a)=a by omega,show m + (b - m)=b by omega] at h,permIn_refl _ _ _⟩
 case round =>
  obtain ⟨i,j,dk,rfl,rfl,hi0,hj0,hi,hj,hk,hS,hDk,hRo,hP⟩:=hrel
  have hds:dk.size=d.size:=hP.1
  have hHk:Holds enc wr blk off dk:=hS.holds hblk hH hds
  have hbk:blk < wr.heap.size:=hS.lt hblk
  obtain ⟨q0,c0,c1⟩:=hDk
  have sw:∀ (a' b' n':Nat),a' + n'≤b'→b' + n'≤dk.size→Calls P (ρ.f 49) #[.agg #[.func lf la lb,.func (.func sf) #[] sb],.int .i64 a',.int .i64 b',.int .i64 n'] wr fun e w'=>e=.returned (.tuple #[])∧∃ m os d',w'=Zf enc wr blk off m d' os∧Swr dk a' b' n' d'∧PermIn a' (b' + n') dk d' :=
   fun a' b' n' h1 h2=>Znv LS enc lf la lb sf sb blk off a' b' n' dk wr (by rw [hds]; exact hswap) hHk hbk h1 h2 (by omega)
  have A:Aside (SW enc w blk off dk wr∧Dat w.heap.size (.func lf la lb) (.func (.func sf) #[] sb) wr∧(∀ d',Rot dk (m - i) m (m + j) d'→Rot d a m b d')∧PermIn a b d dk∧dk.size=d.size):=⟨hS,⟨q0,c0,c1⟩,hRo,hP,hds⟩
  have hdb:b≤dk.size:=by omega
  have hdz:dk.size < 4611686018427387904:=by omega
  clear hS hRo hP hds hHk hbk hswap hH hSW hD
  by_cases hij:i=j
  ·subst hij
   have hc:=sw (m - i) m i (by omega) (by omega)
   rw [show (((m - i:Nat):Int))=(m:Int) - i by omega] at hc
   clear sw
   go_wp2_with (go_at_fn (ρ.f 49); refine hc.mono ?_; rintro e w1 ⟨rfl,n,os,d1,rfl,h1,h2⟩)
   go_end0
   obtain ⟨hS,hDk,hRo,hP,hds⟩:=A.out
   obtain ⟨n',os',e'⟩:=hS.on hblk n d1 os h2.1
   exact ⟨rfl,n',os',d1,e',hRo d1 (Rot.even h1 (by omega)),permIn_trans _ _ _ _ _ hP (permIn_mono _ _ _ _ _ _ (by omega) (by omega) (by omega) h2)⟩
  ·by_cases hgt:j < i
   ·have hc:=sw (m - i) m j (by omega) (by omega)
    rw [show (((m - i:Nat):Int))=(m:Int) - i by omega] at hc
    clear sw
    go_wp2_with (go_at_fn (ρ.f 49); refine hc.mono ?_; rintro e w1 ⟨rfl,n,os,d1,rfl,h1,h2⟩)
    go_roundg (i - j + j)
    case measure=>omega
    case rel =>
     obtain ⟨hS,hDk,hRo,hP,hds⟩:=A.out
     exact ⟨i - j,j,d1,by congr 1; omega,rfl,by omega,by omega,by omega,by omega,by omega,hS.on hblk n d1 os h2.1,hDk.on enc blk off n d1 os hne,
      fun d' h=>hRo d' (Rot.front (i:=i) h1 hgt (by omega) (by rwa [show m - (i - j)=m - i + j by omega] at h)),permIn_trans _ _ _ _ _ hP (permIn_mono _ _ _ _ _ _ (by omega) (by omega) (by omega) h2)⟩
   ·have hc:=sw (m - i) (m + j - i) i (by omega) (by omega)
    rw [show (((m - i:Nat):Int))=(m:Int) - i by omega,show (((m + j - i:Nat):Int))=(m:Int) + j - i by omega] at hc
    clear sw
    go_wp2_with (go_at_fn (ρ.f 49); refine hc.mono ?_; rintro e w1 ⟨rfl,n,os,d1,rfl,h1,h2⟩)
    go_roundg (i + (j - i))
    case measure=>omega
    case rel =>
     obtain ⟨hS,hDk,hRo,hP,hds⟩:=A.out
     exact ⟨i,j - i,d1,rfl,by congr 1; omega,by omega,by omega,by omega,by omega,by omega,hS.on hblk n d1 os h2.1,hDk.on enc blk off n d1 os hne,
      fun d' h=>hRo d' (Rot.back (i:=i) h1 (by omega) (by omega) (by rwa [show m + (j - i)=m + j - i by omega] at h)),permIn_trans _ _ _ _ _ hP (permIn_mono _ _ _ _ _ _ (by omega) (by omega) (by omega) h2)⟩
end Go.Proofs.Ytgcoidbaoigkeaa.stab
namespace Go.Proofs.Ytgcoidbaoigkeaa.stab
open Go.Shelf Go.RowKit Go.Lib Go.Sort
variable {P:Program} {ρ:Ren} {α:Type} [Inhabited α]
theorem Z2u (i j:Nat):(((i + j) / 2:Nat):Int)=((i:Int) + j) / 2:=by omega
set_option maxHeartbeats 3200000 in
set_option maxRecDepth 1000000 in
theorem Zld (L:LaysGt.n30 P ρ) (enc:α→Value) (lt:α→α→Bool) (hO:SWO lt) (g:Nat) (lb:Array Value) (sf:Nat) (sb:Array Value) (blk off:Nat)
  (eg:∀ args w,(callFunc g args).run P w=.ok (.enter g args) w) (a m b:Nat) (d:Array α) (w:World) (hless:Z9z P g lb enc lt blk off d.size w) (hswap:SwapSwaps P sf sb enc blk off d.size)
  (hH:Holds enc w blk off d) (hblk:blk < w.heap.size) (ham:a < m) (hmb:m < b) (hb:b≤d.size) (hsz:d.size < 4611686018427387904) (hone:m=a + 1) :
  Calls P (ρ.f 30) #[.agg #[.func (.func g) #[] lb,.func (.func sf) #[] sb],.int .i64 a,.int .i64 m,.int .i64 b] w fun e w'=>e=.returned (.tuple #[])∧∃ n os d',w'=Zf enc w blk off n d' os∧Z1a lt a m b d d':=by
 have mixed:=L.mixed; have t0:=L.t0; have a0:=L.a0; have z0:=L.z0; have v0:=L.v0; have t3:=L.t3; have a3:=L.a3; have z3:=L.z3; have v3:=L.v3; have t4:=L.t4; have a4:=L.a4; have z4:=L.z4; have v4:=L.v4; have t26:=L.t26; have a26:=L.a26; have z26:=L.z26; have v26:=L.v26; have t38:=L.t38; have a38:=L.a38; have z38:=L.z38; have v38:=L.v38; have t42:=L.t42; have a42:=L.a42; have z42:=L.z42; have v42:=L.v42; have t47:=L.t47; have a47:=L.a47; have z47:=L.z47; have v47:=L.v47
 have u42:=run_underlying L.t42
 have hSW:=(SW.start hH).alloc (.cells #[.func (.func g) #[] lb,.func (.func sf) #[] sb] (ρ.t 42))
 have hD:=Dat.start w (.func (.func g) #[] lb) (.func (.func sf) #[] sb) (ρ.t 42)
 have hne:blk ≠ w.heap.size:=by omega
 have h1:(m:Int) - a=1:=by omega
 have M:Aside (m=a + 1):=hone
 clear hone
 go_enter L.f30,BodyGt.n30_ntmps ρ
 go_wp2
 go_loopg [8,9] (b - m) (fun k s8 s9 wr=>∃ (i j:Nat),s8=.int .i64 i∧s9=.int .i64 j∧m≤i∧i≤j∧j≤b∧j - i≤k∧SW enc w blk off d wr∧Dat w.heap.size (.func (.func g) #[] lb) (.func (.func sf) #[] sb) wr ∧
  (i=m∨lt d[i - 1]! d[a]! = true)∧(j=b∨lt d[j]! d[a]! = false))
 case atStart=>exact ⟨m,b,rfl,rfl,by omega,by omega,by omega,by omega,hSW,hD,.inl rfl,.inl rfl⟩
 case round =>
  obtain ⟨i,j,rfl,rfl,hi0,hij,hj,hk,hS,hDk,he1,he2⟩:=hrel
  obtain ⟨q0,c0,c1⟩:=id hDk
  have A:Aside (SW enc w blk off d wr∧Dat w.heap.size (.func (.func g) #[] lb) (.func (.func sf) #[] sb) wr∧(i=m∨lt d[i - 1]! d[a]! = true)∧(j=b∨lt d[j]! d[a]! = false)):=⟨hS,hDk,he1,he2⟩
  by_cases hlt:i < j
  ·have hl:=Zca hS hless rfl ((i + j) / 2) a (by omega) (by omega)
   rw [Z2u] at hl
   clear hS hDk he1 he2 hSW hD hless hswap hH
   cases hlv:lt d[(i + j) / 2]! d[a]! with
   | true =>
    rw [hlv] at hl
    have V:Aside (lt d[(i + j) / 2]! d[a]! = true):=hlv
    clear hlv
    go_wp2_with (go_at_fn g; refine hl.mono ?_; rintro e w' ⟨rfl,hG⟩)
    go_roundg (j - ((i + j) / 2 + 1))
    case measure=>omega
    case rel =>
     obtain ⟨hS,hDk,he1,he2⟩:=A.out
     exact ⟨(i + j) / 2 + 1,j,by congr 1,rfl,by omega,by omega,by omega,by omega,Z6w hS hG,hDk.grew hG,.inr V.out,he2⟩
   | false =>
    rw [hlv] at hl
    have V:Aside (lt d[(i + j) / 2]! d[a]! = false):=hlv
    clear hlv
    go_wp2_with (go_at_fn g; refine hl.mono ?_; rintro e w' ⟨rfl,hG⟩)
    go_roundg ((i + j) / 2 - i)
    case measure=>omega
    case rel =>
     obtain ⟨hS,hDk,he1,he2⟩:=A.out
     exact ⟨i,(i + j) / 2,rfl,by congr 1,by omega,by omega,by omega,by omega,Z6w hS hG,hDk.grew hG,he1,.inr V.out⟩
  ·have hje:j=i:=by omega
   subst hje
   clear hS hDk he1 he2 hSW hD hless
   go_wp2
   go_loopg [11] (j - 1 - a) (fun k s11 wr2=>∃ (x:Nat) (dk:Array α),s11=.int .i64 x∧a≤x∧x + 1≤j∧j - 1 - x≤k∧SW enc w blk off dk wr2∧Dat w.heap.size (.func (.func g) #[] lb) (.func (.func sf) #[] sb) wr2∧Rot d a (a + 1) (x + 1) dk∧PermIn a b d dk)
   case atStart =>
    obtain ⟨hS,hDk,he1,he2⟩:=A.out
    exact ⟨a,d,rfl,by omega,by omega,by omega,hS,hDk,Rot.none (by omega) (.inr rfl),permIn_refl _ _ _⟩
   case round =>
    obtain ⟨x,dk,rfl,hx0,hx1,hxk,hS2,hD2,hR,hP⟩:=hrel
    have hds:dk.size=d.size:=hP.1
    obtain ⟨q2,c2,c3⟩:=id hD2
    by_cases hlt2:x + 1 < j
    ·have hs:=hswap wr dk (hS2.holds hblk hH hds) hds x (x + 1) (by omega) (by omega)
     rw [show (((x + 1:Nat):Int))=(x:Int) + 1 by omega] at hs
     have B:Aside (SW enc w blk off dk wr∧Dat w.heap.size (.func (.func g) #[] lb) (.func (.func sf) #[] sb) wr∧Rot d a (a + 1) (x + 1) dk∧PermIn a b d dk∧dk.size=d.size):=⟨hS2,hD2,hR,hP,hds⟩
     clear hS2 hD2 hR hP hds hswap hH c0 c1 q0
     go_wp2
     go_roundg (j - 1 - (x + 1))
     case measure=>omega
     case rel =>
      obtain ⟨hS2,hD2,hR,hP,hds⟩:=B.out
      exact ⟨x + 1,swp dk x (x + 1),by congr 1,by omega,by omega,by omega,hS2.swap hblk x (x + 1) (by omega) (by omega),(hD2.set _ _ hne).set _ _ hne,
       hR.up (by omega) (by omega),permIn_trans _ _ _ _ _ hP (swp_permIn _ _ _ _ _ (by omega) (by omega) (by omega) (by omega) (by omega))⟩
    ·go_wp2
     refine bodyPost_ret (results_none rfl _ _ _) rfl ?_
     obtain ⟨hS,hDk,he1,he2⟩:=A.out
     obtain ⟨n,os,e'⟩:=hS2
     obtain rfl:=M.out
     have:x + 1=j:=by omega
     rw [this] at hR
     exact ⟨rfl,n,os,dk,e',Zla hO hR hP (by omega) he1 he2⟩
set_option maxHeartbeats 3200000 in
set_option maxRecDepth 1000000 in
theorem Zq5 (L:LaysGt.n30 P ρ) (enc:α→Value) (lt:α→α→Bool) (hO:SWO lt) (g:Nat) (lb:Array Value) (sf:Nat) (sb:Array Value) (blk off:Nat)
  (eg:∀ args w,(callFunc g args).run P w=.ok (.enter g args) w) (a m b:Nat) (d:Array α) (w:World) (hless:Z9z P g lb enc lt blk off d.size w) (hswap:SwapSwaps P sf sb enc blk off d.size)
  (hH:Holds enc w blk off d) (hblk:blk < w.heap.size) (ham:a < m) (hmb:m < b) (hb:b≤d.size) (hsz:d.size < 4611686018427387904) (htwo:m ≠ a + 1) (hone:b=m + 1) :
  Calls P (ρ.f 30) #[.agg #[.func (.func g) #[] lb,.func (.func sf) #[] sb],.int .i64 a,.int .i64 m,.int .i64 b] w fun e w'=>e=.returned (.tuple #[])∧∃ n os d',w'=Zf enc w blk off n d' os∧Z1a lt a m b d d':=by
 have mixed:=L.mixed; have t0:=L.t0; have a0:=L.a0; have z0:=L.z0; have v0:=L.v0; have t3:=L.t3; have a3:=L.a3; have z3:=L.z3; have v3:=L.v3; have t4:=L.t4; have a4:=L.a4; have z4:=L.z4; have v4:=L.v4; have t26:=L.t26; have a26:=L.a26; have z26:=L.z26; have v26:=L.v26; have t38:=L.t38; have a38:=L.a38; have z38:=L.z38; have v38:=L.v38; have t42:=L.t42; have a42:=L.a42; have z42:=L.z42; have v42:=L.v42; have t47:=L.t47; have a47:=L.a47; have z47:=L.z47; have v47:=L.v47
 have u42:=run_underlying L.t42
 have hSW:=(SW.start hH).alloc (.cells #[.func (.func g) #[] lb,.func (.func sf) #[] sb] (ρ.t 42))
 have hD:=Dat.start w (.func (.func g) #[] lb) (.func (.func sf) #[] sb) (ρ.t 42)
 have hne:blk ≠ w.heap.size:=by omega
 have h1:(b:Int) - m=1:=by omega
 have h2:¬ (m:Int) - a=1:=by omega
 have h3:((m:Int) - a == 1)=false:=by simp only [beq_eq_false_iff_ne,ne_eq]; exact h2
 have M:Aside (b=m + 1):=hone
 clear hone htwo
 go_enter L.f30,BodyGt.n30_ntmps ρ
 go_wp2
 go_loopg [12,13] (m - a) (fun k s8 s9 wr=>∃ (i j:Nat),s8=.int .i64 i∧s9=.int .i64 j∧a≤i∧i≤j∧j≤m∧j - i≤k∧SW enc w blk off d wr∧Dat w.heap.size (.func (.func g) #[] lb) (.func (.func sf) #[] sb) wr ∧
  (i=a∨lt d[m]! d[i - 1]! = false)∧(j=m∨lt d[m]! d[j]! = true))
 case atStart=>exact ⟨a,m,rfl,rfl,by omega,by omega,by omega,by omega,hSW,hD,.inl rfl,.inl rfl⟩
 case round =>
  obtain ⟨i,j,rfl,rfl,hi0,hij,hj,hk,hS,hDk,he1,he2⟩:=hrel
  obtain ⟨q0,c0,c1⟩:=id hDk
  have A:Aside (SW enc w blk off d wr∧Dat w.heap.size (.func (.func g) #[] lb) (.func (.func sf) #[] sb) wr∧(i=a∨lt d[m]! d[i - 1]! = false)∧(j=m∨lt d[m]! d[j]! = true)):=⟨hS,hDk,he1,he2⟩
  by_cases hlt:i < j
  ·have hl:=Zca hS hless rfl m ((i + j) / 2) (by omega) (by omega)
   rw [Z2u] at hl
   clear hS hDk he1 he2 hSW hD hless hswap hH
   cases hlv:lt d[m]! d[(i + j) / 2]! with
   | false =>
    rw [hlv] at hl
    have V:Aside (lt d[m]! d[(i + j) / 2]! = false):=hlv
    clear hlv
    go_wp2_with (go_at_fn g; refine hl.mono ?_; rintro e w' ⟨rfl,hG⟩)
    go_roundg (j - ((i + j) / 2 + 1))
    case measure=>omega
    case rel =>
     obtain ⟨hS,hDk,he1,he2⟩:=A.out
     exact ⟨(i + j) / 2 + 1,j,by congr 1,rfl,by omega,by omega,by omega,by omega,Z6w hS hG,hDk.grew hG,.inr V.out,he2⟩
   | true =>
    rw [hlv] at hl
    have V:Aside (lt d[m]! d[(i + j) / 2]! = true):=hlv
    clear hlv
    go_wp2_with (go_at_fn g; refine hl.mono ?_; rintro e w' ⟨rfl,hG⟩)
    go_roundg ((i + j) / 2 - i)
    case measure=>omega
    case rel =>
     obtain ⟨hS,hDk,he1,he2⟩:=A.out
     exact ⟨i,(i + j) / 2,rfl,by congr 1,by omega,by omega,by omega,by omega,Z6w hS hG,hDk.grew hG,he1,.inr V.out⟩
  ·have hje:j=i:=by omega
   subst hje
   clear hS hDk he1 he2 hSW hD hless
   go_wp2
   go_loopg [15] (m - j) (fun k s11 wr2=>∃ (x:Nat) (dk:Array α),s11=.int .i64 x∧x≤m∧j≤x∧x - j≤k∧SW enc w blk off dk wr2∧Dat w.heap.size (.func (.func g) #[] lb) (.func (.func sf) #[] sb) wr2∧Rot d x m (m + 1) dk∧PermIn a b d dk)
   case atStart =>
    obtain ⟨hS,hDk,he1,he2⟩:=A.out
    exact ⟨m,d,rfl,by omega,by omega,by omega,hS,hDk,Rot.none (by omega) (.inl rfl),permIn_refl _ _ _⟩
   case round =>
    obtain ⟨x,dk,rfl,hx0,hx1,hxk,hS2,hD2,hR,hP⟩:=hrel
    have hds:dk.size=d.size:=hP.1
    obtain ⟨q2,c2,c3⟩:=id hD2
    by_cases hlt2:j < x
    ·have hs:=hswap wr dk (hS2.holds hblk hH hds) hds x (x - 1) (by omega) (by omega)
     rw [show (((x - 1:Nat):Int))=(x:Int) - 1 by omega] at hs
     have B:Aside (SW enc w blk off dk wr∧Dat w.heap.size (.func (.func g) #[] lb) (.func (.func sf) #[] sb) wr∧Rot d x m (m + 1) dk∧PermIn a b d dk∧dk.size=d.size):=⟨hS2,hD2,hR,hP,hds⟩
     clear hS2 hD2 hR hP hds hswap hH c0 c1 q0
     go_wp2
     go_roundg (x - 1 - j)
     case measure=>omega
     case rel =>
      obtain ⟨hS2,hD2,hR,hP,hds⟩:=B.out
      exact ⟨x - 1,swp dk x (x - 1),by congr 1; omega,by omega,by omega,by omega,hS2.swap hblk x (x - 1) (by omega) (by omega),(hD2.set _ _ hne).set _ _ hne,
       hR.down (by omega) (by omega) (by omega),permIn_trans _ _ _ _ _ hP (swp_permIn _ _ _ _ _ (by omega) (by omega) (by omega) (by omega) (by omega))⟩
    ·go_wp2
     refine bodyPost_ret (results_none rfl _ _ _) rfl ?_
     obtain ⟨hS,hDk,he1,he2⟩:=A.out
     obtain ⟨n,os,e'⟩:=hS2
     obtain rfl:=M.out
     have:x=j:=by omega
     subst this
     exact ⟨rfl,n,os,dk,e',Znu hO hR hP (by omega) he1 he2⟩
end Go.Proofs.Ytgcoidbaoigkeaa.stab
namespace Go.Proofs.Ytgcoidbaoigkeaa.stab
open Go.Shelf Go.RowKit Go.Lib Go.Sort
variable {P:Program} {ρ:Ren} {α:Type} [Inhabited α]
set_option maxHeartbeats 6400000 in
set_option maxRecDepth 1000000 in
theorem Zq6 (L:LaysGt.n30 P ρ) (enc:α→Value) (lt:α→α→Bool) (hO:SWO lt) (g:Nat) (lb:Array Value) (sf:Nat) (sb:Array Value) (blk off:Nat)
  (eg:∀ args w,(callFunc g args).run P w=.ok (.enter g args) w) (a m b:Nat) (d:Array α) (w:World) (hless:Z9z P g lb enc lt blk off d.size w) (hswap:SwapSwaps P sf sb enc blk off d.size)
  (hH:Holds enc w blk off d) (hblk:blk < w.heap.size) (ham:a + 1 < m) (hmb:m + 1 < b) (hb:b≤d.size) (hsz:d.size < 4611686018427387904) (hcase:m≤(a + b) / 2)
  (ih:∀ (a' m' b':Nat) (d':Array α) (w':World),b' - a' < b - a→Z9z P g lb enc lt blk off d'.size w'→SwapSwaps P sf sb enc blk off d'.size→Holds enc w' blk off d'→blk < w'.heap.size→a' < m'→m' < b'→b'≤d'.size→d'.size < 4611686018427387904 →
   Calls P (ρ.f 30) #[.agg #[.func (.func g) #[] lb,.func (.func sf) #[] sb],.int .i64 a',.int .i64 m',.int .i64 b'] w' fun e w''=>e=.returned (.tuple #[])∧∃ n os d'',w''=Zf enc w' blk off n d'' os∧Z1a lt a' m' b' d' d'') :
  Calls P (ρ.f 30) #[.agg #[.func (.func g) #[] lb,.func (.func sf) #[] sb],.int .i64 a,.int .i64 m,.int .i64 b] w fun e w'=>e=.returned (.tuple #[])∧∃ n os d',w'=Zf enc w blk off n d' os∧Z1a lt a m b d d':=by
 have mixed:=L.mixed; have t0:=L.t0; have a0:=L.a0; have z0:=L.z0; have v0:=L.v0; have t3:=L.t3; have a3:=L.a3; have z3:=L.z3; have v3:=L.v3; have t4:=L.t4; have a4:=L.a4; have z4:=L.z4; have v4:=L.v4; have t26:=L.t26; have a26:=L.a26; have z26:=L.z26; have v26:=L.v26; have t38:=L.t38; have a38:=L.a38; have z38:=L.z38; have v38:=L.v38; have t42:=L.t42; have a42:=L.a42; have z42:=L.z42; have v42:=L.v42; have t47:=L.t47; have a47:=L.a47; have z47:=L.z47; have v47:=L.v47
 have u42:=run_underlying L.t42
 have e30:∀ args w,(callFunc (ρ.f 30) args).run P w=.ok (.enter (ρ.f 30) args) w:=enters_of L.f30 (by kernel_rfl) rfl
 have e42:∀ args w,(callFunc (ρ.f 42) args).run P w=.ok (.enter (ρ.f 42) args) w:=enters_of L.f42 (by kernel_rfl) rfl
 have LR:LaysGt.n42 P ρ:={ L with }
 have hSW:=(SW.start hH).alloc (.cells #[.func (.func g) #[] lb,.func (.func sf) #[] sb] (ρ.t 42))
 have hD:=Dat.start w (.func (.func g) #[] lb) (.func (.func sf) #[] sb) (ρ.t 42)
 have hne:blk ≠ w.heap.size:=by omega
 have sub:∀ (a' m' b':Nat) (dk:Array α) (W:World),SW enc w blk off dk W→dk.size=d.size→b' - a' < b - a→a' < m'→m' < b'→b'≤d.size →
   Calls P (ρ.f 30) #[.agg #[.func (.func g) #[] lb,.func (.func sf) #[] sb],.int .i64 a',.int .i64 m',.int .i64 b'] W fun e w''=>e=.returned (.tuple #[])∧∃ d'',SW enc w blk off d'' w''∧(Dat w.heap.size (.func (.func g) #[] lb) (.func (.func sf) #[] sb) W→Dat w.heap.size (.func (.func g) #[] lb) (.func (.func sf) #[] sb) w'')∧d''.size=d.size∧Z1a lt a' m' b' dk d'':=fun a' m' b' dk W hS hs h1 h2 h3 h4 =>
  (ih a' m' b' dk W h1 (Zlc hS (by rw [hs]; exact hless) hblk rfl) (by rw [hs]; exact hswap) (hS.holds hblk hH hs) (hS.lt hblk) h2 h3 (by omega) (by omega)).mono fun _ _ ⟨he,n,os,d'',hw,hM⟩ =>
   have hz:d''.size=dk.size:=hM.1.1
   ⟨he,d'',by rw [hw]; exact hS.on hblk n d'' os hz,fun h=>by rw [hw]; exact h.on enc blk off n d'' os (Ne.symm hne),hz.trans hs,hM⟩
 have rot:∀ (s e:Nat) (W:World),SW enc w blk off d W→s < m→m < e→e≤d.size →
   Calls P (ρ.f 42) #[.agg #[.func (.func g) #[] lb,.func (.func sf) #[] sb],.int .i64 s,.int .i64 m,.int .i64 e] W fun e' w''=>e'=.returned (.tuple #[])∧∃ d'',SW enc w blk off d'' w''∧(Dat w.heap.size (.func (.func g) #[] lb) (.func (.func sf) #[] sb) W→Dat w.heap.size (.func (.func g) #[] lb) (.func (.func sf) #[] sb) w'')∧d''.size=d.size∧Rot d s m e d''∧PermIn s e d d'':=fun s e W hS h1 h2 h3 =>
  (Zq4 LR enc (.func g) #[] lb sf sb blk off s m e d W hswap (hS.holds hblk hH rfl) (hS.lt hblk) h1 h2 h3 hsz).mono fun _ _ ⟨he,n,os,d'',hw,hR,hP⟩ =>
   ⟨he,d'',by rw [hw]; exact hS.on hblk n d'' os hP.1,fun h=>by rw [hw]; exact h.on enc blk off n d'' os (Ne.symm hne),hP.1,hR,hP⟩
 have h1:¬ (m:Int) - a=1:=by omega
 have h2:((m:Int) - a == 1)=false:=by simp only [beq_eq_false_iff_ne,ne_eq]; exact h1
 have h3:¬ (b:Int) - m=1:=by omega
 have h4:((b:Int) - m == 1)=false:=by simp only [beq_eq_false_iff_ne,ne_eq]; exact h3
 have h5:(m:Int)≤((a:Int) + b) / 2:=by omega
 have K:Aside ((∀ (a' m' b':Nat) (dk:Array α) (W:World),SW enc w blk off dk W→dk.size=d.size→b' - a' < b - a→a' < m'→m' < b'→b'≤d.size →
   Calls P (ρ.f 30) #[.agg #[.func (.func g) #[] lb,.func (.func sf) #[] sb],.int .i64 a',.int .i64 m',.int .i64 b'] W fun e w''=>e=.returned (.tuple #[])∧∃ d'',SW enc w blk off d'' w''∧(Dat w.heap.size (.func (.func g) #[] lb) (.func (.func sf) #[] sb) W→Dat w.heap.size (.func (.func g) #[] lb) (.func (.func sf) #[] sb) w'')∧d''.size=d.size∧Z1a lt a' m' b' dk d'') ∧
  (∀ (s e:Nat) (W:World),SW enc w blk off d W→s < m→m < e→e≤d.size →
   Calls P (ρ.f 42) #[.agg #[.func (.func g) #[] lb,.func (.func sf) #[] sb],.int .i64 s,.int .i64 m,.int .i64 e] W fun e' w''=>e'=.returned (.tuple #[])∧∃ d'',SW enc w blk off d'' w''∧(Dat w.heap.size (.func (.func g) #[] lb) (.func (.func sf) #[] sb) W→Dat w.heap.size (.func (.func g) #[] lb) (.func (.func sf) #[] sb) w'')∧d''.size=d.size∧Rot d s m e d''∧PermIn s e d d'') ∧
  Z9z P g lb enc lt blk off d.size w):=⟨sub,rot,hless⟩
 clear sub rot ih hless hswap hH
 go_enter L.f30,BodyGt.n30_ntmps ρ
 go_wp2
 go_loopg [18,19] (b - a) (fun k s8 s9 wr=>∃ (s r:Nat),s8=.int .i64 s∧s9=.int .i64 r∧a≤s∧s≤r∧r≤m∧r - s≤k∧SW enc w blk off d wr∧Dat w.heap.size (.func (.func g) #[] lb) (.func (.func sf) #[] sb) wr ∧
  (s=a∨lt d[(a + b) / 2 + m - s]! d[s - 1]! = false)∧(r=m∨lt d[(a + b) / 2 + m - 1 - r]! d[r]! = true))
 case atStart=>exact ⟨a,m,by first | rfl | (congr 1; omega),by first | rfl | (congr 1; omega),by omega,by omega,by omega,by omega,hSW,hD,.inl rfl,.inl rfl⟩
 case round =>
  obtain ⟨s,r,rfl,rfl,hs0,hsr,hr0,hk,hS,hDk,he1,he2⟩:=hrel
  obtain ⟨q0,c0,c1⟩:=id hDk
  obtain ⟨sub,rot,hless⟩:=K.out
  have A:Aside (SW enc w blk off d wr∧Dat w.heap.size (.func (.func g) #[] lb) (.func (.func sf) #[] sb) wr∧(s=a∨lt d[(a + b) / 2 + m - s]! d[s - 1]! = false)∧(r=m∨lt d[(a + b) / 2 + m - 1 - r]! d[r]! = true)):=⟨hS,hDk,he1,he2⟩
  by_cases hlt:s < r
  ·have hl:=Zca hS hless rfl ((a + b) / 2 + m - 1 - (s + r) / 2) ((s + r) / 2) (by omega) (by omega)
   rw [Z2u s r,show (((a + b) / 2 + m - 1 - (s + r) / 2:Nat):Int)=((a:Int) + b) / 2 + m - 1 - ((s:Int) + r) / 2 by omega] at hl
   clear hS hDk he1 he2 hSW hD hless sub rot
   cases hlv:lt d[(a + b) / 2 + m - 1 - (s + r) / 2]! d[(s + r) / 2]! with
   | false =>
    rw [hlv] at hl
    have V:Aside (lt d[(a + b) / 2 + m - 1 - (s + r) / 2]! d[(s + r) / 2]! = false):=hlv
    clear hlv
    go_wp2_with (go_at_fn g; refine hl.mono ?_; rintro e w' ⟨rfl,hG⟩)
    go_roundg (r - ((s + r) / 2 + 1))
    case measure=>omega
    case rel =>
     obtain ⟨hS,hDk,he1,he2⟩:=A.out
     exact ⟨(s + r) / 2 + 1,r,by congr 1,rfl,by omega,by omega,by omega,by omega,Z6w hS hG,hDk.grew hG,.inr (by
      rw [show (a + b) / 2 + m - ((s + r) / 2 + 1)=(a + b) / 2 + m - 1 - (s + r) / 2 by omega]
      exact V.out),he2⟩
   | true =>
    rw [hlv] at hl
    have V:Aside (lt d[(a + b) / 2 + m - 1 - (s + r) / 2]! d[(s + r) / 2]! = true):=hlv
    clear hlv
    go_wp2_with (go_at_fn g; refine hl.mono ?_; rintro e w' ⟨rfl,hG⟩)
    go_roundg ((s + r) / 2 - s)
    case measure=>omega
    case rel =>
     obtain ⟨hS,hDk,he1,he2⟩:=A.out
     exact ⟨s,(s + r) / 2,rfl,by congr 1,by omega,by omega,by omega,by omega,Z6w hS hG,hDk.grew hG,he1,.inr V.out⟩
  ·have hrs:r=s:=by omega
   subst hrs
   obtain ⟨e,he⟩:∃ e:Nat,e=(a + b) / 2 + m - r:=⟨_,rfl⟩
   obtain ⟨mid,hmid⟩:∃ mid:Nat,mid=(a + b) / 2:=⟨_,rfl⟩
   have heI:(e:Int)=((a:Int) + b) / 2 + m - r:=by omega
   have hmI:(mid:Int)=((a:Int) + b) / 2:=by omega
   have hlo:r=a∨e=b∨lt d[e]! d[r - 1]! = false:=by
    rcases he1 with h | h
    ·omega
    ·exact .inr (.inr (by rw [he]; exact h))
   have hhi:r=m∨e=m∨lt d[e - 1]! d[r]! = true:=by
    rcases he2 with h | h
    ·omega
    ·exact .inr (.inr (by rw [he,show (a + b) / 2 + m - r - 1=(a + b) / 2 + m - 1 - r by omega]; exact h))
   have hfin:∀ {d1 d2 d3:Array α},Rot d r m e d1→PermIn a b d d1→(Z1a lt a r mid d1 d2∨(r=a∨r=mid)∧d2=d1)→(Z1a lt mid e b d2 d3∨(e=mid∨e=b)∧d3=d2)→Z1a lt a m b d d3:=fun g1 g2 g3 g4=>Zgq hO hb g1 g2 (by omega) (by omega) hlo hhi g3 g4
   have FIN:Aside (∀ {d1 d2 d3:Array α},Rot d r m e d1→PermIn a b d d1→(Z1a lt a r mid d1 d2∨(r=a∨r=mid)∧d2=d1)→(Z1a lt mid e b d2 d3∨(e=mid∨e=b)∧d3=d2)→Z1a lt a m b d d3):=hfin
   have E:Aside (e=(a + b) / 2 + m - r∧mid=(a + b) / 2∧(e:Int)=((a:Int) + b) / 2 + m - r∧(mid:Int)=((a:Int) + b) / 2):=⟨he,hmid,heI,hmI⟩
   clear hlo hhi hfin hSW hD he1 he2 hless
   by_cases c1:r < m
   ·by_cases c3:a < r
    ·by_cases c6:e < b
     ·obtain ⟨he,hmid,heI,hmI⟩:=E.out
      have hc1:=rot r e wr hS (by omega) (by omega) (by omega)
      rw [heI] at hc1
      have B0:Aside (SW enc w blk off d wr∧Dat w.heap.size (.func (.func g) #[] lb) (.func (.func sf) #[] sb) wr):=⟨hS,hDk⟩
      clear hS hDk rot sub he hmid heI hmI
      go_wp2_with (go_at_fn (ρ.f 42); refine hc1.mono ?_; rintro x1 w1 ⟨rfl,d1,hS1,hT1,hz1,hR,hQ⟩; have hD1:=hT1 (B0.out).2; have B1:Aside (SW enc w blk off d1 w1∧Dat w.heap.size (.func (.func g) #[] lb) (.func (.func sf) #[] sb) w1):=⟨hS1,hD1⟩; obtain ⟨q1,k1,l1⟩:=hD1; clear hS1 hT1 hc1; have M1:Aside (Rot d r m e d1∧PermIn r e d d1∧d1.size=d.size):=⟨hR,hQ,hz1⟩; clear hR hQ; have hc2:=(K.out).1 a r mid d1 w1 (B1.out).1 hz1 (by have:=E.out; omega) (by omega) (by have:=E.out; omega) (by have:=E.out; omega); rw [(E.out).2.2.2] at hc2; clear hz1)
      go_wp2_with (go_at_fn (ρ.f 30); refine hc2.mono ?_; rintro x2 w2 ⟨rfl,d2,hS2,hT2,hz2,hM2⟩; have hD2:=hT2 (B1.out).2; have B2:Aside (SW enc w blk off d2 w2∧Dat w.heap.size (.func (.func g) #[] lb) (.func (.func sf) #[] sb) w2):=⟨hS2,hD2⟩; obtain ⟨q2,k2,l2⟩:=hD2; clear hS2 hT2 hc2; have M2:Aside (Z1a lt a r mid d1 d2∧d2.size=d.size):=⟨hM2,hz2⟩; clear hM2; have hc3:=(K.out).1 mid e b d2 w2 (B2.out).1 hz2 (by have:=E.out; omega) (by have:=E.out; omega) (by have:=E.out; omega) (by omega); rw [(E.out).2.2.2,(E.out).2.2.1] at hc3; clear hz2)
      go_wp2_with (go_at_fn (ρ.f 30); refine hc3.mono ?_; rintro x3 w3 ⟨rfl,d3,hS3,hT3,hz3,hM3⟩; have hD3:=hT3 (B2.out).2; have B3:Aside (SW enc w blk off d3 w3∧Dat w.heap.size (.func (.func g) #[] lb) (.func (.func sf) #[] sb) w3):=⟨hS3,hD3⟩; obtain ⟨q3,k3,l3⟩:=hD3; clear hS3 hT3 hc3; have M3:Aside (Z1a lt mid e b d2 d3∧d3.size=d.size):=⟨hM3,hz3⟩; clear hM3; clear hz3)
      go_end0
      obtain ⟨he,hmid,heI,hmI⟩:=E.out
      obtain ⟨n,os,e'⟩:=(B3.out).1
      exact ⟨rfl,n,os,d3,e',FIN.out (M1.out).1 (permIn_mono _ _ _ _ _ _ (by omega) (by omega) (by omega) (M1.out).2.1) (.inl (M2.out).1) (.inl (M3.out).1)⟩
     ·exfalso; omega
    ·by_cases c6:e < b
     ·obtain ⟨he,hmid,heI,hmI⟩:=E.out
      have hc1:=rot r e wr hS (by omega) (by omega) (by omega)
      rw [heI] at hc1
      have B0:Aside (SW enc w blk off d wr∧Dat w.heap.size (.func (.func g) #[] lb) (.func (.func sf) #[] sb) wr):=⟨hS,hDk⟩
      clear hS hDk rot sub he hmid heI hmI
      go_wp2_with (go_at_fn (ρ.f 42); refine hc1.mono ?_; rintro x1 w1 ⟨rfl,d1,hS1,hT1,hz1,hR,hQ⟩; have hD1:=hT1 (B0.out).2; have B1:Aside (SW enc w blk off d1 w1∧Dat w.heap.size (.func (.func g) #[] lb) (.func (.func sf) #[] sb) w1):=⟨hS1,hD1⟩; obtain ⟨q1,k1,l1⟩:=hD1; clear hS1 hT1 hc1; have M1:Aside (Rot d r m e d1∧PermIn r e d d1∧d1.size=d.size):=⟨hR,hQ,hz1⟩; clear hR hQ; have hc2:=(K.out).1 mid e b d1 w1 (B1.out).1 hz1 (by have:=E.out; omega) (by have:=E.out; omega) (by have:=E.out; omega) (by omega); rw [(E.out).2.2.2,(E.out).2.2.1] at hc2; clear hz1)
      go_wp2_with (go_at_fn (ρ.f 30); refine hc2.mono ?_; rintro x2 w2 ⟨rfl,d2,hS2,hT2,hz2,hM2⟩; have hD2:=hT2 (B1.out).2; have B2:Aside (SW enc w blk off d2 w2∧Dat w.heap.size (.func (.func g) #[] lb) (.func (.func sf) #[] sb) w2):=⟨hS2,hD2⟩; obtain ⟨q2,k2,l2⟩:=hD2; clear hS2 hT2 hc2; have M2:Aside (Z1a lt mid e b d1 d2∧d2.size=d.size):=⟨hM2,hz2⟩; clear hM2; clear hz2)
      go_end0
      obtain ⟨he,hmid,heI,hmI⟩:=E.out
      obtain ⟨n,os,e'⟩:=(B2.out).1
      exact ⟨rfl,n,os,d2,e',FIN.out (M1.out).1 (permIn_mono _ _ _ _ _ _ (by omega) (by omega) (by omega) (M1.out).2.1) (.inr ⟨by omega,rfl⟩) (.inl (M2.out).1)⟩
     ·obtain ⟨he,hmid,heI,hmI⟩:=E.out
      have hc1:=rot r e wr hS (by omega) (by omega) (by omega)
      rw [heI] at hc1
      have B0:Aside (SW enc w blk off d wr∧Dat w.heap.size (.func (.func g) #[] lb) (.func (.func sf) #[] sb) wr):=⟨hS,hDk⟩
      clear hS hDk rot sub he hmid heI hmI
      go_wp2_with (go_at_fn (ρ.f 42); refine hc1.mono ?_; rintro x1 w1 ⟨rfl,d1,hS1,hT1,hz1,hR,hQ⟩; have hD1:=hT1 (B0.out).2; have B1:Aside (SW enc w blk off d1 w1∧Dat w.heap.size (.func (.func g) #[] lb) (.func (.func sf) #[] sb) w1):=⟨hS1,hD1⟩; obtain ⟨q1,k1,l1⟩:=hD1; clear hS1 hT1 hc1; have M1:Aside (Rot d r m e d1∧PermIn r e d d1∧d1.size=d.size):=⟨hR,hQ,hz1⟩; clear hR hQ; clear hz1)
      go_end0
      obtain ⟨he,hmid,heI,hmI⟩:=E.out
      obtain ⟨n,os,e'⟩:=(B1.out).1
      exact ⟨rfl,n,os,d1,e',FIN.out (M1.out).1 (permIn_mono _ _ _ _ _ _ (by omega) (by omega) (by omega) (M1.out).2.1) (.inr ⟨by omega,rfl⟩) (.inr ⟨by omega,rfl⟩)⟩
   ·by_cases c4:r < mid
    ·obtain ⟨he,hmid,heI,hmI⟩:=E.out
     have hc1:=sub a r mid d wr hS rfl (by omega) (by omega) (by omega) (by omega)
     rw [hmI] at hc1
     have B0:Aside (SW enc w blk off d wr∧Dat w.heap.size (.func (.func g) #[] lb) (.func (.func sf) #[] sb) wr):=⟨hS,hDk⟩
     clear hS hDk rot sub he hmid heI hmI
     go_wp2_with (go_at_fn (ρ.f 30); refine hc1.mono ?_; rintro x1 w1 ⟨rfl,d1,hS1,hT1,hz1,hM1⟩; have hD1:=hT1 (B0.out).2; have B1:Aside (SW enc w blk off d1 w1∧Dat w.heap.size (.func (.func g) #[] lb) (.func (.func sf) #[] sb) w1):=⟨hS1,hD1⟩; obtain ⟨q1,k1,l1⟩:=hD1; clear hS1 hT1 hc1; have M1:Aside (Z1a lt a r mid d d1∧d1.size=d.size):=⟨hM1,hz1⟩; clear hM1; clear hz1)
     go_end0
     obtain ⟨he,hmid,heI,hmI⟩:=E.out
     obtain ⟨n,os,e'⟩:=(B1.out).1
     exact ⟨rfl,n,os,d1,e',FIN.out (Rot.none (by omega) (by omega)) (permIn_refl _ _ _) (.inl (M1.out).1) (.inr ⟨by omega,rfl⟩)⟩
    ·obtain ⟨he,hmid,heI,hmI⟩:=E.out
     have B0:Aside (SW enc w blk off d wr∧Dat w.heap.size (.func (.func g) #[] lb) (.func (.func sf) #[] sb) wr):=⟨hS,hDk⟩
     clear hS hDk rot sub he hmid heI hmI
     go_wp2
     go_end0
     obtain ⟨he,hmid,heI,hmI⟩:=E.out
     obtain ⟨n,os,e'⟩:=(B0.out).1
     exact ⟨rfl,n,os,d,e',FIN.out (Rot.none (by omega) (by omega)) (permIn_refl _ _ _) (.inr ⟨by omega,rfl⟩) (.inr ⟨by omega,rfl⟩)⟩
set_option maxHeartbeats 6400000 in
set_option maxRecDepth 1000000 in
theorem Zq7 (L:LaysGt.n30 P ρ) (enc:α→Value) (lt:α→α→Bool) (hO:SWO lt) (g:Nat) (lb:Array Value) (sf:Nat) (sb:Array Value) (blk off:Nat)
  (eg:∀ args w,(callFunc g args).run P w=.ok (.enter g args) w) (a m b:Nat) (d:Array α) (w:World) (hless:Z9z P g lb enc lt blk off d.size w) (hswap:SwapSwaps P sf sb enc blk off d.size)
  (hH:Holds enc w blk off d) (hblk:blk < w.heap.size) (ham:a + 1 < m) (hmb:m + 1 < b) (hb:b≤d.size) (hsz:d.size < 4611686018427387904) (hcase:(a + b) / 2 < m)
  (ih:∀ (a' m' b':Nat) (d':Array α) (w':World),b' - a' < b - a→Z9z P g lb enc lt blk off d'.size w'→SwapSwaps P sf sb enc blk off d'.size→Holds enc w' blk off d'→blk < w'.heap.size→a' < m'→m' < b'→b'≤d'.size→d'.size < 4611686018427387904 →
   Calls P (ρ.f 30) #[.agg #[.func (.func g) #[] lb,.func (.func sf) #[] sb],.int .i64 a',.int .i64 m',.int .i64 b'] w' fun e w''=>e=.returned (.tuple #[])∧∃ n os d'',w''=Zf enc w' blk off n d'' os∧Z1a lt a' m' b' d' d'') :
  Calls P (ρ.f 30) #[.agg #[.func (.func g) #[] lb,.func (.func sf) #[] sb],.int .i64 a,.int .i64 m,.int .i64 b] w fun e w'=>e=.returned (.tuple #[])∧∃ n os d',w'=Zf enc w blk off n d' os∧Z1a lt a m b d d':=by
 have mixed:=L.mixed; have t0:=L.t0; have a0:=L.a0; have z0:=L.z0; have v0:=L.v0; have t3:=L.t3; have a3:=L.a3; have z3:=L.z3; have v3:=L.v3; have t4:=L.t4; have a4:=L.a4; have z4:=L.z4; have v4:=L.v4; have t26:=L.t26; have a26:=L.a26; have z26:=L.z26; have v26:=L.v26; have t38:=L.t38; have a38:=L.a38; have z38:=L.z38; have v38:=L.v38; have t42:=L.t42; have a42:=L.a42; have z42:=L.z42; have v42:=L.v42; have t47:=L.t47; have a47:=L.a47; have z47:=L.z47; have v47:=L.v47
 have u42:=run_underlying L.t42
 have e30:∀ args w,(callFunc (ρ.f 30) args).run P w=.ok (.enter (ρ.f 30) args) w:=enters_of L.f30 (by kernel_rfl) rfl
 have e42:∀ args w,(callFunc (ρ.f 42) args).run P w=.ok (.enter (ρ.f 42) args) w:=enters_of L.f42 (by kernel_rfl) rfl
 have LR:LaysGt.n42 P ρ:={ L with }
 have hSW:=(SW.start hH).alloc (.cells #[.func (.func g) #[] lb,.func (.func sf) #[] sb] (ρ.t 42))
 have hD:=Dat.start w (.func (.func g) #[] lb) (.func (.func sf) #[] sb) (ρ.t 42)
 have hne:blk ≠ w.heap.size:=by omega
 have sub:∀ (a' m' b':Nat) (dk:Array α) (W:World),SW enc w blk off dk W→dk.size=d.size→b' - a' < b - a→a' < m'→m' < b'→b'≤d.size →
   Calls P (ρ.f 30) #[.agg #[.func (.func g) #[] lb,.func (.func sf) #[] sb],.int .i64 a',.int .i64 m',.int .i64 b'] W fun e w''=>e=.returned (.tuple #[])∧∃ d'',SW enc w blk off d'' w''∧(Dat w.heap.size (.func (.func g) #[] lb) (.func (.func sf) #[] sb) W→Dat w.heap.size (.func (.func g) #[] lb) (.func (.func sf) #[] sb) w'')∧d''.size=d.size∧Z1a lt a' m' b' dk d'':=fun a' m' b' dk W hS hs h1 h2 h3 h4 =>
  (ih a' m' b' dk W h1 (Zlc hS (by rw [hs]; exact hless) hblk rfl) (by rw [hs]; exact hswap) (hS.holds hblk hH hs) (hS.lt hblk) h2 h3 (by omega) (by omega)).mono fun _ _ ⟨he,n,os,d'',hw,hM⟩ =>
   have hz:d''.size=dk.size:=hM.1.1
   ⟨he,d'',by rw [hw]; exact hS.on hblk n d'' os hz,fun h=>by rw [hw]; exact h.on enc blk off n d'' os (Ne.symm hne),hz.trans hs,hM⟩
 have rot:∀ (s e:Nat) (W:World),SW enc w blk off d W→s < m→m < e→e≤d.size →
   Calls P (ρ.f 42) #[.agg #[.func (.func g) #[] lb,.func (.func sf) #[] sb],.int .i64 s,.int .i64 m,.int .i64 e] W fun e' w''=>e'=.returned (.tuple #[])∧∃ d'',SW enc w blk off d'' w''∧(Dat w.heap.size (.func (.func g) #[] lb) (.func (.func sf) #[] sb) W→Dat w.heap.size (.func (.func g) #[] lb) (.func (.func sf) #[] sb) w'')∧d''.size=d.size∧Rot d s m e d''∧PermIn s e d d'':=fun s e W hS h1 h2 h3 =>
  (Zq4 LR enc (.func g) #[] lb sf sb blk off s m e d W hswap (hS.holds hblk hH rfl) (hS.lt hblk) h1 h2 h3 hsz).mono fun _ _ ⟨he,n,os,d'',hw,hR,hP⟩ =>
   ⟨he,d'',by rw [hw]; exact hS.on hblk n d'' os hP.1,fun h=>by rw [hw]; exact h.on enc blk off n d'' os (Ne.symm hne),hP.1,hR,hP⟩
 have h1:¬ (m:Int) - a=1:=by omega
 have h2:((m:Int) - a == 1)=false:=by simp only [beq_eq_false_iff_ne,ne_eq]; exact h1
 have h3:¬ (b:Int) - m=1:=by omega
 have h4:((b:Int) - m == 1)=false:=by simp only [beq_eq_false_iff_ne,ne_eq]; exact h3
 have h5:((a:Int) + b) / 2 < m:=by omega
 have h6:decide (((a:Int) + b) / 2 < (m:Int))=true:=decide_eq_true h5
 have h7:decide ((m:Int) > ((a:Int) + b) / 2)=true:=decide_eq_true h5
 have K:Aside ((∀ (a' m' b':Nat) (dk:Array α) (W:World),SW enc w blk off dk W→dk.size=d.size→b' - a' < b - a→a' < m'→m' < b'→b'≤d.size →
   Calls P (ρ.f 30) #[.agg #[.func (.func g) #[] lb,.func (.func sf) #[] sb],.int .i64 a',.int .i64 m',.int .i64 b'] W fun e w''=>e=.returned (.tuple #[])∧∃ d'',SW enc w blk off d'' w''∧(Dat w.heap.size (.func (.func g) #[] lb) (.func (.func sf) #[] sb) W→Dat w.heap.size (.func (.func g) #[] lb) (.func (.func sf) #[] sb) w'')∧d''.size=d.size∧Z1a lt a' m' b' dk d'') ∧
  (∀ (s e:Nat) (W:World),SW enc w blk off d W→s < m→m < e→e≤d.size →
   Calls P (ρ.f 42) #[.agg #[.func (.func g) #[] lb,.func (.func sf) #[] sb],.int .i64 s,.int .i64 m,.int .i64 e] W fun e' w''=>e'=.returned (.tuple #[])∧∃ d'',SW enc w blk off d'' w''∧(Dat w.heap.size (.func (.func g) #[] lb) (.func (.func sf) #[] sb) W→Dat w.heap.size (.func (.func g) #[] lb) (.func (.func sf) #[] sb) w'')∧d''.size=d.size∧Rot d s m e d''∧PermIn s e d d'') ∧
  Z9z P g lb enc lt blk off d.size w):=⟨sub,rot,hless⟩
 clear sub rot ih hless hswap hH
 go_enter L.f30,BodyGt.n30_ntmps ρ
 go_wp2
 go_loopg [18,19] (b - a) (fun k s8 s9 wr=>∃ (s r:Nat),s8=.int .i64 s∧s9=.int .i64 r∧(a + b) / 2 + m - b≤s∧s≤r∧r≤(a + b) / 2∧r - s≤k∧SW enc w blk off d wr∧Dat w.heap.size (.func (.func g) #[] lb) (.func (.func sf) #[] sb) wr ∧
  (s=(a + b) / 2 + m - b∨lt d[(a + b) / 2 + m - s]! d[s - 1]! = false)∧(r=(a + b) / 2∨lt d[(a + b) / 2 + m - 1 - r]! d[r]! = true))
 case atStart=>exact ⟨(a + b) / 2 + m - b,(a + b) / 2,by first | rfl | (congr 1; omega),by first | rfl | (congr 1; omega),by omega,by omega,by omega,by omega,hSW,hD,.inl rfl,.inl rfl⟩
 case round =>
  obtain ⟨s,r,rfl,rfl,hs0,hsr,hr0,hk,hS,hDk,he1,he2⟩:=hrel
  obtain ⟨q0,c0,c1⟩:=id hDk
  obtain ⟨sub,rot,hless⟩:=K.out
  have A:Aside (SW enc w blk off d wr∧Dat w.heap.size (.func (.func g) #[] lb) (.func (.func sf) #[] sb) wr∧(s=(a + b) / 2 + m - b∨lt d[(a + b) / 2 + m - s]! d[s - 1]! = false)∧(r=(a + b) / 2∨lt d[(a + b) / 2 + m - 1 - r]! d[r]! = true)):=⟨hS,hDk,he1,he2⟩
  by_cases hlt:s < r
  ·have hl:=Zca hS hless rfl ((a + b) / 2 + m - 1 - (s + r) / 2) ((s + r) / 2) (by omega) (by omega)
   rw [Z2u s r,show (((a + b) / 2 + m - 1 - (s + r) / 2:Nat):Int)=((a:Int) + b) / 2 + m - 1 - ((s:Int) + r) / 2 by omega] at hl
   clear hS hDk he1 he2 hSW hD hless sub rot
   cases hlv:lt d[(a + b) / 2 + m - 1 - (s + r) / 2]! d[(s + r) / 2]! with
   | false =>
    rw [hlv] at hl
    have V:Aside (lt d[(a + b) / 2 + m - 1 - (s + r) / 2]! d[(s + r) / 2]! = false):=hlv
    clear hlv
    go_wp2_with (go_at_fn g; refine hl.mono ?_; rintro e w' ⟨rfl,hG⟩)
    go_roundg (r - ((s + r) / 2 + 1))
    case measure=>omega
    case rel =>
     obtain ⟨hS,hDk,he1,he2⟩:=A.out
     exact ⟨(s + r) / 2 + 1,r,by congr 1,rfl,by omega,by omega,by omega,by omega,Z6w hS hG,hDk.grew hG,.inr (by
      rw [show (a + b) / 2 + m - ((s + r) / 2 + 1)=(a + b) / 2 + m - 1 - (s + r) / 2 by omega]
      exact V.out),he2⟩
   | true =>
    rw [hlv] at hl
    have V:Aside (lt d[(a + b) / 2 + m - 1 - (s + r) / 2]! d[(s + r) / 2]! = true):=hlv
    clear hlv
    go_wp2_with (go_at_fn g; refine hl.mono ?_; rintro e w' ⟨rfl,hG⟩)
    go_roundg ((s + r) / 2 - s)
    case measure=>omega
    case rel =>
     obtain ⟨hS,hDk,he1,he2⟩:=A.out
     exact ⟨s,(s + r) / 2,rfl,by congr 1,by omega,by omega,by omega,by omega,Z6w hS hG,hDk.grew hG,he1,.inr V.out⟩
  ·have hrs:r=s:=by omega
   subst hrs
   obtain ⟨e,he⟩:∃ e:Nat,e=(a + b) / 2 + m - r:=⟨_,rfl⟩
   obtain ⟨mid,hmid⟩:∃ mid:Nat,mid=(a + b) / 2:=⟨_,rfl⟩
   have heI:(e:Int)=((a:Int) + b) / 2 + m - r:=by omega
   have hmI:(mid:Int)=((a:Int) + b) / 2:=by omega
   have hlo:r=a∨e=b∨lt d[e]! d[r - 1]! = false:=by
    rcases he1 with h | h
    ·omega
    ·exact .inr (.inr (by rw [he]; exact h))
   have hhi:r=m∨e=m∨lt d[e - 1]! d[r]! = true:=by
    rcases he2 with h | h
    ·omega
    ·exact .inr (.inr (by rw [he,show (a + b) / 2 + m - r - 1=(a + b) / 2 + m - 1 - r by omega]; exact h))
   have hfin:∀ {d1 d2 d3:Array α},Rot d r m e d1→PermIn a b d d1→(Z1a lt a r mid d1 d2∨(r=a∨r=mid)∧d2=d1)→(Z1a lt mid e b d2 d3∨(e=mid∨e=b)∧d3=d2)→Z1a lt a m b d d3:=fun g1 g2 g3 g4=>Zgq hO hb g1 g2 (by omega) (by omega) hlo hhi g3 g4
   have FIN:Aside (∀ {d1 d2 d3:Array α},Rot d r m e d1→PermIn a b d d1→(Z1a lt a r mid d1 d2∨(r=a∨r=mid)∧d2=d1)→(Z1a lt mid e b d2 d3∨(e=mid∨e=b)∧d3=d2)→Z1a lt a m b d d3):=hfin
   have E:Aside (e=(a + b) / 2 + m - r∧mid=(a + b) / 2∧(e:Int)=((a:Int) + b) / 2 + m - r∧(mid:Int)=((a:Int) + b) / 2):=⟨he,hmid,heI,hmI⟩
   clear hlo hhi hfin hSW hD he1 he2 hless
   by_cases c2:m < e
   ·by_cases c3:a < r
    ·by_cases c6:e < b
     ·obtain ⟨he,hmid,heI,hmI⟩:=E.out
      have hc1:=rot r e wr hS (by omega) (by omega) (by omega)
      rw [heI] at hc1
      have B0:Aside (SW enc w blk off d wr∧Dat w.heap.size (.func (.func g) #[] lb) (.func (.func sf) #[] sb) wr):=⟨hS,hDk⟩
      clear hS hDk rot sub he hmid heI hmI
      go_wp2_with (go_at_fn (ρ.f 42); refine hc1.mono ?_; rintro x1 w1 ⟨rfl,d1,hS1,hT1,hz1,hR,hQ⟩; have hD1:=hT1 (B0.out).2; have B1:Aside (SW enc w blk off d1 w1∧Dat w.heap.size (.func (.func g) #[] lb) (.func (.func sf) #[] sb) w1):=⟨hS1,hD1⟩; obtain ⟨q1,k1,l1⟩:=hD1; clear hS1 hT1 hc1; have M1:Aside (Rot d r m e d1∧PermIn r e d d1∧d1.size=d.size):=⟨hR,hQ,hz1⟩; clear hR hQ; have hc2:=(K.out).1 a r mid d1 w1 (B1.out).1 hz1 (by have:=E.out; omega) (by omega) (by have:=E.out; omega) (by have:=E.out; omega); rw [(E.out).2.2.2] at hc2; clear hz1)
      go_wp2_with (go_at_fn (ρ.f 30); refine hc2.mono ?_; rintro x2 w2 ⟨rfl,d2,hS2,hT2,hz2,hM2⟩; have hD2:=hT2 (B1.out).2; have B2:Aside (SW enc w blk off d2 w2∧Dat w.heap.size (.func (.func g) #[] lb) (.func (.func sf) #[] sb) w2):=⟨hS2,hD2⟩; obtain ⟨q2,k2,l2⟩:=hD2; clear hS2 hT2 hc2; have M2:Aside (Z1a lt a r mid d1 d2∧d2.size=d.size):=⟨hM2,hz2⟩; clear hM2; have hc3:=(K.out).1 mid e b d2 w2 (B2.out).1 hz2 (by have:=E.out; omega) (by have:=E.out; omega) (by have:=E.out; omega) (by omega); rw [(E.out).2.2.2,(E.out).2.2.1] at hc3; clear hz2)
      go_wp2_with (go_at_fn (ρ.f 30); refine hc3.mono ?_; rintro x3 w3 ⟨rfl,d3,hS3,hT3,hz3,hM3⟩; have hD3:=hT3 (B2.out).2; have B3:Aside (SW enc w blk off d3 w3∧Dat w.heap.size (.func (.func g) #[] lb) (.func (.func sf) #[] sb) w3):=⟨hS3,hD3⟩; obtain ⟨q3,k3,l3⟩:=hD3; clear hS3 hT3 hc3; have M3:Aside (Z1a lt mid e b d2 d3∧d3.size=d.size):=⟨hM3,hz3⟩; clear hM3; clear hz3)
      go_end0
      obtain ⟨he,hmid,heI,hmI⟩:=E.out
      obtain ⟨n,os,e'⟩:=(B3.out).1
      exact ⟨rfl,n,os,d3,e',FIN.out (M1.out).1 (permIn_mono _ _ _ _ _ _ (by omega) (by omega) (by omega) (M1.out).2.1) (.inl (M2.out).1) (.inl (M3.out).1)⟩
     ·obtain ⟨he,hmid,heI,hmI⟩:=E.out
      have hc1:=rot r e wr hS (by omega) (by omega) (by omega)
      rw [heI] at hc1
      have B0:Aside (SW enc w blk off d wr∧Dat w.heap.size (.func (.func g) #[] lb) (.func (.func sf) #[] sb) wr):=⟨hS,hDk⟩
      clear hS hDk rot sub he hmid heI hmI
      go_wp2_with (go_at_fn (ρ.f 42); refine hc1.mono ?_; rintro x1 w1 ⟨rfl,d1,hS1,hT1,hz1,hR,hQ⟩; have hD1:=hT1 (B0.out).2; have B1:Aside (SW enc w blk off d1 w1∧Dat w.heap.size (.func (.func g) #[] lb) (.func (.func sf) #[] sb) w1):=⟨hS1,hD1⟩; obtain ⟨q1,k1,l1⟩:=hD1; clear hS1 hT1 hc1; have M1:Aside (Rot d r m e d1∧PermIn r e d d1∧d1.size=d.size):=⟨hR,hQ,hz1⟩; clear hR hQ; have hc2:=(K.out).1 a r mid d1 w1 (B1.out).1 hz1 (by have:=E.out; omega) (by omega) (by have:=E.out; omega) (by have:=E.out; omega); rw [(E.out).2.2.2] at hc2; clear hz1)
      go_wp2_with (go_at_fn (ρ.f 30); refine hc2.mono ?_; rintro x2 w2 ⟨rfl,d2,hS2,hT2,hz2,hM2⟩; have hD2:=hT2 (B1.out).2; have B2:Aside (SW enc w blk off d2 w2∧Dat w.heap.size (.func (.func g) #[] lb) (.func (.func sf) #[] sb) w2):=⟨hS2,hD2⟩; obtain ⟨q2,k2,l2⟩:=hD2; clear hS2 hT2 hc2; have M2:Aside (Z1a lt a r mid d1 d2∧d2.size=d.size):=⟨hM2,hz2⟩; clear hM2; clear hz2)
      go_end0
      obtain ⟨he,hmid,heI,hmI⟩:=E.out
      obtain ⟨n,os,e'⟩:=(B2.out).1
      exact ⟨rfl,n,os,d2,e',FIN.out (M1.out).1 (permIn_mono _ _ _ _ _ _ (by omega) (by omega) (by omega) (M1.out).2.1) (.inl (M2.out).1) (.inr ⟨by omega,rfl⟩)⟩
    ·by_cases c6:e < b
     ·exfalso; omega
     ·obtain ⟨he,hmid,heI,hmI⟩:=E.out
      have hc1:=rot r e wr hS (by omega) (by omega) (by omega)
      rw [heI] at hc1
      have B0:Aside (SW enc w blk off d wr∧Dat w.heap.size (.func (.func g) #[] lb) (.func (.func sf) #[] sb) wr):=⟨hS,hDk⟩
      clear hS hDk rot sub he hmid heI hmI
      go_wp2_with (go_at_fn (ρ.f 42); refine hc1.mono ?_; rintro x1 w1 ⟨rfl,d1,hS1,hT1,hz1,hR,hQ⟩; have hD1:=hT1 (B0.out).2; have B1:Aside (SW enc w blk off d1 w1∧Dat w.heap.size (.func (.func g) #[] lb) (.func (.func sf) #[] sb) w1):=⟨hS1,hD1⟩; obtain ⟨q1,k1,l1⟩:=hD1; clear hS1 hT1 hc1; have M1:Aside (Rot d r m e d1∧PermIn r e d d1∧d1.size=d.size):=⟨hR,hQ,hz1⟩; clear hR hQ; clear hz1)
      go_end0
      obtain ⟨he,hmid,heI,hmI⟩:=E.out
      obtain ⟨n,os,e'⟩:=(B1.out).1
      exact ⟨rfl,n,os,d1,e',FIN.out (M1.out).1 (permIn_mono _ _ _ _ _ _ (by omega) (by omega) (by omega) (M1.out).2.1) (.inr ⟨by omega,rfl⟩) (.inr ⟨by omega,rfl⟩)⟩
   ·obtain ⟨he,hmid,heI,hmI⟩:=E.out
    have hc1:=sub mid e b d wr hS rfl (by omega) (by omega) (by omega) (by omega)
    rw [hmI,heI] at hc1
    have B0:Aside (SW enc w blk off d wr∧Dat w.heap.size (.func (.func g) #[] lb) (.func (.func sf) #[] sb) wr):=⟨hS,hDk⟩
    clear hS hDk rot sub he hmid heI hmI
    go_wp2_with (go_at_fn (ρ.f 30); refine hc1.mono ?_; rintro x1 w1 ⟨rfl,d1,hS1,hT1,hz1,hM1⟩; have hD1:=hT1 (B0.out).2; have B1:Aside (SW enc w blk off d1 w1∧Dat w.heap.size (.func (.func g) #[] lb) (.func (.func sf) #[] sb) w1):=⟨hS1,hD1⟩; obtain ⟨q1,k1,l1⟩:=hD1; clear hS1 hT1 hc1; have M1:Aside (Z1a lt mid e b d d1∧d1.size=d.size):=⟨hM1,hz1⟩; clear hM1; clear hz1)
    go_end0
    obtain ⟨he,hmid,heI,hmI⟩:=E.out
    obtain ⟨n,os,e'⟩:=(B1.out).1
    exact ⟨rfl,n,os,d1,e',FIN.out (Rot.none (by omega) (by omega)) (permIn_refl _ _ _) (.inr ⟨by omega,rfl⟩) (.inl (M1.out).1)⟩
end Go.Proofs.Ytgcoidbaoigkeaa.stab
namespace Go.Proofs.Ytgcoidbaoigkeaa.stab
open Go.Shelf Go.RowKit Go.Lib Go.Sort
variable {P:Program} {ρ:Ren} {α:Type} [Inhabited α]
end Go.Proofs.Ytgcoidbaoigkeaa.stab
namespace Go.Proofs.Ytgcoidbaoigkeaa.stab
open Go.Shelf Go.RowKit Go.Lib Go.Sort
variable {P:Program} {ρ:Ren} {α:Type} [Inhabited α] {lt:α→α→Bool}
def Blk (lt:α→α→Bool) (bs n:Nat) (d:Array α):Prop:=∀ q,SortedIn lt (bs * q) (min (bs * q + bs) n) d
theorem kept {d d':Array α} {a b x y:Nat} (hP:PermIn a b d d') (h:SortedIn lt x y d) (hd:y≤a∨b≤x):SortedIn lt x y d':=Z4n h fun k c1 c2=>hP.2.1 k (by omega)
end Go.Proofs.Ytgcoidbaoigkeaa.stab
namespace Go.Proofs.Ytgcoidbaoigkeaa.sst
open Go.Shelf Go.RowKit Go.Lib Go.Sort
open Ytgcoidbaoigkeaa.stab (Rot Swr)
variable {α:Type} [Inhabited α]
theorem mix:Try.prog.follows .mixedOrders=true:=by kernel_rfl
set_option maxHeartbeats 1600000 in
set_option maxRecDepth 1000000 in
theorem Znw (k:Nat) (zE:∀ w,(Go.sizeOf 85).run Try.prog w=.ok k w) (enc:α→List Value) (fn:Value) (blk off cap a b n:Nat) (d0 d:Array α) (w0 w:World)
  (R:RowK enc k w0 blk off d0) (hS:SWK enc k w0 blk off d w) (hds:d.size=d0.size) (hab:a + n≤b) (hb:b + n≤d.size) (hsz:d.size < 4611686018427387904) :
  Calls Try.prog 149 #[.slice (some ⟨blk,off,none⟩) d.size cap,.int .i64 a,.int .i64 b,.int .i64 n,fn] w fun e w'=>e=.returned (.tuple #[])∧∃ d',SWK enc k w0 blk off d' w'∧Swr d a b n d'∧PermIn a (b + n) d d':=by
 have mixed:=mix; have t3:=Try.underlying3; have a3:=Try.isAgg3; have z3:=Try.sizeOf3; have v3:=Try.zeroValue3; have t4:=Try.underlying4; have a4:=Try.isAgg4
 have t22:=Try.underlying132; have u22:=run_underlying Try.underlying132; have aE:=Try.isAgg85
 go_enter Try.func149,Try.ntmps149
 go_wp2
 go_loopg [10] n (fun kk s8 wr=>∃ (i:Nat) (dk:Array α),s8=.int .i64 i∧i + kk=n∧SWK enc k w0 blk off dk wr∧Swr d a b i dk∧PermIn a (b + n) d dk)
 case atStart=>exact ⟨0,d,rfl,by omega,hS,Swr.start d a b,permIn_refl _ _ _⟩
 case round =>
  obtain ⟨i,dk,rfl,hk,hSk,hW,hP⟩:=hrel
  have hdk:dk.size=d.size:=hW.1
  by_cases hlt:i < n
  ·obtain ⟨A,hA⟩:∃ A:Nat,A=a + i:=⟨_,rfl⟩
   obtain ⟨B,hB⟩:∃ B:Nat,B=b + i:=⟨_,rfl⟩
   have hltz:(i:Int) < (n:Int):=by omega
   have eA:(a:Int) + (i:Int)=(A:Int):=by omega
   have eB:(b:Int) + (i:Int)=(B:Int):=by omega
   have nA:((A:Int)).toNat=A:=by omega
   have nB:((B:Int)).toNat=B:=by omega
   have wA:IntKind.i64.wrap (A:Int)=(A:Int):=by rw [IntKind.wrap_i64]; omega
   have wB:IntKind.i64.wrap (B:Int)=(B:Int):=by rw [IntKind.wrap_i64]; omega
   have Az:(A:Int) < (d.size:Int):=by omega
   have Bz:(B:Int) < (d.size:Int):=by omega
   have lB:=hSk.ld1 R (hdk.trans hds) Try.prog B (by omega)
   have lA:=hSk.ld1 R (hdk.trans hds) Try.prog A (by omega)
   have s1:=hSk.st1 R (hdk.trans hds) Try.prog A (by omega) dk[B]!
   have s2:=hSk.st2 R (hdk.trans hds) Try.prog A B (by omega) (by omega) dk[B]! dk[A]!
   have hsA:(enc dk[A]!).length=k:=R.hk _
   have hsB:(enc dk[B]!).length=k:=R.hk _
   have hsw:=hSk.swapped R A B (by omega) (by omega)
   have AS:Aside (SWK enc k w0 blk off (swp dk A B) ((wr.drew.setCells blk (off + A * k) (enc dk[B]!)).setCells blk (off + B * k) (enc dk[A]!))∧Swr d a b i dk∧PermIn a (b + n) d dk∧A=a + i∧B=b + i):=⟨hsw,hW,hP,hA,hB⟩
   clear hsw hW hP hSk hS
   generalize enc dk[A]! = cA at lA s2 hsA AS
   generalize enc dk[B]! = cB at lB s1 s2 hsB AS
   clear hA hB
   go_wp2_with fail
   go_big_region_o
   all_goals go_wp2
   go_roundg (gk - 1)
   case measure=>omega
   case rel =>
    obtain ⟨hsw,hW,hP,hA,hB⟩:=AS.out
    subst hA hB
    exact ⟨i + 1,_,by simp,by omega,hsw,hW.step (by omega) (by omega),permIn_trans _ _ _ _ _ hP (swp_permIn _ _ _ _ _ (by omega) (by omega) (by omega) (by omega) (by omega))⟩
  ·have hltz:¬ (i:Int) < (n:Int):=by omega
   go_wp2
   go_end0
   have:i=n:=by omega
   subst this
   exact ⟨rfl,dk,hSk,hW,hP⟩
set_option maxHeartbeats 1600000 in
set_option maxRecDepth 1000000 in
theorem Zq8 (k:Nat) (zE:∀ w,(Go.sizeOf 85).run Try.prog w=.ok k w) (enc:α→List Value) (fn:Value) (blk off cap a m b:Nat) (d0 d:Array α) (w0 w:World)
  (R:RowK enc k w0 blk off d0) (hS:SWK enc k w0 blk off d w) (hds:d.size=d0.size) (ham:a < m) (hmb:m < b) (hb:b≤d.size) (hsz:d.size < 4611686018427387904) :
  Calls Try.prog 146 #[.slice (some ⟨blk,off,none⟩) d.size cap,.int .i64 a,.int .i64 m,.int .i64 b,fn] w fun e w'=>e=.returned (.tuple #[])∧∃ d',SWK enc k w0 blk off d' w'∧Rot d a m b d'∧PermIn a b d d':=by
 have mixed:=mix; have t3:=Try.underlying3; have a3:=Try.isAgg3; have z3:=Try.sizeOf3; have v3:=Try.zeroValue3; have t4:=Try.underlying4; have a4:=Try.isAgg4
 have t22:=Try.underlying132; have u22:=run_underlying Try.underlying132; have aE:=Try.isAgg85
 have HDS:Aside (d.size=d0.size):=hds
 clear hds
 have e49:∀ args w,(callFunc 149 args).run Try.prog w=.ok (.enter 149 args) w:=enters_of Try.func149 (by kernel_rfl) rfl
 go_enter Try.func146,Try.ntmps146
 go_wp2
 go_loopg [10,11] (b - a) (fun kk s8 s9 wr=>∃ (i j:Nat) (dk:Array α),s8=.int .i64 i∧s9=.int .i64 j∧0 < i∧0 < j∧a + i≤m∧m + j≤b∧i + j≤kk∧SWK enc k w0 blk off dk wr ∧
  (∀ d',Rot dk (m - i) m (m + j) d'→Rot d a m b d')∧PermIn a b d dk)
 case atStart=>exact ⟨m - a,b - m,d,by congr 1; omega,by congr 1; omega,by omega,by omega,by omega,by omega,by omega,hS,fun d' h=>by rwa [show m - (m - a)=a by omega,show m + (b - m)=b by omega] at h,permIn_refl _ _ _⟩
 case round =>
  obtain ⟨i,j,dk,rfl,rfl,hi0,hj0,hi,hj,hk,hSk,hRo,hP⟩:=hrel
  have hdk:dk.size=d.size:=hP.1
  have sw:∀ (a' b' n':Nat),a' + n'≤b'→b' + n'≤dk.size→Calls Try.prog 149 #[.slice (some ⟨blk,off,none⟩) d.size cap,.int .i64 a',.int .i64 b',.int .i64 n',fn] wr fun e w'=>e=.returned (.tuple #[])∧∃ d',SWK enc k w0 blk off d' w'∧Swr dk a' b' n' d'∧PermIn a' (b' + n') dk d' :=
   fun a' b' n' h1 h2=>by
    rw [← hdk]
    exact Znw k zE enc fn blk off cap a' b' n' d0 dk w0 wr R hSk (hdk.trans HDS.out) h1 h2 (by omega)
  have A:Aside ((∀ d',Rot dk (m - i) m (m + j) d'→Rot d a m b d')∧PermIn a b d dk∧dk.size=d.size):=⟨hRo,hP,hdk⟩
  have hdb:b≤dk.size:=by omega
  have hdz:dk.size < 4611686018427387904:=by omega
  clear hSk hRo hP hS
  by_cases hij:i=j
  ·subst hij
   have hc:=sw (m - i) m i (by omega) (by omega)
   rw [show (((m - i:Nat):Int))=(m:Int) - i by omega] at hc
   clear sw
   go_wp2_with (go_at_fn 149; refine hc.mono ?_; rintro e w1 ⟨rfl,d1,hS1,h1,h2⟩)
   go_end0
   obtain ⟨hRo,hP,hds⟩:=A.out
   exact ⟨rfl,d1,hS1,hRo d1 (stab.Rot.even h1 (by omega)),permIn_trans _ _ _ _ _ hP (permIn_mono _ _ _ _ _ _ (by omega) (by omega) (by omega) h2)⟩
  ·by_cases hgt:j < i
   ·have hc:=sw (m - i) m j (by omega) (by omega)
    rw [show (((m - i:Nat):Int))=(m:Int) - i by omega] at hc
    clear sw
    go_wp2_with (go_at_fn 149; refine hc.mono ?_; rintro e w1 ⟨rfl,d1,hS1,h1,h2⟩)
    go_roundg (i - j + j)
    case measure=>omega
    case rel =>
     obtain ⟨hRo,hP,hds⟩:=A.out
     exact ⟨i - j,j,d1,by congr 1; omega,rfl,by omega,by omega,by omega,by omega,by omega,hS1,
      fun d' h=>hRo d' (stab.Rot.front (i:=i) h1 hgt (by omega) (by rwa [show m - (i - j)=m - i + j by omega] at h)),permIn_trans _ _ _ _ _ hP (permIn_mono _ _ _ _ _ _ (by omega) (by omega) (by omega) h2)⟩
   ·have hc:=sw (m - i) (m + j - i) i (by omega) (by omega)
    rw [show (((m - i:Nat):Int))=(m:Int) - i by omega,show (((m + j - i:Nat):Int))=(m:Int) + j - i by omega] at hc
    clear sw
    go_wp2_with (go_at_fn 149; refine hc.mono ?_; rintro e w1 ⟨rfl,d1,hS1,h1,h2⟩)
    go_roundg (i + (j - i))
    case measure=>omega
    case rel =>
     obtain ⟨hRo,hP,hds⟩:=A.out
     exact ⟨i,j - i,d1,rfl,by congr 1; omega,by omega,by omega,by omega,by omega,by omega,hS1,
      fun d' h=>hRo d' (stab.Rot.back (i:=i) h1 (by omega) (by omega) (by rwa [show m + (j - i)=m + j - i by omega] at h)),permIn_trans _ _ _ _ _ hP (permIn_mono _ _ _ _ _ _ (by omega) (by omega) (by omega) h2)⟩
end Go.Proofs.Ytgcoidbaoigkeaa.sst
namespace Go.Proofs.Ytgcoidbaoigkeaa.sst
open Go.Shelf Go.RowKit Go.Lib Go.Sort
open Ytgcoidbaoigkeaa.stab (Rot Swr Z2u)
variable {α:Type} [Inhabited α]
inductive Bs (p:Nat→Bool):Nat→Nat→Nat→Prop
 | stop {i:Nat}:Bs p i i i
 | left {i j r:Nat}:i < j→p ((i + j) / 2)=true→Bs p i ((i + j) / 2) r→Bs p i j r
 | right {i j r:Nat}:i < j→p ((i + j) / 2)=false→Bs p ((i + j) / 2 + 1) j r→Bs p i j r
theorem Bs.det {p:Nat→Bool} {i j r r':Nat} (h:Bs p i j r):Bs p i j r'→r=r':=by
 induction h with
 | stop=>intro h'; cases h' with
  | stop=>rfl
  | left h1=>omega
  | right h1=>omega
 | left h1 h2 _ ih=>intro h'; cases h' with
  | stop=>omega
  | left _ _ h3=>exact ih h3
  | right _ h3=>rw [h2] at h3; cases h3
 | right h1 h2 _ ih=>intro h'; cases h' with
  | stop=>omega
  | left _ h3=>rw [h2] at h3; cases h3
  | right _ _ h3=>exact ih h3
theorem Rot.det {d d1 d2:Array α} {a m b:Nat} (h1:Rot d a m b d1) (h2:Rot d a m b d2):d1=d2:=by
 apply Array.ext (h1.1.trans h2.1.symm)
 intro k c1 c2
 have:=(h1.2 k).trans (h2.2 k).symm
 rwa [getElem!_pos d1 k c1,getElem!_pos d2 k c2] at this
theorem Z149 {β:Type} {p q:Prop} {x y z:β} (ih:p→q→x=y) (h:¬ (p∧q)→x=z) (g:¬ (p∧q)→y=z):x=y:=by
 by_cases c:p∧q
 ·exact ih c.1 c.2
 ·exact (h c).trans (g c).symm
inductive Mg (lt:α→α→Bool):Nat→Nat→Nat→Array α→Array α→Prop
 | first {a b i:Nat} {d d':Array α}:Bs (fun h=>!lt d[h]! d[a]!) (a + 1) b i→Rot d a (a + 1) i d'→Mg lt a (a + 1) b d d'
 | last {a m i:Nat} {d d':Array α}:m ≠ a + 1→Bs (fun h=>lt d[m]! d[h]!) a m i→Rot d i m (m + 1) d'→Mg lt a m (m + 1) d d'
 | mid {a m b mid s e s0 r0:Nat} {d d1 d2 d3:Array α}:m ≠ a + 1→b ≠ m + 1→mid=(a + b) / 2→(m≤mid∧s0=a∧r0=m∨mid < m∧s0=mid + m - b∧r0=mid)→Bs (fun c=>lt d[mid + m - 1 - c]! d[c]!) s0 r0 s→e=mid + m - s→Rot d s m e d1 →
   (a < s→s < mid→Mg lt a s mid d1 d2)→(¬ (a < s∧s < mid)→d2=d1)→(mid < e→e < b→Mg lt mid e b d2 d3)→(¬ (mid < e∧e < b)→d3=d2)→Mg lt a m b d d3
theorem Mg.det {lt:α→α→Bool} {a m b:Nat} {d d1:Array α} (h:Mg lt a m b d d1):∀ d2,Mg lt a m b d d2→d1=d2:=by
 induction h with
 | first h1 h2 =>
  intro d2 h'
  cases h' with
  | first g1 g2=>rw [h1.det g1] at h2; exact Rot.det h2 g2
  | last g=>exact absurd rfl g
  | mid g=>exact absurd rfl g
 | last h0 h1 h2 =>
  intro d2 h'
  cases h' with
  | first=>exact absurd rfl h0
  | last _ g1 g2=>rw [h1.det g1] at h2; exact Rot.det h2 g2
  | mid _ g=>exact absurd rfl g
 | mid h0 h1 h2 h3 h4 h5 h6 h7 h8 h9 h10 ih1 ih2 =>
  intro dd h'
  cases h' with
  | first=>exact absurd rfl h0
  | last=>exact absurd rfl h1
  | mid _ _ g2 g3 g4 g5 g6 g7 g8 g9 g10 =>
   subst h2 g2
   have e0:=And.intro (show _=_ from by rcases h3 with ⟨_,q1,q2⟩ | ⟨_,q1,q2⟩ <;> rcases g3 with ⟨_,p1,p2⟩ | ⟨_,p1,p2⟩ <;> first | exact q1.trans p1.symm | omega) (show _=_ from by rcases h3 with ⟨_,q1,q2⟩ | ⟨_,q1,q2⟩ <;> rcases g3 with ⟨_,p1,p2⟩ | ⟨_,p1,p2⟩ <;> first | exact q2.trans p2.symm | omega)
   rw [e0.1,e0.2] at h4
   have e1:=h4.det g4
   subst e1
   subst h5 g5
   have e2:=Rot.det h6 g6
   subst e2
   have e3:=Z149 (fun c c'=>ih1 c c' _ (g7 c c')) h8 g8
   subst e3
   exact Z149 (fun c c'=>ih2 c c' _ (g9 c c')) h10 g10
set_option maxHeartbeats 3200000 in
set_option maxRecDepth 1000000 in
theorem Zld (k:Nat) (zE:∀ w,(Go.sizeOf 85).run Try.prog w=.ok k w) (enc:α→List Value) (cf:α→α→Int) (g:Nat) (cb:Array Value) (blk off cap a m b:Nat) (d0 d:Array α) (w0 w:World)
  (eg:∀ args w,(callFunc g args).run Try.prog w=.ok (.enter g args) w) (hC:CmpLays Try.prog g cb enc k cf blk off d0.size w0) (R:RowK enc k w0 blk off d0) (hS:SWK enc k w0 blk off d w) (hds:d.size=d0.size) (ham:a < m) (hmb:m < b) (hb:b≤d.size) (hsz:d.size < 4611686018427387904) (hone:m=a + 1) :
  Calls Try.prog 119 #[.slice (some ⟨blk,off,none⟩) d.size cap,.int .i64 a,.int .i64 m,.int .i64 b,.func (.func g) #[] cb] w fun e w'=>e=.returned (.tuple #[])∧∃ d',SWK enc k w0 blk off d' w'∧Mg (ltOf cf) a m b d d'∧PermIn a b d d':=by
 have mixed:=mix; have t3:=Try.underlying3; have a3:=Try.isAgg3; have z3:=Try.sizeOf3; have v3:=Try.zeroValue3; have t4:=Try.underlying4; have a4:=Try.isAgg4
 have t22:=Try.underlying132; have u22:=run_underlying Try.underlying132; have aE:=Try.isAgg85; have t47:=Try.underlying232; have a47:=Try.isAgg232; have z47:=Try.sizeOf232; have v47:=Try.zeroValue232
 have HDS:Aside (d.size=d0.size):=hds
 have h1:(m:Int) - a=1:=by omega
 have M:Aside (m=a + 1):=hone
 clear hone hds
 go_enter Try.func119,Try.ntmps119
 go_wp2
 go_loopg [10,11] (b - a) (fun kk s8 s9 wr=>∃ (i j:Nat),s8=.int .i64 i∧s9=.int .i64 j∧m≤i∧i≤j∧j≤b∧j - i≤kk∧SWK enc k w0 blk off d wr∧Hid (∀ r,Bs (fun h=>!ltOf cf d[h]! d[a]!) i j r→Bs (fun h=>!ltOf cf d[h]! d[a]!) m b r))
 case atStart=>exact ⟨m,b,rfl,rfl,by omega,by omega,by omega,by omega,hS,(show Hid _ from fun r h=>h)⟩
 case round =>
  obtain ⟨i,j,rfl,rfl,hi0,hij,hj,hk,hSk,hB⟩:=hrel
  by_cases hlt:i < j
  ·obtain ⟨H,hH⟩:∃ H:Nat,H=(i + j) / 2:=⟨_,rfl⟩
   have hltz:(i:Int) < (j:Int):=by omega
   have eH:((i:Int) + (j:Int)) / 2=(H:Int):=by omega
   have nH:((H:Int)).toNat=H:=by omega
   have Hz:(H:Int) < (d.size:Int):=by omega
   have az:(a:Int) < (d.size:Int):=by omega
   have lH:=fun n' os'=>hSk.ld R HDS.out Try.prog H (by omega) n' os'
   have lA:=fun n' os'=>hSk.ld R HDS.out Try.prog a (by omega) n' os'
   have hcg:=fun n' os'=>hSk.cmp hC HDS.out d[H]! d[a]! n' os'
   have hgr:=fun n' os'=>hSk.grown n' os'
   obtain ⟨z,hz⟩:∃ z,z=cf d[H]! d[a]! := ⟨_,rfl⟩
   rw [← hz] at hcg
   have hsH:(enc d[H]!).length=k:=R.hk _
   have hsA:(enc d[a]!).length=k:=R.hk _
   have AS:Aside (SWK enc k w0 blk off d wr∧(∀ r,Bs (fun h=>!ltOf cf d[h]! d[a]!) i j r→Bs (fun h=>!ltOf cf d[h]! d[a]!) m b r)∧H=(i + j) / 2∧z=cf d[H]! d[a]! ∧ ∀ n' os',SWK enc k w0 blk off d (grow (wr.drewN n') os')):=⟨hSk,hB.out,hH,hz,hgr⟩
   have hHb:i≤H∧H < j:=by omega
   clear hSk hB hH hz hgr hS
   generalize enc d[H]! = cH at lH hsH hcg
   generalize enc d[a]! = cA at lA hsA hcg
   by_cases hlv:z < 0
   ·go_wp2_with fail
    go_quiet_grown (first | (go_at_fn g; refine Calls.grown_of (hcg _ _)))
    go_wp2
    go_roundg (j - (H + 1))
    case measure=>omega
    case rel =>
     obtain ⟨hSk,hB,hH,hz,hgr⟩:=AS.out
     exact ⟨H + 1,j,by first | rfl | go_num | (congr 1; omega),rfl,by omega,by omega,by omega,by omega,hgr _ _,(show Hid _ from fun r h=>hB r (.right hlt (by rw [← hH,Bool.not_eq_false']; unfold ltOf; rw [← hz]; exact decide_eq_true hlv) (by rw [← hH]; exact h)))⟩
   ·go_wp2_with fail
    go_quiet_grown (first | (go_at_fn g; refine Calls.grown_of (hcg _ _)))
    go_wp2
    go_roundg (H - i)
    case measure=>omega
    case rel =>
     obtain ⟨hSk,hB,hH,hz,hgr⟩:=AS.out
     exact ⟨i,H,rfl,rfl,by omega,by omega,by omega,by omega,hgr _ _,(show Hid _ from fun r h=>hB r (.left hlt (by rw [← hH,Bool.not_eq_true']; unfold ltOf; rw [← hz]; exact decide_eq_false (by omega)) (by rw [← hH]; exact h)))⟩
  ·have hje:j=i:=by omega
   subst hje
   have hltz:¬ (j:Int) < (j:Int):=by omega
   have BB:Aside (Bs (fun h=>!ltOf cf d[h]! d[a]!) m b j):=hB.out j .stop
   clear hB hS
   go_wp2
   go_loopg [13] (j - 1 - a) (fun kk s11 wr2=>∃ (x:Nat) (dk:Array α),s11=.int .i64 x∧x < j∧a≤x∧j - 1 - x≤kk∧SWK enc k w0 blk off dk wr2∧Hid (Rot d a (a + 1) (x + 1) dk∧PermIn a b d dk))
   case atStart=>exact ⟨a,d,rfl,by omega,by omega,by omega,hSk,(show Hid _ from ⟨stab.Rot.none (by omega) (.inr rfl),permIn_refl _ _ _⟩)⟩
   case round =>
    obtain ⟨x,dk,rfl,hx0,hx1,hxk,hS2,hRP⟩:=hrel
    have hdk:dk.size=d.size:=hRP.out.2.1
    by_cases hlt2:x + 1 < j
    ·obtain ⟨Y,hY⟩:∃ Y:Nat,Y=x + 1:=⟨_,rfl⟩
     have hltz2:(x:Int) < (j:Int) - 1:=by omega
     have eY:(x:Int) + 1=(Y:Int):=by omega
     have nY:((Y:Int)).toNat=Y:=by omega
     have wY:IntKind.i64.wrap (Y:Int)=(Y:Int):=by rw [IntKind.wrap_i64]; omega
     have Yz:(Y:Int) < (d.size:Int):=by omega
     have Xz:(x:Int) < (d.size:Int):=by omega
     have lY:=hS2.ld1 R (hdk.trans HDS.out) Try.prog Y (by omega)
     have lX:=hS2.ld1 R (hdk.trans HDS.out) Try.prog x (by omega)
     have s1:=hS2.st1 R (hdk.trans HDS.out) Try.prog x (by omega) dk[Y]!
     have s2:=hS2.st2 R (hdk.trans HDS.out) Try.prog x Y (by omega) (by omega) dk[Y]! dk[x]!
     have hsX:(enc dk[x]!).length=k:=R.hk _
     have hsY:(enc dk[Y]!).length=k:=R.hk _
     have hsw:=hS2.swapped R x Y (by omega) (by omega)
     have AS:Aside (SWK enc k w0 blk off (swp dk x Y) ((wr.drew.setCells blk (off + x * k) (enc dk[Y]!)).setCells blk (off + Y * k) (enc dk[x]!))∧Rot d a (a + 1) (x + 1) dk∧PermIn a b d dk∧Y=x + 1):=⟨hsw,hRP.out.1,hRP.out.2,hY⟩
     clear hsw hRP hS2
     generalize enc dk[x]! = cX at lX s2 hsX AS
     generalize enc dk[Y]! = cY at lY s1 s2 hsY AS
     have hYx:Y=x + 1:=hY
     clear hY
     have HY:Aside (Y=x + 1):=hYx
     clear hYx
     go_wp2_with fail
     go_big_region_o
     all_goals go_wp2
     go_roundg (j - 1 - (x + 1))
     case measure=>omega
     case rel =>
      obtain ⟨hsw,hR,hP,hY⟩:=AS.out
      subst hY
      exact ⟨x + 1,_,by first | rfl | go_num | (congr 1; omega),by omega,by omega,by omega,hsw,(show Hid _ from ⟨hR.up (by omega) (by omega),permIn_trans _ _ _ _ _ hP (swp_permIn _ _ _ _ _ (by omega) (by omega) (by omega) (by omega) (by omega))⟩)⟩
    ·have hltz2:¬ (x:Int) < (j:Int) - 1:=by omega
     go_wp2
     refine bodyPost_ret (results_none rfl _ _ _) rfl ?_
     obtain ⟨hR,hP⟩:=hRP.out
     obtain rfl:=M.out
     have:x + 1=j:=by omega
     rw [this] at hR
     exact ⟨rfl,dk,hS2,.first BB.out hR,hP⟩
end Go.Proofs.Ytgcoidbaoigkeaa.sst
namespace Go.Proofs.Ytgcoidbaoigkeaa.sst
open Go.Shelf Go.RowKit Go.Lib Go.Sort
open Ytgcoidbaoigkeaa.stab (Rot Swr Z2u)
variable {α:Type} [Inhabited α]
set_option maxHeartbeats 6400000 in
set_option maxRecDepth 1000000 in
theorem Zq5 (k:Nat) (zE:∀ w,(Go.sizeOf 85).run Try.prog w=.ok k w) (enc:α→List Value) (cf:α→α→Int) (g:Nat) (cb:Array Value) (blk off cap a m b:Nat) (d0 d:Array α) (w0 w:World)
  (eg:∀ args w,(callFunc g args).run Try.prog w=.ok (.enter g args) w) (hC:CmpLays Try.prog g cb enc k cf blk off d0.size w0) (R:RowK enc k w0 blk off d0) (hS:SWK enc k w0 blk off d w) (hds:d.size=d0.size) (ham:a < m) (hmb:m < b) (hb:b≤d.size) (hsz:d.size < 4611686018427387904) (htwo:m ≠ a + 1) (hone:b=m + 1) :
  Calls Try.prog 119 #[.slice (some ⟨blk,off,none⟩) d.size cap,.int .i64 a,.int .i64 m,.int .i64 b,.func (.func g) #[] cb] w fun e w'=>e=.returned (.tuple #[])∧∃ d',SWK enc k w0 blk off d' w'∧Mg (ltOf cf) a m b d d'∧PermIn a b d d':=by
 have mixed:=mix; have t3:=Try.underlying3; have a3:=Try.isAgg3; have z3:=Try.sizeOf3; have v3:=Try.zeroValue3; have t4:=Try.underlying4; have a4:=Try.isAgg4; have v4:=Try.zeroValue4
 have t22:=Try.underlying132; have u22:=run_underlying Try.underlying132; have aE:=Try.isAgg85; have t47:=Try.underlying232; have a47:=Try.isAgg232; have z47:=Try.sizeOf232; have v47:=Try.zeroValue232
 have HDS:Aside (d.size=d0.size):=hds
 have h1:(b:Int) - m=1:=by omega
 have h2:¬ (m:Int) - a=1:=by omega
 have h3:((m:Int) - a == 1)=false:=by simp only [beq_eq_false_iff_ne,ne_eq]; exact h2
 have M:Aside (b=m + 1):=hone
 have MT:Aside (m ≠ a + 1):=htwo
 clear hone hds htwo
 go_enter Try.func119,Try.ntmps119
 go_wp2
 go_loopg [14,15] (m - a) (fun kk s8 s9 wr=>∃ (i j:Nat),s8=.int .i64 i∧s9=.int .i64 j∧a≤i∧i≤j∧j≤m∧j - i≤kk∧SWK enc k w0 blk off d wr∧Hid (∀ r,Bs (fun h=>ltOf cf d[m]! d[h]!) i j r→Bs (fun h=>ltOf cf d[m]! d[h]!) a m r))
 case atStart=>exact ⟨a,m,rfl,rfl,by omega,by omega,by omega,by omega,hS,(show Hid _ from fun r h=>h)⟩
 case round =>
  obtain ⟨i,j,rfl,rfl,hi0,hij,hj,hk,hSk,hB⟩:=hrel
  by_cases hlt:i < j
  ·obtain ⟨H,hH⟩:∃ H:Nat,H=(i + j) / 2:=⟨_,rfl⟩
   have hltz:(i:Int) < (j:Int):=by omega
   have eH:((i:Int) + (j:Int)) / 2=(H:Int):=by omega
   have nH:((H:Int)).toNat=H:=by omega
   have Hz:(H:Int) < (d.size:Int):=by omega
   have az:(m:Int) < (d.size:Int):=by omega
   have l1:=fun n' os'=>hSk.ld R HDS.out Try.prog m (by omega) n' os'
   have l2:=fun n' os'=>hSk.ld R HDS.out Try.prog H (by omega) n' os'
   have hcg:=fun n' os'=>hSk.cmp hC HDS.out d[m]! d[H]! n' os'
   have hgr:=fun n' os'=>hSk.grown n' os'
   obtain ⟨z,hz⟩:∃ z,z=cf d[m]! d[H]! := ⟨_,rfl⟩
   rw [← hz] at hcg
   have hs1:(enc d[m]!).length=k:=R.hk _
   have hs2:(enc d[H]!).length=k:=R.hk _
   have AS:Aside (SWK enc k w0 blk off d wr∧(∀ r,Bs (fun h=>ltOf cf d[m]! d[h]!) i j r→Bs (fun h=>ltOf cf d[m]! d[h]!) a m r)∧H=(i + j) / 2∧z=cf d[m]! d[H]! ∧ ∀ n' os',SWK enc k w0 blk off d (grow (wr.drewN n') os')):=⟨hSk,hB.out,hH,hz,hgr⟩
   have hHb:i≤H∧H < j:=by omega
   clear hSk hB hH hz hgr hS
   generalize enc d[m]! = cH at l1 hs1 hcg
   generalize enc d[H]! = cA at l2 hs2 hcg
   by_cases hlv:z < 0
   ·have hlv3:¬ 0≤z:=by omega
    go_wp2_with fail
    go_quiet_grown (first | (go_at_fn g; refine Calls.grown_of (hcg _ _)))
    go_wp2
    go_roundg (H - i)
    case measure=>omega
    case rel =>
     obtain ⟨hSk,hB,hH,hz,hgr⟩:=AS.out
     exact ⟨i,H,rfl,rfl,by omega,by omega,by omega,by omega,hgr _ _,(show Hid _ from fun r h=>hB r (.left hlt (by rw [← hH]; unfold ltOf; rw [← hz]; exact decide_eq_true hlv) (by rw [← hH]; exact h)))⟩
   ·have hlv3:decide (z < 0)=false:=decide_eq_false hlv
    go_wp2_with fail
    go_quiet_grown (first | (go_at_fn g; refine Calls.grown_of (hcg _ _)))
    go_wp2
    go_roundg (j - (H + 1))
    case measure=>omega
    case rel =>
     obtain ⟨hSk,hB,hH,hz,hgr⟩:=AS.out
     exact ⟨H + 1,j,by first | rfl | go_num | (congr 1; omega),rfl,by omega,by omega,by omega,by omega,hgr _ _,(show Hid _ from fun r h=>hB r (.right hlt (by rw [← hH]; unfold ltOf; rw [← hz]; exact decide_eq_false (by omega)) (by rw [← hH]; exact h)))⟩
  ·have hje:j=i:=by omega
   subst hje
   have hltz:¬ (j:Int) < (j:Int):=by omega
   have BB:Aside (Bs (fun h=>ltOf cf d[m]! d[h]!) a m j):=hB.out j .stop
   clear hB hS
   go_wp2
   go_loopg [17] (m - j) (fun kk s11 wr2=>∃ (x:Nat) (dk:Array α),s11=.int .i64 x∧x≤m∧j≤x∧x - j≤kk∧SWK enc k w0 blk off dk wr2∧Hid (Rot d x m (m + 1) dk∧PermIn a b d dk))
   case atStart=>exact ⟨m,d,rfl,by omega,by omega,by omega,hSk,(show Hid _ from ⟨stab.Rot.none (by omega) (.inl rfl),permIn_refl _ _ _⟩)⟩
   case round =>
    obtain ⟨x,dk,rfl,hx0,hx1,hxk,hS2,hRP⟩:=hrel
    have hdk:dk.size=d.size:=hRP.out.2.1
    by_cases hlt2:j < x
    ·obtain ⟨Y,hY⟩:∃ Y:Nat,Y=x - 1:=⟨_,rfl⟩
     have hltz2:(j:Int) < (x:Int):=by omega
     have eY:(x:Int) - 1=(Y:Int):=by omega
     have nY:((Y:Int)).toNat=Y:=by omega
     have wY:IntKind.i64.wrap (Y:Int)=(Y:Int):=by rw [IntKind.wrap_i64]; omega
     have Yz:(Y:Int) < (d.size:Int):=by omega
     have Xz:(x:Int) < (d.size:Int):=by omega
     have lY:=hS2.ld1 R (hdk.trans HDS.out) Try.prog Y (by omega)
     have lX:=hS2.ld1 R (hdk.trans HDS.out) Try.prog x (by omega)
     have s1:=hS2.st1 R (hdk.trans HDS.out) Try.prog x (by omega) dk[Y]!
     have s2:=hS2.st2 R (hdk.trans HDS.out) Try.prog x Y (by omega) (by omega) dk[Y]! dk[x]!
     have hsX:(enc dk[x]!).length=k:=R.hk _
     have hsY:(enc dk[Y]!).length=k:=R.hk _
     have hsw:=hS2.swapped R x Y (by omega) (by omega)
     have AS:Aside (SWK enc k w0 blk off (swp dk x Y) ((wr.drew.setCells blk (off + x * k) (enc dk[Y]!)).setCells blk (off + Y * k) (enc dk[x]!))∧Rot d x m (m + 1) dk∧PermIn a b d dk∧Y=x - 1):=⟨hsw,hRP.out.1,hRP.out.2,hY⟩
     have hYx:Y < x∧x≤Y + 1:=by omega
     clear hsw hRP hS2 hY
     generalize enc dk[x]! = cX at lX s2 hsX AS
     generalize enc dk[Y]! = cY at lY s1 s2 hsY AS
     go_wp2_with fail
     go_big_region_o
     all_goals go_wp2
     go_roundg (x - 1 - j)
     case measure=>omega
     case rel =>
      obtain ⟨hsw,hR,hP,hY⟩:=AS.out
      subst hY
      exact ⟨x - 1,_,by first | rfl | go_num | (congr 1; omega),by omega,by omega,by omega,hsw,(show Hid _ from ⟨hR.down (by omega) (by omega) (by omega),permIn_trans _ _ _ _ _ hP (swp_permIn _ _ _ _ _ (by omega) (by omega) (by omega) (by omega) (by omega))⟩)⟩
    ·have hltz2:¬ (j:Int) < (x:Int):=by omega
     go_wp2
     refine bodyPost_ret (results_none rfl _ _ _) rfl ?_
     obtain ⟨hR,hP⟩:=hRP.out
     obtain rfl:=M.out
     have:x=j:=by omega
     subst this
     exact ⟨rfl,dk,hS2,.last MT.out BB.out hR,hP⟩
end Go.Proofs.Ytgcoidbaoigkeaa.sst
namespace Go.Proofs.Ytgcoidbaoigkeaa.sst
open Go.Shelf Go.RowKit Go.Lib Go.Sort
open Ytgcoidbaoigkeaa.stab (Rot Swr Z2u)
variable {α:Type} [Inhabited α]
set_option maxHeartbeats 6400000 in
set_option maxRecDepth 1000000 in
theorem Zq6 (k:Nat) (zE:∀ w,(Go.sizeOf 85).run Try.prog w=.ok k w) (enc:α→List Value) (cf:α→α→Int) (g:Nat) (cb:Array Value) (blk off cap a m b:Nat) (d0 d:Array α) (w0 w:World)
  (eg:∀ args w,(callFunc g args).run Try.prog w=.ok (.enter g args) w) (hC:CmpLays Try.prog g cb enc k cf blk off d0.size w0) (R:RowK enc k w0 blk off d0) (hS:SWK enc k w0 blk off d w) (hds:d.size=d0.size) (ham:a < m) (hmb:m < b) (hb:b≤d.size) (hsz:d.size < 4611686018427387904) (htwo:a + 1 < m) (hone:m + 1 < b) (hcase:m≤(a + b) / 2)
  (ih:∀ (a' m' b':Nat) (d':Array α) (w':World),b' - a' < b - a→SWK enc k w0 blk off d' w'→d'.size=d0.size→a' < m'→m' < b'→b'≤d'.size →
   Calls Try.prog 119 #[.slice (some ⟨blk,off,none⟩) d'.size cap,.int .i64 a',.int .i64 m',.int .i64 b',.func (.func g) #[] cb] w' fun e w''=>e=.returned (.tuple #[])∧∃ d'',SWK enc k w0 blk off d'' w''∧Mg (ltOf cf) a' m' b' d' d''∧PermIn a' b' d' d'') :
  Calls Try.prog 119 #[.slice (some ⟨blk,off,none⟩) d.size cap,.int .i64 a,.int .i64 m,.int .i64 b,.func (.func g) #[] cb] w fun e w'=>e=.returned (.tuple #[])∧∃ d',SWK enc k w0 blk off d' w'∧Mg (ltOf cf) a m b d d'∧PermIn a b d d':=by
 have mixed:=mix; have t3:=Try.underlying3; have a3:=Try.isAgg3; have z3:=Try.sizeOf3; have v3:=Try.zeroValue3; have t4:=Try.underlying4; have a4:=Try.isAgg4; have v4:=Try.zeroValue4
 have t22:=Try.underlying132; have u22:=run_underlying Try.underlying132; have aE:=Try.isAgg85; have t47:=Try.underlying232; have a47:=Try.isAgg232; have z47:=Try.sizeOf232; have v47:=Try.zeroValue232
 have HDS:Aside (d.size=d0.size):=hds
 have e30:∀ args w,(callFunc 119 args).run Try.prog w=.ok (.enter 119 args) w:=enters_of Try.func119 (by kernel_rfl) rfl
 have e42:∀ args w,(callFunc 146 args).run Try.prog w=.ok (.enter 146 args) w:=enters_of Try.func146 (by kernel_rfl) rfl
 have sub:∀ (a' m' b':Nat) (dk:Array α) (W:World),SWK enc k w0 blk off dk W→dk.size=d.size→b' - a' < b - a→a' < m'→m' < b'→b'≤d.size →
   Calls Try.prog 119 #[.slice (some ⟨blk,off,none⟩) d.size cap,.int .i64 a',.int .i64 m',.int .i64 b',.func (.func g) #[] cb] W fun e w''=>e=.returned (.tuple #[])∧∃ d'',SWK enc k w0 blk off d'' w''∧d''.size=d.size∧Mg (ltOf cf) a' m' b' dk d''∧PermIn a' b' dk d'':=fun a' m' b' dk W hS hs h1 h2 h3 h4=>by
  rw [← hs] at h4 ⊢
  exact (ih a' m' b' dk W h1 hS (hs.trans hds) h2 h3 h4).mono fun _ _ ⟨he,d'',hw,hM,hP⟩=>⟨he,d'',hw,hP.1,hM,hP⟩
 have rot:∀ (s e:Nat) (W:World),SWK enc k w0 blk off d W→s < m→m < e→e≤d.size →
   Calls Try.prog 146 #[.slice (some ⟨blk,off,none⟩) d.size cap,.int .i64 s,.int .i64 m,.int .i64 e,.func (.func g) #[] cb] W fun e' w''=>e'=.returned (.tuple #[])∧∃ d'',SWK enc k w0 blk off d'' w''∧d''.size=d.size∧Rot d s m e d''∧PermIn s e d d'':=fun s e W hS h1 h2 h3 =>
  (Zq8 k zE enc _ blk off cap s m e d0 d w0 W R hS hds h1 h2 h3 hsz).mono fun _ _ ⟨he,d'',hw,hR,hP⟩=>⟨he,d'',hw,hP.1,hR,hP⟩
 obtain ⟨mid,hmid⟩:∃ mid:Nat,mid=(a + b) / 2:=⟨_,rfl⟩
 have hmI:((a:Int) + b) / 2=(mid:Int):=by omega
 have h1:¬ (m:Int) - a=1:=by omega
 have h2:((m:Int) - a == 1)=false:=by simp only [beq_eq_false_iff_ne,ne_eq]; exact h1
 have h3:¬ (b:Int) - m=1:=by omega
 have h4:((b:Int) - m == 1)=false:=by simp only [beq_eq_false_iff_ne,ne_eq]; exact h3
 have h5:¬ (mid:Int) < (m:Int):=by omega
 have MB:Aside (mid=(a + b) / 2):=hmid
 have mb:2 * mid≤a + b∧a + b≤2 * mid + 1:=by omega
 have K:Aside ((∀ (a' m' b':Nat) (dk:Array α) (W:World),SWK enc k w0 blk off dk W→dk.size=d.size→b' - a' < b - a→a' < m'→m' < b'→b'≤d.size →
   Calls Try.prog 119 #[.slice (some ⟨blk,off,none⟩) d.size cap,.int .i64 a',.int .i64 m',.int .i64 b',.func (.func g) #[] cb] W fun e w''=>e=.returned (.tuple #[])∧∃ d'',SWK enc k w0 blk off d'' w''∧d''.size=d.size∧Mg (ltOf cf) a' m' b' dk d''∧PermIn a' b' dk d'') ∧
  (∀ (s e:Nat) (W:World),SWK enc k w0 blk off d W→s < m→m < e→e≤d.size →
   Calls Try.prog 146 #[.slice (some ⟨blk,off,none⟩) d.size cap,.int .i64 s,.int .i64 m,.int .i64 e,.func (.func g) #[] cb] W fun e' w''=>e'=.returned (.tuple #[])∧∃ d'',SWK enc k w0 blk off d'' w''∧d''.size=d.size∧Rot d s m e d''∧PermIn s e d d'')):=⟨sub,rot⟩
 clear sub rot ih hds hcase hmid
 go_enter Try.func119,Try.ntmps119
 go_wp2
 go_loopg [20,21] (b - a) (fun kk s8 s9 wr=>∃ (s r:Nat),s8=.int .i64 s∧s9=.int .i64 r∧a≤s∧s≤r∧r≤m∧r - s≤kk∧SWK enc k w0 blk off d wr∧Hid (∀ q,Bs (fun c=>ltOf cf d[mid + m - 1 - c]! d[c]!) s r q→Bs (fun c=>ltOf cf d[mid + m - 1 - c]! d[c]!) a m q))
 case atStart=>exact ⟨a,m,by first | rfl | (congr 1; omega),by first | rfl | (congr 1; omega),by omega,by omega,by omega,by omega,hS,(show Hid _ from fun r h=>h)⟩
 case round =>
  obtain ⟨s,r,rfl,rfl,hs0,hsr,hr0,hk,hSk,hB⟩:=hrel
  by_cases hlt:s < r
  ·obtain ⟨H,hH⟩:∃ H:Nat,H=(s + r) / 2:=⟨_,rfl⟩
   obtain ⟨G,hG⟩:∃ G:Nat,G=mid + m - 1 - H:=⟨_,rfl⟩
   have hltz:(s:Int) < (r:Int):=by omega
   have eH:((s:Int) + (r:Int)) / 2=(H:Int):=by omega
   have hHb:s≤H∧H < r:=by omega
   have eG:(mid:Int) + (m:Int) - 1 - (H:Int)=(G:Int):=by omega
   have nH:((H:Int)).toNat=H:=by omega
   have nG:((G:Int)).toNat=G:=by omega
   have wG:IntKind.i64.wrap (G:Int)=(G:Int):=by rw [IntKind.wrap_i64]; omega
   have Hz:(H:Int) < (d.size:Int):=by omega
   have Gz:(G:Int) < (d.size:Int):=by omega
   have l1:=fun n' os'=>hSk.ld R HDS.out Try.prog G (by omega) n' os'
   have l2:=fun n' os'=>hSk.ld R HDS.out Try.prog H (by omega) n' os'
   have hcg:=fun n' os'=>hSk.cmp hC HDS.out d[G]! d[H]! n' os'
   have hgr:=fun n' os'=>hSk.grown n' os'
   obtain ⟨z,hz⟩:∃ z,z=cf d[G]! d[H]! := ⟨_,rfl⟩
   rw [← hz] at hcg
   have hs1:(enc d[G]!).length=k:=R.hk _
   have hs2:(enc d[H]!).length=k:=R.hk _
   have AS:Aside (SWK enc k w0 blk off d wr∧(∀ q,Bs (fun c=>ltOf cf d[mid + m - 1 - c]! d[c]!) s r q→Bs (fun c=>ltOf cf d[mid + m - 1 - c]! d[c]!) a m q)∧H=(s + r) / 2∧z=cf d[G]! d[H]! ∧ (∀ n' os',SWK enc k w0 blk off d (grow (wr.drewN n') os'))∧G=mid + m - 1 - H):=⟨hSk,hB.out,hH,hz,hgr,hG⟩
   clear hSk hB hH hz hgr hS hG
   generalize enc d[G]! = cH at l1 hs1 hcg
   generalize enc d[H]! = cA at l2 hs2 hcg
   by_cases hlv:z < 0
   ·have hlv3:¬ 0≤z:=by omega
    go_wp2_with fail
    go_quiet_grown (first | (go_at_fn g; refine Calls.grown_of (hcg _ _)))
    go_wp2
    go_roundg (H - s)
    case measure=>omega
    case rel =>
     obtain ⟨hSk,hB,hH,hz,hgr,hG⟩:=AS.out
     exact ⟨s,H,rfl,rfl,by omega,by omega,by omega,by omega,hgr _ _,(show Hid _ from fun q h=>hB q (.left hlt (by rw [← hH,← hG]; unfold ltOf; rw [← hz]; exact decide_eq_true hlv) (by rw [← hH]; exact h)))⟩
   ·have hlv3:decide (z < 0)=false:=decide_eq_false hlv
    go_wp2_with fail
    go_quiet_grown (first | (go_at_fn g; refine Calls.grown_of (hcg _ _)))
    go_wp2
    go_roundg (r - (H + 1))
    case measure=>omega
    case rel =>
     obtain ⟨hSk,hB,hH,hz,hgr,hG⟩:=AS.out
     exact ⟨H + 1,r,by first | rfl | go_num | (congr 1; omega),rfl,by omega,by omega,by omega,by omega,hgr _ _,(show Hid _ from fun q h=>hB q (.right hlt (by rw [← hH,← hG]; unfold ltOf; rw [← hz]; exact decide_eq_false (by omega)) (by rw [← hH]; exact h)))⟩
  ·have hrs:r=s:=by omega
   subst hrs
   have hltz:¬ (r:Int) < (r:Int):=by omega
   obtain ⟨e,he⟩:∃ e:Nat,e=mid + m - r:=⟨_,rfl⟩
   have heI:(mid:Int) + m - r=(e:Int):=by omega
   have er:e + r=mid + m:=by omega
   have BB:Aside (Bs (fun c=>ltOf cf d[mid + m - 1 - c]! d[c]!) a m r):=hB.out r .stop
   have FIN:Aside (∀ {d1 d2 d3:Array α},Rot d r m e d1→PermIn a b d d1→(a < r→r < mid→Mg (ltOf cf) a r mid d1 d2∧PermIn a mid d1 d2)→(¬ (a < r∧r < mid)→d2=d1)→(mid < e→e < b→Mg (ltOf cf) mid e b d2 d3∧PermIn mid b d2 d3)→(¬ (mid < e∧e < b)→d3=d2)→Mg (ltOf cf) a m b d d3∧PermIn a b d d3):=by
    intro d1 d2 d3 q1 q2 q3 q4 q5 q6
    have z1:=q2.1
    have p2:PermIn a b d1 d2:=by
     by_cases c:a < r∧r < mid
     ·exact permIn_mono _ _ _ _ _ _ (Nat.le_refl _) (by omega) (by omega) (q3 c.1 c.2).2
     ·rw [q4 c]; exact permIn_refl _ _ _
    have z2:=p2.1
    have p3:PermIn a b d2 d3:=by
     by_cases c:mid < e∧e < b
     ·exact permIn_mono _ _ _ _ _ _ (by omega) (Nat.le_refl _) (by omega) (q5 c.1 c.2).2
     ·rw [q6 c]; exact permIn_refl _ _ _
    exact ⟨.mid (s0:=a) (r0:=m) (by omega) (by omega) MB.out (.inl ⟨by omega,rfl,rfl⟩) BB.out he q1 (fun c c'=>(q3 c c').1) q4 (fun c c'=>(q5 c c').1) q6,permIn_trans _ _ _ _ _ q2 (permIn_trans _ _ _ _ _ p2 p3)⟩
   clear hS hB he
   have B0:Aside (SWK enc k w0 blk off d wr):=hSk
   clear hSk
   by_cases c1:r < m∧r < mid
   ·have c1I:(r:Int) < (m:Int):=by omega
    have c2I:(m:Int) < (e:Int):=by omega
    by_cases c3:a < r
    ·have c3I:(a:Int) < (r:Int):=by omega
     have c4I:(r:Int) < (mid:Int):=by omega
     by_cases c5:e < b
     ·have c5I:(mid:Int) < (e:Int):=by omega
      have c6I:(e:Int) < (b:Int):=by omega
      go_wp2_with fail
      refine ((K.out).2 r e _ (B0.out) (by omega) (by omega) (by omega)).mono ?_; rintro x1 w1 ⟨rfl,d1,hS1,hz1,hR1,hQ1⟩; have B1:Aside (SWK enc k w0 blk off d1 w1):=hS1; have M1:Aside (Rot d r m e d1∧PermIn r e d d1∧d1.size=d.size):=⟨hR1,hQ1,hz1⟩; clear hS1 hR1 hQ1 hz1
      dsimp only
      go_wp2_with fail
      refine ((K.out).1 a r mid d1 _ (B1.out) (M1.out).2.2 (by omega) (by omega) (by omega) (by omega)).mono ?_; rintro x2 w2 ⟨rfl,d2,hS2,hz2,hM2⟩; have B2:Aside (SWK enc k w0 blk off d2 w2):=hS2; have M2:Aside ((Mg (ltOf cf) a r mid d1 d2∧PermIn a mid d1 d2)∧d2.size=d.size):=⟨hM2,hz2⟩; clear hS2 hM2 hz2
      dsimp only
      go_wp2_with fail
      refine ((K.out).1 mid e b d2 _ (B2.out) (M2.out).2 (by omega) (by omega) (by omega) (by omega)).mono ?_; rintro x3 w3 ⟨rfl,d3,hS3,hz3,hM3⟩; have B3:Aside (SWK enc k w0 blk off d3 w3):=hS3; have M3:Aside ((Mg (ltOf cf) mid e b d2 d3∧PermIn mid b d2 d3)∧d3.size=d.size):=⟨hM3,hz3⟩; clear hS3 hM3 hz3
      dsimp only
      go_wp2_with fail
      go_end0
      exact ⟨rfl,_,B3.out,FIN.out (M1.out).1 (permIn_mono _ _ _ _ _ _ (by omega) (by omega) (by omega) (M1.out).2.1) (fun _ _=>(M2.out).1) (fun c=>absurd c (by omega)) (fun _ _=>(M3.out).1) (fun c=>absurd c (by omega))⟩
     ·have c5I:(mid:Int) < (e:Int):=by omega
      have c6I:¬ (e:Int) < (b:Int):=by omega
      go_wp2_with fail
      refine ((K.out).2 r e _ (B0.out) (by omega) (by omega) (by omega)).mono ?_; rintro x1 w1 ⟨rfl,d1,hS1,hz1,hR1,hQ1⟩; have B1:Aside (SWK enc k w0 blk off d1 w1):=hS1; have M1:Aside (Rot d r m e d1∧PermIn r e d d1∧d1.size=d.size):=⟨hR1,hQ1,hz1⟩; clear hS1 hR1 hQ1 hz1
      dsimp only
      go_wp2_with fail
      refine ((K.out).1 a r mid d1 _ (B1.out) (M1.out).2.2 (by omega) (by omega) (by omega) (by omega)).mono ?_; rintro x2 w2 ⟨rfl,d2,hS2,hz2,hM2⟩; have B2:Aside (SWK enc k w0 blk off d2 w2):=hS2; have M2:Aside ((Mg (ltOf cf) a r mid d1 d2∧PermIn a mid d1 d2)∧d2.size=d.size):=⟨hM2,hz2⟩; clear hS2 hM2 hz2
      dsimp only
      go_wp2_with fail
      go_end0
      exact ⟨rfl,_,B2.out,FIN.out (M1.out).1 (permIn_mono _ _ _ _ _ _ (by omega) (by omega) (by omega) (M1.out).2.1) (fun _ _=>(M2.out).1) (fun c=>absurd c (by omega)) (fun c c2=>absurd c (by omega)) (fun _=>rfl)⟩
    ·have c3I:¬ (a:Int) < (r:Int):=by omega
     by_cases c5:e < b
     ·have c5I:(mid:Int) < (e:Int):=by omega
      have c6I:(e:Int) < (b:Int):=by omega
      go_wp2_with fail
      refine ((K.out).2 r e _ (B0.out) (by omega) (by omega) (by omega)).mono ?_; rintro x1 w1 ⟨rfl,d1,hS1,hz1,hR1,hQ1⟩; have B1:Aside (SWK enc k w0 blk off d1 w1):=hS1; have M1:Aside (Rot d r m e d1∧PermIn r e d d1∧d1.size=d.size):=⟨hR1,hQ1,hz1⟩; clear hS1 hR1 hQ1 hz1
      dsimp only
      go_wp2_with fail
      refine ((K.out).1 mid e b d1 _ (B1.out) (M1.out).2.2 (by omega) (by omega) (by omega) (by omega)).mono ?_; rintro x2 w2 ⟨rfl,d2,hS2,hz2,hM2⟩; have B2:Aside (SWK enc k w0 blk off d2 w2):=hS2; have M2:Aside ((Mg (ltOf cf) mid e b d1 d2∧PermIn mid b d1 d2)∧d2.size=d.size):=⟨hM2,hz2⟩; clear hS2 hM2 hz2
      dsimp only
      go_wp2_with fail
      go_end0
      exact ⟨rfl,_,B2.out,FIN.out (M1.out).1 (permIn_mono _ _ _ _ _ _ (by omega) (by omega) (by omega) (M1.out).2.1) (fun c c2=>absurd c (by omega)) (fun _=>rfl) (fun _ _=>(M2.out).1) (fun c=>absurd c (by omega))⟩
     ·have c5I:(mid:Int) < (e:Int):=by omega
      have c6I:¬ (e:Int) < (b:Int):=by omega
      go_wp2_with fail
      refine ((K.out).2 r e _ (B0.out) (by omega) (by omega) (by omega)).mono ?_; rintro x1 w1 ⟨rfl,d1,hS1,hz1,hR1,hQ1⟩; have B1:Aside (SWK enc k w0 blk off d1 w1):=hS1; have M1:Aside (Rot d r m e d1∧PermIn r e d d1∧d1.size=d.size):=⟨hR1,hQ1,hz1⟩; clear hS1 hR1 hQ1 hz1
      dsimp only
      go_wp2_with fail
      go_end0
      exact ⟨rfl,_,B1.out,FIN.out (M1.out).1 (permIn_mono _ _ _ _ _ _ (by omega) (by omega) (by omega) (M1.out).2.1) (fun c c2=>absurd c (by omega)) (fun _=>rfl) (fun c c2=>absurd c (by omega)) (fun _=>rfl)⟩
   ·have c1I:¬ (r:Int) < (m:Int):=by omega
    have c3I:(a:Int) < (r:Int):=by omega
    have c5I:¬ (mid:Int) < (e:Int):=by omega
    by_cases c4:r < mid
    ·have c4I:(r:Int) < (mid:Int):=by omega
     go_wp2_with fail
     refine ((K.out).1 a r mid d _ (B0.out) rfl (by omega) (by omega) (by omega) (by omega)).mono ?_; rintro x1 w1 ⟨rfl,d1,hS1,hz1,hM1⟩; have B1:Aside (SWK enc k w0 blk off d1 w1):=hS1; have M1:Aside ((Mg (ltOf cf) a r mid d d1∧PermIn a mid d d1)∧d1.size=d.size):=⟨hM1,hz1⟩; clear hS1 hM1 hz1
     dsimp only
     go_wp2_with fail
     go_end0
     exact ⟨rfl,_,B1.out,FIN.out (stab.Rot.none (by omega) (by omega)) (permIn_refl _ _ _) (fun _ _=>(M1.out).1) (fun c=>absurd c (by omega)) (fun c c2=>absurd c (by omega)) (fun _=>rfl)⟩
    ·have c4I:¬ (r:Int) < (mid:Int):=by omega
     go_wp2
     go_end0
     exact ⟨rfl,_,B0.out,FIN.out (stab.Rot.none (by omega) (by omega)) (permIn_refl _ _ _) (fun c c2=>absurd c (by omega)) (fun _=>rfl) (fun c c2=>absurd c (by omega)) (fun _=>rfl)⟩
end Go.Proofs.Ytgcoidbaoigkeaa.sst
namespace Go.Proofs.Ytgcoidbaoigkeaa.sst
open Go.Shelf Go.RowKit Go.Lib Go.Sort
open Ytgcoidbaoigkeaa.stab (Rot Swr Z2u)
variable {α:Type} [Inhabited α]
set_option maxHeartbeats 6400000 in
set_option maxRecDepth 1000000 in
theorem Zq7 (k:Nat) (zE:∀ w,(Go.sizeOf 85).run Try.prog w=.ok k w) (enc:α→List Value) (cf:α→α→Int) (g:Nat) (cb:Array Value) (blk off cap a m b:Nat) (d0 d:Array α) (w0 w:World)
  (eg:∀ args w,(callFunc g args).run Try.prog w=.ok (.enter g args) w) (hC:CmpLays Try.prog g cb enc k cf blk off d0.size w0) (R:RowK enc k w0 blk off d0) (hS:SWK enc k w0 blk off d w) (hds:d.size=d0.size) (ham:a < m) (hmb:m < b) (hb:b≤d.size) (hsz:d.size < 4611686018427387904) (htwo:a + 1 < m) (hone:m + 1 < b) (hcase:(a + b) / 2 < m)
  (ih:∀ (a' m' b':Nat) (d':Array α) (w':World),b' - a' < b - a→SWK enc k w0 blk off d' w'→d'.size=d0.size→a' < m'→m' < b'→b'≤d'.size →
   Calls Try.prog 119 #[.slice (some ⟨blk,off,none⟩) d'.size cap,.int .i64 a',.int .i64 m',.int .i64 b',.func (.func g) #[] cb] w' fun e w''=>e=.returned (.tuple #[])∧∃ d'',SWK enc k w0 blk off d'' w''∧Mg (ltOf cf) a' m' b' d' d''∧PermIn a' b' d' d'') :
  Calls Try.prog 119 #[.slice (some ⟨blk,off,none⟩) d.size cap,.int .i64 a,.int .i64 m,.int .i64 b,.func (.func g) #[] cb] w fun e w'=>e=.returned (.tuple #[])∧∃ d',SWK enc k w0 blk off d' w'∧Mg (ltOf cf) a m b d d'∧PermIn a b d d':=by
 have mixed:=mix; have t3:=Try.underlying3; have a3:=Try.isAgg3; have z3:=Try.sizeOf3; have v3:=Try.zeroValue3; have t4:=Try.underlying4; have a4:=Try.isAgg4; have v4:=Try.zeroValue4
 have t22:=Try.underlying132; have u22:=run_underlying Try.underlying132; have aE:=Try.isAgg85; have t47:=Try.underlying232; have a47:=Try.isAgg232; have z47:=Try.sizeOf232; have v47:=Try.zeroValue232
 have HDS:Aside (d.size=d0.size):=hds
 have e30:∀ args w,(callFunc 119 args).run Try.prog w=.ok (.enter 119 args) w:=enters_of Try.func119 (by kernel_rfl) rfl
 have e42:∀ args w,(callFunc 146 args).run Try.prog w=.ok (.enter 146 args) w:=enters_of Try.func146 (by kernel_rfl) rfl
 have sub:∀ (a' m' b':Nat) (dk:Array α) (W:World),SWK enc k w0 blk off dk W→dk.size=d.size→b' - a' < b - a→a' < m'→m' < b'→b'≤d.size →
   Calls Try.prog 119 #[.slice (some ⟨blk,off,none⟩) d.size cap,.int .i64 a',.int .i64 m',.int .i64 b',.func (.func g) #[] cb] W fun e w''=>e=.returned (.tuple #[])∧∃ d'',SWK enc k w0 blk off d'' w''∧d''.size=d.size∧Mg (ltOf cf) a' m' b' dk d''∧PermIn a' b' dk d'':=fun a' m' b' dk W hS hs h1 h2 h3 h4=>by
  rw [← hs] at h4 ⊢
  exact (ih a' m' b' dk W h1 hS (hs.trans hds) h2 h3 h4).mono fun _ _ ⟨he,d'',hw,hM,hP⟩=>⟨he,d'',hw,hP.1,hM,hP⟩
 have rot:∀ (s e:Nat) (W:World),SWK enc k w0 blk off d W→s < m→m < e→e≤d.size →
   Calls Try.prog 146 #[.slice (some ⟨blk,off,none⟩) d.size cap,.int .i64 s,.int .i64 m,.int .i64 e,.func (.func g) #[] cb] W fun e' w''=>e'=.returned (.tuple #[])∧∃ d'',SWK enc k w0 blk off d'' w''∧d''.size=d.size∧Rot d s m e d''∧PermIn s e d d'':=fun s e W hS h1 h2 h3 =>
  (Zq8 k zE enc _ blk off cap s m e d0 d w0 W R hS hds h1 h2 h3 hsz).mono fun _ _ ⟨he,d'',hw,hR,hP⟩=>⟨he,d'',hw,hP.1,hR,hP⟩
 obtain ⟨mid,hmid⟩:∃ mid:Nat,mid=(a + b) / 2:=⟨_,rfl⟩
 have hmI:((a:Int) + b) / 2=(mid:Int):=by omega
 have h1:¬ (m:Int) - a=1:=by omega
 have h2:((m:Int) - a == 1)=false:=by simp only [beq_eq_false_iff_ne,ne_eq]; exact h1
 have h3:¬ (b:Int) - m=1:=by omega
 have h4:((b:Int) - m == 1)=false:=by simp only [beq_eq_false_iff_ne,ne_eq]; exact h3
 have h5:(mid:Int) < (m:Int):=by omega
 obtain ⟨s0,hs0⟩:∃ s0:Nat,s0=mid + m - b:=⟨_,rfl⟩
 have hs0I:(mid:Int) + m - b=(s0:Int):=by omega
 have MB:Aside (mid=(a + b) / 2∧s0=mid + m - b):=⟨hmid,hs0⟩
 have mb:2 * mid≤a + b∧a + b≤2 * mid + 1:=by omega
 have sb:s0 + b=mid + m:=by omega
 have K:Aside ((∀ (a' m' b':Nat) (dk:Array α) (W:World),SWK enc k w0 blk off dk W→dk.size=d.size→b' - a' < b - a→a' < m'→m' < b'→b'≤d.size →
   Calls Try.prog 119 #[.slice (some ⟨blk,off,none⟩) d.size cap,.int .i64 a',.int .i64 m',.int .i64 b',.func (.func g) #[] cb] W fun e w''=>e=.returned (.tuple #[])∧∃ d'',SWK enc k w0 blk off d'' w''∧d''.size=d.size∧Mg (ltOf cf) a' m' b' dk d''∧PermIn a' b' dk d'') ∧
  (∀ (s e:Nat) (W:World),SWK enc k w0 blk off d W→s < m→m < e→e≤d.size →
   Calls Try.prog 146 #[.slice (some ⟨blk,off,none⟩) d.size cap,.int .i64 s,.int .i64 m,.int .i64 e,.func (.func g) #[] cb] W fun e' w''=>e'=.returned (.tuple #[])∧∃ d'',SWK enc k w0 blk off d'' w''∧d''.size=d.size∧Rot d s m e d''∧PermIn s e d d'')):=⟨sub,rot⟩
 clear sub rot ih hds hcase hmid hs0
 go_enter Try.func119,Try.ntmps119
 go_wp2
 go_loopg [20,21] (b - a) (fun kk s8 s9 wr=>∃ (s r:Nat),s8=.int .i64 s∧s9=.int .i64 r∧s0≤s∧s≤r∧r≤mid∧r - s≤kk∧SWK enc k w0 blk off d wr∧Hid (∀ q,Bs (fun c=>ltOf cf d[mid + m - 1 - c]! d[c]!) s r q→Bs (fun c=>ltOf cf d[mid + m - 1 - c]! d[c]!) s0 mid q))
 case atStart=>exact ⟨s0,mid,by first | rfl | (congr 1; omega),by first | rfl | (congr 1; omega),by omega,by omega,by omega,by omega,hS,(show Hid _ from fun r h=>h)⟩
 case round =>
  obtain ⟨s,r,rfl,rfl,hs0,hsr,hr0,hk,hSk,hB⟩:=hrel
  by_cases hlt:s < r
  ·obtain ⟨H,hH⟩:∃ H:Nat,H=(s + r) / 2:=⟨_,rfl⟩
   obtain ⟨G,hG⟩:∃ G:Nat,G=mid + m - 1 - H:=⟨_,rfl⟩
   have hltz:(s:Int) < (r:Int):=by omega
   have eH:((s:Int) + (r:Int)) / 2=(H:Int):=by omega
   have hHb:s≤H∧H < r:=by omega
   have eG:(mid:Int) + (m:Int) - 1 - (H:Int)=(G:Int):=by omega
   have nH:((H:Int)).toNat=H:=by omega
   have nG:((G:Int)).toNat=G:=by omega
   have wG:IntKind.i64.wrap (G:Int)=(G:Int):=by rw [IntKind.wrap_i64]; omega
   have Hz:(H:Int) < (d.size:Int):=by omega
   have Gz:(G:Int) < (d.size:Int):=by omega
   have l1:=fun n' os'=>hSk.ld R HDS.out Try.prog G (by omega) n' os'
   have l2:=fun n' os'=>hSk.ld R HDS.out Try.prog H (by omega) n' os'
   have hcg:=fun n' os'=>hSk.cmp hC HDS.out d[G]! d[H]! n' os'
   have hgr:=fun n' os'=>hSk.grown n' os'
   obtain ⟨z,hz⟩:∃ z,z=cf d[G]! d[H]! := ⟨_,rfl⟩
   rw [← hz] at hcg
   have hs1:(enc d[G]!).length=k:=R.hk _
   have hs2:(enc d[H]!).length=k:=R.hk _
   have AS:Aside (SWK enc k w0 blk off d wr∧(∀ q,Bs (fun c=>ltOf cf d[mid + m - 1 - c]! d[c]!) s r q→Bs (fun c=>ltOf cf d[mid + m - 1 - c]! d[c]!) s0 mid q)∧H=(s + r) / 2∧z=cf d[G]! d[H]! ∧ (∀ n' os',SWK enc k w0 blk off d (grow (wr.drewN n') os'))∧G=mid + m - 1 - H):=⟨hSk,hB.out,hH,hz,hgr,hG⟩
   clear hSk hB hH hz hgr hS hG
   generalize enc d[G]! = cH at l1 hs1 hcg
   generalize enc d[H]! = cA at l2 hs2 hcg
   by_cases hlv:z < 0
   ·have hlv3:¬ 0≤z:=by omega
    go_wp2_with fail
    go_quiet_grown (first | (go_at_fn g; refine Calls.grown_of (hcg _ _)))
    go_wp2
    go_roundg (H - s)
    case measure=>omega
    case rel =>
     obtain ⟨hSk,hB,hH,hz,hgr,hG⟩:=AS.out
     exact ⟨s,H,rfl,rfl,by omega,by omega,by omega,by omega,hgr _ _,(show Hid _ from fun q h=>hB q (.left hlt (by rw [← hH,← hG]; unfold ltOf; rw [← hz]; exact decide_eq_true hlv) (by rw [← hH]; exact h)))⟩
   ·have hlv3:decide (z < 0)=false:=decide_eq_false hlv
    go_wp2_with fail
    go_quiet_grown (first | (go_at_fn g; refine Calls.grown_of (hcg _ _)))
    go_wp2
    go_roundg (r - (H + 1))
    case measure=>omega
    case rel =>
     obtain ⟨hSk,hB,hH,hz,hgr,hG⟩:=AS.out
     exact ⟨H + 1,r,by first | rfl | go_num | (congr 1; omega),rfl,by omega,by omega,by omega,by omega,hgr _ _,(show Hid _ from fun q h=>hB q (.right hlt (by rw [← hH,← hG]; unfold ltOf; rw [← hz]; exact decide_eq_false (by omega)) (by rw [← hH]; exact h)))⟩
  ·have hrs:r=s:=by omega
   subst hrs
   have hltz:¬ (r:Int) < (r:Int):=by omega
   obtain ⟨e,he⟩:∃ e:Nat,e=mid + m - r:=⟨_,rfl⟩
   have heI:(mid:Int) + m - r=(e:Int):=by omega
   have er:e + r=mid + m:=by omega
   have BB:Aside (Bs (fun c=>ltOf cf d[mid + m - 1 - c]! d[c]!) s0 mid r):=hB.out r .stop
   have FIN:Aside (∀ {d1 d2 d3:Array α},Rot d r m e d1→PermIn a b d d1→(a < r→r < mid→Mg (ltOf cf) a r mid d1 d2∧PermIn a mid d1 d2)→(¬ (a < r∧r < mid)→d2=d1)→(mid < e→e < b→Mg (ltOf cf) mid e b d2 d3∧PermIn mid b d2 d3)→(¬ (mid < e∧e < b)→d3=d2)→Mg (ltOf cf) a m b d d3∧PermIn a b d d3):=by
    intro d1 d2 d3 q1 q2 q3 q4 q5 q6
    have z1:=q2.1
    have p2:PermIn a b d1 d2:=by
     by_cases c:a < r∧r < mid
     ·exact permIn_mono _ _ _ _ _ _ (Nat.le_refl _) (by omega) (by omega) (q3 c.1 c.2).2
     ·rw [q4 c]; exact permIn_refl _ _ _
    have z2:=p2.1
    have p3:PermIn a b d2 d3:=by
     by_cases c:mid < e∧e < b
     ·exact permIn_mono _ _ _ _ _ _ (by omega) (Nat.le_refl _) (by omega) (q5 c.1 c.2).2
     ·rw [q6 c]; exact permIn_refl _ _ _
    exact ⟨.mid (s0:=s0) (r0:=mid) (by omega) (by omega) MB.out.1 (.inr ⟨by omega,MB.out.2,rfl⟩) BB.out he q1 (fun c c'=>(q3 c c').1) q4 (fun c c'=>(q5 c c').1) q6,permIn_trans _ _ _ _ _ q2 (permIn_trans _ _ _ _ _ p2 p3)⟩
   clear hS hB he
   have B0:Aside (SWK enc k w0 blk off d wr):=hSk
   clear hSk
   by_cases c1:r < m∧r < mid
   ·have c1I:(r:Int) < (m:Int):=by omega
    have c2I:(m:Int) < (e:Int):=by omega
    by_cases c3:a < r
    ·have c3I:(a:Int) < (r:Int):=by omega
     have c4I:(r:Int) < (mid:Int):=by omega
     by_cases c5:e < b
     ·have c5I:(mid:Int) < (e:Int):=by omega
      have c6I:(e:Int) < (b:Int):=by omega
      go_wp2_with fail
      refine ((K.out).2 r e _ (B0.out) (by omega) (by omega) (by omega)).mono ?_; rintro x1 w1 ⟨rfl,d1,hS1,hz1,hR1,hQ1⟩; have B1:Aside (SWK enc k w0 blk off d1 w1):=hS1; have M1:Aside (Rot d r m e d1∧PermIn r e d d1∧d1.size=d.size):=⟨hR1,hQ1,hz1⟩; clear hS1 hR1 hQ1 hz1
      dsimp only
      go_wp2_with fail
      refine ((K.out).1 a r mid d1 _ (B1.out) (M1.out).2.2 (by omega) (by omega) (by omega) (by omega)).mono ?_; rintro x2 w2 ⟨rfl,d2,hS2,hz2,hM2⟩; have B2:Aside (SWK enc k w0 blk off d2 w2):=hS2; have M2:Aside ((Mg (ltOf cf) a r mid d1 d2∧PermIn a mid d1 d2)∧d2.size=d.size):=⟨hM2,hz2⟩; clear hS2 hM2 hz2
      dsimp only
      go_wp2_with fail
      refine ((K.out).1 mid e b d2 _ (B2.out) (M2.out).2 (by omega) (by omega) (by omega) (by omega)).mono ?_; rintro x3 w3 ⟨rfl,d3,hS3,hz3,hM3⟩; have B3:Aside (SWK enc k w0 blk off d3 w3):=hS3; have M3:Aside ((Mg (ltOf cf) mid e b d2 d3∧PermIn mid b d2 d3)∧d3.size=d.size):=⟨hM3,hz3⟩; clear hS3 hM3 hz3
      dsimp only
      go_wp2_with fail
      go_end0
      exact ⟨rfl,_,B3.out,FIN.out (M1.out).1 (permIn_mono _ _ _ _ _ _ (by omega) (by omega) (by omega) (M1.out).2.1) (fun _ _=>(M2.out).1) (fun c=>absurd c (by omega)) (fun _ _=>(M3.out).1) (fun c=>absurd c (by omega))⟩
     ·have c5I:(mid:Int) < (e:Int):=by omega
      have c6I:¬ (e:Int) < (b:Int):=by omega
      go_wp2_with fail
      refine ((K.out).2 r e _ (B0.out) (by omega) (by omega) (by omega)).mono ?_; rintro x1 w1 ⟨rfl,d1,hS1,hz1,hR1,hQ1⟩; have B1:Aside (SWK enc k w0 blk off d1 w1):=hS1; have M1:Aside (Rot d r m e d1∧PermIn r e d d1∧d1.size=d.size):=⟨hR1,hQ1,hz1⟩; clear hS1 hR1 hQ1 hz1
      dsimp only
      go_wp2_with fail
      refine ((K.out).1 a r mid d1 _ (B1.out) (M1.out).2.2 (by omega) (by omega) (by omega) (by omega)).mono ?_; rintro x2 w2 ⟨rfl,d2,hS2,hz2,hM2⟩; have B2:Aside (SWK enc k w0 blk off d2 w2):=hS2; have M2:Aside ((Mg (ltOf cf) a r mid d1 d2∧PermIn a mid d1 d2)∧d2.size=d.size):=⟨hM2,hz2⟩; clear hS2 hM2 hz2
      dsimp only
      go_wp2_with fail
      go_end0
      exact ⟨rfl,_,B2.out,FIN.out (M1.out).1 (permIn_mono _ _ _ _ _ _ (by omega) (by omega) (by omega) (M1.out).2.1) (fun _ _=>(M2.out).1) (fun c=>absurd c (by omega)) (fun c c2=>absurd c (by omega)) (fun _=>rfl)⟩
    ·have c3I:¬ (a:Int) < (r:Int):=by omega
     by_cases c5:e < b
     ·have c5I:(mid:Int) < (e:Int):=by omega
      have c6I:(e:Int) < (b:Int):=by omega
      go_wp2_with fail
      refine ((K.out).2 r e _ (B0.out) (by omega) (by omega) (by omega)).mono ?_; rintro x1 w1 ⟨rfl,d1,hS1,hz1,hR1,hQ1⟩; have B1:Aside (SWK enc k w0 blk off d1 w1):=hS1; have M1:Aside (Rot d r m e d1∧PermIn r e d d1∧d1.size=d.size):=⟨hR1,hQ1,hz1⟩; clear hS1 hR1 hQ1 hz1
      dsimp only
      go_wp2_with fail
      refine ((K.out).1 mid e b d1 _ (B1.out) (M1.out).2.2 (by omega) (by omega) (by omega) (by omega)).mono ?_; rintro x2 w2 ⟨rfl,d2,hS2,hz2,hM2⟩; have B2:Aside (SWK enc k w0 blk off d2 w2):=hS2; have M2:Aside ((Mg (ltOf cf) mid e b d1 d2∧PermIn mid b d1 d2)∧d2.size=d.size):=⟨hM2,hz2⟩; clear hS2 hM2 hz2
      dsimp only
      go_wp2_with fail
      go_end0
      exact ⟨rfl,_,B2.out,FIN.out (M1.out).1 (permIn_mono _ _ _ _ _ _ (by omega) (by omega) (by omega) (M1.out).2.1) (fun c c2=>absurd c (by omega)) (fun _=>rfl) (fun _ _=>(M2.out).1) (fun c=>absurd c (by omega))⟩
     ·have c5I:(mid:Int) < (e:Int):=by omega
      have c6I:¬ (e:Int) < (b:Int):=by omega
      go_wp2_with fail
      refine ((K.out).2 r e _ (B0.out) (by omega) (by omega) (by omega)).mono ?_; rintro x1 w1 ⟨rfl,d1,hS1,hz1,hR1,hQ1⟩; have B1:Aside (SWK enc k w0 blk off d1 w1):=hS1; have M1:Aside (Rot d r m e d1∧PermIn r e d d1∧d1.size=d.size):=⟨hR1,hQ1,hz1⟩; clear hS1 hR1 hQ1 hz1
      dsimp only
      go_wp2_with fail
      go_end0
      exact ⟨rfl,_,B1.out,FIN.out (M1.out).1 (permIn_mono _ _ _ _ _ _ (by omega) (by omega) (by omega) (M1.out).2.1) (fun c c2=>absurd c (by omega)) (fun _=>rfl) (fun c c2=>absurd c (by omega)) (fun _=>rfl)⟩
   ·have c1I:(r:Int) < (m:Int):=by omega
    have c2I:¬ (m:Int) < (e:Int):=by omega
    have c4I:¬ (r:Int) < (mid:Int):=by omega
    have c5I:(mid:Int) < (e:Int):=by omega
    have c6I:(e:Int) < (b:Int):=by omega
    by_cases c3:a < r
    ·have c3I:(a:Int) < (r:Int):=by omega
     go_wp2_with fail
     refine ((K.out).1 mid e b d _ (B0.out) rfl (by omega) (by omega) (by omega) (by omega)).mono ?_; rintro x1 w1 ⟨rfl,d1,hS1,hz1,hM1⟩; have B1:Aside (SWK enc k w0 blk off d1 w1):=hS1; have M1:Aside ((Mg (ltOf cf) mid e b d d1∧PermIn mid b d d1)∧d1.size=d.size):=⟨hM1,hz1⟩; clear hS1 hM1 hz1
     dsimp only
     go_wp2_with fail
     go_end0
     exact ⟨rfl,_,B1.out,FIN.out (stab.Rot.none (by omega) (by omega)) (permIn_refl _ _ _) (fun c c2=>absurd c (by omega)) (fun _=>rfl) (fun _ _=>(M1.out).1) (fun c=>absurd c (by omega))⟩
    ·have c3I:¬ (a:Int) < (r:Int):=by omega
     go_wp2_with fail
     refine ((K.out).1 mid e b d _ (B0.out) rfl (by omega) (by omega) (by omega) (by omega)).mono ?_; rintro x1 w1 ⟨rfl,d1,hS1,hz1,hM1⟩; have B1:Aside (SWK enc k w0 blk off d1 w1):=hS1; have M1:Aside ((Mg (ltOf cf) mid e b d d1∧PermIn mid b d d1)∧d1.size=d.size):=⟨hM1,hz1⟩; clear hS1 hM1 hz1
     dsimp only
     go_wp2_with fail
     go_end0
     exact ⟨rfl,_,B1.out,FIN.out (stab.Rot.none (by omega) (by omega)) (permIn_refl _ _ _) (fun c c2=>absurd c (by omega)) (fun _=>rfl) (fun _ _=>(M1.out).1) (fun c=>absurd c (by omega))⟩
end Go.Proofs.Ytgcoidbaoigkeaa.sst
namespace Go.Proofs.Ytgcoidbaoigkeaa.sst
open Go.Shelf Go.RowKit Go.Lib Go.Sort
open Ytgcoidbaoigkeaa.stab (Rot Swr Z2u)
variable {α:Type} [Inhabited α]
theorem Zgr (k:Nat) (zE:∀ w,(Go.sizeOf 85).run Try.prog w=.ok k w) (enc:α→List Value) (cf:α→α→Int) (g:Nat) (cb:Array Value) (blk off cap:Nat) (d0:Array α) (w0:World)
  (eg:∀ args w,(callFunc g args).run Try.prog w=.ok (.enter g args) w) (hC:CmpLays Try.prog g cb enc k cf blk off d0.size w0) (R:RowK enc k w0 blk off d0) (hsz:d0.size < 4611686018427387904):∀ (N a m b:Nat) (d:Array α) (w:World),b - a≤N→SWK enc k w0 blk off d w→d.size=d0.size→a < m→m < b→b≤d.size →
  Calls Try.prog 119 #[.slice (some ⟨blk,off,none⟩) d.size cap,.int .i64 a,.int .i64 m,.int .i64 b,.func (.func g) #[] cb] w fun e w'=>e=.returned (.tuple #[])∧∃ d',SWK enc k w0 blk off d' w'∧Mg (ltOf cf) a m b d d'∧PermIn a b d d'
 | 0,a,m,b,d,w,hN,hS,hds,h1,h2,h3=>by omega
 | N + 1,a,m,b,d,w,hN,hS,hds,h1,h2,h3=>by
  by_cases c1:m=a + 1
  ·exact Zld k zE enc cf g cb blk off cap a m b d0 d w0 w eg hC R hS hds h1 h2 h3 (by omega) c1
  ·by_cases c2:b=m + 1
   ·exact Zq5 k zE enc cf g cb blk off cap a m b d0 d w0 w eg hC R hS hds h1 h2 h3 (by omega) c1 c2
   ·have ih:=fun (a' m' b':Nat) (d':Array α) (w':World) (q0:b' - a' < b - a) (q1:SWK enc k w0 blk off d' w') (q2:d'.size=d0.size) (q3:a' < m') (q4:m' < b') (q5:b'≤d'.size)=>Zgr k zE enc cf g cb blk off cap d0 w0 eg hC R hsz N a' m' b' d' w' (by omega) q1 q2 q3 q4 q5
    by_cases c3:m≤(a + b) / 2
    ·exact Zq6 k zE enc cf g cb blk off cap a m b d0 d w0 w eg hC R hS hds h1 h2 h3 (by omega) (by omega) (by omega) c3 ih
    ·exact Zq7 k zE enc cf g cb blk off cap a m b d0 d w0 w eg hC R hS hds h1 h2 h3 (by omega) (by omega) (by omega) (by omega) ih
end Go.Proofs.Ytgcoidbaoigkeaa.sst
namespace Go.Proofs.Ytgcoidbaoigkeaa.sst
open Go.Shelf Go.RowKit Go.Lib Go.Sort
variable {α:Type} [Inhabited α]
def Z11a:Ren:=⟨fun | 20=>118 | n=>n,fun | 24=>85 | 22=>132 | 3=>3 | 25=>135 | 4=>4 | 0=>0 | n=>n,fun | n=>n⟩
theorem insC:SlLaysF0.n20 Try.prog Z11a:={
 mixed:=by kernel_rfl
 f20:=⟨"slices.insertionSortCmpFunc[diorama/api.Frag]",by kernel_rfl,Try.func118.trans (congrArg some (by kernel_rfl))⟩
 t0:=Try.underlying0
 a0:=Try.isAgg0
 z0:=Try.sizeOf0
 v0:=Try.zeroValue0
 t3:=Try.underlying3
 a3:=Try.isAgg3
 z3:=Try.sizeOf3
 v3:=Try.zeroValue3
 t4:=Try.underlying4
 a4:=Try.isAgg4
 z4:=Try.sizeOf4
 v4:=Try.zeroValue4
 t22:=Try.underlying132
 a22:=Try.isAgg132
 z22:=Try.sizeOf132
 v22:=Try.zeroValue132
 t25:=Try.underlying135
 a25:=Try.isAgg135
 z25:=Try.sizeOf135
 v25:=Try.zeroValue135 }
theorem Za0 (lt:α→α→Bool) (a b i:Nat) (hib:i < b):∀ (j:Nat) (d:Array α),a≤j→j≤i→b≤d.size→PermIn a b d (insInner lt a j d)
 | 0,d,_,_,_=>by
  unfold insInner
  exact permIn_refl _ _ _
 | j + 1,d,haj,hji,hb=>by
  unfold insInner
  split
  ·rename_i hc
   simp only [Bool.and_eq_true,decide_eq_true_eq] at hc
   have ih:=Za0 lt a b i hib j (swp d (j + 1) j) (by omega) (by omega) (by rw [swp_size]; exact hb)
   exact permIn_trans _ _ _ a b (swp_permIn d a b (j + 1) j haj (by omega) (by omega) (by omega) hb) ih
  ·exact permIn_refl _ _ _
theorem Za1 (lt:α→α→Bool) (a b:Nat):∀ (n i:Nat) (d:Array α),b - i=n→a≤i→b≤d.size→PermIn a b d (insOuter lt a b i d)
 | 0,i,d,hn,_,hb=>by
  rw [insOuter,if_neg (by omega)]
  exact permIn_refl _ _ _
 | n + 1,i,d,hn,hai,hb=>by
  have hlt:i < b:=by omega
  rw [insOuter,if_pos hlt]
  have h1:=Za0 lt a b i hlt i d (by omega) (Nat.le_refl _) hb
  exact permIn_trans _ _ _ a b h1 (Za1 lt a b n (i + 1) _ (by omega) (by omega) (by rw [h1.1]; exact hb))
theorem Z82 (lt:α→α→Bool) (d:Array α) (a b:Nat) (hb:b≤d.size):PermIn a b d (insertionSort lt d a b):=by
 unfold insertionSort
 exact Za1 lt a b _ (a + 1) d rfl (by omega) hb
inductive Ztz (lt:α→α→Bool) (n:Nat):Nat→Array α→Array α→Prop
 | step {a:Nat} {d d':Array α}:a + 20≤n→Ztz lt n (a + 20) (insertionSort lt d a (a + 20)) d'→Ztz lt n a d d'
 | stop {a:Nat} {d:Array α}:¬ a + 20≤n→Ztz lt n a d (insertionSort lt d a n)
inductive Zu0 (lt:α→α→Bool) (n bs:Nat):Nat→Array α→Array α→Prop
 | step {a:Nat} {d d1 d':Array α}:a + 2 * bs≤n→Mg lt a (a + bs) (a + 2 * bs) d d1→Zu0 lt n bs (a + 2 * bs) d1 d'→Zu0 lt n bs a d d'
 | last {a:Nat} {d d':Array α}:¬ a + 2 * bs≤n→a + bs < n→Mg lt a (a + bs) n d d'→Zu0 lt n bs a d d'
 | stop {a:Nat} {d:Array α}:¬ a + 2 * bs≤n→¬ a + bs < n→Zu0 lt n bs a d d
inductive StP (lt:α→α→Bool) (n:Nat):Nat→Array α→Array α→Prop
 | step {bs:Nat} {d d1 d':Array α}:bs < n→Zu0 lt n bs 0 d d1→StP lt n (2 * bs) d1 d'→StP lt n bs d d'
 | stop {bs:Nat} {d:Array α}:¬ bs < n→StP lt n bs d d
theorem Ztz.det {lt:α→α→Bool} {n a:Nat} {d d1:Array α} (h:Ztz lt n a d d1):∀ d2,Ztz lt n a d d2→d1=d2:=by
 induction h with
 | step h1 _ ih=>intro d2 h'; cases h' with
  | step _ g=>exact ih _ g
  | stop g=>exact absurd h1 g
 | stop h1=>intro d2 h'; cases h' with
  | step g=>exact absurd g h1
  | stop=>rfl
theorem Zu0.det {lt:α→α→Bool} {n bs a:Nat} {d d1:Array α} (h:Zu0 lt n bs a d d1):∀ d2,Zu0 lt n bs a d d2→d1=d2:=by
 induction h with
 | step h1 h2 _ ih=>intro d2 h'; cases h' with
  | step _ g1 g2=>rw [h2.det _ g1] at ih; exact ih _ g2
  | last g=>exact absurd h1 g
  | stop g=>exact absurd h1 g
 | last h1 h2 h3=>intro d2 h'; cases h' with
  | step g=>exact absurd g h1
  | last _ _ g=>exact h3.det _ g
  | stop _ g=>exact absurd h2 g
 | stop h1 h2=>intro d2 h'; cases h' with
  | step g=>exact absurd g h1
  | last _ g=>exact absurd g h2
  | stop=>rfl
theorem StP.det {lt:α→α→Bool} {n bs:Nat} {d d1:Array α} (h:StP lt n bs d d1):∀ d2,StP lt n bs d d2→d1=d2:=by
 induction h with
 | step h1 h2 _ ih=>intro d2 h'; cases h' with
  | step _ g1 g2=>rw [h2.det _ g1] at ih; exact ih _ g2
  | stop g=>exact absurd h1 g
 | stop h1=>intro d2 h'; cases h' with
  | step g=>exact absurd g h1
  | stop=>rfl
def Stb (lt:α→α→Bool) (n:Nat) (d d':Array α):Prop:=∃ d1,Ztz lt n 0 d d1∧StP lt n 20 d1 d'
theorem Stb.det {lt:α→α→Bool} {n:Nat} {d d1 d2:Array α} (h1:Stb lt n d d1) (h2:Stb lt n d d2):d1=d2:=by
 obtain ⟨x,a1,a2⟩:=h1
 obtain ⟨y,b1,b2⟩:=h2
 rw [a1.det _ b1] at a2
 exact a2.det _ b2
set_option maxHeartbeats 6400000 in
set_option maxRecDepth 1000000 in
theorem Z11b (k:Nat) (zE:∀ w,(Go.sizeOf 85).run Try.prog w=.ok k w) (enc:α→List Value) (cf:α→α→Int) (g:Nat) (cb:Array Value) (blk off cap n:Nat) (d:Array α) (w:World)
  (eg:∀ args w,(callFunc g args).run Try.prog w=.ok (.enter g args) w) (hC:CmpLays Try.prog g cb enc k cf blk off d.size w) (R:RowK enc k w blk off d) (hn:n=d.size) (hsz:d.size < 1000000000) :
  Calls Try.prog 91 #[.slice (some ⟨blk,off,none⟩) n cap,.int .i64 n,.func (.func g) #[] cb] w fun e w'=>e=.returned (.tuple #[])∧∃ d',SWK enc k w blk off d' w'∧Stb (ltOf cf) n d d'∧PermIn 0 n d d':=by
 have mixed:=mix; have t3:=Try.underlying3; have a3:=Try.isAgg3; have z3:=Try.sizeOf3; have v3:=Try.zeroValue3; have t4:=Try.underlying4; have a4:=Try.isAgg4
 have t22:=Try.underlying132; have u22:=run_underlying Try.underlying132; have aE:=Try.isAgg85
 have e29:∀ args w,(callFunc 118 args).run Try.prog w=.ok (.enter 118 args) w:=enters_of Try.func118 (by kernel_rfl) rfl
 have e30:∀ args w,(callFunc 119 args).run Try.prog w=.ok (.enter 119 args) w:=enters_of Try.func119 (by kernel_rfl) rfl
 have hS0:SWK enc k w blk off d w:=SWK.start R.hH
 have ins:∀ (a b:Nat) (dk:Array α) (W:World),SWK enc k w blk off dk W→dk.size=n→a≤b→b≤n →
   Calls Try.prog 118 #[.slice (some ⟨blk,off,none⟩) n cap,.int .i64 a,.int .i64 b,.func (.func g) #[] cb] W fun e w''=>e=.returned (.tuple #[])∧SWK enc k w blk off (insertionSort (ltOf cf) dk a b) w''∧(insertionSort (ltOf cf) dk a b).size=n∧PermIn a b dk (insertionSort (ltOf cf) dk a b):=fun a b dk W hS hs h1 h2=>by
  have hC':CmpLays Try.prog g cb enc k cf blk off dk.size W:=fun m os dk' hs' x y=>by
   have h:=hS.on R.hblk m dk' os hs'
   have:=h.cmp hC (by omega) x y 0 #[]
   simpa only [World.drewN_zero,grow_empty] using this
  have hP:=Z82 (ltOf cf) dk a b (by omega)
  have:=AnyQ.insertionSortCmpFunc insC k (fun w=>Try.isAgg85 w) zE enc R.hk R.h1 cf g cb blk off cap a b dk W eg hC' (hS.holds R.hblk R.hH (hs.trans hn)) (hS.lt R.hblk) h1 (by omega) (by omega)
  rw [hs] at this
  refine this.mono ?_
  rintro e w'' ⟨he,m,os,rfl⟩
  exact ⟨he,hS.on R.hblk m _ os hP.1,hP.1.trans hs,hP⟩
 have mer:∀ (a m b:Nat) (dk:Array α) (W:World),SWK enc k w blk off dk W→dk.size=n→a < m→m < b→b≤n →
   Calls Try.prog 119 #[.slice (some ⟨blk,off,none⟩) n cap,.int .i64 a,.int .i64 m,.int .i64 b,.func (.func g) #[] cb] W fun e w''=>e=.returned (.tuple #[])∧∃ d'',SWK enc k w blk off d'' w''∧d''.size=n∧Mg (ltOf cf) a m b dk d''∧PermIn a b dk d'':=fun a m b dk W hS hs h1 h2 h3=>by
  rw [← hs] at h3 ⊢
  exact (Zgr k zE enc cf g cb blk off cap d w eg hC R (by omega) (b - a) a m b dk W (Nat.le_refl _) hS (hs.trans hn) h1 h2 h3).mono fun _ _ ⟨he,d'',hw,hM,hP⟩=>⟨he,d'',hw,hP.1,hM,hP⟩
 have hnz:n < 1000000000:=by omega
 have N:Aside (n=d.size):=hn
 clear hC hn hsz
 go_enter Try.func91,Try.ntmps91
 go_wp2
 go_loopg [7,8] n (fun kk s5 s6 wr=>∃ (a:Nat) (dk:Array α),s5=.int .i64 a∧s6=.int .i64 ((a:Int) + 20)∧a≤n∧n - a≤kk∧SWK enc k w blk off dk wr∧Hid (PermIn 0 n d dk∧∀ d',Ztz (ltOf cf) n a dk d'→Ztz (ltOf cf) n 0 d d'))
 case atStart=>exact ⟨0,d,rfl,rfl,by omega,by omega,hS0,(show Hid _ from ⟨permIn_refl _ _ _,fun _ h=>h⟩)⟩
 case round =>
  obtain ⟨a,dk,rfl,rfl,han,hk,hS,hPB⟩:=hrel
  have hz:dk.size=n:=by have:=hPB.out.1.1; have:=N.out; omega
  have A:Aside (PermIn 0 n d dk∧(∀ d',Ztz (ltOf cf) n a dk d'→Ztz (ltOf cf) n 0 d d')∧dk.size=d.size):=⟨hPB.out.1,hPB.out.2,hPB.out.1.1⟩
  by_cases hlt:a + 20≤n
  ·have hc:=ins a (a + 20) dk wr hS hz (by omega) hlt
   rw [show (((a + 20:Nat):Int))=(a:Int) + 20 by omega] at hc
   clear hS hPB ins mer hz hS0
   have hltI:(a:Int) + 20≤n:=by omega
   go_wp2_with (go_at_fn 118; refine hc.mono ?_; rintro e w1 ⟨rfl,hS1,hz1,hP1⟩)
   go_roundg (n - (a + 20))
   case measure=>omega
   case rel =>
    obtain ⟨hP,hB,hs⟩:=A.out
    exact ⟨a + 20,_,by congr 1,by congr 1,by omega,by omega,hS1,(show Hid _ from ⟨permIn_trans _ _ _ _ _ hP (permIn_mono _ _ _ _ _ _ (by omega) (by omega) (by have:=N.out; omega) hP1),fun d' h=>hB d' (.step hlt h)⟩)⟩
  ·have hc:=ins a n dk wr hS hz han (Nat.le_refl _)
   have hgeI:¬ (a:Int) + 20≤n:=by omega
   clear hS hPB hS0 ins hz
   go_wp2_with (go_at_fn 118; refine hc.mono ?_; rintro e w1 ⟨rfl,hS1,hz1,hP1⟩)
   obtain ⟨d1,hd1⟩:∃ d1,d1=insertionSort (ltOf cf) dk a n:=⟨_,rfl⟩
   have A1:Aside (SWK enc k w blk off d1 w1∧PermIn 0 n d d1∧Ztz (ltOf cf) n 0 d d1):=by
    obtain ⟨hP,hB,hs⟩:=A.out
    rw [hd1]
    exact ⟨hS1,permIn_trans _ _ _ _ _ hP (permIn_mono _ _ _ _ _ _ (by omega) (by omega) (by have:=N.out; omega) hP1),hB _ (.stop hlt)⟩
   clear A hS1 hz1 hP1 hgeI hlt hk hd1 hc
   go_loopg [6] n (fun kk s4 wr=>∃ (bs:Nat) (dk:Array α),s4=.int .i64 bs∧0 < bs∧bs≤2 * n + 20∧n - bs≤kk∧SWK enc k w blk off dk wr∧Hid (PermIn 0 n d dk∧∀ d',StP (ltOf cf) n bs dk d'→StP (ltOf cf) n 20 d1 d'))
   case atStart =>
    obtain ⟨hS,hP,hB⟩:=A1.out
    exact ⟨20,d1,rfl,by omega,by omega,by omega,hS,(show Hid _ from ⟨hP,fun _ h=>h⟩)⟩
   case round =>
    obtain ⟨bs,dk,rfl,hb0,hbn,hk,hS,hPB⟩:=hrel
    by_cases hlt:bs < n
    ·have A2:Aside (SWK enc k w blk off dk wr∧PermIn 0 n d dk∧∀ d',StP (ltOf cf) n bs dk d'→StP (ltOf cf) n 20 d1 d'):=⟨hS,hPB.out.1,hPB.out.2⟩
     have M:Aside (∀ (a m b:Nat) (dk:Array α) (W:World),SWK enc k w blk off dk W→dk.size=n→a < m→m < b→b≤n →
   Calls Try.prog 119 #[.slice (some ⟨blk,off,none⟩) n cap,.int .i64 a,.int .i64 m,.int .i64 b,.func (.func g) #[] cb] W fun e w''=>e=.returned (.tuple #[])∧∃ d'',SWK enc k w blk off d'' w''∧d''.size=n∧Mg (ltOf cf) a m b dk d''∧PermIn a b dk d''):=mer
     clear hS hPB mer
     go_wp2
     go_loopg [7,8] n (fun kk s5 s6 wr=>∃ (a:Nat) (dj:Array α),s5=.int .i64 a∧s6=.int .i64 ((a:Int) + 2 * bs)∧a≤n∧n - a≤kk∧SWK enc k w blk off dj wr∧Hid (PermIn 0 n d dj∧∀ d',Zu0 (ltOf cf) n bs a dj d'→Zu0 (ltOf cf) n bs 0 dk d'))
     case atStart =>
      obtain ⟨hS,hP,hB⟩:=A2.out
      exact ⟨0,dk,rfl,by congr 1; omega,by omega,by omega,hS,(show Hid _ from ⟨hP,fun _ h=>h⟩)⟩
     case round =>
      obtain ⟨a',dj,rfl,rfl,han',hk',hS,hPB⟩:=hrel
      have hz:dj.size=n:=by have:=hPB.out.1.1; have:=N.out; omega
      have A:Aside (SWK enc k w blk off dj wr∧PermIn 0 n d dj∧(∀ d',Zu0 (ltOf cf) n bs a' dj d'→Zu0 (ltOf cf) n bs 0 dk d')∧dj.size=d.size):=⟨hS,hPB.out.1,hPB.out.2,hPB.out.1.1⟩
      by_cases hlt2:a' + 2 * bs≤n
      ·have hc:=M.out a' (a' + bs) (a' + 2 * bs) dj wr hS hz (by omega) (by omega) hlt2
       rw [show (((a' + bs:Nat):Int))=(a':Int) + bs by omega,show (((a' + 2 * bs:Nat):Int))=(a':Int) + 2 * bs by omega] at hc
       clear hS hPB hz
       have hltI:(a':Int) + 2 * bs≤n:=by omega
       go_wp2_with (go_at_fn 119; refine hc.mono ?_; rintro e w2 ⟨rfl,d2,hS2,hz2,hM2,hP2⟩)
       go_roundg (n - (a' + 2 * bs))
       case measure=>omega
       case rel =>
        obtain ⟨hS,hP,hB,hs⟩:=A.out
        exact ⟨a' + 2 * bs,d2,by congr 1,by congr 1,by omega,by omega,hS2,(show Hid _ from ⟨permIn_trans _ _ _ _ _ hP (permIn_mono _ _ _ _ _ _ (by omega) (by omega) (by have:=N.out; omega) hP2),fun d' h=>hB d' (.step hlt2 hM2 h)⟩)⟩
      ·have hgeI:¬ (a':Int) + 2 * bs≤n:=by omega
       by_cases hm:a' + bs < n
       ·have hc:=M.out a' (a' + bs) n dj wr hS hz (by omega) (by omega) (Nat.le_refl _)
        rw [show (((a' + bs:Nat):Int))=(a':Int) + bs by omega] at hc
        clear hS hPB hz
        have hltI:(a':Int) + bs < n:=by omega
        go_wp2_with (go_at_fn 119; refine hc.mono ?_; rintro e w2 ⟨rfl,d2,hS2,hz2,hM2,hP2⟩)
        go_roundg (n - 2 * bs)
        case measure=>omega
        case rel =>
         obtain ⟨hS,hP,hB,hs⟩:=A.out
         obtain ⟨_,hP',hB'⟩:=A2.out
         exact ⟨2 * bs,d2,by congr 1; omega,by omega,by omega,by omega,hS2,(show Hid _ from ⟨permIn_trans _ _ _ _ _ hP (permIn_mono _ _ _ _ _ _ (by omega) (by omega) (by have:=N.out; omega) hP2),fun d' h=>hB' d' (.step hlt (hB _ (.last hlt2 hm hM2)) h)⟩)⟩
       ·clear hPB hz
        have hltI:¬ (a':Int) + bs < n:=by omega
        go_wp2
        go_roundg (n - 2 * bs)
        case measure=>omega
        case rel =>
         obtain ⟨hS,hP,hB,hs⟩:=A.out
         obtain ⟨_,hP',hB'⟩:=A2.out
         exact ⟨2 * bs,dj,by congr 1; omega,by omega,by omega,by omega,hS,(show Hid _ from ⟨hP,fun d' h=>hB' d' (.step hlt (hB _ (.stop hlt2 hm)) h)⟩)⟩
    ·have hltI:¬ (bs:Int) < n:=by omega
     go_wp2
     go_end0
     obtain ⟨_,_,hI⟩:=A1.out
     exact ⟨rfl,dk,hS,⟨d1,hI,hPB.out.2 _ (.stop hlt)⟩,hPB.out.1⟩
set_option maxHeartbeats 1600000 in
set_option maxRecDepth 1000000 in
theorem sortStable_c (k:Nat) (zE:∀ w,(Go.sizeOf 85).run Try.prog w=.ok k w) (enc:α→List Value) (cf:α→α→Int) (g:Nat) (cb:Array Value) (blk off cap n:Nat) (d:Array α) (w:World)
  (eg:∀ args w,(callFunc g args).run Try.prog w=.ok (.enter g args) w) (hC:CmpLays Try.prog g cb enc k cf blk off d.size w) (R:RowK enc k w blk off d) (hn:n=d.size) (hsz:d.size < 1000000000) :
  Calls Try.prog 58 #[.slice (some ⟨blk,off,none⟩) n cap,.func (.func g) #[] cb] w fun e w'=>e=.returned (.tuple #[])∧∃ d',SWK enc k w blk off d' w'∧Stb (ltOf cf) n d d'∧PermIn 0 n d d':=by
 have mixed:=mix; have t3:=Try.underlying3; have a3:=Try.isAgg3; have z3:=Try.sizeOf3
 have t22:=Try.underlying132; have u22:=run_underlying Try.underlying132
 have e91:∀ args w,(callFunc 91 args).run Try.prog w=.ok (.enter 91 args) w:=enters_of Try.func91 (by kernel_rfl) rfl
 have hc:=Z11b k zE enc cf g cb blk off cap n d w eg hC R hn hsz
 clear hC R hn hsz
 go_enter Try.func58,Try.ntmps58
 go_wp2_with (go_at_fn 91; refine hc.mono ?_; rintro e w1 ⟨rfl,h⟩)
 go_end0
 exact ⟨rfl,h⟩
end Go.Proofs.Ytgcoidbaoigkeaa.sst
namespace Go.Proofs.Ytgcoidbaoigkeaa.fix
open Go.RowKit Go.Sx Go.Sort
noncomputable def Zsx (I:List Int) (f:Int):Int:=co (I.getD (co f 1).toNat 0) 11
structure Fg (M:Nat) where
 v:Int
 h:0≤co v 1∧co v 1≤(M:Int)
theorem co_fz:co (cod [0,0,0,0,0,0]) 1=0:=by unfold co; rw [Z4]; rfl
noncomputable instance (M:Nat):Inhabited (Fg M):=⟨⟨cod [0,0,0,0,0,0],by rw [co_fz]; exact ⟨Int.le_refl _,Int.natCast_nonneg _⟩⟩⟩
noncomputable def cfB {M:Nat} (I:List Int) (x y:Fg M):Int:=Lib.compareInt (Zsx I x.v) (Zsx I y.v)
open Classical in
noncomputable def Zfi (I:List Int) (l:List Int):List Int :=
 if h:∃ d d':Array (Fg (I.length - 1)),d.toList.map Fg.v=l∧sst.Stb (ltOf (cfB I)) d.size d d'∧PermIn 0 d.size d d' then (Classical.choose (Classical.choose_spec h)).toList.map Fg.v else l
noncomputable def Z16o (x:List Int):List Int:=[cod (Zfi (dec (x.getD 1 0)) (dec (x.getD 0 0)))]
def Znx (x:List Int):Prop:=∀ f ∈ dec (x.getD 0 0),0≤co f 1∧co f 1 < ((dec (x.getD 1 0)).length:Int)
def fCst (s:St) (args:List SV):Option (List B × List E × (Nat→St × SV)):=match args with
 | [.w (.o (.go (.o n))),.w (.o (.f gf [(nb,0)]))]=>match s.rows[n]?,s.mem[nb]?,s.hs[0]? with
  | some r,some b,some (ks,cl)=>match b.cells with
   | .go (.a 0)::_=>if ((decide (gf=59) && (r.live && b.live)) && (decide (s.flr≤n) && decide (r.ty=85))) && (Z39 r.ks Z6v && K.eqvL ks Z3d)
     then some ([Z5b (Zop r.c) (.c 1000000)],[r.c,cl],fun nv=>({ s with rows:=s.rows.set n { r with c:=.v nv },nv:=nv + 1 },.t [])) else none
   | _=>none
  | _,_,_=>none
 | _=>none
noncomputable def Zle:Sum:=⟨58,[],[],Z16o,Znx,gl0,some fCst⟩
def i_cst:Inf:=⟨[some ⟨1,0⟩],fun _=>[none]⟩
noncomputable def Zb4 (b:Int):List Int:=[co b 3,co b 4,co b 5,co b 6,co b 7,co b 8,co b 9,co b 10,co b 11]
noncomputable def Zek (I T:List Int) (f:Int):List Int:=ex4 (Z87 (Zb4 (I.getD (co f 1).toNat 0)) T (co f 4) (co f 5))
noncomputable def Z3v (x:List Int):List Int:=ex4 (Z87 (Zb4 ((dec (x.getD 0 0)).getD (x.getD 4 0).toNat 0)) (dec (x.getD 1 0)) (x.getD 7 0) (x.getD 8 0))
def Z7v:List (Option Iv):=[none,none,none]++zs 6
def Zsy (x:List Int):Prop:=Zq Z7v x∧Z49 (dec (x.getD 0 0)) (dec (x.getD 1 0))∧Z9v (dec (x.getD 1 0))∧0≤x.getD 4 0∧x.getD 4 0 < ((dec (x.getD 0 0)).length:Int)
def Zsz (v:List (Option Iv)):List (Option Iv):=ivs 4 0 255
noncomputable def Z5s:Sum:=mkP gl0 56 [Scn,An 6] [Cl] Zsy Z3v
def Zq9:Inf:=⟨[some ⟨1,0⟩],Zsz⟩
noncomputable def Z4r (I T F g:List Int):List Int:=if (Znt I F).getD 6 0=0 then g else Zek I T (cod ((Znt I F).take 6))
open Classical in
noncomputable def Z6x (I F:List Int):List Int:=F.filter fun f=>decide (co (I.getD (co f 1).toNat 0) 10 ≠ 0∧((Znt I F).getD 6 0=0∨(Znt I F).getD 0 0 < co f 0))
noncomputable def Zny (I T:List Int) (g:List Int) (f:Int):List Int:=Z7u (Zek I T f++g)
noncomputable def Z11c (I T F g:List Int):List Int:=(Zfi I (Z6x I F)).foldl (Zny I T) (Z4r I T F g)
noncomputable def Zih (x:List Int):List Int:=ex4 (Z11c (dec (x.getD 0 0)) (dec (x.getD 1 0)) ((dec (x.getD 2 0)).filterMap (Z2t (x.getD 7 0) (x.getD 8 0))) [x.getD 3 0,x.getD 4 0,x.getD 5 0,x.getD 6 0])
def Zii:List (Option Iv):=[none,none,none]++ivs 4 0 255++[zz,zz]
def Z11d (x:List Int):Prop:=Zq Zii x∧Zid (dec (x.getD 0 0)) (dec (x.getD 2 0))∧Z49 (dec (x.getD 0 0)) (dec (x.getD 1 0))∧Z9v (dec (x.getD 1 0))
def Z11e (v:List (Option Iv)):List (Option Iv):=ivs 4 0 255
noncomputable def Zlf:Sum:=mkP gl0 32 [Scn,Cl,I1,I1] [Cl] Z11d Zih
def Z14a:Inf:=⟨[some ⟨1,0⟩],Z11e⟩
end Go.Proofs.Ytgcoidbaoigkeaa.fix
namespace Go.Sx
open Go.RowKit
def Zzh (e:Env) (s:St) (k:Nat):Prop:=(∃ n b,s.mem[n]?=some b∧b.live=true∧s.fl≤n∧e.β.getD n 0=k)∨∃ n b,s.rows[n]?=some b∧b.live=true∧s.flr≤n∧Z6 ((G.o n).val e)=some k
theorem Zij {e:Env} {W0:Bas} {s:St} {w:World} (h:Rep e W0 s w) {k:Nat} (hk:Zzh e s k):W0.may k:=by
 rcases hk with ⟨n,b,h1,h2,h3,rfl⟩ | ⟨n,b,h1,h2,h3,h4⟩
 ·exact h.own n b h1 h2 h3
 ·exact h.rown n b h1 h2 h3 k h4
theorem Z59 {α:Type} {l:List α} (h:l ≠ []):∃ x,l[0]?=some x:=by
 match l,h with
 | x::_,_=>exact ⟨x,rfl⟩
theorem Rep.rebase {e:Env} {W0:Bas} {s:St} {w:World} (h:Rep e W0 s w):Rep e ⟨w,Zzh e s⟩ s w:=by
 refine ⟨Zm.refl _,h.nb,h.ng,h.nv,h.nx,h.blk,?_,h.sep,h.row,?_,h.rsep,h.brs,⟨h.glw,?_⟩,?_⟩
 ·exact fun n b hb hl hf=>.inr (.inl ⟨n,b,hb,hl,hf,rfl⟩)
 ·exact fun n b hb hl hf k hk=>.inr (.inr ⟨n,b,hb,hl,hf,hk⟩)
 ·intro p hp hne hx
  rcases Zij h hx with h1 | h1
  ·obtain ⟨x,hx0⟩:=Z59 hne
   have:=World.block_lt_of_cell? _ _ (h.gl.1 p hp 0 x hx0)
   exact absurd this (Nat.not_lt.2 h1)
  ·exact h.gl.2 p hp hne h1
 ·intro i ks c hi
  refine Z2b.imp (fun ks v c ha hax=>?_) _ _ _ (h.arg i ks c hi)
  refine ⟨Z5a.now ha hax h.below,fun hne k hk hx=>?_⟩
  rcases Zij h hx with h1 | h1
  ·rcases ha with ⟨_,h2⟩ | ⟨g,off,cap,h2,_,_,_,h5⟩
   ·rw [h2] at hne
    exact hne rfl
   ·obtain ⟨x,hx0⟩:=Z59 hne
    have:=World.block_lt_of_cell? _ _ (h5 0 x hx0)
    rw [h2] at hk
    simp only [slBlk,Option.some.injEq] at hk
    subst hk
    exact absurd this (Nat.not_lt.2 h1)
  ·exact hax hne k hk h1
def genR (m:Nat) (s:St):St:=match s.rows[m]? with
 | some b=>{ s with rows:=s.rows.set m { b with c:=.v s.nv },nv:=s.nv + 2,dp:=s.dp + 1 }
 | none=>s
theorem Rep.cut {e ex:Env} {W0:Bas} {s sx:St} {w0 wr w':World} {m:Nat} {bm:Row} {X:Nat→Prop} (h0:Rep e W0 s w0) (hsc:s.sc=true) (hle:Env.le e ex) (hb:Zm W0 wr) (hX:∀ k,X k→W0.may k)
  (hx:Rep ex ⟨wr,X⟩ sx w') (hm:s.rows[m]?=some bm) (hl:bm.live=true)
  (hmem:∀ (n:Nat) (b:Blk),s.mem[n]?=some b→b.live=true→∃ c,sx.mem[n]?=some c∧c.live=true∧b.ty=c.ty∧b.cells=c.cells)
  (hrow:∀ (n:Nat) (b:Row),s.rows[n]?=some b→b.live=true→∃ c,sx.rows[n]?=some c∧c.live=true∧b.ty=c.ty∧b.ks=c.ks∧(n=m∨b.c=c.c)) (i:Int) :
  ∃ bx,sx.rows[m]?=some bx∧Rep { e with r:=e.r++[bx.c.den ex.R ex.r,i] } W0 (genR m s) w':=by
 obtain ⟨bx,hbx,hblx,hbt,hbk,_⟩:=hrow m bm hm hl
 refine ⟨bx,hbx,?_⟩
 have hgen:genR m s={ s with rows:=s.rows.set m { bm with c:=.v s.nv },nv:=s.nv + 2,dp:=s.dp + 1 }:=by unfold genR; rw [hm]
 rw [hgen]
 generalize he2:({ e with r:=e.r++[bx.c.den ex.R ex.r,i] }:Env)=e2
 have hle2:Env.le e e2:=by rw [← he2]; exact ⟨[bx.c.den ex.R ex.r,i],[],[],[],rfl,by simp,by simp,by simp,rfl⟩
 have er:e2.r=e.r++[bx.c.den ex.R ex.r,i]:=by rw [← he2]
 have eβ:e2.β=e.β:=by rw [← he2]
 have eσ:e2.σ=e.σ:=by rw [← he2]
 have eω:e2.ω=e.ω:=by rw [← he2]
 have eR:e2.R=e.R:=by rw [← he2]
 have hsc':=hsc
 simp only [St.sc,Z18r] at hsc'
 obtain ⟨⟨sf,sm⟩,sr,sh⟩:=hsc'
 rw [← h0.nv,← h0.nb,← h0.ng] at sm
 rw [← h0.nv] at sr sh
 have cden:∀ c:SC,c.sc e.r.length e.β.length e.σ.length=true→c.den e2=c.den ex:=fun c hc=>(SC.den_le hle2 c hc).trans (SC.den_le hle c hc).symm
 have eden:∀ c:E,c.sc e.r.length=true→c.den e2.R e2.r=c.den ex.R ex.r:=fun c hc=>by
  have hle':=hle
  obtain ⟨p,_,_,_,q1,_,_,_,q5⟩:=hle'
  rw [er,q1,E.den_app _ _ _ _ hc,E.den_app _ _ _ _ hc]
  exact E.den_R _ _ _ _
 have gval:∀ n,n < s.rows.length→(G.o n).val e2=(G.o n).val e∧(G.o n).val ex=(G.o n).val e:=fun n hn=>by
  have hgs:(G.o n).sc e.r.length e.σ.length=true:=by simp only [G.sc,Z18s]; rw [h0.ng]; exact hn
  exact ⟨G.val_le hle2 _ hgs,G.val_le hle _ hgs⟩
 have hβ:∀ n,n < s.mem.length→e.β.getD n 0=ex.β.getD n 0:=fun n hn=>by
  obtain ⟨_,p,_,_,_,q2,_⟩:=hle
  rw [q2,Z12 _ _ _ _ (by rw [h0.nb]; exact hn)]
 have hcases:∀ (n:Nat) (b:Row),(s.rows.set m { bm with c:=.v s.nv })[n]?=some b→(n=m∧b={ bm with c:=.v s.nv })∨(n ≠ m∧s.rows[n]?=some b):=fun n b hn=>by
  rcases Z15 hn with ⟨h1,h2,_⟩ | h2
  ·exact .inl ⟨h1,h2⟩
  ·exact .inr h2
 have hmlt:=(List.getElem?_eq_some_iff.1 hm).1
 have hold:∀ (n:Nat) (b:Row),(s.rows.set m { bm with c:=.v s.nv })[n]?=some b→b.live=true→n < s.rows.length∧∃ b0:Row,s.rows[n]?=some b0∧b0.live=true:=fun n b hn hlb=>by
  rcases hcases n b hn with ⟨rfl,rfl⟩ | ⟨_,h2⟩
  ·exact ⟨hmlt,bm,hm,hl⟩
  ·exact ⟨(List.getElem?_eq_some_iff.1 h2).1,b,h2,hlb⟩
 refine ⟨?_,?_,?_,?_,?_,?_,?_,?_,?_,?_,?_,?_,h0.gl,?_⟩
 ·exact hb.trans (c:=⟨wr,X⟩) hx.below (fun k hk=>hk.elim (fun h=>.inl (Nat.le_trans hb.size h)) (hX k))
 ·rw [eβ]; exact h0.nb
 ·rw [eσ,h0.ng]; simp
 ·rw [er]; simp [h0.nv]
 ·rw [eω]; exact h0.nx
 ·intro n b hn hlb
  obtain ⟨c,hc,hlc,hty,hcc⟩:=hmem n b hn hlb
  have hlt:=(List.getElem?_eq_some_iff.1 hn).1
  rw [eβ,hβ n hlt,hty,hcc]
  rw [List.map_congr_left fun z hz=>cden z (List.all_eq_true.1 (List.all_eq_true.1 sm b (List.mem_of_getElem? hn)) z (by rw [hcc]; exact hz))]
  exact hx.blk n c hc hlc
 ·intro n b hn hlb hf
  rw [eβ]
  exact h0.own n b hn hlb hf
 ·intro n k b c hn hk hlb hlc heq
  rw [eβ] at heq
  exact h0.sep n k b c hn hk hlb hlc heq
 ·intro n b hn hlb
  obtain ⟨hlt,b0,hb0,hl0⟩:=hold n b hn hlb
  obtain ⟨c,hc,hlc,hty,hks,hcc⟩:=hrow n b0 hb0 hl0
  have hr:=hx.row n c hc hlc
  rw [(gval n hlt).1,← (gval n hlt).2]
  rcases hcases n b hn with ⟨rfl,rfl⟩ | ⟨hne,h2⟩
  ·rw [hm] at hb0
   simp only [Option.some.injEq] at hb0
   subst hb0
   rw [hbx] at hc
   simp only [Option.some.injEq] at hc
   subst hc
   show Zs w' bm.ty bm.ks _ ((E.v s.nv).den e2.R e2.r)
   rw [hbt,hbk]
   have:(E.v s.nv).den e2.R e2.r=bx.c.den ex.R ex.r:=by
    simp only [E.den]
    rw [er,← h0.nv]
    simp [List.getD]
   rw [this]
   exact hr
  ·rw [h2] at hb0
   simp only [Option.some.injEq] at hb0
   subst hb0
   rcases hcc with hcc | hcc
   ·exact absurd hcc hne
   rw [hty,hks,hcc,eden c.c (by rw [← hcc]; exact List.all_eq_true.1 sr b (List.mem_of_getElem? h2))]
   exact hr
 ·intro n b hn hlb hf k hk
  obtain ⟨hlt,b0,hb0,hl0⟩:=hold n b hn hlb
  rw [(gval n hlt).1] at hk
  exact h0.rown n b0 hb0 hl0 hf k hk
 ·intro n k b c j hn hk hlb hlc h1 h2
  obtain ⟨hlt,b0,hb0,hl0⟩:=hold n b hn hlb
  obtain ⟨hlt',c0,hc0,hl0'⟩:=hold k c hk hlc
  rw [(gval n hlt).1] at h1
  rw [(gval k hlt').1] at h2
  exact h0.rsep n k b0 c0 j hb0 hc0 hl0 hl0' h1 h2
 ·intro n k b c hn hk hlb hlc
  obtain ⟨hlt',c0,hc0,hl0'⟩:=hold k c hk hlc
  rw [(gval k hlt').1,eβ]
  exact h0.brs n k b c0 hn hc0 hlb hl0'
 ·intro j ks c hj
  show SlX W0 ks ((G.a j).val e2) (c.den e2.R e2.r)
  have h1:=h0.arg j ks c hj
  have h2:c.den e2.R e2.r=c.den e.R e.r:=by
   rw [er,E.den_app _ _ _ _ (List.all_eq_true.1 sh (ks,c) (List.mem_of_getElem? hj))]
   exact E.den_R _ _ _ _
  rw [h2,show (G.a j).val e2=(G.a j).val e by simp only [G.val,eR]]
  exact h1
end Go.Sx
namespace Go.Sx
open Go.RowKit
theorem Rep.rowTo {e:Env} {W0:Bas} {s:St} {w w':World} {n:Nat} {b:Row} {row:Option Nat} {x:Int} (h:Rep e W0 s w) (hsc:s.sc=true) (hb:s.rows[n]?=some b) (hl:b.live=true) (hf:s.flr≤n) (hg:w.grownBy w' row)
  (hr:∀ k,row=some k→Z6 ((G.o n).val e)=some k) (hrow:Zs w' b.ty b.ks ((G.o n).val e) x) :
  Rep { e with r:=e.r++[x] } W0 { s with rows:=s.rows.set n { b with c:=.v s.nv },nv:=s.nv + 1 } w':=by
 obtain ⟨hv,_,hle⟩:=h.vars hsc [x]
 have hx:(E.v s.nv).den e.R (e.r++[x])=x:=by
  simp only [E.den]
  rw [← h.nv]
  simp [List.getD]
 refine ⟨h.below.grown hg (fun k hk=>h.rown n b hb hl hf k (hr k hk)),hv.nb,by simpa using hv.ng,hv.nv,hv.nx,?_,hv.own,hv.sep,?_,?_,?_,?_,hv.gl,hv.arg⟩
 ·intro m c hm hlm
  have h1:=hv.blk m c hm hlm
  rw [hg.block _ (Z1g h1) (fun hk=>h.brs m n c b hm hb hlm hl (hr _ hk.symm))]
  exact h1
 ·intro m c hm hlm
  rcases Z15 hm with ⟨rfl,rfl,_⟩ | ⟨hne,hm'⟩
  ·show Zs w' b.ty b.ks _ ((E.v s.nv).den e.R (e.r++[x]))
   rw [hx]
   exact hrow
  ·exact (hv.row m c hm' hlm).kept hg (fun k hk hk'=>hne (h.rsep m n c b k hm' hb hlm hl hk (hr k hk')))
 ·intro m c hm hlm hfm k hk
  rcases Z15 hm with ⟨rfl,rfl,_⟩ | ⟨hne,hm'⟩
  ·exact h.rown m b hb hl hf k hk
  ·exact h.rown m c hm' hlm hfm k hk
 ·intro m j c d k hm hj hlm hlj h1 h2
  have hold:∀ (i:Nat) (z:Row),(s.rows.set n { b with c:=.v s.nv })[i]?=some z→z.live=true→∃ z0:Row,s.rows[i]?=some z0∧z0.live=true:=fun i z hi hz=>by
   rcases Z15 hi with ⟨rfl,rfl,_⟩ | ⟨_,hi'⟩
   ·exact ⟨b,hb,hl⟩
   ·exact ⟨z,hi',hz⟩
  obtain ⟨c0,hc0,hl0⟩:=hold m c hm hlm
  obtain ⟨d0,hd0,hd1⟩:=hold j d hj hlj
  exact h.rsep m j c0 d0 k hc0 hd0 hl0 hd1 h1 h2
 ·intro m j c d hm hj hlm hlj
  rcases Z15 hj with ⟨rfl,rfl,_⟩ | ⟨_,hj'⟩
  ·exact h.brs m j c b hm hb hlm hl
  ·exact h.brs m j c d hm hj' hlm hlj
end Go.Sx
namespace Go.Sx
open Go.RowKit
def seqs:List Code→Code
 | []=>.skip
 | y::r=>.seq y (seqs r)
theorem Zs.len {w:World} {ty:TypeId} {ks:List K} {a:Option Addr} {l cap:Nat} {c:Int} (h:Zs w ty ks (.slice a l cap) c):(dec c).length=l:=by
 rcases h with ⟨h1,b,h2⟩ | ⟨h0,h1,h2⟩
 ·simp only [Value.slice.injEq] at h2; rw [h1,h2.2.1]; rfl
 ·rcases h2.2 with ⟨hv,hn⟩ | ⟨g,cap,cur,hv,_⟩
  ·simp only [Value.slice.injEq] at hv; rw [hn,hv.2.1]
  ·simp only [Value.slice.injEq] at hv; exact hv.2.1.symm
section
variable {P:Program} {Γ:List Sum} {Ψ:List Int→Prop} {bs:List (List Int→Prop)}
def Z14b (P:Program):List Code→(Exit→Act→World→Prop)→Exit→Act→World→Prop
 | [],Q=>Q
 | y::r,Q=>Exit.then (y.wp P (Z14b P r Q)) (Z14b P r Q)
theorem Zcb {Q:Exit→Act→World→Prop} {x:Exit} (hx:x ≠ .normal) {a:Act} {w:World} (h:Q x a w):∀ l:List Code,Z14b P l Q x a w
 | []=>h
 | y::r=>by
  have ih:=Zcb hx h r
  cases x <;> first | exact absurd rfl hx | exact ih
theorem Znz {Q:Exit→Act→World→Prop}:∀ (l:List Code) {a:Act} {w:World},wps P (seqs l) Q a w→Z14b P l Q .normal a w
 | [],a,w,h=>h
 | y::r,a,w,h=>by
  show y.wp P (Z14b P r Q) a w
  refine Zfv y (Z1r y h ?_)
  intro x a' w' hx
  cases x with
  | normal=>exact Znz r hx
  | _=>exact Zcb (Q:=Q) (by intro h; cases h) hx r
def RgR (Ψ:List Int→Prop) (w0:World) (rs:List Sh):Ending→World→Prop:=fun x w'=>∃ ys v,x=.returned v∧Ψ ys∧Z8x (fun k=>w0.heap.size≤k) w' rs v ys∧Below w0.heap.size w0 w'
theorem Zwq {w0:World} (k:Nat) (h:(Bas.mk w0 (fun _=>False)).may k):w0.heap.size≤k:=h.elim id (fun hh=>hh.elim)
end
end Go.Sx
namespace Go.Proofs.Ytgcoidbaoigkeaa.sst
open Go.Shelf Go.RowKit Go.Lib Go.Sort
def Z11f:Ren:=⟨fun | 122=>60 | 215=>92 | n=>n,fun | 3=>3 | 4=>4 | n=>n,fun | n=>n⟩
theorem cmpC:Lays.n122 Try.prog Z11f:={
 mixed:=by kernel_rfl
 f122:=Try.func60.trans (congrArg some (by kernel_rfl))
 f215:=Try.func92.trans (congrArg some (by kernel_rfl))
 t3:=Try.underlying3
 a3:=Try.isAgg3
 z3:=Try.sizeOf3
 v3:=Try.zeroValue3
 t4:=Try.underlying4
 a4:=Try.isAgg4
 z4:=Try.sizeOf4
 v4:=Try.zeroValue4 }
theorem Z11g (W:World) (a b:Obj):((W.alloc a).alloc b).heap.size=W.heap.size + 2:=by
 show ((W.heap.push a).push b).size=_
 rw [Array.size_push,Array.size_push]
theorem Z16p (W:World) (b:Obj) (cs:Array Value) (t:TypeId) (f:Nat × Nat) (k:Nat):((W.alloc (.cells cs t f)).alloc b).cell? ⟨W.heap.size,k,none⟩=cs[k]?:=by
 have h:((W.alloc (.cells cs t f)).alloc b).heap[W.heap.size]?=some (.cells cs t f):=by
  show ((W.heap.push _).push b)[W.heap.size]?=_
  rw [Array.getElem?_push,if_neg (by rw [Array.size_push]; omega),Array.getElem?_push,if_pos rfl]
 unfold World.cell?
 simp only [h]
 rfl
theorem Z16q (W:World) (a:Obj) (cs:Array Value) (t:TypeId) (f:Nat × Nat) (k:Nat):((W.alloc a).alloc (.cells cs t f)).cell? ⟨W.heap.size + 1,k,none⟩=cs[k]?:=by
 have h:((W.alloc a).alloc (.cells cs t f)).heap[W.heap.size + 1]?=some (.cells cs t f):=by
  show ((W.heap.push a).push _)[W.heap.size + 1]?=_
  rw [Array.getElem?_push,if_pos (by rw [Array.size_push])]
 unfold World.cell?
 simp only [h]
 rfl
set_option maxHeartbeats 4000000 in
set_option maxRecDepth 1000000 in
theorem bins_c (W:World) (bs bI off len cap i j:Nat) (x0 x2 x3 x4 x5 y0 y2 y3 y4 y5 zx zy:Int) (hb:bs < W.heap.size) (hI:bI < W.heap.size) (hS:W.cell? ⟨bs,0,none⟩=some (.slice (some ⟨bI,off,none⟩) len cap)) (hi:i < len) (hj:j < len)
  (hx:W.cell? ⟨bI,off + i * 18 + 3 + 8,none⟩=some (.int .i64 zx)) (hy:W.cell? ⟨bI,off + j * 18 + 3 + 8,none⟩=some (.int .i64 zy)) :
  Calls Try.prog 59 #[.agg #[.int .i64 x0,.int .i64 i,.int .i64 x2,.int .i64 x3,.int .i64 x4,.int .i64 x5],.agg #[.int .i64 y0,.int .i64 j,.int .i64 y2,.int .i64 y3,.int .i64 y4,.int .i64 y5],.pointer (some ⟨bs,0,none⟩)] W fun e w'=>e=.returned (.int .i64 (Lib.compareInt zx zy))∧∃ q os',w'=grow (W.drewN q) os':=by
 have mixed:=mix
 have e59:∀ args w,(callFunc 60 args).run Try.prog w=.ok (.enter 60 args) w:=enters_of Try.func60 (by kernel_rfl) rfl
 have hcon:=fun W'=>Any.cmp_Compare_int cmpC zx zy W'
 change ∀ W',Calls Try.prog 60 _ _ _ at hcon
 generalize Lib.compareInt zx zy=r at hcon ⊢
 have hcg:∀ w n' os',Calls Try.prog 60 #[.int .i64 zx,.int .i64 zy] (grow (World.drewN w n') os') fun e w''=>e=.returned (.int .i64 r)∧∃ q os'',w''=grow ((grow (World.drewN w n') os').drewN q) os'':=fun w n' os' =>
  (hcon _).mono fun _ _ ⟨he,hw⟩=>⟨he,0,#[],by rw [hw,World.drewN_zero,grow_empty]⟩
 obtain ⟨W2,hW2⟩:∃ W2,W2=(W.alloc (.cells #[.int .i64 x0,.int .i64 i,.int .i64 x2,.int .i64 x3,.int .i64 x4,.int .i64 x5] 85 (0,0))).alloc (.cells #[.int .i64 y0,.int .i64 j,.int .i64 y2,.int .i64 y3,.int .i64 y4,.int .i64 y5] 85 (0,0)):=⟨_,rfl⟩
 have old:∀ {b o:Nat} {v:Value},b < W.heap.size→W.cell? ⟨b,o,none⟩=some v→W2.cell? ⟨b,o,none⟩=some v:=fun hb h=>by
  rw [hW2,alloc_eq_grow,alloc_eq_grow,grow_grow,cell?_grow _ _ _ (by exact hb)]
  exact h
 have hz:W2.heap.size=W.heap.size + 2:=by rw [hW2]; exact Z11g _ _ _
 have c1:=fun n os=>cell_grown (w:=W2) (a:=⟨bs,0,none⟩) (by show bs < _; omega) (old hb hS) n os
 have c2:=fun n os=>cell_grown (w:=W2) (a:=⟨bI,off + i * 18 + 3 + 8,none⟩) (by show bI < _; omega) (old hI hx) n os
 have c3:=fun n os=>cell_grown (w:=W2) (a:=⟨bI,off + j * 18 + 3 + 8,none⟩) (by show bI < _; omega) (old hI hy) n os
 have c4:=fun n os=>cell_grown (w:=W2) (a:=⟨W.heap.size,1,none⟩) (v:=.int .i64 i) (by show W.heap.size < _; omega) (by rw [hW2]; exact Z16p _ _ _ _ _ _) n os
 have c5:=fun n os=>cell_grown (w:=W2) (a:=⟨W.heap.size + 1,1,none⟩) (v:=.int .i64 j) (by show W.heap.size + 1 < _; omega) (by rw [hW2]; exact Z16q _ _ _ _ _ _) n os
 have FIN:Aside (∀ nq osq,∃ q os',grow (W2.drewN nq) osq=grow (W.drewN q) os'):=fun nq osq=>⟨nq,_,by rw [hW2,alloc_eq_grow,alloc_eq_grow,grow_grow,show ∀ X:Array Obj,(grow W X).drewN nq=grow (W.drewN nq) X from fun _=>rfl,grow_grow]⟩
 have hiI:(i:Int) < (len:Int):=by omega
 have hjI:(j:Int) < (len:Int):=by omega
 go_enter Try.func59,Try.ntmps59
 go_wp2_with fail
 simp only [← hW2]
 clear hW2 old hz hS hx hy hb hI
 go_quiet_grown (first | (go_at_fn 60; refine Calls.grown_of (hcg _ _ _)))
 go_wp2
 go_ret
 exact ⟨rfl,FIN.out _ _⟩
end Go.Proofs.Ytgcoidbaoigkeaa.sst
namespace Go.Proofs.Ytgcoidbaoigkeaa.fix
open Go.RowKit Go.Sx
theorem Z14 {x:List Int} {o:Nat}:Zsq x o=true↔((-131072≤x.getD o 0∧x.getD o 0≤131072)∧(-131072≤x.getD (o + 1) 0∧x.getD (o + 1) 0≤131072)∧(1≤x.getD (o + 2) 0∧x.getD (o + 2) 0≤65536) ∧
 (0≤x.getD (o + 3) 0∧x.getD (o + 3) 0≤255)∧(0≤x.getD (o + 4) 0∧x.getD (o + 4) 0≤255)):=decide_eq_true_iff
noncomputable def Z8q:List Sum:=[Z1u]
def Zwr:List Inf:=[Ze7]
def Zel:TX:=(.ite (.or (.or (.lt (.v 0) (.c (-4096))) (.lt (.c 4096) (.v 0))) (.or (.or (.lt (.v 1) (.c (-4096))) (.lt (.c 4096) (.v 1))) (.or (.or (.lt (.v 2) (.c (-4096))) (.lt (.c 4096) (.v 2))) (.or (.or (.lt (.v 12) (.c 1)) (.lt (.c 64) (.v 12))) (.or (.or (.lt (.v 13) (.c 256)) (.lt (.c 4096) (.v 13))) (.or (.or (.lt (.v 14) (.c 1)) (.lt (.c 64) (.v 14))) (.or (.or (.lt (.v 15) (.c 1)) (.lt (.c 64) (.v 15))) (.or (.or (.lt (.v 3) (.c (-256))) (.lt (.c 256) (.v 3))) (.or (.or (.lt (.v 4) (.c (-256))) (.lt (.c 256) (.v 4))) (.or (.or (.lt (.v 5) (.c (-256))) (.lt (.c 256) (.v 5))) (.or (.or (.lt (.v 6) (.c (-256))) (.lt (.c 256) (.v 6))) (.or (.or (.lt (.v 7) (.c (-256))) (.lt (.c 256) (.v 7))) (.or (.or (.lt (.v 8) (.c (-256))) (.lt (.c 256) (.v 8))) (.or (.or (.lt (.v 9) (.c (-256))) (.lt (.c 256) (.v 9))) (.or (.or (.lt (.v 10) (.c (-256))) (.lt (.c 256) (.v 10))) (.or (.lt (.v 11) (.c (-256))) (.lt (.c 256) (.v 11)))))))))))))))))) (.ret [(.c 0),(.c 0),(.c 0),(.c 0),(.c 0),(.c 150)])
(.ite (.or (.or (.lt (.v 16) (.c (-32768))) (.lt (.c 32768) (.v 16))) (.or (.or (.lt (.v 17) (.c (-32768))) (.lt (.c 32768) (.v 17))) (.or (.or (.lt (.v 18) (.c (-32768))) (.lt (.c 32768) (.v 18))) (.or (.or (.lt (.v 19) (.c 0)) (.lt (.c 255) (.v 19))) (.or (.lt (.v 20) (.c 0)) (.lt (.c 255) (.v 20))))))) (.ret [(.c 0),(.c 0),(.c 0),(.c 0),(.c 0),(.c 8)])
(.ite (.lt (.v 18) (.v 13)) (.ret [(.c 0),(.c 0),(.c 0),(.c 0),(.c 0),(.c 6)])
(.callp 0 [(.mul (.mul (.c 8) (.v 12)) (.v 16)),(.v 18)] (.callp 0 [(.mul (.mul (.c 8) (.v 12)) (.v 17)),(.v 18)] (.ret [(.add (.v 21) (.mul (.c 4) (.v 14))),(.sub (.mul (.c 4) (.v 15)) (.v 23)),(.quo (.c 16777216) (.v 18)),(.v 19),(.v 20),(.c 0)]))))))
theorem Zt0:Z17 (Zu [] Zwr [] Z47 (Zx Try.prog Zbe gl0 Z8q 1000 85 [An 16,An 5] [An 5,I1]))=Zel:=by kernel_rfl
theorem Z16r:Gok Try.prog Z8q:=(fix.one Zc5)
theorem Z16s:Zr Z8q Zwr:=(Z3 Z9k Za)
theorem Z11h:Z4q.ok Try.prog:=Sum.okF facts.mixed Z16r Z16s Zt0 rfl (fun _=>rfl) (by
 intro xs hx hp
 obtain ⟨a0,a1,a2,a3,a4,a5,a6,a7,a8,a9,a10,a11,a12,a13,a14,a15,a16,a17,a18,a19,a20,rfl⟩:=len21 hx
 by_cases hc0:Z4g [a0,a1,a2,a3,a4,a5,a6,a7,a8,a9,a10,a11,a12,a13,a14,a15,a16,a17,a18,a19,a20] 0=true
 ·by_cases hc1:Zz [a0,a1,a2,a3,a4,a5,a6,a7,a8,a9,a10,a11,a12,a13,a14,a15,a16,a17,a18,a19,a20] 16=true
  ·by_cases hc2:¬ a18 < a13
   ·have hd0:=hc0
    try simp only [Z4g,Z66,Z11,Z18r,Zt,Zz,Ze,TX.sat,XB.prop,X.den,Z18k,Z18l,Z18e,Z18f,Z18i,Z18j,Z18g,Z18h,mkS,mkP,and_true,true_and,Z18p,Z18q,not_or,not_and,Z18m,ne_eq,Z18n,Z18o,Nat.reduceAdd,Nat.zero_add] at hd0
    have hd1:=hc1
    try simp only [Z4g,Z66,Z11,Z18r,Zt,Zz,Ze,TX.sat,XB.prop,X.den,Z18k,Z18l,Z18e,Z18f,Z18i,Z18j,Z18g,Z18h,mkS,mkP,and_true,true_and,Z18p,Z18q,not_or,not_and,Z18m,ne_eq,Z18n,Z18o,Nat.reduceAdd,Nat.zero_add] at hd1
    have hd2:=hc2
    try simp only [Z4g,Z66,Z11,Z18r,Zt,Zz,Ze,TX.sat,XB.prop,X.den,Z18k,Z18l,Z18e,Z18f,Z18i,Z18j,Z18g,Z18h,mkS,mkP,and_true,true_and,Z18p,Z18q,not_or,not_and,Z18m,ne_eq,Z18n,Z18o,Nat.reduceAdd,Nat.zero_add] at hd2
    simp only [Zel,Z8q,Z1u,TX.sat,XB.prop,X.den,Z18k,Z18l,Z18e,Z18f,Z18i,Z18j,Z18g,Z18h,mkS,mkP,and_true,true_and,Z18p,Z18q,not_or,not_and,Z18m,ne_eq,Z18n,Z18o,Z1h,Z6t,Z86,hc0,hc1,hc2,ex3,ex4,ex5,ex6,Zkx,Zbk,er,b01,Ze,if_true,if_false,reduceIte,Bool.false_eq_true,Nat.reduceAdd,Nat.zero_add]
    clear hc0 hc1 hc2
    repeat' first | exact trivial | refine And.intro ?_ ?_ | intro _
    all_goals first | trivial | rfl | omega | (simp [Int.max_comm,Int.min_comm]; done) | (simp only [List.cons.injEq,and_true,true_and]; omega) | (split <;> first | trivial | rfl | omega)
   ·have hd0:=hc0
    try simp only [Z4g,Z66,Z11,Z18r,Zt,Zz,Ze,TX.sat,XB.prop,X.den,Z18k,Z18l,Z18e,Z18f,Z18i,Z18j,Z18g,Z18h,mkS,mkP,and_true,true_and,Z18p,Z18q,not_or,not_and,Z18m,ne_eq,Z18n,Z18o,Nat.reduceAdd,Nat.zero_add] at hd0
    have hd1:=hc1
    try simp only [Z4g,Z66,Z11,Z18r,Zt,Zz,Ze,TX.sat,XB.prop,X.den,Z18k,Z18l,Z18e,Z18f,Z18i,Z18j,Z18g,Z18h,mkS,mkP,and_true,true_and,Z18p,Z18q,not_or,not_and,Z18m,ne_eq,Z18n,Z18o,Nat.reduceAdd,Nat.zero_add] at hd1
    have hd2:=hc2
    try simp only [Z4g,Z66,Z11,Z18r,Zt,Zz,Ze,TX.sat,XB.prop,X.den,Z18k,Z18l,Z18e,Z18f,Z18i,Z18j,Z18g,Z18h,mkS,mkP,and_true,true_and,Z18p,Z18q,not_or,not_and,Z18m,ne_eq,Z18n,Z18o,Nat.reduceAdd,Nat.zero_add] at hd2
    simp only [Zel,Z8q,Z1u,TX.sat,XB.prop,X.den,Z18k,Z18l,Z18e,Z18f,Z18i,Z18j,Z18g,Z18h,mkS,mkP,and_true,true_and,Z18p,Z18q,not_or,not_and,Z18m,ne_eq,Z18n,Z18o,Z1h,Z6t,Z86,hc0,hc1,hc2,ex3,ex4,ex5,ex6,Zkx,Zbk,er,b01,Ze,if_true,if_false,reduceIte,Bool.false_eq_true,Nat.reduceAdd,Nat.zero_add]
    clear hc0 hc1 hc2
    repeat' first | exact trivial | refine And.intro ?_ ?_ | intro _
    all_goals first | trivial | rfl | omega | (simp [Int.max_comm,Int.min_comm]; done) | (simp only [List.cons.injEq,and_true,true_and]; omega) | (split <;> first | trivial | rfl | omega)
  ·have hd0:=hc0
   try simp only [Z4g,Z66,Z11,Z18r,Zt,Zz,Ze,TX.sat,XB.prop,X.den,Z18k,Z18l,Z18e,Z18f,Z18i,Z18j,Z18g,Z18h,mkS,mkP,and_true,true_and,Z18p,Z18q,not_or,not_and,Z18m,ne_eq,Z18n,Z18o,Nat.reduceAdd,Nat.zero_add] at hd0
   have hd1:=hc1
   try simp only [Z4g,Z66,Z11,Z18r,Zt,Zz,Ze,TX.sat,XB.prop,X.den,Z18k,Z18l,Z18e,Z18f,Z18i,Z18j,Z18g,Z18h,mkS,mkP,and_true,true_and,Z18p,Z18q,not_or,not_and,Z18m,ne_eq,Z18n,Z18o,Nat.reduceAdd,Nat.zero_add] at hd1
   simp only [Zel,Z8q,Z1u,TX.sat,XB.prop,X.den,Z18k,Z18l,Z18e,Z18f,Z18i,Z18j,Z18g,Z18h,mkS,mkP,and_true,true_and,Z18p,Z18q,not_or,not_and,Z18m,ne_eq,Z18n,Z18o,Z1h,Z6t,Z86,hc0,hc1,ex3,ex4,ex5,ex6,Zkx,Zbk,er,b01,Ze,if_true,if_false,reduceIte,Bool.false_eq_true,Nat.reduceAdd,Nat.zero_add]
   clear hc0 hc1
   repeat' first | exact trivial | refine And.intro ?_ ?_ | intro _
   all_goals first | trivial | rfl | omega | (simp [Int.max_comm,Int.min_comm]; done) | (simp only [List.cons.injEq,and_true,true_and]; omega) | (split <;> first | trivial | rfl | omega)
 ·have hd0:=hc0
  try simp only [Z4g,Z66,Z11,Z18r,Zt,Zz,Ze,TX.sat,XB.prop,X.den,Z18k,Z18l,Z18e,Z18f,Z18i,Z18j,Z18g,Z18h,mkS,mkP,and_true,true_and,Z18p,Z18q,not_or,not_and,Z18m,ne_eq,Z18n,Z18o,Nat.reduceAdd,Nat.zero_add] at hd0
  simp only [Zel,Z8q,Z1u,TX.sat,XB.prop,X.den,Z18k,Z18l,Z18e,Z18f,Z18i,Z18j,Z18g,Z18h,mkS,mkP,and_true,true_and,Z18p,Z18q,not_or,not_and,Z18m,ne_eq,Z18n,Z18o,Z1h,Z6t,Z86,hc0,ex3,ex4,ex5,ex6,Zkx,Zbk,er,b01,Ze,if_true,if_false,reduceIte,Bool.false_eq_true,Nat.reduceAdd,Nat.zero_add]
  clear hc0
  repeat' first | exact trivial | refine And.intro ?_ ?_ | intro _
  all_goals first | trivial | rfl | omega | (simp [Int.max_comm,Int.min_comm]; done) | (simp only [List.cons.injEq,and_true,true_and]; omega) | (split <;> first | trivial | rfl | omega))
theorem Z11i {x:List Int} (h:Zz x 16=true):(-32768≤x.getD 16 0∧x.getD 16 0≤32768)∧(-32768≤x.getD 17 0∧x.getD 17 0≤32768)∧(-32768≤x.getD 18 0∧x.getD 18 0≤32768)∧(0≤x.getD 19 0∧x.getD 19 0≤255)∧(0≤x.getD 20 0∧x.getD 20 0≤255):=by
 simp only [Zz,Z18r,Zt,Ze,Nat.reduceAdd] at h
 exact ⟨h.1.1,h.1.2.1,h.1.2.2,h.2.1,h.2.2⟩
theorem Z6y:Z1i Z4q Zw6:=⟨fun _ h=>h,fun vs xs h hp=>by
 show Zq (ivs 2 (-65792) 65792++[iv 0 65536]++ivs 2 0 255++[iv 0 150]) (ex6 (Z86 xs))
 have z:∀ e:Int,0≤e→e≤150→Zq (ivs 2 (-65792) 65792++[iv 0 65536]++ivs 2 0 255++[iv 0 150]) (ex6 [0,0,0,0,0,e]):=fun e h1 h2 =>
  Z1 (Zc.2 (by simp)) (Z1 (Zc.2 (by simp)) (Z1 (Zc.2 (by simp)) (Z1 (Zc.2 (by simp)) (Z1 (Zc.2 (by simp)) (Z1 ⟨h1,h2⟩ Z2)))))
 unfold Z86
 split
 ·rename_i hc
  split
  ·rename_i hpt
   split
   ·exact z 6 (by omega) (by omega)
   ·rename_i hz
    obtain ⟨k1,k2,k3,k4⟩:=Z9m hc
    obtain ⟨j1,j2,j3,j4,j5⟩:=Z11i hpt
    have m1:=Zky (f:=xs.getD 12 0) (z:=xs.getD 18 0) (by omega) j1 (by omega)
    have m2:=Zky (f:=xs.getD 12 0) (z:=xs.getD 18 0) (by omega) j2 (by omega)
    have m3:0≤(16777216:Int).tdiv (xs.getD 18 0)∧(16777216:Int).tdiv (xs.getD 18 0)≤65536:=by
     rw [Z10s (by omega) (by omega)]
     constructor
     ·rw [Int.le_ediv_iff_mul_le (by omega)]; omega
     ·apply Int.ediv_le_of_le_mul (by omega); omega
    have w1:-65792≤8 * xs.getD 12 0 * xs.getD 16 0 / xs.getD 18 0 + 4 * xs.getD 14 0∧8 * xs.getD 12 0 * xs.getD 16 0 / xs.getD 18 0 + 4 * xs.getD 14 0≤65792:=by omega
    have w2:-65792≤4 * xs.getD 15 0 - 8 * xs.getD 12 0 * xs.getD 17 0 / xs.getD 18 0∧4 * xs.getD 15 0 - 8 * xs.getD 12 0 * xs.getD 17 0 / xs.getD 18 0≤65792:=by omega
    exact Z1 w1 (Z1 w2 (Z1 m3 (Z1 j4 (Z1 j5 (Z1 (Zc.2 (by simp)) Z2)))))
  ·exact z 8 (by omega) (by omega)
 ·exact z 150 (by omega) (by omega)⟩
noncomputable def Zlg:List Sum:=[]
def Z14c:List Inf:=[]
def Zws:TX:=(.ite (.or (.or (.lt (.v 0) (.c (-131072))) (.lt (.c 131072) (.v 0))) (.or (.or (.lt (.v 1) (.c (-131072))) (.lt (.c 131072) (.v 1))) (.or (.or (.lt (.v 2) (.c 1)) (.lt (.c 65536) (.v 2))) (.or (.or (.lt (.v 3) (.c 0)) (.lt (.c 255) (.v 3))) (.or (.or (.lt (.v 4) (.c 0)) (.lt (.c 255) (.v 4))) (.or (.or (.lt (.v 5) (.c (-131072))) (.lt (.c 131072) (.v 5))) (.or (.or (.lt (.v 6) (.c (-131072))) (.lt (.c 131072) (.v 6))) (.or (.or (.lt (.v 7) (.c 1)) (.lt (.c 65536) (.v 7))) (.or (.or (.lt (.v 8) (.c 0)) (.lt (.c 255) (.v 8))) (.or (.or (.lt (.v 9) (.c 0)) (.lt (.c 255) (.v 9))) (.or (.or (.lt (.v 10) (.c (-131072))) (.lt (.c 131072) (.v 10))) (.or (.or (.lt (.v 11) (.c (-131072))) (.lt (.c 131072) (.v 11))) (.or (.or (.lt (.v 12) (.c 1)) (.lt (.c 65536) (.v 12))) (.or (.or (.lt (.v 13) (.c 0)) (.lt (.c 255) (.v 13))) (.or (.lt (.v 14) (.c 0)) (.lt (.c 255) (.v 14))))))))))))))))) (.ret [(.c 0),(.c 8)])
(.ret [(.sub (.mul (.sub (.v 5) (.v 0)) (.sub (.v 11) (.v 1))) (.mul (.sub (.v 10) (.v 0)) (.sub (.v 6) (.v 1)))),(.c 0)]))
theorem Zwt:Z17 (Zu [] Z14c [] Zhx (Zx Try.prog Zbe gl0 Zlg 1000 113 [An 15] [I1,I1]))=Zws:=by kernel_rfl
theorem g_area:Gok Try.prog Zlg:=noG
theorem o_area:Zr Zlg Z14c:=Za
theorem Zwu:Zgl.ok Try.prog:=Sum.okF facts.mixed g_area o_area Zwt rfl (fun _=>rfl) (by
 intro xs hx hp
 obtain ⟨a0,a1,a2,a3,a4,a5,a6,a7,a8,a9,a10,a11,a12,a13,a14,rfl⟩:=Z166 hx
 by_cases hc0:Z7p [a0,a1,a2,a3,a4,a5,a6,a7,a8,a9,a10,a11,a12,a13,a14]=true
 ·have hd0:=hc0
  try simp only [Z7p,Z18r,Z14,TX.sat,XB.prop,X.den,Z18k,Z18l,Z18e,Z18f,Z18i,Z18j,Z18g,Z18h,mkS,mkP,and_true,true_and,Z18p,Z18q,not_or,not_and,Z18m,ne_eq,Z18n,Z18o,Nat.reduceAdd,Nat.zero_add] at hd0
  simp only [Zws,Zlg,TX.sat,XB.prop,X.den,Z18k,Z18l,Z18e,Z18f,Z18i,Z18j,Z18g,Z18h,mkS,mkP,and_true,true_and,Z18p,Z18q,not_or,not_and,Z18m,ne_eq,Z18n,Z18o,Z19,Z9o,Zhw,hc0,ex3,ex4,ex5,ex6,Zkx,Zbk,er,b01,Ze,if_true,if_false,reduceIte,Bool.false_eq_true,Nat.reduceAdd,Nat.zero_add]
  clear hc0
  repeat' first | exact trivial | refine And.intro ?_ ?_ | intro _
  all_goals first | trivial | rfl | omega | (simp [Int.max_comm,Int.min_comm]; done) | (simp only [List.cons.injEq,and_true,true_and]; omega) | (split <;> first | trivial | rfl | omega)
 ·have hd0:=hc0
  try simp only [Z7p,Z18r,Z14,TX.sat,XB.prop,X.den,Z18k,Z18l,Z18e,Z18f,Z18i,Z18j,Z18g,Z18h,mkS,mkP,and_true,true_and,Z18p,Z18q,not_or,not_and,Z18m,ne_eq,Z18n,Z18o,Nat.reduceAdd,Nat.zero_add] at hd0
  simp only [Zws,Zlg,TX.sat,XB.prop,X.den,Z18k,Z18l,Z18e,Z18f,Z18i,Z18j,Z18g,Z18h,mkS,mkP,and_true,true_and,Z18p,Z18q,not_or,not_and,Z18m,ne_eq,Z18n,Z18o,Z19,Z9o,Zhw,hc0,ex3,ex4,ex5,ex6,Zkx,Zbk,er,b01,Ze,if_true,if_false,reduceIte,Bool.false_eq_true,Nat.reduceAdd,Nat.zero_add]
  clear hc0
  repeat' first | exact trivial | refine And.intro ?_ ?_ | intro _
  all_goals first | trivial | rfl | omega | (simp [Int.max_comm,Int.min_comm]; done) | (simp only [List.cons.injEq,and_true,true_and]; omega) | (split <;> first | trivial | rfl | omega))
theorem Zqa {x:List Int} (h:Z7p x=true):-137438953472≤Z19 x∧Z19 x≤137438953472:=by
 simp only [Z7p,Z18r,Z14,Nat.reduceAdd,Nat.zero_add] at h
 have k1:=Z28 (x:=x.getD 5 0 - x.getD 0 0) (y:=x.getD 11 0 - x.getD 1 0) (m:=262144) (n:=262144) (by omega) (by omega)
 have k2:=Z28 (x:=x.getD 10 0 - x.getD 0 0) (y:=x.getD 6 0 - x.getD 1 0) (m:=262144) (n:=262144) (by omega) (by omega)
 unfold Z19
 omega
theorem Zqb:Z1i Zgl Zw1:=⟨fun _ h=>h,fun vs xs h hp=>by
 show Zq [iv (-137438953472) 137438953472,iv 0 8] [(Zhw xs).getD 0 0,(Zhw xs).getD 1 0]
 unfold Zhw
 split
 ·rename_i hc
  exact Z1 (Zc.2 (Zqa hc)) (Z1 (Zc.2 (by simp)) Z2)
 ·exact Z1 (Zc.2 (by simp)) (Z1 (Zc.2 (by simp)) Z2)⟩
noncomputable def Zik:List Sum:=[Zgl]
def Zwv:List Inf:=[Zw1]
def Zww:TX:=(.callp 0 [(.v 0),(.v 1),(.v 2),(.v 3),(.v 4),(.v 5),(.v 6),(.v 7),(.v 8),(.v 9),(.v 10),(.v 11),(.v 12),(.v 13),(.v 14)] (.ite (.not (.eq (.v 17) (.c 0))) (.ret [(.c 0),(.v 17)])
(.ite (.eq (.v 15) (.c 0)) (.ite (.not (.eq (.v 16) (.c 0))) (.ret [(.c 1),(.c 0)])
(.ret [(.c 0),(.c 0)]))
(.ite (.eq (.v 15) (.c 1)) (.ite (.lt (.c 0) (.v 16)) (.ret [(.c 1),(.c 0)])
(.ret [(.c 0),(.c 0)]))
(.ite (.not (.eq (.v 15) (.c 2))) (.ret [(.c 0),(.c 2)])
(.ite (.lt (.v 16) (.c 0)) (.ret [(.c 1),(.c 0)])
(.ret [(.c 0),(.c 0)])))))))
theorem Zt1:Z17 (Zu [] Zwv [] Zed (Zx Try.prog Zbe gl0 Zik 1000 86 [An 15,U8] [Bo,I1]))=Zww:=by kernel_rfl
theorem Z16t:Gok Try.prog Zik:=(fix.one Zwu)
theorem Z16u:Zr Zik Zwv:=(Z3 Zqb Za)
theorem Z11j:Zee.ok Try.prog:=Sum.okF facts.mixed Z16t Z16u Zt1 rfl (fun _=>rfl) (by
 intro xs hx hp
 obtain ⟨a0,a1,a2,a3,a4,a5,a6,a7,a8,a9,a10,a11,a12,a13,a14,a15,rfl⟩:=Znc hx
 have e1:Z7p [a0,a1,a2,a3,a4,a5,a6,a7,a8,a9,a10,a11,a12,a13,a14,a15]=Z7p [a0,a1,a2,a3,a4,a5,a6,a7,a8,a9,a10,a11,a12,a13,a14]:=rfl
 have e2:Z19 [a0,a1,a2,a3,a4,a5,a6,a7,a8,a9,a10,a11,a12,a13,a14,a15]=Z19 [a0,a1,a2,a3,a4,a5,a6,a7,a8,a9,a10,a11,a12,a13,a14]:=rfl
 simp only [Zww,Zik,Zgl,TX.sat,XB.prop,X.den,Z18k,Z18l,Z18e,Z18f,Z18i,Z18j,Z18g,Z18h,mkS,mkP,and_true,true_and,Z18p,Z18q,not_or,not_and,Z18m,ne_eq,Z18n,Z18o,Z9o,Zhw,Zl1,Z4m,e1,e2]
 generalize Z19 _=n
 clear hp hx e1 e2
 cases Z7p _ with
 | true =>
  rcases (by omega:n < 0∨n=0∨0 < n) with hn | hn | hn <;> rcases (by omega:a15=0∨a15=1∨a15=2∨(a15 ≠ 0∧a15 ≠ 1∧a15 ≠ 2)) with hk | hk | hk | ⟨hk0,hk1,hk2⟩ <;> simp [*,b01] <;> omega
 | false=>simp)
theorem Zwx:Z1i Zee Zw3:=⟨fun _ h=>h,fun vs xs h hp=>by
 show Zq [iv 0 1,iv 0 8] [(Z4m xs).getD 0 0,(Z4m xs).getD 1 0]
 unfold Z4m
 repeat' split
 ·exact Z1 (Zgj _) (Z1 (Zc.2 (by simp)) Z2)
 ·exact Z1 (Zgj _) (Z1 (Zc.2 (by simp)) Z2)
 ·exact Z1 (Zgj _) (Z1 (Zc.2 (by simp)) Z2)
 ·exact Z1 (Zc.2 (by simp)) (Z1 (Zc.2 (by simp)) Z2)
 ·exact Z1 (Zc.2 (by simp)) (Z1 (Zc.2 (by simp)) Z2)⟩
noncomputable def Zil:List Sum:=[Zgl]
def Zwy:List Inf:=[Zw1]
def Zwz:TX:=(.callp 0 [(.v 0),(.v 1),(.v 2),(.v 3),(.v 4),(.v 5),(.v 6),(.v 7),(.v 8),(.v 9),(.v 10),(.v 11),(.v 12),(.v 13),(.v 14)] (.ite (.not (.eq (.v 16) (.c 0))) (.ret [(.c 0),(.c 0),(.c 0),(.c 0),(.c 0),(.c 0),(.c 0),(.c 0),(.c 0),(.c 0),(.c 0),(.c 0),(.c 0),(.c 0),(.c 0),(.v 16)])
(.ite (.eq (.v 15) (.c 0)) (.ret [(.c 0),(.c 0),(.c 0),(.c 0),(.c 0),(.c 0),(.c 0),(.c 0),(.c 0),(.c 0),(.c 0),(.c 0),(.c 0),(.c 0),(.c 0),(.c 6)])
(.ite (.lt (.v 15) (.c 0)) (.ret [(.v 0),(.v 1),(.v 2),(.v 3),(.v 4),(.v 10),(.v 11),(.v 12),(.v 13),(.v 14),(.v 5),(.v 6),(.v 7),(.v 8),(.v 9),(.c 0)])
(.ret [(.v 0),(.v 1),(.v 2),(.v 3),(.v 4),(.v 5),(.v 6),(.v 7),(.v 8),(.v 9),(.v 10),(.v 11),(.v 12),(.v 13),(.v 14),(.c 0)])))))
theorem Zt2:Z17 (Zu [] Zwy [] Z9q (Zx Try.prog Zbe gl0 Zil 1000 87 [An 15] [An 15,I1]))=Zwz:=by kernel_rfl
theorem Z16v:Gok Try.prog Zil:=(fix.one Zwu)
theorem Z16w:Zr Zil Zwy:=(Z3 Zqb Za)
theorem Z11k:Zhy.ok Try.prog:=Sum.okF facts.mixed Z16v Z16w Zt2 rfl (fun _=>rfl) (by
 intro xs hx hp
 obtain ⟨a0,a1,a2,a3,a4,a5,a6,a7,a8,a9,a10,a11,a12,a13,a14,rfl⟩:=Z166 hx
 simp only [Zwz,Zil,Zgl,TX.sat,XB.prop,X.den,Z18k,Z18l,Z18e,Z18f,Z18i,Z18j,Z18g,Z18h,mkS,mkP,and_true,true_and,Z18p,Z18q,not_or,not_and,Z18m,ne_eq,Z18n,Z18o,Z9o,Zhw,Zl2,Z9p]
 generalize Z19 _=n
 clear hp hx
 cases Z7p _ with
 | true =>
  rcases (by omega:n < 0∨n=0∨0 < n) with hn | hn | hn
  ·have h0:n ≠ 0:=by omega
   have h1:¬ 0≤n:=by omega
   simp [hn,h0,h1,z16,idT,Zw4,Zbk]
  ·simp [hn,z16,idT,Zw4,Zbk]
  ·have h0:n ≠ 0:=by omega
   have h1:¬ n < 0:=by omega
   simp [h0,h1,z16,idT,Zw4,Zbk]
 | false=>simp [z16,Zbk])
theorem Zx0 {x:List Int} (h:Z7p x=true):Zq (ivs 2 (-131072) 131072++[iv 0 65536]++ivs 2 0 255) [x.getD 0 0,x.getD 1 0,x.getD 2 0,x.getD 3 0,x.getD 4 0] ∧
  Zq (ivs 2 (-131072) 131072++[iv 0 65536]++ivs 2 0 255) [x.getD 5 0,x.getD 6 0,x.getD 7 0,x.getD 8 0,x.getD 9 0] ∧
  Zq (ivs 2 (-131072) 131072++[iv 0 65536]++ivs 2 0 255) [x.getD 10 0,x.getD 11 0,x.getD 12 0,x.getD 13 0,x.getD 14 0]:=by
 simp only [Z7p,Z18r,Z14,Nat.reduceAdd,Nat.zero_add] at h
 obtain ⟨⟨h0,h1,h2,h3,h4⟩,⟨h5,h6,h7,h8,h9⟩,h10,h11,h12,h13,h14⟩:=h
 exact ⟨Z1 h0 (Z1 h1 (Z1 ⟨by show 0≤x.getD 2 0; omega,h2.2⟩ (Z1 h3 (Z1 h4 Z2)))),Z1 h5 (Z1 h6 (Z1 ⟨by show 0≤x.getD 7 0; omega,h7.2⟩ (Z1 h8 (Z1 h9 Z2)))),
  Z1 h10 (Z1 h11 (Z1 ⟨by show 0≤x.getD 12 0; omega,h12.2⟩ (Z1 h13 (Z1 h14 Z2))))⟩
theorem Zx1 (e:Int) (h1:0≤e) (h2:e≤8):Zq (Zef []) (Zbk (z16 e)):=by
 refine Z1 (Zc.2 ?_) (Z1 (Zc.2 ?_) (Z1 (Zc.2 ?_) (Z1 (Zc.2 ?_) (Z1 (Zc.2 ?_) (Z1 (Zc.2 ?_) (Z1 (Zc.2 ?_) (Z1 (Zc.2 ?_) (Z1 (Zc.2 ?_) (Z1 (Zc.2 ?_) (Z1 (Zc.2 ?_) (Z1 (Zc.2 ?_) (Z1 (Zc.2 ?_) (Z1 (Zc.2 ?_) (Z1 (Zc.2 ?_) (Z1 ⟨h1,h2⟩ Z2))))))))))))))) <;> simp [z16]
theorem Zlh:Z1i Zhy Zw5:=⟨fun _ h=>h,fun vs xs h hp=>by
 show Zq (Zef []) (Zbk (Z9p xs))
 unfold Z9p
 split
 ·rename_i hc
  obtain ⟨t1,t2,t3⟩:=Zx0 hc
  split
  ·exact Zx1 6 (by omega) (by omega)
  ·split
   ·exact Zw (Zw (Zw t1 t3) t2) (Z1 (Zc.2 (by simp [Zw4])) Z2)
   ·exact Zw (Zw (Zw t1 t2) t3) (Z1 (Zc.2 (by simp [idT])) Z2)
 ·exact Zx1 8 (by omega) (by omega)⟩
theorem Z1y {x:List Int} {o:Nat}:pixB x o=true↔(0≤x.getD o 0∧x.getD o 0 < 64∧0≤x.getD (o + 1) 0∧x.getD (o + 1) 0 < 64):=decide_eq_true_iff
theorem Zx2 {x:List Int} {a b p:Nat} (ha:Zsq x a=true) (hb:Zsq x b=true) (hp:pixB x p=true):-137438953472≤wgt x a b p∧wgt x a b p≤137438953472:=by
 rw [Z14] at ha hb
 rw [Z1y] at hp
 have k1:=Z28 (x:=x.getD b 0 - x.getD a 0) (y:=8 * x.getD (p + 1) 0 + 4 - x.getD (a + 1) 0) (m:=262144) (n:=262144) (by omega) (by omega)
 have k2:=Z28 (x:=8 * x.getD p 0 + 4 - x.getD a 0) (y:=x.getD (b + 1) 0 - x.getD (a + 1) 0) (m:=262144) (n:=262144) (by omega) (by omega)
 unfold wgt
 omega
noncomputable def Z8r:List Sum:=[]
def Zx3:List Inf:=[]
def Zem:TX:=(.ite (.or (.or (.lt (.v 0) (.c (-131072))) (.lt (.c 131072) (.v 0))) (.or (.or (.lt (.v 1) (.c (-131072))) (.lt (.c 131072) (.v 1))) (.or (.or (.lt (.v 2) (.c 1)) (.lt (.c 65536) (.v 2))) (.or (.or (.lt (.v 3) (.c 0)) (.lt (.c 255) (.v 3))) (.or (.or (.lt (.v 4) (.c 0)) (.lt (.c 255) (.v 4))) (.or (.or (.lt (.v 5) (.c (-131072))) (.lt (.c 131072) (.v 5))) (.or (.or (.lt (.v 6) (.c (-131072))) (.lt (.c 131072) (.v 6))) (.or (.or (.lt (.v 7) (.c 1)) (.lt (.c 65536) (.v 7))) (.or (.or (.lt (.v 8) (.c 0)) (.lt (.c 255) (.v 8))) (.or (.or (.lt (.v 9) (.c 0)) (.lt (.c 255) (.v 9))) (.or (.or (.lt (.v 10) (.c (-131072))) (.lt (.c 131072) (.v 10))) (.or (.or (.lt (.v 11) (.c (-131072))) (.lt (.c 131072) (.v 11))) (.or (.or (.lt (.v 12) (.c 1)) (.lt (.c 65536) (.v 12))) (.or (.or (.lt (.v 13) (.c 0)) (.lt (.c 255) (.v 13))) (.or (.lt (.v 14) (.c 0)) (.lt (.c 255) (.v 14))))))))))))))))) (.ret [(.c 0),(.c 0),(.c 0),(.c 8)])
(.ite (.le (.sub (.mul (.sub (.v 5) (.v 0)) (.sub (.v 11) (.v 1))) (.mul (.sub (.v 10) (.v 0)) (.sub (.v 6) (.v 1)))) (.c 0)) (.ret [(.c 0),(.c 0),(.c 0),(.c 6)])
(.ite (.or (.lt (.mn (.v 15) (.v 16)) (.c 0)) (.le (.c 64) (.mx (.v 15) (.v 16)))) (.ret [(.c 0),(.c 0),(.c 0),(.c 2)])
(.ret [(.sub (.mul (.sub (.v 10) (.v 5)) (.sub (.add (.mul (.c 8) (.v 16)) (.c 4)) (.v 6))) (.mul (.sub (.add (.mul (.c 8) (.v 15)) (.c 4)) (.v 5)) (.sub (.v 11) (.v 6)))),(.sub (.mul (.sub (.v 0) (.v 10)) (.sub (.add (.mul (.c 8) (.v 16)) (.c 4)) (.v 11))) (.mul (.sub (.add (.mul (.c 8) (.v 15)) (.c 4)) (.v 10)) (.sub (.v 1) (.v 11)))),(.sub (.mul (.sub (.v 5) (.v 0)) (.sub (.add (.mul (.c 8) (.v 16)) (.c 4)) (.v 1))) (.mul (.sub (.add (.mul (.c 8) (.v 15)) (.c 4)) (.v 0)) (.sub (.v 6) (.v 1)))),(.c 0)]))))
theorem Zt3:Z17 (Zu [] Zx3 [] Zeg (Zx Try.prog Zbe gl0 Z8r 1000 115 [An 15,I1,I1] [An 3,I1]))=Zem:=by kernel_rfl
theorem Z16x:Gok Try.prog Z8r:=noG
theorem Z16y:Zr Z8r Zx3:=Za
theorem Z11l:Zhz.ok Try.prog:=Sum.okF facts.mixed Z16x Z16y Zt3 rfl (fun _=>rfl) (by
 intro xs hx hp
 obtain ⟨a0,a1,a2,a3,a4,a5,a6,a7,a8,a9,a10,a11,a12,a13,a14,a15,a16,rfl⟩:=Z167 hx
 by_cases hc0:Z7p [a0,a1,a2,a3,a4,a5,a6,a7,a8,a9,a10,a11,a12,a13,a14,a15,a16]=true
 ·by_cases hc1:0 < (a5 - a0) * (a11 - a1) - (a10 - a0) * (a6 - a1)
  ·by_cases hc2:pixB [a0,a1,a2,a3,a4,a5,a6,a7,a8,a9,a10,a11,a12,a13,a14,a15,a16] 15=true
   ·have hd0:=hc0
    try simp only [Z7p,Z18r,Z14,Z1y,TX.sat,XB.prop,X.den,Z18k,Z18l,Z18e,Z18f,Z18i,Z18j,Z18g,Z18h,mkS,mkP,and_true,true_and,Z18p,Z18q,not_or,not_and,Z18m,ne_eq,Z18n,Z18o,Nat.reduceAdd,Nat.zero_add] at hd0
    have hd1:=hc1
    try simp only [Z7p,Z18r,Z14,Z1y,TX.sat,XB.prop,X.den,Z18k,Z18l,Z18e,Z18f,Z18i,Z18j,Z18g,Z18h,mkS,mkP,and_true,true_and,Z18p,Z18q,not_or,not_and,Z18m,ne_eq,Z18n,Z18o,Nat.reduceAdd,Nat.zero_add] at hd1
    have hd2:=hc2
    try simp only [Z7p,Z18r,Z14,Z1y,TX.sat,XB.prop,X.den,Z18k,Z18l,Z18e,Z18f,Z18i,Z18j,Z18g,Z18h,mkS,mkP,and_true,true_and,Z18p,Z18q,not_or,not_and,Z18m,ne_eq,Z18n,Z18o,Nat.reduceAdd,Nat.zero_add] at hd2
    simp only [Zem,Z8r,TX.sat,XB.prop,X.den,Z18k,Z18l,Z18e,Z18f,Z18i,Z18j,Z18g,Z18h,mkS,mkP,and_true,true_and,Z18p,Z18q,not_or,not_and,Z18m,ne_eq,Z18n,Z18o,Z48,Z19,wgt,Z56,Z2y,hc0,hc1,hc2,ex3,ex4,ex5,ex6,Zkx,Zbk,er,b01,Ze,if_true,if_false,reduceIte,Bool.false_eq_true,Nat.reduceAdd,Nat.zero_add]
    clear hc0 hc1 hc2
    repeat' first | exact trivial | refine And.intro ?_ ?_ | intro _
    all_goals first | trivial | rfl | omega | (simp [Int.max_comm,Int.min_comm]; done) | (simp only [List.cons.injEq,and_true,true_and]; omega) | (split <;> first | trivial | rfl | omega)
   ·have hd0:=hc0
    try simp only [Z7p,Z18r,Z14,Z1y,TX.sat,XB.prop,X.den,Z18k,Z18l,Z18e,Z18f,Z18i,Z18j,Z18g,Z18h,mkS,mkP,and_true,true_and,Z18p,Z18q,not_or,not_and,Z18m,ne_eq,Z18n,Z18o,Nat.reduceAdd,Nat.zero_add] at hd0
    have hd1:=hc1
    try simp only [Z7p,Z18r,Z14,Z1y,TX.sat,XB.prop,X.den,Z18k,Z18l,Z18e,Z18f,Z18i,Z18j,Z18g,Z18h,mkS,mkP,and_true,true_and,Z18p,Z18q,not_or,not_and,Z18m,ne_eq,Z18n,Z18o,Nat.reduceAdd,Nat.zero_add] at hd1
    have hd2:=hc2
    try simp only [Z7p,Z18r,Z14,Z1y,TX.sat,XB.prop,X.den,Z18k,Z18l,Z18e,Z18f,Z18i,Z18j,Z18g,Z18h,mkS,mkP,and_true,true_and,Z18p,Z18q,not_or,not_and,Z18m,ne_eq,Z18n,Z18o,Nat.reduceAdd,Nat.zero_add] at hd2
    simp only [Zem,Z8r,TX.sat,XB.prop,X.den,Z18k,Z18l,Z18e,Z18f,Z18i,Z18j,Z18g,Z18h,mkS,mkP,and_true,true_and,Z18p,Z18q,not_or,not_and,Z18m,ne_eq,Z18n,Z18o,Z48,Z19,wgt,Z56,Z2y,hc0,hc1,hc2,ex3,ex4,ex5,ex6,Zkx,Zbk,er,b01,Ze,if_true,if_false,reduceIte,Bool.false_eq_true,Nat.reduceAdd,Nat.zero_add]
    clear hc0 hc1 hc2
    repeat' first | exact trivial | refine And.intro ?_ ?_ | intro _
    all_goals first | trivial | rfl | omega | (simp [Int.max_comm,Int.min_comm]; done) | (simp only [List.cons.injEq,and_true,true_and]; omega) | (split <;> first | trivial | rfl | omega)
  ·have hd0:=hc0
   try simp only [Z7p,Z18r,Z14,Z1y,TX.sat,XB.prop,X.den,Z18k,Z18l,Z18e,Z18f,Z18i,Z18j,Z18g,Z18h,mkS,mkP,and_true,true_and,Z18p,Z18q,not_or,not_and,Z18m,ne_eq,Z18n,Z18o,Nat.reduceAdd,Nat.zero_add] at hd0
   have hd1:=hc1
   try simp only [Z7p,Z18r,Z14,Z1y,TX.sat,XB.prop,X.den,Z18k,Z18l,Z18e,Z18f,Z18i,Z18j,Z18g,Z18h,mkS,mkP,and_true,true_and,Z18p,Z18q,not_or,not_and,Z18m,ne_eq,Z18n,Z18o,Nat.reduceAdd,Nat.zero_add] at hd1
   simp only [Zem,Z8r,TX.sat,XB.prop,X.den,Z18k,Z18l,Z18e,Z18f,Z18i,Z18j,Z18g,Z18h,mkS,mkP,and_true,true_and,Z18p,Z18q,not_or,not_and,Z18m,ne_eq,Z18n,Z18o,Z48,Z19,wgt,Z56,Z2y,hc0,hc1,ex3,ex4,ex5,ex6,Zkx,Zbk,er,b01,Ze,if_true,if_false,reduceIte,Bool.false_eq_true,Nat.reduceAdd,Nat.zero_add]
   clear hc0 hc1
   repeat' first | exact trivial | refine And.intro ?_ ?_ | intro _
   all_goals first | trivial | rfl | omega | (simp [Int.max_comm,Int.min_comm]; done) | (simp only [List.cons.injEq,and_true,true_and]; omega) | (split <;> first | trivial | rfl | omega)
 ·have hd0:=hc0
  try simp only [Z7p,Z18r,Z14,Z1y,TX.sat,XB.prop,X.den,Z18k,Z18l,Z18e,Z18f,Z18i,Z18j,Z18g,Z18h,mkS,mkP,and_true,true_and,Z18p,Z18q,not_or,not_and,Z18m,ne_eq,Z18n,Z18o,Nat.reduceAdd,Nat.zero_add] at hd0
  simp only [Zem,Z8r,TX.sat,XB.prop,X.den,Z18k,Z18l,Z18e,Z18f,Z18i,Z18j,Z18g,Z18h,mkS,mkP,and_true,true_and,Z18p,Z18q,not_or,not_and,Z18m,ne_eq,Z18n,Z18o,Z48,Z19,wgt,Z56,Z2y,hc0,ex3,ex4,ex5,ex6,Zkx,Zbk,er,b01,Ze,if_true,if_false,reduceIte,Bool.false_eq_true,Nat.reduceAdd,Nat.zero_add]
  clear hc0
  repeat' first | exact trivial | refine And.intro ?_ ?_ | intro _
  all_goals first | trivial | rfl | omega | (simp [Int.max_comm,Int.min_comm]; done) | (simp only [List.cons.injEq,and_true,true_and]; omega) | (split <;> first | trivial | rfl | omega))
theorem Zen {x:List Int} (h:Z48 x=0):Z7p x=true∧0 < Z19 x:=by
 unfold Z48 at h
 split at h
 ·split at h
  ·rename_i h1 h2; exact ⟨h1,h2⟩
  ·omega
 ·omega
theorem Zim {x:List Int} (h:(Z2y x).getD 3 0=0):Z7p x=true∧0 < Z19 x∧pixB x 15=true∧Z2y x=[wgt x 5 10 15,wgt x 10 0 15,wgt x 0 5 15,0]:=by
 unfold Z2y at h ⊢
 split at h
 ·rename_i he
  rw [if_pos he]
  obtain ⟨h1,h2⟩:=Zen he
  split at h
  ·rename_i hp
   rw [if_pos hp]
   exact ⟨h1,h2,hp,rfl⟩
  ·simp at h
 ·rename_i he
  exact absurd h he
theorem Zeo:Z1i Zhz Zw8:=⟨fun _ h=>h,fun vs xs h hp=>by
 show Zq (ivs 3 (-137438953472) 137438953472++[iv 0 8]) (ex4 (Z2y xs))
 unfold Z2y
 split
 ·rename_i he
  obtain ⟨h1,h2⟩:=Zen he
  split
  ·rename_i hpx
   simp only [Z7p,Z18r] at h1
   exact Z1 (Zc.2 (Zx2 h1.2.1 h1.2.2 hpx)) (Z1 (Zc.2 (Zx2 h1.2.2 h1.1 hpx)) (Z1 (Zc.2 (Zx2 h1.1 h1.2.1 hpx)) (Z1 (Zc.2 (by simp)) Z2)))
  ·exact Z1 (Zc.2 (by simp)) (Z1 (Zc.2 (by simp)) (Z1 (Zc.2 (by simp)) (Z1 (Zc.2 (by simp)) Z2)))
 ·have h8:0≤Z48 xs∧Z48 xs≤8:=by unfold Z48; split; split <;> simp; simp
  exact Z1 (Zc.2 (by simp)) (Z1 (Zc.2 (by simp)) (Z1 (Zc.2 (by simp)) (Z1 h8 Z2)))⟩
noncomputable def Zcc:List Sum:=[Zhz]
def Zqc:List Inf:=[Zw8]
def Zqd:TX:=(.callp 0 [(.v 0),(.v 1),(.v 2),(.v 3),(.v 4),(.v 5),(.v 6),(.v 7),(.v 8),(.v 9),(.v 10),(.v 11),(.v 12),(.v 13),(.v 14),(.v 15),(.v 16)] (.ite (.not (.eq (.v 20) (.c 0))) (.ret [(.c 0),(.v 20)])
(.ite (.or (.or (.lt (.v 17) (.c 0)) (.and (.eq (.v 17) (.c 0)) (.and (.le (.v 6) (.v 11)) (.or (.not (.eq (.v 11) (.v 6))) (.le (.v 10) (.v 5)))))) (.or (.or (.lt (.v 18) (.c 0)) (.and (.eq (.v 18) (.c 0)) (.and (.le (.v 11) (.v 1)) (.or (.not (.eq (.v 1) (.v 11))) (.le (.v 0) (.v 10)))))) (.or (.lt (.v 19) (.c 0)) (.and (.eq (.v 19) (.c 0)) (.and (.le (.v 1) (.v 6)) (.or (.not (.eq (.v 6) (.v 1))) (.le (.v 5) (.v 0)))))))) (.ret [(.c 0),(.c 0)])
(.ret [(.c 1),(.c 0)]))))
theorem Zo0:Z17 (Zu [] Zqc [] Zax (Zx Try.prog Zbe gl0 Zcc 1000 114 [An 15,I1,I1] [Bo,I1]))=Zqd:=by kernel_rfl
theorem Z11m:Gok Try.prog Zcc:=(fix.one Z11l)
theorem Z11n:Zr Zcc Zqc:=(Z3 Zeo Za)
theorem Zqe {x:List Int}:Ztx x=true↔(0 < wgt x 5 10 15∨(wgt x 5 10 15=0∧(x.getD 11 0 < x.getD 6 0∨(x.getD 11 0=x.getD 6 0∧x.getD 5 0 < x.getD 10 0)))) ∧
  (0 < wgt x 10 0 15∨(wgt x 10 0 15=0∧(x.getD 1 0 < x.getD 11 0∨(x.getD 1 0=x.getD 11 0∧x.getD 10 0 < x.getD 0 0)))) ∧
  (0 < wgt x 0 5 15∨(wgt x 0 5 15=0∧(x.getD 6 0 < x.getD 1 0∨(x.getD 6 0=x.getD 1 0∧x.getD 0 0 < x.getD 5 0)))):=by
 simp only [Ztx,Z10w,ownsB,Z18r,Ze,Nat.reduceAdd,Nat.zero_add]
theorem Zx4:Z7q.ok Try.prog:=Sum.okF facts.mixed Z11m Z11n Zo0 rfl (fun _=>rfl) (by
 intro xs hx hp
 obtain ⟨a0,a1,a2,a3,a4,a5,a6,a7,a8,a9,a10,a11,a12,a13,a14,a15,a16,rfl⟩:=Z167 hx
 have hE:=@Zim [a0,a1,a2,a3,a4,a5,a6,a7,a8,a9,a10,a11,a12,a13,a14,a15,a16]
 have hh:=@Zqe [a0,a1,a2,a3,a4,a5,a6,a7,a8,a9,a10,a11,a12,a13,a14,a15,a16]
 simp only [TX.sat,XB.prop,X.den,Z18k,Z18l,Z18e,Z18f,Z18i,Z18j,Z18g,Z18h,mkS,mkP,and_true,true_and,Z18p,Z18q,not_or,not_and,Z18m,ne_eq,Z18n,Z18o] at hh
 simp only [Zqd,Zcc,Zhz,TX.sat,XB.prop,X.den,Z18k,Z18l,Z18e,Z18f,Z18i,Z18j,Z18g,Z18h,mkS,mkP,and_true,true_and,Z18p,Z18q,not_or,not_and,Z18m,ne_eq,Z18n,Z18o,Z56,Z57,Z6u,ex4]
 clear hp hx
 by_cases he:(Z2y [a0,a1,a2,a3,a4,a5,a6,a7,a8,a9,a10,a11,a12,a13,a14,a15,a16]).getD 3 0=0
 ·obtain ⟨_,_,_,hv⟩:=hE he
  rw [hv]
  simp only [TX.sat,XB.prop,X.den,Z18k,Z18l,Z18e,Z18f,Z18i,Z18j,Z18g,Z18h,mkS,mkP,and_true,true_and,Z18p,Z18q,not_or,not_and,Z18m,ne_eq,Z18n,Z18o,if_true,reduceIte]
  generalize wgt _ 5 10 15=w0 at *
  generalize wgt _ 10 0 15=w1 at *
  generalize wgt _ 0 5 15=w2 at *
  refine ⟨fun h=>h.elim,fun _=>⟨fun h=>?_,fun h=>?_⟩⟩
  ·have:Ztx [a0,a1,a2,a3,a4,a5,a6,a7,a8,a9,a10,a11,a12,a13,a14,a15,a16]=false:=by
    rw [← Bool.not_eq_true,hh]; omega
   rw [this]; rfl
  ·have:Ztx [a0,a1,a2,a3,a4,a5,a6,a7,a8,a9,a10,a11,a12,a13,a14,a15,a16]=true:=by
    rw [hh]; omega
   rw [this]; rfl
 ·rw [if_neg he]
  exact ⟨fun _=>rfl,fun h=>absurd h he⟩)
theorem Zt4:Z1i Z7q Zpu:=⟨fun _ h=>h,fun vs xs h hp=>by
 show Zq [iv 0 1,iv 0 8] [(Z6u xs).getD 0 0,(Z6u xs).getD 1 0]
 have h8:=(Zeo.2 vs xs h hp).2 3
 unfold Z6u
 split
 ·exact Z1 (Zgj _) (Z1 (Zc.2 (by simp)) Z2)
 ·exact Z1 (Zc.2 (by simp)) (Z1 h8 Z2)⟩
theorem w_sum (x:List Int):wgt x 5 10 15 + wgt x 10 0 15 + wgt x 0 5 15=Z19 x:=by
 simp only [wgt,Z19,Nat.reduceAdd,Nat.zero_add]
 grind
theorem Zqf {x:List Int} (h:Ztx x=true):0≤wgt x 5 10 15∧0≤wgt x 10 0 15∧0≤wgt x 0 5 15:=by
 rw [Zqe] at h
 omega
theorem Z8s {w d m n:Int} (hw:0≤w) (h1:m≤d) (h2:d≤n):w * m≤w * d∧w * d≤w * n :=
 ⟨Int.mul_le_mul_of_nonneg_left h1 hw,Int.mul_le_mul_of_nonneg_left h2 hw⟩
theorem Zx5 {w0 w1 w2 d0 d1 d2 m n:Int} (h0:0≤w0) (h1:0≤w1) (h2:0≤w2) (k0:m≤d0∧d0≤n) (k1:m≤d1∧d1≤n) (k2:m≤d2∧d2≤n) :
  (w0 + w1 + w2) * m≤w0 * d0 + w1 * d1 + w2 * d2∧w0 * d0 + w1 * d1 + w2 * d2≤(w0 + w1 + w2) * n:=by
 have e0:=Z8s h0 k0.1 k0.2
 have e1:=Z8s h1 k1.1 k1.2
 have e2:=Z8s h2 k2.1 k2.2
 rw [Int.add_mul,Int.add_mul,Int.add_mul,Int.add_mul]
 omega
theorem Za2 {x:List Int} (h:Z7p x=true):((-131072≤x.getD 0 0∧x.getD 0 0≤131072)∧(-131072≤x.getD 1 0∧x.getD 1 0≤131072)∧(1≤x.getD 2 0∧x.getD 2 0≤65536)∧(0≤x.getD 3 0∧x.getD 3 0≤255)∧(0≤x.getD 4 0∧x.getD 4 0≤255)) ∧
  ((-131072≤x.getD 5 0∧x.getD 5 0≤131072)∧(-131072≤x.getD 6 0∧x.getD 6 0≤131072)∧(1≤x.getD 7 0∧x.getD 7 0≤65536)∧(0≤x.getD 8 0∧x.getD 8 0≤255)∧(0≤x.getD 9 0∧x.getD 9 0≤255)) ∧
  ((-131072≤x.getD 10 0∧x.getD 10 0≤131072)∧(-131072≤x.getD 11 0∧x.getD 11 0≤131072)∧(1≤x.getD 12 0∧x.getD 12 0≤65536)∧(0≤x.getD 13 0∧x.getD 13 0≤255)∧(0≤x.getD 14 0∧x.getD 14 0≤255)):=by
 simp only [Z7p,Z18r,Z14,Nat.reduceAdd,Nat.zero_add] at h
 exact h
theorem Zx6 {x:List Int} (h:Z7p x=true) (hh:Ztx x=true):Z19 x≤Z58 x∧Z58 x≤Z19 x * 65536:=by
 obtain ⟨⟨_,_,h2,_⟩,⟨_,_,h7,_⟩,_,_,h12,_⟩:=Za2 h
 obtain ⟨w0,w1,w2⟩:=Zqf hh
 have:=Zx5 w0 w1 w2 h2 h7 h12
 rw [w_sum] at this
 unfold Z58
 omega
theorem Z14d {x:List Int} {o:Nat} (h:Z7p x=true) (hh:Ztx x=true) (h3:0≤x.getD o 0∧x.getD o 0≤255) (h8:0≤x.getD (o + 5) 0∧x.getD (o + 5) 0≤255) (h13:0≤x.getD (o + 10) 0∧x.getD (o + 10) 0≤255):0≤Znj x o∧Znj x o≤Z58 x * 255:=by
 obtain ⟨⟨_,_,h2,_⟩,⟨_,_,h7,_⟩,_,_,h12,_⟩:=Za2 h
 obtain ⟨w0,w1,w2⟩:=Zqf hh
 have:=Zx5 (Int.mul_nonneg w0 (by omega:0≤x.getD 2 0)) (Int.mul_nonneg w1 (by omega:0≤x.getD 7 0)) (Int.mul_nonneg w2 (by omega:0≤x.getD 12 0)) h3 h8 h13
 unfold Znj Z58
 omega
theorem Zqg {x:List Int} (h:Z7p x=true) (ht:0 < Z19 x) (hh:Ztx x=true):1≤Z19 x∧Z19 x≤137438953472∧1≤Z58 x∧Z58 x≤9007199254740992∧(0≤Znj x 3∧Znj x 3≤Z58 x * 255)∧(0≤Znj x 4∧Znj x 4≤Z58 x * 255):=by
 have k1:=Zqa h
 have k2:=Zx6 h hh
 obtain ⟨⟨_,_,_,h3,h4⟩,⟨_,_,_,h8,h9⟩,_,_,_,h13,h14⟩:=Za2 h
 have k3:=Z14d (o:=3) h hh h3 h8 h13
 have k4:=Z14d (o:=4) h hh h4 h9 h14
 omega
theorem Zqh {a b:Int} (h1:-9223372036854775808≤a) (h2:a≤9223372036854775807) (h3:1≤b) (h4:b≤9223372036854775807):Zq [zz,pos] [a,b]:=Z1 ⟨h1,h2⟩ (Z1 ⟨h3,h4⟩ Z2)
noncomputable def Zgs:List Sum:=[Z7q,Z1u]
def Z14e:List Inf:=[Zpu,Ze7]
def Zqi:TX:=(.callp 0 [(.v 0),(.v 1),(.v 2),(.v 3),(.v 4),(.v 5),(.v 6),(.v 7),(.v 8),(.v 9),(.v 10),(.v 11),(.v 12),(.v 13),(.v 14),(.v 15),(.v 16)] (.ite (.not (.eq (.v 18) (.c 0))) (.ret [(.c 0),(.c 0),(.c 0),(.c 0),(.c 0),(.v 18)])
(.ite (.eq (.v 17) (.c 0)) (.ret [(.c 0),(.c 0),(.c 0),(.c 0),(.c 0),(.c 6)])
(.ite (.or (.or (.lt (.v 0) (.c (-131072))) (.lt (.c 131072) (.v 0))) (.or (.or (.lt (.v 1) (.c (-131072))) (.lt (.c 131072) (.v 1))) (.or (.or (.lt (.v 2) (.c 1)) (.lt (.c 65536) (.v 2))) (.or (.or (.lt (.v 3) (.c 0)) (.lt (.c 255) (.v 3))) (.or (.or (.lt (.v 4) (.c 0)) (.lt (.c 255) (.v 4))) (.or (.or (.lt (.v 5) (.c (-131072))) (.lt (.c 131072) (.v 5))) (.or (.or (.lt (.v 6) (.c (-131072))) (.lt (.c 131072) (.v 6))) (.or (.or (.lt (.v 7) (.c 1)) (.lt (.c 65536) (.v 7))) (.or (.or (.lt (.v 8) (.c 0)) (.lt (.c 255) (.v 8))) (.or (.or (.lt (.v 9) (.c 0)) (.lt (.c 255) (.v 9))) (.or (.or (.lt (.v 10) (.c (-131072))) (.lt (.c 131072) (.v 10))) (.or (.or (.lt (.v 11) (.c (-131072))) (.lt (.c 131072) (.v 11))) (.or (.or (.lt (.v 12) (.c 1)) (.lt (.c 65536) (.v 12))) (.or (.or (.lt (.v 13) (.c 0)) (.lt (.c 255) (.v 13))) (.or (.lt (.v 14) (.c 0)) (.lt (.c 255) (.v 14))))))))))))))))) (.ret [(.c 0),(.c 0),(.c 0),(.c 0),(.c 0),(.c 8)])
(.ite (.le (.sub (.mul (.sub (.v 5) (.v 0)) (.sub (.v 11) (.v 1))) (.mul (.sub (.v 10) (.v 0)) (.sub (.v 6) (.v 1)))) (.c 0)) (.ret [(.c 0),(.c 0),(.c 0),(.c 0),(.c 0),(.c 6)])
(.ite (.or (.lt (.mn (.v 15) (.v 16)) (.c 0)) (.le (.c 64) (.mx (.v 15) (.v 16)))) (.ret [(.c 0),(.c 0),(.c 0),(.c 0),(.c 0),(.c 2)])
(.call 1 [(.add (.add (.add (.c 0) (.mul (.mul (.sub (.mul (.sub (.v 10) (.v 5)) (.sub (.add (.mul (.c 8) (.v 16)) (.c 4)) (.v 6))) (.mul (.sub (.add (.mul (.c 8) (.v 15)) (.c 4)) (.v 5)) (.sub (.v 11) (.v 6)))) (.v 2)) (.c 1))) (.mul (.mul (.sub (.mul (.sub (.v 0) (.v 10)) (.sub (.add (.mul (.c 8) (.v 16)) (.c 4)) (.v 11))) (.mul (.sub (.add (.mul (.c 8) (.v 15)) (.c 4)) (.v 10)) (.sub (.v 1) (.v 11)))) (.v 7)) (.c 1))) (.mul (.mul (.sub (.mul (.sub (.v 5) (.v 0)) (.sub (.add (.mul (.c 8) (.v 16)) (.c 4)) (.v 1))) (.mul (.sub (.add (.mul (.c 8) (.v 15)) (.c 4)) (.v 0)) (.sub (.v 6) (.v 1)))) (.v 12)) (.c 1))),(.add (.add (.add (.c 0) (.sub (.mul (.sub (.v 10) (.v 5)) (.sub (.add (.mul (.c 8) (.v 16)) (.c 4)) (.v 6))) (.mul (.sub (.add (.mul (.c 8) (.v 15)) (.c 4)) (.v 5)) (.sub (.v 11) (.v 6))))) (.sub (.mul (.sub (.v 0) (.v 10)) (.sub (.add (.mul (.c 8) (.v 16)) (.c 4)) (.v 11))) (.mul (.sub (.add (.mul (.c 8) (.v 15)) (.c 4)) (.v 10)) (.sub (.v 1) (.v 11))))) (.sub (.mul (.sub (.v 5) (.v 0)) (.sub (.add (.mul (.c 8) (.v 16)) (.c 4)) (.v 1))) (.mul (.sub (.add (.mul (.c 8) (.v 15)) (.c 4)) (.v 0)) (.sub (.v 6) (.v 1)))))] (.call 1 [(.add (.add (.add (.c 0) (.mul (.mul (.sub (.mul (.sub (.v 10) (.v 5)) (.sub (.add (.mul (.c 8) (.v 16)) (.c 4)) (.v 6))) (.mul (.sub (.add (.mul (.c 8) (.v 15)) (.c 4)) (.v 5)) (.sub (.v 11) (.v 6)))) (.v 2)) (.v 3))) (.mul (.mul (.sub (.mul (.sub (.v 0) (.v 10)) (.sub (.add (.mul (.c 8) (.v 16)) (.c 4)) (.v 11))) (.mul (.sub (.add (.mul (.c 8) (.v 15)) (.c 4)) (.v 10)) (.sub (.v 1) (.v 11)))) (.v 7)) (.v 8))) (.mul (.mul (.sub (.mul (.sub (.v 5) (.v 0)) (.sub (.add (.mul (.c 8) (.v 16)) (.c 4)) (.v 1))) (.mul (.sub (.add (.mul (.c 8) (.v 15)) (.c 4)) (.v 0)) (.sub (.v 6) (.v 1)))) (.v 12)) (.v 13))),(.add (.add (.add (.c 0) (.mul (.mul (.sub (.mul (.sub (.v 10) (.v 5)) (.sub (.add (.mul (.c 8) (.v 16)) (.c 4)) (.v 6))) (.mul (.sub (.add (.mul (.c 8) (.v 15)) (.c 4)) (.v 5)) (.sub (.v 11) (.v 6)))) (.v 2)) (.c 1))) (.mul (.mul (.sub (.mul (.sub (.v 0) (.v 10)) (.sub (.add (.mul (.c 8) (.v 16)) (.c 4)) (.v 11))) (.mul (.sub (.add (.mul (.c 8) (.v 15)) (.c 4)) (.v 10)) (.sub (.v 1) (.v 11)))) (.v 7)) (.c 1))) (.mul (.mul (.sub (.mul (.sub (.v 5) (.v 0)) (.sub (.add (.mul (.c 8) (.v 16)) (.c 4)) (.v 1))) (.mul (.sub (.add (.mul (.c 8) (.v 15)) (.c 4)) (.v 0)) (.sub (.v 6) (.v 1)))) (.v 12)) (.c 1)))] (.call 1 [(.add (.add (.add (.c 0) (.mul (.mul (.sub (.mul (.sub (.v 10) (.v 5)) (.sub (.add (.mul (.c 8) (.v 16)) (.c 4)) (.v 6))) (.mul (.sub (.add (.mul (.c 8) (.v 15)) (.c 4)) (.v 5)) (.sub (.v 11) (.v 6)))) (.v 2)) (.v 4))) (.mul (.mul (.sub (.mul (.sub (.v 0) (.v 10)) (.sub (.add (.mul (.c 8) (.v 16)) (.c 4)) (.v 11))) (.mul (.sub (.add (.mul (.c 8) (.v 15)) (.c 4)) (.v 10)) (.sub (.v 1) (.v 11)))) (.v 7)) (.v 9))) (.mul (.mul (.sub (.mul (.sub (.v 5) (.v 0)) (.sub (.add (.mul (.c 8) (.v 16)) (.c 4)) (.v 1))) (.mul (.sub (.add (.mul (.c 8) (.v 15)) (.c 4)) (.v 0)) (.sub (.v 6) (.v 1)))) (.v 12)) (.v 14))),(.add (.add (.add (.c 0) (.mul (.mul (.sub (.mul (.sub (.v 10) (.v 5)) (.sub (.add (.mul (.c 8) (.v 16)) (.c 4)) (.v 6))) (.mul (.sub (.add (.mul (.c 8) (.v 15)) (.c 4)) (.v 5)) (.sub (.v 11) (.v 6)))) (.v 2)) (.c 1))) (.mul (.mul (.sub (.mul (.sub (.v 0) (.v 10)) (.sub (.add (.mul (.c 8) (.v 16)) (.c 4)) (.v 11))) (.mul (.sub (.add (.mul (.c 8) (.v 15)) (.c 4)) (.v 10)) (.sub (.v 1) (.v 11)))) (.v 7)) (.c 1))) (.mul (.mul (.sub (.mul (.sub (.v 5) (.v 0)) (.sub (.add (.mul (.c 8) (.v 16)) (.c 4)) (.v 1))) (.mul (.sub (.add (.mul (.c 8) (.v 15)) (.c 4)) (.v 0)) (.sub (.v 6) (.v 1)))) (.v 12)) (.c 1)))] (.ret [(.add (.mul (.c 8) (.v 15)) (.c 4)),(.add (.mul (.c 8) (.v 16)) (.c 4)),(.v 19),(.v 21),(.v 23),(.c 0)]))))))))))
theorem Zx7:Z17 (Zu [] Z14e [] Zc6 (Zx Try.prog Zbe gl0 Zgs 1000 88 [An 15,I1,I1] [An 5,I1]))=Zqi:=by kernel_rfl
theorem g_plat:Gok Try.prog Zgs:=(more Zx4 (fix.one Zc5))
theorem o_plat:Zr Zgs Z14e:=(Z3 Zt4 (Z3 Z9k Za))
theorem Zo1:Z9t.ok Try.prog:=Sum.okF facts.mixed g_plat o_plat Zx7 rfl (fun _=>rfl) (by
 intro xs hx hp
 obtain ⟨a0,a1,a2,a3,a4,a5,a6,a7,a8,a9,a10,a11,a12,a13,a14,a15,a16,rfl⟩:=Z167 hx
 have hE:=@Zim [a0,a1,a2,a3,a4,a5,a6,a7,a8,a9,a10,a11,a12,a13,a14,a15,a16]
 clear hp hx
 by_cases he:(Z2y [a0,a1,a2,a3,a4,a5,a6,a7,a8,a9,a10,a11,a12,a13,a14,a15,a16]).getD 3 0=0
 ·obtain ⟨h1,h2,h3,hv⟩:=hE he
  have hc:Z6u [a0,a1,a2,a3,a4,a5,a6,a7,a8,a9,a10,a11,a12,a13,a14,a15,a16]=_:=if_pos he
  have hA:atL [a0,a1,a2,a3,a4,a5,a6,a7,a8,a9,a10,a11,a12,a13,a14,a15,a16]=_:=if_pos he
  cases hh:Ztx [a0,a1,a2,a3,a4,a5,a6,a7,a8,a9,a10,a11,a12,a13,a14,a15,a16] with
  | true =>
   rw [hh] at hc
   rw [if_pos hh] at hA
   obtain ⟨f1,f2,f3,f4,f5,f6⟩:=Zqg h1 h2 hh
   have hs:=w_sum [a0,a1,a2,a3,a4,a5,a6,a7,a8,a9,a10,a11,a12,a13,a14,a15,a16]
   have g0:(a10 - a5) * (8 * a16 + 4 - a6) - (8 * a15 + 4 - a5) * (a11 - a6)=wgt [a0,a1,a2,a3,a4,a5,a6,a7,a8,a9,a10,a11,a12,a13,a14,a15,a16] 5 10 15:=rfl
   have g1:(a0 - a10) * (8 * a16 + 4 - a11) - (8 * a15 + 4 - a10) * (a1 - a11)=wgt [a0,a1,a2,a3,a4,a5,a6,a7,a8,a9,a10,a11,a12,a13,a14,a15,a16] 10 0 15:=rfl
   have g2:(a5 - a0) * (8 * a16 + 4 - a1) - (8 * a15 + 4 - a0) * (a6 - a1)=wgt [a0,a1,a2,a3,a4,a5,a6,a7,a8,a9,a10,a11,a12,a13,a14,a15,a16] 0 5 15:=rfl
   have g3:(a5 - a0) * (a11 - a1) - (a10 - a0) * (a6 - a1)=Z19 [a0,a1,a2,a3,a4,a5,a6,a7,a8,a9,a10,a11,a12,a13,a14,a15,a16]:=rfl
   have e1:wgt [a0,a1,a2,a3,a4,a5,a6,a7,a8,a9,a10,a11,a12,a13,a14,a15,a16] 5 10 15 * a2 + wgt [a0,a1,a2,a3,a4,a5,a6,a7,a8,a9,a10,a11,a12,a13,a14,a15,a16] 10 0 15 * a7 + wgt [a0,a1,a2,a3,a4,a5,a6,a7,a8,a9,a10,a11,a12,a13,a14,a15,a16] 0 5 15 * a12=Z58 [a0,a1,a2,a3,a4,a5,a6,a7,a8,a9,a10,a11,a12,a13,a14,a15,a16]:=rfl
   have e2:wgt [a0,a1,a2,a3,a4,a5,a6,a7,a8,a9,a10,a11,a12,a13,a14,a15,a16] 5 10 15 * a2 * a3 + wgt [a0,a1,a2,a3,a4,a5,a6,a7,a8,a9,a10,a11,a12,a13,a14,a15,a16] 10 0 15 * a7 * a8 + wgt [a0,a1,a2,a3,a4,a5,a6,a7,a8,a9,a10,a11,a12,a13,a14,a15,a16] 0 5 15 * a12 * a13=Znj [a0,a1,a2,a3,a4,a5,a6,a7,a8,a9,a10,a11,a12,a13,a14,a15,a16] 3:=rfl
   have e3:wgt [a0,a1,a2,a3,a4,a5,a6,a7,a8,a9,a10,a11,a12,a13,a14,a15,a16] 5 10 15 * a2 * a4 + wgt [a0,a1,a2,a3,a4,a5,a6,a7,a8,a9,a10,a11,a12,a13,a14,a15,a16] 10 0 15 * a7 * a9 + wgt [a0,a1,a2,a3,a4,a5,a6,a7,a8,a9,a10,a11,a12,a13,a14,a15,a16] 0 5 15 * a12 * a14=Znj [a0,a1,a2,a3,a4,a5,a6,a7,a8,a9,a10,a11,a12,a13,a14,a15,a16] 4:=rfl
   have ht:=Za2 h1
   simp only [TX.sat,XB.prop,X.den,Z18k,Z18l,Z18e,Z18f,Z18i,Z18j,Z18g,Z18h,mkS,mkP,and_true,true_and,Z18p,Z18q,not_or,not_and,Z18m,ne_eq,Z18n,Z18o] at ht
   have hpx:=Z1y.1 h3
   simp only [TX.sat,XB.prop,X.den,Z18k,Z18l,Z18e,Z18f,Z18i,Z18j,Z18g,Z18h,mkS,mkP,and_true,true_and,Z18p,Z18q,not_or,not_and,Z18m,ne_eq,Z18n,Z18o,Nat.reduceAdd] at hpx
   simp only [Zqi,Zgs,Z7q,Z1u,TX.sat,XB.prop,X.den,Z18k,Z18l,Z18e,Z18f,Z18i,Z18j,Z18g,Z18h,mkS,mkP,and_true,true_and,Z18p,Z18q,not_or,not_and,Z18m,ne_eq,Z18n,Z18o,Z57,Z1h,Z9s,hc,hA,ex6,b01,g0,g1,g2,g3,Int.zero_add,Int.mul_one,e1,e2,e3,hs]
   clear hE hc hA hv he g0 g1 g2 g3 e1 e2 e3 hs h1 h3 hh
   simp only [if_true,reduceIte]
   refine ⟨fun h=>h.elim,fun _=>⟨fun h=>absurd h (by decide),fun _=>⟨fun h=>?_,fun _=>⟨fun h=>?_,fun _=>⟨fun h=>?_,fun _=>?_⟩⟩⟩⟩⟩
   ·omega
   ·omega
   ·omega
   ·exact ⟨Zqh (by omega) (by omega) (by omega) (by omega),Zqh (by omega) (by omega) (by omega) (by omega),Zqh (by omega) (by omega) (by omega) (by omega)⟩
  | false =>
   rw [hh] at hc
   rw [if_neg (by rw [hh]; simp)] at hA
   simp only [Zqi,Zgs,Z7q,Z1u,TX.sat,XB.prop,X.den,Z18k,Z18l,Z18e,Z18f,Z18i,Z18j,Z18g,Z18h,mkS,mkP,and_true,true_and,Z18p,Z18q,not_or,not_and,Z18m,ne_eq,Z18n,Z18o,Z57,Z1h,Z9s,hc,hA,ex6,b01]
   exact ⟨fun h=>h.elim,fun _=>⟨fun _=>trivial,fun h=>absurd rfl h⟩⟩
 ·have hc:Z6u [a0,a1,a2,a3,a4,a5,a6,a7,a8,a9,a10,a11,a12,a13,a14,a15,a16]=_:=if_neg he
  have hA:atL [a0,a1,a2,a3,a4,a5,a6,a7,a8,a9,a10,a11,a12,a13,a14,a15,a16]=_:=if_neg he
  simp only [Zqi,Zgs,Z7q,Z1u,TX.sat,XB.prop,X.den,Z18k,Z18l,Z18e,Z18f,Z18i,Z18j,Z18g,Z18h,mkS,mkP,and_true,true_and,Z18p,Z18q,not_or,not_and,Z18m,ne_eq,Z18n,Z18o,Z57,Z1h,Z9s,hc,hA,ex6,b01]
  exact ⟨fun _=>trivial,fun h=>absurd h he⟩)
theorem Z8t {a b m n:Int} (hb:0 < b) (h1:b * m≤a) (h2:a≤b * n):m≤a / b∧a / b≤n:=by
 constructor
 ·rw [Int.le_ediv_iff_mul_le hb,Int.mul_comm]
  exact h1
 ·refine Int.ediv_le_of_le_mul hb ?_
  rw [Int.mul_comm]
  exact h2
theorem Zt5 {x:List Int} (h:Z7p x=true) (ht:0 < Z19 x) (hh:Ztx x=true):(1≤Z58 x / Z19 x∧Z58 x / Z19 x≤65536)∧(0≤Znj x 3 / Z58 x∧Znj x 3 / Z58 x≤255)∧(0≤Znj x 4 / Z58 x∧Znj x 4 / Z58 x≤255):=by
 obtain ⟨f1,f2,f3,f4,f5,f6⟩:=Zqg h ht hh
 have k:=Zx6 h hh
 exact ⟨Z8t ht (by omega) k.2,Z8t (by omega) (by omega) (by omega),Z8t (by omega) (by omega) (by omega)⟩
theorem at_z {e:Int} (h1:0≤e) (h2:e≤8):Zq (Zi0 []) (ex6 [0,0,0,0,0,e]) :=
 Z1 (Zc.2 (by simp)) (Z1 (Zc.2 (by simp)) (Z1 (Zc.2 (by simp)) (Z1 (Zc.2 (by simp)) (Z1 (Zc.2 (by simp)) (Z1 ⟨h1,h2⟩ Z2)))))
theorem Zcd:Z1i Z9t Zpv:=⟨fun _ h=>h,fun vs xs h hp=>by
 show Zq (Zi0 []) (ex6 (atL xs))
 have h8:0≤(Z2y xs).getD 3 0∧(Z2y xs).getD 3 0≤8:=(Zeo.2 vs xs h hp).2 3
 unfold atL
 split
 ·rename_i he
  obtain ⟨h1,h2,h3,_⟩:=Zim he
  split
  ·rename_i hh
   obtain ⟨k1,k2,k3⟩:=Zt5 h1 h2 hh
   rw [Z1y] at h3
   have h3':0≤xs.getD 15 0∧xs.getD 15 0 < 64∧0≤xs.getD 16 0∧xs.getD 16 0 < 64:=h3
   have w1:0≤8 * xs.getD 15 0 + 4∧8 * xs.getD 15 0 + 4≤511:=by omega
   have w2:0≤8 * xs.getD 16 0 + 4∧8 * xs.getD 16 0 + 4≤511:=by omega
   exact Z1 w1 (Z1 w2 (Z1 ⟨by show 0≤Z58 xs / Z19 xs; omega,k1.2⟩ (Z1 k2 (Z1 k3 (Z1 (Zc.2 (by simp)) Z2)))))
  ·exact at_z (by omega) (by omega)
 ·exact at_z h8.1 h8.2⟩
end Go.Proofs.Ytgcoidbaoigkeaa.fix
namespace Go.Proofs.Ytgcoidbaoigkeaa.fix
open Go.RowKit Go.Sx
noncomputable def Za3:List Sum:=[]
def Zqj:List Inf:=[]
def Zin:TX:=(.ite (.or (.or (.lt (.v 0) (.c (-32768))) (.lt (.c 32768) (.v 0))) (.or (.or (.lt (.v 1) (.c (-32768))) (.lt (.c 32768) (.v 1))) (.or (.or (.lt (.v 2) (.c (-32768))) (.lt (.c 32768) (.v 2))) (.or (.or (.lt (.v 3) (.c 0)) (.lt (.c 255) (.v 3))) (.or (.lt (.v 4) (.c 0)) (.lt (.c 255) (.v 4))))))) (.ret [(.c 8)])
(.ret [(.c 0)]))
theorem Zo2:Z17 (Zu [] Zqj [] Zaw (Zx Try.prog Zbe gl0 Za3 1000 111 [An 5] [I1]))=Zin:=by kernel_rfl
theorem Z11o:Gok Try.prog Za3:=noG
theorem Z11p:Zr Za3 Zqj:=Za
theorem Zli:Z38.ok Try.prog:=Sum.okF facts.mixed Z11o Z11p Zo2 rfl (fun _=>rfl) (by
 intro xs hx hp
 obtain ⟨a0,a1,a2,a3,a4,rfl⟩:=len5 hx
 by_cases hc0:Zz [a0,a1,a2,a3,a4] 0=true
 ·have hd0:=hc0
  try simp only [Zz,Z18r,Zt,Ze,TX.sat,XB.prop,X.den,Z18k,Z18l,Z18e,Z18f,Z18i,Z18j,Z18g,Z18h,mkS,mkP,and_true,true_and,Z18p,Z18q,not_or,not_and,Z18m,ne_eq,Z18n,Z18o,Nat.reduceAdd,Nat.zero_add] at hd0
  simp only [Zin,Za3,TX.sat,XB.prop,X.den,Z18k,Z18l,Z18e,Z18f,Z18i,Z18j,Z18g,Z18h,mkS,mkP,and_true,true_and,Z18p,Z18q,not_or,not_and,Z18m,ne_eq,Z18n,Z18o,Z29,hc0,ex3,ex4,ex5,ex6,Zkx,Zbk,er,b01,Ze,if_true,if_false,reduceIte,Bool.false_eq_true,Nat.reduceAdd,Nat.zero_add]
  clear hc0
  repeat' first | exact trivial | refine And.intro ?_ ?_ | intro _
  all_goals first | trivial | rfl | omega | (simp [Int.max_comm,Int.min_comm]; done) | (simp only [List.cons.injEq,and_true,true_and]; omega) | (split <;> first | trivial | rfl | omega)
 ·have hd0:=hc0
  try simp only [Zz,Z18r,Zt,Ze,TX.sat,XB.prop,X.den,Z18k,Z18l,Z18e,Z18f,Z18i,Z18j,Z18g,Z18h,mkS,mkP,and_true,true_and,Z18p,Z18q,not_or,not_and,Z18m,ne_eq,Z18n,Z18o,Nat.reduceAdd,Nat.zero_add] at hd0
  simp only [Zin,Za3,TX.sat,XB.prop,X.den,Z18k,Z18l,Z18e,Z18f,Z18i,Z18j,Z18g,Z18h,mkS,mkP,and_true,true_and,Z18p,Z18q,not_or,not_and,Z18m,ne_eq,Z18n,Z18o,Z29,hc0,ex3,ex4,ex5,ex6,Zkx,Zbk,er,b01,Ze,if_true,if_false,reduceIte,Bool.false_eq_true,Nat.reduceAdd,Nat.zero_add]
  clear hc0
  repeat' first | exact trivial | refine And.intro ?_ ?_ | intro _
  all_goals first | trivial | rfl | omega | (simp [Int.max_comm,Int.min_comm]; done) | (simp only [List.cons.injEq,and_true,true_and]; omega) | (split <;> first | trivial | rfl | omega))
theorem Zgt:Z1i Z38 Zht:=⟨fun _ h=>h,fun vs xs h hp=>Z1 (Zvo _ (by omega)) Z2⟩
theorem Za4 {x:List Int} {o:Nat} (h:Zz x o=true):(-32768≤x.getD o 0∧x.getD o 0≤32768)∧(-32768≤x.getD (o + 1) 0∧x.getD (o + 1) 0≤32768)∧(-32768≤x.getD (o + 2) 0∧x.getD (o + 2) 0≤32768)∧(0≤x.getD (o + 3) 0∧x.getD (o + 3) 0≤255)∧(0≤x.getD (o + 4) 0∧x.getD (o + 4) 0≤255):=by
 simp only [Zz,Z18r,Zt,Ze] at h
 exact ⟨h.1.1,h.1.2.1,h.1.2.2,h.2.1,h.2.2⟩
theorem Z11q {d p q:Int} (hp:0≤p) (hq:p≤q) (h0:0 < q):min 0 d≤d * p / q∧d * p / q≤max 0 d:=by
 rcases Int.le_total 0 d with hd | hd
 ·have h1:0≤d * p:=Int.mul_nonneg hd hp
  have h2:d * p≤d * q:=Int.mul_le_mul_of_nonneg_left hq hd
  have h3:0≤d * p / q:=Int.ediv_nonneg h1 (by omega)
  have h4:d * p / q≤d:=by
   apply Int.ediv_le_of_le_mul h0
   exact h2
  omega
 ·have h1:d * p≤0:=Int.mul_nonpos_of_nonpos_of_nonneg hd hp
  have h2:d * q≤d * p:=Int.mul_le_mul_of_nonpos_left hd hq
  have h3:d≤d * p / q:=by
   rw [Int.le_ediv_iff_mul_le h0]
   exact h2
  have h4:d * p / q≤0:=by
   apply Int.ediv_le_of_le_mul h0
   omega
  omega
theorem Zx8 {a b p q:Int} (hp:0≤p) (hq:p≤q) (h0:0 < q):min a b≤a + (b - a) * p / q∧a + (b - a) * p / q≤max a b:=by
 have:=Z11q (d:=b - a) hp hq h0
 omega
theorem Zlj {x:List Int} (h:Z4p x=true):x.getD 3 0 < x.getD 0 0∧x.getD 0 0≤x.getD 8 0:=by simpa only [Z4p,Ze] using h
theorem Z4o {x:List Int} {o:Nat} (hb:Z4p x=true):min (x.getD o 0) (x.getD (o + 5) 0)≤Z8o x o∧Z8o x o≤max (x.getD o 0) (x.getD (o + 5) 0):=by
 have:=Zlj hb
 exact Zx8 (by omega) (by omega) (by omega)
theorem Zx9 {x:List Int} (h:Z9n x=true):256≤x.getD 0 0∧x.getD 0 0≤4096:=by simpa only [Z9n,Ze] using h
theorem Zxa {x:List Int} (hn:Z9n x=true) (h1:Zz x 1=true) (h6:Zz x 6=true) (hb:Z4p x=true) :
  (-32768≤Z8o x 1∧Z8o x 1≤32768)∧(-32768≤Z8o x 2∧Z8o x 2≤32768)∧(0≤Z8o x 4∧Z8o x 4≤255)∧(0≤Z8o x 5∧Z8o x 5≤255):=by
 have p:=Za4 h1
 have q:=Za4 h6
 simp only [Nat.reduceAdd] at p q
 have m1:min (x.getD 1 0) (x.getD 6 0)≤Z8o x 1∧Z8o x 1≤max (x.getD 1 0) (x.getD 6 0):=Z4o hb
 have m2:min (x.getD 2 0) (x.getD 7 0)≤Z8o x 2∧Z8o x 2≤max (x.getD 2 0) (x.getD 7 0):=Z4o hb
 have m4:min (x.getD 4 0) (x.getD 9 0)≤Z8o x 4∧Z8o x 4≤max (x.getD 4 0) (x.getD 9 0):=Z4o hb
 have m5:min (x.getD 5 0) (x.getD 10 0)≤Z8o x 5∧Z8o x 5≤max (x.getD 5 0) (x.getD 10 0):=Z4o hb
 omega
theorem Z16z:Z1i Z10t i_cut:=⟨fun _ h=>h,fun vs xs h hp=>by
 show Zq (ivs 2 (-32768) 32768++[iv 0 4096]++ivs 2 0 255++[iv 0 8]) (ex6 (Zzf xs))
 have z:∀ e:Int,0≤e→e≤8→Zq (ivs 2 (-32768) 32768++[iv 0 4096]++ivs 2 0 255++[iv 0 8]) (ex6 [0,0,0,0,0,e]):=fun e h1 h2 =>
  Z1 (Zc.2 (by simp)) (Z1 (Zc.2 (by simp)) (Z1 (Zc.2 (by simp)) (Z1 (Zc.2 (by simp)) (Z1 (Zc.2 (by simp)) (Z1 ⟨h1,h2⟩ Z2)))))
 unfold Zzf
 split
 ·rename_i hn
  split
  ·rename_i hpp
   simp only [Z18r] at hpp
   split
   ·rename_i hb
    obtain ⟨f1,f2,f4,f5⟩:=Zxa hn hpp.1 hpp.2 hb
    have:=Zx9 hn
    exact Z1 f1 (Z1 f2 (Z1 (Zc.2 (by show 0≤xs.getD 0 0∧xs.getD 0 0≤4096; omega)) (Z1 f4 (Z1 f5 (Z1 (Zc.2 (by simp [Z16d])) Z2)))))
   ·exact z 6 (by omega) (by omega)
  ·exact z 8 (by omega) (by omega)
 ·exact z 2 (by omega) (by omega)⟩
theorem Zce {a b p q:Int} (ha:-32768≤a∧a≤32768) (hb:-32768≤b∧b≤32768) (hp:0≤p∧p≤65536) (hq:p≤q∧q≤65536) (h0:0 < q) :
  IntKind.i64.wrap (b - a)=b - a∧IntKind.i64.wrap ((b - a) * p)=(b - a) * p∧IntKind.i64.wrap (a + (b - a) * p / q)=a + (b - a) * p / q∧Zq [zz,pos] [(b - a) * p,q]:=by
 have h1:=Z28 (x:=b - a) (y:=p) (m:=65536) (n:=65536) (by omega) (by omega)
 have h2:=Zx8 (a:=a) (b:=b) hp.1 hq.1 h0
 exact ⟨Z10 (by omega) (by omega),Z10 (by omega) (by omega),Z10 (by omega) (by omega),Zqh (by omega) (by omega) (by omega) (by omega)⟩
noncomputable def Zlk:List Sum:=[Z38,Z1u]
def I_cut:List Inf:=[Zht,Ze7]
def Zt6:TX:=(.ite (.or (.lt (.v 0) (.c 256)) (.lt (.c 4096) (.v 0))) (.ret [(.c 0),(.c 0),(.c 0),(.c 0),(.c 0),(.c 2)])
(.callp 0 [(.v 1),(.v 2),(.v 3),(.v 4),(.v 5)] (.ite (.not (.eq (.v 11) (.c 0))) (.ret [(.c 0),(.c 0),(.c 0),(.c 0),(.c 0),(.v 11)])
(.callp 0 [(.v 6),(.v 7),(.v 8),(.v 9),(.v 10)] (.ite (.not (.eq (.v 12) (.c 0))) (.ret [(.c 0),(.c 0),(.c 0),(.c 0),(.c 0),(.v 12)])
(.ite (.or (.le (.v 0) (.v 3)) (.lt (.v 8) (.v 0))) (.ret [(.c 0),(.c 0),(.c 0),(.c 0),(.c 0),(.c 6)])
(.call 1 [(.wr .i64 (.mul (.wr .i64 (.sub (.v 6) (.v 1))) (.wr .i64 (.sub (.v 0) (.v 3))))),(.wr .i64 (.sub (.v 8) (.v 3)))] (.call 1 [(.wr .i64 (.mul (.wr .i64 (.sub (.v 7) (.v 2))) (.wr .i64 (.sub (.v 0) (.v 3))))),(.wr .i64 (.sub (.v 8) (.v 3)))] (.call 1 [(.wr .i64 (.mul (.wr .i64 (.sub (.v 9) (.v 4))) (.wr .i64 (.sub (.v 0) (.v 3))))),(.wr .i64 (.sub (.v 8) (.v 3)))] (.call 1 [(.wr .i64 (.mul (.wr .i64 (.sub (.v 10) (.v 5))) (.wr .i64 (.sub (.v 0) (.v 3))))),(.wr .i64 (.sub (.v 8) (.v 3)))] (.ret [(.wr .i64 (.add (.v 1) (.v 13))),(.wr .i64 (.add (.v 2) (.v 15))),(.v 0),(.wr .i64 (.add (.v 4) (.v 17))),(.wr .i64 (.add (.v 5) (.v 19))),(.c 0)])))))))))))
theorem Z11r:Z17 (Zu [] I_cut [] Znh (Zx Try.prog Zbe gl0 Zlk 1000 110 [I1,An 5,An 5] [An 5,I1]))=Zt6:=by kernel_rfl
theorem g_cut:Gok Try.prog Zlk:=(more Zli (fix.one Zc5))
theorem o_cut:Zr Zlk I_cut:=(Z3 Zgt (Z3 Z9k Za))
theorem ok_cut:Z10t.ok Try.prog:=Sum.okF facts.mixed g_cut o_cut Z11r rfl (fun _=>rfl) (by
 intro xs hx hp
 obtain ⟨a0,a1,a2,a3,a4,a5,a6,a7,a8,a9,a10,rfl⟩:=len11 hx
 have e1:Zz [a1,a2,a3,a4,a5] 0=Zz [a0,a1,a2,a3,a4,a5,a6,a7,a8,a9,a10] 1:=rfl
 have e2:Zz [a6,a7,a8,a9,a10] 0=Zz [a0,a1,a2,a3,a4,a5,a6,a7,a8,a9,a10] 6:=rfl
 clear hx hp
 by_cases hn:Z9n [a0,a1,a2,a3,a4,a5,a6,a7,a8,a9,a10]=true
 ·have kn:=Zx9 hn
  simp only [TX.sat,XB.prop,X.den,Z18k,Z18l,Z18e,Z18f,Z18i,Z18j,Z18g,Z18h,mkS,mkP,and_true,true_and,Z18p,Z18q,not_or,not_and,Z18m,ne_eq,Z18n,Z18o] at kn
  by_cases h1:Zz [a0,a1,a2,a3,a4,a5,a6,a7,a8,a9,a10] 1=true
  ·by_cases h6:Zz [a0,a1,a2,a3,a4,a5,a6,a7,a8,a9,a10] 6=true
   ·have k1:=Za4 h1
    have k6:=Za4 h6
    simp only [TX.sat,XB.prop,X.den,Z18k,Z18l,Z18e,Z18f,Z18i,Z18j,Z18g,Z18h,mkS,mkP,and_true,true_and,Z18p,Z18q,not_or,not_and,Z18m,ne_eq,Z18n,Z18o,Nat.reduceAdd] at k1 k6
    by_cases hb:Z4p [a0,a1,a2,a3,a4,a5,a6,a7,a8,a9,a10]=true
    ·have kb:=Zlj hb
     simp only [TX.sat,XB.prop,X.den,Z18k,Z18l,Z18e,Z18f,Z18i,Z18j,Z18g,Z18h,mkS,mkP,and_true,true_and,Z18p,Z18q,not_or,not_and,Z18m,ne_eq,Z18n,Z18o] at kb
     have w0:IntKind.i64.wrap (a0 - a3)=a0 - a3:=Z10 (by omega) (by omega)
     have w8:IntKind.i64.wrap (a8 - a3)=a8 - a3:=Z10 (by omega) (by omega)
     obtain ⟨u1,v1,x1,p1⟩:=Zce (a:=a1) (b:=a6) (p:=a0 - a3) (q:=a8 - a3) k1.1 k6.1 (by omega) (by omega) (by omega)
     obtain ⟨u2,v2,x2,p2⟩:=Zce (a:=a2) (b:=a7) (p:=a0 - a3) (q:=a8 - a3) k1.2.1 k6.2.1 (by omega) (by omega) (by omega)
     obtain ⟨u4,v4,x4,p4⟩:=Zce (a:=a4) (b:=a9) (p:=a0 - a3) (q:=a8 - a3) (by omega) (by omega) (by omega) (by omega) (by omega)
     obtain ⟨u5,v5,x5,p5⟩:=Zce (a:=a5) (b:=a10) (p:=a0 - a3) (q:=a8 - a3) (by omega) (by omega) (by omega) (by omega) (by omega)
     simp only [Zt6,Zlk,Z38,Z1u,TX.sat,XB.prop,X.den,Z18k,Z18l,Z18e,Z18f,Z18i,Z18j,Z18g,Z18h,mkS,mkP,and_true,true_and,Z18p,Z18q,not_or,not_and,Z18m,ne_eq,Z18n,Z18o,Z8p,Z29,Z1h,e1,e2,Zzf,hn,h1,h6,hb,er,Z16d,ex6,Z8o,Nat.reduceAdd,if_true,reduceIte,Bool.and_self,w0,w8,u1,u2,u4,u5,v1,v2,v4,v5,x1,x2,x4,x5]
     repeat' first | exact trivial | assumption | refine And.intro ?_ ?_ | intro _
     all_goals first | trivial | assumption | omega | (simp; done)
    ·have kb:¬ (a3 < a0∧a0≤a8):=fun h=>hb (by simp only [Z4p,Ze,TX.sat,XB.prop,X.den,Z18k,Z18l,Z18e,Z18f,Z18i,Z18j,Z18g,Z18h,mkS,mkP,and_true,true_and,Z18p,Z18q,not_or,not_and,Z18m,ne_eq,Z18n,Z18o]; exact h)
     simp only [Zt6,Zlk,Z38,Z1u,TX.sat,XB.prop,X.den,Z18k,Z18l,Z18e,Z18f,Z18i,Z18j,Z18g,Z18h,mkS,mkP,and_true,true_and,Z18p,Z18q,not_or,not_and,Z18m,ne_eq,Z18n,Z18o,Z8p,Z29,Z1h,e1,e2,Zzf,hn,h1,h6,hb,er,Z16d,ex6,Z8o,Nat.reduceAdd,if_true,if_false,reduceIte,Bool.and_self]
     repeat' first | exact trivial | assumption | refine And.intro ?_ ?_ | intro _
     all_goals first | trivial | assumption | omega | (simp; done)
   ·simp only [Zt6,Zlk,Z38,Z1u,TX.sat,XB.prop,X.den,Z18k,Z18l,Z18e,Z18f,Z18i,Z18j,Z18g,Z18h,mkS,mkP,and_true,true_and,Z18p,Z18q,not_or,not_and,Z18m,ne_eq,Z18n,Z18o,Z8p,Z29,Z1h,e1,e2,Zzf,hn,h1,h6,er,Z16d,ex6,Z8o,Nat.reduceAdd,if_true,if_false,reduceIte,Bool.and_false,Bool.false_eq_true]
    repeat' first | exact trivial | assumption | refine And.intro ?_ ?_ | intro _
    all_goals first | trivial | assumption | omega | (simp; done)
  ·simp only [Zt6,Zlk,Z38,Z1u,TX.sat,XB.prop,X.den,Z18k,Z18l,Z18e,Z18f,Z18i,Z18j,Z18g,Z18h,mkS,mkP,and_true,true_and,Z18p,Z18q,not_or,not_and,Z18m,ne_eq,Z18n,Z18o,Z8p,Z29,Z1h,e1,e2,Zzf,hn,h1,er,Z16d,ex6,Z8o,Nat.reduceAdd,if_true,if_false,reduceIte,Bool.false_and,Bool.false_eq_true]
   repeat' first | exact trivial | assumption | refine And.intro ?_ ?_ | intro _
   all_goals first | trivial | assumption | omega | (simp; done)
 ·have kn:¬ (256≤a0∧a0≤4096):=fun h=>hn (by simp only [Z9n,Ze,TX.sat,XB.prop,X.den,Z18k,Z18l,Z18e,Z18f,Z18i,Z18j,Z18g,Z18h,mkS,mkP,and_true,true_and,Z18p,Z18q,not_or,not_and,Z18m,ne_eq,Z18n,Z18o]; exact h)
  simp only [Zt6,Zlk,Z38,Z1u,TX.sat,XB.prop,X.den,Z18k,Z18l,Z18e,Z18f,Z18i,Z18j,Z18g,Z18h,mkS,mkP,and_true,true_and,Z18p,Z18q,not_or,not_and,Z18m,ne_eq,Z18n,Z18o,Z8p,Z29,Z1h,e1,e2,Zzf,hn,er,Z16d,ex6,Z8o,Nat.reduceAdd,if_true,if_false,reduceIte,Bool.false_and,Bool.false_eq_true]
  repeat' first | exact trivial | assumption | refine And.intro ?_ ?_ | intro _
  all_goals first | trivial | assumption | omega | (simp; done))
noncomputable def Zio:List Sum:=[Z38,Z10t]
def Zxb:List Inf:=[Zht,i_cut]
def Zxc:TX:=(.ite (.or (.lt (.v 0) (.c 256)) (.lt (.c 4096) (.v 0))) (.ret [.nl,(.c 2)])
(.callp 0 [(.v 1),(.v 2),(.v 3),(.v 4),(.v 5)] (.ite (.not (.eq (.v 16) (.c 0))) (.ret [.nl,(.v 16)])
(.callp 0 [(.v 6),(.v 7),(.v 8),(.v 9),(.v 10)] (.ite (.not (.eq (.v 17) (.c 0))) (.ret [.nl,(.v 17)])
(.callp 0 [(.v 11),(.v 12),(.v 13),(.v 14),(.v 15)] (.ite (.not (.eq (.v 18) (.c 0))) (.ret [.nl,(.v 18)])
(.ite (.le (.v 0) (.v 3)) (.ite (.le (.v 0) (.v 8)) (.ite (.le (.v 0) (.v 13)) (.ret [(.l2 .snoc .nl (.l2 .cons (.v 1) (.l2 .cons (.v 2) (.l2 .cons (.v 3) (.l2 .cons (.v 4) (.l2 .cons (.v 5) (.l2 .cons (.v 6) (.l2 .cons (.v 7) (.l2 .cons (.v 8) (.l2 .cons (.v 9) (.l2 .cons (.v 10) (.l2 .cons (.v 11) (.l2 .cons (.v 12) (.l2 .cons (.v 13) (.l2 .cons (.v 14) (.l2 .cons (.v 15) .nl)))))))))))))))),(.c 0)])
(.callp 1 [(.v 0),(.v 11),(.v 12),(.v 13),(.v 14),(.v 15),(.v 6),(.v 7),(.v 8),(.v 9),(.v 10)] (.callp 1 [(.v 0),(.v 11),(.v 12),(.v 13),(.v 14),(.v 15),(.v 1),(.v 2),(.v 3),(.v 4),(.v 5)] (.ret [(.l2 .snoc (.l2 .snoc .nl (.l2 .cons (.v 1) (.l2 .cons (.v 2) (.l2 .cons (.v 3) (.l2 .cons (.v 4) (.l2 .cons (.v 5) (.l2 .cons (.v 6) (.l2 .cons (.v 7) (.l2 .cons (.v 8) (.l2 .cons (.v 9) (.l2 .cons (.v 10) (.l2 .cons (.v 19) (.l2 .cons (.v 20) (.l2 .cons (.v 21) (.l2 .cons (.v 22) (.l2 .cons (.v 23) .nl)))))))))))))))) (.l2 .cons (.v 1) (.l2 .cons (.v 2) (.l2 .cons (.v 3) (.l2 .cons (.v 4) (.l2 .cons (.v 5) (.l2 .cons (.v 19) (.l2 .cons (.v 20) (.l2 .cons (.v 21) (.l2 .cons (.v 22) (.l2 .cons (.v 23) (.l2 .cons (.v 25) (.l2 .cons (.v 26) (.l2 .cons (.v 27) (.l2 .cons (.v 28) (.l2 .cons (.v 29) .nl)))))))))))))))),(.c 0)]))))
(.callp 1 [(.v 0),(.v 6),(.v 7),(.v 8),(.v 9),(.v 10),(.v 1),(.v 2),(.v 3),(.v 4),(.v 5)] (.ite (.not (.le (.v 0) (.v 13))) (.callp 1 [(.v 0),(.v 11),(.v 12),(.v 13),(.v 14),(.v 15),(.v 1),(.v 2),(.v 3),(.v 4),(.v 5)] (.ret [(.l2 .snoc .nl (.l2 .cons (.v 1) (.l2 .cons (.v 2) (.l2 .cons (.v 3) (.l2 .cons (.v 4) (.l2 .cons (.v 5) (.l2 .cons (.v 19) (.l2 .cons (.v 20) (.l2 .cons (.v 21) (.l2 .cons (.v 22) (.l2 .cons (.v 23) (.l2 .cons (.v 25) (.l2 .cons (.v 26) (.l2 .cons (.v 27) (.l2 .cons (.v 28) (.l2 .cons (.v 29) .nl)))))))))))))))),(.c 0)]))
(.callp 1 [(.v 0),(.v 6),(.v 7),(.v 8),(.v 9),(.v 10),(.v 11),(.v 12),(.v 13),(.v 14),(.v 15)] (.ret [(.l2 .snoc (.l2 .snoc .nl (.l2 .cons (.v 1) (.l2 .cons (.v 2) (.l2 .cons (.v 3) (.l2 .cons (.v 4) (.l2 .cons (.v 5) (.l2 .cons (.v 19) (.l2 .cons (.v 20) (.l2 .cons (.v 21) (.l2 .cons (.v 22) (.l2 .cons (.v 23) (.l2 .cons (.v 25) (.l2 .cons (.v 26) (.l2 .cons (.v 27) (.l2 .cons (.v 28) (.l2 .cons (.v 29) .nl)))))))))))))))) (.l2 .cons (.v 1) (.l2 .cons (.v 2) (.l2 .cons (.v 3) (.l2 .cons (.v 4) (.l2 .cons (.v 5) (.l2 .cons (.v 25) (.l2 .cons (.v 26) (.l2 .cons (.v 27) (.l2 .cons (.v 28) (.l2 .cons (.v 29) (.l2 .cons (.v 11) (.l2 .cons (.v 12) (.l2 .cons (.v 13) (.l2 .cons (.v 14) (.l2 .cons (.v 15) .nl)))))))))))))))),(.c 0)])))))
(.ite (.not (.le (.v 0) (.v 8))) (.ite (.not (.le (.v 0) (.v 13))) (.ret [.nl,(.c 0)])
(.callp 1 [(.v 0),(.v 6),(.v 7),(.v 8),(.v 9),(.v 10),(.v 11),(.v 12),(.v 13),(.v 14),(.v 15)] (.callp 1 [(.v 0),(.v 1),(.v 2),(.v 3),(.v 4),(.v 5),(.v 11),(.v 12),(.v 13),(.v 14),(.v 15)] (.ret [(.l2 .snoc .nl (.l2 .cons (.v 19) (.l2 .cons (.v 20) (.l2 .cons (.v 21) (.l2 .cons (.v 22) (.l2 .cons (.v 23) (.l2 .cons (.v 11) (.l2 .cons (.v 12) (.l2 .cons (.v 13) (.l2 .cons (.v 14) (.l2 .cons (.v 15) (.l2 .cons (.v 25) (.l2 .cons (.v 26) (.l2 .cons (.v 27) (.l2 .cons (.v 28) (.l2 .cons (.v 29) .nl)))))))))))))))),(.c 0)]))))
(.callp 1 [(.v 0),(.v 1),(.v 2),(.v 3),(.v 4),(.v 5),(.v 6),(.v 7),(.v 8),(.v 9),(.v 10)] (.ite (.le (.v 0) (.v 13)) (.callp 1 [(.v 0),(.v 1),(.v 2),(.v 3),(.v 4),(.v 5),(.v 11),(.v 12),(.v 13),(.v 14),(.v 15)] (.ret [(.l2 .snoc (.l2 .snoc .nl (.l2 .cons (.v 19) (.l2 .cons (.v 20) (.l2 .cons (.v 21) (.l2 .cons (.v 22) (.l2 .cons (.v 23) (.l2 .cons (.v 6) (.l2 .cons (.v 7) (.l2 .cons (.v 8) (.l2 .cons (.v 9) (.l2 .cons (.v 10) (.l2 .cons (.v 11) (.l2 .cons (.v 12) (.l2 .cons (.v 13) (.l2 .cons (.v 14) (.l2 .cons (.v 15) .nl)))))))))))))))) (.l2 .cons (.v 19) (.l2 .cons (.v 20) (.l2 .cons (.v 21) (.l2 .cons (.v 22) (.l2 .cons (.v 23) (.l2 .cons (.v 11) (.l2 .cons (.v 12) (.l2 .cons (.v 13) (.l2 .cons (.v 14) (.l2 .cons (.v 15) (.l2 .cons (.v 25) (.l2 .cons (.v 26) (.l2 .cons (.v 27) (.l2 .cons (.v 28) (.l2 .cons (.v 29) .nl)))))))))))))))),(.c 0)]))
(.callp 1 [(.v 0),(.v 11),(.v 12),(.v 13),(.v 14),(.v 15),(.v 6),(.v 7),(.v 8),(.v 9),(.v 10)] (.ret [(.l2 .snoc .nl (.l2 .cons (.v 19) (.l2 .cons (.v 20) (.l2 .cons (.v 21) (.l2 .cons (.v 22) (.l2 .cons (.v 23) (.l2 .cons (.v 6) (.l2 .cons (.v 7) (.l2 .cons (.v 8) (.l2 .cons (.v 9) (.l2 .cons (.v 10) (.l2 .cons (.v 25) (.l2 .cons (.v 26) (.l2 .cons (.v 27) (.l2 .cons (.v 28) (.l2 .cons (.v 29) .nl)))))))))))))))),(.c 0)])))))))))))))
theorem Zt7:Z17 (Zu [] Zxb [] (zs 16) (Zx Try.prog Zbe gl0 Zio 1000 84 [I1,An 15] [Ts,I1]))=Zxc:=by kernel_rfl
theorem Z170:Gok Try.prog Zio:=(more Zli (fix.one ok_cut))
theorem Z171:Zr Zio Zxb:=(Z3 Zgt (Z3 Z16z Za))
theorem Z14f {xs:List Int} (h:xs.length=16):∃ a0 a1 a2 a3 a4 a5 a6 a7 a8 a9 a10 a11 a12 a13 a14 a15,xs=[a0,a1,a2,a3,a4,a5,a6,a7,a8,a9,a10,a11,a12,a13,a14,a15]:=by
 match xs,h with
 | [a0,a1,a2,a3,a4,a5,a6,a7,a8,a9,a10,a11,a12,a13,a14,a15],_=>exact ⟨_,_,_,_,_,_,_,_,_,_,_,_,_,_,_,_,rfl⟩
theorem Z7w {n a0 a1 a2 a3 a4 b0 b1 b2 b3 b4:Int} (hn:Z9n [n]=true) (ha:Zz [a0,a1,a2,a3,a4] 0=true) (hb:Zz [b0,b1,b2,b3,b4] 0=true) (h1:a2 < n) (h2:n≤b2) :
  Zzf [n,a0,a1,a2,a3,a4,b0,b1,b2,b3,b4]=Ztw n [a0,a1,a2,a3,a4] [b0,b1,b2,b3,b4]++[0]:=by
 have e1:Z9n [n,a0,a1,a2,a3,a4,b0,b1,b2,b3,b4]=true:=hn
 have e2:Zz [n,a0,a1,a2,a3,a4,b0,b1,b2,b3,b4] 1=true:=ha
 have e3:Zz [n,a0,a1,a2,a3,a4,b0,b1,b2,b3,b4] 6=true:=hb
 have e4:Z4p [n,a0,a1,a2,a3,a4,b0,b1,b2,b3,b4]=true:=by
  simp only [Z4p,Z18s,Z18g,Z18h]
  exact ⟨h1,h2⟩
 unfold Zzf
 rw [e1,e2,e3,e4]
 rfl
theorem Z11s:Zhv.ok Try.prog:=Sum.okF facts.mixed Z170 Z171 Zt7 rfl (fun _=>rfl) (by
 intro xs hx hp
 obtain ⟨n,a0,a1,a2,a3,a4,b0,b1,b2,b3,b4,c0,c1,c2,c3,c4,rfl⟩:=Z14f hx
 simp only [Zxc,Zio,Z38,Z10t,TX.sat,XB.prop,X.den,Z18k,Z18l,Z18e,Z18f,Z18i,Z18j,Z18g,Z18h,mkS,mkP,and_true,true_and,Z18p,Z18q,not_or,not_and,Z18m,ne_eq,Z18n,Z18o,Zl0,Z29,Z8p,ex6,L2.den]
 have eN:Z9n [n,a0,a1,a2,a3,a4,b0,b1,b2,b3,b4,c0,c1,c2,c3,c4]=Z9n [n]:=rfl
 have eT:nearT [n,a0,a1,a2,a3,a4,b0,b1,b2,b3,b4,c0,c1,c2,c3,c4]=(Zz [a0,a1,a2,a3,a4] 0 && (Zz [b0,b1,b2,b3,b4] 0 && Zz [c0,c1,c2,c3,c4] 0)):=rfl
 have eN':Z9n [n]=true↔¬ (n < 256∨4096 < n):=by simp only [Z9n,Z18s,Z18g]; omega
 unfold Z67
 rw [eN,eT]
 refine ⟨fun h=>?_,fun hn=>?_⟩
 ·rw [if_neg (by rw [eN']; exact not_not_intro h)]
  rfl
 have hN:Z9n [n]=true:=eN'.2 (by omega)
 rw [if_pos hN]
 by_cases ha:Zz [a0,a1,a2,a3,a4] 0=true
 case neg =>
  have ha':=Bool.eq_false_iff.2 ha
  simp only [ha',er,  if_true,if_false,reduceIte,Bool.false_eq_true,Bool.false_and,Bool.and_false,Bool.and_self,TX.sat,XB.prop,X.den,Z18k,Z18l,Z18e,Z18f,Z18i,Z18j,Z18g,Z18h,mkS,mkP,and_true,true_and,Z18p,Z18q,not_or,not_and,Z18m,ne_eq,Z18n,Z18o,Bool.true_and,Z24]
  simp
 by_cases hb:Zz [b0,b1,b2,b3,b4] 0=true
 case neg =>
  have hb':=Bool.eq_false_iff.2 hb
  simp only [hb',er,ha,  if_true,if_false,reduceIte,Bool.false_eq_true,Bool.false_and,Bool.and_false,Bool.and_self,TX.sat,XB.prop,X.den,Z18k,Z18l,Z18e,Z18f,Z18i,Z18j,Z18g,Z18h,mkS,mkP,and_true,true_and,Z18p,Z18q,not_or,not_and,Z18m,ne_eq,Z18n,Z18o,Bool.true_and,Z24]
  simp
 by_cases hc:Zz [c0,c1,c2,c3,c4] 0=true
 case neg =>
  have hc':=Bool.eq_false_iff.2 hc
  simp only [hc',er,ha,hb,  if_true,if_false,reduceIte,Bool.false_eq_true,Bool.false_and,Bool.and_false,Bool.and_self,TX.sat,XB.prop,X.den,Z18k,Z18l,Z18e,Z18f,Z18i,Z18j,Z18g,Z18h,mkS,mkP,and_true,true_and,Z18p,Z18q,not_or,not_and,Z18m,ne_eq,Z18n,Z18o,Bool.true_and,Z24]
  simp
 have hz:er true 8=0:=rfl
 have kab:=Z7w (n:=n) hN ha hb
 have kac:=Z7w (n:=n) hN ha hc
 have kba:=Z7w (n:=n) hN hb ha
 have kbc:=Z7w (n:=n) hN hb hc
 have kca:=Z7w (n:=n) hN hc ha
 have kcb:=Z7w (n:=n) hN hc hb
 simp only [ha,hb,hc,hz,Bool.and_self,if_true,TX.sat,XB.prop,X.den,Z18k,Z18l,Z18e,Z18f,Z18i,Z18j,Z18g,Z18h,mkS,mkP,and_true,true_and,Z18p,Z18q,not_or,not_and,Z18m,ne_eq,Z18n,Z18o]
 unfold Zvy Zkz Zni
 by_cases g0:n≤a2 <;> by_cases g1:n≤b2 <;> by_cases g2:n≤c2
 ·simp only [g0,g1,g2,Int.not_lt.2 g0,Int.not_lt.2 g1,Int.not_lt.2 g2,Z4l,Z6s,Zec,Ztw,TX.sat,XB.prop,X.den,Z18k,Z18l,Z18e,Z18f,Z18i,Z18j,Z18g,Z18h,mkS,mkP,and_true,true_and,Z18p,Z18q,not_or,not_and,Z18m,ne_eq,Z18n,Z18o,Nat.reduceMul,Nat.reduceAdd,decide_true,decide_false,if_true,if_false,reduceIte,Bool.false_eq_true,Z18k,Z18l,List.append_nil,Z4,Z24,true_implies,false_implies,forall_const,Z18n,Z18o,implies_true,iff_false,iff_true]
 ·have g2':=Int.not_le.1 g2
  simp only [kca g2' g0,kcb g2' g1,g0,g1,g2,Int.not_lt.2 g0,Int.not_lt.2 g1,g2',Z4l,Z6s,Zec,Ztw,TX.sat,XB.prop,X.den,Z18k,Z18l,Z18e,Z18f,Z18i,Z18j,Z18g,Z18h,mkS,mkP,and_true,true_and,Z18p,Z18q,not_or,not_and,Z18m,ne_eq,Z18n,Z18o,Nat.reduceMul,Nat.reduceAdd,decide_true,decide_false,if_true,if_false,reduceIte,Bool.false_eq_true,Z18k,Z18l,List.append_nil,Z4,Z24,true_implies,false_implies,forall_const,Z18n,Z18o,implies_true,iff_false,iff_true]
 ·have g1':=Int.not_le.1 g1
  simp only [kba g1' g0,kbc g1' g2,g0,g1,g2,Int.not_lt.2 g0,g1',Int.not_lt.2 g2,Z4l,Z6s,Zec,Ztw,TX.sat,XB.prop,X.den,Z18k,Z18l,Z18e,Z18f,Z18i,Z18j,Z18g,Z18h,mkS,mkP,and_true,true_and,Z18p,Z18q,not_or,not_and,Z18m,ne_eq,Z18n,Z18o,Nat.reduceMul,Nat.reduceAdd,decide_true,decide_false,if_true,if_false,reduceIte,Bool.false_eq_true,Z18k,Z18l,List.append_nil,Z4,Z24,true_implies,false_implies,forall_const,Z18n,Z18o,implies_true,iff_false,iff_true]
 ·have g1':=Int.not_le.1 g1
  have g2':=Int.not_le.1 g2
  simp only [kba g1' g0,kca g2' g0,g0,g1,g2,Int.not_lt.2 g0,g1',g2',Z4l,Z6s,Zec,Ztw,TX.sat,XB.prop,X.den,Z18k,Z18l,Z18e,Z18f,Z18i,Z18j,Z18g,Z18h,mkS,mkP,and_true,true_and,Z18p,Z18q,not_or,not_and,Z18m,ne_eq,Z18n,Z18o,Nat.reduceMul,Nat.reduceAdd,decide_true,decide_false,if_true,if_false,reduceIte,Bool.false_eq_true,Z18k,Z18l,List.append_nil,Z4,Z24,true_implies,false_implies,forall_const,Z18n,Z18o,implies_true,iff_false,iff_true]
 ·have g0':=Int.not_le.1 g0
  simp only [kab g0' g1,kac g0' g2,g0,g1,g2,g0',Int.not_lt.2 g1,Int.not_lt.2 g2,Z4l,Z6s,Zec,Ztw,TX.sat,XB.prop,X.den,Z18k,Z18l,Z18e,Z18f,Z18i,Z18j,Z18g,Z18h,mkS,mkP,and_true,true_and,Z18p,Z18q,not_or,not_and,Z18m,ne_eq,Z18n,Z18o,Nat.reduceMul,Nat.reduceAdd,decide_true,decide_false,if_true,if_false,reduceIte,Bool.false_eq_true,Z18k,Z18l,List.append_nil,Z4,Z24,true_implies,false_implies,forall_const,Z18n,Z18o,implies_true,iff_false,iff_true]
 ·have g0':=Int.not_le.1 g0
  have g2':=Int.not_le.1 g2
  simp only [kab g0' g1,kcb g2' g1,g0,g1,g2,g0',Int.not_lt.2 g1,g2',Z4l,Z6s,Zec,Ztw,TX.sat,XB.prop,X.den,Z18k,Z18l,Z18e,Z18f,Z18i,Z18j,Z18g,Z18h,mkS,mkP,and_true,true_and,Z18p,Z18q,not_or,not_and,Z18m,ne_eq,Z18n,Z18o,Nat.reduceMul,Nat.reduceAdd,decide_true,decide_false,if_true,if_false,reduceIte,Bool.false_eq_true,Z18k,Z18l,List.append_nil,Z4,Z24,true_implies,false_implies,forall_const,Z18n,Z18o,implies_true,iff_false,iff_true]
 ·have g0':=Int.not_le.1 g0
  have g1':=Int.not_le.1 g1
  simp only [kac g0' g2,kbc g1' g2,g0,g1,g2,g0',g1',Int.not_lt.2 g2,Z4l,Z6s,Zec,Ztw,TX.sat,XB.prop,X.den,Z18k,Z18l,Z18e,Z18f,Z18i,Z18j,Z18g,Z18h,mkS,mkP,and_true,true_and,Z18p,Z18q,not_or,not_and,Z18m,ne_eq,Z18n,Z18o,Nat.reduceMul,Nat.reduceAdd,decide_true,decide_false,if_true,if_false,reduceIte,Bool.false_eq_true,Z18k,Z18l,List.append_nil,Z4,Z24,true_implies,false_implies,forall_const,Z18n,Z18o,implies_true,iff_false,iff_true]
 ·have g0':=Int.not_le.1 g0
  have g1':=Int.not_le.1 g1
  have g2':=Int.not_le.1 g2
  simp only [g0,g1,g2,g0',g1',g2',Z4l,Z6s,Zec,Ztw,TX.sat,XB.prop,X.den,Z18k,Z18l,Z18e,Z18f,Z18i,Z18j,Z18g,Z18h,mkS,mkP,and_true,true_and,Z18p,Z18q,not_or,not_and,Z18m,ne_eq,Z18n,Z18o,Nat.reduceMul,Nat.reduceAdd,decide_true,decide_false,if_true,if_false,reduceIte,Bool.false_eq_true,Z18k,Z18l,List.append_nil,Z4,Z24,true_implies,false_implies,forall_const,Z18n,Z18o,implies_true,iff_false,iff_true]
  try trace_state)
theorem Zxd (b:Bool) (x:Int):Zh (iv 0 8) ((if b=true then [x,0] else [cod [],8]).getD 1 0):=by
 cases b
 ·exact ⟨by show (0:Int)≤8; decide,by show (8:Int)≤8; decide⟩
 ·exact ⟨by show (0:Int)≤0; decide,by show (0:Int)≤8; decide⟩
theorem Z172 (xs:List Int):Zq [none,iv 0 8] [(Z67 xs).getD 0 0,(Z67 xs).getD 1 0]:=by
 refine Z1 trivial (Z1 ?_ Z2)
 unfold Z67
 split
 ·exact Zxd _ _
 ·exact ⟨by show (0:Int)≤2; decide,by show (2:Int)≤8; decide⟩
theorem Zxe:Z1i Zhv Zw0:=⟨fun xs h=>h,fun vs xs h hp=>Z172 _⟩
noncomputable def Z11t:List Sum:=[]
def I_bof:List Inf:=[]
def Z173:TX:=(.ite (.or (.eq (.ln (.v 0)) (.c 0)) (.lt (.c 4096) (.ln (.v 0)))) (.ret [(.c 0),(.c 0),(.c 0),(.c 0),(.c 0),(.c 0),(.c 4)])
(.loop 8 [none,none,none,none,none,none,none,none] [(.c 0),(.c 0),(.c 0),(.c 0),(.c 0),(.c 0),(.c 0),(.c 0)] (.ite (.lt (.v 2) (.ln (.v 0))) (.asrt (.le (.c 0) (.v 2)) (.ite (.or (.or (.lt (.l2 .at (.l2 .at (.v 0) (.v 2)) (.c 0)) (.c (-32768))) (.lt (.c 32768) (.l2 .at (.l2 .at (.v 0) (.v 2)) (.c 0)))) (.or (.or (.lt (.l2 .at (.l2 .at (.v 0) (.v 2)) (.c 1)) (.c (-32768))) (.lt (.c 32768) (.l2 .at (.l2 .at (.v 0) (.v 2)) (.c 1)))) (.or (.lt (.l2 .at (.l2 .at (.v 0) (.v 2)) (.c 2)) (.c (-32768))) (.lt (.c 32768) (.l2 .at (.l2 .at (.v 0) (.v 2)) (.c 2)))))) (.ret [(.c 0),(.c 0),(.c 0),(.c 0),(.c 0),(.c 0),(.c 20)])
(.back 0 [(.v 1),(.wr .i64 (.add (.v 2) (.c 1))),(.v 3),(.v 4),(.v 5),(.v 6),(.v 7),(.v 8)])))
(.asrt (.lt (.c 0) (.ln (.v 0))) (.asrt (.le (.c 1) (.ln (.v 0))) (.asrt (.le (.ln (.v 0)) (.ln (.v 0))) (.loop 7 [none,none,none,none,none,none,none] [(.c 0),(.l2 .at (.l2 .at (.v 0) (.c 0)) (.c 0)),(.l2 .at (.l2 .at (.v 0) (.c 0)) (.c 1)),(.l2 .at (.l2 .at (.v 0) (.c 0)) (.c 2)),(.l2 .at (.l2 .at (.v 0) (.c 0)) (.c 0)),(.l2 .at (.l2 .at (.v 0) (.c 0)) (.c 1)),(.l2 .at (.l2 .at (.v 0) (.c 0)) (.c 2))] (.ite (.le (.wr .i64 (.sub (.ln (.v 0)) (.c 1))) (.v 9)) (.ret [(.v 10),(.v 11),(.v 12),(.v 13),(.v 14),(.v 15),(.c 0)])
(.asrt (.le (.c 0) (.v 9)) (.asrt (.le (.c 0) (.wr .i64 (.add (.c 1) (.v 9)))) (.asrt (.lt (.wr .i64 (.add (.c 1) (.v 9))) (.ln (.v 0))) (.back 1 [(.wr .i64 (.add (.v 9) (.c 1))),(.mn (.v 10) (.l2 .at (.l2 .at (.v 0) (.wr .i64 (.add (.c 1) (.v 9)))) (.c 0))),(.mn (.v 11) (.l2 .at (.l2 .at (.v 0) (.wr .i64 (.add (.c 1) (.v 9)))) (.c 1))),(.mn (.v 12) (.l2 .at (.l2 .at (.v 0) (.wr .i64 (.add (.c 1) (.v 9)))) (.c 2))),(.mx (.v 13) (.l2 .at (.l2 .at (.v 0) (.wr .i64 (.add (.c 1) (.v 9)))) (.c 0))),(.mx (.v 14) (.l2 .at (.l2 .at (.v 0) (.wr .i64 (.add (.c 1) (.v 9)))) (.c 1))),(.mx (.v 15) (.l2 .at (.l2 .at (.v 0) (.wr .i64 (.add (.c 1) (.v 9)))) (.c 2)))]))))))))))))
theorem Z11u:Z17 (Zu [] I_bof [] [none] (Zx Try.prog (Zbj Try.prog [(4,20),(11,52)]) gl0 Z11t 1000 97 [Vs] [An 6,I1]))=Z173:=by kernel_rfl
theorem g_bof:Gok Try.prog Z11t:=noG
theorem o_bof:Zr Z11t I_bof:=Za
theorem tn0:Int.toNat 0=0:=rfl
theorem tn1:Int.toNat 1=1:=rfl
theorem tn2:Int.toNat 2=2:=rfl
theorem Zep (x:Int):okP x=true↔((-32768≤co x 0∧co x 0≤32768)∧(-32768≤co x 1∧co x 1≤32768)∧(-32768≤co x 2∧co x 2≤32768)):=by
 unfold okP
 exact decide_eq_true_iff
noncomputable def upto (l:List Int) (i:Nat):List Int:=Z55 (l.take i)
theorem Zb5:∀ l:List Int,(Z55 l).length=6
 | []=>rfl
 | x::l=>by
  have:∀ (l:List Int) (b:List Int),b.length=6→(l.foldl Zsp b).length=6:=by
   intro l
   induction l with
   | nil=>intro b h; exact h
   | cons y l ih=>intro b h; exact ih _ rfl
  exact this l _ rfl
theorem Z11v {l:List Int} (h:0 < l.length):upto l 1=boxV (l.getD 0 0):=by
 match l,h with
 | x::l,_=>rfl
theorem Zxf {l:List Int} {i:Nat} (h1:1≤i) (h2:i < l.length):upto l (i + 1)=Zsp (upto l i) (l.getD i 0):=by
 unfold upto
 rw [List.take_succ_eq_append_getElem h2]
 have:l.take i ≠ []:=by
  intro h
  have:=congrArg List.length h
  rw [List.length_take,List.length_nil] at this
  omega
 match hl:l.take i,this with
 | x::m,_ =>
  simp only [Z18i,Z55,List.foldl_append,List.foldl_cons,List.foldl_nil]
  rw [show l.getD i 0=l[i] by simp [List.getD,h2]]
theorem Z11w (l:List Int):upto l l.length=Z55 l:=by unfold upto; rw [List.take_length]
theorem Z14g {l:List Int} (h:l.length=7):ex7 l=l:=by
 obtain ⟨a0,a1,a2,a3,a4,a5,a6,rfl⟩:=len7 h
 rfl
theorem Z174 (l:List Int):(Zvx l).length=7:=by
 unfold Zvx
 split
 ·split
  ·simp [Zb5]
  ·rfl
 ·rfl
theorem six {l:List Int} (h:l.length=6):l=[l.getD 0 0,l.getD 1 0,l.getD 2 0,l.getD 3 0,l.getD 4 0,l.getD 5 0]:=by
 match l,h with
 | [a,b,c,d,e,f],_=>rfl
theorem Z175 (c:Int):Z173.sat Z11t [] (fun ys=>ys=Zhu [c]) [] [c]:=by
 have hsem:Zhu [c]=Zvx (dec c):=Z14g (Z174 _)
 rw [hsem]
 generalize hl:dec c=l
 simp only [Z173,TX.sat,XB.prop,X.den,L2.den,Z18k,Z18l,Z18g,Z18h,Z18i,Z18j,hl]
 refine ⟨fun h=>?_,fun h=>?_⟩
 ·unfold Zvx
  rw [if_neg (by omega)]
 have hlen:1≤l.length∧l.length≤4096:=by omega
 refine ⟨fun xs=>∃ i:Nat,xs.getD 1 0=(i:Int)∧i≤l.length∧∀ j,j < i→okP (l.getD j 0)=true,fun xs=>l.length - (xs.getD 1 0).toNat,fun xs hx _=>Zv hx,⟨0,rfl,by omega,fun j hj=>by omega⟩,?_⟩
 intro xs hx hI
 obtain ⟨a0,a1,a2,a3,a4,a5,a6,a7,rfl⟩:=len8 hx
 obtain ⟨i,hi,hle,hall⟩:=hI
 simp only [Z18g,Z18h,Z18i,Z18j,Z18e] at hi ⊢
 subst hi
 refine ⟨fun hlt=>⟨by omega,fun hbad=>?_,fun hgood=>?_⟩,fun hge=>⟨by omega,by omega,Int.le_refl _,?_⟩⟩
 ·unfold Zvx
  rw [if_pos hlen,if_neg (Zav (i:=i) (by omega) ?_)]
  rw [Zep]
  simp only [co]
  simp only [Int.toNat_natCast,tn0,tn1,tn2] at hbad
  omega
 ·rw [Z10 (by omega) (by omega)]
  refine ⟨⟨i + 1,by omega,by omega,fun j hj=>?_⟩,by simp only [Int.toNat_natCast]; omega⟩
  rcases Nat.lt_or_ge j i with h1 | h1
  ·exact hall j h1
  ·have:j=i:=by omega
   subst this
   rw [Zep]
   simp only [co]
   simp only [Int.toNat_natCast,tn0,tn1,tn2] at hgood
   omega
 ·have hok:l.all okP=true:=Z7o hall (by omega)
  have hw:IntKind.i64.wrap ((l.length:Int) - 1)=(l.length:Int) - 1:=Z10 (by omega) (by omega)
  refine ⟨fun xs=>∃ i:Nat,xs.getD 0 0=(i:Int)∧i + 1≤l.length∧xs.drop 1=upto l (i + 1),fun xs=>l.length - (xs.getD 0 0).toNat,fun xs hx _=>Zv hx,⟨0,rfl,by omega,?_⟩,?_⟩
  ·rw [Z11v (by omega)]
   simp [boxV,co]
  ·intro ys hy hJ
   obtain ⟨b0,b1,b2,b3,b4,b5,b6,rfl⟩:=len7 hy
   obtain ⟨k,hk,hkl,hbox⟩:=hJ
   simp only [Z18g,Z18h,Z18i,Z18j,Z18e,Z18f,List.drop_succ_cons,List.drop_zero] at hk hbox ⊢
   subst hk
   rw [hw]
   refine ⟨fun hend=>?_,fun hgo=>?_⟩
   ·unfold Zvx
    rw [if_pos hlen,if_pos hok,← Z11w,show l.length=k + 1 by omega,← hbox]
    rfl
   ·have h1:IntKind.i64.wrap (1 + (k:Int))=((k + 1:Nat):Int):=by rw [Z10 (by omega) (by omega)]; omega
    have h2:IntKind.i64.wrap ((k:Int) + 1)=((k + 1:Nat):Int):=by rw [Z10 (by omega) (by omega)]; omega
    rw [h1,h2]
    refine ⟨by omega,by omega,by omega,⟨k + 1,rfl,by omega,?_⟩,by simp only [Int.toNat_natCast]; omega⟩
    rw [Zxf (by omega) (by omega),← hbox]
    simp [Zsp,co]
theorem len1 {xs:List Int} (h:xs.length=1):∃ a,xs=[a]:=by
 match xs,h with
 | [a],_=>exact ⟨a,rfl⟩
theorem ok_bof:Z10u.ok Try.prog:=Sum.okF facts.mixed g_bof o_bof Z11u rfl (fun _=>rfl) (by
 intro xs hx hp
 obtain ⟨a,rfl⟩:=len1 hx
 exact Z175 a)
def in6 (b:List Int):Prop:=∀ j,j < 6→-32768≤b.getD j 0∧b.getD j 0≤32768
theorem Zxg {a0 a1 a2 a3 a4 a5:Int} (h0:-32768≤a0∧a0≤32768) (h1:-32768≤a1∧a1≤32768) (h2:-32768≤a2∧a2≤32768) (h3:-32768≤a3∧a3≤32768) (h4:-32768≤a4∧a4≤32768) (h5:-32768≤a5∧a5≤32768):in6 [a0,a1,a2,a3,a4,a5]:=by
 intro j hj
 match j,hj with
 | 0,_=>exact h0
 | 1,_=>exact h1
 | 2,_=>exact h2
 | 3,_=>exact h3
 | 4,_=>exact h4
 | 5,_=>exact h5
theorem Z11x {l:List Int} (h:l.all okP=true) (hn:l ≠ []):in6 (Z55 l):=by
 match l,hn with
 | x::l,_ =>
  simp only [List.all_cons,Z18r] at h
  have key:∀ (l:List Int) (b:List Int),l.all okP=true→in6 b→in6 (l.foldl Zsp b):=by
   intro l
   induction l with
   | nil=>intro b _ hb; exact hb
   | cons y l ih =>
    intro b hl hb
    simp only [List.all_cons,Z18r] at hl
    have hy:=(Zep y).1 hl.1
    refine ih _ hl.2 ?_
    have q0:=hb 0 (by omega)
    have q1:=hb 1 (by omega)
    have q2:=hb 2 (by omega)
    have q3:=hb 3 (by omega)
    have q4:=hb 4 (by omega)
    have q5:=hb 5 (by omega)
    exact Zxg (by omega) (by omega) (by omega) (by omega) (by omega) (by omega)
  refine key l _ h.2 ?_
  have hx:=(Zep x).1 h.1
  exact Zxg hx.1 hx.2.1 hx.2.2 hx.1 hx.2.1 hx.2.2
theorem of_iv (l:List Int):Zq (ivs 6 (-32768) 32768++[iv 0 20]) (ex7 (Zvx l)):=by
 have key:∀ (b:List Int) (e:Int),b.length=6→in6 b→0≤e∧e≤20→Zq (ivs 6 (-32768) 32768++[iv 0 20]) (ex7 (b++[e])):=by
  intro b e hb h he
  rw [Z14g (by simp [hb])]
  rw [six hb]
  exact Z1 (h 0 (by omega)) (Z1 (h 1 (by omega)) (Z1 (h 2 (by omega)) (Z1 (h 3 (by omega)) (Z1 (h 4 (by omega)) (Z1 (h 5 (by omega)) (Z1 he Z2))))))
 have z6:in6 [0,0,0,0,0,0]:=Zxg (by omega) (by omega) (by omega) (by omega) (by omega) (by omega)
 unfold Zvx
 split
 ·rename_i hlen
  split
  ·rename_i hok
   exact key _ 0 (Zb5 l) (Z11x hok (by intro h; rw [h] at hlen; simp at hlen)) (by omega)
  ·exact key [0,0,0,0,0,0] 20 rfl z6 (by omega)
 ·exact key [0,0,0,0,0,0] 4 rfl z6 (by omega)
theorem Z176:Z1i Z10u i_bof:=⟨fun xs h=>h,fun vs xs h hp=>of_iv _⟩
end Go.Proofs.Ytgcoidbaoigkeaa.fix
namespace Go.Proofs.Ytgcoidbaoigkeaa.fix
open Go.RowKit Go.Sx
noncomputable def Zqk:List Sum:=[]
def Z14h:List Inf:=[]
def Z14i:TX:=(.ite (.or (.or (.le (.v 0) (.c 0)) (.lt (.c 16) (.v 0))) (.or (.or (.le (.v 1) (.c 0)) (.lt (.c 16) (.v 1))) (.not (.eq (.ln (.v 2)) (.mul (.v 0) (.v 1)))))) (.ret [(.c 8)])
(.ret [(.c 0)]))
theorem Zxh:Z17 (Zu [] Z14h [] Zi1 (Zx Try.prog Zbe gl0 Zqk 1000 94 [Tx] [I1]))=Z14i:=by kernel_rfl
theorem g_texc:Gok Try.prog Zqk:=noG
theorem o_texc:Zr Zqk Z14h:=Za
theorem Zxi:Zgm.ok Try.prog:=Sum.okF facts.mixed g_texc o_texc Zxh rfl (fun _=>rfl) (by
 intro xs hx hp
 obtain ⟨w,h,c,rfl⟩:=len3 hx
 simp only [Z14i,Zqk,TX.sat,XB.prop,X.den,Z18k,Z18l,Z18e,Z18f,Z18i,Z18j,Z18g,Z18h,mkS,mkP,and_true,true_and,Z18p,Z18q,not_or,not_and,Z18m,ne_eq,Z18n,Z18o,Zc7,L2.den]
 unfold Zfs er
 refine ⟨fun g=>?_,fun g=>?_⟩
 ·rw [if_neg]
  rw [decide_eq_true_iff]
  omega
 ·rw [if_pos]
  rw [decide_eq_true_iff]
  omega)
theorem Zql:Z1i Zgm Zwb:=⟨fun xs h=>h,fun vs xs h hp=>Z1 (Zvo _ (by omega)) Z2⟩
noncomputable def Zqm:List Sum:=[Zgm]
def Z14j:List Inf:=[Zwb]
def Z14k:TX:=(.ite (.lt (.c 16) (.ln (.v 0))) (.ret [(.c 4)])
(.loop 2 [none,none] [(.c 0),(.c 0)] (.ite (.le (.ln (.v 0)) (.v 2)) (.ret [(.c 0)])
(.asrt (.le (.c 0) (.v 2)) (.call 0 [(.l2 .at (.l2 .at (.v 0) (.v 2)) (.c 0)),(.l2 .at (.l2 .at (.v 0) (.v 2)) (.c 1)),(.l2 .at (.l2 .at (.l2 .at (.v 0) (.v 2)) (.c 2)) (.c 4))] (.ite (.not (.eq (.v 3) (.c 0))) (.ret [(.v 3)])
(.back 0 [(.v 1),(.wr .i64 (.add (.v 2) (.c 1)))])))))))
theorem Zxj:Z17 (Zu [] Z14j [] Zi2 (Zx Try.prog (Zbj Try.prog [(4,12)]) gl0 Zqm 1000 62 [Txs] [I1]))=Z14k:=by kernel_rfl
theorem g_texs:Gok Try.prog Zqm:=(fix.one Zxi)
theorem o_texs:Zr Zqm Z14j:=(Z3 Zql Za)
theorem Z14l {b:Int} (h:Zd Z68 (dec b)):Zq [zz,zz,none] [co b 0,co b 1,ctN (co b 2)]:=by
 have:=Z1m h
 exact Z1 (this.2 0) (Z1 (this.2 1) (Z1 trivial Z2))
theorem Zxk:Zgn.ok Try.prog:=Sum.okPF (pin:=Zi2) facts.mixed g_texs o_texs Zxj rfl (fun _=>rfl) (fun xs h=>h.1) (by
 intro xs hx hp
 obtain ⟨a,rfl⟩:=len1 hx
 have hel:∀ b ∈ dec a,Zd Z68 (dec b):=hp.2
 clear hp
 simp only [Z14k,Zqm,Zgm,TX.sat,XB.prop,X.den,Z18k,Z18l,Z18e,Z18f,Z18i,Z18j,Z18g,Z18h,mkS,mkP,and_true,true_and,Z18p,Z18q,not_or,not_and,Z18m,ne_eq,Z18n,Z18o,Zc8,Zc7,L2.den]
 generalize dec a=l at hel ⊢
 unfold Zeh
 refine ⟨fun h=>?_,fun h=>?_⟩
 ·rw [if_neg (by omega)]
 rw [if_pos (by omega)]
 refine ⟨fun xs=>∃ i:Nat,xs.getD 1 0=(i:Int)∧i≤l.length∧∀ j,j < i→texB (l.getD j 0)=true,fun xs=>l.length - (xs.getD 1 0).toNat,fun xs hx _=>Zv (n:=2) hx,⟨0,rfl,by omega,fun j hj=>by omega⟩,?_⟩
 intro xs hx hI
 obtain ⟨d0,d1,rfl⟩:=Zfh hx
 obtain ⟨i,hi,hle,hall⟩:=hI
 simp only [Z18g,Z18h,Z18i,Z18j] at hi ⊢
 subst hi
 have hco:∀ x j,(dec x).getD j 0=co x j:=fun _ _=>rfl
 have hct:∀ x,co x 4=ctN x:=fun _=>rfl
 simp only [Int.toNat_natCast,hco,show Int.toNat 0=0 from rfl,show Int.toNat 1=1 from rfl,show Int.toNat 2=2 from rfl,show Int.toNat 3=3 from rfl,show Int.toNat 4=4 from rfl,show Int.toNat 5=5 from rfl,hct]
 refine ⟨fun hge=>?_,fun hlt=>?_⟩
 ·rw [if_pos (Z7o hall (by omega))]
 ·have hil:i < l.length:=by omega
  refine ⟨by omega,Z14l (hel _ (Zy hil)),?_⟩
  have hok:texB (l.getD i 0)=Zfs (co (l.getD i 0) 0) (co (l.getD i 0) 1) (ctN (co (l.getD i 0) 2)):=rfl
  rw [← hok]
  by_cases hb:texB (l.getD i 0)=true
  ·refine ⟨fun h=>absurd (if_pos hb) h,fun _=>?_⟩
   have hw:IntKind.i64.wrap ((i:Int) + 1)=((i + 1:Nat):Int):=by rw [Z10 (by omega) (by omega)]; omega
   rw [hw]
   refine ⟨⟨i + 1,rfl,by omega,fun j hj=>?_⟩,by rw [Int.toNat_natCast]; omega⟩
   rcases Nat.lt_or_ge j i with h1 | h1
   ·exact hall j h1
   ·have:j=i:=by omega
    subst this
    exact hb
  ·refine ⟨fun _=>?_,fun h=>?_⟩
   ·rw [if_neg (Zav hil hb)]
    rw [er,if_neg hb]
   ·rw [er,if_neg hb] at h
    exact absurd h (by decide))
theorem Zqn:Z1i Zgn Zwc:=⟨fun xs h=>(Z1k xs h).elim,fun vs xs h hp=>Z1 (by
  show Zh (iv 0 8) (Zeh _)
  unfold Zeh
  split
  ·split
   ·exact ⟨by decide,by decide⟩
   ·exact ⟨by decide,by decide⟩
  ·exact ⟨by decide,by decide⟩) Z2⟩
noncomputable def Zcf:List Sum:=[]
def Zqo:List Inf:=[]
def Zqp:TX:=(.ite (.or (.lt (.v 9) (.c 0)) (.lt (.c 16) (.v 9))) (.ret [(.c 2)])
(.ite (.or (.or (.lt (.v 4) (.c (-1))) (.le (.v 9) (.v 4))) (.or (.lt (.c 2) (.v 5)) (.or (.or (.lt (.v 6) (.c (-1024))) (.lt (.c 1024) (.v 6))) (.or (.lt (.v 8) (.c 0)) (.lt (.c 15) (.v 8)))))) (.ret [(.c 8)])
(.ret [(.c 0)])))
theorem Zo3:Z17 (Zu [] Zqo [] Zaz (Zx Try.prog Zbe gl0 Zcf 1000 96 [Lk,I1] [I1]))=Zqp:=by kernel_rfl
theorem Z11y:Gok Try.prog Zcf:=noG
theorem Z11z:Zr Zcf Zqo:=Za
theorem Zll:Z7t.ok Try.prog:=Sum.okF facts.mixed Z11y Z11z Zo3 rfl (fun _=>rfl) (by
 intro xs hx hp
 obtain ⟨c0,c1,c2,c3,c4,c5,c6,c7,c8,n,rfl⟩:=len10 hx
 simp only [Zqp,Zcf,TX.sat,XB.prop,X.den,Z18k,Z18l,Z18e,Z18f,Z18i,Z18j,Z18g,Z18h,mkS,mkP,and_true,true_and,Z18p,Z18q,not_or,not_and,Z18m,ne_eq,Z18n,Z18o,Z7s,L2.den]
 unfold Zay er
 simp only [TX.sat,XB.prop,X.den,Z18k,Z18l,Z18e,Z18f,Z18i,Z18j,Z18g,Z18h,mkS,mkP,and_true,true_and,Z18p,Z18q,not_or,not_and,Z18m,ne_eq,Z18n,Z18o]
 refine ⟨fun g=>?_,fun g=>⟨fun k=>?_,fun k=>?_⟩⟩
 ·rw [if_neg (by omega)]
 ·rw [if_pos (by omega),if_neg]
  rw [decide_eq_true_iff]
  omega
 ·rw [if_pos (by omega),if_pos]
  rw [decide_eq_true_iff]
  omega)
theorem Zgu:Z1i Z7t Zi3:=⟨fun xs h=>h,fun vs xs h hp=>Z1 (by
  split
  ·exact Zvo _ (by omega)
  ·exact ⟨by decide,by decide⟩) Z2⟩
noncomputable def Zqq:List Sum:=[Z7t,Zc1,Z10u]
def Z14m:List Inf:=[Zi3,Zpn,i_bof]
def Z14n:TX:=(.ite (.or (.lt (.c 64) (.ln (.v 0))) (.or (.not (.eq (.ln (.v 1)) (.ln (.v 0)))) (.lt (.c 64) (.ln (.v 2))))) (.ret [(.c 0)])
(.callp 0 [(.v 3),(.v 4),(.v 5),(.v 6),(.v 7),(.v 8),(.v 9),(.v 10),(.v 11),(.v 18)] (.ite (.not (.eq (.v 19) (.c 0))) (.ret [(.c 0)])
(.loop 2 [none,none] [(.c 0),(.c 0)] (.ite (.lt (.v 21) (.ln (.v 0))) (.asrt (.le (.c 0) (.v 21)) (.call 1 [(.l2 .at (.l2 .at (.v 0) (.v 21)) (.c 0)),(.l2 .at (.l2 .at (.v 0) (.v 21)) (.c 1)),(.l2 .at (.l2 .at (.v 0) (.v 21)) (.c 2))] (.ite (.not (.eq (.v 22) (.c 0))) (.ret [(.c 0)])
(.asrt (.lt (.v 21) (.ln (.v 1))) (.ite (.or (.lt (.mn (.l2 .at (.l2 .at (.v 1) (.v 21)) (.c 0)) (.l2 .at (.l2 .at (.v 1) (.v 21)) (.c 1))) (.c 0)) (.lt (.c 255) (.mx (.l2 .at (.l2 .at (.v 1) (.v 21)) (.c 0)) (.l2 .at (.l2 .at (.v 1) (.v 21)) (.c 1))))) (.ret [(.c 0)])
(.back 0 [(.v 20),(.wr .i64 (.add (.v 21) (.c 1)))]))))))
(.loop 2 [none,none] [(.v 20),(.c 0)] (.ite (.lt (.v 23) (.ln (.v 2))) (.asrt (.le (.c 0) (.v 23)) (.ite (.or (.lt (.mn (.mn (.l2 .at (.l2 .at (.v 2) (.v 23)) (.c 0)) (.l2 .at (.l2 .at (.v 2) (.v 23)) (.c 1))) (.l2 .at (.l2 .at (.v 2) (.v 23)) (.c 2))) (.c 0)) (.le (.ln (.v 0)) (.mx (.mx (.l2 .at (.l2 .at (.v 2) (.v 23)) (.c 0)) (.l2 .at (.l2 .at (.v 2) (.v 23)) (.c 1))) (.l2 .at (.l2 .at (.v 2) (.v 23)) (.c 2))))) (.ret [(.c 0)])
(.back 1 [(.v 22),(.wr .i64 (.add (.v 23) (.c 1)))])))
(.callp 2 [(.v 0)] (.ite (.and (.and (.and (.eq (.v 24) (.v 12)) (.and (.eq (.v 25) (.v 13)) (.eq (.v 26) (.v 14)))) (.and (.eq (.v 27) (.v 15)) (.and (.eq (.v 28) (.v 16)) (.eq (.v 29) (.v 17))))) (.or (.eq (.v 30) (.c 0)) (.eq (.ln (.v 0)) (.c 0)))) (.ret [(.c 1)])
(.ret [(.c 0)]))))))))))
theorem Zxl:Z17 (Zu [] Z14m [] ([none,none,none]++ivs 4 0 255++[zz,iv 0 255,zz,iv 0 1,zz]++zs 7) (Zx Try.prog (Zbj Try.prog [(5,41),(11,85)]) gl0 Zqq 1000 65 [It,I1] [Bo]))=Z14n:=by kernel_rfl
theorem g_imay:Gok Try.prog Zqq:=(more Zll (more Zvs (fix.one ok_bof)))
theorem o_imay:Zr Zqq Z14m:=(Z3 Zgu (Z3 Zsm (Z3 Z176 Za)))
theorem Zo4 {b:Int} (h:Zd Z5r (dec b)):Zq (zs 3) [co b 0,co b 1,co b 2]:=by
 have:=Z1m h
 exact Z1 (this.2 0) (Z1 (this.2 1) (Z1 (this.2 2) Z2))
theorem Zxm {y:List Int} (n:Int):(if 0≤n∧n≤16 then er (Zay y) 8 else 2)=0↔(decide (0≤n∧n≤16) && Zay y)=true:=by
 unfold er
 split
 ·rename_i h
  cases Zay y <;> simp [h]
 ·rename_i h
  simp [h]
theorem Z3f {b:Bool} (h:¬ b=true):b01 b=0:=if_neg h
theorem Zip {b:Bool} (h:b=true):b01 b=1:=if_pos h
theorem okW_P {l:List Int} (h:l.all okW=true):l.all okP=true:=by
 rw [List.all_eq_true] at h ⊢
 intro x hx
 have:=h x hx
 simp only [okW,Zhp,decide_eq_true_iff,Z18g,Z18h,Nat.zero_add] at this
 rw [Zep]
 omega
theorem Z177:Zpy.ok Try.prog:=Sum.okPF (pin:=Zi5) facts.mixed g_imay o_imay Zxl rfl (fun _=>rfl) (fun xs h=>h.1) (by
 intro xs hx hp
 obtain ⟨V,U,T,c3,c4,c5,c6,c7,c8,c9,c10,c11,c12,c13,c14,c15,c16,c17,n,rfl⟩:=len19 hx
 have hel:∀ v ∈ dec V,Zd Z5r (dec v):=hp.2
 have hv:=hp.1
 clear hp
 simp only [Z14n,Zqq,Z7t,Zc1,Z10u,TX.sat,XB.prop,X.den,Z18k,Z18l,Z18e,Z18f,Z18i,Z18j,Z18g,Z18h,mkS,mkP,and_true,true_and,Z18p,Z18q,not_or,not_and,Z18m,ne_eq,Z18n,Z18o,Zi4,Z7s,Zaq,Zhu,ex7,L2.den]
 unfold Zty Z16h Z10z
 simp only [TX.sat,XB.prop,X.den,Z18k,Z18l,Z18e,Z18f,Z18i,Z18j,Z18g,Z18h,mkS,mkP,and_true,true_and,Z18p,Z18q,not_or,not_and,Z18m,ne_eq,Z18n,Z18o]
 generalize dec V=v at hel ⊢
 generalize dec U=u
 generalize dec T=t
 have hlook:=Zxm (y:=[c3,c4,c5,c6,c7,c8,c9,c10,c11,n]) n
 generalize (decide (0≤n∧n≤16) && Zay [c3,c4,c5,c6,c7,c8,c9,c10,c11,n])=F at hlook ⊢
 generalize (if 0≤n∧n≤16 then er (Zay [c3,c4,c5,c6,c7,c8,c9,c10,c11,n]) 8 else 2)=E at hlook ⊢
 refine ⟨fun h=>?_,fun h=>⟨fun hE=>?_,fun hE=>?_⟩⟩
 ·rw [Z3f]
  rw [Z18r,decide_eq_true_iff]
  omega
 ·rw [Z3f]
  rw [Z18r,Z18r]
  exact fun g=>hE (hlook.2 g.2.1)
 have hF:F=true:=hlook.1 hE
 have hA:v.length≤64∧u.length=v.length∧t.length≤64:=by omega
 rw [hF,decide_eq_true hA]
 simp only [Bool.true_and]
 refine ⟨fun xs=>∃ i:Nat,xs.getD 1 0=(i:Int)∧i≤v.length∧(∀ j,j < i→okW (v.getD j 0)=true)∧∀ j,j < i→uvB (u.getD j 0)=true,fun xs=>v.length - (xs.getD 1 0).toNat,fun xs hx _=>Zv (n:=2) hx,⟨0,rfl,by omega,fun j hj=>by omega,fun j hj=>by omega⟩,?_⟩
 intro xs hx hI
 obtain ⟨d0,d1,rfl⟩:=Zfh hx
 obtain ⟨i,hi,hle,hall,hallu⟩:=hI
 simp only [Z18g,Z18h,Z18i,Z18j] at hi ⊢
 subst hi
 have hco:∀ x j,(dec x).getD j 0=co x j:=fun _ _=>rfl
 simp only [Int.toNat_natCast,hco,show Int.toNat 0=0 from rfl,show Int.toNat 1=1 from rfl,show Int.toNat 2=2 from rfl]
 refine ⟨fun hlt=>?_,fun hge=>?_⟩
 ·have hil:i < v.length:=by omega
  refine ⟨by omega,Zo4 (hel _ (Zy hil)),?_⟩
  have hok:okW (v.getD i 0)=Zhp 4096 [co (v.getD i 0) 0,co (v.getD i 0) 1,co (v.getD i 0) 2] 0:=rfl
  rw [← hok]
  by_cases hb:okW (v.getD i 0)=true
  ·refine ⟨fun h=>absurd (if_pos hb) h,fun _=>⟨by omega,fun hbad=>?_,fun hgood=>?_⟩⟩
   ·rw [Z3f]
    rw [Z18r,Z18r]
    intro g
    refine Zav (i:=i) (by omega) ?_ g.2.1
    simp only [uvB,decide_eq_true_iff]
    omega
   ·have hw:IntKind.i64.wrap ((i:Int) + 1)=((i + 1:Nat):Int):=by rw [Z10 (by omega) (by omega)]; omega
    rw [hw]
    refine ⟨⟨i + 1,rfl,by omega,fun j hj=>?_,fun j hj=>?_⟩,by rw [Int.toNat_natCast]; omega⟩
    ·rcases Nat.lt_or_ge j i with h1 | h1
     ·exact hall j h1
     ·have:j=i:=by omega
      subst this
      exact hb
    ·rcases Nat.lt_or_ge j i with h1 | h1
     ·exact hallu j h1
     ·have:j=i:=by omega
      subst this
      simp only [uvB,decide_eq_true_iff]
      omega
  ·refine ⟨fun _=>?_,fun h=>?_⟩
   ·rw [Z3f]
    rw [Z18r]
    exact fun g=>Zav hil hb g.1
   ·rw [er,if_neg hb] at h
    exact absurd h (by decide)
 have hV:v.all okW=true:=Z7o hall (by omega)
 have hU:u.all uvB=true:=Z7o hallu (by omega)
 rw [hV,hU]
 simp only [Bool.true_and]
 refine ⟨fun xs=>∃ i:Nat,xs.getD 1 0=(i:Int)∧i≤t.length∧∀ j,j < i→Zwd v.length (t.getD j 0)=true,fun xs=>t.length - (xs.getD 1 0).toNat,fun xs hx _=>Zv (n:=2) hx,⟨0,rfl,by omega,fun j hj=>by omega⟩,?_⟩
 intro xs hx hI
 obtain ⟨f0,f1,rfl⟩:=Zfh hx
 obtain ⟨k,hk,hkl,hallt⟩:=hI
 simp only [Z18g,Z18h,Z18i,Z18j] at hk ⊢
 subst hk
 simp only [Int.toNat_natCast,hco,show Int.toNat 0=0 from rfl,show Int.toNat 1=1 from rfl,show Int.toNat 2=2 from rfl]
 refine ⟨fun hlt=>⟨by omega,fun hbad=>?_,fun hgood=>?_⟩,fun hend=>?_⟩
 ·rw [Z3f]
  rw [Z18r]
  intro g
  refine Zav (i:=k) (by omega) ?_ g.1
  simp only [Zwd,decide_eq_true_iff]
  omega
 ·have hw:IntKind.i64.wrap ((k:Int) + 1)=((k + 1:Nat):Int):=by rw [Z10 (by omega) (by omega)]; omega
  rw [hw]
  refine ⟨⟨k + 1,rfl,by omega,fun j hj=>?_⟩,by rw [Int.toNat_natCast]; omega⟩
  rcases Nat.lt_or_ge j k with h1 | h1
  ·exact hallt j h1
  ·have:j=k:=by omega
   subst this
   simp only [Zwd,decide_eq_true_iff]
   omega
 have hT:t.all (Zwd v.length)=true:=Z7o hallt (by omega)
 rw [hT]
 simp only [Bool.true_and]
 have hbof:Zvx v=if 1≤v.length then Z55 v++[0] else [0,0,0,0,0,0,4]:=by
  unfold Zvx
  rw [okW_P hV]
  by_cases h1:1≤v.length
  ·rw [if_pos ⟨h1,by omega⟩,if_pos rfl,if_pos h1]
  ·rw [if_neg (fun g=>h1 g.1),if_neg h1]
 have h6:=six (Zb5 v)
 have hz:v.length=0→Z55 v=[0,0,0,0,0,0]:=by
  intro h0
  rw [List.eq_nil_of_length_eq_zero h0]
  rfl
 by_cases h1:1≤v.length
 ·rw [if_pos h1] at hbof
  rw [hbof]
  generalize Z55 v=b at h6 ⊢
  rw [h6]
  simp only [TX.sat,XB.prop,X.den,Z18k,Z18l,Z18e,Z18f,Z18i,Z18j,Z18g,Z18h,mkS,mkP,and_true,true_and,Z18p,Z18q,not_or,not_and,Z18m,ne_eq,Z18n,Z18o,List.cons.injEq,and_true]
  refine ⟨fun g=>?_,fun g=>?_⟩
  ·rw [Zip]
   rw [decide_eq_true_iff]
   omega
  ·rw [Z3f]
   rw [decide_eq_true_iff]
   intro q
   exact (g ⟨⟨by omega,by omega,by omega⟩,by omega,by omega,by omega⟩).1
 ·rw [if_neg h1] at hbof
  rw [hbof,hz (by omega)]
  simp only [TX.sat,XB.prop,X.den,Z18k,Z18l,Z18e,Z18f,Z18i,Z18j,Z18g,Z18h,mkS,mkP,and_true,true_and,Z18p,Z18q,not_or,not_and,Z18m,ne_eq,Z18n,Z18o,List.cons.injEq,and_true]
  refine ⟨fun g=>?_,fun g=>?_⟩
  ·rw [Zip]
   rw [decide_eq_true_iff]
   omega
  ·rw [Z3f]
   rw [decide_eq_true_iff]
   omega)
theorem Z120:Z1i Zpy Z146:=⟨fun xs h=>(Z1k xs h).elim,fun vs xs h hp=>Z1 (Zgj _) Z2⟩
noncomputable def Zcg:List Sum:=[Zgn,Zpy]
def Zqr:List Inf:=[Zwc,Z146]
def Zqs:TX:=(.ite (.or (.lt (.c 256) (.ln (.v 0))) (.lt (.c 16) (.ln (.v 1)))) (.ret [(.c 4)])
(.call 0 [(.v 1)] (.ite (.not (.eq (.v 2) (.c 0))) (.ret [(.c 8)])
(.loop 2 [none,none] [(.c 0),(.c 0)] (.ite (.le (.ln (.v 0)) (.v 4)) (.ret [(.c 0)])
(.asrt (.le (.c 0) (.v 4)) (.call 1 [(.l2 .at (.l2 .at (.l2 .at (.v 0) (.v 4)) (.c 0)) (.c 4)),(.l2 .at (.l2 .at (.l2 .at (.v 0) (.v 4)) (.c 1)) (.c 4)),(.l2 .at (.l2 .at (.l2 .at (.v 0) (.v 4)) (.c 2)) (.c 4)),(.l2 .at (.l2 .at (.v 0) (.v 4)) (.c 3)),(.l2 .at (.l2 .at (.v 0) (.v 4)) (.c 4)),(.l2 .at (.l2 .at (.v 0) (.v 4)) (.c 5)),(.l2 .at (.l2 .at (.v 0) (.v 4)) (.c 6)),(.l2 .at (.l2 .at (.v 0) (.v 4)) (.c 7)),(.l2 .at (.l2 .at (.v 0) (.v 4)) (.c 8)),(.l2 .at (.l2 .at (.v 0) (.v 4)) (.c 9)),(.l2 .at (.l2 .at (.v 0) (.v 4)) (.c 10)),(.l2 .at (.l2 .at (.v 0) (.v 4)) (.c 11)),(.l2 .at (.l2 .at (.v 0) (.v 4)) (.c 12)),(.l2 .at (.l2 .at (.v 0) (.v 4)) (.c 13)),(.l2 .at (.l2 .at (.v 0) (.v 4)) (.c 14)),(.l2 .at (.l2 .at (.v 0) (.v 4)) (.c 15)),(.l2 .at (.l2 .at (.v 0) (.v 4)) (.c 16)),(.l2 .at (.l2 .at (.v 0) (.v 4)) (.c 17)),(.ln (.v 1))] (.ite (.eq (.v 5) (.c 0)) (.ret [(.c 8)])
(.back 0 [(.v 3),(.wr .i64 (.add (.v 4) (.c 1)))])))))))))
theorem Zo5:Z17 (Zu [] Zqr [] Zb1 (Zx Try.prog (Zbj Try.prog [(2,9)]) gl0 Zcg 1000 34 [Sho] [I1]))=Zqs:=by kernel_rfl
theorem Z121:Gok Try.prog Zcg:=(more Zxk (fix.one Z177))
theorem Z122:Zr Zcg Zqr:=(Z3 Zqn (Z3 Z120 Za))
theorem Z178 {b n:Int} (h:Zd Z3d (dec b)) (hn:Zh zz n):Zq Zi5 (Zb0 b n):=by
 have:=Z1m h
 exact Z1 trivial (Z1 trivial (Z1 trivial (Z1 (this.2 3) (Z1 (this.2 4) (Z1 (this.2 5) (Z1 (this.2 6) (Z1 (this.2 7) (Z1 (this.2 8) (Z1 (this.2 9) (Z1 (this.2 10) (Z1 (this.2 11) (Z1 (this.2 12) (Z1 (this.2 13) (Z1 (this.2 14) (Z1 (this.2 15) (Z1 (this.2 16) (Z1 (this.2 17) (Z1 hn Z2))))))))))))))))))
theorem Zeq:Z3q.ok Try.prog:=Sum.okPF (pin:=Zb1) facts.mixed Z121 Z122 Zo5 rfl (fun _=>rfl) (fun xs h=>h.1) (by
 intro xs hx hp
 obtain ⟨I,T,rfl⟩:=Zfh hx
 have hr:Z49 (dec I) (dec T):=hp.2
 clear hp
 simp only [Zqs,Zcg,Zgn,Zpy,TX.sat,XB.prop,X.den,Z18k,Z18l,Z18e,Z18f,Z18i,Z18j,Z18g,Z18h,mkS,mkP,and_true,true_and,Z18p,Z18q,not_or,not_and,Z18m,ne_eq,Z18n,Z18o,Zgo,Zc8,Zi4,L2.den]
 have hpt:Zpx [T]:=⟨Z1 trivial Z2,hr.2⟩
 unfold Z3e
 simp only [TX.sat,XB.prop,X.den,Z18k,Z18l,Z18e,Z18f,Z18i,Z18j,Z18g,Z18h,mkS,mkP,and_true,true_and,Z18p,Z18q,not_or,not_and,Z18m,ne_eq,Z18n,Z18o]
 refine ⟨fun h=>?_,fun h=>⟨hpt,?_⟩⟩
 ·rw [if_neg (by omega)]
 rw [if_pos (by omega)]
 clear hpt
 have hel:=hr.1
 have hlt:(dec T).length≤16:=by omega
 generalize dec T=t at hlt ⊢
 generalize dec I=l at hel h ⊢
 refine ⟨fun hE=>?_,fun hE=>?_⟩
 ·rw [if_neg (fun g=>hE g.1)]
 simp only [hE,true_and]
 refine ⟨fun xs=>∃ i:Nat,xs.getD 1 0=(i:Int)∧i≤l.length∧∀ j,j < i→Zty (Zb0 (l.getD j 0) t.length)=true,fun xs=>l.length - (xs.getD 1 0).toNat,fun xs hx _=>Zv (n:=2) hx,⟨0,rfl,by omega,fun j hj=>by omega⟩,?_⟩
 intro xs hx hI
 obtain ⟨d0,d1,rfl⟩:=Zfh hx
 obtain ⟨i,hi,hle,hall⟩:=hI
 simp only [Z18g,Z18h,Z18i,Z18j] at hi ⊢
 subst hi
 have hco:∀ x j,(dec x).getD j 0=co x j:=fun _ _=>rfl
 have hct:∀ x,co (co x 0) 4=ctN (co x 0)∧co (co x 1) 4=ctN (co x 1)∧co (co x 2) 4=ctN (co x 2):=fun _=>⟨rfl,rfl,rfl⟩
 have tn:∀ k:Nat,Int.toNat (OfNat.ofNat k:Int)=k:=fun _=>rfl
 simp only [Int.toNat_natCast,hco,tn,show Int.toNat 0=0 from rfl,show Int.toNat 1=1 from rfl,show Int.toNat 2=2 from rfl,show Int.toNat 3=3 from rfl,show Int.toNat 4=4 from rfl,show Int.toNat 5=5 from rfl,show Int.toNat 6=6 from rfl,show Int.toNat 7=7 from rfl,show Int.toNat 8=8 from rfl,show Int.toNat 9=9 from rfl,show Int.toNat 10=10 from rfl,show Int.toNat 11=11 from rfl,show Int.toNat 12=12 from rfl,show Int.toNat 13=13 from rfl,show Int.toNat 14=14 from rfl,show Int.toNat 15=15 from rfl,show Int.toNat 16=16 from rfl,show Int.toNat 17=17 from rfl]
 simp only [(hct _).1,(hct _).2.1,(hct _).2.2]
 refine ⟨fun hge=>?_,fun hlt2=>?_⟩
 ·rw [if_pos (Z7o (p:=fun b=>Zty (Zb0 b t.length)) hall (by omega))]
 ·have hil:i < l.length:=by omega
  have hit:=hel _ (Zy hil)
  refine ⟨by omega,⟨Z178 hit.1 (zc _ (by omega) (by omega)),hit.2.1⟩,?_⟩
  have hok:[ctN (co (l.getD i 0) 0),ctN (co (l.getD i 0) 1),ctN (co (l.getD i 0) 2),co (l.getD i 0) 3,co (l.getD i 0) 4,co (l.getD i 0) 5,co (l.getD i 0) 6,co (l.getD i 0) 7,co (l.getD i 0) 8,co (l.getD i 0) 9,co (l.getD i 0) 10,co (l.getD i 0) 11,co (l.getD i 0) 12,co (l.getD i 0) 13,co (l.getD i 0) 14,co (l.getD i 0) 15,co (l.getD i 0) 16,co (l.getD i 0) 17,(t.length:Int)]=Zb0 (l.getD i 0) t.length:=rfl
  rw [hok]
  by_cases hb:Zty (Zb0 (l.getD i 0) t.length)=true
  ·rw [Zip hb]
   refine ⟨fun h=>absurd h (by decide),fun _=>?_⟩
   have hw:IntKind.i64.wrap ((i:Int) + 1)=((i + 1:Nat):Int):=by rw [Z10 (by omega) (by omega)]; omega
   rw [hw]
   refine ⟨⟨i + 1,rfl,by omega,fun j hj=>?_⟩,by rw [Int.toNat_natCast]; omega⟩
   rcases Nat.lt_or_ge j i with h1 | h1
   ·exact hall j h1
   ·have:j=i:=by omega
    subst this
    exact hb
  ·rw [Z3f hb]
   refine ⟨fun _=>?_,fun h=>absurd rfl h⟩
   rw [if_neg (Zav (p:=fun b=>Zty (Zb0 b t.length)) hil hb)])
theorem Zgv:Z1i Z3q Zi6:=⟨fun xs h=>(Z1k xs h).elim,fun vs xs h hp=>Z1 (by
  show Zh (iv 0 8) (Z3e _)
  unfold Z3e
  split
  ·split
   ·exact ⟨by decide,by decide⟩
   ·exact ⟨by decide,by decide⟩
  ·exact ⟨by decide,by decide⟩) Z2⟩
end Go.Proofs.Ytgcoidbaoigkeaa.fix
