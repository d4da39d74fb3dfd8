/-
  Symbolic execution of the model, and what functions of the program come to: part 6.
-/
import Derived.Sort.LotA
import Derived.Shelf.GgSortMore.Stable
import Derived.Below
import Derived.Ground.GgtProg
import Derived.Test.YtgcoidbaoigkeaaGreatDoorProg
import Derived.Test.YtgcoidbaoigkeaaGreatDoorPke
set_option linter.unusedVariables false
set_option linter.unusedSimpArgs false
open List renaming getElem?_cons_zero → Z1ke, getElem?_cons_succ → Z1kf, getD_cons_zero → Z1kg, getD_cons_succ → Z1kh, cons_append → Z1ki, nil_append → Z1kj, map_cons → Z1kk, map_nil → Z1kl
namespace Go.Proofs.YtgcoidbaoigkeaaGreatDoor.stab
open Go.Sort
variable {α:Type} [Inhabited α]
def Rot (d:Array α) (a m b:Nat) (d':Array α):Prop:=d'.size=d.size∧∀ k,d'[k]! = if k < a∨b≤k then d[k]! else if k < a + (b - m) then d[k + (m - a)]! else d[k - (b - m)]!
def Swr (d:Array α) (a b n:Nat) (d':Array α):Prop:=d'.size=d.size∧∀ k,d'[k]! = if a≤k∧k < a + n then d[k + (b - a)]! else if b≤k∧k < b + n then d[k - (b - a)]! else d[k]!
theorem Swr.start (d:Array α) (a b:Nat):Swr d a b 0 d:=⟨rfl,fun k=>by rw [if_neg (by omega),if_neg (by omega)]⟩
theorem Swr.step {d d':Array α} {a b n:Nat} (h:Swr d a b n d') (hab:a + n < b) (hb:b + n < d.size):Swr d a b (n + 1) (swp d' (a + n) (b + n)):=by
 refine ⟨by rw [swp_size]; exact h.1,fun k=>?_⟩
 have hs:=h.1
 by_cases h1:k=a + n
 ·subst h1
  rw [swp_left _ _ _ (by omega) (by omega),h.2,if_neg (by omega),if_neg (by omega),if_pos (by omega)]
  congr 1
  omega
 ·by_cases h2:k=b + n
  ·subst h2
   rw [swp_right _ _ _ (by omega),h.2,if_neg (by omega),if_neg (by omega),if_neg (by omega),if_pos (by omega)]
   congr 1
   omega
  ·rw [swp_other _ _ _ _ h1 h2,h.2]
   by_cases h3:a≤k∧k < a + n
   ·rw [if_pos h3,if_pos (by omega)]
   ·rw [if_neg h3,if_neg (show ¬ (a≤k∧k < a + (n + 1)) by omega)]
    by_cases h4:b≤k∧k < b + n
    ·rw [if_pos h4,if_pos (by omega)]
    ·rw [if_neg h4,if_neg (by omega)]
theorem Rot.front {d d1 d2:Array α} {l m j i:Nat} (h1:Swr d l m j d1) (hi:j < i) (hl:l + i=m) (h2:Rot d1 (l + j) m (m + j) d2):Rot d l m (m + j) d2:=by
 refine ⟨h2.1.trans h1.1,fun k=>?_⟩
 rw [h2.2]
 by_cases c1:k < l∨m + j≤k
 ·rw [if_pos (by omega),if_pos c1,h1.2,if_neg (by omega),if_neg (by omega)]
 ·rw [if_neg c1]
  by_cases c2:k < l + j
  ·rw [if_pos (by omega),h1.2,if_pos (by omega),if_pos (by omega)]
  ·rw [if_neg (by omega),if_neg (by omega:¬ k < l + (m + j - m))]
   by_cases c3:k < l + j + (m + j - m)
   ·rw [if_pos c3,h1.2]
    rw [if_neg (by omega),if_pos (by omega)]
    congr 1
    omega
   ·rw [if_neg c3,h1.2,if_neg (by omega),if_neg (by omega)]
theorem Rot.back {d d1 d2:Array α} {l m j i:Nat} (h1:Swr d l (m + j - i) i d1) (hi:i < j) (hl:l + i=m) (h2:Rot d1 l m (m + j - i) d2):Rot d l m (m + j) d2:=by
 refine ⟨h2.1.trans h1.1,fun k=>?_⟩
 rw [h2.2]
 by_cases c1:k < l∨m + j≤k
 ·rw [if_pos (by omega),if_pos c1,h1.2,if_neg (by omega),if_neg (by omega)]
 ·rw [if_neg c1]
  by_cases c2:m + j - i≤k
  ·rw [if_pos (by omega),if_neg (by omega),h1.2,if_neg (by omega),if_pos (by omega)]
   congr 1
   omega
  ·rw [if_neg (by omega)]
   by_cases c3:k < l + (m + j - i - m)
   ·rw [if_pos c3,if_pos (by omega),h1.2,if_neg (by omega),if_neg (by omega)]
   ·rw [if_neg c3,h1.2,if_pos (by omega)]
    by_cases c4:k < l + (m + j - m)
    ·rw [if_pos c4]
     congr 1
     omega
    ·omega
theorem Rot.even {d d1:Array α} {l m i:Nat} (h1:Swr d l m i d1) (hl:l + i=m):Rot d l m (m + i) d1:=by
 refine ⟨h1.1,fun k=>?_⟩
 rw [h1.2]
 by_cases c1:k < l∨m + i≤k
 ·rw [if_neg (by omega),if_neg (by omega),if_pos c1]
 ·rw [if_neg c1]
  by_cases c2:k < l + (m + i - m)
  ·rw [if_pos (by omega),if_pos c2]
  ·rw [if_neg (by omega),if_pos (by omega),if_neg c2]
   congr 1
   omega
theorem Rot.none {d:Array α} {a m b:Nat} (hm:a≤m∧m≤b) (h:m=a∨m=b):Rot d a m b d:=by
 refine ⟨rfl,fun k=>?_⟩
 by_cases c1:k < a∨b≤k
 ·rw [if_pos c1]
 ·rw [if_neg c1]
  by_cases c2:k < a + (b - m)
  ·rw [if_pos c2]
   congr 1
   omega
  ·rw [if_neg c2]
   congr 1
   omega
theorem Rot.up {d d':Array α} {a k:Nat} (h:Rot d a (a + 1) (k + 1) d') (hak:a≤k) (hk:k + 1 < d.size):Rot d a (a + 1) (k + 2) (swp d' k (k + 1)):=by
 have hs:=h.1
 refine ⟨by rw [swp_size]; exact h.1,fun x=>?_⟩
 by_cases h1:x=k
 ·subst h1
  rw [swp_left _ _ _ (by omega) (by omega),h.2,if_pos (by omega),if_neg (by omega),if_pos (by omega)]
  congr 1
  omega
 ·by_cases h2:x=k + 1
  ·subst h2
   rw [swp_right _ _ _ (by omega),h.2]
   by_cases c:k < a∨k + 1≤k
   ·omega
   ·rw [if_neg c,if_neg (by omega),if_neg (by omega),if_neg (by omega)]
    congr 1
    omega
  ·rw [swp_other _ _ _ _ h1 h2,h.2]
   by_cases c1:x < a∨k + 1≤x
   ·rw [if_pos c1,if_pos (by omega)]
   ·rw [if_neg c1,if_neg (show ¬ (x < a∨k + 2≤x) by omega),if_pos (show x < a + (k + 1 - (a + 1)) by omega),if_pos (show x < a + (k + 2 - (a + 1)) by omega)]
theorem Rot.down {d d':Array α} {k m:Nat} (h:Rot d k m (m + 1) d') (hk:k≤m) (h0:0 < k) (hm:m < d.size):Rot d (k - 1) m (m + 1) (swp d' k (k - 1)):=by
 have hs:=h.1
 refine ⟨by rw [swp_size]; exact h.1,fun x=>?_⟩
 by_cases h1:x=k
 ·subst h1
  rw [swp_left _ _ _ (by omega) (by omega),h.2,if_pos (by omega),if_neg (by omega),if_neg (by omega)]
  congr 1
  omega
 ·by_cases h2:x=k - 1
  ·subst h2
   rw [swp_right _ _ _ (by omega),h.2,if_neg (by omega),if_pos (by omega),if_neg (by omega),if_pos (by omega)]
   congr 1
   omega
  ·rw [swp_other _ _ _ _ h1 h2,h.2]
   by_cases c1:x < k∨m + 1≤x
   ·rw [if_pos c1,if_pos (by omega)]
   ·rw [if_neg c1,if_neg (show ¬ (x < k - 1∨m + 1≤x) by omega),if_neg (show ¬ x < k + (m + 1 - m) by omega),if_neg (show ¬ x < k - 1 + (m + 1 - m) by omega)]
variable {lt:α→α→Bool}
theorem Rot.at1 {d d':Array α} {a m b k:Nat} (h:Rot d a m b d') (h1:a≤k) (h2:k < a + (b - m)) (h3:k < b):d'[k]! = d[k + (m - a)]! := by rw [h.2,if_neg (by omega),if_pos h2]
theorem Rot.at2 {d d':Array α} {a m b k:Nat} (h:Rot d a m b d') (h1:a + (b - m)≤k) (h3:k < b) (h0:a≤k):d'[k]! = d[k - (b - m)]! := by rw [h.2,if_neg (by omega),if_neg (by omega)]
theorem Rot.out {d d':Array α} {a m b k:Nat} (h:Rot d a m b d') (h1:k < a∨b≤k):d'[k]! = d[k]! := by rw [h.2,if_pos h1]
theorem parts {d d1:Array α} {a s m e b mid:Nat} (hA:SortedIn lt a m d) (hB:SortedIn lt m b d) (h:Rot d s m e d1) (h1:a≤s∧s≤m∧m≤e∧e≤b) (hmid:mid=s + (e - m)) :
  SortedIn lt a s d1∧SortedIn lt s mid d1∧SortedIn lt mid e d1∧SortedIn lt e b d1:=by
 refine ⟨fun i j c1 c2 c3=>?_,fun i j c1 c2 c3=>?_,fun i j c1 c2 c3=>?_,fun i j c1 c2 c3=>?_⟩
 ·rw [h.out (by omega),h.out (by omega)]
  exact hA i j c1 c2 (by omega)
 ·rw [h.at1 (k:=i) (by omega) (by omega) (by omega),h.at1 (k:=j) (by omega) (by omega) (by omega)]
  exact hB _ _ (by omega) (by omega) (by omega)
 ·rw [h.at2 (k:=i) (by omega) (by omega) (by omega),h.at2 (k:=j) (by omega) (by omega) (by omega)]
  exact hA _ _ (by omega) (by omega) (by omega)
 ·rw [h.out (by omega),h.out (by omega)]
  exact hB i j (by omega) c2 c3
theorem SortedIn.le_of (hS:SWO lt) {d:Array α} {a b i j:Nat} (h:SortedIn lt a b d) (hi:a≤i) (hij:i≤j) (hj:j < b):lt d[j]! d[i]! = false:=by
 rcases Nat.lt_or_ge i j with c | c
 ·exact h i j hi c hj
 ·have:i=j:=by omega
  subst this
  exact hS.irrefl _
theorem Z18j (hS:SWO lt) {d d1:Array α} {a s m e b mid:Nat} (hA:SortedIn lt a m d) (hB:SortedIn lt m b d) (h:Rot d s m e d1) (h1:a≤s∧s≤m∧m≤e∧e≤b) (hmid:mid=s + (e - m))
  (hlo:s=a∨e=b∨lt d[e]! d[s - 1]! = false) (hhi:s=m∨e=m∨lt d[e - 1]! d[s]! = true):∀ i j,a≤i→i < mid→mid≤j→j < b→lt d1[j]! d1[i]! = false:=by
 have g1:∀ x y,a≤x→x < s→s≤y→y < m→lt d[y]! d[x]! = false:=fun x y q1 q2 q3 q4=>hA x y q1 (by omega) q4
 have g2:∀ x y,a≤x→x < s→e≤y→y < b→lt d[y]! d[x]! = false:=fun x y q1 q2 q3 q4=>by
  have h3:lt d[e]! d[s - 1]! = false:=by
   rcases hlo with h | h | h
   ·omega
   ·omega
   ·exact h
  exact hS.ntrans _ _ _ (SortedIn.le_of hS hB (by omega:m≤e) q3 q4) (hS.ntrans _ _ _ h3 (SortedIn.le_of hS hA q1 (by omega:x≤s - 1) (by omega)))
 have g3:∀ x y,m≤x→x < e→s≤y→y < m→lt d[y]! d[x]! = false:=fun x y q1 q2 q3 q4=>by
  have h3:lt d[e - 1]! d[s]! = true:=by
   rcases hhi with h | h | h
   ·omega
   ·omega
   ·exact h
  have h4:=hS.asymmA h3
  exact hS.ntrans _ _ _ (SortedIn.le_of hS hA (by omega:a≤s) q3 q4) (hS.ntrans _ _ _ h4 (SortedIn.le_of hS hB q1 (by omega:x≤e - 1) (by omega)))
 have g4:∀ x y,m≤x→x < e→e≤y→y < b→lt d[y]! d[x]! = false:=fun x y q1 q2 q3 q4=>hB x y q1 (by omega) q4
 intro i j c1 c2 c3 c4
 by_cases k1:i < s
 ·rw [h.out (k:=i) (by omega)]
  by_cases k2:j < e
  ·rw [h.at2 (k:=j) (by omega) (by omega) (by omega)]
   exact g1 _ _ c1 k1 (by omega) (by omega)
  ·rw [h.out (k:=j) (by omega)]
   exact g2 _ _ c1 k1 (by omega) c4
 ·rw [h.at1 (k:=i) (by omega) (by omega) (by omega)]
  by_cases k2:j < e
  ·rw [h.at2 (k:=j) (by omega) (by omega) (by omega)]
   exact g3 _ _ (by omega) (by omega) (by omega) (by omega)
  ·rw [h.out (k:=j) (by omega)]
   exact g4 _ _ (by omega) (by omega) (by omega) c4
theorem joined {d:Array α} {a mid b:Nat} (h1:SortedIn lt a mid d) (h2:SortedIn lt mid b d) (h3:∀ i j,a≤i→i < mid→mid≤j→j < b→lt d[j]! d[i]! = false):SortedIn lt a b d:=fun i j c1 c2 c3=>by
 by_cases k1:j < mid
 ·exact h1 i j c1 c2 k1
 ·by_cases k2:i < mid
  ·exact h3 i j c1 k2 (by omega) c3
  ·exact h2 i j (by omega) c2 c3
theorem Z63 {d d':Array α} {a b:Nat} (h:SortedIn lt a b d) (he:∀ k,a≤k→k < b→d'[k]! = d[k]!):SortedIn lt a b d':=fun i j c1 c2 c3=>by
 rw [he i c1 (by omega),he j (by omega) c3]
 exact h i j c1 c2 c3
theorem Zli {d:Array α} {a b:Nat} (h:b≤a + 1):SortedIn lt a b d:=fun i j c1 c2 c3=>by omega
theorem Z18k {d d':Array α} {a mid b:Nat} (hm:a≤mid∧mid≤b) (hb:b≤d.size) (h3:∀ i j,a≤i→i < mid→mid≤j→j < b→lt d[j]! d[i]! = false) (hP:PermIn a mid d d'∨PermIn mid b d d'):∀ i j,a≤i→i < mid→mid≤j→j < b→lt d'[j]! d'[i]! = false:=by
 rcases hP with hP | hP
 ·intro i j c1 c2 c3 c4
  rw [hP.2.1 j (by omega)]
  exact permIn_all d d' a mid (fun x=>lt d[j]! x=false) (by omega) hP (fun k q1 q2=>h3 k j q1 q2 c3 c4) i c1 c2
 ·intro i j c1 c2 c3 c4
  rw [hP.2.1 i (by omega)]
  exact permIn_all d d' mid b (fun x=>lt x d[i]! = false) (by omega) hP (fun k q1 q2=>h3 i k c1 c2 q1 q2) j c3 c4
def Z18 (lt:α→α→Bool) (a m b:Nat) (d d':Array α):Prop:=PermIn a b d d'∧(SortedIn lt a m d→SortedIn lt m b d→SortedIn lt a b d')
theorem Zrj (hS:SWO lt) {d d':Array α} {a b i:Nat} (hR:Rot d a (a + 1) i d') (hP:PermIn a b d d') (hi:a + 1≤i∧i≤b) (h1:i=a + 1∨lt d[i - 1]! d[a]! = true) (h2:i=b∨lt d[i]! d[a]! = false):Z18 lt a (a + 1) b d d':=by
 refine ⟨hP,fun hA hB=>?_⟩
 obtain ⟨p1,p2,p3,p4⟩:=parts (mid:=a + (i - (a + 1))) hA hB hR (by omega) rfl
 refine joined p2 (mid:=a + (i - (a + 1))) (joined p3 p4 fun x y c1 c2 c3 c4=>?_) (Z18j hS hA hB hR (by omega) rfl (by omega) (by
  rcases h1 with h | h
  ·exact .inr (.inl h)
  ·exact .inr (.inr h)))
 have hx:x=i - 1:=by omega
 subst hx
 rw [hR.at2 (k:=i - 1) (by omega) (by omega) (by omega),hR.out (k:=y) (by omega),show i - 1 - (i - (a + 1))=a by omega]
 have h3:lt d[i]! d[a]! = false:=by
  rcases h2 with h | h
  ·omega
  ·exact h
 exact hS.ntrans _ _ _ (SortedIn.le_of hS hB (by omega:a + 1≤i) c3 c4) h3
theorem Zuw (hS:SWO lt) {d d':Array α} {a m i:Nat} (hR:Rot d i m (m + 1) d') (hP:PermIn a (m + 1) d d') (hi:a≤i∧i≤m) (h1:i=a∨lt d[m]! d[i - 1]! = false) (h2:i=m∨lt d[m]! d[i]! = true):Z18 lt a m (m + 1) d d':=by
 refine ⟨hP,fun hA hB=>?_⟩
 obtain ⟨p1,p2,p3,p4⟩:=parts (mid:=i + (m + 1 - m)) hA hB hR (by omega) rfl
 refine joined (mid:=i + (m + 1 - m)) (joined p1 p2 fun x y c1 c2 c3 c4=>?_) p3 (Z18j hS hA hB hR (by omega) rfl (by omega) (by
  rcases h2 with h | h
  ·exact .inl h
  ·exact .inr (.inr h)))
 have hy:y=i:=by omega
 subst hy
 rw [hR.out (k:=x) (by omega),hR.at1 (k:=y) (by omega) (by omega) (by omega),show y + (m - y)=m by omega]
 have h3:lt d[m]! d[y - 1]! = false:=by
  rcases h1 with h | h
  ·omega
  ·exact h
 exact hS.ntrans _ _ _ h3 (SortedIn.le_of hS hA c1 (by omega:x≤y - 1) (by omega))
theorem Zlj (hS:SWO lt) {d d1 d2 d3:Array α} {a s m e b mid:Nat} (hsz:b≤d.size) (hR:Rot d s m e d1) (hP:PermIn a b d d1) (h1:a≤s∧s≤m∧m≤e∧e≤b) (hmid:mid=s + (e - m))
  (hlo:s=a∨e=b∨lt d[e]! d[s - 1]! = false) (hhi:s=m∨e=m∨lt d[e - 1]! d[s]! = true)
  (hL:(Z18 lt a s mid d1 d2∨(s=a∨s=mid)∧d2=d1)) (hG:(Z18 lt mid e b d2 d3∨(e=mid∨e=b)∧d3=d2)):Z18 lt a m b d d3:=by
 have q1:PermIn a mid d1 d2:=by
  rcases hL with h | ⟨_,h⟩
  ·exact h.1
  ·rw [h]; exact permIn_refl _ _ _
 have q2:PermIn mid b d2 d3:=by
  rcases hG with h | ⟨_,h⟩
  ·exact h.1
  ·rw [h]; exact permIn_refl _ _ _
 have s1:=hP.1
 have s2:=q1.1
 have s3:=q2.1
 refine ⟨permIn_trans _ _ _ _ _ hP (permIn_trans _ _ _ _ _ (permIn_mono _ _ a mid a b (Nat.le_refl _) (by omega) (by omega) q1) (permIn_mono _ _ mid b a b (by omega) (Nat.le_refl _) (by omega) q2)),fun hA hB=>?_⟩
 obtain ⟨p1,p2,p3,p4⟩:=parts hA hB hR h1 hmid
 have hb:=Z18j hS hA hB hR h1 hmid hlo hhi
 have r1:SortedIn lt a mid d2:=by
  rcases hL with h | ⟨h | h,h'⟩
  ·exact h.2 p1 p2
  ·subst h'; subst h; exact p2
  ·subst h'; rw [← h]; exact p1
 have r2:SortedIn lt mid b d3:=by
  have k3:SortedIn lt mid e d2:=Z63 p3 fun k c1 c2=>q1.2.1 k (by omega)
  have k4:SortedIn lt e b d2:=Z63 p4 fun k c1 c2=>q1.2.1 k (by omega)
  rcases hG with h | ⟨h | h,h'⟩
  ·exact h.2 k3 k4
  ·subst h'; rw [← h]; exact k4
  ·subst h'; rw [← h]; exact k3
 have r3:SortedIn lt a mid d3:=Z63 r1 fun k c1 c2=>q2.2.1 k (by omega)
 exact joined r3 r2 (Z18k (by omega) (by omega) (Z18k (by omega) (by omega) hb (.inl q1)) (.inr q2))
end Go.Proofs.YtgcoidbaoigkeaaGreatDoor.stab
namespace Go.Proofs.YtgcoidbaoigkeaaGreatDoor.stab
open Go.Shelf Go.RowKit Go.Lib Go.Sort
variable {α:Type} [Inhabited α]
def sortWorld (enc:α→Value) (w:World) (blk off n:Nat) (dk:Array α) (os:Array Obj):World:=Sort.grow (putRow enc { w with drawn:=n } blk off dk) os
def SW (enc:α→Value) (w0:World) (blk off:Nat) (dk:Array α) (W:World):Prop:=∃ n os,W=sortWorld enc w0 blk off n dk os
section
variable {enc:α→Value} {w0 W:World} {blk off:Nat} {dk:Array α}
theorem Zrk (enc:α→Value) (w:World) (blk off n m:Nat) (dk dk':Array α) (os os':Array Obj) (hblk:blk < w.heap.size) (h:dk'.size=dk.size) :
  sortWorld enc (sortWorld enc w blk off n dk os) blk off m dk' os'=sortWorld enc w blk off m dk' (os++os'):=by
 unfold sortWorld
 show Sort.grow (putRow enc (Sort.grow (putRow enc { w with drawn:=m } blk off dk) os) blk off dk') os'=_
 rw [putRow_grow enc _ os blk off dk' (by rw [size_putRow]; exact hblk),putRow_putRow enc _ blk off dk dk' h,grow_grow]
theorem SW.start (h:Holds enc w0 blk off dk):SW enc w0 blk off dk w0:=⟨w0.drawn,#[],by unfold sortWorld; rw [grow_empty]; exact (putRow_self enc w0 blk off dk h).symm⟩
theorem SW.alloc (h:SW enc w0 blk off dk W) (o:Obj):SW enc w0 blk off dk (W.alloc o):=by
 obtain ⟨n,os,rfl⟩:=h
 exact ⟨n,os++#[o],by unfold sortWorld; rw [alloc_eq_grow,grow_grow]⟩
theorem SW.le (h:SW enc w0 blk off dk W):w0.heap.size≤W.heap.size:=by
 obtain ⟨n,os,rfl⟩:=h
 unfold sortWorld
 rw [size_grow,size_putRow]
 show w0.heap.size≤w0.heap.size + _
 omega
theorem SW.on (h:SW enc w0 blk off dk W) (hblk:blk < w0.heap.size) (m:Nat) (dk':Array α) (os':Array Obj) (hs:dk'.size=dk.size):SW enc w0 blk off dk' (sortWorld enc W blk off m dk' os'):=by
 obtain ⟨n,os,rfl⟩:=h
 exact ⟨m,_,Zrk enc w0 blk off n m dk dk' os os' hblk hs⟩
theorem SW.holds (h:SW enc w0 blk off dk W) (hblk:blk < w0.heap.size) {d0:Array α} (h0:Holds enc w0 blk off d0) (hs:dk.size=d0.size):Holds enc W blk off dk:=by
 obtain ⟨n,os,rfl⟩:=h
 unfold sortWorld
 rw [← putRow_grow enc { w0 with drawn:=n } os blk off dk hblk]
 exact holds_putRow enc _ blk off d0 dk (holds_grow enc _ _ blk off d0 hblk h0) hs
theorem SW.lt (h:SW enc w0 blk off dk W) (hblk:blk < w0.heap.size):blk < W.heap.size:=Nat.lt_of_lt_of_le hblk h.le
theorem SW.swap (h:SW enc w0 blk off dk W) (hblk:blk < w0.heap.size) (i j:Nat) (hi:i < dk.size) (hj:j < dk.size) :
  SW enc w0 blk off (swp dk i j) ((W.setCell ⟨blk,off + i,none⟩ (enc dk[j]!)).setCell ⟨blk,off + j,none⟩ (enc dk[i]!)):=by
 obtain ⟨n,os,rfl⟩:=h
 refine ⟨n,os,?_⟩
 unfold sortWorld
 rw [← putRow_grow enc { w0 with drawn:=n } os blk off dk hblk,putRow_swp enc _ blk off dk i j hi hj,putRow_grow enc { w0 with drawn:=n } os blk off _ hblk]
end
theorem Zd3 (enc:α→Value) (w:World) (o:Obj) (blk off n:Nat) (X:Array α) (hblk:blk < w.heap.size):putRow enc (Sort.ahead (w.alloc o) n) blk off X=sortWorld enc w blk off (w.drawn + n) X #[o]:=by
 unfold sortWorld
 rw [alloc_eq_grow,ahead_grow,putRow_grow enc (Sort.ahead w n) _ blk off _ hblk]
 rfl
def Grew (W W':World):Prop:=∃ n os,W'=Sort.grow { W with drawn:=n } os
theorem Grew.refl (W:World):Grew W W:=⟨W.drawn,#[],by rw [grow_empty]⟩
theorem Grew.of_below {W W':World} (h:Below W.heap.size W W'):Grew W W':=by
 refine ⟨W'.drawn,W'.heap.extract W.heap.size W'.heap.size,?_⟩
 have hh:W'.heap=W.heap++W'.heap.extract W.heap.size W'.heap.size:=by
  apply Array.ext_getElem?
  intro i
  by_cases hi:i < W.heap.size
  ·rw [h.block i hi,Array.getElem?_append_left hi]
  ·rw [Array.getElem?_append_right (by omega)]
   have hsz:=h.size
   by_cases hi2:i < W'.heap.size
   ·rw [Array.getElem?_extract_of_lt (by omega),Array.getElem?_eq_getElem hi2]
    congr 2
    omega
   ·rw [Array.getElem?_eq_none (by omega),Array.getElem?_eq_none (by simp; omega)]
 cases W' with
 | mk heap tape drawn os output =>
  cases W with
  | mk heap' tape' drawn' os' output' =>
   have h1:=h.os
   have h2:=h.tape
   have h3:=h.output
   simp only at h1 h2 h3 hh
   subst h1 h2 h3
   simp only [Sort.grow]
   rw [← hh]
theorem Z5n {enc:α→Value} {w0 W W':World} {blk off:Nat} {dk:Array α} (h:SW enc w0 blk off dk W) (hG:Grew W W'):SW enc w0 blk off dk W':=by
 obtain ⟨q,os',rfl⟩:=hG
 obtain ⟨n,os,rfl⟩:=h
 exact ⟨q,os++os',by unfold sortWorld; rw [← grow_grow]; rfl⟩
end Go.Proofs.YtgcoidbaoigkeaaGreatDoor.stab
namespace Go.Proofs.YtgcoidbaoigkeaaGreatDoor.stab
open Go.Shelf Go.RowKit Go.Lib Go.Sort
variable {P:Program} {ρ:Ren} {α:Type} [Inhabited α]
set_option maxHeartbeats 1600000 in
set_option maxRecDepth 1000000 in
theorem Zo1 (L:LaysGt.n49 P ρ) (enc:α→Value) (lf:Fn) (la lb:Array Value) (sf:Nat) (sb:Array Value) (blk off a b n:Nat) (d:Array α) (w:World)
  (hswap:SwapSwaps P sf sb enc blk off d.size) (hH:Holds enc w blk off d) (hblk:blk < w.heap.size) (hab:a + n≤b) (hb:b + n≤d.size) (hsz:d.size < 4611686018427387904) :
  Calls P (ρ.f 49) #[.agg #[.func lf la lb,.func (.func sf) #[] sb],.int .i64 a,.int .i64 b,.int .i64 n] w fun e w'=>e=.returned (.tuple #[])∧∃ m d',w'=putRow enc (Sort.ahead (w.alloc (.cells #[.func lf la lb,.func (.func sf) #[] sb] (ρ.t 42))) m) blk off d'∧Swr d a b n d'∧PermIn a (b + n) d d':=by
 have mixed:=L.mixed; have t0:=L.t0; have a0:=L.a0; have z0:=L.z0; have v0:=L.v0; have t3:=L.t3; have a3:=L.a3; have z3:=L.z3; have v3:=L.v3; have t4:=L.t4; have a4:=L.a4; have z4:=L.z4; have v4:=L.v4; have t26:=L.t26; have a26:=L.a26; have z26:=L.z26; have v26:=L.v26; have t38:=L.t38; have a38:=L.a38; have z38:=L.z38; have v38:=L.v38; have t42:=L.t42; have a42:=L.a42; have z42:=L.z42; have v42:=L.v42
 have u42:=run_underlying L.t42
 have hH1:Holds enc (w.alloc (.cells #[.func lf la lb,.func (.func sf) #[] sb] (ρ.t 42))) blk off d:=by rw [alloc_eq_grow]; exact holds_grow enc w _ blk off d hblk hH
 go_enter L.f49,BodyGt.n49_ntmps ρ
 go_wp2
 go_loopg [8] n (fun k s8 wr=>∃ (i m:Nat) (dk:Array α),s8=.int .i64 i∧i + k=n∧wr=putRow enc (Sort.ahead (w.alloc (.cells #[.func lf la lb,.func (.func sf) #[] sb] (ρ.t 42))) m) blk off dk∧Swr d a b i dk∧PermIn a (b + n) d dk)
 case atStart=>exact ⟨0,0,d,rfl,by omega,(putRow_self enc _ blk off d hH1).symm,Swr.start d a b,permIn_refl _ _ _⟩
 case round =>
  obtain ⟨i,m,dk,rfl,hk,hwr,hS,hP⟩:=hrel
  have hds:dk.size=d.size:=hS.1
  by_cases hlt:i < n
  ·have hHk:Holds enc wr blk off dk:=by rw [hwr]; exact holds_putRow enc _ blk off d dk (holds_ahead enc _ m blk off d hH1) hds
   have c1:wr.cell? ⟨w.heap.size,1,none⟩=some (.func (.func sf) #[] sb):=by
    rw [hwr,cell?_putRow_other enc _ blk off dk _ (Or.inl (by show w.heap.size ≠ blk; omega))]; show ((w.alloc (.cells #[.func lf la lb,.func (.func sf) #[] sb] (ρ.t 42)))).cell? _=_; simp
   have hs:=hswap wr dk hHk hds (a + i) (b + i) (by omega) (by omega)
   rw [show (((a + i:Nat):Int))=(a:Int) + i by omega,show (((b + i:Nat):Int))=(b:Int) + i by omega] at hs
   have A:Aside (wr=putRow enc (Sort.ahead (w.alloc (.cells #[.func lf la lb,.func (.func sf) #[] sb] (ρ.t 42))) m) blk off dk∧Swr d a b i dk∧PermIn a (b + n) d dk):=⟨hwr,hS,hP⟩
   clear hwr hHk hH hH1 hswap hS hP
   go_wp2
   go_roundg (gk - 1)
   case measure=>omega
   case rel =>
    obtain ⟨hwr,hS,hP⟩:=A.out
    exact ⟨i + 1,m,swp dk (a + i) (b + i),by simp,by omega,
     by rw [hwr,← putRow_swp enc _ blk off dk (a + i) (b + i) (by omega) (by omega)],
     hS.step (by omega) (by omega),permIn_trans _ _ _ _ _ hP (swp_permIn _ _ _ _ _ (by omega) (by omega) (by omega) (by omega) (by omega))⟩
  ·go_wp2
   go_end0
   have:i=n:=by omega
   subst this
   exact ⟨rfl,m,dk,rfl,hS,hP⟩
theorem Zux (L:LaysGt.n49 P ρ) (enc:α→Value) (lf:Fn) (la lb:Array Value) (sf:Nat) (sb:Array Value) (blk off a b n:Nat) (d:Array α) (w:World)
  (hswap:SwapSwaps P sf sb enc blk off d.size) (hH:Holds enc w blk off d) (hblk:blk < w.heap.size) (hab:a + n≤b) (hb:b + n≤d.size) (hsz:d.size < 4611686018427387904) :
  Calls P (ρ.f 49) #[.agg #[.func lf la lb,.func (.func sf) #[] sb],.int .i64 a,.int .i64 b,.int .i64 n] w fun e w'=>e=.returned (.tuple #[])∧∃ m os d',w'=sortWorld enc w blk off m d' os∧Swr d a b n d'∧PermIn a (b + n) d d' :=
 (Zo1 L enc lf la lb sf sb blk off a b n d w hswap hH hblk hab hb hsz).mono fun _ _ ⟨he,m,d',hw,h1,h2⟩=>⟨he,_,_,d',hw.trans (Zd3 enc w _ blk off m _ hblk),h1,h2⟩
end Go.Proofs.YtgcoidbaoigkeaaGreatDoor.stab
namespace Go.Proofs.YtgcoidbaoigkeaaGreatDoor.stab
open Go.Shelf Go.RowKit Go.Lib Go.Sort
variable {P:Program} {ρ:Ren} {α:Type} [Inhabited α]
def Dat (bx:Nat) (f0 f1:Value) (W:World):Prop:=bx < W.heap.size∧W.cell? ⟨bx,0,none⟩=some f0∧W.cell? ⟨bx,1,none⟩=some f1
theorem Z18l (enc:α→Value) (w:World) (blk off n:Nat) (dk:Array α) (os:Array Obj) (k i:Nat) (hk:k < w.heap.size) (hne:k ≠ blk):(sortWorld enc w blk off n dk os).cell? ⟨k,i,none⟩=w.cell? ⟨k,i,none⟩:=by
 unfold sortWorld
 rw [cell?_grow _ _ _ (by rw [size_putRow]; exact hk),cell?_putRow_other enc _ blk off _ _ (Or.inl hne)]
 rfl
theorem Z1jm (enc:α→Value) (w:World) (blk off n:Nat) (dk:Array α) (os:Array Obj):w.heap.size≤(sortWorld enc w blk off n dk os).heap.size:=by
 unfold sortWorld
 rw [size_grow,size_putRow]
 show w.heap.size≤w.heap.size + _
 omega
theorem Dat.on {bx:Nat} {f0 f1:Value} {W:World} (h:Dat bx f0 f1 W) (enc:α→Value) (blk off n:Nat) (dk:Array α) (os:Array Obj) (hne:bx ≠ blk):Dat bx f0 f1 (sortWorld enc W blk off n dk os) :=
 ⟨Nat.lt_of_lt_of_le h.1 (Z1jm enc W blk off n dk os),by rw [Z18l enc W blk off n dk os bx 0 h.1 hne]; exact h.2.1,by rw [Z18l enc W blk off n dk os bx 1 h.1 hne]; exact h.2.2⟩
theorem Dat.set {bx:Nat} {f0 f1:Value} {W:World} (h:Dat bx f0 f1 W) (a:Addr) (v:Value) (ha:a.block ≠ bx):Dat bx f0 f1 (W.setCell a v):=by
 refine ⟨by simpa using h.1,?_,?_⟩
 ·rw [World.cell?_setCell_other]
  ·exact h.2.1
  ·intro e; exact ha (by rw [e])
 ·rw [World.cell?_setCell_other]
  ·exact h.2.2
  ·intro e; exact ha (by rw [e])
theorem Dat.start (w:World) (f0 f1:Value) (t:TypeId):Dat w.heap.size f0 f1 (w.alloc (.cells #[f0,f1] t)):=⟨by simp,by simp,by simp⟩
theorem Dat.grew {bx:Nat} {f0 f1:Value} {W W':World} (h:Dat bx f0 f1 W) (hG:Grew W W'):Dat bx f0 f1 W':=by
 obtain ⟨q,os,rfl⟩:=hG
 obtain ⟨h1,h2,h3⟩:=h
 refine ⟨by rw [size_grow]; exact Nat.lt_of_lt_of_le h1 (Nat.le_add_right _ _),?_,?_⟩
 ·rw [cell?_grow _ _ _ (by exact h1)]; exact h2
 ·rw [cell?_grow _ _ _ (by exact h1)]; exact h3
def LessG (P:Program) (g:Nat) (lb:Array Value) (enc:α→Value) (lt:α→α→Bool) (blk off size:Nat) (w:World):Prop :=
  ∀ (W:World) (dk:Array α),SW enc w blk off dk W→dk.size=size→∀ i j:Nat,i < size→j < size →
    Calls P g (#[.int .i64 i,.int .i64 j]++lb) W fun e w'=>e=.returned (.bool (lt dk[i]! dk[j]!))∧Grew W w'
theorem Zd4 {P:Program} {enc:α→Value} {w0 W:World} {blk off:Nat} {dk:Array α} {g:Nat} {lb:Array Value} {lt:α→α→Bool} {size:Nat} (h:SW enc w0 blk off dk W) (hL:LessG P g lb enc lt blk off size w0) (hs:dk.size=size) (i j:Nat) (hi:i < size) (hj:j < size) :
  Calls P g (#[.int .i64 i,.int .i64 j]++lb) W fun e w'=>e=.returned (.bool (lt dk[i]! dk[j]!))∧Grew W w':=hL W dk h hs i j hi hj
theorem Zd5 {P:Program} {enc:α→Value} {w0 W:World} {blk off:Nat} {dk:Array α} {g:Nat} {lb:Array Value} {lt:α→α→Bool} {size:Nat} (h:SW enc w0 blk off dk W) (hL:LessG P g lb enc lt blk off size w0) (hblk:blk < w0.heap.size) (hs:dk.size=size):LessG P g lb enc lt blk off size W:=fun W' dk' h' hs' i j hi hj=>by
 obtain ⟨n,os,rfl⟩:=h'
 exact hL _ dk' (h.on hblk n dk' os (hs'.trans hs.symm)) hs' i j hi hj
theorem LessG.grow {P:Program} {enc:α→Value} {w:World} {blk off:Nat} {g:Nat} {lb:Array Value} {lt:α→α→Bool} {size:Nat} (hL:LessG P g lb enc lt blk off size w) (hblk:blk < w.heap.size) (os0:Array Obj):LessG P g lb enc lt blk off size (Sort.grow w os0):=fun W' dk' h' hs' i j hi hj=>by
 obtain ⟨n,os,rfl⟩:=h'
 refine hL _ dk' ⟨n,os0++os,?_⟩ hs' i j hi hj
 unfold sortWorld
 show Sort.grow (putRow enc (Sort.grow { w with drawn:=n } os0) blk off dk') os=_
 rw [putRow_grow enc { w with drawn:=n } _ blk off _ hblk,grow_grow]
set_option maxHeartbeats 1600000 in
set_option maxRecDepth 1000000 in
theorem Zyf (L:LaysGt.n42 P ρ) (enc:α→Value) (lf:Fn) (la lb:Array Value) (sf:Nat) (sb:Array Value) (blk off a m b:Nat) (d:Array α) (w:World)
  (hswap:SwapSwaps P sf sb enc blk off d.size) (hH:Holds enc w blk off d) (hblk:blk < w.heap.size) (ham:a < m) (hmb:m < b) (hb:b≤d.size) (hsz:d.size < 4611686018427387904) :
  Calls P (ρ.f 42) #[.agg #[.func lf la lb,.func (.func sf) #[] sb],.int .i64 a,.int .i64 m,.int .i64 b] w fun e w'=>e=.returned (.tuple #[])∧∃ n os d',w'=sortWorld enc w blk off n d' os∧Rot d a m b d'∧PermIn a b d d':=by
 have mixed:=L.mixed; have t0:=L.t0; have a0:=L.a0; have z0:=L.z0; have v0:=L.v0; have t3:=L.t3; have a3:=L.a3; have z3:=L.z3; have v3:=L.v3; have t4:=L.t4; have a4:=L.a4; have z4:=L.z4; have v4:=L.v4; have t26:=L.t26; have a26:=L.a26; have z26:=L.z26; have v26:=L.v26; have t38:=L.t38; have a38:=L.a38; have z38:=L.z38; have v38:=L.v38; have t42:=L.t42; have a42:=L.a42; have z42:=L.z42; have v42:=L.v42
 have u42:=run_underlying L.t42
 have e49:∀ args w,(callFunc (ρ.f 49) args).run P w=.ok (.enter (ρ.f 49) args) w:=enters_of L.f49 (by kernel_rfl) rfl
 have LS:LaysGt.n49 P ρ:={ L with }
 have hSW:=(SW.start hH).alloc (.cells #[.func lf la lb,.func (.func sf) #[] sb] (ρ.t 42))
 have hD:=Dat.start w (.func lf la lb) (.func (.func sf) #[] sb) (ρ.t 42)
 have hne:w.heap.size ≠ blk:=by omega
 go_enter L.f42,BodyGt.n42_ntmps ρ
 go_wp2
 go_loopg [8,9] (b - a) (fun k s8 s9 wr=>∃ (i j:Nat) (dk:Array α),s8=.int .i64 i∧s9=.int .i64 j∧0 < i∧0 < j∧a + i≤m∧m + j≤b∧i + j≤k∧SW enc w blk off dk wr∧Dat w.heap.size (.func lf la lb) (.func (.func sf) #[] sb) wr ∧
  (∀ d',Rot dk (m - i) m (m + j) d'→Rot d a m b d')∧PermIn a b d dk)
 case atStart=>exact ⟨m - a,b - m,d,by congr 1; omega,by congr 1; omega,by omega,by omega,by omega,by omega,by omega,hSW,hD,fun d' h=>by rwa [show m - (m - a)=a by omega,show m + (b - m)=b by omega] at h,permIn_refl _ _ _⟩
 case round =>
  obtain ⟨i,j,dk,rfl,rfl,hi0,hj0,hi,hj,hk,hS,hDk,hRo,hP⟩:=hrel
  have hds:dk.size=d.size:=hP.1
  have hHk:Holds enc wr blk off dk:=hS.holds hblk hH hds
  have hbk:blk < wr.heap.size:=hS.lt hblk
  obtain ⟨q0,c0,c1⟩:=hDk
  have sw:∀ (a' b' n':Nat),a' + n'≤b'→b' + n'≤dk.size→Calls P (ρ.f 49) #[.agg #[.func lf la lb,.func (.func sf) #[] sb],.int .i64 a',.int .i64 b',.int .i64 n'] wr fun e w'=>e=.returned (.tuple #[])∧∃ m os d',w'=sortWorld enc wr blk off m d' os∧Swr dk a' b' n' d'∧PermIn a' (b' + n') dk d' :=
   fun a' b' n' h1 h2=>Zux LS enc lf la lb sf sb blk off a' b' n' dk wr (by rw [hds]; exact hswap) hHk hbk h1 h2 (by omega)
  have A:Aside (SW enc w blk off dk wr∧Dat w.heap.size (.func lf la lb) (.func (.func sf) #[] sb) wr∧(∀ d',Rot dk (m - i) m (m + j) d'→Rot d a m b d')∧PermIn a b d dk∧dk.size=d.size):=⟨hS,⟨q0,c0,c1⟩,hRo,hP,hds⟩
  have hdb:b≤dk.size:=by omega
  have hdz:dk.size < 4611686018427387904:=by omega
  clear hS hRo hP hds hHk hbk hswap hH hSW hD
  by_cases hij:i=j
  ·subst hij
   have hc:=sw (m - i) m i (by omega) (by omega)
   rw [show (((m - i:Nat):Int))=(m:Int) - i by omega] at hc
   clear sw
   go_wp2_with (go_at_fn (ρ.f 49); refine hc.mono ?_; rintro e w1 ⟨rfl,n,os,d1,rfl,h1,h2⟩)
   go_end0
   obtain ⟨hS,hDk,hRo,hP,hds⟩:=A.out
   obtain ⟨n',os',e'⟩:=hS.on hblk n d1 os h2.1
   exact ⟨rfl,n',os',d1,e',hRo d1 (Rot.even h1 (by omega)),permIn_trans _ _ _ _ _ hP (permIn_mono _ _ _ _ _ _ (by omega) (by omega) (by omega) h2)⟩
  ·by_cases hgt:j < i
   ·have hc:=sw (m - i) m j (by omega) (by omega)
    rw [show (((m - i:Nat):Int))=(m:Int) - i by omega] at hc
    clear sw
    go_wp2_with (go_at_fn (ρ.f 49); refine hc.mono ?_; rintro e w1 ⟨rfl,n,os,d1,rfl,h1,h2⟩)
    go_roundg (i - j + j)
    case measure=>omega
    case rel =>
     obtain ⟨hS,hDk,hRo,hP,hds⟩:=A.out
     exact ⟨i - j,j,d1,by congr 1; omega,rfl,by omega,by omega,by omega,by omega,by omega,hS.on hblk n d1 os h2.1,hDk.on enc blk off n d1 os hne,
      fun d' h=>hRo d' (Rot.front (i:=i) h1 hgt (by omega) (by rwa [show m - (i - j)=m - i + j by omega] at h)),permIn_trans _ _ _ _ _ hP (permIn_mono _ _ _ _ _ _ (by omega) (by omega) (by omega) h2)⟩
   ·have hc:=sw (m - i) (m + j - i) i (by omega) (by omega)
    rw [show (((m - i:Nat):Int))=(m:Int) - i by omega,show (((m + j - i:Nat):Int))=(m:Int) + j - i by omega] at hc
    clear sw
    go_wp2_with (go_at_fn (ρ.f 49); refine hc.mono ?_; rintro e w1 ⟨rfl,n,os,d1,rfl,h1,h2⟩)
    go_roundg (i + (j - i))
    case measure=>omega
    case rel =>
     obtain ⟨hS,hDk,hRo,hP,hds⟩:=A.out
     exact ⟨i,j - i,d1,rfl,by congr 1; omega,by omega,by omega,by omega,by omega,by omega,hS.on hblk n d1 os h2.1,hDk.on enc blk off n d1 os hne,
      fun d' h=>hRo d' (Rot.back (i:=i) h1 (by omega) (by omega) (by rwa [show m + (j - i)=m + j - i by omega] at h)),permIn_trans _ _ _ _ _ hP (permIn_mono _ _ _ _ _ _ (by omega) (by omega) (by omega) h2)⟩
end Go.Proofs.YtgcoidbaoigkeaaGreatDoor.stab
namespace Go.Proofs.YtgcoidbaoigkeaaGreatDoor.stab
open Go.Shelf Go.RowKit Go.Lib Go.Sort
variable {P:Program} {ρ:Ren} {α:Type} [Inhabited α]
theorem Zd6 (i j:Nat):(((i + j) / 2:Nat):Int)=((i:Int) + j) / 2:=by omega
set_option maxHeartbeats 3200000 in
set_option maxRecDepth 1000000 in
theorem Z18m (L:LaysGt.n30 P ρ) (enc:α→Value) (lt:α→α→Bool) (hO:SWO lt) (g:Nat) (lb:Array Value) (sf:Nat) (sb:Array Value) (blk off:Nat)
  (eg:∀ args w,(callFunc g args).run P w=.ok (.enter g args) w) (a m b:Nat) (d:Array α) (w:World) (hless:LessG P g lb enc lt blk off d.size w) (hswap:SwapSwaps P sf sb enc blk off d.size)
  (hH:Holds enc w blk off d) (hblk:blk < w.heap.size) (ham:a < m) (hmb:m < b) (hb:b≤d.size) (hsz:d.size < 4611686018427387904) (hone:m=a + 1) :
  Calls P (ρ.f 30) #[.agg #[.func (.func g) #[] lb,.func (.func sf) #[] sb],.int .i64 a,.int .i64 m,.int .i64 b] w fun e w'=>e=.returned (.tuple #[])∧∃ n os d',w'=sortWorld enc w blk off n d' os∧Z18 lt a m b d d':=by
 have mixed:=L.mixed; have t0:=L.t0; have a0:=L.a0; have z0:=L.z0; have v0:=L.v0; have t3:=L.t3; have a3:=L.a3; have z3:=L.z3; have v3:=L.v3; have t4:=L.t4; have a4:=L.a4; have z4:=L.z4; have v4:=L.v4; have t26:=L.t26; have a26:=L.a26; have z26:=L.z26; have v26:=L.v26; have t38:=L.t38; have a38:=L.a38; have z38:=L.z38; have v38:=L.v38; have t42:=L.t42; have a42:=L.a42; have z42:=L.z42; have v42:=L.v42; have t47:=L.t47; have a47:=L.a47; have z47:=L.z47; have v47:=L.v47
 have u42:=run_underlying L.t42
 have hSW:=(SW.start hH).alloc (.cells #[.func (.func g) #[] lb,.func (.func sf) #[] sb] (ρ.t 42))
 have hD:=Dat.start w (.func (.func g) #[] lb) (.func (.func sf) #[] sb) (ρ.t 42)
 have hne:blk ≠ w.heap.size:=by omega
 have h1:(m:Int) - a=1:=by omega
 have M:Aside (m=a + 1):=hone
 clear hone
 go_enter L.f30,BodyGt.n30_ntmps ρ
 go_wp2
 go_loopg [8,9] (b - m) (fun k s8 s9 wr=>∃ (i j:Nat),s8=.int .i64 i∧s9=.int .i64 j∧m≤i∧i≤j∧j≤b∧j - i≤k∧SW enc w blk off d wr∧Dat w.heap.size (.func (.func g) #[] lb) (.func (.func sf) #[] sb) wr ∧
  (i=m∨lt d[i - 1]! d[a]! = true)∧(j=b∨lt d[j]! d[a]! = false))
 case atStart=>exact ⟨m,b,rfl,rfl,by omega,by omega,by omega,by omega,hSW,hD,.inl rfl,.inl rfl⟩
 case round =>
  obtain ⟨i,j,rfl,rfl,hi0,hij,hj,hk,hS,hDk,he1,he2⟩:=hrel
  obtain ⟨q0,c0,c1⟩:=id hDk
  have A:Aside (SW enc w blk off d wr∧Dat w.heap.size (.func (.func g) #[] lb) (.func (.func sf) #[] sb) wr∧(i=m∨lt d[i - 1]! d[a]! = true)∧(j=b∨lt d[j]! d[a]! = false)):=⟨hS,hDk,he1,he2⟩
  by_cases hlt:i < j
  ·have hl:=Zd4 hS hless rfl ((i + j) / 2) a (by omega) (by omega)
   rw [Zd6] at hl
   clear hS hDk he1 he2 hSW hD hless hswap hH
   cases hlv:lt d[(i + j) / 2]! d[a]! with
   | true =>
    rw [hlv] at hl
    have V:Aside (lt d[(i + j) / 2]! d[a]! = true):=hlv
    clear hlv
    go_wp2_with (go_at_fn g; refine hl.mono ?_; rintro e w' ⟨rfl,hG⟩)
    go_roundg (j - ((i + j) / 2 + 1))
    case measure=>omega
    case rel =>
     obtain ⟨hS,hDk,he1,he2⟩:=A.out
     exact ⟨(i + j) / 2 + 1,j,by congr 1,rfl,by omega,by omega,by omega,by omega,Z5n hS hG,hDk.grew hG,.inr V.out,he2⟩
   | false =>
    rw [hlv] at hl
    have V:Aside (lt d[(i + j) / 2]! d[a]! = false):=hlv
    clear hlv
    go_wp2_with (go_at_fn g; refine hl.mono ?_; rintro e w' ⟨rfl,hG⟩)
    go_roundg ((i + j) / 2 - i)
    case measure=>omega
    case rel =>
     obtain ⟨hS,hDk,he1,he2⟩:=A.out
     exact ⟨i,(i + j) / 2,rfl,by congr 1,by omega,by omega,by omega,by omega,Z5n hS hG,hDk.grew hG,he1,.inr V.out⟩
  ·have hje:j=i:=by omega
   subst hje
   clear hS hDk he1 he2 hSW hD hless
   go_wp2
   go_loopg [11] (j - 1 - a) (fun k s11 wr2=>∃ (x:Nat) (dk:Array α),s11=.int .i64 x∧a≤x∧x + 1≤j∧j - 1 - x≤k∧SW enc w blk off dk wr2∧Dat w.heap.size (.func (.func g) #[] lb) (.func (.func sf) #[] sb) wr2∧Rot d a (a + 1) (x + 1) dk∧PermIn a b d dk)
   case atStart =>
    obtain ⟨hS,hDk,he1,he2⟩:=A.out
    exact ⟨a,d,rfl,by omega,by omega,by omega,hS,hDk,Rot.none (by omega) (.inr rfl),permIn_refl _ _ _⟩
   case round =>
    obtain ⟨x,dk,rfl,hx0,hx1,hxk,hS2,hD2,hR,hP⟩:=hrel
    have hds:dk.size=d.size:=hP.1
    obtain ⟨q2,c2,c3⟩:=id hD2
    by_cases hlt2:x + 1 < j
    ·have hs:=hswap wr dk (hS2.holds hblk hH hds) hds x (x + 1) (by omega) (by omega)
     rw [show (((x + 1:Nat):Int))=(x:Int) + 1 by omega] at hs
     have B:Aside (SW enc w blk off dk wr∧Dat w.heap.size (.func (.func g) #[] lb) (.func (.func sf) #[] sb) wr∧Rot d a (a + 1) (x + 1) dk∧PermIn a b d dk∧dk.size=d.size):=⟨hS2,hD2,hR,hP,hds⟩
     clear hS2 hD2 hR hP hds hswap hH c0 c1 q0
     go_wp2
     go_roundg (j - 1 - (x + 1))
     case measure=>omega
     case rel =>
      obtain ⟨hS2,hD2,hR,hP,hds⟩:=B.out
      exact ⟨x + 1,swp dk x (x + 1),by congr 1,by omega,by omega,by omega,hS2.swap hblk x (x + 1) (by omega) (by omega),(hD2.set _ _ hne).set _ _ hne,
       hR.up (by omega) (by omega),permIn_trans _ _ _ _ _ hP (swp_permIn _ _ _ _ _ (by omega) (by omega) (by omega) (by omega) (by omega))⟩
    ·go_wp2
     refine bodyPost_ret (results_none rfl _ _ _) rfl ?_
     obtain ⟨hS,hDk,he1,he2⟩:=A.out
     obtain ⟨n,os,e'⟩:=hS2
     obtain rfl:=M.out
     have:x + 1=j:=by omega
     rw [this] at hR
     exact ⟨rfl,n,os,dk,e',Zrj hO hR hP (by omega) he1 he2⟩
set_option maxHeartbeats 3200000 in
set_option maxRecDepth 1000000 in
theorem Z1eb (L:LaysGt.n30 P ρ) (enc:α→Value) (lt:α→α→Bool) (hO:SWO lt) (g:Nat) (lb:Array Value) (sf:Nat) (sb:Array Value) (blk off:Nat)
  (eg:∀ args w,(callFunc g args).run P w=.ok (.enter g args) w) (a m b:Nat) (d:Array α) (w:World) (hless:LessG P g lb enc lt blk off d.size w) (hswap:SwapSwaps P sf sb enc blk off d.size)
  (hH:Holds enc w blk off d) (hblk:blk < w.heap.size) (ham:a < m) (hmb:m < b) (hb:b≤d.size) (hsz:d.size < 4611686018427387904) (htwo:m ≠ a + 1) (hone:b=m + 1) :
  Calls P (ρ.f 30) #[.agg #[.func (.func g) #[] lb,.func (.func sf) #[] sb],.int .i64 a,.int .i64 m,.int .i64 b] w fun e w'=>e=.returned (.tuple #[])∧∃ n os d',w'=sortWorld enc w blk off n d' os∧Z18 lt a m b d d':=by
 have mixed:=L.mixed; have t0:=L.t0; have a0:=L.a0; have z0:=L.z0; have v0:=L.v0; have t3:=L.t3; have a3:=L.a3; have z3:=L.z3; have v3:=L.v3; have t4:=L.t4; have a4:=L.a4; have z4:=L.z4; have v4:=L.v4; have t26:=L.t26; have a26:=L.a26; have z26:=L.z26; have v26:=L.v26; have t38:=L.t38; have a38:=L.a38; have z38:=L.z38; have v38:=L.v38; have t42:=L.t42; have a42:=L.a42; have z42:=L.z42; have v42:=L.v42; have t47:=L.t47; have a47:=L.a47; have z47:=L.z47; have v47:=L.v47
 have u42:=run_underlying L.t42
 have hSW:=(SW.start hH).alloc (.cells #[.func (.func g) #[] lb,.func (.func sf) #[] sb] (ρ.t 42))
 have hD:=Dat.start w (.func (.func g) #[] lb) (.func (.func sf) #[] sb) (ρ.t 42)
 have hne:blk ≠ w.heap.size:=by omega
 have h1:(b:Int) - m=1:=by omega
 have h2:¬ (m:Int) - a=1:=by omega
 have h3:((m:Int) - a == 1)=false:=by simp only [beq_eq_false_iff_ne,ne_eq]; exact h2
 have M:Aside (b=m + 1):=hone
 clear hone htwo
 go_enter L.f30,BodyGt.n30_ntmps ρ
 go_wp2
 go_loopg [12,13] (m - a) (fun k s8 s9 wr=>∃ (i j:Nat),s8=.int .i64 i∧s9=.int .i64 j∧a≤i∧i≤j∧j≤m∧j - i≤k∧SW enc w blk off d wr∧Dat w.heap.size (.func (.func g) #[] lb) (.func (.func sf) #[] sb) wr ∧
  (i=a∨lt d[m]! d[i - 1]! = false)∧(j=m∨lt d[m]! d[j]! = true))
 case atStart=>exact ⟨a,m,rfl,rfl,by omega,by omega,by omega,by omega,hSW,hD,.inl rfl,.inl rfl⟩
 case round =>
  obtain ⟨i,j,rfl,rfl,hi0,hij,hj,hk,hS,hDk,he1,he2⟩:=hrel
  obtain ⟨q0,c0,c1⟩:=id hDk
  have A:Aside (SW enc w blk off d wr∧Dat w.heap.size (.func (.func g) #[] lb) (.func (.func sf) #[] sb) wr∧(i=a∨lt d[m]! d[i - 1]! = false)∧(j=m∨lt d[m]! d[j]! = true)):=⟨hS,hDk,he1,he2⟩
  by_cases hlt:i < j
  ·have hl:=Zd4 hS hless rfl m ((i + j) / 2) (by omega) (by omega)
   rw [Zd6] at hl
   clear hS hDk he1 he2 hSW hD hless hswap hH
   cases hlv:lt d[m]! d[(i + j) / 2]! with
   | false =>
    rw [hlv] at hl
    have V:Aside (lt d[m]! d[(i + j) / 2]! = false):=hlv
    clear hlv
    go_wp2_with (go_at_fn g; refine hl.mono ?_; rintro e w' ⟨rfl,hG⟩)
    go_roundg (j - ((i + j) / 2 + 1))
    case measure=>omega
    case rel =>
     obtain ⟨hS,hDk,he1,he2⟩:=A.out
     exact ⟨(i + j) / 2 + 1,j,by congr 1,rfl,by omega,by omega,by omega,by omega,Z5n hS hG,hDk.grew hG,.inr V.out,he2⟩
   | true =>
    rw [hlv] at hl
    have V:Aside (lt d[m]! d[(i + j) / 2]! = true):=hlv
    clear hlv
    go_wp2_with (go_at_fn g; refine hl.mono ?_; rintro e w' ⟨rfl,hG⟩)
    go_roundg ((i + j) / 2 - i)
    case measure=>omega
    case rel =>
     obtain ⟨hS,hDk,he1,he2⟩:=A.out
     exact ⟨i,(i + j) / 2,rfl,by congr 1,by omega,by omega,by omega,by omega,Z5n hS hG,hDk.grew hG,he1,.inr V.out⟩
  ·have hje:j=i:=by omega
   subst hje
   clear hS hDk he1 he2 hSW hD hless
   go_wp2
   go_loopg [15] (m - j) (fun k s11 wr2=>∃ (x:Nat) (dk:Array α),s11=.int .i64 x∧x≤m∧j≤x∧x - j≤k∧SW enc w blk off dk wr2∧Dat w.heap.size (.func (.func g) #[] lb) (.func (.func sf) #[] sb) wr2∧Rot d x m (m + 1) dk∧PermIn a b d dk)
   case atStart =>
    obtain ⟨hS,hDk,he1,he2⟩:=A.out
    exact ⟨m,d,rfl,by omega,by omega,by omega,hS,hDk,Rot.none (by omega) (.inl rfl),permIn_refl _ _ _⟩
   case round =>
    obtain ⟨x,dk,rfl,hx0,hx1,hxk,hS2,hD2,hR,hP⟩:=hrel
    have hds:dk.size=d.size:=hP.1
    obtain ⟨q2,c2,c3⟩:=id hD2
    by_cases hlt2:j < x
    ·have hs:=hswap wr dk (hS2.holds hblk hH hds) hds x (x - 1) (by omega) (by omega)
     rw [show (((x - 1:Nat):Int))=(x:Int) - 1 by omega] at hs
     have B:Aside (SW enc w blk off dk wr∧Dat w.heap.size (.func (.func g) #[] lb) (.func (.func sf) #[] sb) wr∧Rot d x m (m + 1) dk∧PermIn a b d dk∧dk.size=d.size):=⟨hS2,hD2,hR,hP,hds⟩
     clear hS2 hD2 hR hP hds hswap hH c0 c1 q0
     go_wp2
     go_roundg (x - 1 - j)
     case measure=>omega
     case rel =>
      obtain ⟨hS2,hD2,hR,hP,hds⟩:=B.out
      exact ⟨x - 1,swp dk x (x - 1),by congr 1; omega,by omega,by omega,by omega,hS2.swap hblk x (x - 1) (by omega) (by omega),(hD2.set _ _ hne).set _ _ hne,
       hR.down (by omega) (by omega) (by omega),permIn_trans _ _ _ _ _ hP (swp_permIn _ _ _ _ _ (by omega) (by omega) (by omega) (by omega) (by omega))⟩
    ·go_wp2
     refine bodyPost_ret (results_none rfl _ _ _) rfl ?_
     obtain ⟨hS,hDk,he1,he2⟩:=A.out
     obtain ⟨n,os,e'⟩:=hS2
     obtain rfl:=M.out
     have:x=j:=by omega
     subst this
     exact ⟨rfl,n,os,dk,e',Zuw hO hR hP (by omega) he1 he2⟩
end Go.Proofs.YtgcoidbaoigkeaaGreatDoor.stab
namespace Go.Proofs.YtgcoidbaoigkeaaGreatDoor.stab
open Go.Shelf Go.RowKit Go.Lib Go.Sort
variable {P:Program} {ρ:Ren} {α:Type} [Inhabited α]
set_option maxHeartbeats 6400000 in
set_option maxRecDepth 1000000 in
theorem Z1ec (L:LaysGt.n30 P ρ) (enc:α→Value) (lt:α→α→Bool) (hO:SWO lt) (g:Nat) (lb:Array Value) (sf:Nat) (sb:Array Value) (blk off:Nat)
  (eg:∀ args w,(callFunc g args).run P w=.ok (.enter g args) w) (a m b:Nat) (d:Array α) (w:World) (hless:LessG P g lb enc lt blk off d.size w) (hswap:SwapSwaps P sf sb enc blk off d.size)
  (hH:Holds enc w blk off d) (hblk:blk < w.heap.size) (ham:a + 1 < m) (hmb:m + 1 < b) (hb:b≤d.size) (hsz:d.size < 4611686018427387904) (hcase:m≤(a + b) / 2)
  (ih:∀ (a' m' b':Nat) (d':Array α) (w':World),b' - a' < b - a→LessG P g lb enc lt blk off d'.size w'→SwapSwaps P sf sb enc blk off d'.size→Holds enc w' blk off d'→blk < w'.heap.size→a' < m'→m' < b'→b'≤d'.size→d'.size < 4611686018427387904 →
   Calls P (ρ.f 30) #[.agg #[.func (.func g) #[] lb,.func (.func sf) #[] sb],.int .i64 a',.int .i64 m',.int .i64 b'] w' fun e w''=>e=.returned (.tuple #[])∧∃ n os d'',w''=sortWorld enc w' blk off n d'' os∧Z18 lt a' m' b' d' d'') :
  Calls P (ρ.f 30) #[.agg #[.func (.func g) #[] lb,.func (.func sf) #[] sb],.int .i64 a,.int .i64 m,.int .i64 b] w fun e w'=>e=.returned (.tuple #[])∧∃ n os d',w'=sortWorld enc w blk off n d' os∧Z18 lt a m b d d':=by
 have mixed:=L.mixed; have t0:=L.t0; have a0:=L.a0; have z0:=L.z0; have v0:=L.v0; have t3:=L.t3; have a3:=L.a3; have z3:=L.z3; have v3:=L.v3; have t4:=L.t4; have a4:=L.a4; have z4:=L.z4; have v4:=L.v4; have t26:=L.t26; have a26:=L.a26; have z26:=L.z26; have v26:=L.v26; have t38:=L.t38; have a38:=L.a38; have z38:=L.z38; have v38:=L.v38; have t42:=L.t42; have a42:=L.a42; have z42:=L.z42; have v42:=L.v42; have t47:=L.t47; have a47:=L.a47; have z47:=L.z47; have v47:=L.v47
 have u42:=run_underlying L.t42
 have e30:∀ args w,(callFunc (ρ.f 30) args).run P w=.ok (.enter (ρ.f 30) args) w:=enters_of L.f30 (by kernel_rfl) rfl
 have e42:∀ args w,(callFunc (ρ.f 42) args).run P w=.ok (.enter (ρ.f 42) args) w:=enters_of L.f42 (by kernel_rfl) rfl
 have LR:LaysGt.n42 P ρ:={ L with }
 have hSW:=(SW.start hH).alloc (.cells #[.func (.func g) #[] lb,.func (.func sf) #[] sb] (ρ.t 42))
 have hD:=Dat.start w (.func (.func g) #[] lb) (.func (.func sf) #[] sb) (ρ.t 42)
 have hne:blk ≠ w.heap.size:=by omega
 have sub:∀ (a' m' b':Nat) (dk:Array α) (W:World),SW enc w blk off dk W→dk.size=d.size→b' - a' < b - a→a' < m'→m' < b'→b'≤d.size →
   Calls P (ρ.f 30) #[.agg #[.func (.func g) #[] lb,.func (.func sf) #[] sb],.int .i64 a',.int .i64 m',.int .i64 b'] W fun e w''=>e=.returned (.tuple #[])∧∃ d'',SW enc w blk off d'' w''∧(Dat w.heap.size (.func (.func g) #[] lb) (.func (.func sf) #[] sb) W→Dat w.heap.size (.func (.func g) #[] lb) (.func (.func sf) #[] sb) w'')∧d''.size=d.size∧Z18 lt a' m' b' dk d'':=fun a' m' b' dk W hS hs h1 h2 h3 h4 =>
  (ih a' m' b' dk W h1 (Zd5 hS (by rw [hs]; exact hless) hblk rfl) (by rw [hs]; exact hswap) (hS.holds hblk hH hs) (hS.lt hblk) h2 h3 (by omega) (by omega)).mono fun _ _ ⟨he,n,os,d'',hw,hM⟩ =>
   have hz:d''.size=dk.size:=hM.1.1
   ⟨he,d'',by rw [hw]; exact hS.on hblk n d'' os hz,fun h=>by rw [hw]; exact h.on enc blk off n d'' os (Ne.symm hne),hz.trans hs,hM⟩
 have rot:∀ (s e:Nat) (W:World),SW enc w blk off d W→s < m→m < e→e≤d.size →
   Calls P (ρ.f 42) #[.agg #[.func (.func g) #[] lb,.func (.func sf) #[] sb],.int .i64 s,.int .i64 m,.int .i64 e] W fun e' w''=>e'=.returned (.tuple #[])∧∃ d'',SW enc w blk off d'' w''∧(Dat w.heap.size (.func (.func g) #[] lb) (.func (.func sf) #[] sb) W→Dat w.heap.size (.func (.func g) #[] lb) (.func (.func sf) #[] sb) w'')∧d''.size=d.size∧Rot d s m e d''∧PermIn s e d d'':=fun s e W hS h1 h2 h3 =>
  (Zyf LR enc (.func g) #[] lb sf sb blk off s m e d W hswap (hS.holds hblk hH rfl) (hS.lt hblk) h1 h2 h3 hsz).mono fun _ _ ⟨he,n,os,d'',hw,hR,hP⟩ =>
   ⟨he,d'',by rw [hw]; exact hS.on hblk n d'' os hP.1,fun h=>by rw [hw]; exact h.on enc blk off n d'' os (Ne.symm hne),hP.1,hR,hP⟩
 have h1:¬ (m:Int) - a=1:=by omega
 have h2:((m:Int) - a == 1)=false:=by simp only [beq_eq_false_iff_ne,ne_eq]; exact h1
 have h3:¬ (b:Int) - m=1:=by omega
 have h4:((b:Int) - m == 1)=false:=by simp only [beq_eq_false_iff_ne,ne_eq]; exact h3
 have h5:(m:Int)≤((a:Int) + b) / 2:=by omega
 have K:Aside ((∀ (a' m' b':Nat) (dk:Array α) (W:World),SW enc w blk off dk W→dk.size=d.size→b' - a' < b - a→a' < m'→m' < b'→b'≤d.size →
   Calls P (ρ.f 30) #[.agg #[.func (.func g) #[] lb,.func (.func sf) #[] sb],.int .i64 a',.int .i64 m',.int .i64 b'] W fun e w''=>e=.returned (.tuple #[])∧∃ d'',SW enc w blk off d'' w''∧(Dat w.heap.size (.func (.func g) #[] lb) (.func (.func sf) #[] sb) W→Dat w.heap.size (.func (.func g) #[] lb) (.func (.func sf) #[] sb) w'')∧d''.size=d.size∧Z18 lt a' m' b' dk d'') ∧
  (∀ (s e:Nat) (W:World),SW enc w blk off d W→s < m→m < e→e≤d.size →
   Calls P (ρ.f 42) #[.agg #[.func (.func g) #[] lb,.func (.func sf) #[] sb],.int .i64 s,.int .i64 m,.int .i64 e] W fun e' w''=>e'=.returned (.tuple #[])∧∃ d'',SW enc w blk off d'' w''∧(Dat w.heap.size (.func (.func g) #[] lb) (.func (.func sf) #[] sb) W→Dat w.heap.size (.func (.func g) #[] lb) (.func (.func sf) #[] sb) w'')∧d''.size=d.size∧Rot d s m e d''∧PermIn s e d d'') ∧
  LessG P g lb enc lt blk off d.size w):=⟨sub,rot,hless⟩
 clear sub rot ih hless hswap hH
 go_enter L.f30,BodyGt.n30_ntmps ρ
 go_wp2
 go_loopg [18,19] (b - a) (fun k s8 s9 wr=>∃ (s r:Nat),s8=.int .i64 s∧s9=.int .i64 r∧a≤s∧s≤r∧r≤m∧r - s≤k∧SW enc w blk off d wr∧Dat w.heap.size (.func (.func g) #[] lb) (.func (.func sf) #[] sb) wr ∧
  (s=a∨lt d[(a + b) / 2 + m - s]! d[s - 1]! = false)∧(r=m∨lt d[(a + b) / 2 + m - 1 - r]! d[r]! = true))
 case atStart=>exact ⟨a,m,by first | rfl | (congr 1; omega),by first | rfl | (congr 1; omega),by omega,by omega,by omega,by omega,hSW,hD,.inl rfl,.inl rfl⟩
 case round =>
  obtain ⟨s,r,rfl,rfl,hs0,hsr,hr0,hk,hS,hDk,he1,he2⟩:=hrel
  obtain ⟨q0,c0,c1⟩:=id hDk
  obtain ⟨sub,rot,hless⟩:=K.out
  have A:Aside (SW enc w blk off d wr∧Dat w.heap.size (.func (.func g) #[] lb) (.func (.func sf) #[] sb) wr∧(s=a∨lt d[(a + b) / 2 + m - s]! d[s - 1]! = false)∧(r=m∨lt d[(a + b) / 2 + m - 1 - r]! d[r]! = true)):=⟨hS,hDk,he1,he2⟩
  by_cases hlt:s < r
  ·have hl:=Zd4 hS hless rfl ((a + b) / 2 + m - 1 - (s + r) / 2) ((s + r) / 2) (by omega) (by omega)
   rw [Zd6 s r,show (((a + b) / 2 + m - 1 - (s + r) / 2:Nat):Int)=((a:Int) + b) / 2 + m - 1 - ((s:Int) + r) / 2 by omega] at hl
   clear hS hDk he1 he2 hSW hD hless sub rot
   cases hlv:lt d[(a + b) / 2 + m - 1 - (s + r) / 2]! d[(s + r) / 2]! with
   | false =>
    rw [hlv] at hl
    have V:Aside (lt d[(a + b) / 2 + m - 1 - (s + r) / 2]! d[(s + r) / 2]! = false):=hlv
    clear hlv
    go_wp2_with (go_at_fn g; refine hl.mono ?_; rintro e w' ⟨rfl,hG⟩)
    go_roundg (r - ((s + r) / 2 + 1))
    case measure=>omega
    case rel =>
     obtain ⟨hS,hDk,he1,he2⟩:=A.out
     exact ⟨(s + r) / 2 + 1,r,by congr 1,rfl,by omega,by omega,by omega,by omega,Z5n hS hG,hDk.grew hG,.inr (by
      rw [show (a + b) / 2 + m - ((s + r) / 2 + 1)=(a + b) / 2 + m - 1 - (s + r) / 2 by omega]
      exact V.out),he2⟩
   | true =>
    rw [hlv] at hl
    have V:Aside (lt d[(a + b) / 2 + m - 1 - (s + r) / 2]! d[(s + r) / 2]! = true):=hlv
    clear hlv
    go_wp2_with (go_at_fn g; refine hl.mono ?_; rintro e w' ⟨rfl,hG⟩)
    go_roundg ((s + r) / 2 - s)
    case measure=>omega
    case rel =>
     obtain ⟨hS,hDk,he1,he2⟩:=A.out
     exact ⟨s,(s + r) / 2,rfl,by congr 1,by omega,by omega,by omega,by omega,Z5n hS hG,hDk.grew hG,he1,.inr V.out⟩
  ·have hrs:r=s:=by omega
   subst hrs
   obtain ⟨e,he⟩:∃ e:Nat,e=(a + b) / 2 + m - r:=⟨_,rfl⟩
   obtain ⟨mid,hmid⟩:∃ mid:Nat,mid=(a + b) / 2:=⟨_,rfl⟩
   have heI:(e:Int)=((a:Int) + b) / 2 + m - r:=by omega
   have hmI:(mid:Int)=((a:Int) + b) / 2:=by omega
   have hlo:r=a∨e=b∨lt d[e]! d[r - 1]! = false:=by
    rcases he1 with h | h
    ·omega
    ·exact .inr (.inr (by rw [he]; exact h))
   have hhi:r=m∨e=m∨lt d[e - 1]! d[r]! = true:=by
    rcases he2 with h | h
    ·omega
    ·exact .inr (.inr (by rw [he,show (a + b) / 2 + m - r - 1=(a + b) / 2 + m - 1 - r by omega]; exact h))
   have hfin:∀ {d1 d2 d3:Array α},Rot d r m e d1→PermIn a b d d1→(Z18 lt a r mid d1 d2∨(r=a∨r=mid)∧d2=d1)→(Z18 lt mid e b d2 d3∨(e=mid∨e=b)∧d3=d2)→Z18 lt a m b d d3:=fun g1 g2 g3 g4=>Zlj hO hb g1 g2 (by omega) (by omega) hlo hhi g3 g4
   have FIN:Aside (∀ {d1 d2 d3:Array α},Rot d r m e d1→PermIn a b d d1→(Z18 lt a r mid d1 d2∨(r=a∨r=mid)∧d2=d1)→(Z18 lt mid e b d2 d3∨(e=mid∨e=b)∧d3=d2)→Z18 lt a m b d d3):=hfin
   have E:Aside (e=(a + b) / 2 + m - r∧mid=(a + b) / 2∧(e:Int)=((a:Int) + b) / 2 + m - r∧(mid:Int)=((a:Int) + b) / 2):=⟨he,hmid,heI,hmI⟩
   clear hlo hhi hfin hSW hD he1 he2 hless
   by_cases c1:r < m
   ·by_cases c3:a < r
    ·by_cases c6:e < b
     ·obtain ⟨he,hmid,heI,hmI⟩:=E.out
      have hc1:=rot r e wr hS (by omega) (by omega) (by omega)
      rw [heI] at hc1
      have B0:Aside (SW enc w blk off d wr∧Dat w.heap.size (.func (.func g) #[] lb) (.func (.func sf) #[] sb) wr):=⟨hS,hDk⟩
      clear hS hDk rot sub he hmid heI hmI
      go_wp2_with (go_at_fn (ρ.f 42); refine hc1.mono ?_; rintro x1 w1 ⟨rfl,d1,hS1,hT1,hz1,hR,hQ⟩; have hD1:=hT1 (B0.out).2; have B1:Aside (SW enc w blk off d1 w1∧Dat w.heap.size (.func (.func g) #[] lb) (.func (.func sf) #[] sb) w1):=⟨hS1,hD1⟩; obtain ⟨q1,k1,l1⟩:=hD1; clear hS1 hT1 hc1; have M1:Aside (Rot d r m e d1∧PermIn r e d d1∧d1.size=d.size):=⟨hR,hQ,hz1⟩; clear hR hQ; have hc2:=(K.out).1 a r mid d1 w1 (B1.out).1 hz1 (by have:=E.out; omega) (by omega) (by have:=E.out; omega) (by have:=E.out; omega); rw [(E.out).2.2.2] at hc2; clear hz1)
      go_wp2_with (go_at_fn (ρ.f 30); refine hc2.mono ?_; rintro x2 w2 ⟨rfl,d2,hS2,hT2,hz2,hM2⟩; have hD2:=hT2 (B1.out).2; have B2:Aside (SW enc w blk off d2 w2∧Dat w.heap.size (.func (.func g) #[] lb) (.func (.func sf) #[] sb) w2):=⟨hS2,hD2⟩; obtain ⟨q2,k2,l2⟩:=hD2; clear hS2 hT2 hc2; have M2:Aside (Z18 lt a r mid d1 d2∧d2.size=d.size):=⟨hM2,hz2⟩; clear hM2; have hc3:=(K.out).1 mid e b d2 w2 (B2.out).1 hz2 (by have:=E.out; omega) (by have:=E.out; omega) (by have:=E.out; omega) (by omega); rw [(E.out).2.2.2,(E.out).2.2.1] at hc3; clear hz2)
      go_wp2_with (go_at_fn (ρ.f 30); refine hc3.mono ?_; rintro x3 w3 ⟨rfl,d3,hS3,hT3,hz3,hM3⟩; have hD3:=hT3 (B2.out).2; have B3:Aside (SW enc w blk off d3 w3∧Dat w.heap.size (.func (.func g) #[] lb) (.func (.func sf) #[] sb) w3):=⟨hS3,hD3⟩; obtain ⟨q3,k3,l3⟩:=hD3; clear hS3 hT3 hc3; have M3:Aside (Z18 lt mid e b d2 d3∧d3.size=d.size):=⟨hM3,hz3⟩; clear hM3; clear hz3)
      go_end0
      obtain ⟨he,hmid,heI,hmI⟩:=E.out
      obtain ⟨n,os,e'⟩:=(B3.out).1
      exact ⟨rfl,n,os,d3,e',FIN.out (M1.out).1 (permIn_mono _ _ _ _ _ _ (by omega) (by omega) (by omega) (M1.out).2.1) (.inl (M2.out).1) (.inl (M3.out).1)⟩
     ·exfalso; omega
    ·by_cases c6:e < b
     ·obtain ⟨he,hmid,heI,hmI⟩:=E.out
      have hc1:=rot r e wr hS (by omega) (by omega) (by omega)
      rw [heI] at hc1
      have B0:Aside (SW enc w blk off d wr∧Dat w.heap.size (.func (.func g) #[] lb) (.func (.func sf) #[] sb) wr):=⟨hS,hDk⟩
      clear hS hDk rot sub he hmid heI hmI
      go_wp2_with (go_at_fn (ρ.f 42); refine hc1.mono ?_; rintro x1 w1 ⟨rfl,d1,hS1,hT1,hz1,hR,hQ⟩; have hD1:=hT1 (B0.out).2; have B1:Aside (SW enc w blk off d1 w1∧Dat w.heap.size (.func (.func g) #[] lb) (.func (.func sf) #[] sb) w1):=⟨hS1,hD1⟩; obtain ⟨q1,k1,l1⟩:=hD1; clear hS1 hT1 hc1; have M1:Aside (Rot d r m e d1∧PermIn r e d d1∧d1.size=d.size):=⟨hR,hQ,hz1⟩; clear hR hQ; have hc2:=(K.out).1 mid e b d1 w1 (B1.out).1 hz1 (by have:=E.out; omega) (by have:=E.out; omega) (by have:=E.out; omega) (by omega); rw [(E.out).2.2.2,(E.out).2.2.1] at hc2; clear hz1)
      go_wp2_with (go_at_fn (ρ.f 30); refine hc2.mono ?_; rintro x2 w2 ⟨rfl,d2,hS2,hT2,hz2,hM2⟩; have hD2:=hT2 (B1.out).2; have B2:Aside (SW enc w blk off d2 w2∧Dat w.heap.size (.func (.func g) #[] lb) (.func (.func sf) #[] sb) w2):=⟨hS2,hD2⟩; obtain ⟨q2,k2,l2⟩:=hD2; clear hS2 hT2 hc2; have M2:Aside (Z18 lt mid e b d1 d2∧d2.size=d.size):=⟨hM2,hz2⟩; clear hM2; clear hz2)
      go_end0
      obtain ⟨he,hmid,heI,hmI⟩:=E.out
      obtain ⟨n,os,e'⟩:=(B2.out).1
      exact ⟨rfl,n,os,d2,e',FIN.out (M1.out).1 (permIn_mono _ _ _ _ _ _ (by omega) (by omega) (by omega) (M1.out).2.1) (.inr ⟨by omega,rfl⟩) (.inl (M2.out).1)⟩
     ·obtain ⟨he,hmid,heI,hmI⟩:=E.out
      have hc1:=rot r e wr hS (by omega) (by omega) (by omega)
      rw [heI] at hc1
      have B0:Aside (SW enc w blk off d wr∧Dat w.heap.size (.func (.func g) #[] lb) (.func (.func sf) #[] sb) wr):=⟨hS,hDk⟩
      clear hS hDk rot sub he hmid heI hmI
      go_wp2_with (go_at_fn (ρ.f 42); refine hc1.mono ?_; rintro x1 w1 ⟨rfl,d1,hS1,hT1,hz1,hR,hQ⟩; have hD1:=hT1 (B0.out).2; have B1:Aside (SW enc w blk off d1 w1∧Dat w.heap.size (.func (.func g) #[] lb) (.func (.func sf) #[] sb) w1):=⟨hS1,hD1⟩; obtain ⟨q1,k1,l1⟩:=hD1; clear hS1 hT1 hc1; have M1:Aside (Rot d r m e d1∧PermIn r e d d1∧d1.size=d.size):=⟨hR,hQ,hz1⟩; clear hR hQ; clear hz1)
      go_end0
      obtain ⟨he,hmid,heI,hmI⟩:=E.out
      obtain ⟨n,os,e'⟩:=(B1.out).1
      exact ⟨rfl,n,os,d1,e',FIN.out (M1.out).1 (permIn_mono _ _ _ _ _ _ (by omega) (by omega) (by omega) (M1.out).2.1) (.inr ⟨by omega,rfl⟩) (.inr ⟨by omega,rfl⟩)⟩
   ·by_cases c4:r < mid
    ·obtain ⟨he,hmid,heI,hmI⟩:=E.out
     have hc1:=sub a r mid d wr hS rfl (by omega) (by omega) (by omega) (by omega)
     rw [hmI] at hc1
     have B0:Aside (SW enc w blk off d wr∧Dat w.heap.size (.func (.func g) #[] lb) (.func (.func sf) #[] sb) wr):=⟨hS,hDk⟩
     clear hS hDk rot sub he hmid heI hmI
     go_wp2_with (go_at_fn (ρ.f 30); refine hc1.mono ?_; rintro x1 w1 ⟨rfl,d1,hS1,hT1,hz1,hM1⟩; have hD1:=hT1 (B0.out).2; have B1:Aside (SW enc w blk off d1 w1∧Dat w.heap.size (.func (.func g) #[] lb) (.func (.func sf) #[] sb) w1):=⟨hS1,hD1⟩; obtain ⟨q1,k1,l1⟩:=hD1; clear hS1 hT1 hc1; have M1:Aside (Z18 lt a r mid d d1∧d1.size=d.size):=⟨hM1,hz1⟩; clear hM1; clear hz1)
     go_end0
     obtain ⟨he,hmid,heI,hmI⟩:=E.out
     obtain ⟨n,os,e'⟩:=(B1.out).1
     exact ⟨rfl,n,os,d1,e',FIN.out (Rot.none (by omega) (by omega)) (permIn_refl _ _ _) (.inl (M1.out).1) (.inr ⟨by omega,rfl⟩)⟩
    ·obtain ⟨he,hmid,heI,hmI⟩:=E.out
     have B0:Aside (SW enc w blk off d wr∧Dat w.heap.size (.func (.func g) #[] lb) (.func (.func sf) #[] sb) wr):=⟨hS,hDk⟩
     clear hS hDk rot sub he hmid heI hmI
     go_wp2
     go_end0
     obtain ⟨he,hmid,heI,hmI⟩:=E.out
     obtain ⟨n,os,e'⟩:=(B0.out).1
     exact ⟨rfl,n,os,d,e',FIN.out (Rot.none (by omega) (by omega)) (permIn_refl _ _ _) (.inr ⟨by omega,rfl⟩) (.inr ⟨by omega,rfl⟩)⟩
set_option maxHeartbeats 6400000 in
set_option maxRecDepth 1000000 in
theorem Z1ed (L:LaysGt.n30 P ρ) (enc:α→Value) (lt:α→α→Bool) (hO:SWO lt) (g:Nat) (lb:Array Value) (sf:Nat) (sb:Array Value) (blk off:Nat)
  (eg:∀ args w,(callFunc g args).run P w=.ok (.enter g args) w) (a m b:Nat) (d:Array α) (w:World) (hless:LessG P g lb enc lt blk off d.size w) (hswap:SwapSwaps P sf sb enc blk off d.size)
  (hH:Holds enc w blk off d) (hblk:blk < w.heap.size) (ham:a + 1 < m) (hmb:m + 1 < b) (hb:b≤d.size) (hsz:d.size < 4611686018427387904) (hcase:(a + b) / 2 < m)
  (ih:∀ (a' m' b':Nat) (d':Array α) (w':World),b' - a' < b - a→LessG P g lb enc lt blk off d'.size w'→SwapSwaps P sf sb enc blk off d'.size→Holds enc w' blk off d'→blk < w'.heap.size→a' < m'→m' < b'→b'≤d'.size→d'.size < 4611686018427387904 →
   Calls P (ρ.f 30) #[.agg #[.func (.func g) #[] lb,.func (.func sf) #[] sb],.int .i64 a',.int .i64 m',.int .i64 b'] w' fun e w''=>e=.returned (.tuple #[])∧∃ n os d'',w''=sortWorld enc w' blk off n d'' os∧Z18 lt a' m' b' d' d'') :
  Calls P (ρ.f 30) #[.agg #[.func (.func g) #[] lb,.func (.func sf) #[] sb],.int .i64 a,.int .i64 m,.int .i64 b] w fun e w'=>e=.returned (.tuple #[])∧∃ n os d',w'=sortWorld enc w blk off n d' os∧Z18 lt a m b d d':=by
 have mixed:=L.mixed; have t0:=L.t0; have a0:=L.a0; have z0:=L.z0; have v0:=L.v0; have t3:=L.t3; have a3:=L.a3; have z3:=L.z3; have v3:=L.v3; have t4:=L.t4; have a4:=L.a4; have z4:=L.z4; have v4:=L.v4; have t26:=L.t26; have a26:=L.a26; have z26:=L.z26; have v26:=L.v26; have t38:=L.t38; have a38:=L.a38; have z38:=L.z38; have v38:=L.v38; have t42:=L.t42; have a42:=L.a42; have z42:=L.z42; have v42:=L.v42; have t47:=L.t47; have a47:=L.a47; have z47:=L.z47; have v47:=L.v47
 have u42:=run_underlying L.t42
 have e30:∀ args w,(callFunc (ρ.f 30) args).run P w=.ok (.enter (ρ.f 30) args) w:=enters_of L.f30 (by kernel_rfl) rfl
 have e42:∀ args w,(callFunc (ρ.f 42) args).run P w=.ok (.enter (ρ.f 42) args) w:=enters_of L.f42 (by kernel_rfl) rfl
 have LR:LaysGt.n42 P ρ:={ L with }
 have hSW:=(SW.start hH).alloc (.cells #[.func (.func g) #[] lb,.func (.func sf) #[] sb] (ρ.t 42))
 have hD:=Dat.start w (.func (.func g) #[] lb) (.func (.func sf) #[] sb) (ρ.t 42)
 have hne:blk ≠ w.heap.size:=by omega
 have sub:∀ (a' m' b':Nat) (dk:Array α) (W:World),SW enc w blk off dk W→dk.size=d.size→b' - a' < b - a→a' < m'→m' < b'→b'≤d.size →
   Calls P (ρ.f 30) #[.agg #[.func (.func g) #[] lb,.func (.func sf) #[] sb],.int .i64 a',.int .i64 m',.int .i64 b'] W fun e w''=>e=.returned (.tuple #[])∧∃ d'',SW enc w blk off d'' w''∧(Dat w.heap.size (.func (.func g) #[] lb) (.func (.func sf) #[] sb) W→Dat w.heap.size (.func (.func g) #[] lb) (.func (.func sf) #[] sb) w'')∧d''.size=d.size∧Z18 lt a' m' b' dk d'':=fun a' m' b' dk W hS hs h1 h2 h3 h4 =>
  (ih a' m' b' dk W h1 (Zd5 hS (by rw [hs]; exact hless) hblk rfl) (by rw [hs]; exact hswap) (hS.holds hblk hH hs) (hS.lt hblk) h2 h3 (by omega) (by omega)).mono fun _ _ ⟨he,n,os,d'',hw,hM⟩ =>
   have hz:d''.size=dk.size:=hM.1.1
   ⟨he,d'',by rw [hw]; exact hS.on hblk n d'' os hz,fun h=>by rw [hw]; exact h.on enc blk off n d'' os (Ne.symm hne),hz.trans hs,hM⟩
 have rot:∀ (s e:Nat) (W:World),SW enc w blk off d W→s < m→m < e→e≤d.size →
   Calls P (ρ.f 42) #[.agg #[.func (.func g) #[] lb,.func (.func sf) #[] sb],.int .i64 s,.int .i64 m,.int .i64 e] W fun e' w''=>e'=.returned (.tuple #[])∧∃ d'',SW enc w blk off d'' w''∧(Dat w.heap.size (.func (.func g) #[] lb) (.func (.func sf) #[] sb) W→Dat w.heap.size (.func (.func g) #[] lb) (.func (.func sf) #[] sb) w'')∧d''.size=d.size∧Rot d s m e d''∧PermIn s e d d'':=fun s e W hS h1 h2 h3 =>
  (Zyf LR enc (.func g) #[] lb sf sb blk off s m e d W hswap (hS.holds hblk hH rfl) (hS.lt hblk) h1 h2 h3 hsz).mono fun _ _ ⟨he,n,os,d'',hw,hR,hP⟩ =>
   ⟨he,d'',by rw [hw]; exact hS.on hblk n d'' os hP.1,fun h=>by rw [hw]; exact h.on enc blk off n d'' os (Ne.symm hne),hP.1,hR,hP⟩
 have h1:¬ (m:Int) - a=1:=by omega
 have h2:((m:Int) - a == 1)=false:=by simp only [beq_eq_false_iff_ne,ne_eq]; exact h1
 have h3:¬ (b:Int) - m=1:=by omega
 have h4:((b:Int) - m == 1)=false:=by simp only [beq_eq_false_iff_ne,ne_eq]; exact h3
 have h5:((a:Int) + b) / 2 < m:=by omega
 have h6:decide (((a:Int) + b) / 2 < (m:Int))=true:=decide_eq_true h5
 have h7:decide ((m:Int) > ((a:Int) + b) / 2)=true:=decide_eq_true h5
 have K:Aside ((∀ (a' m' b':Nat) (dk:Array α) (W:World),SW enc w blk off dk W→dk.size=d.size→b' - a' < b - a→a' < m'→m' < b'→b'≤d.size →
   Calls P (ρ.f 30) #[.agg #[.func (.func g) #[] lb,.func (.func sf) #[] sb],.int .i64 a',.int .i64 m',.int .i64 b'] W fun e w''=>e=.returned (.tuple #[])∧∃ d'',SW enc w blk off d'' w''∧(Dat w.heap.size (.func (.func g) #[] lb) (.func (.func sf) #[] sb) W→Dat w.heap.size (.func (.func g) #[] lb) (.func (.func sf) #[] sb) w'')∧d''.size=d.size∧Z18 lt a' m' b' dk d'') ∧
  (∀ (s e:Nat) (W:World),SW enc w blk off d W→s < m→m < e→e≤d.size →
   Calls P (ρ.f 42) #[.agg #[.func (.func g) #[] lb,.func (.func sf) #[] sb],.int .i64 s,.int .i64 m,.int .i64 e] W fun e' w''=>e'=.returned (.tuple #[])∧∃ d'',SW enc w blk off d'' w''∧(Dat w.heap.size (.func (.func g) #[] lb) (.func (.func sf) #[] sb) W→Dat w.heap.size (.func (.func g) #[] lb) (.func (.func sf) #[] sb) w'')∧d''.size=d.size∧Rot d s m e d''∧PermIn s e d d'') ∧
  LessG P g lb enc lt blk off d.size w):=⟨sub,rot,hless⟩
 clear sub rot ih hless hswap hH
 go_enter L.f30,BodyGt.n30_ntmps ρ
 go_wp2
 go_loopg [18,19] (b - a) (fun k s8 s9 wr=>∃ (s r:Nat),s8=.int .i64 s∧s9=.int .i64 r∧(a + b) / 2 + m - b≤s∧s≤r∧r≤(a + b) / 2∧r - s≤k∧SW enc w blk off d wr∧Dat w.heap.size (.func (.func g) #[] lb) (.func (.func sf) #[] sb) wr ∧
  (s=(a + b) / 2 + m - b∨lt d[(a + b) / 2 + m - s]! d[s - 1]! = false)∧(r=(a + b) / 2∨lt d[(a + b) / 2 + m - 1 - r]! d[r]! = true))
 case atStart=>exact ⟨(a + b) / 2 + m - b,(a + b) / 2,by first | rfl | (congr 1; omega),by first | rfl | (congr 1; omega),by omega,by omega,by omega,by omega,hSW,hD,.inl rfl,.inl rfl⟩
 case round =>
  obtain ⟨s,r,rfl,rfl,hs0,hsr,hr0,hk,hS,hDk,he1,he2⟩:=hrel
  obtain ⟨q0,c0,c1⟩:=id hDk
  obtain ⟨sub,rot,hless⟩:=K.out
  have A:Aside (SW enc w blk off d wr∧Dat w.heap.size (.func (.func g) #[] lb) (.func (.func sf) #[] sb) wr∧(s=(a + b) / 2 + m - b∨lt d[(a + b) / 2 + m - s]! d[s - 1]! = false)∧(r=(a + b) / 2∨lt d[(a + b) / 2 + m - 1 - r]! d[r]! = true)):=⟨hS,hDk,he1,he2⟩
  by_cases hlt:s < r
  ·have hl:=Zd4 hS hless rfl ((a + b) / 2 + m - 1 - (s + r) / 2) ((s + r) / 2) (by omega) (by omega)
   rw [Zd6 s r,show (((a + b) / 2 + m - 1 - (s + r) / 2:Nat):Int)=((a:Int) + b) / 2 + m - 1 - ((s:Int) + r) / 2 by omega] at hl
   clear hS hDk he1 he2 hSW hD hless sub rot
   cases hlv:lt d[(a + b) / 2 + m - 1 - (s + r) / 2]! d[(s + r) / 2]! with
   | false =>
    rw [hlv] at hl
    have V:Aside (lt d[(a + b) / 2 + m - 1 - (s + r) / 2]! d[(s + r) / 2]! = false):=hlv
    clear hlv
    go_wp2_with (go_at_fn g; refine hl.mono ?_; rintro e w' ⟨rfl,hG⟩)
    go_roundg (r - ((s + r) / 2 + 1))
    case measure=>omega
    case rel =>
     obtain ⟨hS,hDk,he1,he2⟩:=A.out
     exact ⟨(s + r) / 2 + 1,r,by congr 1,rfl,by omega,by omega,by omega,by omega,Z5n hS hG,hDk.grew hG,.inr (by
      rw [show (a + b) / 2 + m - ((s + r) / 2 + 1)=(a + b) / 2 + m - 1 - (s + r) / 2 by omega]
      exact V.out),he2⟩
   | true =>
    rw [hlv] at hl
    have V:Aside (lt d[(a + b) / 2 + m - 1 - (s + r) / 2]! d[(s + r) / 2]! = true):=hlv
    clear hlv
    go_wp2_with (go_at_fn g; refine hl.mono ?_; rintro e w' ⟨rfl,hG⟩)
    go_roundg ((s + r) / 2 - s)
    case measure=>omega
    case rel =>
     obtain ⟨hS,hDk,he1,he2⟩:=A.out
     exact ⟨s,(s + r) / 2,rfl,by congr 1,by omega,by omega,by omega,by omega,Z5n hS hG,hDk.grew hG,he1,.inr V.out⟩
  ·have hrs:r=s:=by omega
   subst hrs
   obtain ⟨e,he⟩:∃ e:Nat,e=(a + b) / 2 + m - r:=⟨_,rfl⟩
   obtain ⟨mid,hmid⟩:∃ mid:Nat,mid=(a + b) / 2:=⟨_,rfl⟩
   have heI:(e:Int)=((a:Int) + b) / 2 + m - r:=by omega
   have hmI:(mid:Int)=((a:Int) + b) / 2:=by omega
   have hlo:r=a∨e=b∨lt d[e]! d[r - 1]! = false:=by
    rcases he1 with h | h
    ·omega
    ·exact .inr (.inr (by rw [he]; exact h))
   have hhi:r=m∨e=m∨lt d[e - 1]! d[r]! = true:=by
    rcases he2 with h | h
    ·omega
    ·exact .inr (.inr (by rw [he,show (a + b) / 2 + m - r - 1=(a + b) / 2 + m - 1 - r by omega]; exact h))
   have hfin:∀ {d1 d2 d3:Array α},Rot d r m e d1→PermIn a b d d1→(Z18 lt a r mid d1 d2∨(r=a∨r=mid)∧d2=d1)→(Z18 lt mid e b d2 d3∨(e=mid∨e=b)∧d3=d2)→Z18 lt a m b d d3:=fun g1 g2 g3 g4=>Zlj hO hb g1 g2 (by omega) (by omega) hlo hhi g3 g4
   have FIN:Aside (∀ {d1 d2 d3:Array α},Rot d r m e d1→PermIn a b d d1→(Z18 lt a r mid d1 d2∨(r=a∨r=mid)∧d2=d1)→(Z18 lt mid e b d2 d3∨(e=mid∨e=b)∧d3=d2)→Z18 lt a m b d d3):=hfin
   have E:Aside (e=(a + b) / 2 + m - r∧mid=(a + b) / 2∧(e:Int)=((a:Int) + b) / 2 + m - r∧(mid:Int)=((a:Int) + b) / 2):=⟨he,hmid,heI,hmI⟩
   clear hlo hhi hfin hSW hD he1 he2 hless
   by_cases c2:m < e
   ·by_cases c3:a < r
    ·by_cases c6:e < b
     ·obtain ⟨he,hmid,heI,hmI⟩:=E.out
      have hc1:=rot r e wr hS (by omega) (by omega) (by omega)
      rw [heI] at hc1
      have B0:Aside (SW enc w blk off d wr∧Dat w.heap.size (.func (.func g) #[] lb) (.func (.func sf) #[] sb) wr):=⟨hS,hDk⟩
      clear hS hDk rot sub he hmid heI hmI
      go_wp2_with (go_at_fn (ρ.f 42); refine hc1.mono ?_; rintro x1 w1 ⟨rfl,d1,hS1,hT1,hz1,hR,hQ⟩; have hD1:=hT1 (B0.out).2; have B1:Aside (SW enc w blk off d1 w1∧Dat w.heap.size (.func (.func g) #[] lb) (.func (.func sf) #[] sb) w1):=⟨hS1,hD1⟩; obtain ⟨q1,k1,l1⟩:=hD1; clear hS1 hT1 hc1; have M1:Aside (Rot d r m e d1∧PermIn r e d d1∧d1.size=d.size):=⟨hR,hQ,hz1⟩; clear hR hQ; have hc2:=(K.out).1 a r mid d1 w1 (B1.out).1 hz1 (by have:=E.out; omega) (by omega) (by have:=E.out; omega) (by have:=E.out; omega); rw [(E.out).2.2.2] at hc2; clear hz1)
      go_wp2_with (go_at_fn (ρ.f 30); refine hc2.mono ?_; rintro x2 w2 ⟨rfl,d2,hS2,hT2,hz2,hM2⟩; have hD2:=hT2 (B1.out).2; have B2:Aside (SW enc w blk off d2 w2∧Dat w.heap.size (.func (.func g) #[] lb) (.func (.func sf) #[] sb) w2):=⟨hS2,hD2⟩; obtain ⟨q2,k2,l2⟩:=hD2; clear hS2 hT2 hc2; have M2:Aside (Z18 lt a r mid d1 d2∧d2.size=d.size):=⟨hM2,hz2⟩; clear hM2; have hc3:=(K.out).1 mid e b d2 w2 (B2.out).1 hz2 (by have:=E.out; omega) (by have:=E.out; omega) (by have:=E.out; omega) (by omega); rw [(E.out).2.2.2,(E.out).2.2.1] at hc3; clear hz2)
      go_wp2_with (go_at_fn (ρ.f 30); refine hc3.mono ?_; rintro x3 w3 ⟨rfl,d3,hS3,hT3,hz3,hM3⟩; have hD3:=hT3 (B2.out).2; have B3:Aside (SW enc w blk off d3 w3∧Dat w.heap.size (.func (.func g) #[] lb) (.func (.func sf) #[] sb) w3):=⟨hS3,hD3⟩; obtain ⟨q3,k3,l3⟩:=hD3; clear hS3 hT3 hc3; have M3:Aside (Z18 lt mid e b d2 d3∧d3.size=d.size):=⟨hM3,hz3⟩; clear hM3; clear hz3)
      go_end0
      obtain ⟨he,hmid,heI,hmI⟩:=E.out
      obtain ⟨n,os,e'⟩:=(B3.out).1
      exact ⟨rfl,n,os,d3,e',FIN.out (M1.out).1 (permIn_mono _ _ _ _ _ _ (by omega) (by omega) (by omega) (M1.out).2.1) (.inl (M2.out).1) (.inl (M3.out).1)⟩
     ·obtain ⟨he,hmid,heI,hmI⟩:=E.out
      have hc1:=rot r e wr hS (by omega) (by omega) (by omega)
      rw [heI] at hc1
      have B0:Aside (SW enc w blk off d wr∧Dat w.heap.size (.func (.func g) #[] lb) (.func (.func sf) #[] sb) wr):=⟨hS,hDk⟩
      clear hS hDk rot sub he hmid heI hmI
      go_wp2_with (go_at_fn (ρ.f 42); refine hc1.mono ?_; rintro x1 w1 ⟨rfl,d1,hS1,hT1,hz1,hR,hQ⟩; have hD1:=hT1 (B0.out).2; have B1:Aside (SW enc w blk off d1 w1∧Dat w.heap.size (.func (.func g) #[] lb) (.func (.func sf) #[] sb) w1):=⟨hS1,hD1⟩; obtain ⟨q1,k1,l1⟩:=hD1; clear hS1 hT1 hc1; have M1:Aside (Rot d r m e d1∧PermIn r e d d1∧d1.size=d.size):=⟨hR,hQ,hz1⟩; clear hR hQ; have hc2:=(K.out).1 a r mid d1 w1 (B1.out).1 hz1 (by have:=E.out; omega) (by omega) (by have:=E.out; omega) (by have:=E.out; omega); rw [(E.out).2.2.2] at hc2; clear hz1)
      go_wp2_with (go_at_fn (ρ.f 30); refine hc2.mono ?_; rintro x2 w2 ⟨rfl,d2,hS2,hT2,hz2,hM2⟩; have hD2:=hT2 (B1.out).2; have B2:Aside (SW enc w blk off d2 w2∧Dat w.heap.size (.func (.func g) #[] lb) (.func (.func sf) #[] sb) w2):=⟨hS2,hD2⟩; obtain ⟨q2,k2,l2⟩:=hD2; clear hS2 hT2 hc2; have M2:Aside (Z18 lt a r mid d1 d2∧d2.size=d.size):=⟨hM2,hz2⟩; clear hM2; clear hz2)
      go_end0
      obtain ⟨he,hmid,heI,hmI⟩:=E.out
      obtain ⟨n,os,e'⟩:=(B2.out).1
      exact ⟨rfl,n,os,d2,e',FIN.out (M1.out).1 (permIn_mono _ _ _ _ _ _ (by omega) (by omega) (by omega) (M1.out).2.1) (.inl (M2.out).1) (.inr ⟨by omega,rfl⟩)⟩
    ·by_cases c6:e < b
     ·exfalso; omega
     ·obtain ⟨he,hmid,heI,hmI⟩:=E.out
      have hc1:=rot r e wr hS (by omega) (by omega) (by omega)
      rw [heI] at hc1
      have B0:Aside (SW enc w blk off d wr∧Dat w.heap.size (.func (.func g) #[] lb) (.func (.func sf) #[] sb) wr):=⟨hS,hDk⟩
      clear hS hDk rot sub he hmid heI hmI
      go_wp2_with (go_at_fn (ρ.f 42); refine hc1.mono ?_; rintro x1 w1 ⟨rfl,d1,hS1,hT1,hz1,hR,hQ⟩; have hD1:=hT1 (B0.out).2; have B1:Aside (SW enc w blk off d1 w1∧Dat w.heap.size (.func (.func g) #[] lb) (.func (.func sf) #[] sb) w1):=⟨hS1,hD1⟩; obtain ⟨q1,k1,l1⟩:=hD1; clear hS1 hT1 hc1; have M1:Aside (Rot d r m e d1∧PermIn r e d d1∧d1.size=d.size):=⟨hR,hQ,hz1⟩; clear hR hQ; clear hz1)
      go_end0
      obtain ⟨he,hmid,heI,hmI⟩:=E.out
      obtain ⟨n,os,e'⟩:=(B1.out).1
      exact ⟨rfl,n,os,d1,e',FIN.out (M1.out).1 (permIn_mono _ _ _ _ _ _ (by omega) (by omega) (by omega) (M1.out).2.1) (.inr ⟨by omega,rfl⟩) (.inr ⟨by omega,rfl⟩)⟩
   ·obtain ⟨he,hmid,heI,hmI⟩:=E.out
    have hc1:=sub mid e b d wr hS rfl (by omega) (by omega) (by omega) (by omega)
    rw [hmI,heI] at hc1
    have B0:Aside (SW enc w blk off d wr∧Dat w.heap.size (.func (.func g) #[] lb) (.func (.func sf) #[] sb) wr):=⟨hS,hDk⟩
    clear hS hDk rot sub he hmid heI hmI
    go_wp2_with (go_at_fn (ρ.f 30); refine hc1.mono ?_; rintro x1 w1 ⟨rfl,d1,hS1,hT1,hz1,hM1⟩; have hD1:=hT1 (B0.out).2; have B1:Aside (SW enc w blk off d1 w1∧Dat w.heap.size (.func (.func g) #[] lb) (.func (.func sf) #[] sb) w1):=⟨hS1,hD1⟩; obtain ⟨q1,k1,l1⟩:=hD1; clear hS1 hT1 hc1; have M1:Aside (Z18 lt mid e b d d1∧d1.size=d.size):=⟨hM1,hz1⟩; clear hM1; clear hz1)
    go_end0
    obtain ⟨he,hmid,heI,hmI⟩:=E.out
    obtain ⟨n,os,e'⟩:=(B1.out).1
    exact ⟨rfl,n,os,d1,e',FIN.out (Rot.none (by omega) (by omega)) (permIn_refl _ _ _) (.inr ⟨by omega,rfl⟩) (.inl (M1.out).1)⟩
theorem Zlk (L:LaysGt.n30 P ρ) (enc:α→Value) (lt:α→α→Bool) (hO:SWO lt) (g:Nat) (lb:Array Value) (sf:Nat) (sb:Array Value) (blk off:Nat)
  (eg:∀ args w,(callFunc g args).run P w=.ok (.enter g args) w):∀ (N a m b:Nat) (d:Array α) (w:World),b - a≤N→LessG P g lb enc lt blk off d.size w→SwapSwaps P sf sb enc blk off d.size →
  Holds enc w blk off d→blk < w.heap.size→a < m→m < b→b≤d.size→d.size < 4611686018427387904 →
  Calls P (ρ.f 30) #[.agg #[.func (.func g) #[] lb,.func (.func sf) #[] sb],.int .i64 a,.int .i64 m,.int .i64 b] w fun e w'=>e=.returned (.tuple #[])∧∃ n os d',w'=sortWorld enc w blk off n d' os∧Z18 lt a m b d d'
 | 0,a,m,b,d,w,hN,_,_,_,_,ham,hmb,_,_=>absurd hN (by omega)
 | N + 1,a,m,b,d,w,hN,hless,hswap,hH,hblk,ham,hmb,hb,hsz=>by
  by_cases h1:m=a + 1
  ·exact Z18m L enc lt hO g lb sf sb blk off eg a m b d w hless hswap hH hblk ham hmb hb hsz h1
  ·by_cases h2:b=m + 1
   ·exact Z1eb L enc lt hO g lb sf sb blk off eg a m b d w hless hswap hH hblk ham hmb hb hsz h1 h2
   ·have ih:=fun (a' m' b':Nat) (d':Array α) (w':World) (hlt:b' - a' < b - a)=>Zlk L enc lt hO g lb sf sb blk off eg N a' m' b' d' w' (by omega)
    by_cases h3:(a + b) / 2 < m
    ·exact Z1ed L enc lt hO g lb sf sb blk off eg a m b d w hless hswap hH hblk (by omega) (by omega) hb hsz h3 ih
    ·exact Z1ec L enc lt hO g lb sf sb blk off eg a m b d w hless hswap hH hblk (by omega) (by omega) hb hsz (by omega) ih
end Go.Proofs.YtgcoidbaoigkeaaGreatDoor.stab
namespace Go.Proofs.YtgcoidbaoigkeaaGreatDoor.stab
open Go.Shelf Go.RowKit Go.Lib Go.Sort
variable {P:Program} {ρ:Ren} {α:Type} [Inhabited α]
theorem Z18n {lt:α→α→Bool} {a i:Nat} {d:Array α} (h:SortedIn lt a i d):Ins lt a i i d :=
 ⟨fun p q h1 h2 h3 h4 h5=>h p q h1 h2 (by omega),fun q h1 h2=>by omega⟩
set_option maxHeartbeats 3200000 in
set_option maxRecDepth 1000000 in
theorem ins_w (L:LaysGt.n29 P ρ) (enc:α→Value) (lt:α→α→Bool) (hO:SWO lt) (g:Nat) (lb:Array Value) (sf:Nat) (sb:Array Value) (blk off:Nat)
  (eg:∀ args w,(callFunc g args).run P w=.ok (.enter g args) w) (a b:Nat) (d:Array α) (w:World) (hless:LessG P g lb enc lt blk off d.size w) (hswap:SwapSwaps P sf sb enc blk off d.size)
  (hH:Holds enc w blk off d) (hblk:blk < w.heap.size) (hab:a≤b) (hb:b≤d.size) (hsz:d.size < 4611686018427387904) :
  Calls P (ρ.f 29) #[.agg #[.func (.func g) #[] lb,.func (.func sf) #[] sb],.int .i64 a,.int .i64 b] w fun e w'=>e=.returned (.tuple #[])∧∃ n os d',w'=sortWorld enc w blk off n d' os∧PermIn a b d d'∧SortedIn lt a b d':=by
 have mixed:=L.mixed; have t0:=L.t0; have a0:=L.a0; have z0:=L.z0; have v0:=L.v0; have t3:=L.t3; have a3:=L.a3; have z3:=L.z3; have v3:=L.v3; have t4:=L.t4; have a4:=L.a4; have z4:=L.z4; have v4:=L.v4; have t26:=L.t26; have a26:=L.a26; have z26:=L.z26; have v26:=L.v26; have t38:=L.t38; have a38:=L.a38; have z38:=L.z38; have v38:=L.v38; have t42:=L.t42; have a42:=L.a42; have z42:=L.z42; have v42:=L.v42
 have u42:=run_underlying L.t42
 have hSW:=(SW.start hH).alloc (.cells #[.func (.func g) #[] lb,.func (.func sf) #[] sb] (ρ.t 42))
 have hD:=Dat.start w (.func (.func g) #[] lb) (.func (.func sf) #[] sb) (ρ.t 42)
 have hne:blk ≠ w.heap.size:=by omega
 go_enter L.f29,BodyGt.n29_ntmps ρ
 go_wp2
 go_loopg [6] (b + 1) (fun k s6 wr=>∃ (i:Nat) (dk:Array α),s6=.int .i64 i∧a < i∧i≤b + 1∧b + 1 - i≤k∧SW enc w blk off dk wr∧Dat w.heap.size (.func (.func g) #[] lb) (.func (.func sf) #[] sb) wr∧PermIn a b d dk∧SortedIn lt a i dk)
 case atStart=>exact ⟨a + 1,d,by congr 1,by omega,by omega,by omega,hSW,hD,permIn_refl _ _ _,Zli (by omega)⟩
 case round =>
  obtain ⟨i,dk,rfl,hai,hib,hk,hS,hDk,hP,hB⟩:=hrel
  by_cases hlt:i < b
  ·have A:Aside (SW enc w blk off dk wr∧Dat w.heap.size (.func (.func g) #[] lb) (.func (.func sf) #[] sb) wr∧PermIn a b d dk∧SortedIn lt a i dk):=⟨hS,hDk,hP,hB⟩
   clear hS hDk hP hB hSW hD
   go_wp2
   go_loopg [7] i (fun k s7 wr=>∃ (j:Nat) (dj:Array α),s7=.int .i64 j∧a≤j∧j≤i∧j≤k∧SW enc w blk off dj wr∧Dat w.heap.size (.func (.func g) #[] lb) (.func (.func sf) #[] sb) wr∧PermIn a b d dj∧Ins lt a j i dj)
   case atStart =>
    obtain ⟨hS,hDk,hP,hB⟩:=A.out
    exact ⟨i,dk,rfl,by omega,by omega,by omega,hS,hDk,hP,Z18n hB⟩
   case round =>
    obtain ⟨j,dj,rfl,haj,hji,hjk,hS,hDk,hP,hI⟩:=hrel
    have hds:dj.size=d.size:=hP.1
    obtain ⟨q0,c0,c1⟩:=id hDk
    have B:Aside (SW enc w blk off dj wr∧Dat w.heap.size (.func (.func g) #[] lb) (.func (.func sf) #[] sb) wr∧PermIn a b d dj∧Ins lt a j i dj∧dj.size=d.size∧Holds enc w blk off d∧SwapSwaps P sf sb enc blk off d.size):=⟨hS,hDk,hP,hI,hds,hH,hswap⟩
    by_cases hja:a < j
    ·have hl:=Zd4 hS hless hds j (j - 1) (by omega) (by omega)
     rw [show (((j - 1:Nat):Int))=(j:Int) - 1 by omega] at hl
     clear hS hDk hP hI hds hH hswap hless A
     cases hlv:lt dj[j]! dj[j - 1]! with
     | true =>
      rw [hlv] at hl
      have V:Aside (lt dj[j]! dj[j - 1]! = true):=hlv
      clear hlv
      have sw:∀ w',Grew wr w'→(callFunc sf (#[.int .i64 (j:Int),.int .i64 ((j:Int) - 1)]++sb)).run P w'=.ok (.value (.tuple #[])) ((w'.setCell ⟨blk,off + j,none⟩ (enc dj[j - 1]!)).setCell ⟨blk,off + (j - 1),none⟩ (enc dj[j]!)):=fun w' hG=>by
       obtain ⟨hS,hDk,hP,hI,hds,hH,hswap⟩:=B.out
       have:=hswap w' dj ((Z5n hS hG).holds hblk hH hds) hds j (j - 1) (by omega) (by omega)
       rwa [show (((j - 1:Nat):Int))=(j:Int) - 1 by omega] at this
      go_wp2_with (go_at_fn g; refine hl.mono ?_; rintro e w' ⟨rfl,hG⟩; have hs:=sw w' hG; obtain ⟨q2,c2,c3⟩:=(B.out).2.1.grew hG; clear sw hl)
      go_roundg (j - 1)
      case measure=>omega
      case rel =>
       obtain ⟨hS,hDk,hP,hI,hds,hH,hswap⟩:=B.out
       obtain ⟨j',rfl⟩:∃ j',j=j' + 1:=⟨j - 1,by omega⟩
       exact ⟨j',swp dj (j' + 1) j',by congr 1; omega,by omega,by omega,by omega,(Z5n hS hG).swap hblk (j' + 1) j' (by omega) (by omega),((hDk.grew hG).set _ _ hne).set _ _ hne,
        permIn_trans _ _ _ _ _ hP (swp_permIn _ _ _ _ _ (by omega) (by omega) (by omega) (by omega) (by omega)),hI.step V.out (by omega) (by omega)⟩
     | false =>
      rw [hlv] at hl
      have V:Aside (lt dj[j]! dj[j - 1]! = false):=hlv
      clear hlv
      go_wp2_with (go_at_fn g; refine hl.mono ?_; rintro e w' ⟨rfl,hG⟩)
      go_roundg (b + 1 - (i + 1))
      case measure=>omega
      case rel =>
       obtain ⟨hS,hDk,hP,hI,hds,hH,hswap⟩:=B.out
       exact ⟨i + 1,dj,by congr 1,by omega,by omega,by omega,Z5n hS hG,hDk.grew hG,hP,hI.stop hO (.inr V.out)⟩
    ·clear hS hDk hP hI hds hH hswap hless A
     go_wp2
     go_roundg (b + 1 - (i + 1))
     case measure=>omega
     case rel =>
      obtain ⟨hS,hDk,hP,hI,hds,hH,hswap⟩:=B.out
      exact ⟨i + 1,dj,by congr 1,by omega,by omega,by omega,hS,hDk,hP,hI.stop hO (.inl (by omega))⟩
  ·go_wp2
   go_end0
   obtain ⟨n,os,e'⟩:=hS
   exact ⟨rfl,n,os,dk,e',hP,fun p q h1 h2 h3=>hB p q h1 h2 (by omega)⟩
end Go.Proofs.YtgcoidbaoigkeaaGreatDoor.stab
namespace Go.Proofs.YtgcoidbaoigkeaaGreatDoor.stab
open Go.Shelf Go.RowKit Go.Lib Go.Sort
variable {P:Program} {ρ:Ren} {α:Type} [Inhabited α] {lt:α→α→Bool}
def Blk (lt:α→α→Bool) (bs n:Nat) (d:Array α):Prop:=∀ q,SortedIn lt (bs * q) (min (bs * q + bs) n) d
theorem Zo2 {W x q:Nat} (h:x < q):W * x + W≤W * q:=by
 have:=Nat.mul_le_mul_left W (show x + 1≤q from h)
 rwa [Nat.mul_succ] at this
theorem Zll {d:Array α} {a b a' b':Nat} (h:SortedIn lt a b d) (h1:a≤a') (h2:b'≤b):SortedIn lt a' b' d:=fun i j c1 c2 c3=>h i j (by omega) c2 (by omega)
theorem kept {d d':Array α} {a b x y:Nat} (hP:PermIn a b d d') (h:SortedIn lt x y d) (hd:y≤a∨b≤x):SortedIn lt x y d':=Z63 h fun k c1 c2=>hP.2.1 k (by omega)
theorem Zyg {d d':Array α} {W q a b:Nat} (ha:a=W * q) (hb:b=a + W) (h:∀ x,x < q→SortedIn lt (W * x) (W * x + W) d) (hP:PermIn a b d d') (hS:SortedIn lt a b d'):∀ x,x < q + 1→SortedIn lt (W * x) (W * x + W) d':=by
 intro x hx
 by_cases hxq:x < q
 ·have:=Zo2 (W:=W) hxq
  exact kept hP (h x hxq) (.inl (by omega))
 ·have:x=q:=by omega
  subst this
  rwa [← ha,← hb]
theorem Zuy {d d':Array α} {W q a n:Nat} (ha:a=W * q) (hn:n < a + W) (han:a≤n) (h:∀ x,x < q→SortedIn lt (W * x) (W * x + W) d) (hP:PermIn a n d d') (hS:SortedIn lt a n d'):Blk lt W n d':=by
 intro x
 by_cases hxq:x < q
 ·have:=Zo2 (W:=W) hxq
  exact Zll (kept hP (h x hxq) (.inl (by omega))) (Nat.le_refl _) (by omega)
 ·by_cases hxe:x=q
  ·subst hxe
   rw [← ha]
   exact Zll hS (Nat.le_refl _) (by omega)
  ·have:=Zo2 (W:=W) (show q < x by omega)
   exact Zli (by omega)
theorem Z1ee {d d':Array α} {bs n q a:Nat} (ha:a=2 * bs * q) (hb:a + 2 * bs≤n) (h1:∀ x,x < q→SortedIn lt (2 * bs * x) (2 * bs * x + 2 * bs) d) (h2:∀ y,2 * q≤y→SortedIn lt (bs * y) (min (bs * y + bs) n) d)
  (hM:Z18 lt a (a + bs) (a + 2 * bs) d d'):(∀ x,x < q + 1→SortedIn lt (2 * bs * x) (2 * bs * x + 2 * bs) d')∧∀ y,2 * (q + 1)≤y→SortedIn lt (bs * y) (min (bs * y + bs) n) d':=by
 have e0:bs * (2 * q)=a:=by rw [ha,← Nat.mul_assoc,Nat.mul_comm bs 2]
 have e1:bs * (2 * q + 1)=a + bs:=by rw [Nat.mul_add,e0,Nat.mul_one]
 have e2:bs * (2 * q + 2)=a + 2 * bs:=by rw [Nat.mul_add,e0]; omega
 have s0:=h2 (2 * q) (Nat.le_refl _)
 have s1:=h2 (2 * q + 1) (by omega)
 rw [e0,Nat.min_eq_left (by omega)] at s0
 rw [e1,Nat.min_eq_left (by omega)] at s1
 have hS:=hM.2 s0 (by rwa [show a + 2 * bs=a + bs + bs by omega])
 refine ⟨Zyg ha rfl h1 hM.1 hS,fun y hy=>?_⟩
 refine kept hM.1 (h2 y (by omega)) (.inr ?_)
 have:=Nat.mul_le_mul_left bs (show 2 * q + 2≤y by omega)
 omega
theorem Z18o {d d':Array α} {bs n q a:Nat} (ha:a=2 * bs * q) (hn:n < a + 2 * bs) (han:a≤n) (h1:∀ x,x < q→SortedIn lt (2 * bs * x) (2 * bs * x + 2 * bs) d) (h2:∀ y,2 * q≤y→SortedIn lt (bs * y) (min (bs * y + bs) n) d)
  (hM:(a + bs < n∧Z18 lt a (a + bs) n d d')∨(n≤a + bs∧d'=d)):Blk lt (2 * bs) n d':=by
 have e0:bs * (2 * q)=a:=by rw [ha,← Nat.mul_assoc,Nat.mul_comm bs 2]
 have e1:bs * (2 * q + 1)=a + bs:=by rw [Nat.mul_add,e0,Nat.mul_one]
 have s0:=h2 (2 * q) (Nat.le_refl _)
 have s1:=h2 (2 * q + 1) (by omega)
 rw [e0] at s0
 rw [e1] at s1
 rcases hM with ⟨hlt,hM⟩ | ⟨hge,rfl⟩
 ·rw [Nat.min_eq_left (by omega)] at s0
  rw [Nat.min_eq_right (by omega)] at s1
  exact Zuy ha hn han h1 hM.1 (hM.2 s0 s1)
 ·rw [Nat.min_eq_right (by omega)] at s0
  exact Zuy ha hn han h1 (permIn_refl _ _ _) s0
set_option maxHeartbeats 6400000 in
set_option maxRecDepth 1000000 in
theorem Z1ef (L:LaysGt.n15 P ρ) (enc:α→Value) (lt:α→α→Bool) (hO:SWO lt) (g:Nat) (lb:Array Value) (sf:Nat) (sb:Array Value) (blk off:Nat) (d:Array α) (w:World)
  (eg:∀ args w,(callFunc g args).run P w=.ok (.enter g args) w) (hless:LessG P g lb enc lt blk off d.size w) (hswap:SwapSwaps P sf sb enc blk off d.size)
  (hH:Holds enc w blk off d) (hblk:blk < w.heap.size) (hsz:d.size < 1000000000) :
  Calls P (ρ.f 15) #[.agg #[.func (.func g) #[] lb,.func (.func sf) #[] sb],.int .i64 d.size] w fun e w'=>e=.returned (.tuple #[])∧∃ n os d',w'=sortWorld enc w blk off n d' os∧PermIn 0 d.size d d'∧SortedIn lt 0 d.size d':=by
 have mixed:=L.mixed; have t0:=L.t0; have a0:=L.a0; have z0:=L.z0; have v0:=L.v0; have t3:=L.t3; have a3:=L.a3; have z3:=L.z3; have v3:=L.v3; have t4:=L.t4; have a4:=L.a4; have z4:=L.z4; have v4:=L.v4; have t26:=L.t26; have a26:=L.a26; have z26:=L.z26; have v26:=L.v26; have t38:=L.t38; have a38:=L.a38; have z38:=L.z38; have v38:=L.v38; have t42:=L.t42; have a42:=L.a42; have z42:=L.z42; have v42:=L.v42; have t47:=L.t47; have a47:=L.a47; have z47:=L.z47; have v47:=L.v47
 have u42:=run_underlying L.t42
 have e29:∀ args w,(callFunc (ρ.f 29) args).run P w=.ok (.enter (ρ.f 29) args) w:=enters_of L.f29 (by kernel_rfl) rfl
 have e30:∀ args w,(callFunc (ρ.f 30) args).run P w=.ok (.enter (ρ.f 30) args) w:=enters_of L.f30 (by kernel_rfl) rfl
 have LI:LaysGt.n29 P ρ:={ L with }
 have LM:LaysGt.n30 P ρ:={ L with }
 have hSW:=(SW.start hH).alloc (.cells #[.func (.func g) #[] lb,.func (.func sf) #[] sb] (ρ.t 42))
 have hD:=Dat.start w (.func (.func g) #[] lb) (.func (.func sf) #[] sb) (ρ.t 42)
 have hne:blk ≠ w.heap.size:=by omega
 obtain ⟨n,hn⟩:∃ n,n=d.size:=⟨_,rfl⟩
 have ins:∀ (a b:Nat) (dk:Array α) (W:World),SW enc w blk off dk W→dk.size=n→a≤b→b≤n →
   Calls P (ρ.f 29) #[.agg #[.func (.func g) #[] lb,.func (.func sf) #[] sb],.int .i64 a,.int .i64 b] W fun e w''=>e=.returned (.tuple #[])∧∃ d'',SW enc w blk off d'' w''∧(Dat w.heap.size (.func (.func g) #[] lb) (.func (.func sf) #[] sb) W→Dat w.heap.size (.func (.func g) #[] lb) (.func (.func sf) #[] sb) w'')∧d''.size=n∧PermIn a b dk d''∧SortedIn lt a b d'':=fun a b dk W hS hs h1 h2 =>
  (ins_w LI enc lt hO g lb sf sb blk off eg a b dk W (Zd5 hS (by rw [hs,hn]; exact hless) hblk rfl) (by rw [hs,hn]; exact hswap) (hS.holds hblk hH (hs.trans hn)) (hS.lt hblk) h1 (by omega) (by omega)).mono fun _ _ ⟨he,n',os,d'',hw,hP,hB⟩ =>
   have hz:d''.size=dk.size:=hP.1
   ⟨he,d'',by rw [hw]; exact hS.on hblk n' d'' os hz,fun h=>by rw [hw]; exact h.on enc blk off n' d'' os (Ne.symm hne),hz.trans hs,hP,hB⟩
 have mer:∀ (a m b:Nat) (dk:Array α) (W:World),SW enc w blk off dk W→dk.size=n→a < m→m < b→b≤n →
   Calls P (ρ.f 30) #[.agg #[.func (.func g) #[] lb,.func (.func sf) #[] sb],.int .i64 a,.int .i64 m,.int .i64 b] W fun e w''=>e=.returned (.tuple #[])∧∃ d'',SW enc w blk off d'' w''∧(Dat w.heap.size (.func (.func g) #[] lb) (.func (.func sf) #[] sb) W→Dat w.heap.size (.func (.func g) #[] lb) (.func (.func sf) #[] sb) w'')∧d''.size=n∧Z18 lt a m b dk d'':=fun a m b dk W hS hs h1 h2 h3 =>
  (Zlk LM enc lt hO g lb sf sb blk off eg (b - a) a m b dk W (Nat.le_refl _) (Zd5 hS (by rw [hs,hn]; exact hless) hblk rfl) (by rw [hs,hn]; exact hswap) (hS.holds hblk hH (hs.trans hn)) (hS.lt hblk) h1 h2 (by omega) (by omega)).mono fun _ _ ⟨he,n',os,d'',hw,hM⟩ =>
   have hz:d''.size=dk.size:=hM.1.1
   ⟨he,d'',by rw [hw]; exact hS.on hblk n' d'' os hz,fun h=>by rw [hw]; exact h.on enc blk off n' d'' os (Ne.symm hne),hz.trans hs,hM⟩
 rw [← hn]
 have hnz:n < 1000000000:=by omega
 have N:Aside (n=d.size):=hn
 clear hless hswap hn hH
 go_enter L.f15,BodyGt.n15_ntmps ρ
 go_wp2
 go_loopg [5,6] n (fun k s5 s6 wr=>∃ (a q:Nat) (dk:Array α),s5=.int .i64 a∧s6=.int .i64 ((a:Int) + 20)∧a=20 * q∧a≤n∧n - a≤k∧SW enc w blk off dk wr∧Dat w.heap.size (.func (.func g) #[] lb) (.func (.func sf) #[] sb) wr∧PermIn 0 n d dk∧∀ x,x < q→SortedIn lt (20 * x) (20 * x + 20) dk)
 case atStart=>exact ⟨0,0,d,rfl,rfl,rfl,by omega,by omega,hSW,hD,permIn_refl _ _ _,fun x hx=>absurd hx (by omega)⟩
 case round =>
  obtain ⟨a,q,dk,rfl,rfl,haq,han,hk,hS,hDk,hP,hB⟩:=hrel
  have hz:dk.size=n:=by have:=hP.1; have:=N.out; omega
  obtain ⟨q0,c0,c1⟩:=id hDk
  have A:Aside (SW enc w blk off dk wr∧Dat w.heap.size (.func (.func g) #[] lb) (.func (.func sf) #[] sb) wr∧PermIn 0 n d dk∧(∀ x,x < q→SortedIn lt (20 * x) (20 * x + 20) dk)∧a=20 * q):=⟨hS,hDk,hP,hB,haq⟩
  by_cases hlt:a + 20≤n
  ·have hc:=ins a (a + 20) dk wr hS hz (by omega) hlt
   rw [show (((a + 20:Nat):Int))=(a:Int) + 20 by omega] at hc
   clear hS hDk hP hB hSW hD ins mer haq hz
   have hltI:(a:Int) + 20≤n:=by omega
   go_wp2_with (go_at_fn (ρ.f 29); refine hc.mono ?_; rintro e w1 ⟨rfl,d1,hS1,hT1,hz1,hP1,hB1⟩)
   go_roundg (n - (a + 20))
   case measure=>omega
   case rel =>
    obtain ⟨hS,hDk,hP,hB,haq⟩:=A.out
    exact ⟨a + 20,q + 1,d1,by congr 1,by congr 1,by omega,by omega,by omega,hS1,hT1 hDk,permIn_trans _ _ _ _ _ hP (permIn_mono _ _ _ _ _ _ (by omega) (by omega) (by have:=hP.1; have:=N.out; omega) hP1),Zyg haq rfl hB hP1 hB1⟩
  ·have hc:=ins a n dk wr hS hz han (Nat.le_refl _)
   have hgeI:¬ (a:Int) + 20≤n:=by omega
   clear hS hDk hP hB hSW hD ins haq hz
   go_wp2_with (go_at_fn (ρ.f 29); refine hc.mono ?_; rintro e w1 ⟨rfl,d1,hS1,hT1,hz1,hP1,hB1⟩)
   have A1:Aside (SW enc w blk off d1 w1∧Dat w.heap.size (.func (.func g) #[] lb) (.func (.func sf) #[] sb) w1∧PermIn 0 n d d1∧Blk lt 20 n d1):=by
    obtain ⟨hS,hDk,hP,hB,haq⟩:=A.out
    exact ⟨hS1,hT1 hDk,permIn_trans _ _ _ _ _ hP (permIn_mono _ _ _ _ _ _ (by omega) (by omega) (by have:=hP.1; have:=N.out; omega) hP1),Zuy haq (by omega) han hB hP1 hB1⟩
   clear A hS1 hT1 hz1 hP1 hB1 q0 c0 c1 hgeI hlt hk
   go_loopg [4] n (fun k s4 wr=>∃ (bs:Nat) (dk:Array α),s4=.int .i64 bs∧0 < bs∧bs≤2 * n + 20∧n - bs≤k∧SW enc w blk off dk wr∧Dat w.heap.size (.func (.func g) #[] lb) (.func (.func sf) #[] sb) wr∧PermIn 0 n d dk∧Blk lt bs n dk)
   case atStart =>
    obtain ⟨hS,hDk,hP,hB⟩:=A1.out
    exact ⟨20,d1,rfl,by omega,by omega,by omega,hS,hDk,hP,hB⟩
   case round =>
    obtain ⟨bs,dk,rfl,hb0,hbn,hk,hS,hDk,hP,hB⟩:=hrel
    clear A1
    by_cases hlt:bs < n
    ·have A2:Aside (SW enc w blk off dk wr∧Dat w.heap.size (.func (.func g) #[] lb) (.func (.func sf) #[] sb) wr∧PermIn 0 n d dk∧Blk lt bs n dk):=⟨hS,hDk,hP,hB⟩
     have M:Aside (∀ (a m b:Nat) (dk:Array α) (W:World),SW enc w blk off dk W→dk.size=n→a < m→m < b→b≤n →
   Calls P (ρ.f 30) #[.agg #[.func (.func g) #[] lb,.func (.func sf) #[] sb],.int .i64 a,.int .i64 m,.int .i64 b] W fun e w''=>e=.returned (.tuple #[])∧∃ d'',SW enc w blk off d'' w''∧(Dat w.heap.size (.func (.func g) #[] lb) (.func (.func sf) #[] sb) W→Dat w.heap.size (.func (.func g) #[] lb) (.func (.func sf) #[] sb) w'')∧d''.size=n∧Z18 lt a m b dk d''):=mer
     clear hS hDk hP hB mer
     go_wp2
     go_loopg [5,6] n (fun k s5 s6 wr=>∃ (a q:Nat) (dk:Array α),s5=.int .i64 a∧s6=.int .i64 ((a:Int) + 2 * bs)∧a=2 * bs * q∧a≤n∧n - a≤k∧SW enc w blk off dk wr∧Dat w.heap.size (.func (.func g) #[] lb) (.func (.func sf) #[] sb) wr∧PermIn 0 n d dk ∧
      (∀ x,x < q→SortedIn lt (2 * bs * x) (2 * bs * x + 2 * bs) dk)∧∀ y,2 * q≤y→SortedIn lt (bs * y) (min (bs * y + bs) n) dk)
     case atStart =>
      obtain ⟨hS,hDk,hP,hB⟩:=A2.out
      exact ⟨0,0,dk,rfl,by congr 1; omega,rfl,by omega,by omega,hS,hDk,hP,fun x hx=>absurd hx (by omega),fun y _=>hB y⟩
     case round =>
      obtain ⟨a',q',dj,rfl,rfl,haq,han',hk',hS,hDk,hP,hB1,hB2⟩:=hrel
      have hz:dj.size=n:=by have:=hP.1; have:=N.out; omega
      obtain ⟨q0,c0,c1⟩:=id hDk
      have A:Aside (SW enc w blk off dj wr∧Dat w.heap.size (.func (.func g) #[] lb) (.func (.func sf) #[] sb) wr∧PermIn 0 n d dj∧(∀ x,x < q'→SortedIn lt (2 * bs * x) (2 * bs * x + 2 * bs) dj)∧(∀ y,2 * q'≤y→SortedIn lt (bs * y) (min (bs * y + bs) n) dj)∧a'=2 * bs * q'):=⟨hS,hDk,hP,hB1,hB2,haq⟩
      by_cases hlt2:a' + 2 * bs≤n
      ·have hc:=M.out a' (a' + bs) (a' + 2 * bs) dj wr hS hz (by omega) (by omega) hlt2
       rw [show (((a' + bs:Nat):Int))=(a':Int) + bs by omega,show (((a' + 2 * bs:Nat):Int))=(a':Int) + 2 * bs by omega] at hc
       clear hS hDk hP hB1 hB2 haq hz A2
       have hltI:(a':Int) + 2 * bs≤n:=by omega
       go_wp2_with (go_at_fn (ρ.f 30); refine hc.mono ?_; rintro e w2 ⟨rfl,d2,hS2,hT2,hz2,hM2⟩)
       go_roundg (n - (a' + 2 * bs))
       case measure=>omega
       case rel =>
        obtain ⟨hS,hDk,hP,hB1,hB2,haq⟩:=A.out
        have hN:=Z1ee haq hlt2 hB1 hB2 hM2
        exact ⟨a' + 2 * bs,q' + 1,d2,by congr 1,by congr 1,by rw [Nat.mul_add]; omega,by omega,by omega,hS2,hT2 hDk,permIn_trans _ _ _ _ _ hP (permIn_mono _ _ _ _ _ _ (by omega) (by omega) (by have:=hP.1; have:=N.out; omega) hM2.1),hN.1,hN.2⟩
      ·have hgeI:¬ (a':Int) + 2 * bs≤n:=by omega
       by_cases hm:a' + bs < n
       ·have hc:=M.out a' (a' + bs) n dj wr hS hz (by omega) (by omega) (Nat.le_refl _)
        rw [show (((a' + bs:Nat):Int))=(a':Int) + bs by omega] at hc
        clear hS hDk hP hB1 hB2 haq hz A2
        have hltI:(a':Int) + bs < n:=by omega
        go_wp2_with (go_at_fn (ρ.f 30); refine hc.mono ?_; rintro e w2 ⟨rfl,d2,hS2,hT2,hz2,hM2⟩)
        go_roundg (n - 2 * bs)
        case measure=>omega
        case rel =>
         obtain ⟨hS,hDk,hP,hB1,hB2,haq⟩:=A.out
         exact ⟨2 * bs,d2,by congr 1; omega,by omega,by omega,by omega,hS2,hT2 hDk,permIn_trans _ _ _ _ _ hP (permIn_mono _ _ _ _ _ _ (by omega) (by omega) (by have:=hP.1; have:=N.out; omega) hM2.1),Z18o haq (by omega) han' hB1 hB2 (.inl ⟨hm,hM2⟩)⟩
       ·clear hS hDk hP hB1 hB2 haq hz A2
        have hltI:¬ (a':Int) + bs < n:=by omega
        go_wp2
        go_roundg (n - 2 * bs)
        case measure=>omega
        case rel =>
         obtain ⟨hS,hDk,hP,hB1,hB2,haq⟩:=A.out
         exact ⟨2 * bs,dj,by congr 1; omega,by omega,by omega,by omega,hS,hDk,hP,Z18o haq (by omega) han' hB1 hB2 (.inr ⟨by omega,rfl⟩)⟩
    ·go_wp2
     go_end0
     obtain ⟨n',os,e'⟩:=hS
     have h0:=hB 0
     rw [Nat.mul_zero,Nat.min_eq_right (by omega)] at h0
     exact ⟨rfl,n',os,dk,e',hP,h0⟩
theorem sliceStable_w (L:LaysGt.n8 P ρ) (t e:TypeId) (i ie:TypeInfo) (hi:P.info? t=some i) (hd:i.desc=.slice e) (hpk:P.packed t=false) (hie:P.info? e=some ie) (ke:Nat) (hke:∀ w,(Extern.Rtype.kind e).run P w=.ok ke w)
  (hs1:ie.size=1) (hagg:∀ w,(isAgg e).run P w=.ok false w) (enc:α→Value) (h1:∀ x,(enc x).oneCell'=true) (lt:α→α→Bool) (hO:SWO lt) (g:Nat) (lb:Array Value)
  (eg:∀ args w,(callFunc g args).run P w=.ok (.enter g args) w) (blk off c:Nat) (d:Array α) (h2:2≤d.size) (hsz:d.size < 1000000000)
  (f:Nat) (hf:P.funcs.findIdx? (·.name == "internal/reflectlite" ++ ".Swapper$"++toString (swapperK d.size ie ke))=some f)
  (gS:Bool) (hx:∀ args W,(callFunc f args).run P W=((Extern.ReflectliteSwapper.swap gS args).run P W).andThen fun v w'=>.ok (.value v) w')
  (w:World) (hless:LessG P g lb enc lt blk off d.size w) (hH:Holds enc w blk off d) (hblk:blk < w.heap.size) :
  Calls P (ρ.f 8) #[.iface t (.slice (some ⟨blk,off,none⟩) d.size c),.func (.func g) #[] lb] w fun e w' =>
   e=.returned (.tuple #[])∧∃ n os d',w'=sortWorld enc w blk off n d' os∧PermIn 0 d.size d d'∧SortedIn lt 0 d.size d':=by
 refine Any.sort_SliceStable_of_stable L t e i ie hi hd hpk hie ke hke _ d.size c (by omega) f hf (.func g) #[] lb w _ ?_
 have hB:sliceBound P e ie ke (some ⟨blk,off,none⟩) d.size c=#[.slice (some ⟨blk,off,none⟩) d.size c,typeHandle P e]:=by
  unfold sliceBound; rw [if_neg (swapperK_gt _ _ _ h2)]
 have hW:stableWorld P ρ t (some ⟨blk,off,none⟩) d.size c w=grow w #[.cells #[.slice (some ⟨blk,off,none⟩) d.size c] t,.cells #[.pointer (some ⟨P.globals.size,t,none⟩),.pointer (some ⟨w.heap.size,0,none⟩),.int .u64 151] (ρ.t 36)]:=by
  unfold stableWorld; rw [alloc_eq_grow,alloc_eq_grow,grow_grow]; rfl
 generalize (#[.cells #[.slice (some ⟨blk,off,none⟩) d.size c] t,.cells #[.pointer (some ⟨P.globals.size,t,none⟩),.pointer (some ⟨w.heap.size,0,none⟩),.int .u64 151] (ρ.t 36)]:Array Obj)=os0 at hW
 rw [hB,hW]
 have hp:=Z1ef (P:=P) (ρ:=ρ) { L with } enc lt hO g lb f _ blk off d (grow w os0) eg (hless.grow hblk os0)
  (swapSwaps_of_literal gS f hx e ie hie hs1 hagg enc h1 blk off d.size c) (holds_grow enc w _ blk off d hblk hH) (by rw [size_grow]; omega) hsz
 refine hp.mono ?_
 rintro e w' ⟨rfl,n,os,d',rfl,hP,hS⟩
 refine ⟨rfl,n,os0++os,d',?_,hP,hS⟩
 unfold sortWorld
 show Sort.grow (putRow enc (Sort.grow { w with drawn:=n } os0) blk off d') os=_
 rw [putRow_grow enc { w with drawn:=n } _ blk off _ hblk,grow_grow]
end Go.Proofs.YtgcoidbaoigkeaaGreatDoor.stab
namespace Go.Proofs
open Go.Shelf
def Tryz.laysGt8_ren:Go.Shelf.Ren:=⟨fun | 8=>66 | 13=>100 | 14=>101 | 16=>103 | 15=>102 | 29=>149 | 30=>150 | 42=>183 | 49=>198 | n=>n,fun | 20=>20 | 26=>150 | 36=>195 | 0=>0 | 38=>197 | 42=>201 | 3=>3 | 4=>4 | 47=>207 | 17=>17 | 33=>192 | 34=>193 | 89=>304 | 12=>12 | 56=>254 | 82=>297 | 5=>5 | 83=>298 | 84=>299 | 85=>300 | 86=>301 | 87=>302 | n=>n,fun | n=>n⟩
theorem Tryz.laysGt8:Go.Proofs.LaysGt.n8 Tryz.prog Tryz.laysGt8_ren:={
 mixed:=by kernel_rfl
 f8:=Tryz.func66.trans (congrArg some (by kernel_rfl))
 f13:=Tryz.func100.trans (congrArg some (by kernel_rfl))
 f14:=Tryz.func101.trans (congrArg some (by kernel_rfl))
 f15:=Tryz.func102.trans (congrArg some (by kernel_rfl))
 f16:=Tryz.func103.trans (congrArg some (by kernel_rfl))
 f29:=Tryz.func149.trans (congrArg some (by kernel_rfl))
 f30:=Tryz.func150.trans (congrArg some (by kernel_rfl))
 f42:=Tryz.func183.trans (congrArg some (by kernel_rfl))
 f49:=Tryz.func198.trans (congrArg some (by kernel_rfl))
 t0:=Tryz.underlying0
 a0:=Tryz.isAgg0
 z0:=Tryz.sizeOf0
 v0:=Tryz.zeroValue0
 i0:=by kernel_rfl
 t3:=Tryz.underlying3
 a3:=Tryz.isAgg3
 z3:=Tryz.sizeOf3
 v3:=Tryz.zeroValue3
 i3:=by kernel_rfl
 t4:=Tryz.underlying4
 a4:=Tryz.isAgg4
 z4:=Tryz.sizeOf4
 v4:=Tryz.zeroValue4
 i4:=by kernel_rfl
 t5:=Tryz.underlying5
 a5:=Tryz.isAgg5
 z5:=Tryz.sizeOf5
 v5:=Tryz.zeroValue5
 i5:=by kernel_rfl
 t12:=Tryz.underlying12
 a12:=Tryz.isAgg12
 z12:=Tryz.sizeOf12
 v12:=Tryz.zeroValue12
 i12:=by kernel_rfl
 t17:=Tryz.underlying17
 a17:=Tryz.isAgg17
 z17:=Tryz.sizeOf17
 v17:=Tryz.zeroValue17
 i17:=by kernel_rfl
 t20:=Tryz.underlying20
 a20:=Tryz.isAgg20
 z20:=Tryz.sizeOf20
 v20:=Tryz.zeroValue20
 i20:=by kernel_rfl
 t26:=Tryz.underlying150
 a26:=Tryz.isAgg150
 z26:=Tryz.sizeOf150
 v26:=Tryz.zeroValue150
 i26:=by kernel_rfl
 t33:=Tryz.underlying192
 a33:=Tryz.isAgg192
 z33:=Tryz.sizeOf192
 v33:=Tryz.zeroValue192
 i33:=by kernel_rfl
 t34:=Tryz.underlying193
 a34:=Tryz.isAgg193
 z34:=Tryz.sizeOf193
 v34:=Tryz.zeroValue193
 i34:=by kernel_rfl
 t36:=Tryz.underlying195
 a36:=Tryz.isAgg195
 z36:=Tryz.sizeOf195
 v36:=Tryz.zeroValue195
 i36:=by kernel_rfl
 t38:=Tryz.underlying197
 a38:=Tryz.isAgg197
 z38:=Tryz.sizeOf197
 v38:=Tryz.zeroValue197
 i38:=by kernel_rfl
 t42:=Tryz.underlying201
 a42:=Tryz.isAgg201
 z42:=Tryz.sizeOf201
 v42:=Tryz.zeroValue201
 i42:=by kernel_rfl
 t47:=Tryz.underlying207
 a47:=Tryz.isAgg207
 z47:=Tryz.sizeOf207
 v47:=Tryz.zeroValue207
 i47:=by kernel_rfl
 t56:=Tryz.underlying254
 a56:=Tryz.isAgg254
 z56:=Tryz.sizeOf254
 v56:=Tryz.zeroValue254
 i56:=by kernel_rfl
 t82:=Tryz.underlying297
 a82:=Tryz.isAgg297
 z82:=Tryz.sizeOf297
 v82:=Tryz.zeroValue297
 i82:=by kernel_rfl
 t83:=Tryz.underlying298
 a83:=Tryz.isAgg298
 z83:=Tryz.sizeOf298
 v83:=Tryz.zeroValue298
 i83:=by kernel_rfl
 t84:=Tryz.underlying299
 a84:=Tryz.isAgg299
 z84:=Tryz.sizeOf299
 v84:=Tryz.zeroValue299
 i84:=by kernel_rfl
 t85:=Tryz.underlying300
 a85:=Tryz.isAgg300
 z85:=Tryz.sizeOf300
 v85:=Tryz.zeroValue300
 i85:=by kernel_rfl
 t86:=Tryz.underlying301
 a86:=Tryz.isAgg301
 z86:=Tryz.sizeOf301
 v86:=Tryz.zeroValue301
 i86:=by kernel_rfl
 t87:=Tryz.underlying302
 a87:=Tryz.isAgg302
 z87:=Tryz.sizeOf302
 v87:=Tryz.zeroValue302
 i87:=by kernel_rfl
 t89:=Tryz.underlying304
 a89:=Tryz.isAgg304
 z89:=Tryz.sizeOf304
 v89:=Tryz.zeroValue304
 i89:=by kernel_rfl }
end Go.Proofs
namespace Go.Proofs.YtgcoidbaoigkeaaGreatDoor.fix
open Go.RowKit Go.Sx Go.Sort
def toF (N:Nat) (x:Int):Fin (N + 1):=Fin.ofNat (N + 1) x.toNat
def ofF {N:Nat} (x:Fin (N + 1)):Int:=(x.val:Int)
theorem Z1jn {N:Nat} {x:Int} (h0:0≤x) (h1:x < (N:Int) + 1):ofF (toF N x)=x:=by
 unfold ofF toF
 simp only [Fin.ofNat]
 rw [Nat.mod_eq_of_lt (by omega)]
 omega
noncomputable def ltF {N:Nat} (L:List Int) (ax:Nat) (x y:Fin (N + 1)):Bool:=ltK L ax (ofF x) (ofF y)
theorem Z18p {N:Nat} (L:List Int) (ax:Nat):SWO (ltF (N:=N) L ax) where
 irrefl x:=by unfold ltF ltK; exact decide_eq_false (by omega)
 trans x y z h1 h2:=by
  unfold ltF ltK at *
  simp only [Z1ks] at *
  omega
 ntrans x y z h1 h2:=by
  unfold ltF ltK at *
  simp only [decide_eq_false_iff_not] at *
  omega
theorem Z1eg {N:Nat} {L:List Int} {ax:Nat} {d d':Array (Fin (N + 1))} (hP:PermIn 0 d.size d d') (hS:SortedIn (ltF L ax) 0 d.size d'):d'.toList.map ofF=Zbk L ax (d.toList.map ofF):=by
 have:=sorted_unique_holds (lt:=ltF L ax) (Z18p L ax) (fun x y h1 h2=>by
  unfold ltF ltK at *
  simp only [decide_eq_false_iff_not] at *
  have:ofF x=ofF y:=by omega
  unfold ofF at this
  exact Fin.ext (by omega)) d d' hP hS
 rw [this]
 exact List.map_mergeSort fun a _ b _=>rfl
theorem Zd7 (L:List Int) (ax:Nat) (s:List Int):(Zbk L ax s).length=s.length:=by simp [Zbk]
theorem Z18q {L:List Int} {ax:Nat} {s:List Int} {x:Int}:x ∈ Zbk L ax s↔x ∈ s:=by simp [Zbk]
theorem Z11q (L:List Int) (ax:Nat) (s:List Int):(Zbk L ax s).Perm s:=List.mergeSort_perm _ _
def Z8h (I:List Int) (lo hi:Int):List Int:=(I.take hi.toNat).drop lo.toNat
theorem Z7q {I:List Int} {lo hi:Int} (h0:0≤lo) (h1:lo≤hi) (h2:hi≤(I.length:Int)):(Z8h I lo hi).length=(hi - lo).toNat:=by
 simp only [Z8h,List.length_drop,List.length_take]
 omega
def Zuz (I:List Int) (lo hi:Int) (s:List Int):List Int:=I.take lo.toNat++(s++I.drop hi.toNat)
theorem Zyh {I:List Int} {lo hi:Int} {s:List Int} (h0:0≤lo) (h1:lo≤hi) (h2:hi≤(I.length:Int)) (hs:s.length=(hi - lo).toNat):(Zuz I lo hi s).length=I.length:=by
 simp only [Zuz,List.length_append,List.length_take,List.length_drop,hs]
 omega
noncomputable def Z18r (x:List Int):List Int:=[cod (Zuz (dec (x.getD 0 0)) (x.getD 1 0) (x.getD 2 0) (Zbk (dec (x.getD 3 0)) (x.getD 4 0).toNat (Z8h (dec (x.getD 0 0)) (x.getD 1 0) (x.getD 2 0))))]
structure Zyi (I L:List Int) (lo hi ax:Int):Prop where
 lo0:0≤lo
 two:lo + 2≤hi
 hi1:hi≤(I.length:Int)
 len:I.length≤1000
 its:∀ x ∈ Z8h I lo hi,0≤x∧x < (L.length:Int)
 bxs:∀ b ∈ L,Z36 b=true
 ax0:0≤ax
 ax2:ax < 3
def Z18s (x:List Int):Prop:=Zyi (dec (x.getD 0 0)) (dec (x.getD 3 0)) (x.getD 1 0) (x.getD 2 0) (x.getD 4 0)
noncomputable def Zo3:Sum:=⟨66,[],[],Z18r,Z18s,gl0,some fun _ _=>none⟩
theorem ok_sst:Zo3.okA Tryz.prog:=by
 show Zo3.okM Tryz.prog fun _ _=>none
 intro W0 e s w args bb es kk _ _ _ _ hf
 cases hf
noncomputable def fSst:SpF:=fun s t v gf caps=>match v,caps with
 | .gv (.o m) 1 lo hi,[(n4,0),(n5,0),(n11,0)]=>match s.mem[n4]?,s.mem[n5]?,s.mem[n11]?,s.rows[m]? with
  | some b4,some b5,some b11,some r=>match b4.cells,b5.cells,b11.cells with
   | [.go (.a i)],[.gv (.o m') 1 lo' hi'],[.i .i64 axE]=>match s.hs[i]? with
    | some (ks,cl)=>if ((decide (gf=67) && decide (t=45)) && ((b4.live && b5.live) && (b11.live && r.live))) && (((decide (b4.ty=48) && decide (b5.ty=45)) && (decide (b11.ty=3) && decide (r.ty=3))) &&
      ((decide (m'=m) && (lo.same lo' && hi.same hi')) && ((Z2g r.ks [.i .i64] && Z2g ks Z3d) && ((decide (s.flr≤m) && Z1a1 gl0 s.gl) && (decide (n4 ≠ n5) && (decide (n4 ≠ n11) && decide (n5 ≠ n11)))))))
     then some ([r.c,lo,hi,cl,axE],fun nv=>{ s with rows:=s.rows.set m { r with c:=.v nv },nv:=nv + 1 }) else none
    | none=>none
   | _,_,_=>none
  | _,_,_,_=>none
 | _,_=>none
open YtgcoidbaoigkeaaGreatDoor.stab in
theorem Zyj {α:Type} [Inhabited α] {enc:α→Value} {w W:World} {g off:Nat} {dk:Array α} (h:stab.SW enc w g off dk W) {k:Nat} (hk:k < w.heap.size) (hne:k ≠ g):W.heap[k]?=w.heap[k]?:=by
 obtain ⟨n,os,rfl⟩:=h
 unfold stab.sortWorld
 rw [heap_grow_old _ _ (by rw [size_putRow]; exact hk)]
 simp [putRow,mapBlock,Array.getElem?_modify,Ne.symm hne]
theorem Z1jo {α:Type} [Inhabited α] {enc:α→Value} {w W:World} {g off:Nat} {dk:Array α} (h:stab.SW enc w g off dk W):w.heap.size≤W.heap.size:=h.le
theorem Z18t {W0:Bas} {w W:World} {ks:List K} {v:Value} {c:Int} {g:Nat} (h:SlX W0 ks v c) (hb:Zv W0 w) (hg:W0.may g) (hW:∀ k,k < w.heap.size→k ≠ g→W.heap[k]?=w.heap[k]?):Z53 W ks v c:=by
 have hn:=h.now hb
 obtain ⟨h0,hx⟩:=h.base
 rcases h0 with h0 | ⟨b,off,cap,h1,h2,h3,h4,h5⟩
 ·exact .inl h0
 ·rcases hn with hn | ⟨b',off',cap',h1',_,_,_,h5'⟩
  ·exact .inl hn
  ·rw [h1] at h1'
   cases h1'
   refine .inr ⟨b,off,cap,h1,h2,h3,h4,fun j u hj=>?_⟩
   have c0:=h5 j u hj
   have c1:=h5' j u hj
   have hlt:=World.block_lt_of_cell? _ _ c0
   have hlt1:=World.block_lt_of_cell? _ _ c1
   have hne:b ≠ g:=by
    rintro rfl
    rcases hg with hg | hg
    ·exact absurd hlt (Nat.not_lt.2 hg)
    ·exact hx (by intro h0'; rw [h0'] at hj; simp at hj) b (by rw [h1]; rfl) hg
   rw [World.cell?_of_block (w:=w) (hW b hlt1 hne)]
   exact c1
theorem Z18u {W0:Bas} {w W:World} {gl:List (Nat × List Int)} {g:Nat} (h:GlX gl W0) (hb:Zv W0 w) (hg:W0.may g) (hW:∀ k,k < w.heap.size→k ≠ g→W.heap[k]?=w.heap[k]?):Zoa gl W:=by
 intro p hp j n hj
 have c1:=h.now hb p hp j n hj
 have c0:=h.1 p hp j n hj
 have hlt:=World.block_lt_of_cell? _ _ c0
 have hlt1:=World.block_lt_of_cell? _ _ c1
 have hne:p.1 ≠ g:=by
  intro he
  rcases hg with hg | hg
  ·rw [← he] at hg
   exact absurd hlt (Nat.not_lt.2 hg)
  ·rw [← he] at hg
   exact h.2 p hp (by intro h0'; rw [h0'] at hj; simp at hj) hg
 rw [World.cell?_of_block (w:=w) (hW p.1 hlt1 hne)]
 exact c1
noncomputable def siT:TypeInfo:=(Tryz.prog.info? 45).get (by kernel_rfl)
noncomputable def siE:TypeInfo:=(Tryz.prog.info? 3).get (by kernel_rfl)
theorem siK (n:Nat) (h2:2≤n):Lib.swapperK n siE 2=5:=by
 have a:siE.hasPointers=false:=by kernel_rfl
 have b:siE.bytes=8:=by kernel_rfl
 have c:(n == 0)=false:=by simp; omega
 have d:(n == 1)=false:=by simp; omega
 simp [Lib.swapperK,a,b,c,d]
def Z1jp {N:Nat} (x:Fin (N + 1)):Value:=.int .i64 (ofF x)
theorem Z1jq {W0:Bas} {w:World} {b4 b5 b11 g cap ax:Nat} {cur:Array Value} {vL:Value} {I:List Int} {cL lo hi:Int} (hpre:Zyi I (dec cL) lo hi ax) (hgl:GlX gl0 W0) (hb:Zv W0 w) (hg:W0.may g) (hL:SlX W0 Z3d vL cL)
  (h4:w.heap[b4]?=some (.cells #[vL] 48 (0,0))) (h5:w.heap[b5]?=some (.cells #[.slice (some ⟨g,lo.toNat,none⟩) (hi.toNat - lo.toNat) (cap - lo.toNat)] 45 (0,0))) (h11:w.heap[b11]?=some (.cells #[.int .i64 ax] 3 (0,0)))
  (n1:b4 ≠ b5) (n2:b4 ≠ b11) (n3:b5 ≠ b11) (g4:b4 ≠ g) (g5:b5 ≠ g) (g11:b11 ≠ g) (hheap:w.heap[g]?=some (.cells cur 3 (0,0))) (hcap:I.length≤cap) (hmx:cap≤maxLen) (hcs:cur.size=cap) (htake:cur.toList.take I.length=I.map (Value.int .i64)) :
  Calls Tryz.prog 66 #[.iface 45 (.slice (some ⟨g,lo.toNat,none⟩) (hi.toNat - lo.toNat) (cap - lo.toNat)),.func (.func 67) #[] #[.pointer (some ⟨b4,0,none⟩),.pointer (some ⟨b5,0,none⟩),.pointer (some ⟨b11,0,none⟩)]] w fun x w' =>
   x=.returned (.tuple #[])∧w.grownBy w' (some g)∧∃ cur',w'.heap[g]?=some (.cells cur' 3 (0,0))∧cur'.size=cap∧cur'.toList.take I.length=(Zuz I lo hi (Zbk (dec cL) ax (Z8h I lo hi))).map (Value.int .i64):=by
 obtain ⟨lo0,two,hi1,len,its,bxs,ax0,ax2⟩:=hpre
 have hlenS:=Z7q lo0 (by omega:lo≤hi) hi1
 have hLpos:0 < (dec cL).length:=by
  have:=its _ (Z10 (l:=Z8h I lo hi) (i:=0) (by omega))
  omega
 obtain ⟨N,hN⟩:∃ N,(dec cL).length=N + 1:=⟨(dec cL).length - 1,by omega⟩
 obtain ⟨d,hd⟩:∃ d:Array (Fin (N + 1)),d=((Z8h I lo hi).map (toF N)).toArray:=⟨_,rfl⟩
 have hds:d.size=hi.toNat - lo.toNat:=by rw [hd]; simp [hlenS]; omega
 have hmap:d.toList.map ofF=Z8h I lo hi:=by
  rw [hd]
  simp only [List.map_map]
  conv=>rhs; rw [← List.map_id (Z8h I lo hi)]
  refine List.map_congr_left fun x hx=>?_
  have:=its x hx
  exact Z1jn this.1 (by omega)
 have hget:∀ (dk:Array (Fin (N + 1))) (j:Nat),j < dk.size→(dk.toList.map ofF).getD j 0=ofF dk[j]! := fun dk j hj=>by
  simp [List.getD,hj]
 have hIc:∀ j,j < I.length→w.cell? ⟨g,j,none⟩=some (.int .i64 (I.getD j 0)):=fun j hj=>by
  have:=(holds_of_blockI hheap htake) j (by simpa using hj)
  rw [Nat.zero_add] at this
  rw [this.1]
  simp [List.getD,hj]
 have hH:Holds (Z1jp (N:=N)) w g lo.toNat d:=fun j hj=>by
  refine ⟨?_,by simp [World.frozen?,hheap]⟩
  rw [hIc _ (by omega)]
  have h1:ofF d[j]! = (Z8h I lo hi).getD j 0:=by rw [← hget d j hj,hmap]
  unfold Z1jp
  rw [h1]
  congr 2
  simp only [Z8h,List.getD,List.getElem?_drop]
  rw [List.getElem?_take_of_lt (by omega)]
 have hblk:g < w.heap.size:=Z1c hheap
 have hless:stab.LessG Tryz.prog 67 #[.pointer (some ⟨b4,0,none⟩),.pointer (some ⟨b5,0,none⟩),.pointer (some ⟨b11,0,none⟩)] (Z1jp (N:=N)) (ltF (dec cL) ax) g lo.toNat d.size w:=by
  intro W dk hSW hs i j hi' hj'
  have hW:∀ k,k < w.heap.size→k ≠ g→W.heap[k]?=w.heap[k]?:=fun k h1 h2=>Zyj hSW h1 h2
  have hHk:=hSW.holds hblk hH hs
  have hS:Z53 W [.i .i64] (.slice (some ⟨g,lo.toNat,none⟩) (hi.toNat - lo.toNat) (cap - lo.toNat)) (cod (dk.toList.map ofF)):=by
   refine .inr ⟨g,lo.toNat,cap - lo.toNat,?_,?_,?_,?_,?_⟩
   ·rw [Z3]; simp [hs,hds]
   ·rw [Z3]; simp [hs,hds]; omega
   ·omega
   ·intro x _; simp [elt]
   ·intro k u hk
    rw [Z3,Z43,List.getElem?_map,List.getElem?_map] at hk
    simp only [Option.map_eq_some_iff] at hk
    obtain ⟨y,⟨z,hz,rfl⟩,rfl⟩:=hk
    obtain ⟨hk1,hk2⟩:=List.getElem?_eq_some_iff.1 hz
    have hk1':k < dk.size:=by simpa using hk1
    rw [(hHk k hk1').1]
    unfold Z1jp
    simp only [Array.getElem_toList] at hk2
    simp [hk1',hk2]
  have hp:Zuv cL (cod (dk.toList.map ofF)) i j:=by
   refine ⟨by omega,by rw [Z3]; simp [hs]; omega,by omega,by rw [Z3]; simp [hs]; omega,by rw [Z3]; simp [hs]; omega,?_,bxs⟩
   rw [Z3]
   intro x hx
   obtain ⟨z,_,rfl⟩:=List.mem_map.1 hx
   have:=z.isLt
   unfold ofF
   omega
  have hc:=less_c (ax:=ax) (by omega) (Z18u hgl hb hg hW) (by rw [hW _ (Z1c h4) g4]; exact h4) (by rw [hW _ (Z1c h5) g5]; exact h5) (by rw [hW _ (Z1c h11) g11]; exact h11) n1 n2 n3 (Z18t hL hb hg hW) hS hp
  refine hc.mono ?_
  rintro x w' ⟨rfl,hbel⟩
  refine ⟨?_,stab.Grew.of_below hbel⟩
  rw [Z3,Int.toNat_natCast,Int.toNat_natCast,hget dk i (by omega),hget dk j (by omega)]
  rfl
 have hS:=stab.sliceStable_w Tryz.laysGt8 45 3 siT siE (by kernel_rfl) (by kernel_rfl) (by kernel_rfl) (by kernel_rfl) 2 (fun _=>by kernel_rfl) (by kernel_rfl) (fun _=>by kernel_rfl) (Z1jp (N:=N)) (fun _=>rfl) (ltF (dec cL) ax) (Z18p _ _) 67 _
  (enters_of Tryz.func67 (by kernel_rfl) rfl) g lo.toNat (cap - lo.toNat) d (by omega) (by omega) 144 (by rw [siK _ (by omega)]; kernel_rfl) true
  (fun args W=>run_callFunc_extern Tryz.func144 (by kernel_rfl) (by kernel_rfl) (by kernel_rfl) (e:=Extern.ReflectliteSwapper.swap true) (by kernel_rfl) args W) w hless hH hblk
 change Calls Tryz.prog 66 _ _ _ at hS
 rw [hds] at hS
 refine hS.mono ?_
 rintro x w' ⟨rfl,n,os,d',rfl,hP,hSo⟩
 rw [← hds] at hP hSo
 have hd's:d'.size=d.size:=hP.1
 have hE:=Z1eg hP hSo
 rw [hmap] at hE
 refine ⟨rfl,⟨rfl,rfl,rfl,Z1jo ⟨n,os,rfl⟩,fun k hk hne=>Zyj ⟨n,os,rfl⟩ hk (fun e=>hne (by rw [e]))⟩,putCells Z1jp lo.toNat d' cur,?_,by simp [putCells,hcs],?_⟩
 ·unfold stab.sortWorld
  rw [heap_grow_old _ _ (by rw [size_putRow]; exact hblk)]
  simp [putRow,mapBlock,Array.getElem?_modify,hheap,onCells]
 ·apply List.ext_getElem?
  intro k
  by_cases hk:k < I.length
  ·rw [List.getElem?_take_of_lt hk,Array.getElem?_toList]
   have hkc:k < cur.size:=by omega
   simp only [putCells,Array.getElem?_mapIdx,Array.getElem?_eq_getElem hkc,Option.map_some]
   have hcurk:cur[k]'hkc=.int .i64 (I.getD k 0):=by
    have:(cur.toList.take I.length)[k]?=(I.map (Value.int .i64))[k]?:=by rw [htake]
    rw [List.getElem?_take_of_lt hk,Array.getElem?_toList,Array.getElem?_eq_getElem hkc,List.getElem?_map,List.getElem?_eq_getElem hk] at this
    simp only [Option.map_some,Option.some.injEq] at this
    rw [this]
    simp [List.getD,hk]
   have hlenT:(I.take lo.toNat).length=lo.toNat:=by simp; omega
   have hlenK:(Zbk (dec cL) ax (Z8h I lo hi)).length=hi.toNat - lo.toNat:=by rw [Zd7,hlenS]; omega
   rw [List.getElem?_map]
   unfold Zuz
   by_cases k1:k < lo.toNat
   ·rw [if_neg (by omega),List.getElem?_append_left (by omega),List.getElem?_take_of_lt k1,List.getElem?_eq_getElem hk,hcurk]
    simp [List.getD,hk]
   ·rw [List.getElem?_append_right (by omega),hlenT]
    by_cases k2:k < hi.toNat
    ·rw [if_pos (by omega),List.getElem?_append_left (by omega),← hE,List.getElem?_map]
     have hkd:k - lo.toNat < d'.size:=by omega
     simp [hkd,Z1jp]
    ·rw [if_neg (by omega),List.getElem?_append_right (by omega),hlenK,List.getElem?_drop,hcurk,show hi.toNat + (k - lo.toNat - (hi.toNat - lo.toNat))=k by omega,List.getElem?_eq_getElem hk]
     simp [List.getD,hk]
  ·rw [List.getElem?_take_eq_none (by omega),List.getElem?_eq_none]
   rw [List.length_map,Zyh lo0 (by omega) hi1 (by rw [Zd7,hlenS])]
   omega
end Go.Proofs.YtgcoidbaoigkeaaGreatDoor.fix
namespace Go.Proofs.YtgcoidbaoigkeaaGreatDoor.fix
open Go.RowKit Go.Sx
theorem sst_M:SpM Tryz.prog 66 Zo3 fSst:=by
 intro W0 e s w t v gf caps es kk hrep hsc hv hf hpre
 unfold fSst at hf
 split at hf
 ·rename_i m lo hi n4 n5 n11
  split at hf
  ·rename_i b4 b5 b11 r h4 h5 h11 hm
   split at hf
   ·rename_i i m' lo' hi' axE c4 c5 c11
    split at hf
    ·rename_i ks cl hhs
     split at hf
     ·rename_i hc
      simp only [Z1kr,Z1ks] at hc
      obtain ⟨⟨⟨hgf,ht⟩,⟨l4,l5⟩,l11,lr⟩,⟨⟨ty4,ty5⟩,ty11,tyr⟩,⟨hmm,e1,e2⟩,⟨kr,kks⟩,⟨hfl,hgl⟩,d1,d2,d3⟩:=hc
      have e1:=E.same_eq _ _ e1
      have e2:=E.same_eq _ _ e2
      subst e1 e2 hmm hgf ht
      simp only [Option.some.injEq,Prod.mk.injEq] at hf
      obtain ⟨rfl,rfl⟩:=hf
      have hkr:=Z1d kr
      have hkks:=Z1d kks
      have hp:Zyi (dec (r.c.den e.R e.r)) (dec (cl.den e.R e.r)) (lo.den e.R e.r) (hi.den e.R e.r) (axE.den e.R e.r):=hpre
      clear hpre
      have hsem:Zo3.sem ([r.c,lo,hi,cl,axE].map (E.den e.R e.r))=[cod (Zuz (dec (r.c.den e.R e.r)) (lo.den e.R e.r) (hi.den e.R e.r) (Zbk (dec (cl.den e.R e.r)) (axE.den e.R e.r).toNat (Z8h (dec (r.c.den e.R e.r)) (lo.den e.R e.r) (hi.den e.R e.r))))]:=rfl
      rw [hsem]
      have hrow:=hrep.row m' r hm lr
      have hlen2:2≤(dec (r.c.den e.R e.r)).length:=by have:=hp.lo0; have:=hp.two; have:=hp.hi1; omega
      rcases hrow with ⟨hn,_⟩ | ⟨hk0,hel,hown⟩
      ·rw [hn] at hlen2; simp at hlen2
      rcases hown.2 with ⟨_,hn⟩ | ⟨g,cap,cur,hval,_,hheap,hle1,hmx,hcs,htake⟩
      ·omega
      have hcap0:cap ≠ 0:=by omega
      have hblkR:Z7 ((G.o m').val e)=some g:=by rw [hval]; simp [Z7,hcap0]
      rw [hkr,Z43] at htake
      rw [hkr] at hcs
      simp only [List.length_cons,List.length_nil,Nat.zero_add,Nat.mul_one] at htake hcs
      rw [tyr] at hheap
      have h4':=hrep.blk n4 b4 h4 l4
      have h5':=hrep.blk n5 b5 h5 l5
      have h11':=hrep.blk n11 b11 h11 l11
      rw [c4,ty4] at h4'
      rw [c5,ty5] at h5'
      rw [c11,ty11] at h11'
      have hvden:(SC.gv (.o m') 1 lo hi).den e=.slice (some ⟨g,(lo.den e.R e.r).toNat,none⟩) ((hi.den e.R e.r).toNat - (lo.den e.R e.r).toNat) (cap - (lo.den e.R e.r).toNat):=by
       have h1:¬ cap=(lo.den e.R e.r).toNat:=by have:=hp.lo0; have:=hp.two; have:=hp.hi1; omega
       simp only [SC.den,hval,Z8i,if_neg h1,Option.map_some,Addr.add_lit,Nat.mul_one,Nat.zero_add]
      have hax:axE.den e.R e.r=(((axE.den e.R e.r).toNat:Nat):Int):=by have:=hp.ax0; omega
      have h5'':w.heap[e.β.getD n5 0]?=some (.cells #[.slice (some ⟨g,(lo.den e.R e.r).toNat,none⟩) ((hi.den e.R e.r).toNat - (lo.den e.R e.r).toNat) (cap - (lo.den e.R e.r).toNat)] 45 (0,0)):=by
       rw [h5']
       simp only [Z1kk,Z1kl,hvden]
      have h11'':w.heap[e.β.getD n11 0]?=some (.cells #[.int .i64 (((axE.den e.R e.r).toNat:Nat):Int)] 3 (0,0)):=by
       rw [h11',← hax]
       rfl
      have hsl:=hrep.arg i ks cl hhs
      rw [hkks] at hsl
      have hmay:=hrep.rown m' r hm lr hfl g hblkR
      have hglx:GlX gl0 W0:=by
       refine ⟨Zdq hgl hrep.gl.1,fun p hp' h0=>?_⟩
       have:=List.all_eq_true.1 hgl p hp'
       obtain ⟨q,hq,hs⟩:=List.any_eq_true.1 this
       simp only [Zz8,Z1kr,beq_iff_eq] at hs
       have:=hrep.gl.2 q hq (by rw [← hs.2]; exact h0)
       rwa [← hs.1] at this
      have hp':Zyi (dec (r.c.den e.R e.r)) (dec (cl.den e.R e.r)) (lo.den e.R e.r) (hi.den e.R e.r) (((axE.den e.R e.r).toNat:Nat):Int):=by rw [← hax]; exact hp
      have hne:∀ n b,s.mem[n]?=some b→b.live=true→e.β.getD n 0 ≠ g:=fun n b hb hl he=>hrep.brs n m' b r hb hm hl lr (by rw [hblkR,he])
      have hsep:∀ n n' b b',s.mem[n]?=some b→s.mem[n']?=some b'→b.live=true→b'.live=true→n ≠ n'→e.β.getD n 0 ≠ e.β.getD n' 0:=fun n n' b b' h1 h2 h3 h4 hn he=>hn (hrep.sep n n' b b' h1 h2 h3 h4 he)
      have hrun:=Z1jq hp' hglx hrep.below hmay hsl h4' h5'' h11'' (hsep _ _ _ _ h4 h5 l4 l5 d1) (hsep _ _ _ _ h4 h11 l4 l11 d2) (hsep _ _ _ _ h5 h11 l5 l11 d3) (hne _ _ h4 l4) (hne _ _ h5 l5) (hne _ _ h11 l11) hheap hle1 hmx hcs htake
      rw [hvden,show (SC.f 67 [(n4,0),(n5,0),(n11,0)]).den e=.func (.func 67) #[] #[.pointer (some ⟨e.β.getD n4 0,0,none⟩),.pointer (some ⟨e.β.getD n5 0,0,none⟩),.pointer (some ⟨e.β.getD n11 0,0,none⟩)] from rfl]
      refine hrun.mono ?_
      rintro x w' ⟨rfl,hgb,cur',hh,hcs',ht'⟩
      refine ⟨rfl,_,⟨[cod (Zuz (dec (r.c.den e.R e.r)) (lo.den e.R e.r) (hi.den e.R e.r) (Zbk (dec (cl.den e.R e.r)) (axE.den e.R e.r).toNat (Z8h (dec (r.c.den e.R e.r)) (lo.den e.R e.r) (hi.den e.R e.r))))],[],[],[],by simp⟩,rfl,hrep.rowTo hsc hm lr hfl hgb (fun k hk=>by cases hk; exact hblkR) ?_,rfl,rfl,rfl,rfl⟩
      have hlenP:(Zuz (dec (r.c.den e.R e.r)) (lo.den e.R e.r) (hi.den e.R e.r) (Zbk (dec (cl.den e.R e.r)) (axE.den e.R e.r).toNat (Z8h (dec (r.c.den e.R e.r)) (lo.den e.R e.r) (hi.den e.R e.r)))).length=(dec (r.c.den e.R e.r)).length :=
       Zyh hp.lo0 (by have:=hp.two; omega) hp.hi1 (by rw [Zd7,Z7q hp.lo0 (by have:=hp.two; omega) hp.hi1])
      refine .inr ⟨hk0,?_,?_⟩
      ·intro z _
       rw [hkr]
       simp [elt]
      ·rw [Z3,hlenP,hkr,Z43,tyr]
       refine ⟨by simp [hlenP],.inr ⟨g,cap,cur',hval,Nat.zero_le _,hh,hle1,hmx,by simpa using hcs',?_⟩⟩
       simp only [List.length_cons,List.length_nil,Nat.zero_add,Nat.mul_one]
       exact ht'
     ·cases hf
    ·cases hf
   ·cases hf
  ·cases hf
 ·cases hf
end Go.Proofs.YtgcoidbaoigkeaaGreatDoor.fix
namespace Go.Proofs.YtgcoidbaoigkeaaGreatDoor.fix
open Go.RowKit Go.Sx
noncomputable def Z1jr (L b:List Int) (i:Int):List Int:=ex6 (Z8a (b++Z3j (L.getD i.toNat 0)))
noncomputable def Z3m (L s:List Int):List Int:=(s.drop 1).foldl (Z1jr L) (Z3j (L.getD (s.getD 0 0).toNat 0))
def Zjl (b:List Int):Nat:=if b.getD 4 0 - b.getD 1 0 > b.getD 3 0 - b.getD 0 0 then (if b.getD 5 0 - b.getD 2 0 > b.getD 4 0 - b.getD 1 0 then 2 else 1) else (if b.getD 5 0 - b.getD 2 0 > b.getD 3 0 - b.getD 0 0 then 2 else 0)
noncomputable def Z2e (L s:List Int):List Int:=Zbk L (Zjl (Z3m L s)) s
noncomputable def Z1b (L:List Int):Nat→List Int→Int→List Int
 | 0,_,_=>[]
 | f + 1,s,at0=>if s.length≤1 then [cod (Z3m L s++[-1,-1,s.getD 0 0])] else
  cod (Z3m L s++[at0 + 1,at0 + 1 + ((Z1b L f ((Z2e L s).take ((s.length + 1) / 2)) (at0 + 1)).length:Int),-1]) ::
   (Z1b L f ((Z2e L s).take ((s.length + 1) / 2)) (at0 + 1)++Z1b L f ((Z2e L s).drop ((s.length + 1) / 2)) (at0 + 1 + ((Z1b L f ((Z2e L s).take ((s.length + 1) / 2)) (at0 + 1)).length:Int)))
noncomputable def Z64 (L:List Int):Nat→List Int→List Int
 | 0,s=>s
 | f + 1,s=>if s.length≤1 then s else Z64 L f ((Z2e L s).take ((s.length + 1) / 2))++Z64 L f ((Z2e L s).drop ((s.length + 1) / 2))
structure Z7r (k:Nat) (T I L:List Int) (lo hi:Int):Prop where
 lo0:0≤lo
 one:lo + 1≤hi
 hi1:hi≤(I.length:Int)
 fuel:hi - lo≤(k:Int)
 lenI:I.length≤1000
 lenT:(T.length:Int) + 2 * (hi - lo)≤3000
 its:∀ x ∈ Z8h I lo hi,0≤x∧x < (L.length:Int)
 bxs:∀ b ∈ L,Z36 b=true
noncomputable def Z11 (x:List Int):List Int:=[cod (dec (x.getD 0 0)++Z1b (dec (x.getD 2 0)) (x.getD 4 0 - x.getD 3 0).toNat (Z8h (dec (x.getD 1 0)) (x.getD 3 0) (x.getD 4 0)) ((dec (x.getD 0 0)).length:Int)),
 cod (Zuz (dec (x.getD 1 0)) (x.getD 3 0) (x.getD 4 0) (Z64 (dec (x.getD 2 0)) (x.getD 4 0 - x.getD 3 0).toNat (Z8h (dec (x.getD 1 0)) (x.getD 3 0) (x.getD 4 0)))),((dec (x.getD 0 0)).length:Int)]
def Zjm (k:Nat) (x:List Int):Prop:=Z7r k (dec (x.getD 0 0)) (dec (x.getD 1 0)) (dec (x.getD 2 0)) (x.getD 3 0) (x.getD 4 0)
def Z1js (s:St):SC→Option (Nat × E × E)
 | .gv (.o m) 1 lo hi=>some (m,lo,hi)
 | .go (.o m)=>match s.rows[m]? with
  | some r=>some (m,.c 0,Zrw r.c)
  | none=>none
 | _=>none
def Z1jt (s:St) (m:Nat):List SC→Option (E × List Row)
 | [.go (.o k)]=>match s.rows[k]? with
  | some r=>if (r.live && decide (k ≠ m)) && ((decide (s.flr≤k) && decide (r.ty=109)) && Z2g r.ks Z4u) then some (r.c,s.rows.set k { r with live:=false }) else none
  | none=>none
 | [.l (.slice none 0 0)]=>some (.nl,s.rows)
 | _=>none
noncomputable def Z18v (s:St) (args:List SV):Option (List B × List E × (Nat→St × SV)):=match args with
 | [.w (.o (.p n 0)),.w (.o (.go (.a i))),.w (.o v)]=>match s.mem[n]?,s.hs[i]?,Z1js s v with
  | some b,some (ks,cl),some (m,lo,hi)=>match s.rows[m]?,Z1jt s m b.cells with
   | some r,some (cT,rows')=>if ((b.live && r.live) && (decide (b.ty=59) && decide (r.ty=3))) && (((decide (s.fl≤n) && decide (s.flr≤m)) && (Z2g r.ks [.i .i64] && Z2g ks Z3d)) && Z1a1 gl0 s.gl) then
     some ([],[cT,r.c,cl,lo,hi],fun nv=>({ s with mem:=s.mem.set n { b with cells:=[.go (.o s.rows.length)] },rows:=rows'.set m { r with c:=.v (nv + 1) }++[⟨109,Z4u,.v nv,true⟩],nv:=nv + 3 },Go.Sx.one (.i .i64 (.v (nv + 2))))) else none
   | _,_=>none
  | _,_,_=>none
 | _=>none
noncomputable def Z2v (k:Nat):Sum:=⟨37,[],[],Z11,Zjm k,gl0,some Z18v⟩
noncomputable def Zyk:St:={ fr:=[],mem:=[⟨59,[.go (.o 0)],true⟩],rows:=[⟨109,Z4u,.v 0,true⟩,⟨3,[.i .i64],.v 1,true⟩],nv:=5,nx:=0,fl:=0,flr:=0,gl:=gl0,hs:=[(Z3d,.v 2)] }
noncomputable def Zo4:List SV:=[Go.Sx.one (.p 0 0),Go.Sx.one (.go (.a 0)),Go.Sx.one (.gv (.o 1) 1 (.v 3) (.v 4))]
noncomputable def Z1ju (F:Func):Z4x:=fun out s=>match out with
 | .exit _=>.fail
 | _=>match s.mem[0]?,s.rows[1]?,Zh0 Tryz.prog F s with
  | some b,some r1,some (.w (.o (.i .i64 E)))=>if (b.live && r1.live) && ((decide (b.ty=59) && decide (r1.ty=3)) && Z2g r1.ks [.i .i64]) then (match b.cells with
   | [.go (.o j)]=>match s.rows[j]? with
    | some r=>if (r.live && decide (j ≠ 1)) && ((decide (r.ty=109) && decide (s.flr≤j)) && Z2g r.ks Z4u) then .ret [r.c,r1.c,E] else .fail
    | none=>.fail
   | _=>.fail) else .fail
  | _,_,_=>.fail
noncomputable def Z4m (k:Nat):List Sum:=[Z2x,Z2v k,Zo3]
noncomputable def Z18w (k:Nat):T:=ownB Tryz.prog (Z5u Tryz.prog [(4,34)]) (Z4m k) 1000 37 Zyk Zo4 20 2 66 fSst Z1ju
noncomputable def Z1ge:St:={ fr:=[],mem:=[⟨59,[.go (.o 0)],true⟩],rows:=[⟨109,Z4u,.v 0,true⟩],nv:=3,nx:=0,fl:=0,flr:=0,gl:=gl0,hs:=[(Z3d,.v 2),([.i .i64],.v 1)] }
noncomputable def Z18x:List SV:=[Go.Sx.one (.p 0 0),Go.Sx.one (.go (.a 0)),Go.Sx.one (.go (.a 1))]
noncomputable def K_one (F:Func):Z4x:=fun out s=>match out with
 | .exit _=>.fail
 | _=>match s.mem[0]?,Zh0 Tryz.prog F s with
  | some b,some (.w (.o (.i .i64 E)))=>if b.live && decide (b.ty=59) then (match b.cells with
   | [.go (.o j)]=>match s.rows[j]? with
    | some r=>if r.live && ((decide (r.ty=109) && decide (s.flr≤j)) && Z2g r.ks Z4u) then .ret [r.c,E] else .fail
    | none=>.fail
   | _=>.fail) else .fail
  | _,_=>.fail
noncomputable def T_one:T:=Z1gd Tryz.prog (Z5u Tryz.prog [(4,34)]) [Z2x] 1000 37 Z1ge Z18x K_one
def Zjn:List (Option Iv):=[none,none,none,iv 0 1000,iv 0 1000]
def Z18y:List (Option Iv):=[none,none,none]
end Go.Proofs.YtgcoidbaoigkeaaGreatDoor.fix
namespace Go.Proofs.YtgcoidbaoigkeaaGreatDoor.fix
open Go.RowKit Go.Sx
def Zyl:Inf:=⟨[some ⟨1,0⟩],fun _=>[none,none,none]⟩
def i_sst:Inf:=⟨[some ⟨1,0⟩],fun _=>[none]⟩
end Go.Proofs.YtgcoidbaoigkeaaGreatDoor.fix
namespace Go.Proofs.YtgcoidbaoigkeaaGreatDoor.fix
open Go.RowKit Go.Sx
theorem Z18z (A s B:List Int):Z8h (A++(s++B)) (A.length:Int) ((A.length + s.length:Nat):Int)=s:=by
 unfold Z8h
 rw [Int.toNat_natCast,Int.toNat_natCast,← List.append_assoc,List.take_left' (by simp),List.drop_left' rfl]
theorem Zjo (A s B s':List Int):Zuz (A++(s++B)) (A.length:Int) ((A.length + s.length:Nat):Int) s'=A++(s'++B):=by
 unfold Zuz
 rw [Int.toNat_natCast,Int.toNat_natCast,List.take_left' rfl,← List.append_assoc A s B,List.drop_left' (by simp)]
theorem Z1jv (I:List Int) {lo hi:Int} (h0:0≤lo) (h1:lo≤hi) (h2:hi≤(I.length:Int)):∃ A B:List Int,I=A++(Z8h I lo hi++B)∧lo=(A.length:Int)∧hi=((A.length + (Z8h I lo hi).length:Nat):Int):=by
 have hl:=Z7q h0 h1 h2
 refine ⟨I.take lo.toNat,I.drop hi.toNat,?_,by simp; omega,by rw [hl]; simp; omega⟩
 unfold Z8h
 conv=>lhs; rw [← List.take_append_drop hi.toNat I]
 rw [← List.append_assoc]
 congr 1
 conv=>lhs; rw [← List.take_append_drop lo.toNat (I.take hi.toNat)]
 congr 1
 rw [List.take_take,Nat.min_eq_left (by omega)]
theorem Z24 (L s:List Int):(Z2e L s).length=s.length:=Zd7 _ _ _
theorem Z9f {L s:List Int} {x:Int}:x ∈ Z2e L s↔x ∈ s:=Z18q
theorem Z9g {L:List Int} {f:Nat} {s:List Int} {a:Int} (h:s.length≤1):Z1b L (f + 1) s a=[cod (Z3m L s++[-1,-1,s.getD 0 0])]:=by
 unfold Z1b
 rw [if_pos h]
theorem Z9h {L:List Int} {f:Nat} {s:List Int} {a:Int} (h:¬ s.length≤1):Z1b L (f + 1) s a=cod (Z3m L s++[a + 1,a + 1 + ((Z1b L f ((Z2e L s).take ((s.length + 1) / 2)) (a + 1)).length:Int),-1]) ::
   (Z1b L f ((Z2e L s).take ((s.length + 1) / 2)) (a + 1)++Z1b L f ((Z2e L s).drop ((s.length + 1) / 2)) (a + 1 + ((Z1b L f ((Z2e L s).take ((s.length + 1) / 2)) (a + 1)).length:Int))):=by
 rw [Z1b,if_neg h]
theorem Zd8 {L:List Int} {f:Nat} {s:List Int} (h:¬ s.length≤1):Z64 L (f + 1) s=Z64 L f ((Z2e L s).take ((s.length + 1) / 2))++Z64 L f ((Z2e L s).drop ((s.length + 1) / 2)):=by
 rw [Z64,if_neg h]
theorem Z71 {L:List Int} {f:Nat} {s:List Int} (h:s.length≤1):Z64 L f s=s:=by
 cases f with
 | zero=>rfl
 | succ f=>rw [Z64,if_pos h]
theorem Zaf {L:List Int}:∀ (f:Nat) (s:List Int) (a:Int),0 < s.length→s.length≤f→∀ f',s.length≤f'→Z1b L f' s a=Z1b L f s a
 | 0,s,a,h0,h1,f',h2=>absurd h1 (by omega)
 | f + 1,s,a,h0,h1,f',h2=>by
  obtain ⟨g,rfl⟩:∃ g,f'=g + 1:=⟨f' - 1,by omega⟩
  by_cases hs:s.length≤1
  ·rw [Z9g hs,Z9g hs]
  ·have l1:((Z2e L s).take ((s.length + 1) / 2)).length=(s.length + 1) / 2:=by rw [List.length_take,Z24]; omega
   have l2:((Z2e L s).drop ((s.length + 1) / 2)).length=s.length - (s.length + 1) / 2:=by rw [List.length_drop,Z24]
   rw [Z9h hs,Z9h hs,Zaf f _ (a + 1) (by omega) (by omega) g (by omega),Zaf f _ _ (by omega) (by omega) g (by omega)]
theorem Zag {L:List Int}:∀ (f:Nat) (s:List Int),s.length≤f→∀ f',s.length≤f'→Z64 L f' s=Z64 L f s
 | 0,s,h1,f',h2=>by rw [Z71 (by omega),Z71 (by omega)]
 | f + 1,s,h1,f',h2=>by
  by_cases hs:s.length≤1
  ·rw [Z71 hs,Z71 hs]
  ·obtain ⟨g,rfl⟩:∃ g,f'=g + 1:=⟨f' - 1,by omega⟩
   have l1:((Z2e L s).take ((s.length + 1) / 2)).length=(s.length + 1) / 2:=by rw [List.length_take,Z24]; omega
   have l2:((Z2e L s).drop ((s.length + 1) / 2)).length=s.length - (s.length + 1) / 2:=by rw [List.length_drop,Z24]
   rw [Zd8 hs,Zd8 hs,Zag f _ (by omega) g (by omega),Zag f _ (by omega) g (by omega)]
theorem Z5o {L:List Int}:∀ (f:Nat) (s:List Int) (a:Int),0 < s.length→s.length≤f→(Z1b L f s a).length=2 * s.length - 1
 | 0,s,a,h0,h1=>absurd h1 (by omega)
 | f + 1,s,a,h0,h1=>by
  by_cases hs:s.length≤1
  ·rw [Z9g hs]
   simp only [List.length_cons,List.length_nil]
   omega
  ·have l1:((Z2e L s).take ((s.length + 1) / 2)).length=(s.length + 1) / 2:=by rw [List.length_take,Z24]; omega
   have l2:((Z2e L s).drop ((s.length + 1) / 2)).length=s.length - (s.length + 1) / 2:=by rw [List.length_drop,Z24]
   rw [Z9h hs,List.length_cons,List.length_append,Z5o f _ _ (by omega) (by omega),Z5o f _ _ (by omega) (by omega),l1,l2]
   omega
theorem Zd9 {L:List Int}:∀ (f:Nat) (s:List Int),(Z64 L f s).length=s.length
 | 0,s=>rfl
 | f + 1,s=>by
  by_cases hs:s.length≤1
  ·rw [Z71 hs]
  ·rw [Zd8 hs,List.length_append,Zd9 f,Zd9 f,List.length_take,List.length_drop,Z24]
   omega
theorem Z1gf (T r:List Int) (x y:Int):(T++x::r).set T.length y=T++y::r:=by
 rw [List.set_append_right _ _ (Nat.le_refl _),Nat.sub_self]
 rfl
theorem Z190 (T r:List Int) (x:Int):(T++x::r).getD T.length 0=x:=by
 simp [List.getD]
end Go.Proofs.YtgcoidbaoigkeaaGreatDoor.fix
namespace Go.Proofs.YtgcoidbaoigkeaaGreatDoor.fix
open Go.RowKit Go.Sx
def Z25 (ax:Int):TX:=(.call 2 [(.v 1),(.v 3),(.v 4),(.v 2),(.c ax)] (.asrt (.le (.v 4) (.ln (.v 12))) (.asrt (.le (.c 0) (.quo (.add (.sub (.v 4) (.v 3)) (.c 1)) (.c 2))) (.asrt (.le (.quo (.add (.sub (.v 4) (.v 3)) (.c 1)) (.c 2)) (.sub (.v 4) (.v 3))) (.call 1 [(.l2 .snoc (.v 0) (.l2 .cons (.v 6) (.l2 .cons (.v 7) (.l2 .cons (.v 8) (.l2 .cons (.v 9) (.l2 .cons (.v 10) (.l2 .cons (.v 11) (.l2 .cons (.c (-1)) (.l2 .cons (.c (-1)) (.l2 .cons (.c (-1)) .nl)))))))))),(.v 12),(.v 2),(.v 3),(.add (.v 3) (.quo (.add (.sub (.v 4) (.v 3)) (.c 1)) (.c 2)))] (.asrt (.le (.v 4) (.ln (.v 14))) (.asrt (.lt (.quo (.add (.sub (.v 4) (.v 3)) (.c 1)) (.c 2)) (.sub (.v 4) (.v 3))) (.call 1 [(.v 13),(.v 14),(.v 2),(.add (.v 3) (.quo (.add (.sub (.v 4) (.v 3)) (.c 1)) (.c 2))),(.add (.v 3) (.sub (.v 4) (.v 3)))] (.asrt (.le (.c 0) (.ln (.v 0))) (.asrt (.lt (.ln (.v 0)) (.ln (.v 16))) (.asrt (.lt (.ln (.v 0)) (.ln (.l3 (.v 16) (.ln (.v 0)) (.l2 .cons (.l2 .at (.l2 .at (.v 16) (.ln (.v 0))) (.c 0)) (.l2 .cons (.l2 .at (.l2 .at (.v 16) (.ln (.v 0))) (.c 1)) (.l2 .cons (.l2 .at (.l2 .at (.v 16) (.ln (.v 0))) (.c 2)) (.l2 .cons (.l2 .at (.l2 .at (.v 16) (.ln (.v 0))) (.c 3)) (.l2 .cons (.l2 .at (.l2 .at (.v 16) (.ln (.v 0))) (.c 4)) (.l2 .cons (.l2 .at (.l2 .at (.v 16) (.ln (.v 0))) (.c 5)) (.l2 .cons (.v 15) (.l2 .cons (.l2 .at (.l2 .at (.v 16) (.ln (.v 0))) (.c 7)) (.l2 .cons (.l2 .at (.l2 .at (.v 16) (.ln (.v 0))) (.c 8)) .nl)))))))))))) (.ret [(.l3 (.l3 (.v 16) (.ln (.v 0)) (.l2 .cons (.l2 .at (.l2 .at (.v 16) (.ln (.v 0))) (.c 0)) (.l2 .cons (.l2 .at (.l2 .at (.v 16) (.ln (.v 0))) (.c 1)) (.l2 .cons (.l2 .at (.l2 .at (.v 16) (.ln (.v 0))) (.c 2)) (.l2 .cons (.l2 .at (.l2 .at (.v 16) (.ln (.v 0))) (.c 3)) (.l2 .cons (.l2 .at (.l2 .at (.v 16) (.ln (.v 0))) (.c 4)) (.l2 .cons (.l2 .at (.l2 .at (.v 16) (.ln (.v 0))) (.c 5)) (.l2 .cons (.v 15) (.l2 .cons (.l2 .at (.l2 .at (.v 16) (.ln (.v 0))) (.c 7)) (.l2 .cons (.l2 .at (.l2 .at (.v 16) (.ln (.v 0))) (.c 8)) .nl)))))))))) (.ln (.v 0)) (.l2 .cons (.l2 .at (.l2 .at (.l3 (.v 16) (.ln (.v 0)) (.l2 .cons (.l2 .at (.l2 .at (.v 16) (.ln (.v 0))) (.c 0)) (.l2 .cons (.l2 .at (.l2 .at (.v 16) (.ln (.v 0))) (.c 1)) (.l2 .cons (.l2 .at (.l2 .at (.v 16) (.ln (.v 0))) (.c 2)) (.l2 .cons (.l2 .at (.l2 .at (.v 16) (.ln (.v 0))) (.c 3)) (.l2 .cons (.l2 .at (.l2 .at (.v 16) (.ln (.v 0))) (.c 4)) (.l2 .cons (.l2 .at (.l2 .at (.v 16) (.ln (.v 0))) (.c 5)) (.l2 .cons (.v 15) (.l2 .cons (.l2 .at (.l2 .at (.v 16) (.ln (.v 0))) (.c 7)) (.l2 .cons (.l2 .at (.l2 .at (.v 16) (.ln (.v 0))) (.c 8)) .nl)))))))))) (.ln (.v 0))) (.c 0)) (.l2 .cons (.l2 .at (.l2 .at (.l3 (.v 16) (.ln (.v 0)) (.l2 .cons (.l2 .at (.l2 .at (.v 16) (.ln (.v 0))) (.c 0)) (.l2 .cons (.l2 .at (.l2 .at (.v 16) (.ln (.v 0))) (.c 1)) (.l2 .cons (.l2 .at (.l2 .at (.v 16) (.ln (.v 0))) (.c 2)) (.l2 .cons (.l2 .at (.l2 .at (.v 16) (.ln (.v 0))) (.c 3)) (.l2 .cons (.l2 .at (.l2 .at (.v 16) (.ln (.v 0))) (.c 4)) (.l2 .cons (.l2 .at (.l2 .at (.v 16) (.ln (.v 0))) (.c 5)) (.l2 .cons (.v 15) (.l2 .cons (.l2 .at (.l2 .at (.v 16) (.ln (.v 0))) (.c 7)) (.l2 .cons (.l2 .at (.l2 .at (.v 16) (.ln (.v 0))) (.c 8)) .nl)))))))))) (.ln (.v 0))) (.c 1)) (.l2 .cons (.l2 .at (.l2 .at (.l3 (.v 16) (.ln (.v 0)) (.l2 .cons (.l2 .at (.l2 .at (.v 16) (.ln (.v 0))) (.c 0)) (.l2 .cons (.l2 .at (.l2 .at (.v 16) (.ln (.v 0))) (.c 1)) (.l2 .cons (.l2 .at (.l2 .at (.v 16) (.ln (.v 0))) (.c 2)) (.l2 .cons (.l2 .at (.l2 .at (.v 16) (.ln (.v 0))) (.c 3)) (.l2 .cons (.l2 .at (.l2 .at (.v 16) (.ln (.v 0))) (.c 4)) (.l2 .cons (.l2 .at (.l2 .at (.v 16) (.ln (.v 0))) (.c 5)) (.l2 .cons (.v 15) (.l2 .cons (.l2 .at (.l2 .at (.v 16) (.ln (.v 0))) (.c 7)) (.l2 .cons (.l2 .at (.l2 .at (.v 16) (.ln (.v 0))) (.c 8)) .nl)))))))))) (.ln (.v 0))) (.c 2)) (.l2 .cons (.l2 .at (.l2 .at (.l3 (.v 16) (.ln (.v 0)) (.l2 .cons (.l2 .at (.l2 .at (.v 16) (.ln (.v 0))) (.c 0)) (.l2 .cons (.l2 .at (.l2 .at (.v 16) (.ln (.v 0))) (.c 1)) (.l2 .cons (.l2 .at (.l2 .at (.v 16) (.ln (.v 0))) (.c 2)) (.l2 .cons (.l2 .at (.l2 .at (.v 16) (.ln (.v 0))) (.c 3)) (.l2 .cons (.l2 .at (.l2 .at (.v 16) (.ln (.v 0))) (.c 4)) (.l2 .cons (.l2 .at (.l2 .at (.v 16) (.ln (.v 0))) (.c 5)) (.l2 .cons (.v 15) (.l2 .cons (.l2 .at (.l2 .at (.v 16) (.ln (.v 0))) (.c 7)) (.l2 .cons (.l2 .at (.l2 .at (.v 16) (.ln (.v 0))) (.c 8)) .nl)))))))))) (.ln (.v 0))) (.c 3)) (.l2 .cons (.l2 .at (.l2 .at (.l3 (.v 16) (.ln (.v 0)) (.l2 .cons (.l2 .at (.l2 .at (.v 16) (.ln (.v 0))) (.c 0)) (.l2 .cons (.l2 .at (.l2 .at (.v 16) (.ln (.v 0))) (.c 1)) (.l2 .cons (.l2 .at (.l2 .at (.v 16) (.ln (.v 0))) (.c 2)) (.l2 .cons (.l2 .at (.l2 .at (.v 16) (.ln (.v 0))) (.c 3)) (.l2 .cons (.l2 .at (.l2 .at (.v 16) (.ln (.v 0))) (.c 4)) (.l2 .cons (.l2 .at (.l2 .at (.v 16) (.ln (.v 0))) (.c 5)) (.l2 .cons (.v 15) (.l2 .cons (.l2 .at (.l2 .at (.v 16) (.ln (.v 0))) (.c 7)) (.l2 .cons (.l2 .at (.l2 .at (.v 16) (.ln (.v 0))) (.c 8)) .nl)))))))))) (.ln (.v 0))) (.c 4)) (.l2 .cons (.l2 .at (.l2 .at (.l3 (.v 16) (.ln (.v 0)) (.l2 .cons (.l2 .at (.l2 .at (.v 16) (.ln (.v 0))) (.c 0)) (.l2 .cons (.l2 .at (.l2 .at (.v 16) (.ln (.v 0))) (.c 1)) (.l2 .cons (.l2 .at (.l2 .at (.v 16) (.ln (.v 0))) (.c 2)) (.l2 .cons (.l2 .at (.l2 .at (.v 16) (.ln (.v 0))) (.c 3)) (.l2 .cons (.l2 .at (.l2 .at (.v 16) (.ln (.v 0))) (.c 4)) (.l2 .cons (.l2 .at (.l2 .at (.v 16) (.ln (.v 0))) (.c 5)) (.l2 .cons (.v 15) (.l2 .cons (.l2 .at (.l2 .at (.v 16) (.ln (.v 0))) (.c 7)) (.l2 .cons (.l2 .at (.l2 .at (.v 16) (.ln (.v 0))) (.c 8)) .nl)))))))))) (.ln (.v 0))) (.c 5)) (.l2 .cons (.l2 .at (.l2 .at (.l3 (.v 16) (.ln (.v 0)) (.l2 .cons (.l2 .at (.l2 .at (.v 16) (.ln (.v 0))) (.c 0)) (.l2 .cons (.l2 .at (.l2 .at (.v 16) (.ln (.v 0))) (.c 1)) (.l2 .cons (.l2 .at (.l2 .at (.v 16) (.ln (.v 0))) (.c 2)) (.l2 .cons (.l2 .at (.l2 .at (.v 16) (.ln (.v 0))) (.c 3)) (.l2 .cons (.l2 .at (.l2 .at (.v 16) (.ln (.v 0))) (.c 4)) (.l2 .cons (.l2 .at (.l2 .at (.v 16) (.ln (.v 0))) (.c 5)) (.l2 .cons (.v 15) (.l2 .cons (.l2 .at (.l2 .at (.v 16) (.ln (.v 0))) (.c 7)) (.l2 .cons (.l2 .at (.l2 .at (.v 16) (.ln (.v 0))) (.c 8)) .nl)))))))))) (.ln (.v 0))) (.c 6)) (.l2 .cons (.v 18) (.l2 .cons (.l2 .at (.l2 .at (.l3 (.v 16) (.ln (.v 0)) (.l2 .cons (.l2 .at (.l2 .at (.v 16) (.ln (.v 0))) (.c 0)) (.l2 .cons (.l2 .at (.l2 .at (.v 16) (.ln (.v 0))) (.c 1)) (.l2 .cons (.l2 .at (.l2 .at (.v 16) (.ln (.v 0))) (.c 2)) (.l2 .cons (.l2 .at (.l2 .at (.v 16) (.ln (.v 0))) (.c 3)) (.l2 .cons (.l2 .at (.l2 .at (.v 16) (.ln (.v 0))) (.c 4)) (.l2 .cons (.l2 .at (.l2 .at (.v 16) (.ln (.v 0))) (.c 5)) (.l2 .cons (.v 15) (.l2 .cons (.l2 .at (.l2 .at (.v 16) (.ln (.v 0))) (.c 7)) (.l2 .cons (.l2 .at (.l2 .at (.v 16) (.ln (.v 0))) (.c 8)) .nl)))))))))) (.ln (.v 0))) (.c 8)) .nl)))))))))),(.v 17),(.ln (.v 0))]))))))))))))
set_option maxHeartbeats 1000000 in
theorem Z1eh {k:Nat} {cT cI cL lo hi v5 b0 b1 b2 b3 b4 b5:Int} {bs:List (List Int→Prop)} (hp:Z7r (k + 1) (dec cT) (dec cI) (dec cL) lo hi) (two:lo + 2≤hi) (hb:Z3m (dec cL) (Z8h (dec cI) lo hi)=[b0,b1,b2,b3,b4,b5]) {ax:Int} (hax:ax=(Zjl [b0,b1,b2,b3,b4,b5]:Int)) :
  (Z25 ax).sat (Z4m k) [] (fun ys=>ys=Z11 [cT,cI,cL,lo,hi]) bs [cT,cI,cL,lo,hi,v5,b0,b1,b2,b3,b4,b5]:=by
 have hLb:=hp.bxs
 have hits:=hp.its
 have hn1:=hp.lo0
 have hn2:=hp.hi1
 have hn3:=hp.lenI
 have hn4:=hp.lenT
 have hn5:=hp.fuel
 clear hp
 simp only [Z25,Z4m,Z2x,Z2v,Zo3,TX.sat,XB.prop,X.den,Z1kk,Z1kl,Z1ke,Z1kf,Z1ki,Z1kj,Z1kg,Z1kh,mkS,mkP,and_true,true_and,Z1kp,Z1kq,not_or,not_and,Z1km,ne_eq,Z1kn,Z1ko,Z18r,Z11,L2.den,Z3,Z18s,Zjm]
 generalize dec cT=T at *
 generalize dec cI=I at *
 generalize dec cL=L at *
 have hsl:=Z7q hn1 (by omega:lo≤hi) hn2
 obtain ⟨A,B,hI,hlo,hhi⟩:=Z1jv I hn1 (by omega:lo≤hi) hn2
 generalize hsg:Z8h I lo hi=s at *
 have hs2:2≤s.length:=by omega
 have hns:¬ s.length≤1:=by omega
 have hK:Zbk L ax.toNat s=Z2e L s:=by
  unfold Z2e
  rw [hb,hax,Int.toNat_natCast]
 have hax2:0≤ax∧ax < 3:=by
  rw [hax]
  unfold Zjl
  split <;> split <;> decide
 obtain ⟨K1,K2,hK12,hk1,hk2,hKt,hKd⟩:∃ K1 K2,Z2e L s=K1++K2∧K1.length=(s.length + 1) / 2∧K2.length=s.length - (s.length + 1) / 2∧(Z2e L s).take ((s.length + 1) / 2)=K1∧(Z2e L s).drop ((s.length + 1) / 2)=K2 :=
  ⟨_,_,(List.take_append_drop ((s.length + 1) / 2) (Z2e L s)).symm,by rw [List.length_take,Z24]; omega,by rw [List.length_drop,Z24],rfl,rfl⟩
 have hq:(hi - lo + 1).tdiv 2=(((s.length + 1) / 2:Nat):Int):=by
  rw [Int.tdiv_eq_ediv_of_nonneg (by omega)]
  omega
 have hX1:Zuz I lo hi (Zbk L ax.toNat s)=A++(K1++(K2++B)):=by
  rw [hK,hI,hlo,hhi,Zjo,hK12,List.append_assoc]
 have hm1:lo + (hi - lo + 1).tdiv 2=((A.length + K1.length:Nat):Int):=by rw [hq,hk1]; omega
 have hf1:(lo + (hi - lo + 1).tdiv 2 - lo).toNat=K1.length:=by rw [hq,hk1]; omega
 have hS1:Z8h (A++(K1++(K2++B))) lo (lo + (hi - lo + 1).tdiv 2)=K1:=by rw [hm1,hlo]; exact Z18z _ _ _
 obtain ⟨J1,hJ1⟩:∃ J1,J1=Z64 L K1.length K1:=⟨_,rfl⟩
 have hj1:J1.length=K1.length:=by rw [hJ1,Zd9]
 have hX2:Zuz (A++(K1++(K2++B))) lo (lo + (hi - lo + 1).tdiv 2) J1=A++J1++(K2++B):=by rw [hm1,hlo,Zjo,List.append_assoc]
 have hm2:lo + (hi - lo + 1).tdiv 2=((A++J1).length:Int):=by rw [hm1,List.length_append,hj1]
 have hm3:lo + (hi - lo)=(((A++J1).length + K2.length:Nat):Int):=by rw [List.length_append,hj1,hk1,hk2]; omega
 have hf2:(lo + (hi - lo) - (lo + (hi - lo + 1).tdiv 2)).toNat=K2.length:=by rw [hm2,hm3]; omega
 have hS2:Z8h (A++J1++(K2++B)) (lo + (hi - lo + 1).tdiv 2) (lo + (hi - lo))=K2:=by rw [hm2,hm3]; exact Z18z _ _ _
 obtain ⟨J2,hJ2⟩:∃ J2,J2=Z64 L K2.length K2:=⟨_,rfl⟩
 have hj2:J2.length=K2.length:=by rw [hJ2,Zd9]
 have hX3:Zuz (A++J1++(K2++B)) (lo + (hi - lo + 1).tdiv 2) (lo + (hi - lo)) J2=A++((J1++J2)++B):=by rw [hm2,hm3,Zjo]; simp only [List.append_assoc]
 have hmem1:∀ x ∈ K1,0≤x∧x < (L.length:Int):=fun x hx=>hits x (by rw [← Z9f (L:=L),hK12]; exact List.mem_append_left _ hx)
 have hmem2:∀ x ∈ K2,0≤x∧x < (L.length:Int):=fun x hx=>hits x (by rw [← Z9f (L:=L),hK12]; exact List.mem_append_right _ hx)
 have hIl:I.length=A.length + s.length + B.length:=by rw [hI]; simp only [List.length_append]; omega
 have hlX1:(A++(K1++(K2++B))).length=I.length:=by simp only [List.length_append,hk1,hk2,hIl]; omega
 have hlX2:(A++J1++(K2++B)).length=I.length:=by simp only [List.length_append,hj1,hk1,hk2,hIl]; omega
 rw [hX1,hS1,hf1,← hJ1,hX2,hS2,hf2,← hJ2,hX3]
 have hbl1:=Z5o (L:=L) K1.length K1 ((T.length:Int) + 1) (by omega) (Nat.le_refl _)
 have hbl2:∀ a,(Z1b L K2.length K2 a).length=2 * K2.length - 1:=fun a=>Z5o _ _ _ (by omega) (Nat.le_refl _)
 have hT1:∀ x:Int,((T++[x]).length:Int)=(T.length:Int) + 1:=fun x=>by simp
 simp only [hT1]
 have hT2:∀ x:Int,((T++[x]++Z1b L K1.length K1 ((T.length:Int) + 1)).length:Int)=(T.length:Int) + 1 + ((Z1b L K1.length K1 ((T.length:Int) + 1)).length:Int):=fun x=>by simp only [List.length_append,List.length_cons,List.length_nil]; omega
 simp only [hT2]
 have happ:∀ (y:Int) (l r:List Int),T++[y]++l++r=T++y::(l++r):=fun y l r=>by simp
 simp only [happ,Int.toNat_natCast,Z1gf,Z190,Z3,TX.sat,XB.prop,X.den,Z1kk,Z1kl,Z1ke,Z1kf,Z1ki,Z1kj,Z1kg,Z1kh,mkS,mkP,and_true,true_and,Z1kp,Z1kq,not_or,not_and,Z1km,ne_eq,Z1kn,Z1ko]
 have hlen:∀ (y:Int) (l:List Int),(T.length:Int) < ((T++y::l).length:Int):=fun y l=>by simp only [List.length_append,List.length_cons]; omega
 have hfu:(hi - lo).toNat=s.length - 1 + 1:=by omega
 refine ⟨⟨hn1,two,hn2,hn3,by rw [hsg]; exact hits,hLb,hax2.1,hax2.2⟩,by omega,by rw [hq]; omega,by rw [hq]; omega,⟨hn1,by rw [hq]; omega,by rw [hq,hlX1]; omega,by rw [hq]; omega,by rw [hlX1]; exact hn3,by rw [hq,hT1]; omega,by rw [hS1]; exact hmem1,hLb⟩,by omega,by rw [hq]; omega,
  ⟨by rw [hq]; omega,by rw [hq]; omega,by rw [hlX2]; omega,by rw [hq]; omega,by rw [hlX2]; exact hn3,by rw [hT2,hbl1,hq]; omega,by rw [hS2]; exact hmem2,hLb⟩,by omega,hlen _ _,hlen _ _,?_⟩
 rw [hfu,Z9h hns,Zd8 hns,hKt,hKd,hb,Zaf K1.length K1 _ (by omega) (Nat.le_refl _) (s.length - 1) (by omega),Zaf K2.length K2 _ (by omega) (Nat.le_refl _) (s.length - 1) (by omega),Zag K1.length K1 (Nat.le_refl _) (s.length - 1) (by omega),Zag K2.length K2 (Nat.le_refl _) (s.length - 1) (by omega),← hJ1,← hJ2,hI,hlo,hhi,Zjo]
 simp only [Int.reduceToNat,Int.toNat_zero,Int.toNat_one,Z1kg,Z1kh,Z1ki,Z1kj]
end Go.Proofs.YtgcoidbaoigkeaaGreatDoor.fix
namespace Go.Proofs.YtgcoidbaoigkeaaGreatDoor.fix
open Go.RowKit Go.Sx
noncomputable def Z12b (L s:List Int) (i:Nat):List Int:=((s.drop 1).take i).foldl (Z1jr L) (Z3j (L.getD (s.getD 0 0).toNat 0))
theorem Zjp {L s:List Int} {i:Nat} (h:i + 1 < s.length):Z12b L s (i + 1)=Z1jr L (Z12b L s i) (s.getD (i + 1) 0):=by
 unfold Z12b
 have hl:i < (s.drop 1).length:=by rw [List.length_drop]; omega
 rw [List.take_add_one,List.foldl_append,List.getElem?_eq_getElem hl]
 simp only [Option.toList_some,List.foldl_cons,List.foldl_nil]
 congr 1
 simp [List.getD,Nat.add_comm 1 i,h]
theorem Zgo {L s:List Int} {i:Nat} (h:i + 1=s.length):Z12b L s i=Z3m L s:=by
 unfold Z12b Z3m
 rw [List.take_of_length_le (by rw [List.length_drop]; omega)]
theorem Zym (c0 c1 c2 c3 c4 c5:Int):Z3j (cod [c0,c1,c2,c3,c4,c5])=[c0,c1,c2,c3,c4,c5]:=by
 simp only [Z3j,Z82]
 rfl
theorem Z191 {c0 c1 c2 c3 c4 c5 x:Int} (hb:Z72 [c0,c1,c2,c3,c4,c5] 0=true) (hx:Z36 x=true) :
  Z17 Z93 [c0,c1,c2,c3,c4,c5,co x 0,co x 1,co x 2,co x 3,co x 4,co x 5]∧Ztg [c0,c1,c2,c3,c4,c5,co x 0,co x 1,co x 2,co x 3,co x 4,co x 5]=Z8a ([c0,c1,c2,c3,c4,c5]++Z3j x) ∧
  Z72 (ex6 (Z8a ([c0,c1,c2,c3,c4,c5]++Z3j x))) 0=true:=by
 have ha:Z36 (cod [c0,c1,c2,c3,c4,c5])=true:=by rw [Zcq,Zym]; exact hb
 have h1:=zz12 ha hx
 have h2:=Z15w ha hx
 have h3:=Zx9 ha hx
 rw [Zym] at h2 h3
 simp only [Z82,Z1kg,Z1kh] at h1 h2
 exact ⟨h1,h2,h3⟩
def Z1ei (L s:List Int) (ys:List Int):Prop:=∃ i:Nat,i < s.length∧ys=(i:Int)::Z12b L s i∧Z72 (Z12b L s i) 0=true
theorem loop0 {L s:List Int} (h:0 < s.length) (h0:0≤s.getD 0 0) (h1:s.getD 0 0 < (L.length:Int)) (hL:∀ b ∈ L,Z36 b=true):Z1ei L s (0::Z3j (L.getD (s.getD 0 0).toNat 0)) :=
 ⟨0,h,rfl,by
  show Z72 (Z3j _) 0=true
  rw [← Zcq]
  exact hL _ (Z10 (by omega))⟩
theorem Z192 {L s:List Int} {i:Nat} {c0 c1 c2 c3 c4 c5 x:Int} (hi:i + 1 < s.length) (hR:Z12b L s i=[c0,c1,c2,c3,c4,c5]) (hb:Z72 [c0,c1,c2,c3,c4,c5] 0=true) (hx:x=L.getD (s.getD (i + 1) 0).toNat 0) (hk:Z36 x=true) :
  Z1ei L s (((i + 1:Nat):Int)::ex6 (Z8a ([c0,c1,c2,c3,c4,c5]++Z3j x))):=by
 have h:Z12b L s (i + 1)=ex6 (Z8a ([c0,c1,c2,c3,c4,c5]++Z3j x)):=by
  rw [Zjp hi,hR,hx]
  rfl
 exact ⟨i + 1,hi,by rw [h],by rw [h]; exact (Z191 hb hk).2.2⟩
theorem Zyn {L s:List Int}:∀ i:Nat,i < s.length→(Z12b L s i).length=6
 | 0,_=>rfl
 | i + 1,h=>by rw [Zjp h]; rfl
theorem Z7s {l:List Int} (h:l.length=6):∃ c0 c1 c2 c3 c4 c5,l=[c0,c1,c2,c3,c4,c5]:=by
 match l,h with
 | [c0,c1,c2,c3,c4,c5],_=>exact ⟨c0,c1,c2,c3,c4,c5,rfl⟩
def Z1jw:TX:=(.asrt (.lt (.c 0) (.ln (.v 1))) (.asrt (.le (.c 0) (.l2 .at (.v 1) (.c 0))) (.asrt (.lt (.l2 .at (.v 1) (.c 0)) (.ln (.v 2))) (.asrt (.le (.c 1) (.ln (.v 1))) (.asrt (.le (.ln (.v 1)) (.ln (.v 1))) (.loop 7 [none,none,none,none,none,none,none] [(.c 0),(.l2 .at (.l2 .at (.v 2) (.l2 .at (.v 1) (.c 0))) (.c 0)),(.l2 .at (.l2 .at (.v 2) (.l2 .at (.v 1) (.c 0))) (.c 1)),(.l2 .at (.l2 .at (.v 2) (.l2 .at (.v 1) (.c 0))) (.c 2)),(.l2 .at (.l2 .at (.v 2) (.l2 .at (.v 1) (.c 0))) (.c 3)),(.l2 .at (.l2 .at (.v 2) (.l2 .at (.v 1) (.c 0))) (.c 4)),(.l2 .at (.l2 .at (.v 2) (.l2 .at (.v 1) (.c 0))) (.c 5))] (.ite (.lt (.v 3) (.wr .i64 (.sub (.ln (.v 1)) (.c 1)))) (.asrt (.le (.c 0) (.v 3)) (.asrt (.le (.c 0) (.wr .i64 (.add (.c 1) (.v 3)))) (.asrt (.lt (.wr .i64 (.add (.c 1) (.v 3))) (.ln (.v 1))) (.asrt (.le (.c 0) (.l2 .at (.v 1) (.wr .i64 (.add (.c 1) (.v 3))))) (.asrt (.lt (.l2 .at (.v 1) (.wr .i64 (.add (.c 1) (.v 3)))) (.ln (.v 2))) (.call 0 [(.v 4),(.v 5),(.v 6),(.v 7),(.v 8),(.v 9),(.l2 .at (.l2 .at (.v 2) (.l2 .at (.v 1) (.wr .i64 (.add (.c 1) (.v 3))))) (.c 0)),(.l2 .at (.l2 .at (.v 2) (.l2 .at (.v 1) (.wr .i64 (.add (.c 1) (.v 3))))) (.c 1)),(.l2 .at (.l2 .at (.v 2) (.l2 .at (.v 1) (.wr .i64 (.add (.c 1) (.v 3))))) (.c 2)),(.l2 .at (.l2 .at (.v 2) (.l2 .at (.v 1) (.wr .i64 (.add (.c 1) (.v 3))))) (.c 3)),(.l2 .at (.l2 .at (.v 2) (.l2 .at (.v 1) (.wr .i64 (.add (.c 1) (.v 3))))) (.c 4)),(.l2 .at (.l2 .at (.v 2) (.l2 .at (.v 1) (.wr .i64 (.add (.c 1) (.v 3))))) (.c 5))] (.back 0 [(.wr .i64 (.add (.v 3) (.c 1))),(.v 10),(.v 11),(.v 12),(.v 13),(.v 14),(.v 15)])))))))
(.asrt (.le (.ln (.l2 .snoc (.v 0) (.l2 .cons (.v 4) (.l2 .cons (.v 5) (.l2 .cons (.v 6) (.l2 .cons (.v 7) (.l2 .cons (.v 8) (.l2 .cons (.v 9) (.l2 .cons (.c (-1)) (.l2 .cons (.c (-1)) (.l2 .cons (.c (-1)) .nl))))))))))) (.c 1000000)) (.ite (.eq (.ln (.v 1)) (.c 1)) (.asrt (.le (.c 0) (.ln (.v 0))) (.asrt (.lt (.ln (.v 0)) (.ln (.l2 .snoc (.v 0) (.l2 .cons (.v 4) (.l2 .cons (.v 5) (.l2 .cons (.v 6) (.l2 .cons (.v 7) (.l2 .cons (.v 8) (.l2 .cons (.v 9) (.l2 .cons (.c (-1)) (.l2 .cons (.c (-1)) (.l2 .cons (.c (-1)) .nl)))))))))))) (.ret [(.l3 (.l2 .snoc (.v 0) (.l2 .cons (.v 4) (.l2 .cons (.v 5) (.l2 .cons (.v 6) (.l2 .cons (.v 7) (.l2 .cons (.v 8) (.l2 .cons (.v 9) (.l2 .cons (.c (-1)) (.l2 .cons (.c (-1)) (.l2 .cons (.c (-1)) .nl)))))))))) (.ln (.v 0)) (.l2 .cons (.l2 .at (.l2 .at (.l2 .snoc (.v 0) (.l2 .cons (.v 4) (.l2 .cons (.v 5) (.l2 .cons (.v 6) (.l2 .cons (.v 7) (.l2 .cons (.v 8) (.l2 .cons (.v 9) (.l2 .cons (.c (-1)) (.l2 .cons (.c (-1)) (.l2 .cons (.c (-1)) .nl)))))))))) (.ln (.v 0))) (.c 0)) (.l2 .cons (.l2 .at (.l2 .at (.l2 .snoc (.v 0) (.l2 .cons (.v 4) (.l2 .cons (.v 5) (.l2 .cons (.v 6) (.l2 .cons (.v 7) (.l2 .cons (.v 8) (.l2 .cons (.v 9) (.l2 .cons (.c (-1)) (.l2 .cons (.c (-1)) (.l2 .cons (.c (-1)) .nl)))))))))) (.ln (.v 0))) (.c 1)) (.l2 .cons (.l2 .at (.l2 .at (.l2 .snoc (.v 0) (.l2 .cons (.v 4) (.l2 .cons (.v 5) (.l2 .cons (.v 6) (.l2 .cons (.v 7) (.l2 .cons (.v 8) (.l2 .cons (.v 9) (.l2 .cons (.c (-1)) (.l2 .cons (.c (-1)) (.l2 .cons (.c (-1)) .nl)))))))))) (.ln (.v 0))) (.c 2)) (.l2 .cons (.l2 .at (.l2 .at (.l2 .snoc (.v 0) (.l2 .cons (.v 4) (.l2 .cons (.v 5) (.l2 .cons (.v 6) (.l2 .cons (.v 7) (.l2 .cons (.v 8) (.l2 .cons (.v 9) (.l2 .cons (.c (-1)) (.l2 .cons (.c (-1)) (.l2 .cons (.c (-1)) .nl)))))))))) (.ln (.v 0))) (.c 3)) (.l2 .cons (.l2 .at (.l2 .at (.l2 .snoc (.v 0) (.l2 .cons (.v 4) (.l2 .cons (.v 5) (.l2 .cons (.v 6) (.l2 .cons (.v 7) (.l2 .cons (.v 8) (.l2 .cons (.v 9) (.l2 .cons (.c (-1)) (.l2 .cons (.c (-1)) (.l2 .cons (.c (-1)) .nl)))))))))) (.ln (.v 0))) (.c 4)) (.l2 .cons (.l2 .at (.l2 .at (.l2 .snoc (.v 0) (.l2 .cons (.v 4) (.l2 .cons (.v 5) (.l2 .cons (.v 6) (.l2 .cons (.v 7) (.l2 .cons (.v 8) (.l2 .cons (.v 9) (.l2 .cons (.c (-1)) (.l2 .cons (.c (-1)) (.l2 .cons (.c (-1)) .nl)))))))))) (.ln (.v 0))) (.c 5)) (.l2 .cons (.l2 .at (.l2 .at (.l2 .snoc (.v 0) (.l2 .cons (.v 4) (.l2 .cons (.v 5) (.l2 .cons (.v 6) (.l2 .cons (.v 7) (.l2 .cons (.v 8) (.l2 .cons (.v 9) (.l2 .cons (.c (-1)) (.l2 .cons (.c (-1)) (.l2 .cons (.c (-1)) .nl)))))))))) (.ln (.v 0))) (.c 6)) (.l2 .cons (.l2 .at (.l2 .at (.l2 .snoc (.v 0) (.l2 .cons (.v 4) (.l2 .cons (.v 5) (.l2 .cons (.v 6) (.l2 .cons (.v 7) (.l2 .cons (.v 8) (.l2 .cons (.v 9) (.l2 .cons (.c (-1)) (.l2 .cons (.c (-1)) (.l2 .cons (.c (-1)) .nl)))))))))) (.ln (.v 0))) (.c 7)) (.l2 .cons (.l2 .at (.v 1) (.c 0)) .nl)))))))))),(.ln (.v 0))])))
(.ite (.lt (.c (-1)) (.wr .i64 (.sub (.v 7) (.v 4)))) (.ite (.lt (.wr .i64 (.sub (.v 7) (.v 4))) (.wr .i64 (.sub (.v 8) (.v 5)))) (.ite (.lt (.wr .i64 (.sub (.v 8) (.v 5))) (.wr .i64 (.sub (.v 9) (.v 6)))) .fail
.fail)
(.ite (.lt (.wr .i64 (.sub (.v 7) (.v 4))) (.wr .i64 (.sub (.v 9) (.v 6)))) .fail
.fail))
(.ite (.lt (.c (-1)) (.wr .i64 (.sub (.v 8) (.v 5)))) (.ite (.lt (.wr .i64 (.sub (.v 8) (.v 5))) (.wr .i64 (.sub (.v 9) (.v 6)))) .fail
.fail)
(.ite (.lt (.c (-1)) (.wr .i64 (.sub (.v 9) (.v 6)))) .fail
.fail))))))))))))
set_option maxRecDepth 100000 in
theorem Z1ej:Z12 (Zr [] [Zeb] [] Z18y T_one)=Z1jw:=by kernel_rfl
def Zv0:TX:=(.asrt (.le (.v 3) (.v 4)) (.asrt (.le (.v 4) (.ln (.v 1))) (.asrt (.lt (.c 0) (.sub (.v 4) (.v 3))) (.asrt (.lt (.v 3) (.ln (.v 1))) (.asrt (.le (.c 0) (.l2 .at (.v 1) (.v 3))) (.asrt (.lt (.l2 .at (.v 1) (.v 3)) (.ln (.v 2))) (.asrt (.le (.c 1) (.sub (.v 4) (.v 3))) (.asrt (.le (.sub (.v 4) (.v 3)) (.sub (.v 4) (.v 3))) (.asrt (.lt (.c 1) (.sub (.v 4) (.v 3))) (.asrt (.le (.add (.v 3) (.c 1)) (.add (.v 3) (.sub (.v 4) (.v 3)))) (.asrt (.le (.add (.v 3) (.sub (.v 4) (.v 3))) (.ln (.v 1))) (.loop 7 [none,none,none,none,none,none,none] [(.c 0),(.l2 .at (.l2 .at (.v 2) (.l2 .at (.v 1) (.v 3))) (.c 0)),(.l2 .at (.l2 .at (.v 2) (.l2 .at (.v 1) (.v 3))) (.c 1)),(.l2 .at (.l2 .at (.v 2) (.l2 .at (.v 1) (.v 3))) (.c 2)),(.l2 .at (.l2 .at (.v 2) (.l2 .at (.v 1) (.v 3))) (.c 3)),(.l2 .at (.l2 .at (.v 2) (.l2 .at (.v 1) (.v 3))) (.c 4)),(.l2 .at (.l2 .at (.v 2) (.l2 .at (.v 1) (.v 3))) (.c 5))] (.ite (.lt (.v 5) (.sub (.add (.v 3) (.sub (.v 4) (.v 3))) (.add (.v 3) (.c 1)))) (.asrt (.le (.c 0) (.v 5)) (.asrt (.le (.c 0) (.wr .i64 (.add (.add (.v 3) (.c 1)) (.v 5)))) (.asrt (.lt (.wr .i64 (.add (.add (.v 3) (.c 1)) (.v 5))) (.ln (.v 1))) (.asrt (.le (.c 0) (.l2 .at (.v 1) (.wr .i64 (.add (.add (.v 3) (.c 1)) (.v 5))))) (.asrt (.lt (.l2 .at (.v 1) (.wr .i64 (.add (.add (.v 3) (.c 1)) (.v 5)))) (.ln (.v 2))) (.call 0 [(.v 6),(.v 7),(.v 8),(.v 9),(.v 10),(.v 11),(.l2 .at (.l2 .at (.v 2) (.l2 .at (.v 1) (.wr .i64 (.add (.add (.v 3) (.c 1)) (.v 5))))) (.c 0)),(.l2 .at (.l2 .at (.v 2) (.l2 .at (.v 1) (.wr .i64 (.add (.add (.v 3) (.c 1)) (.v 5))))) (.c 1)),(.l2 .at (.l2 .at (.v 2) (.l2 .at (.v 1) (.wr .i64 (.add (.add (.v 3) (.c 1)) (.v 5))))) (.c 2)),(.l2 .at (.l2 .at (.v 2) (.l2 .at (.v 1) (.wr .i64 (.add (.add (.v 3) (.c 1)) (.v 5))))) (.c 3)),(.l2 .at (.l2 .at (.v 2) (.l2 .at (.v 1) (.wr .i64 (.add (.add (.v 3) (.c 1)) (.v 5))))) (.c 4)),(.l2 .at (.l2 .at (.v 2) (.l2 .at (.v 1) (.wr .i64 (.add (.add (.v 3) (.c 1)) (.v 5))))) (.c 5))] (.back 0 [(.wr .i64 (.add (.v 5) (.c 1))),(.v 12),(.v 13),(.v 14),(.v 15),(.v 16),(.v 17)]))))))) (.asrt (.le (.ln (.l2 .snoc (.v 0) (.l2 .cons (.v 6) (.l2 .cons (.v 7) (.l2 .cons (.v 8) (.l2 .cons (.v 9) (.l2 .cons (.v 10) (.l2 .cons (.v 11) (.l2 .cons (.c (-1)) (.l2 .cons (.c (-1)) (.l2 .cons (.c (-1)) .nl))))))))))) (.c 1000000)) (.ite (.eq (.sub (.v 4) (.v 3)) (.c 1)) (.asrt (.le (.c 0) (.ln (.v 0))) (.asrt (.lt (.ln (.v 0)) (.ln (.l2 .snoc (.v 0) (.l2 .cons (.v 6) (.l2 .cons (.v 7) (.l2 .cons (.v 8) (.l2 .cons (.v 9) (.l2 .cons (.v 10) (.l2 .cons (.v 11) (.l2 .cons (.c (-1)) (.l2 .cons (.c (-1)) (.l2 .cons (.c (-1)) .nl)))))))))))) (.ret [(.l3 (.l2 .snoc (.v 0) (.l2 .cons (.v 6) (.l2 .cons (.v 7) (.l2 .cons (.v 8) (.l2 .cons (.v 9) (.l2 .cons (.v 10) (.l2 .cons (.v 11) (.l2 .cons (.c (-1)) (.l2 .cons (.c (-1)) (.l2 .cons (.c (-1)) .nl)))))))))) (.ln (.v 0)) (.l2 .cons (.l2 .at (.l2 .at (.l2 .snoc (.v 0) (.l2 .cons (.v 6) (.l2 .cons (.v 7) (.l2 .cons (.v 8) (.l2 .cons (.v 9) (.l2 .cons (.v 10) (.l2 .cons (.v 11) (.l2 .cons (.c (-1)) (.l2 .cons (.c (-1)) (.l2 .cons (.c (-1)) .nl)))))))))) (.ln (.v 0))) (.c 0)) (.l2 .cons (.l2 .at (.l2 .at (.l2 .snoc (.v 0) (.l2 .cons (.v 6) (.l2 .cons (.v 7) (.l2 .cons (.v 8) (.l2 .cons (.v 9) (.l2 .cons (.v 10) (.l2 .cons (.v 11) (.l2 .cons (.c (-1)) (.l2 .cons (.c (-1)) (.l2 .cons (.c (-1)) .nl)))))))))) (.ln (.v 0))) (.c 1)) (.l2 .cons (.l2 .at (.l2 .at (.l2 .snoc (.v 0) (.l2 .cons (.v 6) (.l2 .cons (.v 7) (.l2 .cons (.v 8) (.l2 .cons (.v 9) (.l2 .cons (.v 10) (.l2 .cons (.v 11) (.l2 .cons (.c (-1)) (.l2 .cons (.c (-1)) (.l2 .cons (.c (-1)) .nl)))))))))) (.ln (.v 0))) (.c 2)) (.l2 .cons (.l2 .at (.l2 .at (.l2 .snoc (.v 0) (.l2 .cons (.v 6) (.l2 .cons (.v 7) (.l2 .cons (.v 8) (.l2 .cons (.v 9) (.l2 .cons (.v 10) (.l2 .cons (.v 11) (.l2 .cons (.c (-1)) (.l2 .cons (.c (-1)) (.l2 .cons (.c (-1)) .nl)))))))))) (.ln (.v 0))) (.c 3)) (.l2 .cons (.l2 .at (.l2 .at (.l2 .snoc (.v 0) (.l2 .cons (.v 6) (.l2 .cons (.v 7) (.l2 .cons (.v 8) (.l2 .cons (.v 9) (.l2 .cons (.v 10) (.l2 .cons (.v 11) (.l2 .cons (.c (-1)) (.l2 .cons (.c (-1)) (.l2 .cons (.c (-1)) .nl)))))))))) (.ln (.v 0))) (.c 4)) (.l2 .cons (.l2 .at (.l2 .at (.l2 .snoc (.v 0) (.l2 .cons (.v 6) (.l2 .cons (.v 7) (.l2 .cons (.v 8) (.l2 .cons (.v 9) (.l2 .cons (.v 10) (.l2 .cons (.v 11) (.l2 .cons (.c (-1)) (.l2 .cons (.c (-1)) (.l2 .cons (.c (-1)) .nl)))))))))) (.ln (.v 0))) (.c 5)) (.l2 .cons (.l2 .at (.l2 .at (.l2 .snoc (.v 0) (.l2 .cons (.v 6) (.l2 .cons (.v 7) (.l2 .cons (.v 8) (.l2 .cons (.v 9) (.l2 .cons (.v 10) (.l2 .cons (.v 11) (.l2 .cons (.c (-1)) (.l2 .cons (.c (-1)) (.l2 .cons (.c (-1)) .nl)))))))))) (.ln (.v 0))) (.c 6)) (.l2 .cons (.l2 .at (.l2 .at (.l2 .snoc (.v 0) (.l2 .cons (.v 6) (.l2 .cons (.v 7) (.l2 .cons (.v 8) (.l2 .cons (.v 9) (.l2 .cons (.v 10) (.l2 .cons (.v 11) (.l2 .cons (.c (-1)) (.l2 .cons (.c (-1)) (.l2 .cons (.c (-1)) .nl)))))))))) (.ln (.v 0))) (.c 7)) (.l2 .cons (.l2 .at (.v 1) (.v 3)) .nl)))))))))),(.v 1),(.ln (.v 0))]))) (.ite (.lt (.c (-1)) (.wr .i64 (.sub (.v 9) (.v 6)))) (.ite (.lt (.wr .i64 (.sub (.v 9) (.v 6))) (.wr .i64 (.sub (.v 10) (.v 7)))) (.ite (.lt (.wr .i64 (.sub (.v 10) (.v 7))) (.wr .i64 (.sub (.v 11) (.v 8)))) (Z25 2) (Z25 1)) (.ite (.lt (.wr .i64 (.sub (.v 9) (.v 6))) (.wr .i64 (.sub (.v 11) (.v 8)))) (Z25 2) (Z25 0))) (.ite (.lt (.c (-1)) (.wr .i64 (.sub (.v 10) (.v 7)))) (.ite (.lt (.wr .i64 (.sub (.v 10) (.v 7))) (.wr .i64 (.sub (.v 11) (.v 8)))) (Z25 2) (Z25 1)) (.ite (.lt (.c (-1)) (.wr .i64 (.sub (.v 11) (.v 8)))) (Z25 2) (Z25 0)))))))))))))))))))
set_option maxRecDepth 100000 in
theorem Z11r (k:Nat):Z12 (Zr [] [Zeb,Zyl,i_sst] [] Zjn (Z18w k))=Zv0:=by kernel_rfl
end Go.Proofs.YtgcoidbaoigkeaaGreatDoor.fix
namespace Go.Proofs.YtgcoidbaoigkeaaGreatDoor.fix
open Go.RowKit Go.Sx
theorem eq_box {b0 b1 b2 b3 b4 b5:Int} (hb:Z72 [b0,b1,b2,b3,b4,b5] 0=true):((-32768≤b0∧b0≤32768)∧(-32768≤b1∧b1≤32768)∧(-32768≤b2∧b2≤32768))∧((-32768≤b3∧b3≤32768)∧(-32768≤b4∧b4≤32768)∧(-32768≤b5∧b5≤32768))∧b0≤b3∧b1≤b4∧b2≤b5:=Z22.1 hb
theorem Z1jx {cT cI cL:Int} (hI:(dec cI).length=1) (hits:0≤(dec cI).getD 0 0∧(dec cI).getD 0 0 < ((dec cL).length:Int)) (hLb:∀ b ∈ dec cL,Z36 b=true) (hT:(dec cT).length≤3000) :
  Z1jw.sat [Z2x] [] (fun ys=>ys=[cod (dec cT++[cod (Z3m (dec cL) (dec cI)++[-1,-1,(dec cI).getD 0 0])]),((dec cT).length:Int)]) [] [cT,cI,cL]:=by
 have hco:∀ x j,(dec x).getD j 0=co x j:=fun _ _=>rfl
 simp only [Z1jw,Z2x,Z92,ex7,TX.sat,XB.prop,X.den,Z1kk,Z1kl,Z1ke,Z1kf,Z1ki,Z1kj,Z1kg,Z1kh,mkS,mkP,and_true,true_and,Z1kp,Z1kq,not_or,not_and,Z1km,ne_eq,Z1kn,Z1ko,L2.den,Z3]
 generalize dec cT=T at *
 generalize dec cI=I at *
 generalize dec cL=L at *
 simp only [hco,show Int.toNat 0=0 from rfl,show Int.toNat 1=1 from rfl,show Int.toNat 2=2 from rfl,show Int.toNat 3=3 from rfl,show Int.toNat 4=4 from rfl,show Int.toNat 5=5 from rfl,show Int.toNat 6=6 from rfl,show Int.toNat 7=7 from rfl,show Int.toNat 8=8 from rfl,Int.toNat_natCast]
 refine ⟨by omega,by omega,by omega,by omega,by omega,Z1ei L I,fun xs=>I.length - (xs.getD 0 0).toNat,fun xs hx _=>Zp (n:=7) hx,loop0 (by omega) hits.1 hits.2 hLb,?_⟩
 rintro xs hx ⟨i,hi,rfl,hbB⟩
 obtain rfl:i=0:=by omega
 rw [Zgo (by omega)] at hbB ⊢
 obtain ⟨b0,b1,b2,b3,b4,b5,hb⟩:=Z7s (l:=Z3m L I) (by rw [← Zgo (i:=0) (by omega)]; exact Zyn _ (by omega))
 rw [hb] at hbB ⊢
 simp only [TX.sat,XB.prop,X.den,Z1kk,Z1kl,Z1ke,Z1kf,Z1ki,Z1kj,Z1kg,Z1kh,mkS,mkP,and_true,true_and,Z1kp,Z1kq,not_or,not_and,Z1km,ne_eq,Z1kn,Z1ko,Z1ki,Z1kj]
 have hw:IntKind.i64.wrap ((I.length:Int) - 1)=0:=by rw [hI]; decide
 rw [hw]
 have hg:∀ x:Int,(T++[x]).getD T.length 0=x:=fun x=>Z190 T [] x
 have hs:∀ x y:Int,(T++[x]).set T.length y=T++[y]:=fun x y=>Z1gf T [] x y
 have hlen:∀ x:Int,((T++[x]).length:Int)=(T.length:Int) + 1:=fun x=>by simp
 refine ⟨fun h=>absurd h (by omega),fun _=>⟨by rw [hlen]; omega,fun _=>⟨by omega,by rw [hlen]; omega,?_⟩,fun h=>absurd (by omega) h⟩⟩
 rw [hg,hs]
 simp only [Z82,Z1kg,Z1kh]
set_option maxHeartbeats 1000000 in
theorem Z193 {k:Nat} {cT cI cL lo hi:Int} (hp:Z7r (k + 1) (dec cT) (dec cI) (dec cL) lo hi) (two:lo + 2≤hi) :
  Zv0.sat (Z4m k) [] (fun ys=>ys=Z11 [cT,cI,cL,lo,hi]) [] [cT,cI,cL,lo,hi]:=by
 have htail:=@Z1eh k cT cI cL lo hi
 have hLb:=hp.bxs
 have hits:=hp.its
 have hn1:=hp.lo0
 have hn2:=hp.hi1
 have hn3:=hp.lenI
 have hn4:=hp.lenT
 replace htail:=fun v5 b0 b1 b2 b3 b4 b5 bs=>htail (v5:=v5) (b0:=b0) (b1:=b1) (b2:=b2) (b3:=b3) (b4:=b4) (b5:=b5) (bs:=bs) hp two
 clear hp
 have hco:∀ x j,(dec x).getD j 0=co x j:=fun _ _=>rfl
 unfold Zv0
 generalize hts:Z25=tb at *
 simp only [Z4m,Z2x,Z2v,Zo3,Z92,ex7,TX.sat,XB.prop,X.den,Z1kk,Z1kl,Z1ke,Z1kf,Z1ki,Z1kj,Z1kg,Z1kh,mkS,mkP,and_true,true_and,Z1kp,Z1kq,not_or,not_and,Z1km,ne_eq,Z1kn,Z1ko,L2.den,Z3]
 simp only [Z4m,Z2x,Z2v,Zo3] at htail
 generalize dec cT=T at *
 generalize dec cI=I at *
 generalize dec cL=L at *
 simp only [hco,show Int.toNat 0=0 from rfl,show Int.toNat 1=1 from rfl,show Int.toNat 2=2 from rfl,show Int.toNat 3=3 from rfl,show Int.toNat 4=4 from rfl,show Int.toNat 5=5 from rfl,Int.toNat_natCast]
 have hsl:=Z7q hn1 (by omega:lo≤hi) hn2
 obtain ⟨A,B,hI,hlo,hhi⟩:=Z1jv I hn1 (by omega:lo≤hi) hn2
 generalize hsg:Z8h I lo hi=s at *
 have hIl:I.length=A.length + s.length + B.length:=by rw [hI]; simp only [List.length_append]; omega
 have hget:∀ j:Nat,j < s.length→I.getD (A.length + j) 0=s.getD j 0:=fun j hj=>by
  rw [hI]
  simp only [List.getD]
  rw [List.getElem?_append_right (by omega),List.getElem?_append_left (by omega)]
  congr 2
  omega
 have hg0:I.getD lo.toNat 0=s.getD 0 0:=by rw [← hget 0 (by omega),hlo,Int.toNat_natCast]; rfl
 have hitg:∀ j:Nat,j < s.length→0≤s.getD j 0∧s.getD j 0 < (L.length:Int):=fun j hj=>hits _ (Z10 (by omega))
 rw [hg0]
 have i0:=hitg 0 (by omega)
 refine ⟨by omega,by omega,by omega,by omega,by omega,by omega,by omega,by omega,by omega,by omega,by omega,Z1ei L s,fun xs=>s.length - (xs.getD 0 0).toNat,fun xs hx _=>Zp (n:=7) hx,loop0 (by omega) i0.1 i0.2 hLb,?_⟩
 rintro xs hx ⟨i,hi',rfl,hbB⟩
 obtain ⟨b0,b1,b2,b3,b4,b5,hb⟩:=Z7s (l:=Z12b L s i) (Zyn _ hi')
 rw [hb] at hbB ⊢
 have hk:=eq_box hbB
 simp only [TX.sat,XB.prop,X.den,Z1kk,Z1kl,Z1ke,Z1kf,Z1ki,Z1kj,Z1kg,Z1kh,mkS,mkP,and_true,true_and,Z1kp,Z1kq,not_or,not_and,Z1km,ne_eq,Z1kn,Z1ko,Z1ki,Z1kj]
 refine ⟨fun h=>?_,fun h=>?_⟩
 ·have hj:=hitg (i + 1) (by omega)
  have hw1:IntKind.i64.wrap (lo + 1 + (i:Int))=((A.length + (i + 1):Nat):Int):=by rw [Zf (by omega) (by omega)]; omega
  have hw2:IntKind.i64.wrap ((i:Int) + 1)=((i + 1:Nat):Int):=by rw [Zf (by omega) (by omega)]; omega
  rw [hw1,hw2]
  simp only [Int.toNat_natCast]
  rw [hget _ (by omega)]
  have hx:=hLb (L.getD (s.getD (i + 1) 0).toNat 0) (Z10 (by omega))
  obtain ⟨r1,r2,r3⟩:=Z191 hbB hx
  refine ⟨by omega,by omega,by omega,by omega,by omega,r1,?_⟩
  rw [r2]
  refine ⟨Z192 (i:=i) (by omega) hb hbB rfl hx,?_⟩
  show s.length - (((i + 1:Nat):Int)).toNat < s.length - ((i:Int)).toNat
  omega
 ·rw [Zgo (by omega)] at hb
  have hlen:∀ x:Int,((T++[x]).length:Int)=(T.length:Int) + 1:=fun x=>by simp
  rw [Zf (by omega) (by omega),Zf (by omega) (by omega),Zf (by omega) (by omega)]
  refine ⟨by rw [hlen]; omega,fun h=>absurd h (by omega),fun _=>?_⟩
  refine ⟨fun q1=>⟨fun q2=>⟨fun q3=>?_,fun q3=>?_⟩,fun q2=>⟨fun q3=>?_,fun q3=>?_⟩⟩,fun q1=>absurd q1 (by omega)⟩
  ·exact htail i b0 b1 b2 b3 b4 b5 _ hb (by unfold Zjl; simp only [Z1kg,Z1kh]; rw [if_pos (by omega),if_pos (by omega)]; rfl)
  ·exact htail i b0 b1 b2 b3 b4 b5 _ hb (by unfold Zjl; simp only [Z1kg,Z1kh]; rw [if_pos (by omega),if_neg (by omega)]; rfl)
  ·exact htail i b0 b1 b2 b3 b4 b5 _ hb (by unfold Zjl; simp only [Z1kg,Z1kh]; rw [if_neg (by omega),if_pos (by omega)]; rfl)
  ·exact htail i b0 b1 b2 b3 b4 b5 _ hb (by unfold Zjl; simp only [Z1kg,Z1kh]; rw [if_neg (by omega),if_neg (by omega)]; rfl)
end Go.Proofs.YtgcoidbaoigkeaaGreatDoor.fix
namespace Go.Proofs.YtgcoidbaoigkeaaGreatDoor.fix
open Go.RowKit Go.Sx
theorem Zlm {w w':World} {ty:TypeId} {ks:List K} {v:Value} {c:Int} (h:Zt w ty ks v c) (hb:∀ k,Z7 v=some k→w'.heap[k]?=w.heap[k]?):Zt w' ty ks v c:=by
 rcases h with h | ⟨h0,h1,h2⟩
 ·exact .inl h
 ·rcases h2.2 with ⟨hv,hn⟩ | ⟨g,cap,cur,hv,hbb,hc,hle,hm,hsz,ht⟩
  ·exact .inl ⟨List.eq_nil_of_length_eq_zero hn,_,hv⟩
  ·by_cases hcap:cap=0
   ·subst hcap
    have hl:(dec c).length=0:=by omega
    exact .inl ⟨List.eq_nil_of_length_eq_zero hl,some ⟨g,0,none⟩,by rw [hv,hl]⟩
   ·have:=hb g (by rw [hv]; simp [Z7,hcap])
    exact .inr ⟨h0,h1,h2.1,.inr ⟨g,cap,cur,hv,hbb,by rw [this]; exact hc,hle,hm,hsz,ht⟩⟩
theorem Z3s {v:Value} (h:∃ a l c,v=.slice a l c):slV v=v:=by
 obtain ⟨a,l,c,rfl⟩:=h
 rfl
theorem Z194 {e:Env} {W0:Bas} {s:St} {w w':World} (h:Rep e W0 s w) (hsc:s.sc=true) {n m:Nat} {b:Blk} {r:Row} (hb:s.mem[n]?=some b) (hlb:b.live=true) (hfb:s.fl≤n) (hr:s.rows[m]?=some r) (hlr:r.live=true) (hfr:s.flr≤m)
  {vT vT':Value} {rows':List Row} (hlen:rows'.length=s.rows.length) (hrm:rows'[m]?=some r)
  (hold:∀ (j:Nat) (b':Row),rows'[j]?=some b'→b'.live=true→s.rows[j]?=some b'∧∀ g,Z7 vT=some g→Z7 ((G.o j).val e) ≠ some g)
  (hmay:∀ g,Z7 vT=some g→W0.may g) (hTm:∀ (n':Nat) (b':Blk),s.mem[n']?=some b'→b'.live=true→Z7 vT ≠ some (e.β.getD n' 0))
  {ty:TypeId} {ks:List K} {x0 x1 x2:Int} (hbel:Zv ⟨w,fun g=>g=e.β.getD n 0∨Z7 vT=some g∨Z7 ((G.o m).val e)=some g⟩ w')
  (hcell:w'.heap[e.β.getD n 0]?=some (.cells #[vT'] b.ty (0,0))) (hsl:∃ a l c,vT'=.slice a l c) (hT':Zt w' ty ks vT' x0) (hI':Zt w' r.ty r.ks ((G.o m).val e) x1)
  (hap:∀ g,Z7 vT'=some g→(w.heap.size≤g∨g=e.β.getD n 0∨Z7 vT=some g∨Z7 ((G.o m).val e)=some g)∧g ≠ e.β.getD n 0∧Z7 ((G.o m).val e) ≠ some g) :
  Rep { e with r:=e.r++[x0,x1,x2],σ:=e.σ++[vT'] } W0 { s with mem:=s.mem.set n { b with cells:=[.go (.o s.rows.length)] },rows:=rows'.set m { r with c:=.v (s.nv + 1) }++[⟨ty,ks,.v s.nv,true⟩],nv:=s.nv + 3 } w':=by
 obtain ⟨hv,_,_⟩:=h.vars hsc [x0,x1,x2]
 have hle:Env.le e { e with r:=e.r++[x0,x1,x2],σ:=e.σ++[vT'] }:=⟨[x0,x1,x2],[],[vT'],[],by simp⟩
 have hscp:=hsc
 simp only [St.sc,Z1kr] at hscp
 obtain ⟨⟨_,hmsc⟩,_,_⟩:=hscp
 rw [← h.nv,← h.nb,← h.ng] at hmsc
 have hx:∀ (j:Nat) (x:Int),[x0,x1,x2][j]?=some x→(E.v (s.nv + j)).den e.R (e.r++[x0,x1,x2])=x:=fun j x hj=>by
  simp only [E.den]
  rw [← h.nv]
  simp only [List.getD]
  rw [List.getElem?_append_right (by omega),Nat.add_sub_cancel_left,hj]
  rfl
 have hrl:rows'.length=e.σ.length:=by rw [hlen,h.ng]
 have hval:∀ j,j < s.rows.length→(G.o j).val { e with r:=e.r++[x0,x1,x2],σ:=e.σ++[vT'] }=(G.o j).val e:=fun j hj=>G.val_le hle (.o j) (by simp [G.sc,h.ng,hj])
 have hnew:(G.o s.rows.length).val { e with r:=e.r++[x0,x1,x2],σ:=e.σ++[vT'] }=vT':=by
  simp only [G.val]
  have:(e.σ++[vT']).getD s.rows.length undef=vT':=by
   simp only [List.getD]
   rw [List.getElem?_append_right (by rw [h.ng]; exact Nat.le_refl _),h.ng,Nat.sub_self]
   rfl
  rw [this,Z3s hsl]
 have hrows:∀ (j:Nat) (z:Row),(rows'.set m { r with c:=.v (s.nv + 1) }++[⟨ty,ks,.v s.nv,true⟩])[j]?=some z→z.live=true →
   (j=s.rows.length∧z=⟨ty,ks,.v s.nv,true⟩)∨(j=m∧z={ r with c:=.v (s.nv + 1) })∨(j ≠ m∧j < s.rows.length∧s.rows[j]?=some z∧∀ g,Z7 vT=some g→Z7 ((G.o j).val e) ≠ some g):=by
  intro j z hj hz
  by_cases hjl:j < s.rows.length
  ·rw [List.getElem?_append_left (by rw [List.length_set,hlen]; exact hjl)] at hj
   rcases Zn hj with ⟨rfl,rfl,_⟩ | ⟨hne,hj'⟩
   ·exact .inr (.inl ⟨rfl,rfl⟩)
   ·exact .inr (.inr ⟨hne,hjl,hold j z hj' hz⟩)
  ·rw [List.getElem?_append_right (by rw [List.length_set,hlen]; omega),List.length_set,hlen] at hj
   have:j - s.rows.length=0:=by
    have:=(List.getElem?_eq_some_iff.1 hj).1
    simp only [List.length_cons,List.length_nil] at this
    omega
   rw [this] at hj
   simp only [Z1ke,Option.some.injEq] at hj
   exact .inl ⟨by omega,hj.symm⟩
 have hml:m < s.rows.length:=(List.getElem?_eq_some_iff.1 hr).1
 have hstay:∀ g,g < w.heap.size→g ≠ e.β.getD n 0→Z7 vT ≠ some g→Z7 ((G.o m).val e) ≠ some g→w'.heap[g]?=w.heap[g]?:=fun g h1 h2 h3 h4=>hbel.block g (fun hh=>by
  rcases hh with hh | hh | hh | hh
  ·exact absurd h1 (Nat.not_lt.2 hh)
  ·exact h2 hh
  ·exact h3 hh
  ·exact h4 hh)
 have hblkne:∀ (n':Nat) (b':Blk),s.mem[n']?=some b'→b'.live=true→n' ≠ n→e.β.getD n' 0 ≠ e.β.getD n 0:=fun n' b' h1 h2 h3 he=>h3 (h.sep n' n b' b h1 hb h2 hlb he)
 have hTlt:∀ g,Z7 vT'=some g→∀ g',g' < w.heap.size→Z7 vT ≠ some g'→Z7 ((G.o m).val e) ≠ some g'→g' ≠ e.β.getD n 0→g ≠ g':=fun g hg g' h1 h2 h3 h4 he=>by
  subst he
  rcases (hap g hg).1 with hh | hh | hh | hh
  ·exact absurd h1 (Nat.not_lt.2 hh)
  ·exact h4 hh
  ·exact h2 hh
  ·exact h3 hh
 refine ⟨h.below.trans hbel ?_,?_,?_,hv.nv,hv.nx,?_,?_,?_,?_,?_,?_,?_,hv.gl,hv.arg⟩
 ·rintro i (hi | hi | hi | hi)
  ·exact .inl (Nat.le_trans h.below.size hi)
  ·rw [hi]; exact h.own n b hb hlb hfb
  ·exact hmay i hi
  ·exact h.rown m r hr hlr hfr i hi
 ·simp [h.nb]
 ·simp [hrl]
 ·intro n' c hc hlc
  rcases Zn hc with ⟨rfl,rfl,_⟩ | ⟨hne,hc'⟩
  ·show w'.heap[e.β.getD n' 0]?=_
   rw [hcell]
   simp only [Z1kk,Z1kl,SC.den,hnew]
  ·have hbk:=h.blk n' c hc' hlc
   show w'.heap[e.β.getD n' 0]?=_
   rw [hstay _ (Z1c hbk) (hblkne n' c hc' hlc hne) (hTm n' c hc' hlc) (h.brs n' m c r hc' hr hlc hlr),hbk,Zdn hle (List.all_eq_true.1 hmsc c (List.mem_of_getElem? hc'))]
 ·intro n' c hc hlc hfl
  rcases Zn hc with ⟨rfl,rfl,_⟩ | ⟨hne,hc'⟩
  ·exact h.own n' b hb hlb hfl
  ·exact h.own n' c hc' hlc hfl
 ·intro i j c d hc hd hlc hld he
  have old:∀ (i:Nat) (c:Blk),(s.mem.set n { b with cells:=[.go (.o s.rows.length)] })[i]?=some c→c.live=true→∃ c0,s.mem[i]?=some c0∧c0.live=true:=fun i c hc hlc=>by
   rcases Zn hc with ⟨rfl,rfl,_⟩ | ⟨hne,hc'⟩
   ·exact ⟨b,hb,hlb⟩
   ·exact ⟨c,hc',hlc⟩
  obtain ⟨c0,h1,h2⟩:=old i c hc hlc
  obtain ⟨d0,h3,h4⟩:=old j d hd hld
  exact h.sep i j c0 d0 h1 h3 h2 h4 he
 ·intro j z hj hz
  rcases hrows j z hj hz with ⟨rfl,rfl⟩ | ⟨rfl,rfl⟩ | ⟨hne,hlt,hz',hg⟩
  ·rw [hnew]
   show Zt w' ty ks vT' ((E.v s.nv).den e.R (e.r++[x0,x1,x2]))
   rw [show s.nv=s.nv + 0 from rfl,hx 0 x0 rfl]
   exact hT'
  ·rw [hval _ hml]
   show Zt w' r.ty r.ks _ ((E.v (s.nv + 1)).den e.R (e.r++[x0,x1,x2]))
   rw [hx 1 x1 rfl]
   exact hI'
  ·rw [hval _ hlt]
   refine Zlm (hv.row j z hz' hz) fun k hk=>?_
   have hk':Z7 ((G.o j).val e)=some k:=hk
   refine hstay k ((h.row j z hz' hz).blk_lt hk') (fun he=>h.brs n j b z hb hz' hlb hz (by rw [hk',he])) (fun hh=>hg k hh hk') (fun hh=>hne (h.rsep j m z r k hz' hr hz hlr hk' hh))
 ·intro j z hj hz hfj k hk
  rcases hrows j z hj hz with ⟨rfl,rfl⟩ | ⟨rfl,rfl⟩ | ⟨hne,hlt,hz',hg⟩
  ·rw [hnew] at hk
   rcases (hap k hk).1 with hh | hh | hh | hh
   ·exact .inl (Nat.le_trans h.below.size hh)
   ·rw [hh]; exact h.own n b hb hlb hfb
   ·exact hmay k hh
   ·exact h.rown m r hr hlr hfr k hh
  ·rw [hval _ hml] at hk
   exact h.rown j r hr hlr hfj k hk
  ·rw [hval _ hlt] at hk
   exact h.rown j z hz' hz hfj k hk
 ·have newNe:∀ (j:Nat) (z:Row) (k:Nat),j ≠ m→j < s.rows.length→s.rows[j]?=some z→z.live=true→(∀ g,Z7 vT=some g→Z7 ((G.o j).val e) ≠ some g)→Z7 vT'=some k→Z7 ((G.o j).val e)=some k→False:=by
   intro j z k hne hlt hz' hz hg h1 h2
   exact hTlt k h1 k ((h.row j z hz' hz).blk_lt h2) (fun hh=>hg k hh h2) (fun hh=>hne (h.rsep j m z r k hz' hr hz hlr h2 hh)) (fun he=>h.brs n j b z hb hz' hlb hz (by rw [h2,he])) rfl
  intro i j c d k hi hj hc hd h1 h2
  rcases hrows i c hi hc with ⟨rfl,rfl⟩ | ⟨rfl,rfl⟩ | ⟨hne,hlt,hz',hg⟩
  ·rw [hnew] at h1
   rcases hrows j d hj hd with ⟨rfl,rfl⟩ | ⟨rfl,rfl⟩ | ⟨hne2,hlt2,hz2,hg2⟩
   ·rfl
   ·rw [hval _ hml] at h2
    exact absurd h2 (hap k h1).2.2
   ·rw [hval _ hlt2] at h2
    exact (newNe j d k hne2 hlt2 hz2 hd hg2 h1 h2).elim
  ·rw [hval _ hml] at h1
   rcases hrows j d hj hd with ⟨rfl,rfl⟩ | ⟨rfl,rfl⟩ | ⟨hne2,hlt2,hz2,hg2⟩
   ·rw [hnew] at h2
    exact absurd h1 (hap k h2).2.2
   ·rfl
   ·rw [hval _ hlt2] at h2
    exact h.rsep i j r d k hr hz2 hlr hd h1 h2
  ·rw [hval _ hlt] at h1
   rcases hrows j d hj hd with ⟨rfl,rfl⟩ | ⟨rfl,rfl⟩ | ⟨hne2,hlt2,hz2,hg2⟩
   ·rw [hnew] at h2
    exact (newNe i c k hne hlt hz' hc hg h2 h1).elim
   ·rw [hval _ hml] at h2
    exact h.rsep i j c r k hz' hr hc hlr h1 h2
   ·rw [hval _ hlt2] at h2
    exact h.rsep i j c d k hz' hz2 hc hd h1 h2
 ·intro i j c d hi hj hc hd
  have old:∃ c0,s.mem[i]?=some c0∧c0.live=true:=by
   rcases Zn hi with ⟨rfl,rfl,_⟩ | ⟨hne,hc'⟩
   ·exact ⟨b,hb,hlb⟩
   ·exact ⟨c,hc',hc⟩
  obtain ⟨c0,h1,h2⟩:=old
  show Z7 _ ≠ some (e.β.getD i 0)
  rcases hrows j d hj hd with ⟨rfl,rfl⟩ | ⟨rfl,rfl⟩ | ⟨hne2,hlt2,hz2,hg2⟩
  ·rw [hnew]
   intro hk
   have hne:=(hap _ hk).2.1
   exact hTlt _ hk _ (Z1c (h.blk i c0 h1 h2)) (hTm i c0 h1 h2) (h.brs i m c0 r h1 hr h2 hlr) hne rfl
  ·rw [hval _ hml]
   exact h.brs i j c0 r h1 hr h2 hlr
  ·rw [hval _ hlt2]
   exact h.brs i j c0 d h1 hz2 h2 hd
end Go.Proofs.YtgcoidbaoigkeaaGreatDoor.fix
namespace Go.Proofs.YtgcoidbaoigkeaaGreatDoor.fix
open Go.RowKit Go.Sx
def XB (tb:Nat) (vT vI:Value) (g:Nat):Prop:=g=tb∨Z7 vT=some g∨Z7 vI=some g
structure Zln (w:World) (tb:Nat) (vT vI vL:Value) (cT cI cL:Int):Prop where
 cell:w.heap[tb]?=some (.cells #[vT] 59 (0,0))
 sT:∃ a l c,vT=.slice a l c
 rT:Zt w 109 Z4u vT cT
 sI:∃ a l c,vI=.slice a l c
 rI:Zt w 3 [.i .i64] vI cI
 sL:∃ a l c,vL=.slice a l c
 rL:SlX ⟨w,XB tb vT vI⟩ Z3d vL cL
 gl:GlX gl0 ⟨w,XB tb vT vI⟩
 tT:Z7 vT ≠ some tb
 tI:Z7 vI ≠ some tb
 tTI:∀ g,Z7 vT=some g→Z7 vI ≠ some g
structure Zrl (w w':World) (tb:Nat) (vT vI vT':Value) (c0 c1:Int):Prop where
 bel:Zv ⟨w,XB tb vT vI⟩ w'
 cell:w'.heap[tb]?=some (.cells #[vT'] 59 (0,0))
 sT:∃ a l c,vT'=.slice a l c
 rT:Zt w' 109 Z4u vT' c0
 rI:Zt w' 3 [.i .i64] vI c1
 ap:∀ g,Z7 vT'=some g→(w.heap.size≤g∨XB tb vT vI g)∧g ≠ tb∧Z7 vI ≠ some g
def Zyo (k:Nat):Prop:=∀ (w:World) (tb:Nat) (vT vI vL:Value) (cT cI cL lo hi:Int),Zln w tb vT vI vL cT cI cL→Z7r k (dec cT) (dec cI) (dec cL) lo hi →
 Calls Tryz.prog 37 #[.pointer (some ⟨tb,0,none⟩),vL,Z8i 1 vI lo.toNat hi.toNat] w fun x w'=>x=.returned (.int .i64 ((dec cT).length:Int))∧∃ vT',Zrl w w' tb vT vI vT' ((Z11 [cT,cI,cL,lo,hi]).getD 0 0) ((Z11 [cT,cI,cL,lo,hi]).getD 1 0)
theorem Z195 {k:Nat} (h:(Z2v k).okA Tryz.prog):Gok Tryz.prog (Z4m k):=by
 intro s hs
 simp only [Z4m,List.mem_cons,List.mem_nil_iff,or_false] at hs
 rcases hs with rfl | rfl | rfl
 ·exact Zn5.A rfl
 ·exact h
 ·exact ok_sst
theorem Z1jy:Gok Tryz.prog [Z2x]:=by
 intro s hs
 simp only [List.mem_cons,List.mem_nil_iff,or_false] at hs
 subst hs
 exact Zn5.A rfl
theorem Zlo {α:Type} {a b:α} {n:Nat} {x:α} (h:[a,b][n]?=some x):(n=0∧x=a)∨(n=1∧x=b):=by
 match n,h with
 | 0,h=>exact .inl ⟨rfl,by simpa using h.symm⟩
 | 1,h=>exact .inr ⟨rfl,by simpa using h.symm⟩
 | n + 2,h=>simp at h
theorem Z4o {α:Type} {a:α} {n:Nat} {x:α} (h:[a][n]?=some x):n=0∧x=a:=by
 match n,h with
 | 0,h=>exact ⟨rfl,by simpa using h.symm⟩
 | n + 1,h=>simp at h
theorem Z196 {w:World} {tb:Nat} {vT vI vL:Value} {cT cI cL:Int} (lo hi:Int) (h:Zln w tb vT vI vL cT cI cL):Rep ⟨[cT,cI,cL,lo,hi],[tb],[vT,vI],[],[vL]⟩ ⟨w,XB tb vT vI⟩ Zyk w:=by
 have v0:(G.o 0).val ⟨[cT,cI,cL,lo,hi],[tb],[vT,vI],[],[vL]⟩=vT:=Z3s h.sT
 have v1:(G.o 1).val ⟨[cT,cI,cL,lo,hi],[tb],[vT,vI],[],[vL]⟩=vI:=Z3s h.sI
 have v2:(G.a 0).val ⟨[cT,cI,cL,lo,hi],[tb],[vT,vI],[],[vL]⟩=vL:=Z3s h.sL
 refine ⟨Zv.refl _,rfl,rfl,rfl,rfl,?_,?_,?_,?_,?_,?_,?_,h.gl,?_⟩
 ·intro n b hb hl
  obtain ⟨rfl,rfl⟩:=Z4o hb
  simp only [Z1kk,Z1kl,SC.den,v0]
  exact h.cell
 ·intro n b hb hl _
  obtain ⟨rfl,rfl⟩:=Z4o hb
  exact .inr (.inl rfl)
 ·intro n m b c hb hc _ _ _
  exact (Z4o hb).1.trans (Z4o hc).1.symm
 ·intro n b hb hl
  rcases Zlo hb with ⟨rfl,rfl⟩ | ⟨rfl,rfl⟩
  ·rw [v0]; exact h.rT
  ·rw [v1]; exact h.rI
 ·intro n b hb hl _ k hk
  rcases Zlo hb with ⟨rfl,rfl⟩ | ⟨rfl,rfl⟩
  ·rw [v0] at hk; exact .inr (.inr (.inl hk))
  ·rw [v1] at hk; exact .inr (.inr (.inr hk))
 ·intro n m b c k hb hc _ _ h1 h2
  rcases Zlo hb with ⟨rfl,rfl⟩ | ⟨rfl,rfl⟩ <;> rcases Zlo hc with ⟨rfl,rfl⟩ | ⟨rfl,rfl⟩
  ·rfl
  ·rw [v0] at h1; rw [v1] at h2; exact absurd h2 (h.tTI k h1)
  ·rw [v1] at h1; rw [v0] at h2; exact absurd h1 (h.tTI k h2)
  ·rfl
 ·intro n m b c hb hc _ _
  obtain ⟨rfl,_⟩:=Z4o hb
  rcases Zlo hc with ⟨rfl,rfl⟩ | ⟨rfl,rfl⟩
  ·rw [v0]; exact h.tT
  ·rw [v1]; exact h.tI
 ·intro i ks c hi
  obtain ⟨rfl,he⟩:=Z4o hi
  cases he
  rw [v2]
  exact h.rL
theorem Z197 {w:World} {tb:Nat} {vT vI vL:Value} {cT cI cL:Int} (lo hi:Int) (h:Zln w tb vT vI vL cT cI cL):Zo4.map (SV.den ⟨[cT,cI,cL,lo,hi],[tb],[vT,vI],[],[vL]⟩)=[.pointer (some ⟨tb,0,none⟩),vL,Z8i 1 vI lo.toNat hi.toNat]:=by
 have v1:(G.o 1).val ⟨[cT,cI,cL,lo,hi],[tb],[vT,vI],[],[vL]⟩=vI:=Z3s h.sI
 have v2:(G.a 0).val ⟨[cT,cI,cL,lo,hi],[tb],[vT,vI],[],[vL]⟩=vL:=Z3s h.sL
 simp only [Zo4,Go.Sx.one,Z1kk,Z1kl,SV.den,SW.den,SC.den,v1,v2]
 rfl
theorem Z1ek {cT cI cL lo hi:Int} (h0:0≤lo) (h1:lo≤1000) (h2:0≤hi) (h3:hi≤1000):Z17 Zjn [cT,cI,cL,lo,hi] :=
 Z1 trivial (Z1 trivial (Z1 trivial (Z1 (Z5.2 ⟨h0,h1⟩) (Z1 (Z5.2 ⟨h2,h3⟩) Z4))))
theorem Z11s {k:Nat}:Zj (Z4m k) [Zeb,Zyl,i_sst] :=
 Z2 Ziy (Z2 ⟨fun xs h=>(Z1a xs h).elim,fun vs xs h hp=>Z1 trivial (Z1 trivial (Z1 trivial Z4))⟩ (Z2 ⟨fun xs h=>(Z1a xs h).elim,fun vs xs h hp=>Z1 trivial Z4⟩ Z8))
theorem Z198 {k:Nat} (hG:(Z2v k).okA Tryz.prog) {w:World} {tb:Nat} {vT vI vL:Value} {cT cI cL lo hi:Int} (h:Zln w tb vT vI vL cT cI cL) (hp:Z7r (k + 1) (dec cT) (dec cI) (dec cL) lo hi) (two:lo + 2≤hi) :
  Calls Tryz.prog 37 #[.pointer (some ⟨tb,0,none⟩),vL,Z8i 1 vI lo.toNat hi.toNat] w fun x w'=>x=.returned (.int .i64 ((dec cT).length:Int))∧∃ vT',Zrl w w' tb vT vI vT' ((Z11 [cT,cI,cL,lo,hi]).getD 0 0) ((Z11 [cT,cI,cL,lo,hi]).getD 1 0):=by
 have hsat:=Z193 hp two
 have htree:=Z11r k
 obtain ⟨T0,hT⟩:∃ T0,Z18w k=T0:=⟨_,rfl⟩
 rw [hT] at htree
 have hs:T0.sat (Z4m k) [] (fun ys=>ys=Z11 [cT,cI,cL,lo,hi]) [] [cT,cI,cL,lo,hi]:=by
  rw [← htree] at hsat
  exact Z3z Z11s _ [] Zjn [] _ Z40 (Z1ek hp.lo0 (by have:=hp.hi1; have:=hp.lenI; omega) (by have:=hp.lo0; omega) (by have:=hp.hi1; have:=hp.lenI; omega)) (Z6o _ _ _ hsat)
 have hc:=Z18h (Γ:=Z4m k) (Ψ:=fun ys=>ys=Z11 [cT,cI,cL,lo,hi]) (R:=fun x w'=>x=.returned (.int .i64 ((dec cT).length:Int))∧∃ vT',Zrl w w' tb vT vI vT' ((Z11 [cT,cI,cL,lo,hi]).getD 0 0) ((Z11 [cT,cI,cL,lo,hi]).getD 1 0))
  facts.mixed (Z195 hG) (g:=2) (sum:=Zo3) rfl sst_M (Z196 lo hi h) rfl hT hs ?_
 ·rw [Z197 lo hi h] at hc
  exact hc
 ·intro F out s' e' a' w' more hrel hle hsat
  obtain ⟨hne,hK⟩:(∀ id,out ≠ .exit id)∧(match s'.mem[0]?,s'.rows[1]?,Zh0 Tryz.prog F s' with
   | some b,some r1,some (.w (.o (.i .i64 E)))=>if (b.live && r1.live) && ((decide (b.ty=59) && decide (r1.ty=3)) && Z2g r1.ks [.i .i64]) then (match b.cells with
    | [.go (.o j)]=>match s'.rows[j]? with
     | some r=>if (r.live && decide (j ≠ 1)) && ((decide (r.ty=109) && decide (s'.flr≤j)) && Z2g r.ks Z4u) then .ret [r.c,r1.c,E] else .fail
     | none=>.fail
    | _=>.fail) else .fail
   | _,_,_=>.fail:T).sat (Z4m k) e'.R (fun ys=>ys=Z11 [cT,cI,cL,lo,hi]) more e'.r:=by
   cases out with
   | norm=>exact ⟨fun _ hh=>(by cases hh),hsat⟩
   | exit id=>exact hsat.elim
   | ret=>exact ⟨fun _ hh=>(by cases hh),hsat⟩
  refine ⟨hne,?_⟩
  clear hsat
  split at hK
  ·rename_i b r1 E hb hr1 hres
   split at hK
   ·rename_i hc
    simp only [Z1kr,Z1ks] at hc
    obtain ⟨⟨lb,l1⟩,⟨tb',t1⟩,k1⟩:=hc
    split at hK
    ·rename_i j hcells
     split at hK
     ·rename_i r hr
      split at hK
      ·rename_i hc
       simp only [Z1kr,Z1ks] at hc
       obtain ⟨⟨lr,hj1⟩,⟨tr,hfl⟩,kr⟩:=hc
       have hrep:=hrel.rep
       obtain ⟨x0,x1,x2,x3,h1,h2,h3,h4,h5⟩:=hle
       have hys:[r.c.den e'.R e'.r,r1.c.den e'.R e'.r,E.den e'.R e'.r]=Z11 [cT,cI,cL,lo,hi]:=hK
       have hβ:e'.β.getD 0 0=tb:=by rw [h2]; rfl
       have hσ:(G.o 1).val e'=vI:=by
        simp only [G.val]
        rw [h3]
        exact Z3s h.sI
       have hblk:=hrep.blk 0 b hb lb
       have hrw:=hrep.row j r hr lr
       have hrw1:=hrep.row 1 r1 hr1 l1
       rw [tr,Z1d kr] at hrw
       rw [t1,Z1d k1,hσ] at hrw1
       refine ⟨_,Zc0 hrel hres,?_,(G.o j).val e',hrep.below,?_,G.val_slice _ _,?_,?_,?_⟩
       ·show Ending.returned (.int .i64 (E.den e'.R e'.r))=_
        have:E.den e'.R e'.r=(Z11 [cT,cI,cL,lo,hi]).getD 2 0:=by rw [← hys]; rfl
        rw [this]
        rfl
       ·rw [← hβ,hblk,hcells,tb']
        rfl
       ·rw [← hys]; exact hrw
       ·rw [← hys]; exact hrw1
       ·intro g hg
        refine ⟨hrep.rown j r hr lr hfl g hg,fun he=>hrep.brs 0 j b r hb hr lb lr (by rw [hg,he,hβ]),fun hh=>hj1 (hrep.rsep j 1 r r1 g hr hr1 lr l1 hg (by rw [hσ]; exact hh))⟩
      ·exact hK.elim
     ·exact hK.elim
    ·exact hK.elim
   ·exact hK.elim
  ·exact hK.elim
end Go.Proofs.YtgcoidbaoigkeaaGreatDoor.fix
namespace Go.Proofs.YtgcoidbaoigkeaaGreatDoor.fix
open Go.RowKit Go.Sx
theorem Zrm {w:World} {vI:Value} {cI:Int} (h:Zt w 3 [.i .i64] vI cI) (h1:1≤(dec cI).length):∃ (g cap:Nat) (cur:Array Value),vI=.slice (some ⟨g,0,none⟩) (dec cI).length cap∧w.heap[g]?=some (.cells cur 3 (0,0))∧(dec cI).length≤cap∧cap≤maxLen∧cur.size=cap ∧
  cur.toList.take (dec cI).length=(dec cI).map (Value.int .i64):=by
 rcases h with ⟨hn,_⟩ | ⟨hk0,hel,hown⟩
 ·rw [hn] at h1; simp at h1
 rcases hown.2 with ⟨_,hn⟩ | ⟨g,cap,cur,hval,_,hheap,hle1,hmx,hcs,htake⟩
 ·omega
 rw [Z43] at htake
 simp only [List.length_cons,List.length_nil,Nat.zero_add,Nat.mul_one] at htake hcs
 exact ⟨g,cap,cur,hval,hheap,hle1,hmx,hcs,htake⟩
theorem Z1el {w:World} {vI:Value} {cI lo hi:Int} (h:Zt w 3 [.i .i64] vI cI) (h0:0≤lo) (h1:lo < hi) (h2:hi≤((dec cI).length:Int)) :
  Z53 w [.i .i64] (Z8i 1 vI lo.toNat hi.toNat) (cod (Z8h (dec cI) lo hi))∧(∃ a l c,Z8i 1 vI lo.toNat hi.toNat=.slice a l c)∧∀ k,Zdi (Z8i 1 vI lo.toNat hi.toNat)=some k→Z7 vI=some k:=by
 obtain ⟨g,cap,cur,rfl,hheap,hle,hmx,hcs,htake⟩:=Zrm h (by omega)
 have hlen:=Z7q h0 (by omega:lo≤hi) h2
 have hsub:Z8i 1 (.slice (some ⟨g,0,none⟩) (dec cI).length cap) lo.toNat hi.toNat=.slice (some ⟨g,lo.toNat,none⟩) (hi.toNat - lo.toNat) (cap - lo.toNat):=by
  have h1:¬ cap=lo.toNat:=by omega
  simp only [Z8i,if_neg h1,Option.map_some,Addr.add_lit,Nat.mul_one,Nat.zero_add]
 rw [hsub]
 refine ⟨.inr ⟨g,lo.toNat,cap - lo.toNat,?_,?_,by omega,?_,?_⟩,⟨_,_,_,rfl⟩,?_⟩
 ·rw [Z3,hlen]
  congr 1
  omega
 ·rw [Z3,hlen]; omega
 ·intro x _; simp [elt]
 ·intro j u hj
  rw [Z3,Z43,List.getElem?_map] at hj
  simp only [Option.map_eq_some_iff] at hj
  obtain ⟨y,hy,rfl⟩:=hj
  have hjl:=(List.getElem?_eq_some_iff.1 hy).1
  have hH:=holds_of_blockI hheap htake
  have hc:=(hH (lo.toNat + j) (by simp; omega)).1
  rw [Nat.zero_add] at hc
  rw [hc]
  simp only [Z8h,List.getElem?_drop] at hy
  rw [List.getElem?_take_of_lt (by omega)] at hy
  congr 2
  simp only [List.getElem!_toArray]
  rw [List.getElem!_eq_getElem?_getD,hy]
  rfl
 ·intro k hk
  simp only [Zdi,Option.some.injEq] at hk
  subst hk
  have:cap ≠ 0:=by omega
  simp [Z7,this]
theorem Z1jz {w:World} {tb:Nat} {vT vL vS:Value} {cT cS cL:Int} {X:Nat→Prop} (hXt:X tb) (hXT:∀ k,Z7 vT=some k→X k) (cell:w.heap[tb]?=some (.cells #[vT] 59 (0,0))) (sT:∃ a l c,vT=.slice a l c) (rT:Zt w 109 Z4u vT cT) (sL:∃ a l c,vL=.slice a l c) (rL:SlX ⟨w,X⟩ Z3d vL cL)
  (sS:∃ a l c,vS=.slice a l c) (rS:SlX ⟨w,X⟩ [.i .i64] vS cS) (gl:GlX gl0 ⟨w,X⟩) (tT:Z7 vT ≠ some tb):Rep ⟨[cT,cS,cL],[tb],[vT],[],[vL,vS]⟩ ⟨w,X⟩ Z1ge w:=by
 have v0:(G.o 0).val ⟨[cT,cS,cL],[tb],[vT],[],[vL,vS]⟩=vT:=Z3s sT
 have v1:(G.a 0).val ⟨[cT,cS,cL],[tb],[vT],[],[vL,vS]⟩=vL:=Z3s sL
 have v2:(G.a 1).val ⟨[cT,cS,cL],[tb],[vT],[],[vL,vS]⟩=vS:=Z3s sS
 refine ⟨Zv.refl _,rfl,rfl,rfl,rfl,?_,?_,?_,?_,?_,?_,?_,gl,?_⟩
 ·intro n b hb hl
  obtain ⟨rfl,rfl⟩:=Z4o hb
  simp only [Z1kk,Z1kl,SC.den,v0]
  exact cell
 ·intro n b hb hl _
  obtain ⟨rfl,rfl⟩:=Z4o hb
  exact .inr hXt
 ·intro n m b c hb hc _ _ _
  exact (Z4o hb).1.trans (Z4o hc).1.symm
 ·intro n b hb hl
  obtain ⟨rfl,rfl⟩:=Z4o hb
  rw [v0]; exact rT
 ·intro n b hb hl _ k hk
  obtain ⟨rfl,rfl⟩:=Z4o hb
  rw [v0] at hk; exact .inr (hXT k hk)
 ·intro n m b c k hb hc _ _ h1 h2
  exact (Z4o hb).1.trans (Z4o hc).1.symm
 ·intro n m b c hb hc _ _
  obtain ⟨rfl,_⟩:=Z4o hb
  obtain ⟨rfl,_⟩:=Z4o hc
  rw [v0]; exact tT
 ·intro i ks c hi
  rcases Zlo hi with ⟨rfl,he⟩ | ⟨rfl,he⟩
  ·cases he
   rw [v1]
   exact rL
  ·cases he
   rw [v2]
   exact rS
theorem den_one {tb:Nat} {vT vL vS:Value} {cT cS cL:Int} (sL:∃ a l c,vL=.slice a l c) (sS:∃ a l c,vS=.slice a l c):Z18x.map (SV.den ⟨[cT,cS,cL],[tb],[vT],[],[vL,vS]⟩)=[.pointer (some ⟨tb,0,none⟩),vL,vS]:=by
 have v1:(G.a 0).val ⟨[cT,cS,cL],[tb],[vT],[],[vL,vS]⟩=vL:=Z3s sL
 have v2:(G.a 1).val ⟨[cT,cS,cL],[tb],[vT],[],[vL,vS]⟩=vS:=Z3s sS
 simp only [Z18x,Go.Sx.one,Z1kk,Z1kl,SV.den,SW.den,SC.den,v1,v2]
 rfl
theorem Z1em:Zj [Z2x] [Zeb]:=Z2 Ziy Z8
theorem Z1k0 {I:List Int} {lo hi:Int} (h0:0≤lo) (h1:lo≤hi) (h2:hi≤(I.length:Int)):Zuz I lo hi (Z8h I lo hi)=I:=by
 obtain ⟨A,B,hI,hlo,hhi⟩:=Z1jv I h0 h1 h2
 generalize Z8h I lo hi=s at *
 subst hI
 rw [hlo,hhi,Zjo]
theorem Z1en {w:World} {ty:TypeId} {ks:List K} {u:Value} {c:Int} (h:Zt w ty ks u c):Zt w ty ks u (cod (dec c)):=by
 unfold Zt
 rw [Z3]
 exact h
theorem Z199 {k:Nat} {w:World} {tb:Nat} {vT vI vL:Value} {cT cI cL lo hi:Int} (h:Zln w tb vT vI vL cT cI cL) (hp:Z7r k (dec cT) (dec cI) (dec cL) lo hi) (hone:hi=lo + 1) :
  Calls Tryz.prog 37 #[.pointer (some ⟨tb,0,none⟩),vL,Z8i 1 vI lo.toNat hi.toNat] w fun x w'=>x=.returned (.int .i64 ((dec cT).length:Int))∧∃ vT',Zrl w w' tb vT vI vT' ((Z11 [cT,cI,cL,lo,hi]).getD 0 0) ((Z11 [cT,cI,cL,lo,hi]).getD 1 0):=by
 have hn1:=hp.lo0
 have hn2:=hp.hi1
 have hn4:=hp.lenT
 obtain ⟨hsl,hsS,hslb⟩:=Z1el (lo:=lo) (hi:=hi) h.rI hn1 (by omega) hn2
 have hlen:=Z7q hn1 (by omega:lo≤hi) hn2
 have hits:=hp.its
 obtain ⟨s,hs0⟩:∃ s,Z8h (dec cI) lo hi=s:=⟨_,rfl⟩
 have hsem:Z11 [cT,cI,cL,lo,hi]=[cod (dec cT++[cod (Z3m (dec cL) s++[-1,-1,s.getD 0 0])]),cod (dec cI),((dec cT).length:Int)]:=by
  have h1:(hi - lo).toNat=0 + 1:=by omega
  simp only [Z11,Z1kg,Z1kh,h1]
  rw [hs0,Z9g (by rw [← hs0]; omega),Z71 (by rw [← hs0]; omega),← hs0,Z1k0 hn1 (by omega) hn2]
 rw [hsem]
 rw [hs0] at hlen hits hsl
 have hsat:=Z1jx (cT:=cT) (cI:=cod s) (cL:=cL) (by rw [Z3]; omega) (by rw [Z3]; exact hits _ (Z10 (by omega))) hp.bxs (by omega)
 rw [Z3] at hsat
 obtain ⟨T0,hT⟩:∃ T0,T_one=T0:=⟨_,rfl⟩
 have htree:=Z1ej
 rw [hT] at htree
 have hs:T0.sat [Z2x] [] (fun ys=>ys=[cod (dec cT++[cod (Z3m (dec cL) s++[-1,-1,s.getD 0 0])]),((dec cT).length:Int)]) [] [cT,cod s,cL]:=by
  rw [← htree] at hsat
  exact Z3z Z1em _ [] Z18y [] _ Z40 (Z1 trivial (Z1 trivial (Z1 trivial Z4))) (Z6o _ _ _ hsat)
 obtain ⟨X,hX⟩:∃ X:Nat→Prop,X=fun g=>g=tb∨Z7 vT=some g:=⟨_,rfl⟩
 have hXB:∀ g,X g→XB tb vT vI g:=fun g hg=>by
  rw [hX] at hg
  rcases hg with hg | hg
  ·exact .inl hg
  ·exact .inr (.inl hg)
 have hrep:=Z1jz (X:=X) (vS:=Z8i 1 vI lo.toNat hi.toNat) (cS:=cod s) (by rw [hX]; exact .inl rfl) (fun k hk=>by rw [hX]; exact .inr hk) h.cell h.sT h.rT h.sL (Z53.toX (b:=⟨w,X⟩) rfl h.rL.base.1 fun h0 k hk hh=>h.rL.base.2 h0 k hk (hXB k hh)) hsS
  (Z53.toX (b:=⟨w,X⟩) rfl hsl fun _ k hk hh=>by
   have:=hslb k hk
   rw [hX] at hh
   rcases hh with hh | hh
   ·exact h.tI (by rw [this,hh])
   ·exact h.tTI k hh this) ⟨h.gl.1,fun p hp0 h0 hh=>h.gl.2 p hp0 h0 (hXB _ hh)⟩ h.tT
 have hc:=Z18g (Γ:=[Z2x]) (Ψ:=fun ys=>ys=[cod (dec cT++[cod (Z3m (dec cL) s++[-1,-1,s.getD 0 0])]),((dec cT).length:Int)]) (R:=fun x w'=>x=.returned (.int .i64 ((dec cT).length:Int))∧∃ vT',Zrl w w' tb vT vI vT' ([cod (dec cT++[cod (Z3m (dec cL) s++[-1,-1,s.getD 0 0])]),cod (dec cI),((dec cT).length:Int)].getD 0 0) ([cod (dec cT++[cod (Z3m (dec cL) s++[-1,-1,s.getD 0 0])]),cod (dec cI),((dec cT).length:Int)].getD 1 0))
  facts.mixed Z1jy hrep rfl hT hs ?_
 ·rw [den_one h.sL hsS] at hc
  exact hc
 ·intro F out s' e' a' w' more hrel hle hsat
  obtain ⟨hne,hK⟩:(∀ id,out ≠ .exit id)∧(match s'.mem[0]?,Zh0 Tryz.prog F s' with
   | some b,some (.w (.o (.i .i64 E)))=>if b.live && decide (b.ty=59) then (match b.cells with
    | [.go (.o j)]=>match s'.rows[j]? with
     | some r=>if r.live && ((decide (r.ty=109) && decide (s'.flr≤j)) && Z2g r.ks Z4u) then .ret [r.c,E] else .fail
     | none=>.fail
    | _=>.fail) else .fail
   | _,_=>.fail:T).sat [Z2x] e'.R (fun ys=>ys=[cod (dec cT++[cod (Z3m (dec cL) s++[-1,-1,s.getD 0 0])]),((dec cT).length:Int)]) more e'.r:=by
   cases out with
   | norm=>exact ⟨fun _ hh=>(by cases hh),hsat⟩
   | exit id=>exact hsat.elim
   | ret=>exact ⟨fun _ hh=>(by cases hh),hsat⟩
  refine ⟨hne,?_⟩
  clear hsat
  split at hK
  ·rename_i b E hb hres
   split at hK
   ·rename_i hc
    simp only [Z1kr,Z1ks] at hc
    obtain ⟨lb,tb'⟩:=hc
    split at hK
    ·rename_i j hcells
     split at hK
     ·rename_i r hr
      split at hK
      ·rename_i hc
       simp only [Z1kr,Z1ks] at hc
       obtain ⟨lr,⟨tr,hfl⟩,kr⟩:=hc
       have hrep':=hrel.rep
       obtain ⟨x0,x1,x2,x3,h1,h2,h3,h4,h5⟩:=hle
       have hys:[r.c.den e'.R e'.r,E.den e'.R e'.r]=[cod (dec cT++[cod (Z3m (dec cL) s++[-1,-1,s.getD 0 0])]),((dec cT).length:Int)]:=hK
       have hβ:e'.β.getD 0 0=tb:=by rw [h2]; rfl
       have hblk:=hrep'.blk 0 b hb lb
       have hrw:=hrep'.row j r hr lr
       rw [tr,Z1d kr] at hrw
       simp only [List.cons.injEq,and_true] at hys
       have hbel:=hrep'.below
       have hI:∀ g,Z7 vI=some g→¬ Bas.may ⟨w,X⟩ g:=fun g hg hh=>by
        rcases hh with hh | hh
        ·exact absurd (h.rI.blk_lt hg) (Nat.not_lt.2 hh)
        ·rw [hX] at hh
         rcases hh with hh | hh
         ·exact h.tI (by rw [hg,hh])
         ·exact h.tTI g hh hg
       refine ⟨_,Zc0 hrel hres,?_,(G.o j).val e',⟨Zv.trans (b:=⟨w,XB tb vT vI⟩) (c:=⟨w,X⟩) (Zv.refl _) hbel (fun i hi=>Or.imp id (hXB i) hi),?_,G.val_slice _ _,?_,?_,?_⟩⟩
       ·show Ending.returned (.int .i64 (E.den e'.R e'.r))=_
        rw [hys.2]
       ·rw [← hβ,hblk,hcells,tb']
        rfl
       ·rw [hys.1] at hrw; exact hrw
       ·exact Zlm (Z1en h.rI) fun g hg=>hbel.block g (hI g hg)
       ·intro g hg
        have hm:=hrep'.rown j r hr lr hfl g hg
        exact ⟨hm.imp id (hXB g),fun he=>hrep'.brs 0 j b r hb hr lb lr (by rw [hg,he,hβ]),fun hh=>hI g hh hm⟩
      ·exact hK.elim
     ·exact hK.elim
    ·exact hK.elim
   ·exact hK.elim
  ·exact hK.elim
theorem Zv1:Zyo 0:=fun w tb vT vI vL cT cI cL lo hi h hp=>absurd hp.fuel (by have:=hp.one; omega)
theorem Zv2 {k:Nat} (hG:(Z2v k).okA Tryz.prog):Zyo (k + 1):=fun w tb vT vI vL cT cI cL lo hi h hp=>by
 by_cases h1:hi=lo + 1
 ·exact Z199 h hp h1
 ·exact Z198 hG h hp (by have:=hp.one; omega)
end Go.Proofs.YtgcoidbaoigkeaaGreatDoor.fix
namespace Go.Proofs.YtgcoidbaoigkeaaGreatDoor.fix
open Go.RowKit Go.Sx
theorem Z1k1 {W0:Bas} {ks:List K} {v:Value} {c:Int} (h:SlX W0 ks v c) (h0:Zi ks (dec c) ≠ []) {k:Nat} (hk:Zdi v=some k):¬ W0.may k:=by
 rintro (hh | hh)
 ·rcases h.base.1 with ⟨_,hn⟩ | ⟨b,off,cap,hv,h1,h2,h3,h4⟩
  ·exact h0 (by rw [hn]; rfl)
  ·rw [hv] at hk
   simp only [Zdi,Option.some.injEq] at hk
   subst hk
   obtain ⟨u,us,hu⟩:=List.exists_cons_of_ne_nil h0
   have:=h4 0 u (by rw [hu]; rfl)
   exact absurd (World.block_lt_of_cell? _ _ this) (Nat.not_lt.2 hh)
 ·exact h.base.2 h0 k hk hh
theorem Z1k2 {W0:Bas} {gl:List (Nat × List Int)} (h:GlX gl W0) {p:Nat × List Int} (hp:p ∈ gl) (h0:p.2 ≠ []):¬ W0.may p.1:=by
 rintro (hh | hh)
 ·obtain ⟨u,us,hu⟩:=List.exists_cons_of_ne_nil h0
  have:=h.1 p hp 0 u (by rw [hu]; rfl)
  exact absurd (World.block_lt_of_cell? _ _ this) (Nat.not_lt.2 hh)
 ·exact h.2 p hp h0 hh
theorem glIn_X {W0:Bas} {s:St} (hgl:Z1a1 gl0 s.gl=true) (h:GlX s.gl W0):GlX gl0 W0:=by
 refine ⟨Zdq hgl h.1,fun p hp' h0=>?_⟩
 have:=List.all_eq_true.1 hgl p hp'
 obtain ⟨q,hq,hs⟩:=List.any_eq_true.1 this
 simp only [Zz8,Z1kr,beq_iff_eq] at hs
 have:=h.2 q hq (by rw [← hs.2]; exact h0)
 rwa [← hs.1] at this
theorem Z11t {e:Env} {W0:Bas} {s:St} {w:World} (h:Rep e W0 s w) {m:Nat} {r:Row} (hr:s.rows[m]?=some r) (hlr:r.live=true) {cells:List SC} {cT:E} {rows':List Row} (hb:Z1jt s m cells=some (cT,rows')) :
    ∃ vT,cells.map (SC.den e)=[vT]∧(∃ a l c,vT=.slice a l c)∧Zt w 109 Z4u vT (cT.den e.R e.r)∧rows'.length=s.rows.length∧rows'[m]?=some r ∧
      (∀ (j:Nat) (b':Row),rows'[j]?=some b'→b'.live=true→s.rows[j]?=some b'∧∀ g,Z7 vT=some g→Z7 ((G.o j).val e) ≠ some g)∧(∀ g,Z7 vT=some g→W0.may g) ∧
      (∀ (n':Nat) (b':Blk),s.mem[n']?=some b'→b'.live=true→Z7 vT ≠ some (e.β.getD n' 0))∧∀ g,Z7 vT=some g→Z7 ((G.o m).val e) ≠ some g:=by
  unfold Z1jt at hb
  split at hb
  · rename_i k
    split at hb
    · rename_i rk hk
      split at hb
      · rename_i hc
        simp only [Z1kr,Z1ks] at hc
        obtain ⟨⟨lk,hne⟩,⟨hfl,tk⟩,kk⟩:=hc
        simp only [Option.some.injEq,Prod.mk.injEq] at hb
        obtain ⟨rfl,rfl⟩:=hb
        have hrow:=h.row k rk hk lk
        rw [tk,Z1d kk] at hrow
        refine ⟨(G.o k).val e,rfl,G.val_slice _ _,hrow,by simp,by rw [List.getElem?_set,if_neg hne]; exact hr,?_,fun g hg=>h.rown k rk hk lk hfl g hg,fun n' b' h1 h2=>h.brs n' k b' rk h1 hk h2 lk,fun g h1 h2=>hne (h.rsep k m rk r g hk hr lk hlr h1 h2)⟩
        intro j b' hj hl
        rcases Zn hj with ⟨rfl,rfl,_⟩ | ⟨hjne,hj'⟩
        · cases hl
        · exact ⟨hj',fun g h1 h2=>hjne (h.rsep j k b' rk g hj' hk hl lk h2 h1)⟩
      · cases hb
    · cases hb
  · simp only [Option.some.injEq,Prod.mk.injEq] at hb
    obtain ⟨rfl,rfl⟩:=hb
    refine ⟨.slice none 0 0,rfl,⟨_,_,_,rfl⟩,.inl ⟨?_,_,rfl⟩,rfl,hr,fun j b' h1 _=>⟨h1,fun g hg=>by cases hg⟩,fun g hg=>by (cases hg),fun _ _ _ _ hh=>by (cases hh),fun g hg=>by cases hg⟩
    show dec (cod [])=[]
    rw [Z3]
  · cases hb
theorem Z11u {e:Env} {s:St} {v:SC} {m:Nat} {lo hi:E} (hv:Z1js s v=some (m,lo,hi)) {r:Row} (hr:s.rows[m]?=some r) {w:World} (hrow:Zt w 3 [.i .i64] ((G.o m).val e) (r.c.den e.R e.r)) (h1:1≤(dec (r.c.den e.R e.r)).length) :
  v.den e=Z8i 1 ((G.o m).val e) (lo.den e.R e.r).toNat (hi.den e.R e.r).toNat:=by
 unfold Z1js at hv
 split at hv
 ·simp only [Option.some.injEq,Prod.mk.injEq] at hv
  obtain ⟨rfl,rfl,rfl⟩:=hv
  rfl
 ·rename_i m'
  split at hv
  ·rename_i r' hr'
   simp only [Option.some.injEq,Prod.mk.injEq] at hv
   obtain ⟨rfl,rfl,rfl⟩:=hv
   rw [hr] at hr'
   cases hr'
   obtain ⟨g,cap,cur,hval,_,hle,_,_,_⟩:=Zrm hrow h1
   show (G.o m').val e=_
   rw [Z4q,hval]
   have h2:¬ cap=0:=by omega
   simp only [E.den,Z8i,Int.toNat_zero,if_neg h2,Option.map_some,Addr.add_lit,Nat.zero_mul,Nat.zero_add,Nat.sub_zero,Int.toNat_natCast]
  ·cases hv
 ·cases hv
theorem Zrn {k:Nat} (hC:Zyo k):(Z2v k).okA Tryz.prog:=by
 show (Z2v k).okM Tryz.prog Z18v
 intro W0 e s w args bb es kk hrep hsc hargs hgl hf has hpre
 unfold Z18v at hf
 split at hf
 ·rename_i n i v
  split at hf
  ·rename_i b ks cl m lo hi hb hhs hview
   split at hf
   ·rename_i r cT rows' hr hhead
    split at hf
    ·rename_i hc
     simp only [Z1kr,Z1ks] at hc
     obtain ⟨⟨⟨lb,lr⟩,tb,tr⟩,⟨⟨hfl,hflr⟩,kr,kks⟩,hglin⟩:=hc
     simp only [Option.some.injEq,Prod.mk.injEq] at hf
     obtain ⟨rfl,rfl,rfl⟩:=hf
     have hp:Z7r k (dec (cT.den e.R e.r)) (dec (r.c.den e.R e.r)) (dec (cl.den e.R e.r)) (lo.den e.R e.r) (hi.den e.R e.r):=hpre
     have hsem:(Z2v k).sem ([cT,r.c,cl,lo,hi].map (E.den e.R e.r))=Z11 [cT.den e.R e.r,r.c.den e.R e.r,cl.den e.R e.r,lo.den e.R e.r,hi.den e.R e.r]:=rfl
     obtain ⟨S0,S1,hS⟩:∃ S0 S1,Z11 [cT.den e.R e.r,r.c.den e.R e.r,cl.den e.R e.r,lo.den e.R e.r,hi.den e.R e.r]=[S0,S1,((dec (cT.den e.R e.r)).length:Int)]:=⟨_,_,rfl⟩
     rw [hS] at hsem
     rw [hsem]
     have hrow:=hrep.row m r hr lr
     rw [tr,Z1d kr] at hrow
     have hv:=Z11u hview hr hrow (by have:=hp.lo0; have:=hp.one; have:=hp.hi1; omega)
     obtain ⟨vT,hcells,hsT,hrT,hrl,hrm,hold,hmay,hTm,hTI⟩:=Z11t hrep hr lr hhead
     have hblk:=hrep.blk n b hb lb
     rw [hcells,tb] at hblk
     have harg:=hrep.arg i ks cl hhs
     rw [Z1d kks] at harg
     have hglx:=glIn_X hglin hrep.gl
     have hXm:∀ g,XB (e.β.getD n 0) vT ((G.o m).val e) g→W0.may g:=fun g hg=>by
      rcases hg with hg | hg | hg
      ·rw [hg]; exact hrep.own n b hb lb hfl
      ·exact hmay g hg
      ·exact hrep.rown m r hr lr hflr g hg
     have hW:Zln w (e.β.getD n 0) vT ((G.o m).val e) ((G.a i).val e) (cT.den e.R e.r) (r.c.den e.R e.r) (cl.den e.R e.r) :=
      ⟨hblk,hsT,hrT,G.val_slice _ _,hrow,G.val_slice _ _,Z53.toX (b:=⟨w,XB (e.β.getD n 0) vT (G.val e (G.o m))⟩) rfl (harg.now hrep.below) fun h0 k hk hh=>Z1k1 harg h0 hk (hXm k hh),⟨hglx.now hrep.below,fun p hp0 h0 hh=>Z1k2 hglx hp0 h0 (hXm _ hh)⟩,
       hTm n b hb lb,hrep.brs n m b r hb hr lb lr,hTI⟩
     have hcall:=hC w _ vT _ _ _ _ _ _ _ hW hp
     rw [hS] at hcall
     have hden:([SV.w (.o (.p n 0)),.w (.o (.go (.a i))),.w (.o v)].map (SV.den e)).toArray=#[.pointer (some ⟨e.β.getD n 0,0,none⟩),(G.a i).val e,Z8i 1 ((G.o m).val e) (lo.den e.R e.r).toNat (hi.den e.R e.r).toNat]:=by
      show #[(SC.p n 0).den e,(G.a i).val e,v.den e]=_
      rw [hv]
      rfl
     rw [hden]
     refine hcall.mono ?_
     rintro x w' ⟨rfl,vT',hR⟩
     refine ⟨_,?_,?_,rfl,Z194 (x2:=((dec (cT.den e.R e.r)).length:Int)) hrep hsc hb lb hfl hr lr hflr hrl hrm hold hmay hTm hR.bel (by rw [tb]; exact hR.cell) hR.sT hR.rT (by rw [tr,Z1d kr]; exact hR.rI) hR.ap,rfl,rfl,rfl,rfl⟩
     ·show _=Ending.returned (Value.int .i64 ((E.v (s.nv + 2)).den e.R (e.r++_)))
      congr 2
      simp only [E.den]
      rw [← hrep.nv]
      simp only [List.getD]
      rw [List.getElem?_append_right (by omega),Nat.add_sub_cancel_left]
      rfl
     ·exact ⟨[S0,S1,((dec (cT.den e.R e.r)).length:Int)],[],[vT'],[],by simp⟩
    ·cases hf
   ·cases hf
  ·cases hf
 ·cases hf
theorem Zlp:∀ k,Zyo k
 | 0=>Zv1
 | k + 1=>Zv2 (Zrn (Zlp k))
theorem Z19a (k:Nat):(Z2v k).okA Tryz.prog:=Zrn (Zlp k)
end Go.Proofs.YtgcoidbaoigkeaaGreatDoor.fix
namespace Go.Proofs.YtgcoidbaoigkeaaGreatDoor.fix
open Go.RowKit Go.Sx
def Zs0 (n:Nat):List Int:=(List.range n).map fun (i:Nat)=>(i:Int)
noncomputable def Zbl (l:List Int):List Int:=Z1b l l.length (Zs0 l.length) 0
noncomputable def Zlq (x:List Int):List Int:=[if Z21 (dec (x.getD 0 0))=0 then cod (Zbl (dec (x.getD 0 0))) else cod [],Z21 (dec (x.getD 0 0))]
def Zeu:List (Option Iv):=[none]
def Z11v (x:List Int):Prop:=Z17 Zeu x∧∀ b ∈ dec (x.getD 0 0),Z9 Z3d (dec b)
def Z11w (v:List (Option Iv)):List (Option Iv):=[none,iv 0 8]
noncomputable def Zda:Sum:=Z2v 400
def Zro:Inf:=⟨[some ⟨1,0⟩],fun _=>[none,none,none]⟩
noncomputable def Z49:Sum:=mkP gl0 16 [Bs] [Tr,I1] Z11v Zlq
def Zyp:Inf:=⟨[some ⟨1,0⟩],Z11w⟩
end Go.Proofs.YtgcoidbaoigkeaaGreatDoor.fix
namespace Go.Proofs.YtgcoidbaoigkeaaGreatDoor.fix
open Go.RowKit Go.Sx
theorem Z3n (n:Nat):(Zs0 n).length=n:=by simp [Zs0]
theorem Z1k3 {n j:Nat} (h:j < n):(Zs0 n).getD j 0=(j:Int):=by
 simp [Zs0,List.getD,h]
theorem Z19b {n:Nat} {x:Int}:x ∈ Zs0 n↔0≤x∧x < (n:Int):=by
 simp only [Zs0,List.mem_map,List.mem_range]
 constructor
 ·rintro ⟨a,h,rfl⟩; omega
 ·rintro ⟨h1,h2⟩; exact ⟨x.toNat,by omega,by omega⟩
theorem Z1eo {n:Nat} {l:List Int} (h:l.length=n) (hg:∀ j,j < n→l.getD j 0=(j:Int)):l=Zs0 n:=by
 apply List.ext_getElem?
 intro j
 by_cases hj:j < n
 ·have h1:=hg j hj
  have h2:=Z1k3 hj
  rw [← h2] at h1
  simp only [List.getD,List.getElem?_eq_getElem (by omega:j < l.length),List.getElem?_eq_getElem (by rw [Z3n]; exact hj:j < (Zs0 n).length),Option.getD_some] at h1
  rw [List.getElem?_eq_getElem (by omega),List.getElem?_eq_getElem (by rw [Z3n]; exact hj),h1]
 ·rw [List.getElem?_eq_none (by omega),List.getElem?_eq_none (by rw [Z3n]; omega)]
theorem Zyq {l:List Int} (h:l.length=0):Zbl l=[]:=by
 obtain rfl:l=[]:=List.eq_nil_of_length_eq_zero h
 rfl
theorem Z1k4 (l:List Int):Z8h l 0 (l.length:Int)=l:=by simp [Z8h]
theorem Zv3:Z1g Zda Zro:=⟨fun xs h=>(Z1a xs h).elim,fun vs xs h hp=>Zp (n:=3) rfl⟩
theorem Z11x:Zda.okA Tryz.prog:=Z19a 400
noncomputable def Zgp:List Sum:=[Za6,Zda]
def Zyr:List Inf:=[Zmp,Zro]
def Zys:TX:=(.call 0 [(.v 0)] (.ite (.not (.eq (.v 1) (.c 0))) (.ret [.nl,(.v 1)])
(.asrt (.eq (.ln (.v 0)) (.ln (.v 0))) (.asrt (.le (.c 0) (.ln (.v 0))) (.asrt (.le (.ln (.v 0)) (.c 1000000)) (.loop 2 [none,none] [(.l2 .rep (.ln (.v 0)) (.c 0)),(.c 0)] (.ite (.lt (.v 3) (.ln (.l2 .rep (.ln (.v 0)) (.c 0)))) (.asrt (.le (.c 0) (.v 3)) (.asrt (.lt (.v 3) (.ln (.v 2))) (.back 0 [(.l3 (.v 2) (.v 3) (.v 3)),(.wr .i64 (.add (.v 3) (.c 1)))])))
(.ite (.le (.ln (.v 2)) (.c 0)) (.ret [.nl,(.c 0)])
(.call 1 [.nl,(.v 2),(.v 0),(.c 0),(.ln (.v 2))] (.ret [(.v 4),(.c 0)]))))))))))
theorem Zv4:Z12 (Zr [] Zyr [] Zeu (Zq Tryz.prog (Z5u Tryz.prog [(6,19)]) gl0 Zgp 1000 16 [Bs] [Tr,I1]))=Zys:=by kernel_rfl
theorem Z1ep:Gok Tryz.prog Zgp:=(more Zqj (fix.oneA Z11x))
theorem Z1eq:Zj Zgp Zyr:=(Z2 Zl4 (Z2 Zv3 Z8))
theorem Z19c:Z49.ok Tryz.prog:=Sum.okPF (pin:=Zeu) facts.mixed Z1ep Z1eq Zv4 rfl (fun _=>rfl) (fun xs h=>h.1) (by
 intro xs hx hp
 obtain ⟨cL,rfl⟩:∃ a,xs=[a]:=by
  match xs,hx with
  | [a],_=>exact ⟨a,rfl⟩
 simp only [Zys,Zgp,Za6,Zda,Z2v,TX.sat,XB.prop,X.den,Z1kk,Z1kl,Z1ke,Z1kf,Z1ki,Z1kj,Z1kg,Z1kh,mkS,mkP,and_true,true_and,Z1kp,Z1kq,not_or,not_and,Z1km,ne_eq,Z1kn,Z1ko,Za5,Zlq,Z11,L2.den,Z3,Zjm,Zbl]
 have hp':∀ b ∈ dec cL,Z9 Z3d (dec b):=hp.2
 refine ⟨⟨Zp (n:=1) rfl,hp'⟩,?_⟩
 clear hp
 generalize dec cL=L at *
 refine ⟨fun h=>by rw [if_neg h],fun h=>?_⟩
 have hbx:=Zj0 h
 have hbok:=hbx.2
 have hl:=hbx.1
 rw [h,if_pos rfl]
 refine ⟨by omega,by omega,fun ys=>∃ (l:List Int) (i:Nat),ys=[cod l,(i:Int)]∧l.length=L.length∧i≤L.length∧∀ j,j < i→l.getD j 0=(j:Int),fun ys=>L.length - (ys.getD 1 0).toNat,fun xs hx _=>Zp (n:=2) hx,?_,?_⟩
 ·refine ⟨List.replicate L.length 0,0,?_,by simp,Nat.zero_le _,fun j h=>absurd h (by omega)⟩
  simp
 rintro xs hx ⟨l,i,rfl,hll,hi,hg⟩
 simp only [TX.sat,XB.prop,X.den,Z1kk,Z1kl,Z1ke,Z1kf,Z1ki,Z1kj,Z1kg,Z1kh,mkS,mkP,and_true,true_and,Z1kp,Z1kq,not_or,not_and,Z1km,ne_eq,Z1kn,Z1ko,Z3,Int.toNat_natCast]
 refine ⟨fun h1=>?_,fun h1=>?_⟩
 ·have hlt:i < L.length:=by simpa using h1
  have hw:IntKind.i64.wrap ((i:Int) + 1)=((i + 1:Nat):Int):=by rw [Zf (by omega) (by omega)]; omega
  rw [hw]
  refine ⟨by omega,by omega,⟨l.set i (i:Int),i + 1,rfl,by simp [hll],by omega,fun j hj=>?_⟩,by omega⟩
  rw [Z7p]
  by_cases hji:i=j
  ·rw [if_pos ⟨hji,by omega⟩,hji]
  ·rw [if_neg (fun hh=>hji hh.1)]
   exact hg j (by omega)
 ·have hge:i=L.length:=by
   have:L.length≤i:=by simpa using h1
   omega
  have hidx:=Z1eo hll (fun j hj=>hg j (by omega))
  subst hidx
  rw [Z3n]
  refine ⟨fun h2=>?_,fun h2=>?_⟩
  ·rw [show L.length=0 by omega]
   rfl
  ·have hseg:Z8h (Zs0 L.length) 0 (L.length:Int)=Zs0 L.length:=by
    have:=Z1k4 (Zs0 L.length)
    rwa [Z3n] at this
   refine ⟨⟨by omega,by omega,by rw [Z3n]; omega,by omega,by rw [Z3n]; omega,by simp; omega,?_,hbok⟩,?_⟩
   ·rw [hseg]
    intro x hx
    exact Z19b.1 hx
   ·rw [hseg,show ((L.length:Int) - 0).toNat=L.length by omega]
    simp)
theorem Z11y:Z1g Z49 Zyp:=⟨fun xs h=>(Z1a xs h).elim,fun vs xs h hp=>Z1 trivial (Z1 (Zqn _) Z4)⟩
end Go.Proofs.YtgcoidbaoigkeaaGreatDoor.fix
namespace Go.Proofs.YtgcoidbaoigkeaaGreatDoor.fix
open Go.RowKit Go.Sx
def BT.Sh (l:List Int):BT→Nat→Nat→Prop
 | .leaf i,s,e=>s=i∧e=i + 1∧i < l.length∧co (l.getD i 0) 6=-1∧co (l.getD i 0) 7=-1
 | .node i a b,s,e=>s=i∧i < l.length∧∃ m,a.Sh l (i + 1) m∧b.Sh l m e∧co (l.getD i 0) 6=(i:Int) + 1∧co (l.getD i 0) 7=(m:Int)∧co (l.getD i 0) 8=-1
theorem BT.At.sh {l:List Int} {n:Int}:∀ {T:BT} {s e:Nat},T.At l n s e→T.Sh l s e
 | .leaf i,s,e,h=>⟨h.1,h.2.1,h.2.2.1,h.2.2.2.1,h.2.2.2.2.1⟩
 | .node i a b,s,e,⟨h1,h2,m,h3,h4,h5,h6,h7⟩=>⟨h1,h2,m,h3.sh,h4.sh,h5,h6,h7⟩
theorem BT.Sh.le {l:List Int}:∀ {T:BT} {s e:Nat},T.Sh l s e→e=s + T.size∧e≤l.length
 | .leaf i,s,e,h=>by
  obtain ⟨rfl,rfl,h1,_⟩:=h
  exact ⟨rfl,h1⟩
 | .node i a b,s,e,h=>by
  obtain ⟨rfl,h1,m,h2,h3,_⟩:=h
  have e1:=h2.le
  have e2:=h3.le
  exact ⟨by simp only [BT.size]; omega,e2.2⟩
theorem BT.Sh.leaf_in {l:List Int}:∀ {T:BT} {s e:Nat},T.Sh l s e→∀ i ∈ T.leaves,s≤i∧i < e∧co (l.getD i 0) 6=-1∧co (l.getD i 0) 7=-1
 | .leaf i,s,e,h,k,hk=>by
  obtain ⟨rfl,rfl,h1,h2,h3⟩:=h
  simp only [BT.leaves,List.mem_singleton] at hk
  subst hk
  exact ⟨by omega,by omega,h2,h3⟩
 | .node i a b,s,e,h,k,hk=>by
  obtain ⟨rfl,h1,m,h2,h3,_⟩:=h
  have e1:=h2.le
  have e2:=h3.le
  simp only [BT.leaves,List.mem_append] at hk
  rcases hk with hk | hk
  ·have:=h2.leaf_in k hk; omega
  ·have:=h3.leaf_in k hk; omega
theorem Z19d {l:List Int} {n:Int}:∀ {T:BT} {s e:Nat} {se S:List Int},T.Sh l s e→(∀ i ∈ T.leaves,0≤co (l.getD i 0) 8∧co (l.getD i 0) 8 < n)→(T.leaves.map (itm l)).Nodup→(∀ k ∈ T.leaves.map (itm l),se.getD k 0=0)→se.length=n.toNat →
  Z5j l n s=some (se,S++[(s:Int)])→∃ se',Z5j l n e=some (se',S)∧se'.length=n.toNat∧∀ k,se'.getD k 0 ≠ 0→se.getD k 0 ≠ 0∨k ∈ T.leaves.map (itm l)
 | .leaf i,s,e,se,S,h,hr,hn,hz,hl,hrun=>by
  obtain ⟨rfl,rfl,h1,h2,h3⟩:=h
  have hi:=hr s (by simp [BT.leaves])
  have hzi:=hz (itm l s) (by simp [BT.leaves])
  refine ⟨se.set (co (l.getD s 0) 8).toNat 1,?_,by rw [List.length_set]; exact hl,fun k hk=>?_⟩
  ·rw [Z2t,hrun]
   simp only [Option.bind_some,Z5v,Ziv,Z6u]
   rw [if_neg (by simp),if_neg (by omega),if_neg (by
    rintro (h | h | h)
    ·omega
    ·omega
    ·exact h hzi)]
  ·simp only [BT.leaves,Z1kk,Z1kl,List.mem_singleton]
   by_cases hki:k=itm l s
   ·exact .inr hki
   ·refine .inl ?_
    have hk':(se.set (itm l s) 1).getD k 0 ≠ 0:=hk
    rw [getD_ne hki] at hk'
    exact hk'
 | .node i a b,s,e,se,S,h,hr,hn,hz,hl,hrun=>by
  obtain ⟨rfl,h1,m,h2,h3,h4,h5,h6⟩:=h
  have e1:=h2.le
  have p1:0 < a.size:=by have:=a.size_leaves; omega
  simp only [BT.leaves,List.mem_append,List.map_append] at hr hn hz ⊢
  rw [List.nodup_append] at hn
  have hrun1:Z5j l n (s + 1)=some (se,(S++[(m:Int)])++[((s + 1:Nat):Int)]):=by
   rw [Z2t,hrun]
   simp only [Option.bind_some,Z5v,Ziv,Z6u]
   rw [if_neg (by simp),if_pos (by omega),if_neg (by omega),h4,h5]
   rfl
  obtain ⟨se1,k1,k2,k3⟩:=Z19d h2 (fun i hi=>hr i (.inl hi)) hn.1 (fun k hk=>hz k (.inl hk)) hl hrun1
  obtain ⟨se2,j1,j2,j3⟩:=Z19d h3 (fun i hi=>hr i (.inr hi)) hn.2.1 (fun k hk=>by
   by_cases hq:se1.getD k 0=0
   ·exact hq
   ·rcases k3 k hq with hq | hq
    ·exact absurd (hz k (.inr hk)) hq
    ·exact absurd rfl (hn.2.2 k hq k hk)) k2 k1
  refine ⟨se2,j1,j2,fun k hk=>?_⟩
  rcases j3 k hk with hk | hk
  ·rcases k3 k hk with hk | hk
   ·exact .inl hk
   ·exact .inr (.inl hk)
  ·exact .inr (.inr hk)
where
 getD_ne {se:List Int} {k j:Nat} {x:Int} (h:k ≠ j):(se.set j x).getD k 0=se.getD k 0:=by
  simp [List.getD,List.getElem?_set_ne (Ne.symm h)]
end Go.Proofs.YtgcoidbaoigkeaaGreatDoor.fix
namespace Go.Proofs.YtgcoidbaoigkeaaGreatDoor.fix
open Go.RowKit Go.Sx
end Go.Proofs.YtgcoidbaoigkeaaGreatDoor.fix
namespace Go.Proofs.YtgcoidbaoigkeaaGreatDoor.fix
open Go.RowKit Go.Sx
end Go.Proofs.YtgcoidbaoigkeaaGreatDoor.fix
namespace Go.Proofs.YtgcoidbaoigkeaaGreatDoor.fix
open Go.RowKit Go.Sx
end Go.Proofs.YtgcoidbaoigkeaaGreatDoor.fix
namespace Go.Proofs.YtgcoidbaoigkeaaGreatDoor.fix
open Go.RowKit Go.Sx
structure Zrp (L s b:List Int):Prop where
 len:b.length=6
 lo:∀ j,j < 3→(∃ x ∈ s,b.getD j 0=co (L.getD x.toNat 0) j)∧∀ x ∈ s,b.getD j 0≤co (L.getD x.toNat 0) j
 hi:∀ j,3≤j→j < 6→(∃ x ∈ s,b.getD j 0=co (L.getD x.toNat 0) j)∧∀ x ∈ s,co (L.getD x.toNat 0) j≤b.getD j 0
theorem Z19e {b:Int} {j:Nat} (h:j < 6):(Z3j b).getD j 0=co b j:=by
 match j,h with
 | 0,_ | 1,_ | 2,_ | 3,_ | 4,_ | 5,_=>rfl
theorem Z1k5 {a b:List Int} (ha:a.length=6) (hb:b.length=6) {j:Nat} (h:j < 3):(ex6 (Z8a (a++b))).getD j 0=min (a.getD j 0) (b.getD j 0):=by
 obtain ⟨a0,a1,a2,a3,a4,a5,rfl⟩:=Z7s ha
 obtain ⟨b0,b1,b2,b3,b4,b5,rfl⟩:=Z7s hb
 match j,h with
 | 0,_ | 1,_ | 2,_=>rfl
theorem Z1k6 {a b:List Int} (ha:a.length=6) (hb:b.length=6) {j:Nat} (h:3≤j) (h':j < 6):(ex6 (Z8a (a++b))).getD j 0=max (a.getD j 0) (b.getD j 0):=by
 obtain ⟨a0,a1,a2,a3,a4,a5,rfl⟩:=Z7s ha
 obtain ⟨b0,b1,b2,b3,b4,b5,rfl⟩:=Z7s hb
 match j,h,h' with
 | 3,_,_ | 4,_,_ | 5,_,_=>rfl
theorem Zrq (L:List Int) (x:Int):Zrp L [x] (Z3j (L.getD x.toNat 0)):=by
 refine ⟨rfl,fun j h=>?_,fun j _ h=>?_⟩
 ·rw [Z19e (by omega)]
  exact ⟨⟨x,by simp,rfl⟩,fun y hy=>by rw [List.mem_singleton.1 hy]; exact Int.le_refl _⟩
 ·rw [Z19e h]
  exact ⟨⟨x,by simp,rfl⟩,fun y hy=>by rw [List.mem_singleton.1 hy]; exact Int.le_refl _⟩
theorem Zlr {L s t a b:List Int} (h:Zrp L s a) (k:Zrp L t b):Zrp L (s++t) (ex6 (Z8a (a++b))):=by
 refine ⟨rfl,fun j hj=>?_,fun j hj hj'=>?_⟩
 ·rw [Z1k5 h.len k.len hj]
  obtain ⟨⟨x,hx,ex⟩,h2⟩:=h.lo j hj
  obtain ⟨⟨y,hy,ey⟩,k2⟩:=k.lo j hj
  refine ⟨?_,fun z hz=>?_⟩
  ·rcases Int.le_total (a.getD j 0) (b.getD j 0) with hh | hh
   ·exact ⟨x,List.mem_append_left _ hx,by rw [Int.min_eq_left hh,ex]⟩
   ·exact ⟨y,List.mem_append_right _ hy,by rw [Int.min_eq_right hh,ey]⟩
  ·rcases List.mem_append.1 hz with hz | hz
   ·have:=h2 z hz; omega
   ·have:=k2 z hz; omega
 ·rw [Z1k6 h.len k.len hj hj']
  obtain ⟨⟨x,hx,ex⟩,h2⟩:=h.hi j hj hj'
  obtain ⟨⟨y,hy,ey⟩,k2⟩:=k.hi j hj hj'
  refine ⟨?_,fun z hz=>?_⟩
  ·rcases Int.le_total (a.getD j 0) (b.getD j 0) with hh | hh
   ·exact ⟨y,List.mem_append_right _ hy,by rw [Int.max_eq_right hh,ey]⟩
   ·exact ⟨x,List.mem_append_left _ hx,by rw [Int.max_eq_left hh,ex]⟩
  ·rcases List.mem_append.1 hz with hz | hz
   ·have:=h2 z hz; omega
   ·have:=k2 z hz; omega
theorem Z11z {L s t a b:List Int} (h:Zrp L s a) (k:Zrp L t b) (hst:∀ x,x ∈ s↔x ∈ t):a=b:=by
 apply List.ext_getElem?
 intro j
 by_cases hj:j < 6
 ·have key:a.getD j 0=b.getD j 0:=by
   rcases Nat.lt_or_ge j 3 with h3 | h3
   ·obtain ⟨⟨x,hx,ex⟩,h2⟩:=h.lo j h3
    obtain ⟨⟨y,hy,ey⟩,k2⟩:=k.lo j h3
    have e1:=h2 y ((hst y).2 hy)
    have e2:=k2 x ((hst x).1 hx)
    omega
   ·obtain ⟨⟨x,hx,ex⟩,h2⟩:=h.hi j h3 hj
    obtain ⟨⟨y,hy,ey⟩,k2⟩:=k.hi j h3 hj
    have e1:=h2 y ((hst y).2 hy)
    have e2:=k2 x ((hst x).1 hx)
    omega
  have l1:=h.len
  have l2:=k.len
  simp only [List.getD,List.getElem?_eq_getElem (by omega:j < a.length),List.getElem?_eq_getElem (by omega:j < b.length),Option.getD_some] at key
  rw [List.getElem?_eq_getElem (by omega),List.getElem?_eq_getElem (by omega),key]
 ·rw [List.getElem?_eq_none (by rw [h.len]; omega),List.getElem?_eq_none (by rw [k.len]; omega)]
theorem Zrr {L s:List Int}:∀ i:Nat,i < s.length→Zrp L (s.take (i + 1)) (Z12b L s i)
 | 0,h=>by
  have:s.take 1=[s.getD 0 0]:=by
   rw [List.take_add_one,List.take_zero,List.getElem?_eq_getElem h]
   simp [List.getD,h]
  rw [this]
  exact Zrq L _
 | i + 1,h=>by
  have:s.take (i + 1 + 1)=s.take (i + 1)++[s.getD (i + 1) 0]:=by
   rw [List.take_add_one,List.getElem?_eq_getElem h]
   simp [List.getD,h]
  rw [this,Zjp h]
  exact Zlr (Zrr i (by omega)) (Zrq L _)
theorem Zgq {L s:List Int} (h:0 < s.length):Zrp L s (Z3m L s):=by
 have:=Zrr (L:=L) (s:=s) (s.length - 1) (by omega)
 rwa [Zgo (by omega),List.take_of_length_le (by omega)] at this
theorem Z1er {L s:List Int} {n:Nat} (h0:0 < n) (h1:n < s.length):Z3m L s=ex6 (Z8a (Z3m L ((Z2e L s).take n)++Z3m L ((Z2e L s).drop n))):=by
 have l1:0 < ((Z2e L s).take n).length:=by rw [List.length_take,Z24]; omega
 have l2:0 < ((Z2e L s).drop n).length:=by rw [List.length_drop,Z24]; omega
 refine Z11z (Zgq (by omega)) (Zlr (Zgq l1) (Zgq l2)) fun x=>?_
 rw [List.take_append_drop,Z9f]
def BT.deep:BT→Nat
 | .leaf _=>1
 | .node _ a b=>max a.deep b.deep + 1
structure Z19f (L t s:List Int) (a:Nat) (T:BT):Prop where
 shp:T.At t L.length a (a + (2 * s.length - 1))
 its:(T.leaves.map fun i=>co (t.getD i 0) 8).Perm s
 box:Z3j (t.getD a 0)=Z3m L s
 all:∀ i,a≤i→i < a + (2 * s.length - 1)→t.getD i 0=cod (nine (t.getD i 0))∧Z3j (t.getD i 0)=Z4g L t (t.getD i 0)
 dp:∀ d:Nat,s.length≤2 ^ d→T.deep≤d + 1
theorem Zyt (b0 b1 b2 b3 b4 b5 x y z:Int):nine (cod [b0,b1,b2,b3,b4,b5,x,y,z])=[b0,b1,b2,b3,b4,b5,x,y,z]:=by
 simp only [nine,Z82]
 rfl
theorem Zyu (b0 b1 b2 b3 b4 b5 x y z:Int):Z3j (cod [b0,b1,b2,b3,b4,b5,x,y,z])=[b0,b1,b2,b3,b4,b5]:=by
 simp only [Z3j,Z82]
 rfl
theorem Z19g {L s:List Int} (h:0 < s.length):(Z3m L s).length=6:=(Zgq h).len
theorem getP (P Q:List Int) (x:Int):(P++(x::Q)).getD P.length 0=x:=Z190 P Q x
theorem Zo5 {L:List Int}:∀ (f:Nat) (s P Q:List Int),0 < s.length→s.length≤f→(∀ x ∈ s,0≤x∧x < (L.length:Int))→∃ T,Z19f L (P++(Z1b L f s (P.length:Int)++Q)) s P.length T
 | 0,s,P,Q,h0,h1,hs=>absurd h1 (by omega)
 | f + 1,s,P,Q,h0,h1,hs=>by
  obtain ⟨b0,b1,b2,b3,b4,b5,hb⟩:=Z7s (Z19g (L:=L) h0)
  by_cases h2:s.length≤1
  ·obtain ⟨x,rfl⟩:∃ x,s=[x]:=by
    match s,h0,h2 with
    | [x],_,_=>exact ⟨x,rfl⟩
   have hx:=hs x (by simp)
   have hbx:Z3m L [x]=Z3j (L.getD x.toNat 0):=rfl
   rw [Z9g h2]
   simp only [Z1kg,Z1ki,Z1kj]
   have hg:=getP P Q (cod (Z3m L [x]++[-1,-1,x]))
   generalize ht:P++(cod (Z3m L [x]++[-1,-1,x])::Q)=t at hg
   have hlt:P.length < t.length:=by rw [← ht]; simp
   have hg':=hg
   rw [hb] at hg'
   have c6:co (t.getD P.length 0) 6=-1:=by rw [hg',Z82]; rfl
   have c7:co (t.getD P.length 0) 7=-1:=by rw [hg',Z82]; rfl
   have c8:co (t.getD P.length 0) 8=x:=by rw [hg',Z82]; rfl
   have hsx:Z3j (t.getD P.length 0)=Z3m L [x]:=by rw [hg',hb]; exact Zyu _ _ _ _ _ _ _ _ _
   refine ⟨.leaf P.length,⟨⟨rfl,rfl,hlt,c6,c7,by rw [c8]; exact hx.1,by rw [c8]; exact hx.2⟩,?_,hsx,fun i h3 h4=>?_,fun d _=>by simp [BT.deep]⟩⟩
   ·simp only [BT.leaves,Z1kk,Z1kl,c8]
    exact List.Perm.refl _
   ·obtain rfl:i=P.length:=by simp only [List.length_cons,List.length_nil] at h4; omega
    refine ⟨?_,?_⟩
    ·rw [hg']
     exact congrArg cod (Zyt _ _ _ _ _ _ _ _ _).symm
    ·rw [hsx,hbx]
     unfold Z4g
     rw [if_pos (by omega),c8]
  ·have l1:((Z2e L s).take ((s.length + 1) / 2)).length=(s.length + 1) / 2:=by rw [List.length_take,Z24]; omega
   have l2:((Z2e L s).drop ((s.length + 1) / 2)).length=s.length - (s.length + 1) / 2:=by rw [List.length_drop,Z24]
   have m1:∀ x ∈ (Z2e L s).take ((s.length + 1) / 2),0≤x∧x < (L.length:Int):=fun x hx=>hs x (Z9f.1 (List.mem_of_mem_take hx))
   have m2:∀ x ∈ (Z2e L s).drop ((s.length + 1) / 2),0≤x∧x < (L.length:Int):=fun x hx=>hs x (Z9f.1 (List.mem_of_mem_drop hx))
   have hperm:((Z2e L s).take ((s.length + 1) / 2)++(Z2e L s).drop ((s.length + 1) / 2)).Perm s:=by
    rw [List.take_append_drop]
    exact Z11q _ _ _
   have hbh:=Z1er (L:=L) (s:=s) (n:=(s.length + 1) / 2) (by omega) (by omega)
   rw [Z9h h2]
   generalize (Z2e L s).take ((s.length + 1) / 2)=K1 at *
   generalize (Z2e L s).drop ((s.length + 1) / 2)=K2 at *
   have n1:=Z5o (L:=L) f K1 ((P.length:Int) + 1) (by omega) (by omega)
   have e1:(P.length:Int) + 1=((P.length + 1:Nat):Int):=by omega
   have e2:(P.length:Int) + 1 + ((Z1b L f K1 ((P.length:Int) + 1)).length:Int)=((P.length + 1 + (2 * K1.length - 1):Nat):Int):=by rw [n1]; omega
   rw [e2]
   have n2:=Z5o (L:=L) f K2 ((P.length + 1 + (2 * K1.length - 1):Nat):Int) (by omega) (by omega)
   rw [e1] at n1 ⊢
   generalize hx:cod (Z3m L s++[((P.length + 1:Nat):Int),((P.length + 1 + (2 * K1.length - 1):Nat):Int),-1])=x
   obtain ⟨T1,hT1⟩:=Zo5 f K1 (P++[x]) (Z1b L f K2 ((P.length + 1 + (2 * K1.length - 1):Nat):Int)++Q) (by omega) (by omega) m1
   obtain ⟨T2,hT2⟩:=Zo5 f K2 (P++[x]++Z1b L f K1 ((P.length + 1:Nat):Int)) Q (by omega) (by omega) m2
   have p1:(P++[x]).length=P.length + 1:=by simp
   have p2:(P++[x]++Z1b L f K1 ((P.length + 1:Nat):Int)).length=P.length + 1 + (2 * K1.length - 1):=by rw [List.length_append,p1,n1]
   rw [p1] at hT1
   rw [p2] at hT2
   have t1:P++[x]++(Z1b L f K1 ((P.length + 1:Nat):Int)++(Z1b L f K2 ((P.length + 1 + (2 * K1.length - 1):Nat):Int)++Q))=P++(x::(Z1b L f K1 ((P.length + 1:Nat):Int)++Z1b L f K2 ((P.length + 1 + (2 * K1.length - 1):Nat):Int))++Q):=by simp
   have t2:P++[x]++Z1b L f K1 ((P.length + 1:Nat):Int)++(Z1b L f K2 ((P.length + 1 + (2 * K1.length - 1):Nat):Int)++Q)=P++(x::(Z1b L f K1 ((P.length + 1:Nat):Int)++Z1b L f K2 ((P.length + 1 + (2 * K1.length - 1):Nat):Int))++Q):=by simp
   rw [t1] at hT1
   rw [t2] at hT2
   have hg:=getP P (Z1b L f K1 ((P.length + 1:Nat):Int)++Z1b L f K2 ((P.length + 1 + (2 * K1.length - 1):Nat):Int)++Q) x
   have hlen:P.length < (P++(x::(Z1b L f K1 ((P.length + 1:Nat):Int)++Z1b L f K2 ((P.length + 1 + (2 * K1.length - 1):Nat):Int))++Q)).length:=by simp
   rw [← Z1ki] at hg
   generalize P++(x::(Z1b L f K1 ((P.length + 1:Nat):Int)++Z1b L f K2 ((P.length + 1 + (2 * K1.length - 1):Nat):Int))++Q)=t at *
   rw [← hx,hb] at hg
   have c6:co (t.getD P.length 0) 6=(P.length:Int) + 1:=by rw [hg,Z82]; exact e1.symm
   have c7:co (t.getD P.length 0) 7=((P.length + 1 + (2 * K1.length - 1):Nat):Int):=by rw [hg,Z82]; rfl
   have c8:co (t.getD P.length 0) 8=-1:=by rw [hg,Z82]; rfl
   have hsx:Z3j (t.getD P.length 0)=Z3m L s:=by rw [hg,hb]; exact Zyu _ _ _ _ _ _ _ _ _
   have hend:P.length + 1 + (2 * K1.length - 1) + (2 * K2.length - 1)=P.length + (2 * s.length - 1):=by omega
   refine ⟨.node P.length T1 T2,⟨⟨rfl,hlen,P.length + 1 + (2 * K1.length - 1),hT1.shp,by rw [← hend]; exact hT2.shp,c6,c7,c8⟩,?_,hsx,fun i h3 h4=>?_,fun d hd=>?_⟩⟩
   ·simp only [BT.leaves,List.map_append]
    exact (hT1.its.append hT2.its).trans hperm
   ·by_cases hi:i=P.length
    ·subst hi
     refine ⟨?_,?_⟩
     ·rw [hg]
      exact congrArg cod (Zyt _ _ _ _ _ _ _ _ _).symm
     ·rw [hsx]
      unfold Z4g
      rw [if_neg (by omega),c6,c7,e1,Int.toNat_natCast,Int.toNat_natCast,hT1.box,hT2.box,hbh]
    ·by_cases hm:i < P.length + 1 + (2 * K1.length - 1)
     ·exact hT1.all i (by omega) hm
     ·exact hT2.all i (by omega) (by omega)
   ·obtain ⟨d',rfl⟩:∃ d',d=d' + 1:=⟨d - 1,by
     rcases Nat.eq_zero_or_pos d with rfl | hd0
     ·simp at hd; omega
     ·omega⟩
    rw [Nat.pow_succ] at hd
    have g1:=hT1.dp d' (by omega)
    have g2:=hT2.dp d' (by omega)
    simp only [BT.deep]
    omega
end Go.Proofs.YtgcoidbaoigkeaaGreatDoor.fix
namespace Go.Proofs.YtgcoidbaoigkeaaGreatDoor.fix
open Go.RowKit Go.Sx
structure Z9i (L t:List Int):Prop where
 shaped:Z1m t (L.length:Int)=true
 all:∀ i,i < t.length→t.getD i 0=cod (nine (t.getD i 0))∧Z3j (t.getD i 0)=Z4g L t (t.getD i 0)
theorem Zrs (b:Int):nine b=Z3j b++[co b 6,co b 7,co b 8]:=rfl
theorem Z1es (l:List Int) (i:Nat):l.set i (l.getD i 0)=l:=by
 by_cases h:i < l.length
 ·simp [List.getD,h]
 ·rw [List.set_eq_of_length_le (by omega)]
theorem Z19h {L t:List Int} (h:Z9i L t):∀ c,Z1q L t c=t
 | 0=>rfl
 | c + 1=>by
  rw [Z97,Z19h h c]
  by_cases h0:t.length=0
  ·obtain rfl:t=[]:=List.eq_nil_of_length_eq_zero h0
   rfl
  ·have hi:=h.all (t.length - 1 - c) (by omega)
   unfold Z94
   rw [← hi.2,← Zrs,← hi.1,Z1es]
theorem Z19i {L t:List Int} (h:Z9i L t):Z30 L t=t:=Z19h h _
theorem Z19j {L t:List Int} (hb:Z21 L=0) (h:Z9i L t):Z1w t L=0:=by
 unfold Z1w
 rw [if_pos hb,if_pos h.shaped]
theorem Z120 (a:List Int):Zk5 a a=true:=Zqq rfl fun _ _=>rfl
theorem Z1k7 {L t:List Int} (hb:Z21 L=0) (h:Z9i L t):Zob t L=0:=by
 unfold Zob
 rw [if_pos (Z19j hb h),Z19i h,if_pos (Z120 t)]
theorem Zv5 {n:Int} {i:Nat} {b c:Int} {s:List Int × List Int} (h6:co b 6=co c 6) (h7:co b 7=co c 7) (h8:co b 8=co c 8):Z5v n i b s=Z5v n i c s:=by
 unfold Z5v
 rw [h6,h7,h8]
theorem Zv6 {t u:List Int} {n:Int} (hl:u.length=t.length) (h:∀ i,co (u.getD i 0) 6=co (t.getD i 0) 6∧co (u.getD i 0) 7=co (t.getD i 0) 7∧co (u.getD i 0) 8=co (t.getD i 0) 8):Z1m u n=Z1m t n:=by
 have hrun:∀ i,Z5j u n i=Z5j t n i:=by
  intro i
  induction i with
  | zero=>rfl
  | succ i ih =>
   rw [Z2t,Z2t,ih]
   congr 1
   funext s
   exact Zv5 (h i).1 (h i).2.1 (h i).2.2
 unfold Z1m
 rw [hrun,hl]
theorem Z19k (l t:List Int) (c i:Nat) (hi:t.length - c≤i):∀ d,c + d≤t.length→(Z1q l t (c + d)).getD i 0=(Z1q l t c).getD i 0
 | 0,_=>rfl
 | d + 1,h=>by
  rw [show c + (d + 1)=(c + d) + 1 by omega,Z97,Z94,Z7p,if_neg (by omega)]
  exact Z19k l t c i hi d (by omega)
theorem Z1et {m t:List Int} (hs:Z1m t (m.length:Int)=true):Z9i m (Z30 m t):=by
 have hl:(Z30 m t).length=t.length:=Ziz m t t.length
 refine ⟨by rw [Zv6 hl fun i=>Zu3 m t i t.length]; exact hs,fun i hi=>?_⟩
 rw [hl] at hi
 have hstay:∀ c j,c≤t.length→t.length - c≤j→(Z30 m t).getD j 0=(Z1q m t c).getD j 0:=fun c j hc hj=>by
  have:=Z19k m t c j hj (t.length - c) (by omega)
  rw [show c + (t.length - c)=t.length by omega] at this
  exact this
 have h1:(Z30 m t).getD i 0=cod (Z4g m (Z1q m t (t.length - i - 1)) ((Z1q m t (t.length - i - 1)).getD i 0)++[co ((Z1q m t (t.length - i - 1)).getD i 0) 6,co ((Z1q m t (t.length - i - 1)).getD i 0) 7,co ((Z1q m t (t.length - i - 1)).getD i 0) 8]):=by
  rw [hstay (t.length - i - 1 + 1) i (by omega) (by omega),Z97,Z94,Z7p,Ziz,show t.length - 1 - (t.length - i - 1)=i by omega,if_pos ⟨rfl,hi⟩]
 have hn:=Zx8 m (Z1q m t (t.length - i - 1)) ((Z1q m t (t.length - i - 1)).getD i 0) (co ((Z1q m t (t.length - i - 1)).getD i 0) 6) (co ((Z1q m t (t.length - i - 1)).getD i 0) 7) (co ((Z1q m t (t.length - i - 1)).getD i 0) 8)
 have hco:=Zu3 m t i (t.length - i - 1)
 have hcu:=Zu3 m t i t.length
 have hcu':co ((Z30 m t).getD i 0) 6=co (t.getD i 0) 6∧co ((Z30 m t).getD i 0) 7=co (t.getD i 0) 7∧co ((Z30 m t).getD i 0) 8=co (t.getD i 0) 8:=hcu
 refine ⟨?_,?_⟩
 ·rw [Zrs,h1,hn.1,hn.2.1,hn.2.2.1,hn.2.2.2]
 ·have h6:Z3j ((Z30 m t).getD i 0)=Z4g m (Z1q m t (t.length - i - 1)) ((Z1q m t (t.length - i - 1)).getD i 0):=by rw [h1,hn.1]
  rw [h6]
  unfold Z4g
  rw [hco.1,hco.2.1,hco.2.2,hcu'.1,hcu'.2.1,hcu'.2.2]
  rcases Z6v hs i hi with hlf | hnd
  ·rw [if_pos (by omega),if_pos (by omega)]
  ·rw [if_neg (by omega),if_neg (by omega),← hstay (t.length - i - 1) (co (t.getD i 0) 6).toNat (by omega) (by omega),← hstay (t.length - i - 1) (co (t.getD i 0) 7).toNat (by omega) (by omega)]
theorem Z1k8 (n:Nat):(Zs0 n).map Int.toNat=List.range n:=by
 simp [Zs0,Function.comp_def]
theorem Zyv {L:List Int}:(Zbl L).length=2 * L.length - 1:=by
 by_cases h0:L.length=0
 ·rw [Zyq h0,h0]; rfl
 ·unfold Zbl
  rw [Z5o _ _ _ (by rw [Z3n]; omega) (by rw [Z3n]; omega),Z3n]
theorem Z1k9 {L:List Int} (h0:0 < L.length):∃ T,Z19f L (Zbl L) (Zs0 L.length) 0 T:=by
 obtain ⟨T,hT⟩:=Zo5 (L:=L) L.length (Zs0 L.length) [] [] (by rw [Z3n]; exact h0) (by rw [Z3n]; exact Nat.le_refl _) (fun x hx=>Z19b.1 hx)
 rw [Z1kj,List.append_nil] at hT
 exact ⟨T,hT⟩
theorem Z19l (L:List Int):Z9i L (Zbl L):=by
 by_cases h0:L.length=0
 ·rw [Zyq h0]
  refine ⟨?_,fun i hi=>absurd hi (by simp)⟩
  rw [h0]
  rfl
 obtain ⟨T,hT⟩:=Z1k9 (L:=L) (by omega)
 have hlen:=Zyv (L:=L)
 have hshp:=hT.shp
 have he:=hshp.le
 rw [Z3n] at hshp
 have hend:0 + (2 * L.length - 1)=(Zbl L).length:=by omega
 rw [hend] at hshp
 refine ⟨?_,fun i hi=>hT.all i (Nat.zero_le _) (by rw [Z3n]; omega)⟩
 have hmap:T.leaves.map (itm (Zbl L))=(T.leaves.map fun i=>co ((Zbl L).getD i 0) 8).map Int.toNat:=by rw [List.map_map]; rfl
 have hperm:(T.leaves.map (itm (Zbl L))).Perm (List.range L.length):=by
  rw [hmap,← Z1k8]
  exact hT.its.map _
 obtain ⟨se',h1,_,_⟩:=Z19d (se:=List.replicate L.length 0) (S:=[]) hshp.sh (fun i hi=>by
  have:=hshp.leaf_in i hi
  exact ⟨this.2.2.1,this.2.2.2.1⟩) (hperm.nodup_iff.2 List.nodup_range) (fun k hk=>by
   simp only [List.getD,List.getElem?_replicate]
   split <;> rfl) (by simp) (by
   have:(0:Int) < (L.length:Int):=by omega
   have hne:¬ L=[]:=fun h=>h0 (by rw [h]; rfl)
   simp [Z5j,this,hne])
 unfold Z1m
 rw [h1]
 simp only [Ztf,Bool.and_true,Z1ks]
 omega
end Go.Proofs.YtgcoidbaoigkeaaGreatDoor.fix
namespace Go.Sx
open Go.RowKit
def Zls:List E→List E→Bool
 | [],[]=>true
 | x::xs,y::ys=>x.same y && Zls xs ys
 | _,_=>false
theorem Zrt:∀ {a b:List E},Zls a b=true→a=b
 | [],[],_=>rfl
 | x::xs,y::ys,h=>by
  simp only [Zls,Z1kr] at h
  rw [E.same_eq _ _ h.1,Zrt h.2]
 | [],_::_,h=>by simp [Zls] at h
 | _::_,[],h=>by simp [Zls] at h
def cnC (A C:List E) (es:List E) (nv n:Nat):List E:=if Zls es A then C else Zh nv n
def cnF (ps rs:List Sh) (A C:List E):St→List SV→Option (List B × List E × (Nat→St × SV)):=fun s args=>match Zfb s ps args with
 | some (aZ,es)=>some (aZ,es,fun nv=>({ s with nv:=s.nv + Zx rs,rows:=s.rows++Z2p (Z77 rs) (cnC A C es nv (Zx rs)) },Zon Zrx s.rows.length rs (cnC A C es nv (Zx rs))))
 | none=>none
def cnS (s:Sum) (A C:List E):Sum:={ s with m:=some (cnF s.ps s.rs A C) }
theorem Z1gg {P:Program} {s0:Sum} {A C:List E} {ks:List Int} (hok0:s0.ok P) (hA:∀ (R:Fo) (r:List Int),A.map (E.den R r)=ks) (hC:∀ (R:Fo) (r:List Int),C.map (E.den R r)=s0.sem ks):(cnS s0 A C).okA P:=by
 show (cnS s0 A C).okM P (cnF s0.ps s0.rs A C)
 intro W0 e s w args aZ es kk hrep0 hsc hargs hgl hf has hpre
 unfold cnF at hf
 split at hf
 ·rename_i as' es' hfl
  simp only [Option.some.injEq,Prod.mk.injEq] at hf
  obtain ⟨rfl,rfl,rfl⟩:=hf
  obtain ⟨hlen,hden⟩:=Zby hrep0 hfl has
  obtain ⟨_,hok⟩:=hok0
  obtain ⟨hl,hcalls⟩:=hok _ _ w (Zdq hgl hrep0.glw) hden hpre
  obtain ⟨D,hD⟩:∃ D,cnC A C es' s.nv (Zx s0.rs)=D:=⟨_,rfl⟩
  have hDd:D.map (E.den e.R (e.r++s0.sem (es'.map (E.den e.R e.r))))=s0.sem (es'.map (E.den e.R e.r)):=by
   rw [← hD]
   unfold cnC
   split
   ·rename_i hs
    have:=Zrt hs
    subst this
    rw [hC,hA]
   ·rw [← hrep0.nv]
    exact Z4d hl
  dsimp only [cnS] at hcalls ⊢
  rw [hD]
  refine hcalls.mono fun x w' ⟨v,hx,⟨vs,hv,hres,hap⟩,hb⟩=>?_
  obtain ⟨hrep,hfr,hle⟩:=hrep0.vars hsc (s0.sem (es'.map (E.den e.R e.r)))
  have hrep2:=hrep.grown hb
  have hres':Zaj (fun ty ks u n=>Zt w' ty ks u n∧∀ k,Z7 u=some k→w.heap.size≤k) s0.rs vs (D.map (E.den ({ e with r:=e.r++s0.sem (es'.map (E.den e.R e.r)) }:Env).R ({ e with r:=e.r++s0.sem (es'.map (E.den e.R e.r)) }:Env).r)):=by
   show Zaj _ s0.rs vs (D.map (E.den e.R (e.r++s0.sem (es'.map (E.den e.R e.r)))))
   rw [hDd]
   exact hres
  obtain ⟨r1,r2⟩:=Z3v hres'
  have hslice:∀ {ty ks u n},Zt w' ty ks u n→∃ a l c,u=.slice a l c:=by
   intro ty ks u n hr
   rcases hr with ⟨_,b,h2⟩ | ⟨_,_,h2⟩
   ·exact ⟨_,_,_,h2⟩
   ·rcases h2.2 with ⟨h3,_⟩ | ⟨g,cap,cur,h3,_⟩
    ·exact ⟨_,_,_,h3⟩
    ·exact ⟨_,_,_,h3⟩
  have hscp:({ s with nv:=s.nv + (s0.sem (es'.map (E.den e.R e.r))).length }:St).scp=true:=(St.sc_scp hsc:s.scp=true)
  obtain ⟨hrep3,hlike⟩:=hrep2.addRows hscp (rows:=Z2p (Z77 s0.rs) D) (vals:=Zg s0.rs vs) r1
   (fun j b u hj hu _=>⟨hslice (r2 j b u hj hu).1,(r2 j b u hj hu).1⟩)
   (fun j b u k hj hu _ hk=>by
    have hge:=(r2 j b u hj hu).2 k hk
    refine ⟨.inl (Nat.le_trans hrep0.below.size hge),fun n c hc hlc heq=>?_,fun n c hc hlc heq=>?_⟩
    ·have:=Z1c (hrep0.blk n c hc hlc)
     have heq':e.β.getD n 0=k:=heq
     omega
    ·have:=(hrep0.row n c hc hlc).blk_lt heq
     omega)
   (Z78 hap)
  rw [hl] at hrep3
  have hle2:Env.le e { e with r:=e.r++s0.sem (es'.map (E.den e.R e.r)),σ:=e.σ++Zg s0.rs vs }:=⟨s0.sem (es'.map (E.den e.R e.r)),[],Zg s0.rs vs,[],by simp⟩
  have hresv:(Zon Zrx s.rows.length s0.rs D).den { e with r:=e.r++s0.sem (es'.map (E.den e.R e.r)),σ:=e.σ++Zg s0.rs vs }=v:=by
   rw [hv]
   refine Zm6 (e:={ e with r:=e.r++s0.sem (es'.map (E.den e.R e.r)),σ:=e.σ++Zg s0.rs vs }) hres' fun j u hj=>?_
   obtain ⟨b,hb'⟩:∃ b,(Z2p (Z77 s0.rs) D)[j]?=some b:=⟨_,List.getElem?_eq_getElem (by rw [← r1]; exact (List.getElem?_eq_some_iff.1 hj).1)⟩
   obtain ⟨aa,ll,cc,hsl⟩:=hslice (r2 j b u hb' hj).1
   simp only [Zrx,SC.den,G.val]
   have:(e.σ++Zg s0.rs vs).getD (s.rows.length + j) undef=u:=by
    simp only [List.getD]
    rw [List.getElem?_append_right (by rw [hrep0.ng]; omega),hrep0.ng,show s.rows.length + j - s.rows.length=j by omega,hj]
    rfl
   rw [this,hsl]
   rfl
  refine ⟨_,?_,hle2,rfl,hrep3,rfl,rfl,rfl,rfl⟩
  rw [hx,← hresv]
 ·cases hf
end Go.Sx
namespace Go.Proofs.YtgcoidbaoigkeaaGreatDoor.fix
open Go.RowKit Go.Sx
def cE (l:List Int):E:=Z8j (l.map E.c)
theorem Zyw (l:List Int) (R:Fo) (r:List Int):(cE l).den R r=cod l:=by
 unfold cE
 rw [Z2b,List.map_map]
 congr 1
 conv=>rhs; rw [← List.map_id l]
 exact List.map_congr_left fun x _=>rfl
def Z121:List Int:=[256,-40,-40,512,0,0,-40,40,512,0,0,40,-40,512,0,0]
end Go.Proofs.YtgcoidbaoigkeaaGreatDoor.fix
namespace Go.Sx
open Go.RowKit
def exF (rs:List Sh) (chk:St→List SV→Bool) (C:List E):St→List SV→Option (List B × List E × (Nat→St × SV)):=fun s args =>
 if chk s args then some ([],[],fun nv=>({ s with nv:=s.nv + Zx rs,rows:=s.rows++Z2p (Z77 rs) C },Zon Zrx s.rows.length rs C)) else none
def exS (s:Sum) (chk:St→List SV→Bool) (C:List E) (K:List Int):Sum:={ s with sem:=fun _=>K,pre:=fun _=>True,m:=some (exF s.rs chk C) }
theorem Z1gh {P:Program} {s0:Sum} {chk:St→List SV→Bool} {C:List E} {K:List Int} (hok0:s0.ok P) (hK:∀ (R:Fo) (r:List Int),C.map (E.den R r)=K)
  (hchk:∀ (e:Env) (W0:Bas) (s:St) (w:World) (args:List SV),Rep e W0 s w→chk s args=true→∃ xs,Zaj (fun _ ks u n=>SlN w ks u n) s0.ps (args.map (SV.den e)) xs∧s0.pre xs∧s0.sem xs=K):(exS s0 chk C K).okA P:=by
 show (exS s0 chk C K).okM P (exF s0.rs chk C)
 intro W0 e s w args aZ es kk hrep0 hsc hargs hgl hf has hpre
 unfold exF at hf
 split at hf
 ·rename_i hck
  simp only [Option.some.injEq,Prod.mk.injEq] at hf
  obtain ⟨rfl,rfl,rfl⟩:=hf
  obtain ⟨xs,hden,hp0,hsem⟩:=hchk e W0 s w args hrep0 hck
  obtain ⟨_,hok⟩:=hok0
  obtain ⟨hl,hcalls⟩:=hok xs _ w (Zdq hgl hrep0.glw) hden hp0
  rw [hsem] at hl hcalls
  dsimp only [exS] at hcalls ⊢
  refine hcalls.mono fun x w' ⟨v,hx,⟨vs,hv,hres,hap⟩,hb⟩=>?_
  obtain ⟨hrep,hfr,hle⟩:=hrep0.vars hsc K
  have hrep2:=hrep.grown hb
  have hDd:C.map (E.den e.R (e.r++K))=K:=hK _ _
  have hres':Zaj (fun ty ks u n=>Zt w' ty ks u n∧∀ k,Z7 u=some k→w.heap.size≤k) s0.rs vs (C.map (E.den ({ e with r:=e.r++K }:Env).R ({ e with r:=e.r++K }:Env).r)):=by
   show Zaj _ s0.rs vs (C.map (E.den e.R (e.r++K)))
   rw [hDd]
   exact hres
  obtain ⟨r1,r2⟩:=Z3v hres'
  have hslice:∀ {ty ks u n},Zt w' ty ks u n→∃ a l c,u=.slice a l c:=by
   intro ty ks u n hr
   rcases hr with ⟨_,b,h2⟩ | ⟨_,_,h2⟩
   ·exact ⟨_,_,_,h2⟩
   ·rcases h2.2 with ⟨h3,_⟩ | ⟨g,cap,cur,h3,_⟩
    ·exact ⟨_,_,_,h3⟩
    ·exact ⟨_,_,_,h3⟩
  have hscp:({ s with nv:=s.nv + K.length }:St).scp=true:=(St.sc_scp hsc:s.scp=true)
  obtain ⟨hrep3,hlike⟩:=hrep2.addRows hscp (rows:=Z2p (Z77 s0.rs) C) (vals:=Zg s0.rs vs) r1
   (fun j b u hj hu _=>⟨hslice (r2 j b u hj hu).1,(r2 j b u hj hu).1⟩)
   (fun j b u k hj hu _ hk=>by
    have hge:=(r2 j b u hj hu).2 k hk
    refine ⟨.inl (Nat.le_trans hrep0.below.size hge),fun n c hc hlc heq=>?_,fun n c hc hlc heq=>?_⟩
    ·have:=Z1c (hrep0.blk n c hc hlc)
     have heq':e.β.getD n 0=k:=heq
     omega
    ·have:=(hrep0.row n c hc hlc).blk_lt heq
     omega)
   (Z78 hap)
  rw [hl] at hrep3
  have hle2:Env.le e { e with r:=e.r++K,σ:=e.σ++Zg s0.rs vs }:=⟨K,[],Zg s0.rs vs,[],by simp⟩
  have hresv:(Zon Zrx s.rows.length s0.rs C).den { e with r:=e.r++K,σ:=e.σ++Zg s0.rs vs }=v:=by
   rw [hv]
   refine Zm6 (e:={ e with r:=e.r++K,σ:=e.σ++Zg s0.rs vs }) hres' fun j u hj=>?_
   obtain ⟨b,hb'⟩:∃ b,(Z2p (Z77 s0.rs) C)[j]?=some b:=⟨_,List.getElem?_eq_getElem (by rw [← r1]; exact (List.getElem?_eq_some_iff.1 hj).1)⟩
   obtain ⟨aa,ll,cc,hsl⟩:=hslice (r2 j b u hb' hj).1
   simp only [Zrx,SC.den,G.val]
   have:(e.σ++Zg s0.rs vs).getD (s.rows.length + j) undef=u:=by
    simp only [List.getD]
    rw [List.getElem?_append_right (by rw [hrep0.ng]; omega),hrep0.ng,show s.rows.length + j - s.rows.length=j by omega,hj]
    rfl
   rw [this,hsl]
   rfl
  refine ⟨_,?_,hle2,rfl,hrep3,rfl,rfl,rfl,rfl⟩
  rw [hx,← hresv]
 ·cases hf
def okSl (s:St) (ks:List K) (c:SC) (x:E):Bool:=match Zgy s ks c with
 | some ([],y)=>y.same x
 | _=>false
theorem Zdb {e:Env} {W0:Bas} {s:St} {w:World} (h:Rep e W0 s w) {ks:List K} {c:SC} {x:E} (hc:okSl s ks c x=true):SlN w ks (c.den e) (x.den e.R e.r):=by
 unfold okSl at hc
 split at hc
 ·rename_i y hs
  have:=Zp7 h hs (fun b hb=>by cases hb)
  rwa [E.same_eq _ _ hc] at this
 ·cases hc
theorem Z76.dec {w:World} {X:Nat→Prop} {ty:TypeId} {ks:List K} {v:Value} {c d:Int} (h:Z76 w X (.s ty ks) v c) (hd:dec d=dec c):Z76 w X (.s ty ks) v d:=by
 rw [Z76] at h ⊢
 unfold Z53 at *
 rw [hd]
 exact h
theorem Z19m {w:World} {ty:TypeId} {ks:List K} {u:Value} {c:Int} (h:SlN w ks u c):∃ n,hdV n=u∧dec (ctN n)=dec c∧Z76 w (fun _=>False) (.s ty ks) (hdV n) (ctN n):=by
 have h':Z76 w (fun _=>False) (.s ty ks) u c:=by
  unfold SlN at h
  rw [Z76] at h ⊢
  exact h
 rcases h'.base.1 with ⟨⟨a,h1⟩,h2⟩ | ⟨b,off,cap,h1,h2,_⟩
 ·have key:∀ n,hdV n=u→Go.Sx.dec (ctN n)=[]→∃ n,hdV n=u∧Go.Sx.dec (ctN n)=Go.Sx.dec c∧Z76 w (fun _=>False) (.s ty ks) (hdV n) (ctN n):=fun n e1 e2 =>
   ⟨n,e1,by rw [e2,h2],by rw [e1]; exact h'.dec (by rw [e2,h2])⟩
  cases a with
  | none=>exact key 0 (by rw [Zfk,h1]) (by rw [Zm1,Z5r])
  | some a =>
   obtain ⟨b,off,sp⟩:=a
   cases sp with
   | none =>
    refine key (cod [(b:Int),(off:Int),0,0,cod []]) ?_ ?_
    ·unfold hdV
     rw [Z3,h1]
     simp
    ·unfold ctN
     rw [Z3]
     exact Z3 []
   | some sp =>
    refine key (cod [(b:Int),(off:Int),0,0,cod [],(sp:Int)]) ?_ ?_
    ·unfold hdV
     rw [Z3,h1]
     simp
    ·unfold ctN
     rw [Z3]
     exact Z3 []
 ·have hn:hdV (cod [(b:Int),(off:Int),((Go.Sx.dec c).length:Int),(cap:Int),c])=u:=by
   unfold hdV
   rw [Z3]
   simp only
   rw [if_pos (by omega),h1]
   simp
  have hct:ctN (cod [(b:Int),(off:Int),((Go.Sx.dec c).length:Int),(cap:Int),c])=c:=by
   unfold ctN
   rw [Z3]
   rfl
  exact ⟨_,hn,by rw [hct],by rw [hn,hct]; exact h'⟩
def Z1ka (s:St) (t0 t1 t2:TypeId) (k0 k1 k2 kr:List K) (c:SC) (x0 x1 x2:E) (r:List E):Bool:=match c with
 | .s m 0 1 cap=>(match s.mem[m]? with
  | some b=>b.live && decide (1≤cap) && decide (cap≤1000000) && (match b.cells with
   | c0::c1::c2::cr=>okSl s k0 c0 x0 && (okSl s k1 c1 x1 && (okSl s k2 c2 x2 && (match Z3e kr cr with
    | some es=>Zf1 es r
    | none=>false)))
   | _=>false)
  | none=>false)
 | _=>false
theorem Z122 {e:Env} {W0:Bas} {s:St} {w:World} (h:Rep e W0 s w) {t0 t1 t2:TypeId} {k0 k1 k2 kr:List K} {c:SC} {x0 x1 x2:E} {r:List E} (hp:∀ xs,Zdc w (fun _=>False) kr xs) (hc:Z1ka s t0 t1 t2 k0 k1 k2 kr c x0 x1 x2 r=true) :
  ∃ n0 n1 n2,dec (ctN n0)=dec (x0.den e.R e.r)∧dec (ctN n1)=dec (x1.den e.R e.r)∧dec (ctN n2)=dec (x2.den e.R e.r)∧SlN w (.s t0 k0::.s t1 k1::.s t2 k2::kr) (c.den e) (cod [cod (n0::n1::n2::r.map (E.den e.R e.r))]):=by
 unfold Z1ka at hc
 split at hc
 ·rename_i m cap
  split at hc
  ·rename_i b hb
   simp only [Z1kr,Z1ks] at hc
   obtain ⟨⟨⟨hl,hcap1⟩,hcap⟩,hc⟩:=hc
   split at hc
   ·rename_i c0 c1 c2 cr hcells
    simp only [Z1kr] at hc
    obtain ⟨h0,h1,h2,h3⟩:=hc
    split at h3
    ·rename_i es hfl
     have hes:=Zc4 h3
     subst hes
     obtain ⟨hlen,hden⟩:=Z5a (e:=e) hfl
     obtain ⟨n0,a0,b0,d0⟩:=Z19m (ty:=t0) (Zdb h h0)
     obtain ⟨n1,a1,b1,d1⟩:=Z19m (ty:=t1) (Zdb h h1)
     obtain ⟨n2,a2,b2,d2⟩:=Z19m (ty:=t2) (Zdb h h2)
     refine ⟨n0,n1,n2,b0,b1,b2,?_⟩
     have hel:elt (.s t0 k0::.s t1 k1::.s t2 k2::kr) (cod (n0::n1::n2::es.map (E.den e.R e.r)))=n0::n1::n2::es.map (E.den e.R e.r):=by
      unfold elt
      rw [if_neg (by simp),Z3]
     have hbl:=h.blk m b hb hl
     unfold SlN
     rw [Z76]
     refine ⟨⟨.inr ⟨e.β.getD m 0,0,cap,?_,?_,?_,?_,?_⟩,fun _ _ _ hh=>hh⟩,?_⟩
     ·rw [Z3]; rfl
     ·rw [Z3]; exact hcap1
     ·simp only [maxLen]; omega
     ·rw [Z3]
      intro x hx
      rw [List.mem_singleton.1 hx,hel]
      simp only [List.length_cons,List.length_map,hlen]
     ·rw [Z3]
      intro j u hj
      unfold Zi at hj
      rw [List.flatMap_cons,List.flatMap_nil,List.append_nil,hel] at hj
      simp only [Za,K.mk,a0,a1,a2] at hj
      rw [← hden] at hj
      have hcs:(c0.den e::c1.den e::c2.den e::cr.map (SC.den e))=b.cells.map (SC.den e):=by rw [hcells]; rfl
      rw [hcs] at hj
      unfold World.cell?
      simp only [hbl]
      rw [if_neg (by decide)]
      rw [Nat.zero_add]
      simpa using hj
     ·rw [Z3]
      intro x hx
      rw [List.mem_singleton.1 hx,hel]
      simp only [Zdc]
      exact ⟨d0,d1,d2,hp _⟩
    ·cases h3
   ·cases hc
  ·cases hc
 ·cases hc
end Go.Sx
namespace Go.Proofs.YtgcoidbaoigkeaaGreatDoor.fix
open Go.RowKit Go.Sx
def Z7t:List Int:=[0,0,0,256,0,0,0,256,0,0,0,256,64,256,4,4]
def Z1j:List Int:=[0,0,0,0,-1,0,0,0,0,-40,-40,512,40,40,512]
noncomputable def Z1a6:List Int:=[cod [-40,-40,512],cod [40,-40,512],cod [-40,40,512]]
noncomputable def U_ex:List Int:=[cod [0,0],cod [0,0],cod [0,0]]
noncomputable def T_ex:List Int:=[cod [0,2,1]]
def E_v:E:=Z8j [cE [-40,-40,512],cE [40,-40,512],cE [-40,40,512]]
def E_u:E:=Z8j [cE [0,0],cE [0,0],cE [0,0]]
def E_t:E:=Z8j [cE [0,2,1]]
def kr_ex:List K:=[.i .u8,.i .u8,.i .u8,.i .u8,.i .i64,.i .u8,.i .i64,.b,.i .i64,.i .i64,.i .i64,.i .i64,.i .i64,.i .i64,.i .i64]
def Zyx (ps:List Sh) (K:List Int) (s:St) (args:List SV):Bool:=match args with
 | .w (.a [c0,c1])::rest=>Z1ka s 27 146 28 Z8e Z17e Z8e kr_ex c0 E_v E_u E_t (Z1j.map E.c) && (okSl s Zjb c1 .nl && (match Zfb s ps rest with
  | some ([],es)=>Zf1 es (K.map E.c)
  | _=>false))
 | _=>false
theorem Z1eu (l:List Int) (R:Fo) (r:List Int):(l.map E.c).map (E.den R r)=l:=by
 rw [List.map_map]
 conv=>rhs; rw [← List.map_id l]
 exact List.map_congr_left fun x _=>rfl
theorem Z1ev (w:World):∀ xs,Zdc w (fun _=>False) kr_ex xs:=fun xs=>Zdc.plain rfl
structure ExI (I:Int) (n0 n1 n2:Int):Prop where
 is:dec I=[cod (n0::n1::n2::Z1j)]
 v:dec (ctN n0)=Z1a6
 u:dec (ctN n1)=U_ex
 t:dec (ctN n2)=T_ex
theorem Zjq {ps:List Sh} {K:List Int} {e:Env} {W0:Bas} {s:St} {w:World} {args:List SV} (h:Rep e W0 s w) (hc:Zyx ps K s args=true) :
  ∃ I T n0 n1 n2,ExI I n0 n1 n2∧dec T=[]∧Zaj (fun _ ks u n=>SlN w ks u n) (Sho::ps) (args.map (SV.den e)) ([I,T]++K):=by
 unfold Zyx at hc
 split at hc
 ·rename_i c0 c1 rest
  simp only [Z1kr] at hc
  obtain ⟨h0,h1,h2⟩:=hc
  split at h2
  ·rename_i es hfl
   have hes:=Zc4 h2
   subst hes
   obtain ⟨n0,n1,n2,a0,a1,a2,a3⟩:=Z122 h (Z1ev w) h0
   have a4:=Zdb h h1
   obtain ⟨_,hden⟩:=Zby h hfl (fun b hb=>by cases hb)
   rw [Z1eu] at a3 hden
   refine ⟨cod [cod (n0::n1::n2::Z1j)],cod [],n0,n1,n2,⟨Z3 _,?_,?_,?_⟩,Z3 _,?_⟩
   ·rw [a0]; simp only [E_v,Z2b,Z1kk,Z1kl,Zyw,Z3]; rfl
   ·rw [a1]; simp only [E_u,Z2b,Z1kk,Z1kl,Zyw,Z3]; rfl
   ·rw [a2]; simp only [E_t,Z2b,Z1kk,Z1kl,Zyw,Z3]; rfl
   ·refine ⟨_,_,[cod [cod (n0::n1::n2::Z1j)],cod []],K,rfl,rfl,?_,hden⟩
    unfold ShR
    exact ⟨[c0.den e,c1.den e],rfl,a3,a4,trivial⟩
  ·cases h2
 ·cases hc
theorem Zoc (l:List Int) (j:Nat):co (cod l) j=l.getD j 0:=by unfold co; rw [Z3]
section
variable {I T n0 n1 n2:Int} (h:ExI I n0 n1 n2) (hT:dec T=[])
theorem Z1ew:Zc (cod (n0::n1::n2::Z1j))=dec (ctN n0):=by unfold Zc; rw [Zoc]; rfl
theorem ex_uv:Zld (cod (n0::n1::n2::Z1j))=dec (ctN n1):=by unfold Zld; rw [Zoc]; rfl
theorem Z19n:Z2y (cod (n0::n1::n2::Z1j))=dec (ctN n2):=by unfold Z2y; rw [Zoc]; rfl
theorem Z1ex:Z3b Z1a6=[-40,-40,512,40,40,512]:=by
 simp only [Z1a6,Z3b,List.foldl_cons,List.foldl_nil,boxV,Zen,Zoc,Z1kg,Z1kh]
 decide
include h in
theorem ex_may:Z11b (Zd0 (cod (n0::n1::n2::Z1j)) 0)=true:=by
 have hx:Zd0 (cod (n0::n1::n2::Z1j)) 0=ctN n0::ctN n1::ctN n2::(Z1j++[0]):=by
  unfold Zd0
  simp only [Zoc]
  rfl
 rw [hx]
 unfold Z11b Z1dl
 simp only [Z1kg,Z1kh,h.v,h.u,h.t,Z1ex]
 have e1:Z1a6.all okW=true:=by
  simp only [Z1a6,List.all_cons,List.all_nil,okW,Zoc]
  decide
 have e2:U_ex.all uvB=true:=by
  simp only [U_ex,List.all_cons,List.all_nil,uvB,Zoc]
  decide
 have e3:T_ex.all (Z17f Z1a6.length)=true:=by
  have:Z1a6.length=3:=rfl
  rw [this]
  simp only [T_ex,List.all_cons,List.all_nil,Z17f,Zoc]
  decide
 rw [e1,e2,e3]
 have l1:Z1a6.length=3:=rfl
 have l2:U_ex.length=3:=rfl
 have l3:T_ex.length=1:=rfl
 rw [l1,l2,l3]
 simp only [Z1j7,Zns,Z1j,Z1kg,Z1kh,Z1ki,Z1kj]
 decide
include h hT in
theorem Z19o:Z4v [I,T]=0:=by
 unfold Z4v
 simp only [Z1kg,Z1kh,h.is,hT]
 rw [if_pos ⟨by simp,by simp⟩,if_pos]
 refine ⟨by simp [Zuf],?_⟩
 rw [List.all_cons,List.all_nil,Bool.and_true]
 exact ex_may h
theorem Zo6 {n:Int} (h1:-100000≤n) (h2:n≤100000):inK (.i .i64) n:=by
 show (Lit.int .i64 n).wf=true
 simp only [Lit.wf,Z1kr,Z1ks]
 exact ⟨Int.le_trans (by decide) h1,Int.le_trans h2 (by decide)⟩
include h hT in
theorem Zyy:Zk7 (dec I) (dec T):=by
 rw [h.is,hT]
 refine ⟨fun b hb=>?_,fun b hb=>by cases hb⟩
 rw [List.mem_singleton.1 hb]
 refine ⟨?_,?_,?_,?_⟩
 ·rw [Z3]
  exact ⟨trivial,trivial,trivial,rfl,rfl,rfl,rfl,rfl,rfl,rfl,.inl rfl,rfl,rfl,rfl,rfl,rfl,rfl,rfl,trivial⟩
 ·rw [Zoc,Z1kg,h.v]
  intro v hv
  simp only [Z1a6,List.mem_cons,List.not_mem_nil,or_false] at hv
  rcases hv with rfl | rfl | rfl <;> (rw [Z3]; exact ⟨rfl,rfl,rfl,trivial⟩)
 ·rw [Zoc,Z1kh,Z1kg,h.u]
  intro v hv
  simp only [U_ex,List.mem_cons,List.not_mem_nil,or_false] at hv
  rcases hv with rfl | rfl | rfl <;> (rw [Z3]; exact ⟨rfl,rfl,trivial⟩)
 ·rw [Zoc,Z1kh,Z1kh,Z1kg,h.t]
  intro v hv
  simp only [T_ex,List.mem_cons,List.not_mem_nil,or_false] at hv
  rw [hv,Z3]
  exact ⟨rfl,rfl,rfl,trivial⟩
def Z5p:List Int:=[-24,56,32768,0,0,-24,-24,32768,0,0,56,56,32768,0,0]
theorem Z1ey:(Z8d Z121).getD 0 0=cod [cod [-40,-40,512,0,0,-40,40,512,0,0,40,-40,512,0,0]]:=by
 have h:Z8d Z121=[Z16c Z121,0]:=by
  unfold Z8d
  rw [if_pos (by decide),if_pos (by decide)]
 have h2:Zj1 (Zqx Z121)=[[-40,-40,512,0,0,-40,40,512,0,0,40,-40,512,0,0]]:=by
  have hp:Zqx Z121=[[-40,-40,512,0,0],[-40,40,512,0,0],[40,-40,512,0,0]]:=by decide +kernel
  rw [hp,Zj1,Zj1]
  all_goals simp
 rw [h]
 unfold Z16c
 rw [h2]
 rfl
include h in
theorem ex_tri:(256::Zjv Z7t (cod (n0::n1::n2::Z1j)) (cod [0,2,1]))=Z121:=by
 have v0:∀ x y z:Int,Z1v Z7t (cod [x,y,z])=Z89 (Z7t++[x,y,z]):=fun x y z=>by
  unfold Z1v
  simp only [Zoc]
  rfl
 have w0:Z89 (Z7t++[-40,-40,512])=[-40,-40,512,0]:=by decide +kernel
 have w1:Z89 (Z7t++[40,-40,512])=[40,-40,512,0]:=by decide +kernel
 have w2:Z89 (Z7t++[-40,40,512])=[-40,40,512,0]:=by decide +kernel
 unfold Zjv Z1do
 rw [Z1ew,ex_uv,h.v,h.u]
 simp only [Zoc,Z1kg,Z1kh,show Int.toNat 0=0 from rfl,show Int.toNat 1=1 from rfl,show Int.toNat 2=2 from rfl,Z1a6,U_ex,v0,w0,w1,w2]
 rfl
include h in
theorem Z1ez:Zr8 (dec I) Z7t 0 0=[cod Z5p]:=by
 have hd:Zr8 (dec I) Z7t 0 0=Zar Z7t (cod (n0::n1::n2::Z1j)) (cod [0,2,1]):=by
  unfold Zr8
  rw [h.is]
  show Zar Z7t (cod (n0::n1::n2::Z1j)) ((Z2y (cod (n0::n1::n2::Z1j))).getD 0 0)=_
  rw [Z19n,h.t]
  rfl
 rw [hd]
 unfold Zar Z11e
 have h13:Z7t.getD 13 0=256:=rfl
 rw [h13,ex_tri h,Z1ey,Z3]
 have hsp:Zr7 Z7t (cod [-40,-40,512,0,0,-40,40,512,0,0,40,-40,512,0,0])=Z5p:=by
  unfold Zr7 Z17g
  simp only [Zoc]
  decide +kernel
 have hc:co (cod (n0::n1::n2::Z1j)) 8=0:=by rw [Zoc]; rfl
 rw [hc]
 have hp:Zug Z7t 0 (cod [-40,-40,512,0,0,-40,40,512,0,0,40,-40,512,0,0])=some (cod Z5p):=by
  unfold Zug
  rw [hsp,if_pos (by decide +kernel)]
  have:Zff (Z83 Z5p)=Z5p:=by decide +kernel
  rw [this]
 rw [List.filterMap_cons,hp,List.filterMap_nil]
end
noncomputable def Zjr:Sum:=exS Zac (Zyx [] []) [.c 0] [0]
def Zru:Inf:=⟨[],fun _=>[iv 0 0]⟩
theorem Z123:Zjr.okA Tryz.prog:=Z1gh Zrc (fun R r=>rfl) (fun e W0 s w args hrep hc=>by
 obtain ⟨I,T,n0,n1,n2,hI,hT,hs⟩:=Zjq hrep hc
 refine ⟨_,hs,⟨Zp (n:=2) rfl,Zyy hI hT⟩,?_⟩
 show [Z4v [I,T]]=[0]
 rw [Z19o hI hT])
theorem Zv7:Z1g Zjr Zru:=⟨fun _ _=>trivial,fun _ _ _ _=>Z1 ⟨Int.le_refl _,Int.le_refl _⟩ Z4⟩
def Z19p:List E:=[Z8j [cE Z5p]]
noncomputable def Zo7:Sum:=exS Zet (Zyx [An 16,I1,I1] (Z7t++[0,0])) Z19p [cod [cod Z5p]]
def Zyz:Inf:=⟨[],fun _=>[none]⟩
theorem Z19q:Zo7.okA Tryz.prog:=Z1gh Zyb (fun R r=>by
 simp only [Z19p,Z1kk,Z1kl,Z2b,Zyw]) (fun e W0 s w args hrep hc=>by
 obtain ⟨I,T,n0,n1,n2,hI,hT,hs⟩:=Zjq hrep hc
 have z:∀ n:Int,-5000≤n∧n≤5000→Ze zz n:=fun n hn=>zc n (by omega) (by omega)
 refine ⟨_,hs,⟨Z1 trivial (Z1 trivial (Z1 (z _ (by decide)) (Z1 (z _ (by decide)) (Z1 (z _ (by decide)) (Z1 (z _ (by decide)) (Z1 (z _ (by decide)) (Z1 (z _ (by decide)) (Z1 (z _ (by decide)) (Z1 (z _ (by decide)) (Z1 (z _ (by decide)) (Z1 (z _ (by decide)) (Z1 (z _ (by decide)) (Z1 (z _ (by decide)) (Z1 (z _ (by decide)) (Z1 (z _ (by decide)) (Z1 (z _ (by decide)) (Z1 (z _ (by decide)) (Z1 (z _ (by decide)) (Z1 (z _ (by decide)) Z4))))))))))))))))))),Zyy hI hT,?_,Z19o hI hT,(show Z2o Z7t 0=true by decide +kernel)⟩,?_⟩
 ·show (0:Int)≤0∧(0:Int) < ((dec I).length:Int)∧(0:Int)≤0∧(0:Int) < ((Z2y ((dec I).getD (Int.toNat 0) 0)).length:Int)
  rw [hI.is]
  show (0:Int)≤0∧(0:Int) < 1∧(0:Int)≤0∧(0:Int) < ((Z2y (cod (n0::n1::n2::Z1j))).length:Int)
  rw [Z19n,hI.t]
  decide
 ·show [cod (Zr8 (dec I) Z7t 0 0)]=[cod [cod Z5p]]
  rw [Z1ez hI])
theorem Z124:Z1g Zo7 Zyz:=⟨fun _ _=>trivial,fun _ _ _ _=>Z1 trivial Z4⟩
noncomputable def Zjs:Sum:=cnS Z4t (Z7t.map E.c) [.c 0]
def Zrv:Inf:=Zfz
theorem Z125:Zjs.okA Tryz.prog:=Z1gg (ks:=Z7t) Zis (fun R r=>Z1eu _ R r) (fun R r=>by
 show [(0:Int)]=Z41 Z7t
 decide +kernel)
theorem Zv8:Z1g Zjs Zrv:=Zee
noncomputable def Zv9:Sum:=cnS Zl9 ((Z5p++[0,2]).map E.c) ([4,20,32768,0,0,0].map E.c)
def Z19r:Inf:=Z16m
theorem Z1f0:Zv9.okA Tryz.prog:=Z1gg (ks:=Z5p++[0,2]) Z173 (fun R r=>Z1eu _ R r) (fun R r=>by
 rw [Z1eu]
 show _=Zcw (Z5p++[0,2])
 decide +kernel)
theorem Z19s:Z1g Zv9 Z19r:=Zxs
def Z19t (x:List Int):List Int:=[1]
def Z19u (v:List (Option Iv)):List (Option Iv):=[iv 1 1]
def Zo8:Sum:=mkS gl0 6 [] [Bo] [] Z19t
def Z19v:Inf:=⟨[],Z19u⟩
end Go.Proofs.YtgcoidbaoigkeaaGreatDoor.fix
namespace Go.Proofs.YtgcoidbaoigkeaaGreatDoor.fix
open Go.RowKit Go.Sx
noncomputable def Zo9:List Sum:=[Zjr,Zjs,Zo7,Zv9]
def Z19w:List Inf:=[Zru,Zrv,Zyz,Z19r]
def Z19x:TX:=(.callp 0 [] (.callp 1 [(.c 0),(.c 0),(.c 0),(.c 256),(.c 0),(.c 0),(.c 0),(.c 256),(.c 0),(.c 0),(.c 0),(.c 256),(.c 64),(.c 256),(.c 4),(.c 4)] (.callp 2 [] (.callp 3 [(.c (-24)),(.c 56),(.c 32768),(.c 0),(.c 0),(.c (-24)),(.c (-24)),(.c 32768),(.c 0),(.c 0),(.c 56),(.c 56),(.c 32768),(.c 0),(.c 0),(.c 0),(.c 2)] (.ret [(.c 1)])))))
theorem Z126:Z12 (Zr [] Z19w [] [] (Zq Tryz.prog Z7x gl0 Zo9 1000 6 [] [Bo]))=Z19x:=by kernel_rfl
theorem Z1kb:Gok Tryz.prog Zo9:=(Z1ic Z123 (Z1ic Z125 (Z1ic Z19q (fix.oneA Z1f0))))
theorem Z1kc:Zj Zo9 Z19w:=(Z2 Zv7 (Z2 Zv8 (Z2 Z124 (Z2 Z19s Z8))))
theorem Z1f1:Zo8.ok Tryz.prog:=Sum.okF facts.mixed Z1kb Z1kc Z126 rfl (fun _=>rfl) (by
 intro xs hx hp
 simp only [Z19x,Zo9,TX.sat,XB.prop,X.den,Z1kk,Z1kl,Z1ke,Z1kf,Z1ki,Z1kj,Z1kg,Z1kh,mkS,mkP,and_true,true_and,Z1kp,Z1kq,not_or,not_and,Z1km,ne_eq,Z1kn,Z1ko]
 rfl)
theorem Z19y:Z1g Zo8 Z19v:=⟨fun _ h=>h,fun _ _ _ _=>Z1 ⟨Int.le_refl _,Int.le_refl _⟩ Z4⟩
end Go.Proofs.YtgcoidbaoigkeaaGreatDoor.fix
namespace Go.Proofs.YtgcoidbaoigkeaaGreatDoor.fix
open Go.RowKit Go.Sx
theorem Z19z {b:Int} (h:okB b=true):Z36 b=true:=by
 unfold okB at h
 rw [Z1c1] at h
 simp only [Z1kr] at h
 exact h.1
theorem Z7u:∀ {ks:List K} {xs:List Int} {j:Nat} {k:K},Z9 ks xs→ks[j]?=some k→inK k (xs.getD j 0)
 | k::ks,x::xs,0,k',h,hk=>by
  simp only [Z1ke,Option.some.injEq] at hk
  subst hk
  exact h.1
 | k::ks,x::xs,j + 1,k',h,hk=>by
  simp only [Z1kf] at hk
  show inK k' (xs.getD j 0)
  exact Z7u h.2 hk
 | [],[],_,_,_,hk=>by simp at hk
 | [],_::_,_,_,h,_=>h.elim
 | _::_,[],_,_,h,_=>h.elim
theorem Z127 {b:Int} (h:Z9 Zk6 (dec b)):Z9 Z3d (dec (Z62 b)):=by
 unfold Z62
 rw [Z3]
 exact ⟨Z7u (j:=12) h rfl,Z7u (j:=13) h rfl,Z7u (j:=14) h rfl,Z7u (j:=15) h rfl,Z7u (j:=16) h rfl,Z7u (j:=17) h rfl,trivial⟩
theorem Z1f2 {L t:List Int} (hb:∀ x ∈ L,Z36 x=true) (h:Z9i L t):∀ i,i < t.length→Z36 (t.getD i 0)=true:=by
 intro i hi
 have:=Z1i9 (Z6v h.shaped) hb t.length (Nat.le_refl _) i (by omega) hi
 rwa [Z19h h] at this
theorem Zlt {L t:List Int} (hb:∀ x ∈ L,Z36 x=true) (hl:L.length≤1000) (ht:t.length≤1000) (h:Z9i L t):∀ b ∈ t,Z9 Z4u (dec b):=by
 intro b hm
 obtain ⟨i,hi,rfl⟩:=List.getElem_of_mem hm
 have hg:t.getD i 0=t[i]:=by simp [List.getD,hi]
 have h1:=(h.all i hi).1
 have h2:=Zo0 (Z1f2 hb h i hi)
 have h3:=Z6v h.shaped i hi
 rw [← hg,h1,Z3]
 generalize t.getD i 0=x at *
 have e0:=h2 0 (by decide)
 have e1:=h2 1 (by decide)
 have e2:=h2 2 (by decide)
 have e3:=h2 3 (by decide)
 have e4:=h2 4 (by decide)
 have e5:=h2 5 (by decide)
 exact ⟨Zo6 (by omega) (by omega),Zo6 (by omega) (by omega),Zo6 (by omega) (by omega),Zo6 (by omega) (by omega),Zo6 (by omega) (by omega),Zo6 (by omega) (by omega),Zo6 (by omega) (by omega),Zo6 (by omega) (by omega),Zo6 (by omega) (by omega),trivial⟩
theorem Z1kd {L t:List Int} (h:Z9i L t) (hl:L.length≤256):t.length≤511:=by
 have:=Zek h.shaped
 omega
theorem Zah {I T:Int} (h:Z4v [I,T]=0):(∀ x ∈ (dec I).map Z62,okB x=true)∧Z21 ((dec I).map Z62)=0:=by
 obtain ⟨hl,_,_,hm⟩:=Z38 h
 have h1:∀ x ∈ (dec I).map Z62,okB x=true:=fun x hx=>by
  obtain ⟨b,hb,rfl⟩:=List.mem_map.1 hx
  exact Z189 (hm b hb)
 refine ⟨h1,?_⟩
 unfold Z21
 rw [if_pos (by rw [List.length_map]; exact hl),if_pos (List.all_eq_true.2 fun x hx=>Z19z (h1 x hx))]
theorem Z1f3 {c0 c1 c2 c3 c4 c5 c6 c7 c8 c9 c10 c11 c12 c13 c14 c15 x y I T:Int} {t:List Int} (hE:Z4v [I,T]=0) (hc:Z2o [c0,c1,c2,c3,c4,c5,c6,c7,c8,c9,c10,c11,c12,c13,c14,c15] 0=true) (hp:0≤x∧x < c14∧0≤y∧y < c15) (ht:Z9i ((dec I).map Z62) t) :
  (Zan t ((dec I).map Z62) [c0,c1,c2,c3,c4,c5,c6,c7,c8,c9,c10,c11,c12,c13,c14,c15,x,y,x,y]).getD 0 0=cod (Z3k ((dec I).map Z62) [c0,c1,c2,c3,c4,c5,c6,c7,c8,c9,c10,c11,c12,c13,c14,c15,x,y,x,y] (dec I).length)∧(Zan t ((dec I).map Z62) [c0,c1,c2,c3,c4,c5,c6,c7,c8,c9,c10,c11,c12,c13,c14,c15,x,y,x,y]).getD 2 0=0:=by
 obtain ⟨h1,h2⟩:=Zah hE
 have hwin:Z20 [c0,c1,c2,c3,c4,c5,c6,c7,c8,c9,c10,c11,c12,c13,c14,c15,x,y,x,y]=0:=by
  unfold Z20
  have k1:Z2o [c0,c1,c2,c3,c4,c5,c6,c7,c8,c9,c10,c11,c12,c13,c14,c15,x,y,x,y] 0=true:=hc
  have k2:Z1hm [c0,c1,c2,c3,c4,c5,c6,c7,c8,c9,c10,c11,c12,c13,c14,c15,x,y,x,y] 16 14 15=true:=by
   rw [Z4h]
   simp only [TX.sat,XB.prop,X.den,Z1kk,Z1kl,Z1ke,Z1kf,Z1ki,Z1kj,Z1kg,Z1kh,mkS,mkP,and_true,true_and,Z1kp,Z1kq,not_or,not_and,Z1km,ne_eq,Z1kn,Z1ko,Nat.reduceAdd]
   omega
  rw [if_pos k1,if_pos k2]
 have hA:Z80 ((dec I).map Z62) [c0,c1,c2,c3,c4,c5,c6,c7,c8,c9,c10,c11,c12,c13,c14,c15,x,y,x,y]=0:=by
  unfold Z80
  rw [if_pos (by rw [List.length_map]; exact (Z38 hE).1),if_pos (List.all_eq_true.2 h1),hwin]
 have hL:Z8b t ((dec I).map Z62) [c0,c1,c2,c3,c4,c5,c6,c7,c8,c9,c10,c11,c12,c13,c14,c15,x,y,x,y]=0:=by
  unfold Z8b
  rw [if_pos (Z1k7 h2 ht),hA]
 unfold Zan
 rw [if_pos hL,List.length_map]
 exact ⟨rfl,rfl⟩
end Go.Proofs.YtgcoidbaoigkeaaGreatDoor.fix
