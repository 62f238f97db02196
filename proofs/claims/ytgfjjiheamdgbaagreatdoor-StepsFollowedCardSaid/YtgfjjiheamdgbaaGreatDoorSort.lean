/- The shelf's slices.SortFunc over rows that a call owns. No statement of the seat is proved here. -/
import Derived.Test.YtgfjjiheamdgbaaGreatDoorMore
import Derived.Test.YtgfjjiheamdgbaaGreatDoorDc
import Derived.Shelf.SlSortCmp.NoneTotal
namespace Go.Proofs.YtgfjjiheamdgbaaGreatDoor
open Go Go.Sort Go.Shelf
section
variable {α : Type} [Inhabited α] {enc : α → List Value} {k : Nat}
theorem Ti (hk : ∀ x,(enc x).length = k) : ∀ (xs : List α),(flatK enc k xs.toArray).toList = xs.flatMap enc:=by
 intro xs
 apply List.ext_getElem?
 intro i
 have hlen : (xs.flatMap enc).length = xs.length * k:=by
  induction xs with
  | nil=>simp
  | cons x xs ih=>rw [List.flatMap_cons,List.length_append,ih,hk,List.length_cons,Nat.add_mul]; omega
 by_cases hi : i < xs.length * k
 ·have hk0 : 0 < k:=by rcases Nat.eq_zero_or_pos k with h | h; (· subst h; simp at hi); exact h
  have hq : i / k < xs.length:=Nat.div_lt_of_lt_mul (by rw [Nat.mul_comm]; exact hi)
  have hr : i % k < k:=Nat.mod_lt _ hk0
  have h1 : (flatK enc k xs.toArray).toList[i]? = some ((enc xs[i / k])[i % k]'(by rw [hk]; exact hr)):=by
   have h2:=get_flatK enc k xs.toArray i (by simpa using hi)
   rw [getElem!_pos _ i (by simpa using hi)] at h2
   rw [Array.getElem?_toList,Array.getElem?_eq_getElem (by simpa using hi),h2]
   have h3 : xs.toArray[i / k]! = xs[i / k]:=by rw [getElem!_pos _ _ (by simpa using hq)]; simp
   rw [h3,getElem!_pos _ _ (by rw [hk]; exact hr)]
  rw [h1]
  have key : ∀ (xs : List α) (q r : Nat) (hq : q < xs.length) (hr : r < k),(xs.flatMap enc)[q * k + r]? = some ((enc xs[q])[r]'(by rw [hk]; exact hr)):=by
   intro xs
   induction xs with
   | nil=>intro q r hq; simp at hq
   | cons x xs ih =>
    intro q r hq hr
    rw [List.flatMap_cons]
    cases q with
    | zero =>
     rw [Nat.zero_mul,Nat.zero_add,List.getElem?_append_left (by rw [hk]; exact hr),List.getElem?_eq_getElem (by rw [hk]; exact hr)]
     simp
    | succ q =>
     rw [List.getElem?_append_right (by rw [hk,Nat.add_mul]; omega),hk,show (q + 1) * k + r - k = q * k + r by rw [Nat.add_mul]; omega,ih q r (by simpa using hq) hr]
     simp
  have:=key xs (i / k) (i % k) hq hr
  rw [Nat.div_add_mod' i k] at this
  exact this.symm
 ·rw [List.getElem?_eq_none (by simp; omega),List.getElem?_eq_none (by rw [hlen]; omega)]
theorem BD {w : World} {g : Nat} {cur : Array Value} {T : TypeId} {xs : List α} (hk : ∀ x,(enc x).length = k) (hb : w.heap[g]? = some (.cells cur T (0,0))) (ht : cur.toList.take (xs.length * k) = xs.flatMap enc) : HoldsK enc k w g 0 xs.toArray:=by
 intro j hj
 have hj' : j < xs.length * k:=by simpa using hj
 refine ⟨?_,by simp [World.frozen?,hb]⟩
 have h1 : (cur.toList.take (xs.length * k))[j]? = (flatK enc k xs.toArray).toList[j]?:=by rw [ht,Ti hk]
 rw [List.getElem?_take_of_lt hj'] at h1
 simp only [World.cell?,hb,Nat.zero_add]
 simp only [Option.isSome_none,Bool.false_eq_true,if_false]
 rw [← Array.getElem?_toList,h1,Array.getElem?_toList,Array.getElem?_eq_getElem hj]
 rw [getElem!_pos (flatK enc k xs.toArray) j hj]
 rfl
theorem Yy {w : World} {g n : Nat} {os : Array Obj} {cur : Array Value} {T : TypeId} {fr : Nat × Nat} (d : Array α) (hb : w.heap[g]? = some (.cells cur T fr)) :
  (sortWorldK enc k w g 0 n d os).heap[g]? = some (.cells (putCells id 0 (flatK enc k d) cur) T fr):=by
 have hg : g < w.heap.size:=(Array.getElem?_eq_some_iff.1 hb).1
 unfold sortWorldK
 rw [heap_grow_old _ _ (by simpa [putRowK,putRow,mapBlock,Sort.ahead] using hg)]
 simp [putRowK,putRow,mapBlock,Sort.ahead,Array.getElem?_modify,hb,onCells]
theorem Yz {w : World} {g n : Nat} {os : Array Obj} (d : Array α) : Keep [g] w (sortWorldK enc k w g 0 n d os):=by
 refine ⟨rfl,rfl,rfl,by simp [sortWorldK,putRowK,putRow,mapBlock,Sort.ahead,grow],fun b hb hne=>?_⟩
 unfold sortWorldK
 rw [heap_grow_old _ _ (by simpa [putRowK,putRow,mapBlock,Sort.ahead] using hb)]
 have : g ≠ b:=fun e=>hne (by simp [e])
 simp [putRowK,putRow,mapBlock,Sort.ahead,Array.getElem?_modify,this]
theorem CW (hk : ∀ x,(enc x).length = k) (cur : Array Value) (ts : List α) (h : ts.length * k ≤ cur.size) : (putCells id 0 (flatK enc k ts.toArray) cur).toList.take (ts.length * k) = ts.flatMap enc:=by
 rw [← Ti hk]
 apply List.ext_getElem?
 intro j
 by_cases hj : j < ts.length * k
 ·have hj2 : j < (flatK enc k ts.toArray).size:=by simpa using hj
  rw [List.getElem?_take_of_lt hj,Array.getElem?_toList,Array.getElem?_toList,Array.getElem?_eq_getElem hj2]
  simp only [putCells,Array.getElem?_mapIdx,show j < cur.size by omega,Array.getElem?_eq_getElem,Option.map_some,Nat.zero_le,Nat.zero_add,hj2,and_self,if_true,Nat.sub_zero,id]
  rw [getElem!_pos (flatK enc k ts.toArray) j hj2]
 ·rw [List.getElem?_take_eq_none (by omega),List.getElem?_eq_none (by simp; omega)]
omit [Inhabited α] in
theorem EC {cf : α → α → Int} {xs : List α} (h : So cf xs) : SWO (ltOf cf) where
 irrefl x:=by simp only [ltOf,decide_eq_false_iff_not]; exact h.1 x
 trans x y z h1 h2:=by simp only [ltOf,decide_eq_true_eq] at *; exact h.2.1 x y z h1 h2
 ntrans x y z h1 h2:=by simp only [ltOf,decide_eq_false_iff_not] at *; exact h.2.2.1 x y z h1 h2
theorem sort_is {cf : α → α → Int} {xs : List α} (h : So cf xs) {d' : Array α} (hP : PermIn 0 xs.toArray.size xs.toArray d') (hSo : SortedIn (ltOf cf) 0 xs.toArray.size d') : d'.toList = Lv cf xs:=by
 obtain ⟨hsz,_,hperm⟩:=hP
 have e1 : d'.extract 0 xs.toArray.size = d':=by rw [← hsz]; exact Array.extract_size
 rw [e1,Array.extract_size] at hperm
 have hpx : d'.toList.Perm xs:=hperm
 have hsx : (Lv cf xs).Perm xs:=List.mergeSort_perm _ _
 refine List.Perm.eq_of_pairwise (le:=fun x y=>(!decide (cf y x < 0)) = true) ?_ ?_ ?_ (hpx.trans hsx.symm)
 ·intro a b ha hb h1 h2
  simp only [Bool.not_eq_true',decide_eq_false_iff_not] at h1 h2
  exact h.2.2.2 a (hpx.subset ha) b (hsx.subset hb) h2 h1
 ·rw [List.pairwise_iff_getElem]
  intro i j hi hj hij
  have hi' : i < d'.size:=by simpa using hi
  have hj' : j < d'.size:=by simpa using hj
  have:=hSo i j (Nat.zero_le _) hij (by omega)
  rw [getElem!_pos d' j hj',getElem!_pos d' i hi'] at this
  simpa [ltOf] using this
 ·refine List.pairwise_mergeSort ?_ ?_ _
  ·intro a b c h1 h2
   simp only [Bool.not_eq_true',decide_eq_false_iff_not] at h1 h2 ⊢
   exact h.2.2.1 c b a h2 h1
  ·intro a b
   by_cases h1 : cf b a < 0
   ·have : ¬ cf a b < 0:=fun h2=>h.1 a (h.2.1 a b a h2 h1)
    simp [this]
   ·simp [h1]
theorem ED {P : Program} {ρ : Ren} (L : SlLaysF0.n6 P ρ) (aE : ∀ w,(isAgg (ρ.t 24)).run P w = .ok true w) (zE : ∀ w,(Go.sizeOf (ρ.t 24)).run P w = .ok k w) (he : Enc k enc) {cf : α → α → Int} {g : Nat} (eg : ∀ args w,(callFunc g args).run P w = .ok (.enter g args) w)
  (hcmp : ∀ w x y,Calls P g #[.agg (enc x).toArray,.agg (enc y).toArray] w (D.Ret w [] fun _ v _=>v = .int .i64 (cf x y)))
  {xs : List α} (hg : So cf xs) (hl : xs.length < 4611686018427387904) {T : TypeId} {v : Value} {w : World} (ho : (LEnt.own v T k xs.length (xs.flatMap enc)).holds w) :
  Calls P (ρ.f 6) #[v,.func (.func g) #[] #[]] w (Ret w v.ownBlock.toList fun _ r w'=>(LEnt.own v T k (Lv cf xs).length ((Lv cf xs).flatMap enc)).holds w' ∧ r = .tuple #[]):=by
 have hlen : (Lv cf xs).length = xs.length:=List.length_mergeSort _
 have hown : w.ownsRow 0 T k v xs.length (xs.flatMap enc):=ho
 rcases hown.2 with ⟨rfl,h0⟩ | ⟨b,cap,cur,rfl,hbase,hb,h1,h2,h3,h4⟩
 ·obtain rfl : xs = []:=List.length_eq_zero_iff.1 h0
  refine (AnyF.slices_SortFunc_none L none 0 _ w).mono ?_
  rintro e w' ⟨rfl,rfl⟩
  exact ⟨_,rfl,Keep.refl _ _,⟨by simp [Lv],.inl ⟨rfl,by simp [Lv]⟩⟩,rfl⟩
 ·have hc : CmpLays P g #[] enc k cf b 0 xs.toArray.size w:=fun m os dk _ x y=>(hcmp _ x y).mono fun e w' ⟨u,h5,h6,h7⟩=>by subst h7; exact ⟨h5,D.grown_of h6⟩
  have c:=AnyQ.slices_SortFunc L k aE zE enc he.len he.one cf (EC hg) g #[] b 0 cap xs.toArray w eg hc (BD he.len hb h4) (Array.getElem?_eq_some_iff.1 hb).1 (by simpa using hl)
  rw [List.size_toArray] at c
  refine c.mono ?_
  rintro e w' ⟨rfl,d',n,os,hp,hs,rfl⟩
  have hd:=sort_is hg (by simpa using hp) (by simpa using hs)
  refine ⟨_,rfl,Yz d',⟨?_,.inr ⟨b,cap,_,by rw [hlen],hbase,Yy d' hb,by rw [hlen]; exact h1,h2,by simp [putCells,h3],?_⟩⟩,rfl⟩
  ·have:=Ti (enc:=enc) he.len (Lv cf xs)
   have h6:=congrArg List.length this
   simpa using h6.symm
  ·have hdd : d' = (Lv cf xs).toArray:=by rw [← hd]
   rw [hdd]
   exact CW he.len cur _ (by rw [hlen,h3]; exact Nat.mul_le_mul_right k h1)
end
end Go.Proofs.YtgfjjiheamdgbaaGreatDoor
