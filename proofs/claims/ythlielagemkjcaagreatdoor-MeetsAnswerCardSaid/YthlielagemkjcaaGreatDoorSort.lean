/- The shelf's slices.SortFunc over rows that a call owns. No statement here. -/
import Derived.Test.YthlielagemkjcaaGreatDoorMore
import Derived.Sort.Grow
import Derived.Deep.Draws
import Derived.Shelf.SlSortCmp.NoneTotal
namespace Go.Proofs.YthlielagemkjcaaGreatDoor
open Go Go.Sort Go.Shelf
section
variable {α:Type}[Inhabited α]{enc:α->List Value}{k:Nat}
theorem TP(hk:∀x,(enc x).length=k):∀(xs:List α),(flatK enc k xs.toArray).toList=xs.flatMap enc:=by
 intro xs;apply List.ext_getElem?;intro i;have hlen:(xs.flatMap enc).length=xs.length*k:=by
  induction xs with
  |nil=>simp
  |cons x xs ih=>rw[List.flatMap_cons,aU,ih,hk,aT,Nat.add_mul];omega
 by_cases hi:i<xs.length*k
 ·have hk0:0<k:=by rcases Nat.eq_zero_or_pos k with h|h;(· subst h;simp at hi);exact h
  have hq:i / k<xs.length:=Nat.div_lt_of_lt_mul (by rw[Nat.mul_comm];exact hi);have hr:i % k<k:=Nat.mod_lt _ hk0;have h1:(flatK enc k xs.toArray).toList[i]? =some ((enc xs[i / k])[i % k]'(by rw[hk];exact hr)):=by
   have h2:=get_flatK enc k xs.toArray i (by simpa using hi);rw[getElem!_pos _ i (by simpa using hi)] at h2;rw[Array.getElem?_toList,Array.getElem?_eq_getElem (by simpa using hi),h2];have h3:xs.toArray[i / k]! =xs[i / k]:=by rw[getElem!_pos _ _ (by simpa using hq)];simp
   rw[h3,getElem!_pos _ _ (by rw[hk];exact hr)]
  rw[h1];have key:∀(xs:List α) (q r:Nat) (hq:q<xs.length) (hr:r<k),(xs.flatMap enc)[q*k+r]? =some ((enc xs[q])[r]'(by rw[hk];exact hr)):=by
   intro xs
   induction xs with
   |nil=>intro q r hq;simp at hq
   |cons x xs ih=>
    intro q r hq hr;rw[List.flatMap_cons]
    cases q with
    |zero=>
     rw[Nat.zero_mul,Nat.zero_add,List.getElem?_append_left (by rw[hk];exact hr),List.getElem?_eq_getElem (by rw[hk];exact hr)];simp
    |succ q=>
     rw[List.getElem?_append_right (by rw[hk,Nat.add_mul];omega),hk,show (q+1)*k+r-k=q*k+r by rw[Nat.add_mul];omega,ih q r (by simpa using hq) hr];simp
  have:=key xs (i / k) (i % k) hq hr;rw[Nat.div_add_mod' i k] at this;exact this.symm
 ·rw[List.getElem?_eq_none aD,List.getElem?_eq_none (by rw[hlen];omega)]
theorem Alf{w:World}{g:Nat}{cur:Array Value}{T:TypeId}{xs:List α}(hk:∀x,(enc x).length=k)(hb:w.heap[g]? =some (.cells cur T (0,0)))(ht:cur.toList.take (xs.length*k)=xs.flatMap enc):HoldsK enc k w g 0 xs.toArray:=by
 intro j hj;have hj':j<xs.length*k:=by simpa using hj
 refine⟨?_,by simp[World.frozen?,hb]⟩;have h1:(cur.toList.take (xs.length*k))[j]? =(flatK enc k xs.toArray).toList[j]?:=by rw[ht,TP hk]
 rw[List.getElem?_take_of_lt hj'] at h1;simp only[World.cell?,hb,Nat.zero_add];simp only[Option.isSome_none,aO,aR];rw[←Array.getElem?_toList,h1,Array.getElem?_toList,Array.getElem?_eq_getElem hj];rw[getElem!_pos (flatK enc k xs.toArray) j hj];rfl
theorem Afi{w:World}{g n:Nat}{os:Array Obj}{cur:Array Value}{T:TypeId}{fr:Nat×Nat}(d:Array α)(hb:w.heap[g]? =some (.cells cur T fr)):
 (sortWorldK enc k w g 0 n d os).heap[g]? =some (.cells (putCells id 0 (flatK enc k d) cur) T fr):=by
 have hg:g<w.heap.size:=(Array.getElem?_eq_some_iff.1 hb).1;unfold sortWorldK;rw[heap_grow_old _ _ (by simpa[putRowK,putRow,mapBlock,Sort.ahead] using hg)];simp[putRowK,putRow,mapBlock,Sort.ahead,Array.getElem?_modify,hb,onCells]
theorem Afj{w:World}{g n:Nat}{os:Array Obj}(d:Array α):Keep [g] w (sortWorldK enc k w g 0 n d os):=by
 refine⟨rfl,rfl,rfl,by simp[sortWorldK,putRowK,putRow,mapBlock,Sort.ahead,grow],λb hb hne=>?_⟩;unfold sortWorldK;rw[heap_grow_old _ _ (by simpa[putRowK,putRow,mapBlock,Sort.ahead] using hb)];have:g≠b:=λe=>hne (by simp[e]);simp[putRowK,putRow,mapBlock,Sort.ahead,Array.getElem?_modify,this]
theorem Aqa(hk:∀x,(enc x).length=k)(cur:Array Value)(ts:List α)(h:ts.length*k<=cur.size):(putCells id 0 (flatK enc k ts.toArray) cur).toList.take (ts.length*k)=ts.flatMap enc:=by
 rw[←TP hk];apply List.ext_getElem?;intro j
 by_cases hj:j<ts.length*k
 ·have hj2:j<(flatK enc k ts.toArray).size:=by simpa using hj
  rw[List.getElem?_take_of_lt hj,Array.getElem?_toList,Array.getElem?_toList,Array.getElem?_eq_getElem hj2];simp only[putCells,Array.getElem?_mapIdx,show j<cur.size by omega,Array.getElem?_eq_getElem,Option.map_some,Nat.zero_le,Nat.zero_add,hj2,and_self,aS,Nat.sub_zero,id];rw[getElem!_pos (flatK enc k ts.toArray) j hj2]
 ·rw[List.getElem?_take_eq_none aA,List.getElem?_eq_none aD]
omit [Inhabited α] in
theorem sort_swo{cf:α->α->Int}{xs:List α}(h:YL cf xs):SWO (ltOf cf) where
 irrefl x:=by simp only[ltOf,aL];exact h.1 x
 trans x y z h1 h2:=by simp only[ltOf,aK] at*;exact h.2.1 x y z h1 h2
 ntrans x y z h1 h2:=by simp only[ltOf,aL] at*;exact h.2.2.1 x y z h1 h2
theorem sort_is{cf:α->α->Int}{xs:List α}(h:YL cf xs){d':Array α}(hP:PermIn 0 xs.toArray.size xs.toArray d')(hSo:SortedIn (ltOf cf) 0 xs.toArray.size d'):d'.toList=Nc cf xs:=by
 obtain⟨hsz,_,hperm⟩:=hP;have e1:d'.extract 0 xs.toArray.size=d':=by rw[←hsz];exact Array.extract_size
 rw[e1,Array.extract_size] at hperm;have hpx:d'.toList.Perm xs:=hperm;have hsx:(Nc cf xs).Perm xs:=List.mergeSort_perm _ _;refine List.Perm.eq_of_pairwise (le:=λx y=>(!decide (cf y x<0))=true) ?_ ?_ ?_ (hpx.trans hsx.symm)
 ·intro a b ha hb h1 h2;simp only[Bool.not_eq_true',aL] at h1 h2;exact h.2.2.2 a (hpx.subset ha) b (hsx.subset hb) h2 h1
 ·rw[List.pairwise_iff_getElem];intro i j hi hj hij;have hi':i<d'.size:=by simpa using hi
  have hj':j<d'.size:=by simpa using hj
  have:=hSo i j (Nat.zero_le _) hij aA;rw[getElem!_pos d' j hj',getElem!_pos d' i hi'] at this;simpa[ltOf] using this
 ·refine List.pairwise_mergeSort ?_ ?_ _
  ·intro a b c h1 h2;simp only[Bool.not_eq_true',aL] at h1 h2 ⊢;exact h.2.2.1 c b a h2 h1
  ·intro a b
   by_cases h1:cf b a<0
   ·have:¬cf a b<0:=λh2=>h.1 a (h.2.1 a b a h2 h1);simp[this]
   ·simp[h1]
theorem sort_own{P:Program}{ρ:Ren}(L:SlLaysF0.n6 P ρ)(aE:∀w,(isAgg (ρ.t 24)).run P w= .ok true w)(zE:∀w,(Go.sizeOf (ρ.t 24)).run P w= .ok k w)(he:Enc k enc){cf:α->α->Int}{g:Nat}(eg:∀args w,(callFunc g args).run P w= .ok (.enter g args) w)
 (hcmp:∀x y (W:World),Calls P g #[.agg (enc x).toArray,.agg (enc y).toArray] W λe w'=>e= .returned (.int .i64 (cf x y))/\∃q os',w'=grow (W.drewN q) os')
 {xs:List α} (hg:YL cf xs) (hl:xs.length<4611686018427387904) {T:TypeId} {v:Value} {w:World} (ho:(LEnt.own v T k xs.length (xs.flatMap enc)).holds w):
 Calls P (ρ.f 6) #[v,.func (.func g) #[] #[]] w (Ret w v.ownBlock.toList λ_ r w'=>(LEnt.own v T k (Nc cf xs).length ((Nc cf xs).flatMap enc)).holds w'/\r= .tuple #[]):=by
 have hlen:(Nc cf xs).length=xs.length:=List.length_mergeSort _;have hown:w.ownsRow 0 T k v xs.length (xs.flatMap enc):=ho;rcases hown.2 with ⟨rfl,h0⟩|⟨b,cap,cur,rfl,hbase,hb,h1,h2,h3,h4⟩
 ·obtain rfl:xs=[]:=List.length_eq_zero_iff.1 h0;refine(AnyF.slices_SortFunc_none L none 0 _ w).mono ?_;rintro e w' ⟨rfl,rfl⟩;exact⟨_,rfl,Keep.refl _ _,⟨by simp[Nc],.inl ⟨rfl,by simp[Nc]⟩⟩,rfl⟩
 ·have hc:CmpLays P g #[] enc k cf b 0 xs.toArray.size w:=λm os dk _ x y=>hcmp x y _;have c:=AnyQ.slices_SortFunc L k aE zE enc he.len he.one cf (sort_swo hg) g #[] b 0 cap xs.toArray w eg hc (Alf he.len hb h4) (Array.getElem?_eq_some_iff.1 hb).1 (by simpa using hl);rw[List.size_toArray] at c;refine c.mono ?_;rintro e w' ⟨rfl,d',n,os,hp,hs,rfl⟩;have hd:=sort_is hg (by simpa using hp) (by simpa using hs);refine⟨_,rfl,Afj d',⟨?_,.inr ⟨b,cap,_,by rw[hlen],hbase,Afi d' hb,by rw[hlen];exact h1,h2,by simp[putCells,h3],?_⟩⟩,rfl⟩
  ·have:=TP (enc:=enc) he.len (Nc cf xs);have h6:=congrArg List.length this;simpa using h6.symm
  ·have hdd:d'=(Nc cf xs).toArray:=by rw[←hd]
   rw[hdd];exact Aqa he.len cur _ (by rw[hlen,h3];exact Nat.mul_le_mul_right k h1)
theorem NC{P:Program}{ρ:Ren}(L:SlLaysF0.n6 P ρ)(aE:∀w,(isAgg (ρ.t 24)).run P w= .ok true w)(zE:∀w,(Go.sizeOf (ρ.t 24)).run P w= .ok k w)(he:Enc k enc){cf:α->α->Int}{g:Nat}(eg:∀args w,(callFunc g args).run P w= .ok (.enter g args) w)
 (hcmp:∀x y (W:World),Calls P g #[.agg (enc x).toArray,.agg (enc y).toArray] W λe w'=>e= .returned (.int .i64 (cf x y))/\∃q os',w'=grow (W.drewN q) os')
 {xs:List α} (hg:HC cf xs) (hl:xs.length<4611686018427387904) {T:TypeId} {v:Value} {w:World} (ho:(LEnt.own v T k xs.length (xs.flatMap enc)).holds w):
 Calls P (ρ.f 6) #[v,.func (.func g) #[] #[]] w (Ret w v.ownBlock.toList λ_ r w'=>(LEnt.own v T k (Nc cf xs).length ((Nc cf xs).flatMap enc)).holds w'/\r= .tuple #[]):=by
 let ys:List {x:α // x∈default::xs}:=xs.attachWith (λx=>x∈default::xs) λx hx=>aM _ hx
 haveI:Inhabited {x:α // x∈default::xs}:=⟨⟨default,aN⟩⟩
 have hy:ys.map (λi=>i.1)=xs:=by
  have:=List.attachWith_map_val (f:=λx:α=>x) (l:=xs) (p:=λx=>x∈default::xs) λx hx=>aM _ hx;rw[List.map_id''] at this
  ·exact this
  ·exact λ_=>rfl
 have hflat:∀zs:List {x:α // x∈default::xs},zs.flatMap (λb=>enc b.1)=(zs.map λi=>i.1).flatMap enc:=λzs=>by rw[List.flatMap_map]
 have hlen:ys.length=xs.length:=by rw[←congrArg List.length hy,aV]
 have hgood:YL (λa b:{x:α // x∈default::xs}=>cf a.1 b.1) ys:=by
  refine⟨λx=>hg.1 x.1 x.2,λx y z=>hg.2.1 _ x.2 _ y.2 _ z.2,λx y z=>hg.2.2.1 _ x.2 _ y.2 _ z.2,λx hx y hy' h1 h2=>Subtype.ext (hg.2.2.2 x.1 ?_ y.1 ?_ h1 h2)⟩
  ·have:=bJ (f:=λi:{x:α // x∈default::xs}=>i.1) hx
   rwa [hy] at this
  ·have:=bJ (f:=λi:{x:α // x∈default::xs}=>i.1) hy'
   rwa [hy] at this
 have he':Enc k (λb:{x:α // x∈default::xs}=>enc b.1):=⟨λx=>he.len x.1,λx=>he.one x.1⟩;have hs:(Nc (λa b:{x:α // x∈default::xs}=>cf a.1 b.1) ys).map (λi=>i.1)=Nc cf xs:=by
  unfold Nc;rw[List.map_mergeSort (s:=λx y=>!decide (cf y x<0)) (λ_ _ _ _=>rfl),hy]
 have hsl:(Nc (λa b:{x:α // x∈default::xs}=>cf a.1 b.1) ys).length=(Nc cf xs).length:=by rw[←hs,aV]
 have c:=sort_own (enc:=λb:{x:α // x∈default::xs}=>enc b.1) L aE zE he' eg (λx y W=>hcmp x.1 y.1 W) hgood (by rw[hlen];exact hl) (T:=T) (v:=v) (w:=w) (by rw[hlen,hflat,hy];exact ho);refine c.mono ?_;rintro e w' ⟨u,h1,h2,h3,h4⟩;rw[hsl,hflat,hs] at h3;exact⟨u,h1,h2,h3,h4⟩
end
end Go.Proofs.YthlielagemkjcaaGreatDoor
