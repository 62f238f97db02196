/- Points of clubs: a map of sixtieths,and its entries in the order of their keys. No program stands here but its twins. -/
import Derived.Test.YtbicihdhkkjigaaGreatDoorPResults
import Derived.Test.YtbicihdhkkjigaaGreatDoorPDeedMerge
namespace Go.Proofs.YtbicihdhkkjigaaGreatDoor
open Go
theorem cB_nn{s t u:ByteArray}(h1:¬cB s t<0)(h2:¬cB t u<0):¬cB s u<0:=by
 intro h;have f1:=BD s t;have f2:=BD t u
 by_cases e:cB t u=0
 ·rw[GF e] at h1;exact h1 h
 ·have:=BS h (show cB u t<0 by omega);omega
section
variable {α:Type}[Inhabited α]{f:α->ByteArray}{c:α->α->Int}(hc:∀x y,c x y=cB (f x) (f y))
omit [Inhabited α] in
theorem nd_inj{l:List α}(h:(l.map f).Nodup){x y:α}(hx:x∈l)(hy:y∈l)(e:f x=f y):x=y:=by
 induction l with
 |nil=>cases hx
 |cons a l ih=>
  simp only[aY,bT] at h;rcases bB.1 hx with hx1|hx1<;>rcases bB.1 hy with hy1|hy1
  ·rw[hx1,hy1]
  ·exact(h.1 (by rw[←hx1,e];exact bJ hy1)).elim
  ·exact(h.1 (by rw[←hy1,←e];exact bJ hx1)).elim
  ·exact ih h.2 hx1 hy1
include hc
theorem PS{l:List α}(h:(l.map f).Nodup):BH c l:=by
 refine⟨λx _=>by rw[hc,Xo];omega,λx _ y _ z _ h1 h2=>by rw[hc] at*;exact BS h1 h2,λx _ y _ z _ h1 h2=>by rw[hc] at*;exact cB_nn h1 h2,λx hx y hy h1 h2=>?_⟩;rw[hc] at h1 h2;have:=BD (f x) (f y);exact nd_inj h hx hy (GF aA)
omit [Inhabited α] in
theorem NN{l:List α}(h:(l.map f).Nodup):Pa c l=Rq (λx y=>decide (c x y<0)) l:=by
 have hp:(Pa c l).Perm l:=List.mergeSort_perm _ _;have tot:∀{l:List α},(l.map f).Nodup->l.Pairwise λa b=>decide (c b a<0)=false->decide (c a b<0)=true:=λ{l} h=>(List.pairwise_map.1 h).imp λ{a b} hne hb=>by
  rw[hc,aL] at hb;rw[hc,aK];have h0:cB (f a) (f b)≠0:=λe=>hne (GF e);have:=BD (f a) (f b);omega
 refine(JB (λx=>by rw[hc,Xo];rfl) (λx y z h1 h2=>by rw[hc,aK] at*;exact BS h1 h2) _ _ (tot h) ?_ λx=>hp.mem_iff.symm).symm;have hs:(Pa c l).Pairwise λx y=>(!decide (c y x<0))=true:=List.pairwise_mergeSort (λa b d h1 h2=>by
  simp only[Bool.not_eq_true',aL,hc] at h1 h2 ⊢;exact cB_nn h2 h1) (λa b=>by
  have:=BD (f a) (f b);simp only[hc]
  by_cases h1:cB (f b) (f a)<0
  ·have:¬cB (f a) (f b)<0:=by omega
   simp[this]
  ·simp[h1]) _
 exact(hs.and (tot ((hp.map _).nodup_iff.2 h))).imp λ{a b} hab=>hab.2 (by simpa using hab.1)
end
theorem sortE_is{l:List An}(h:(l.map (·.Who)).Nodup)(hl:l.length<=1000000):Lf l=some (Rq ltW l):=by
 unfold Lf;rw[aQ ⟨PS (f:=An.Who) (λ_ _=>rfl) h,by omega⟩];exact congrArg some (NN (f:=An.Who) (λ_ _=>rfl) h)
theorem sortR_is{l:List An}(h:(l.map (·.Who)).Nodup)(hl:l.length<=1000000):Jl l=some (Rq ltW l):=by
 unfold Jl;rw[aQ ⟨PS (f:=An.Who) (λ_ _=>rfl) h,by omega⟩];exact congrArg some (NN (f:=An.Who) (λ_ _=>rfl) h)
theorem CG(p:Lc)(l:List An)(race:ByteArray)(hl:l.length<=100000):Ur p l race=some (AW race l):=by
 have ho:=WR race l;have hml:=JE race l;unfold Ur;simp only[Ht];rw[BT];refine allP_is λq hq=>?_;have hql:q.length=(OE race l).length:=hq.length_eq;have hnd:(((OE race l).map (·.2)).map (·.Who)).Nodup:=by rw[NE ho];exact ho.nd
 have hp:(q.map (·.2)).Perm ((OE race l).map (·.2)):=hq.map _;have hqn:=(hp.map (·.Who)).nodup_iff.2 hnd;rw[ND _ q [] aD,aZ,sortE_is hqn (by rw[aV];omega)];simp only[aG]
 congr 1
 exact JB RC GH _ _ (LP hqn) (GG GH _ (LP hnd)) λx=>by rw[hp.mem_iff];exact(AC _ _ _).symm
theorem JG(P:List An)(hl:P.length<=100000)(h4:∀a∈P,a.Kind≠4)(i:Nat)(self:Int->List An->Option Bool):
 ∀(d m j:Nat),P.length=j+d->d<m->Hr P (i:Int) self (some true) m (j:Int)=some true
 |d,0,j,_,h=>by omega
 |0,m+1,j,h,_=>by rw[Hr,aP aD]
 |d+1,m+1,j,h,hm=>by
  have ih:=JG P hl h4 i self d m (j+1) aA aA
  have bj:inB (j:Int) P.length=true:=Ha.2 aA
  have hk:=h4 _ (List.mem_of_getElem? (Ef bj).1)
  have hw:W ((j:Int)+1)=((j+1:Nat):Int):=by rw[Jz aA aA];rfl
  rw[Hr,aQ (aH (by omega:(j:Int)<(P.length:Int)))]
  simp only[Ht,hw,Gl bj,ih]
  rw[aP (by simpa using hk)]
  simp
theorem PT(at_:Int):∀(P:List An),(∀a∈P,a.Kind≠4)->∀e,Wy at_ P e=false
 |[],_,_=>rfl
 |z::P,h,e=>by
  have h1:=h z aN
  rw[Wy,PT at_ P (λq hq=>h q (aM _ hq)) e,aI h1]
  simp
theorem PU(P:List An)(hl:P.length<=100000)(h4:∀a∈P,a.Kind≠4)(j:List Int->Option (List Int)):∀(d m i:Nat) (x:List Int),P.length=i+d->d<m->x.length<=i->Iz P j m x (i:Int)=j (x++(List.range' i d).map fun(k:Nat)=>(k:Int))
 |d,0,i,x,_,h,_=>by omega
 |0,m+1,i,x,h,_,_=>by
  rw[Iz,aP aD]
  simp
 |d+1,m+1,i,x,h,hm,hx=>by
  have hw:W ((i:Int)+1)=((i+1:Nat):Int):=by rw[Jz aA aA];rfl
  rw[Iz,aQ (aH (by omega:(i:Int)<(P.length:Int)))]
  simp only[Ht,hw]
  have hc:Jp 16 (i:Int) P=some true:=by
   unfold Jp Qi;rw[Ht,hw];exact JG P hl h4 i _ (P.length-(i+1)) _ (i+1) aA aA
  rw[hc,List.range'_succ];simp only[aG,aS];rw[Gl (by unfold Ok;exact aH aA),PU P hl h4 j d m (i+1) _ aA aA aD];simp
def KG(l:List An):Prop:=l.length<=16\/(l.length<=1000/\∀a∈l,a.Kind≠4)
theorem KG.len{l:List An}(h:KG l):l.length<=1000:=by
 rcases h with h|h
 ·omega
 ·exact h.1
theorem RG(l:List An)(at_:Int)(hf:KG l)(hs:l.Pairwise λx y=>x.At<=y.At):Qa l at_=some ((NA l at_).map fun(i:Nat)=>(i:Int)):=by
 rcases hf with hl|⟨hl,h4⟩
 ·obtain⟨r,h1,h2⟩:=OF l at_ hl hs;rw[FK l at_ aA] at h1;rw[h2,←h1]
 ·obtain⟨A,Q,e,h1,h2⟩:=KE at_ l hs;have hflt:(l.filter λy=>decide (y.At<=at_))=A:=by
   rw[e,List.filter_append,List.filter_eq_self.2 λa ha=>aH (h1 a ha),List.filter_eq_nil_iff.2 λq hq=>by have:=h2 q hq;simp;omega,List.append_nil]
  have hAl:A.length<=l.length:=by rw[e];simp
  unfold Qa;simp only[Ht];rw[DT at_ _ l 0 [] aD,aZ,hflt];have h3:=PU A aA (λa ha=>h4 a (by rw[e];exact List.mem_append_left _ ha)) (λx4=>some x4) A.length (((A.length:Int)-0).toNat+2) 0 [] aA aA aB;rw[aZ] at h3;refine Eq.trans h3 ?_;rw[RD,←List.range_eq_range']
  congr 2
  have hlen:l.length=A.length+Q.length:=by rw[e];simp
  rw[hlen,List.range_add,List.filter_append];have hu:∀k e,Wy at_ (l.drop k) e=false:=λk e=>PT at_ _ (λa ha=>h4 a (List.mem_of_mem_drop ha)) e;have hat:∀k:Nat,okB at_ l k=decide ((nth l (k:Int)).At<=at_):=λk=>by unfold okB;rw[hu];simp
  have hq:(List.map (λx=>A.length+x) (List.range Q.length)).filter (okB at_ l)=[]:=by
   rw[List.filter_eq_nil_iff];intro k hk;obtain⟨q,hq,rfl⟩:=bD.1 hk;rw[List.mem_range] at hq;have hn:nth l ((A.length+q:Nat):Int)=Q[q]:=by
    rw[e];unfold nth;rw[bI];simp[List.getD,List.getElem?_append_right,List.getElem?_eq_getElem hq]
   have:=h2 _ (List.getElem_mem hq);rw[hat,hn];simp;omega
  have ha:(List.range A.length).filter (okB at_ l)=List.range A.length:=by
   rw[List.filter_eq_self];intro k hk;rw[List.mem_range] at hk;have hn:nth l (k:Int)=A[k]:=by
    rw[e];unfold nth;rw[bI];simp[List.getD,List.getElem?_append_left hk,List.getElem?_eq_getElem hk]
   have:=h1 _ (List.getElem_mem hk);rw[hat,hn];simpa using this
  rw[hq,ha,List.append_nil]
theorem XB(l:List An)(j:List An->Option (List An)):∀(is:List Nat) (k:Nat) (x:List An),(∀i∈is,i<l.length)->x.length+is.length<=1000000->
 Nb l j (is.map fun(i:Nat)=>(i:Int)) k x=j (x++is.map fun(i:Nat)=>nth l (i:Int))
 |[],k,x,_,_=>by simp[Nb]
 |i::is,k,x,h,hl=>by
  simp only[aT] at hl
  rw[aY,Nb,Gl (Ha.2 (by have:=h i aN;omega)),Gl (by unfold Ok;exact aH aA),XB l j is (k+1) _ (λz hz=>h z (aM _ hz)) aD]
  simp
theorem PV(l:List An)(at_:Int)(hf:KG l)(hs:l.Pairwise λx y=>x.At<=y.At):Vn l at_=some (Jw l at_):=by
 unfold Vn;rw[RG l at_ hf hs];simp only[aG,Ht];have hl:=hf.len;have hc:(NA l at_).length<=l.length:=by rw[RD];exact Nat.le_trans (List.length_filter_le _ _) aB
 rw[XB l _ _ 0 [] (λi hi=>WO hi) aD,aZ,NB]
theorem idxE_l(race:ByteArray)(d:An):∀(l:List An) (i:Nat),decide (0<=Gd race d (-1) l i)=l.any λo=>Kj o race d
 |[],i=>rfl
 |y::l,i=>by
  rw[Gd,List.any_cons]
  by_cases h:Kj y race d=true
  ·rw[aQ h,h];simp
  ·rw[aP h,idxE_l race d l (i+1)]
   simp[h]
def BA(race:ByteArray):List An->List An
 |[]=>[]
 |d::l=>if(decide (d.Kind=1) && decide (d.Race=race)) && !(l.any λo=>Kj o race d) then d::BA race l else BA race l
theorem PW(race:ByteArray):∀l:List An,(BA race l).length<=l.length
 |[]=>bU _
 |d::l=>by
  have:=PW race l
  unfold BA
  split
  ·simp only[aT];omega
  ·simp only[aT];omega
theorem US(race:ByteArray)(j:List An->Option (List An))(F:List An)(hF:F.length<=100000):∀(ys dn x:List An),F=dn++ys->x.length<=dn.length->Ls F race j ys dn.length x=j (x++BA race ys)
 |[],dn,x,_,_=>by simp[Ls,BA]
 |y::ys,dn,x,h,hx=>by
  have hlen:F.length=dn.length+(ys.length+1):=by rw[h];simp
  have hw:W ((dn.length:Int)+1)=((dn.length+1:Nat):Int):=by rw[Jz aA aA];rfl
  have hcut:cut F ((dn.length+1:Nat):Int) (F.length:Int)=ys:=by
   unfold cut;rw[bI,bI,List.take_length,h];have:dn++y::ys=(dn++[y])++ys:=by simp
   rw[this,List.drop_left' aB]
  have hc:Hd ys race y=ys.any λo=>Kj o race y:=by
   unfold Hd Mh;rw[Ht,idxE_l]
  rw[Ls];simp only[Ht,hw];rw[Gl (Qs.2 aA),hcut,hc,BA];have e:F=(dn++[y])++ys:=by rw[h];simp
  by_cases hk:((decide (y.Kind=1) && decide (y.Race=race)) && !(ys.any λo=>Kj o race y))=true
  ·rw[aQ hk,aQ hk,Gl (by unfold Ok;exact aH aA)];have ih:=US race j F hF ys (dn++[y]) (x++[y]) e aD;rw[aU,aX] at ih;rw[ih];simp
  ·rw[aP hk,aP hk];have ih:=US race j F hF ys (dn++[y]) x e aD;rw[aU,aX] at ih;exact ih
theorem KH{race:ByteArray}:∀{l:List An} {d:An},d∈BA race l->d.Kind=1/\d.Race=race/\d∈l
 |x::l,d,h=>by
  unfold BA at h
  split at h
  ·rename_i hk
   simp only[bQ,aK] at hk
   rcases bB.1 h with rfl|h
   ·exact⟨hk.1.1,hk.1.2,aN⟩
   ·obtain⟨a,b,c⟩:=KH h
    exact⟨a,b,aM _ c⟩
  ·obtain⟨a,b,c⟩:=KH h
   exact⟨a,b,aM _ c⟩
theorem NO(race:ByteArray):∀l:List An,((BA race l).map (·.Who)).Nodup
 |[]=>List.nodup_nil
 |d::l=>by
  have ih:=NO race l
  unfold BA
  split
  ·rename_i hk
   simp only[bQ,Bool.not_eq_true',List.any_eq_false] at hk
   rw[aY,bT]
   refine⟨λhm=>?_,ih⟩
   obtain⟨o,ho,e⟩:=bD.1 hm
   obtain⟨a,b,c⟩:=KH ho
   refine hk.2 o c ?_
   unfold Kj
   simp[a,b,e]
  ·exact ih
theorem TD{ν:Type}(k:ByteArray):∀(m:List (ByteArray×ν)),(m.map (·.1)).Nodup->∀p,p∈CI m k↔p∈m/\p.1≠k
 |[],_,p=>by simp[CI]
 |(q,v)::m,h,p=>by
  simp only[aY,bT] at h
  rw[CI]
  by_cases e:k=q
  ·rw[aQ e]
   constructor
   ·intro hp
    exact⟨aM _ hp,λe'=>h.1 (by rw[←e,←e'];exact bJ hp)⟩
   ·rintro⟨hp,hn⟩
    rcases bB.1 hp with rfl|hp
    ·exact absurd e.symm hn
    ·exact hp
  ·rw[aP e,bB,TD k m h.2 p,bB]
   constructor
   ·rintro(rfl|⟨h1,h2⟩)
    ·exact⟨.inl rfl,λh=>e h.symm⟩
    ·exact⟨.inr h1,h2⟩
   ·rintro⟨rfl|h1,h2⟩
    ·exact .inl rfl
    ·exact .inr ⟨h1,h2⟩
theorem PX{ν:Type}(k:ByteArray)(v:ν):∀(m:List (ByteArray×ν)),(m.map (·.1)).Nodup->∀p,p∈Jd m k v↔p=(k,v)\/(p∈m/\p.1≠k)
 |[],_,p=>by simp[Jd]
 |(q,u)::m,h,p=>by
  simp only[aY,bT] at h
  rw[Jd]
  by_cases e:k=q
  ·rw[aQ e,bB]
   constructor
   ·rintro(h1|h1)
    ·exact .inl h1
    ·exact .inr ⟨aM _ h1,λe'=>h.1 (by rw[←e,←e'];exact bJ h1)⟩
   ·rintro(h1|⟨h1,h2⟩)
    ·exact .inl h1
    ·rcases bB.1 h1 with rfl|h1
     ·exact absurd e.symm h2
     ·exact .inr h1
  ·rw[aP e,bB,PX k v m h.2 p,bB]
   constructor
   ·rintro(rfl|h1|⟨h1,h2⟩)
    ·exact .inr ⟨.inl rfl,λh=>e h.symm⟩
    ·exact .inl h1
    ·exact .inr ⟨.inr h1,h2⟩
   ·rintro(h1|⟨rfl|h1,h2⟩)
    ·exact .inr (.inl h1)
    ·exact .inl rfl
    ·exact .inr (.inr ⟨h1,h2⟩)
theorem entS_nd(race:ByteArray)(m:List (ByteArray×An))(y:An)(h:(m.map (·.1)).Nodup):((JD race m y).map (·.1)).Nodup:=by
 unfold JD
 split
 ·split
  ·exact(LQ y.Who y m h).1
  ·split
   ·exact h.sublist ((FL y.Who m).map _)
   ·exact h
 ·exact h
theorem TF(race:ByteArray):∀(l:List An) (m:List (ByteArray×An)),(m.map (·.1)).Nodup->∀d:An,(d.Who,d)∈l.foldl (JD race) m↔d∈BA race l\/((d.Who,d)∈m/\∀o∈l,Kj o race d=false)
 |[],m,_,d=>by simp[BA]
 |y::l,m,hm,d=>by
  rw[List.foldl_cons,TF race l _ (entS_nd race m y hm) d]
  have hy:Kj y race d=((decide (y.Race=race) && decide (y.Who=d.Who)) && (decide (y.Kind=1)||decide (y.Kind=2))):=rfl
  have hS:(d.Who,d)∈JD race m y↔(y.Race=race/\y.Kind=1/\d=y)\/((d.Who,d)∈m/\Kj y race d=false):=by
   rw[hy];unfold JD
   by_cases hr:y.Race=race
   ·by_cases h1:y.Kind=1
    ·simp only[hr,h1,aJ,aS,PX y.Who y m hm];constructor
     ·rintro(h|⟨h,h2⟩)
      ·exact .inl ⟨trivial,trivial,(Prod.mk.inj h).2⟩
      ·exact .inr ⟨h,by simp;exact λe=>h2 e.symm⟩
     ·rintro(⟨_,_,rfl⟩|⟨h,h2⟩)
      ·exact .inl rfl
      ·exact .inr ⟨h,λe=>by simp[e] at h2⟩
    ·by_cases h2:y.Kind=2
     ·simp only[hr,h2,aJ,aS,show ((2:Int)=1)=False from by simp,show decide ((2:Int)=1)=false from rfl,aO,aR,TD y.Who m hm];constructor
      ·rintro⟨h,h3⟩;exact .inr ⟨h,by simp;exact λe=>h3 e.symm⟩
      ·rintro(⟨_,h,_⟩|⟨h,h3⟩)
       ·exact absurd h aB
       ·exact⟨h,λe=>by simp[e] at h3⟩
     ·simp only[hr,h1,h2,aJ,decide_false,aS,aO,aR,Bool.or_self,Bool.and_false];constructor
      ·intro h;exact .inr ⟨h,trivial⟩
      ·rintro(⟨_,h,_⟩|⟨h,_⟩)
       ·exact absurd h aB
       ·exact h
   ·simp only[hr,decide_false,aO,aR,bP];constructor
    ·intro h;exact .inr ⟨h,trivial⟩
    ·rintro(⟨h,_⟩|⟨h,_⟩)
     ·exact absurd h aB
     ·exact h
  rw[hS];have hk:d∈BA race (y::l)↔((y.Kind=1/\y.Race=race/\∀o∈l,Kj o race y=false)/\d=y)\/d∈BA race l:=by
   rw[BA]
   split
   ·rename_i hc;simp only[bQ,aK,Bool.not_eq_true',List.any_eq_false,Bool.not_eq_true] at hc;rw[bB];constructor
    ·rintro(h|h)
     ·exact .inl ⟨⟨hc.1.1,hc.1.2,hc.2⟩,h⟩
     ·exact .inr h
    ·rintro(⟨_,h⟩|h)
     ·exact .inl h
     ·exact .inr h
   ·rename_i hc;simp only[bQ,aK,Bool.not_eq_true',List.any_eq_false,Bool.not_eq_true] at hc;constructor
    ·exact .inr
    ·rintro(⟨⟨h1,h2,h3⟩,_⟩|h)
     ·exact absurd ⟨⟨h1,h2⟩,h3⟩ hc
     ·exact h
  rw[hk];constructor
  ·rintro(h|⟨⟨h1,h2,h3⟩|⟨h1,h2⟩,h4⟩)
   ·exact .inl (.inr h)
   ·subst h3;exact .inl (.inl ⟨⟨h2,h1,h4⟩,rfl⟩)
   ·exact .inr ⟨h1,λo ho=>(bB.1 ho).elim (λe=>by rw[e];exact h2) (h4 o)⟩
  ·rintro((⟨⟨h1,h2,h3⟩,rfl⟩|h)|⟨h1,h2⟩)
   ·exact .inr ⟨.inl ⟨h2,h1,rfl⟩,h3⟩
   ·exact .inl h
   ·exact .inr ⟨.inr ⟨h1,h2 y aN⟩,λo ho=>h2 o (aM _ ho)⟩
theorem CH(l:List An)(race:ByteArray)(at_:Int)(hf:KG l)(hs:l.Pairwise λx y=>x.At<=y.At):Sd l race at_=some (AW race (Jw l at_)):=by
 have hl:=hf.len;have hFl:(Jw l at_).length<=l.length:=(AE l at_).length_le;have hkl:=PW race (Jw l at_);unfold Sd;rw[PV l at_ hf hs];simp only[aG,Ht];have h:=US race (λx1=>Option.bind (Jl x1) λr2=>some r2) (Jw l at_) aA (Jw l at_) [] [] rfl (bU _);rw[aW,aZ] at h;rw[h,sortR_is (NO race _) aA];simp only[aG]
 congr 1
 have ho:=WR race (Jw l at_);have hnd:(((OE race (Jw l at_)).map (·.2)).map (·.Who)).Nodup:=by rw[NE ho];exact ho.nd
 refine JB RC GH _ _ (LP (NO race _)) (LR race _) λd=>?_;rw[SU];have hfold:=TF race (Jw l at_) [] aB d;constructor
 ·intro h;exact bD.2 ⟨(d.Who,d),hfold.2 (.inl h),rfl⟩
 ·intro h;obtain⟨p,hp,rfl⟩:=bD.1 h;have hw:=(ho.is p hp).1;have hpe:p=(p.2.Who,p.2):=by rw[←hw]
  rcases hfold.1 (by rw[←hpe];exact hp) with h1|⟨h1,_⟩
  ·exact h1
  ·cases h1
theorem PY(F:List An)(race who:ByteArray):∀(is:List Nat),Ow F race who is=match (is.map fun(i:Nat)=>nth F (i:Int)).find? λd=>Ro d race who with|some d=>(d,true)|none=>(An.mk Ed 0 0 0 Ed Ed Ed 0 0 Ed 0,false)
 |[]=>rfl
 |i::is=>by
  rw[Ow,aY,List.find?_cons]
  cases Ro (nth F (i:Int)) race who with
  |true=>rfl
  |false=>exact PY F race who is
theorem revI_map(F:List An):(Wq F.length).map (fun(i:Nat)=>nth F (i:Int))=F.reverse:=by
 unfold Wq;rw[List.map_reverse]
 congr 1
 apply List.ext_getElem?;intro i
 by_cases h:i<F.length
 ·simp[nth,h]
 ·simp[h]
theorem swM_snoc(race:ByteArray)(F:List An)(d:An):swM race (F++[d])=swS race (swM race F) d:=by unfold swM;rw[List.foldl_append];rfl
theorem swM_find(race who:ByteArray)(F:List An):Ys (swM race F) who=F.reverse.find? λd=>Ro d race who:=by
 induction hn:F.length generalizing F with
 |zero=>
  obtain rfl:=List.length_eq_zero_iff.1 hn;rfl
 |succ n ih=>
  obtain⟨G,d,rfl⟩:∃G d,F=G++[d]:=⟨F.dropLast,F.getLast (by intro e;rw[e] at hn;simp at hn),(List.dropLast_concat_getLast _).symm⟩;rw[swM_snoc,List.reverse_append,List.reverse_singleton,List.singleton_append,List.find?_cons];have hG:=ih G (by simp at hn;exact hn);have hq:Ro d race who=((decide (d.Kind=3) && decide (d.Race=race)) && decide (d.Who=who)):=rfl;have hput:∀v:An,Ys (Jd (swM race G) d.Who v) who=if who=d.Who then some v else Ys (swM race G) who:=λv=>IX d.Who who v (swM race G) 0;rw[hq];unfold swS
  by_cases h1:d.Race=race
  ·by_cases h2:d.Kind=3
   ·rw[aQ (by simp[h1,h2]),hput]
    by_cases h3:d.Who=who
    ·rw[aQ h3.symm];simp[h1,h2,h3]
    ·rw[aP λe=>h3 e.symm];simpa[h1,h2,h3] using hG
   ·rw[aP (by simp[h1,h2])];simpa[h1,h2] using hG
  ·rw[aP (by simp[h1])];simpa[h1] using hG
theorem last_ref(l:List An)(race:ByteArray)(d:An)(at_:Int)(hf:KG l)(hs:l.Pairwise λx y=>x.At<=y.At):Xy l race d.Who at_=some (svS race (Jw l at_) d,LE race (Jw l at_) d):=by
 unfold Xy;rw[PV l at_ hf hs];simp only[aG];rw[PY,revI_map,←swM_find];unfold svS LE Fi
 cases Ys (swM race (Jw l at_)) d.Who<;>rfl
def Rk3(a b:Eg):Prop:=(0<a.Rank/\0<b.Rank/\Rk2 a b)\/(0<a.Rank/\b.Rank=0)\/(a.Rank=0/\b.Rank=0/\cB a.Who b.Who<0)
theorem TG(race:ByteArray)(F:List An):(Ty race F (Tu race F)).Pairwise λa b=>cB a.Who b.Who<0:=by
 unfold Ty;rw[List.pairwise_map];exact GJ race F
theorem XC(race:ByteArray)(F:List An):(((Ty race F (Tu race F)).filter (isG (LF race F))).map (mkR (LF race F))).Pairwise λa b=>cB a.Who b.Who<0:=by
 rw[List.pairwise_map];exact(TG race F).sublist List.filter_sublist
theorem rank_up(race:ByteArray)(F:List An):(BV race F).Pairwise Rk3:=by
 obtain⟨A,B⟩:=rkF_ok _ 0 0 0 (SY (XC race F)) (.inl rfl);unfold BV FO;rw[bK];refine⟨?_,?_,λa ha b hb=>?_⟩
 ·refine List.Pairwise.imp_of_mem (λ{a b} ha hb hab=>.inl ⟨?_,?_,hab⟩) B
  ·have:=(A a ha).1;omega
  ·have:=(A b hb).1;omega
 ·rw[List.pairwise_map];exact((TG race F).sublist List.filter_sublist).imp λ{a b} hab=>.inr (.inr ⟨rfl,rfl,hab⟩)
 ·obtain⟨s,_,rfl⟩:=bD.1 hb;exact .inr (.inl ⟨by have:=(A a ha).1;omega,rfl⟩)
theorem KI(race:ByteArray)(F:List An):((BV race F).map (·.Who)).Perm ((Tu race F).map (·.Who)):=by
 have e1:(Ty race F (Tu race F)).map (·.Who)=(Tu race F).map (·.Who):=by unfold Ty;rw[List.map_map];rfl
 unfold BV FO;rw[List.map_append,WZ,←e1];have e2:∀l:List Ee,(l.map (mkR (LF race F))).map (·.Who)=l.map (·.Who):=λl=>by rw[List.map_map];rfl
 have p1:((Rq HY (((Ty race F (Tu race F)).filter (isG (LF race F))).map (mkR (LF race F)))).map (·.Who)).Perm (((Ty race F (Tu race F)).filter (isG (LF race F))).map (·.Who)):=by
  rw[←e2];exact(MZ _ _).map _
 rw[e2];refine(p1.append_right _).trans ?_;rw[←List.map_append];exact(List.filter_append_perm _ _).map _
theorem GK(race:ByteArray)(F:List An):((Tu race F).map (·.Who)).Nodup:=List.pairwise_map.2 ((GJ race F).imp λ{a b} h e=>by rw[e,Xo] at h;omega)
theorem rank_nd(race:ByteArray)(F:List An):((BV race F).map (·.Who)).Nodup:=(KI race F).nodup_iff.2 (GK race F)
theorem UT(H:List An)(m:List (ByteArray×ByteArray))(w:ByteArray)(h:∀d∈H,d.Who≠w):Fi (EA H m) w Ed=Fi m w Ed:=by
 unfold EA
 induction H generalizing m with
 |nil=>rfl
 |cons v H ih=>
  rw[List.foldl_cons,ih _ λu hu=>h u (aM _ hu),Zm,aP λe=>h v aN e.symm]
theorem NP(H:List An)(m:List (ByteArray×ByteArray))(d:An)(hd:d∈H)(hp:(H.map (·.Who)).Nodup):Fi (EA H m) d.Who Ed=d.Club:=by
 induction H generalizing m with
 |nil=>cases hd
 |cons u H ih=>
  simp only[aY,bT] at hp;have e:EA (u::H) m=EA H (Jd m u.Who u.Club):=rfl;rw[e];rcases bB.1 hd with rfl|hd
  ·rw[UT H _ d.Who λz hz e=>hp.1 (by rw[←e];exact bJ hz),Zm,aQ rfl]
  ·exact ih _ hd hp.2
structure FM(F:List An):Prop where
 ok:∀d∈F,DG d
 len:F.length<=1000
 few:∀race,(Tu race F).length<=12
theorem JH{F:List An}(h:FM F){race:ByteArray}{d:An}(hd:d∈Tu race F):d∈AW race F/\(svS race F d∈F/\(svS race F d).Kind=3/\(svS race F d).Race=race/\(svS race F d).Who=d.Who)/\(0<=(svS race F d).Time/\(svS race F d).Time<=360000)/\(0<=(svS race F d).Fault/\(svS race F d).Fault<=8):=by
 obtain⟨h1,h2⟩:=List.mem_filter.1 hd;unfold LE at h2;obtain⟨y,hy⟩:=Option.isSome_iff_exists.1 h2;have e:svS race F d=y:=by unfold svS Fi;rw[hy];rfl
 have g:=XA hy;rw[e];have gd:=h.ok y g.1;exact⟨h1,g,gd.time (.inr g.2.1),gd.fault g.2.1⟩
theorem RH{F:List An}(h:FM F){race:ByteArray}{d:An}(hd:d∈Tu race F):LF race F d.Who=(svS race F d).Fault:=by
 obtain⟨_,_,_,f0,_⟩:=JH h hd;have hup:=GJ race F;have hnd:((DB race F (Tu race F)).map (·.Who)).Nodup:=by
  unfold DB;rw[List.map_map];exact List.pairwise_map.2 ((hup.sublist List.filter_sublist).imp λ{a b} hab e=>by
   have e':a.Who=b.Who:=e;rw[e',Xo] at hab;omega)
 unfold LF
 by_cases hf:0<(svS race F d).Fault
 ·exact YN _ [] (Js.mk d.Who (svS race F d).Fault []) (bD.2 ⟨d,List.mem_filter.2 ⟨hd,aH hf⟩,rfl⟩) hnd
 ·rw[PR _ _ _ λv hv e=>?_]
  ·have:(svS race F d).Fault=0:=by omega
   rw[this];rfl
  ·obtain⟨u,hu,rfl⟩:=bD.1 hv;obtain⟨hu1,hu2⟩:=List.mem_filter.1 hu;have hu2:=of_decide_eq_true hu2;simp only at e;have:svS race F u=svS race F d:=by unfold svS;rw[e]
   rw[this] at hu2;exact hf hu2
theorem UU{F:List An}(h:FM F)(p:Lc)(race:ByteArray):Xk p F race=some (BV race F,EA (Tu race F) [],0):=by
 have hlen:=h.few race;have hel:=NF race F;have hef:=JE race F;have hFl:=h.len;unfold Xk;rw[CG p F race aA];simp only[aG,Ht];rw[GI p F race _ (AW race F) 0 [] [] [] aD aD,aZ,aZ];have hQ:(Ty race F (Tu race F)).length<=12:=by unfold Ty;rw[aV];exact hlen
 have hV:(DB race F (Tu race F)).length<=12:=by
  unfold DB;rw[aV];exact Nat.le_trans (List.length_filter_le _ _) hlen
 have hr:=rank_is (Q:=Ty race F (Tu race F)) (V:=DB race F (Tu race F)) aA (λs hs=>by
  unfold Ty at hs;obtain⟨d,hd,rfl⟩:=bD.1 hs;obtain⟨d1,_,d3,_⟩:=JH h hd;obtain⟨_,k2,k3⟩:=DS d1;exact⟨((h.ok d k3).who aA).1,d3⟩)
  (by unfold Ty;rw[List.pairwise_map];exact GJ race F) aA (λs hs=>by
   unfold DB at hs;obtain⟨d,hd,rfl⟩:=bD.1 hs;obtain⟨d1,_,_,d4⟩:=JH h (List.mem_filter.1 hd).1;obtain⟨_,k2,k3⟩:=DS d1;exact⟨((h.ok d k3).who aA).1,d4⟩)
  (by unfold DB;rw[List.pairwise_map];exact(GJ race F).sublist List.filter_sublist)
 show Option.bind (Zy (Ty race F (Tu race F)) (DB race F (Tu race F))) _=_;rw[hr];rfl
theorem PZ:∀(B A:List Eg) (pt pr:Int),(A++B).Pairwise (λa b=>a.Time<=b.Time)->(A=[]\/((∃A' z,A=A'++[z]/\z.Time=pt)/\pr=1+(A.countP λo=>decide (o.Time<pt):Nat)))->
 ∀z∈rkF A.length pt pr B,z.Rank=1+((A++B).countP λo=>decide (o.Time<z.Time):Nat)
 |[],A,pt,pr,_,_,z,h=>by cases h
 |b::B,A,pt,pr,hp,hA,z,hz=>by
  have hp1:=bK.1 hp
  have hb:∀y∈B,b.Time<=y.Time:=(List.pairwise_cons.1 hp1.2.1).1
  have c0:∀t:Int,t<=b.Time->(b::B).countP (λo=>decide (o.Time<t))=0:=λt ht=>List.countP_eq_zero.2 λy hy=>by
   rcases bB.1 hy with rfl|hy
   ·simp;omega
   ·have:=hb y hy;simp;omega
  rw[rkF] at hz
  generalize hr:(if decide (0<(A.length:Int)) && decide (b.Time=pt) then pr else(A.length:Int)+1)=r at hz
  have hrv:r=1+((A++b::B).countP λo=>decide (o.Time<b.Time):Nat):=by
   rw[List.countP_append,c0 _ (Int.le_refl _),Nat.add_zero,←hr];rcases hA with rfl|⟨⟨A',q,rfl,hq⟩,hpr⟩
   ·simp
   ·have hlA:(0:Int)<((A'++[q]).length:Int):=by rw[aU,aX];omega
    by_cases hbt:b.Time=pt
    ·rw[aQ (by simp only[hbt,aJ,Bool.and_true];exact aH hlA),hpr,hbt]
    ·rw[aP (by simp[hbt])];have hq2:q.Time<=b.Time:=hp1.2.2 q aB b aN;have hall:(A'++[q]).countP (λo=>decide (o.Time<b.Time))=(A'++[q]).length:=List.countP_eq_length.2 λy hy=>by
      have hy2:y.Time<=q.Time:=by
       rcases bC.1 hy with hy|hy
       ·exact(bK.1 hp1.1).2.2 y hy q aB
       ·obtain rfl:=bA.1 hy;omega
      exact aH aA
     rw[hall];omega
  rcases bB.1 hz with rfl|hz
  ·exact hrv
  ·have e:A++b::B=(A++[b])++B:=by simp
   have:=PZ B (A++[b]) b.Time r (by rw[←e];exact hp) (.inr ⟨⟨A,b,rfl,rfl⟩,by
    rw[hrv,e,List.countP_append];have c1:B.countP (λo=>decide (o.Time<b.Time))=0:=List.countP_eq_zero.2 λy hy=>by have:=hb y hy;simp;omega
    rw[c1,Nat.add_zero]⟩) z (by rw[aU,aX];exact hz)
   rw[e];exact this
def gdS(race:ByteArray)(F:List An)(d:An):Bool:=decide (0<(svS race F d).Time) && decide ((svS race F d).Fault=0)
def CK(race:ByteArray)(F:List An)(d:An):Int:=if gdS race F d then 1+((Tu race F).countP λo=>gdS race F o && decide ((svS race F o).Time<(svS race F d).Time):Nat) else 0
theorem UV{F:List An}(h:FM F){race:ByteArray}{d:An}(hd:d∈Tu race F):isG (LF race F) (Ee.mk d.Who (svS race F d).Time)=gdS race F d:=by
 unfold isG gdS;rw[RH h hd,Bool.and_comm]
theorem KK{F:List An}(h:FM F){race:ByteArray}{y:Eg}(hy:y∈BV race F):∃d∈Tu race F,y=Eg.mk d.Who (CK race F d) (svS race F d).Time (svS race F d).Fault:=by
 have hmk:∀s∈Ty race F (Tu race F),∃d∈Tu race F,s=Ee.mk d.Who (svS race F d).Time:=λs hs=>by
  unfold Ty at hs;obtain⟨d,hd,rfl⟩:=bD.1 hs;exact⟨d,hd,rfl⟩
 unfold BV FO at hy;rcases bC.1 hy with hy|hy
 ·obtain⟨x,hx,e1,e2,e3⟩:=RF _ _ _ _ _ hy;rw[AC] at hx;obtain⟨s,hs,rfl⟩:=bD.1 hx;obtain⟨hs1,hs2⟩:=List.mem_filter.1 hs;obtain⟨d,hd,rfl⟩:=hmk s hs1;have hg:gdS race F d=true:=by rw[←UV h hd];exact hs2
  have hup:=SY (XC race F);have hc:=PZ _ [] 0 0 (by rw[aZ];exact hup.imp λ{a b} hab=>by have:=FN.1 hab;omega) (.inl rfl) y hy;refine⟨d,hd,?_⟩;have e2':y.Time=(svS race F d).Time:=e2;have hcnt:(Rq HY (((Ty race F (Tu race F)).filter (isG (LF race F))).map (mkR (LF race F)))).countP (λo=>decide (o.Time<y.Time))=(Tu race F).countP λo=>gdS race F o && decide ((svS race F o).Time<(svS race F d).Time):=by
   rw[(MZ _ _).countP_eq,List.countP_map,List.countP_filter,e2'];unfold Ty;rw[List.countP_map];apply List.countP_congr;intro o ho;have ho':=UV h ho;simp only[Function.comp_apply,mkR,ho',bQ];exact And.comm
  have hrank:y.Rank=CK race F d:=by
   unfold CK;rw[aQ hg,hc,aZ,hcnt]
  have hfl:y.Fault=(svS race F d).Fault:=by rw[e3];exact RH h hd
  cases y
  simp only[Eg.mk.injEq];exact⟨e1,hrank,e2,hfl⟩
 ·obtain⟨s,hs,rfl⟩:=bD.1 hy;obtain⟨hs1,hs2⟩:=List.mem_filter.1 hs;obtain⟨d,hd,rfl⟩:=hmk s hs1;refine⟨d,hd,?_⟩;have hg:gdS race F d=false:=by rw[←UV h hd];simpa using hs2
  unfold mkR CK;rw[hg,RH h hd];rfl
theorem rank_ex{F:List An}(h:FM F){race:ByteArray}{d:An}(hd:d∈Tu race F):Eg.mk d.Who (CK race F d) (svS race F d).Time (svS race F d).Fault∈BV race F:=by
 have hm:d.Who∈(BV race F).map (·.Who):=(KI race F).mem_iff.2 (bJ hd);obtain⟨y,hy,e⟩:=bD.1 hm;obtain⟨d',hd',rfl⟩:=KK h hy;have e':d'.Who=d.Who:=e;have:d'=d:=nd_inj (GK race F) hd' hd e';rw[←this];exact hy
theorem XD{F:List An}(h:FM F)(race:ByteArray)(d:An):0<=CK race F d/\CK race F d<=13:=by
 have:=h.few race;have:=List.countP_le_length (p:=λo=>gdS race F o && decide ((svS race F o).Time<(svS race F d).Time)) (l:=Tu race F);unfold CK
 split<;>omega
def CL(z:El)(r:Int):El:=El.mk r z.Who z.Club z.Time z.Fault z.Points
def ktL(z:El):Int×Int:=(z.Time,z.Fault)
def qtL(t:Int)(a:Int×Int):Bool:=(decide (0<a.1) && decide (a.2=0)) && decide (a.1<t)
theorem NQ(X:List El)(i:Nat)(z:El)(h:X[i]? =some z)(r:Int):(X.set i (CL z r)).map ktL=X.map ktL:=by
 rw[List.map_set];have:ktL (CL z r)=(X.map ktL)[i]'(by rw[aV];exact(List.getElem?_eq_some_iff.1 h).1):=by
  rw[List.getElem_map];obtain⟨hi,e⟩:=List.getElem?_eq_some_iff.1 h;rw[e];rfl
 rw[this,List.set_getElem_self]
theorem nthL{X:List El}{i:Nat}{z:El}(h:X[i]? =some z):nth X (i:Int)=z:=by unfold nth;simp[List.getD,h]
theorem NR(X0:List El)(i2:Nat)(t:Int)(ht:(nth X0 (i2:Int)).Time=t)(j:List El->Option (List El))(K:List (Int×Int))(hK:K.length<=1000):∀(ys:List El) (i3:Nat) (X:List El) (z:El),X.map ktL=K->X[i2]? =some z->i3+ys.length=K.length->0<=z.Rank->z.Rank+ys.length<=1000000->
 La X0 i2 j ys i3 X=j (X.set i2 (CL z (z.Rank+((K.drop i3).countP (qtL t):Nat))))
 |[],i3,X,z,hX,hz,hi,_,_=>by
  obtain⟨hb,e⟩:=List.getElem?_eq_some_iff.1 hz
  rw[La,List.drop_of_length_le (by simp at hi;omega)]
  have:CL z (z.Rank+(([]:List (Int×Int)).countP (qtL t):Nat))=X[i2]:=by rw[e];simp[CL]
  rw[this,List.set_getElem_self]
 |y::ys,i3,X,z,hX,hz,hi,h0,h1=>by
  simp only[aT] at hi h1
  have hXl:X.length=K.length:=by rw[←hX,aV]
  have hi3:i3<K.length:=by omega
  obtain⟨hb,e⟩:=List.getElem?_eq_some_iff.1 hz
  obtain⟨o,ho⟩:∃o,X[i3]? =some o:=⟨X[i3]'(by omega),List.getElem?_eq_getElem aA⟩
  have hko:K[i3]=ktL o:=by
   have:(X.map ktL)[i3]? =some (ktL o):=by rw[List.getElem?_map,ho];rfl
   rw[hX,List.getElem?_eq_getElem hi3] at this;exact bH this
  have hd:K.drop i3=ktL o::K.drop (i3+1):=by rw[List.drop_eq_getElem_cons hi3,hko]
  have hq:qtL t (ktL o)=(Gu o && decide (o.Time<t)):=rfl;rw[La];simp only[Ht];rw[Gl (Ha.2 aA),nthL ho,ht,hd,List.countP_cons,hq];have hz2:∀r,(X.set i2 (CL z r))[i2]? =some (CL z r):=λr=>by rw[List.getElem?_set_self aA]
  have hss:∀r r',(X.set i2 (CL z r)).set i2 (CL (CL z r) r')=X.set i2 (CL z r'):=λr r'=>by rw[List.set_set];rfl
  by_cases hc:(Gu o && decide (o.Time<t))=true
  ·have hw:W (z.Rank+1)=z.Rank+1:=Jz aA aA;rw[aQ hc,Gl (Ha.2 aA),Gl (Ha.2 aA),nthL hz,hw];have ih:=NR X0 i2 t ht j K hK ys (i3+1) (X.set i2 (CL z (z.Rank+1))) (CL z (z.Rank+1)) (by rw[NQ X i2 z hz,hX]) (hz2 _) aA (by show 0<=z.Rank+1;omega) (by show z.Rank+1+_<=_;omega);rw[hss] at ih;have he:(CL z (z.Rank+1)).Rank=z.Rank+1:=rfl;rw[he] at ih;rw[aQ hc,show ((List.countP (qtL t) (List.drop (i3+1) K)+1:Nat):Int)=1+(List.countP (qtL t) (List.drop (i3+1) K):Nat) by omega,←Int.add_assoc];exact ih
  ·rw[aP hc,aP hc];exact NR X0 i2 t ht j K hK ys (i3+1) X z hX hz aA h0 aA
def rkL(K:List (Int×Int))(x:El):El:=if Gu x then CL x (1+(K.countP (qtL x.Time):Nat)) else x
theorem rkL_kt(K:List (Int×Int))(x:El):ktL (rkL K x)=ktL x:=by unfold rkL;split<;>rfl
theorem TH(K:List (Int×Int))(hK:K.length<=1000)(j:List El->Option (List El)):∀(B A ys:List El),ys.length=B.length->(A++B).map ktL=K->Kl j ys A.length (A.map (rkL K)++B)=j ((A++B).map (rkL K))
 |[],A,ys,h,_=>by
  obtain rfl:ys=[]:=List.length_eq_zero_iff.1 h
  rw[Kl];simp
 |b::B,A,[],h,_=>by simp at h
 |b::B,A,y::ys,h,hX=>by
  simp only[aT,Nat.add_right_cancel_iff] at h
  have hKl:K.length=A.length+(B.length+1):=by rw[←hX];simp
  have hg:(A.map (rkL K)++b::B)[A.length]? =some b:=by rw[List.getElem?_append_right aB];simp
  have hl:(A.map (rkL K)++b::B).length=A.length+(B.length+1):=by simp
  have hkt:(A.map (rkL K)++b::B).map ktL=K:=by
   have hA:(A.map (rkL K)).map ktL=A.map ktL:=by
    rw[List.map_map];exact List.map_congr_left λx _=>rkL_kt K x
   rw[List.map_append,hA,←List.map_append,hX]
  have e1:A++b::B=(A++[b])++B:=by simp
  have ih:=TH K hK j B (A++[b]) ys h (by rw[←e1];exact hX);rw[aU,aX,←e1] at ih;have es:∀u,(A.map (rkL K)++b::B).set A.length u=A.map (rkL K)++u::B:=λu=>by
   rw[List.set_append_right _ _ aB];simp
  rw[Kl];simp only[Ht];rw[Gl (Ha.2 (by rw[hl];omega)),nthL hg]
  by_cases hc:Gu b=true
  ·rw[aP (by rw[hc];simp),Gl (Ha.2 (by rw[hl];omega)),bI];have h3:=NR (A.map (rkL K)++b::B) A.length b.Time (by rw[nthL hg]) (λx6=>Kl j ys (A.length+1) x6) K hK ((A.map (rkL K)++b::B).set A.length (CL b 1)) 0 ((A.map (rkL K)++b::B).set A.length (CL b 1)) (CL b 1) (by rw[NQ _ _ _ hg,hkt]) (by rw[List.getElem?_set_self (by rw[hl];omega)]) (by rw[List.length_set,hl];omega) (by show (0:Int)<=1;omega) (by rw[List.length_set,hl];show (1:Int)+_<=_;omega);refine Eq.trans h3 ?_;rw[←ih,List.drop_zero,List.set_set,es,List.map_append];have:rkL K b=CL (CL b 1) ((CL b 1).Rank+(K.countP (qtL b.Time):Nat)):=by unfold rkL;rw[aQ hc];rfl
   rw[←this];simp
  ·rw[aQ (by simpa using hc),←ih,List.map_append];have:rkL K b=b:=by unfold rkL;rw[aP hc]
   simp[this]
def RI(x y:El):Bool:=decide (Nc x y<0)
theorem YO(l:List El)(hl:l.length<=19):Ip l=some (Rq RI l):=by
 have hs:Hm l 0 (l.length:Int)=some (Rq RI l):=by
  unfold Hm;simp only[Ht];have hins:∀(k:List El->Option (List El)) (rp:List El) (x:El) (post:List El),((rp++x::post).length:Int)=(l.length:Int)->(∀y,y∈rp\/y=x\/y∈post->y∈(rp++x::post))->
   Ew 0 k (((rp.length:Int)-0).toNat+2) (rp.reverse++x::post) (rp.length:Int)=k ((Xn RI x rp).reverse++post):=by
   intro k rp x post h1 _;exact SP (λx y k=>k (RI x y)) RI k (Ew 0 k) (λ_ _ _=>rfl) rp x post _ aA (by simp at h1;omega) λy _ k'=>rfl
  cases l with
  |nil=>rfl
  |cons x l=>
   have hw:W (0+1)=(([x]:List El).length:Int):=rfl;rw[hw];exact IZ RI (λx=>some x) (λk x i=>Ew 0 k ((i-0).toNat+2) x i) (Fk ((x::l).length:Int) 0 λx=>some x) ((x::l).length:Int) (λ_ _ _=>rfl)
    (λk rp x post h1 h2=>hins k rp x post h1 h2) l [x] _ (by simp only[aT,aW];omega) (by simp only[aT,aW];omega) (by simp only[aT,aW] at hl ⊢;omega)
 unfold Ip Kx;simp only[Ht];rw[Fz,aP aD,hs];simp only[aG];rw[Ga,aP aD];rfl
theorem signN(n:Int):(Td n<0)↔n<0:=by
 unfold Td
 by_cases h1:n<0
 ·simp[h1]
 ·by_cases h2:0<n<;>simp[h1,h2]
def lrP(x y:El):Prop:=(Gu x=true/\Gu y=false)\/(Gu x=Gu y/\x.Rank<y.Rank)
theorem ltLn_iff{x y:El}(hx:0<=x.Rank/\x.Rank<=13)(hy:0<=y.Rank/\y.Rank<=13):RI x y=true↔lrP x y:=by
 unfold RI lrP Nc;rw[aK]
 cases h1:Gu x<;>cases h2:Gu y
 ·simp only[aJ,bN,aO,aR,signN,Jz (show -9223372036854775808<=x.Rank-y.Rank by omega) aA];simp;omega
 ·simp
 ·simp
 ·simp only[aJ,bN,aO,aR,signN,Jz (show -9223372036854775808<=x.Rank-y.Rank by omega) aA];simp;omega
def UW(x y:El):Bool:=decide ((decide (x.Rank=0)=false/\y.Rank=0)\/(decide (x.Rank=0)=decide (y.Rank=0)/\(x.Rank<y.Rank\/(x.Rank=y.Rank/\cB x.Who y.Who<0))))
theorem DC{x y:El}:UW x y=true↔(x.Rank≠0/\y.Rank=0)\/((x.Rank=0↔y.Rank=0)/\(x.Rank<y.Rank\/(x.Rank=y.Rank/\cB x.Who y.Who<0))):=by
 unfold UW;rw[aK]
 by_cases h1:x.Rank=0<;>by_cases h2:y.Rank=0<;>simp[h1,h2]
theorem ltLW_irr(x:El):UW x x=false:=by
 rw[←Bool.not_eq_true,DC,Xo];omega
theorem UX(x y z:El)(h1:UW x y=true)(h2:UW y z=true):UW x z=true:=by
 rw[DC] at*;rcases h1 with ⟨a1,a2⟩|⟨a1,a2|⟨a2,a3⟩⟩<;>rcases h2 with ⟨b1,b2⟩|⟨b1,b2|⟨b2,b3⟩⟩
 all_goals first
  |omega
  |(refine .inl ⟨by omega,by omega⟩)
  |(refine .inr ⟨by omega,.inl aA⟩)
  |(exact .inr ⟨by omega,.inr ⟨by omega,BS a3 b3⟩⟩)
def toL(C:List (ByteArray×ByteArray))(y:Eg):El:=El.mk y.Rank y.Who (Fi C y.Who Ed) y.Time y.Fault (Ky.mk 0 1)
def YP(race:ByteArray)(F:List An):List El:=(BV race F).map (toL (EA (Tu race F) []))
def OG(race:ByteArray)(F:List An)(d:An):El:=El.mk 0 d.Who d.Club (svS race F d).Time (svS race F d).Fault (Ky.mk 0 1)
theorem KL(l:List An)(race:ByteArray)(at_:Int)(hf:KG l)(hs:l.Pairwise λx y=>x.At<=y.At)(j:List El->Option (List El)):∀(ys:List An) (i:Nat) (x:List El),x.length+ys.length<=10000->
 Kz l race at_ j ys i x=j (x++(ys.filter (LE race (Jw l at_))).map (OG race (Jw l at_)))
 |[],i,x,_=>by simp[Kz]
 |y::ys,i,x,h=>by
  simp only[aT] at h
  rw[Kz]
  simp only[Ht]
  rw[last_ref l race y at_ hf hs]
  simp only[aG]
  cases hh:LE race (Jw l at_) y with
  |true=>
   rw[aQ rfl,Gl (by unfold Ok;exact aH aA),KL l race at_ hf hs j ys (i+1) _ aD,bR hh,aY]
   simp[OG]
  |false=>
   rw[aP aB,KL l race at_ hf hs j ys (i+1) x aA,bS (by rw[hh];simp)]
theorem YQ{p:Lc}{l:List An}{race:ByteArray}{at_:Int}(hf:KG l)(hs:l.Pairwise λx y=>x.At<=y.At)(h:FM (Jw l at_)):Uh p l race at_=some (YP race (Jw l at_)):=by
 have hFl:=h.len;have hel:=NF race (Jw l at_);have hml:=JE race (Jw l at_);have hfew:=h.few race;unfold Uh;rw[CH l race at_ hf hs];simp only[aG,Ht];rw[KL l race at_ hf hs _ _ 0 [] aD,aZ];generalize hF:Jw l at_=F at*;have hout:((AW race F).filter (LE race F)).map (OG race F)=(Tu race F).map (OG race F):=rfl;rw[hout];generalize hO:(Tu race F).map (OG race F)=O;have hOl:O.length<=12:=by rw[←hO,aV];exact hfew
 have hl2:=TH (O.map ktL) (by rw[aV];omega) (λx4=>Option.bind (Ip x4) λr3=>some r3) O [] O rfl rfl;rw[aW,List.map_nil,aZ] at hl2;rw[hl2,YO _ (by rw[aV];omega)];simp only[aG]
 congr 1
 have hmem:∀x∈O.map (rkL (O.map ktL)),∃d∈Tu race F,x=El.mk (CK race F d) d.Who d.Club (svS race F d).Time (svS race F d).Fault (Ky.mk 0 1):=by
  intro x hx;obtain⟨o,ho,rfl⟩:=bD.1 hx;rw[←hO] at ho;obtain⟨d,hd,rfl⟩:=bD.1 ho;exact⟨d,hd,rk_out hO d⟩
 have hmem2:∀d∈Tu race F,El.mk (CK race F d) d.Who d.Club (svS race F d).Time (svS race F d).Fault (Ky.mk 0 1)∈O.map (rkL (O.map ktL)):=by
  intro d hd;rw[←rk_out (O:=O) hO d];exact bJ (by rw[←hO];exact bJ hd)
 have hgr:∀d∈Tu race F,∀c q,Gu (El.mk (CK race F d) d.Who c (svS race F d).Time (svS race F d).Fault q)= !decide (CK race F d=0):=by
  intro d _ c q;have e:Gu (El.mk (CK race F d) d.Who c (svS race F d).Time (svS race F d).Fault q)=gdS race F d:=rfl;rw[e];unfold CK
  cases gdS race F d with
  |true=>simp only[aS];simp;omega
  |false=>simp
 have hwho:(O.map (rkL (O.map ktL))).Pairwise λa b=>cB a.Who b.Who<0:=by
  rw[List.pairwise_map,←hO,List.pairwise_map];refine(GJ race F).imp λ{a b} hab=>?_;have:∀(K:List (Int×Int)) (d:An),(rkL K (OG race F d)).Who=d.Who:=λK d=>by unfold rkL;split<;>rfl
  rw[this,this];exact hab
 have hpair:Rq RI (O.map (rkL (O.map ktL)))=Rq UW (O.map (rkL (O.map ktL))):=NL _ (List.Pairwise.imp_of_mem (λ{a b} ha hb hab=>by
  obtain⟨d,hd,rfl⟩:=hmem a ha;obtain⟨e,he,rfl⟩:=hmem b hb;have r1:=XD h race d;have r2:=XD h race e;rw[Bool.eq_iff_iff,ltLn_iff r2 r1,DC];unfold lrP;rw[hgr d hd,hgr e he];have hfl:=BD d.Who e.Who;have hab':cB d.Who e.Who<0:=hab;simp only
  by_cases z1:CK race F d=0<;>by_cases z2:CK race F e=0<;>simp only[z1,z2,aJ,decide_false,bN,Bool.not_false]<;>simp<;>omega) hwho)
 rw[hpair];refine JB ltLW_irr UX _ _ (hwho.imp λ{a b} hab hb=>?_) ?_ λx=>⟨λhx=>?_,λhx=>?_⟩
 ·rw[←Bool.not_eq_true,DC] at hb;rw[DC];omega
 ·unfold YP;rw[List.pairwise_map];refine(rank_up race F).imp λ{a b} hab=>?_;rw[DC];have e1:∀C y,(toL C y).Rank=y.Rank:=λ_ _=>rfl;have e2:∀C y,(toL C y).Who=y.Who:=λ_ _=>rfl;rw[e1,e1,e2,e2];rcases hab with ⟨h1,h2,h3,h4,h5,h6⟩|⟨h1,h2⟩|⟨h1,h2,h3⟩
  ·refine .inr ⟨by omega,?_⟩
   by_cases e:a.Rank=b.Rank
   ·exact .inr ⟨e,h6 (h5.1 e)⟩
   ·exact .inl aA
  ·exact .inl ⟨by omega,h2⟩
  ·exact .inr ⟨by omega,.inr ⟨by omega,h3⟩⟩
 ·obtain⟨d,hd,rfl⟩:=hmem x hx;refine bD.2 ⟨_,rank_ex h hd,?_⟩;unfold toL;rw[NP _ [] d hd (GK race F)]
 ·obtain⟨y,hy,rfl⟩:=bD.1 hx;obtain⟨d,hd,rfl⟩:=KK h hy;have:toL (EA (Tu race F) []) (Eg.mk d.Who (CK race F d) (svS race F d).Time (svS race F d).Fault)=El.mk (CK race F d) d.Who d.Club (svS race F d).Time (svS race F d).Fault (Ky.mk 0 1):=by
   unfold toL;rw[NP _ [] d hd (GK race F)]
  rw[this];exact hmem2 d hd
where
 rk_out {race:ByteArray} {F:List An} {O:List El} (hO:(Tu race F).map (OG race F)=O) (d:An):rkL (O.map ktL) (OG race F d)=El.mk (CK race F d) d.Who d.Club (svS race F d).Time (svS race F d).Fault (Ky.mk 0 1):=by
  have e:Gu (OG race F d)=gdS race F d:=rfl;have hc:(O.map ktL).countP (qtL (OG race F d).Time)=(Tu race F).countP λo=>gdS race F o && decide ((svS race F o).Time<(svS race F d).Time):=by
   rw[←hO,List.map_map,List.countP_map];exact List.countP_congr λo _=>Iff.rfl
  unfold rkL CK;rw[e,hc]
  cases gdS race F d<;>rfl
structure LG(l:List An):Prop where
 ok:DsG l
 names:∀d∈l,d.Who∈KF/\d.Club∈CF
 len:l.length<=40
theorem idxR_l(key:ByteArray):∀(l:List Ek) (i:Nat),(l.map (·.Key)).Nodup->∀r∈l,r.Key=key->∃k:Nat,Gb key (-1) l i=((i+k:Nat):Int)/\l[k]? =some r
 |[],_,_,r,h,_=>by cases h
 |x::l,i,hn,r,h,hk=>by
  rw[Gb]
  unfold Xw
  simp only[aY,bT] at hn
  by_cases hx:x.Key=key
  ·rw[aQ (aH hx)]
   rcases bB.1 h with rfl|h
   ·exact⟨0,by simp,rfl⟩
   ·exact absurd (bJ (f:=(·.Key)) h) (by rw[hk,←hx];exact hn.1)
  ·rw[aP (by simpa using hx)]
   rcases bB.1 h with rfl|h
   ·exact absurd hk hx
   ·obtain⟨k,e1,e2⟩:=idxR_l key l (i+1) hn.2 r h hk
    exact⟨k+1,by rw[e1];congr 1;omega,by simpa using e2⟩
theorem LG.of{x:List An}(h:DsG x)(hn:∀d∈x,WW d)(hl:x.length<=40):LG x:=⟨h,λd hd=>⟨(hn d hd).who,(hn d hd).club⟩,hl⟩
structure MF(m:List (ByteArray×Ky))(K:ByteArray->Prop)(u:ByteArray->Nat):Prop where
 nd:(m.map (·.1)).Nodup
 keys:∀k,k∈m.map (·.1)↔K k
 vals:∀k,K k->Fi m k (Ky.mk 0 0)=fr (u k)
theorem MF.put{m:List (ByteArray×Ky)}{K:ByteArray->Prop}{u:ByteArray->Nat}(h:MF m K u)(k:ByteArray)(v:Nat):MF (Jd m k (fr v)) (λz=>z=k\/K z) (λz=>if z=k then v else u z):=by
 obtain⟨a,b⟩:=LQ k (fr v) m h.nd;refine⟨a,λz=>by rw[b z,h.keys z],λz hz=>?_⟩;rw[Zm]
 by_cases e:z=k
 ·rw[aQ e,aQ e]
 ·rw[aP e,aP e];rcases hz with hz|hz
  ·exact(e hz).elim
  ·exact h.vals z hz
theorem MF.congr{m:List (ByteArray×Ky)}{K K':ByteArray->Prop}{u u':ByteArray->Nat}(h:MF m K u)(hk:∀k,K k↔K' k)(hu:∀k,K' k->u k=u' k):MF m K' u':=
 ⟨h.nd,λk=>(h.keys k).trans (hk k),λk hk'=>by rw[h.vals k ((hk k).2 hk'),hu k hk']⟩
section
end
def frB(v:Nat):Ky:=⟨((v / Nat.gcd v 2520:Nat):Int),((2520 / Nat.gcd v 2520:Nat):Int)⟩
theorem gcdB(v:Nat):0<Nat.gcd v 2520:=Nat.gcd_pos_of_pos_right _ aC
theorem YR(v:Nat):∃n d:Nat,frB v=⟨(n:Int),(d:Int)⟩/\0<d/\d<=2520/\n<=v/\n*2520=v*d:=by
 refine⟨v / Nat.gcd v 2520,2520 / Nat.gcd v 2520,rfl,?_,Nat.div_le_self _ _,Nat.div_le_self _ _,?_⟩
 ·exact Nat.div_pos (Nat.le_of_dvd aC (Nat.gcd_dvd_right _ _)) (gcdB v)
 ·have e3:=Nat.div_mul_cancel (Nat.gcd_dvd_left v 2520);have e4:=Nat.div_mul_cancel (Nat.gcd_dvd_right v 2520);generalize v / Nat.gcd v 2520=v' at*;generalize 2520 / Nat.gcd v 2520=d' at*;generalize Nat.gcd v 2520=k at*
  calc v'*2520=v'*(d'*k):=by rw[e4]
   _=v'*k*d':=by ac_rfl
   _=v*d':=by rw[e3]
structure TR(t:Qy):Prop where
 len:t.Points.length<=40
 rng:∀n∈t.Points,0<=n/\n<=10000
 rel:1<=t.Relay/\t.Relay<=10
section
end
def Pts(f:Ky):Prop:=∃v,v<=4000000000/\f=frB v
def valB(f:Ky):Nat:=(f.Num*2520 / f.Den).toNat
theorem valB_fr(v:Nat):valB (frB v)=v:=by
 obtain⟨n,d,e,d1,d2,n1,p⟩:=YR v;unfold valB;rw[e];simp only;rw[show ((n:Int)*2520)=((v*d:Nat):Int) by rw[←p];simp,Int.natCast_mul,Int.mul_ediv_cancel _ aA];simp
theorem Pts.val{f:Ky}(h:Pts f):f=frB (valB f)/\valB f<=4000000000:=by
 obtain⟨v,hv,rfl⟩:=h;rw[valB_fr];exact⟨rfl,hv⟩
structure TI(p:Lc):Prop where
 table:TR p.Table
 chk:Sq p.Table=some 0
 keys:(p.Races.map (·.Key)).Nodup
 key:∀r∈p.Races,Hy r.Key=some true
 len:p.Races.length<=100
 fin:Nr p.Final=0
theorem NS(key:ByteArray)(j:Ek×Bool):∀(l:List Ek) (i:Nat),(l.map (·.Key)).Nodup->∀r∈l,r.Key=key->Kf key j l i=(r,true)
 |[],_,_,_,h,_=>by cases h
 |x::l,i,hn,r,h,hk=>by
  simp only[aY,bT] at hn
  rw[Kf]
  rcases bB.1 h with rfl|h
  ·rw[aQ (aH hk)]
  ·rw[aP (by simpa using λe=>hn.1 (by rw[e,←hk];exact bJ h))]
   exact NS key j l (i+1) hn.2 r h hk
theorem KU(key:ByteArray)(j:Ek×Bool):∀(l:List Ek) (i:Nat),(∀r∈l,r.Key≠key)->Kf key j l i=j
 |[],_,_=>rfl
 |x::l,i,h=>by
  rw[Kf,aP (by simpa using h x aN)]
  exact KU key j l (i+1) λr hr=>h r (aM _ hr)
theorem key1_eq(s:ByteArray):∃b,Hy s=some b/\Xm s=some b:=by
 by_cases hs:1<=s.size/\s.size<=40
 ·obtain⟨h1,h2⟩:=hs;have hsz:=BG s;obtain⟨u,r,hl⟩:∃u r,s.data.toList=u::r:=by
   cases h:s.data.toList with
   |nil=>rw[h] at hsz;exact absurd hsz (by show ¬s.size=0;omega)
   |cons u r=>exact⟨u,r,rfl⟩
  have hin:Ez (s.size:Int) 1 40=true:=by unfold Ez;simp;omega
  have hwin:(decide (1<=(s.size:Int)) && decide ((s.size:Int)<=40))=true:=by simp;omega
  have hb0:inB 0 s.size=true:=Ha.2 ⟨by omega,by omega⟩;have hu:BZ s 0=(u.toNat:Int):=KA (j:=0) (by rw[hl];rfl);have hix:decide (0<=Rk Jo (u.toNat:Int))=(decide (97<=(u.toNat:Int)) && decide ((u.toNat:Int)<=122)):=by
   unfold Rk;rw[PF,←PG];have:=IW (l:=Jo.data.toList) (c:=u)
   cases hc:Jo.data.toList.contains u<;>rw[hc] at this<;>simp at this ⊢<;>omega
  have htrim:Uc s Hu=some ⟨(Lib.trimS s.data.toList Hu.data.toList).toArray⟩:=by
   unfold Uc;rw[Gl aD,Gl (by decide+kernel),Gl PH]
  refine⟨(decide (97<=(u.toNat:Int)) && decide ((u.toNat:Int)<=122)) && decide ((⟨(Lib.trimS s.data.toList Hu.data.toList).toArray⟩:ByteArray)=Ed),?_,?_⟩
  ·unfold Hy;simp only[Pf,hwin,aS,bO,Gl hb0,hu]
   by_cases g1:97<=(u.toNat:Int)
   ·simp only[g1,aJ,aS,bO]
    by_cases g2:(u.toNat:Int)<=122
    ·simp only[g2,aJ,aS,bO,htrim,aG]
    ·simp only[g2,decide_false,aO,aR,bP]
   ·simp only[g1,decide_false,aO,aR,bP]
  ·unfold Xm;simp only[Pf,hin,aS,bO,htrim,aG,Gl hb0,hu,hix]
   cases decide ((⟨(Lib.trimS s.data.toList Hu.data.toList).toArray⟩:ByteArray)=Ed) with
   |true=>simp only[aS,bO,Bool.and_true]
   |false=>simp only[aO,aR,bP,Bool.and_false]
 ·refine⟨false,?_,?_⟩
  ·have hwin:(decide (1<=(s.size:Int)) && decide ((s.size:Int)<=40))=false:=by simp;omega
   unfold Hy;simp only[Pf,hwin,aO,aR,bP]
  ·have hin:Ez (s.size:Int) 1 40=false:=by unfold Ez;simp;omega
   unfold Xm;simp only[Pf,hin,aO,aR,bP]
theorem race_eq(r:Ek):∃e,My r=some e/\Tm r=some e:=by
 unfold My Tm;obtain⟨b,e1,e2⟩:=key1_eq r.Key;have hw:Ei=Ez:=rfl;rw[e1,e2,hw];simp only[aG,Pf];have hy:(decide (r.Young<0)||decide (r.Old<r.Young))= !(Ez r.Young 0 r.Old):=by
  unfold Ez
  by_cases h1:r.Young<0<;>by_cases h2:r.Old<r.Young
  ·simp[h1,h2]
  ·simp[h1,h2]
  ·simp[h1,h2]
  ·simp only[h1,h2,decide_false,Bool.or_self];rw[show decide (0<=r.Young)=true by simp;omega,show decide (r.Young<=r.Old)=true by simp;omega];rfl
 cases b with
 |false=>exact⟨5,rfl,rfl⟩
 |true=>
  simp only[bN,aO,aR]
  by_cases h1:((!(Ez r.Stroke 1 5))||(!(Ez r.Sex 0 2)))=true
  ·rw[aQ h1,aQ h1];exact⟨4,rfl,rfl⟩
  ·rw[aP h1,aP h1];have hbig:(((((((!decide (r.Course=25)) && (!decide (r.Course=50)))||(!(Ez r.Legs 1 4)))||(!(Ez r.Metres 25 1500)))||(decide (r.Young<0)))||(decide (r.Old<r.Young)))||(decide (120<r.Old)))=
    (((!decide (r.Course=25)) && (!decide (r.Course=50)))||((!(Ez r.Legs 1 4))||((!(Ez r.Metres 25 1500))||((!(Ez r.Young 0 r.Old))||(decide (120<r.Old)))))):=by
    rw[←hy];simp only[Bool.or_assoc]
   rw[hbig]
   by_cases hcr:((!decide (r.Course=25)) && (!decide (r.Course=50)))=true
   ·simp only[hcr,aS,Bool.true_or];exact⟨1,rfl,rfl⟩
   ·have hcr':r.Course=25\/r.Course=50:=by simp at hcr;omega
    have c0:(!decide (r.Course=0))=true:=by rcases hcr' with h|h<;>simp[h]
    have c4:(!decide ((W (4*r.Course))=0))=true:=by rcases hcr' with h|h<;>rw[h]<;>decide+kernel
    rw[Bool.not_eq_true] at hcr;simp only[hcr,Bool.false_or,aO,aR,Gl c0,Gl c4];generalize (!(Ez r.Legs 1 4))=b1;generalize (!(Ez r.Metres 25 1500))=b2;generalize (!(Ez r.Young 0 r.Old))=b3;generalize decide (120<r.Old)=b4;generalize (!decide ((Int.tmod r.Metres r.Course)=0))=b5;generalize (!decide ((Int.tmod r.Metres (W (4*r.Course)))=0))=b6;generalize decide (r.Stroke=5)=b7
    by_cases hl:r.Legs=1
    ·have hl2:decide (1<r.Legs)=false:=by rw[hl];rfl
     simp only[hl2,aH hl]
     cases b1<;>cases b2<;>cases b3<;>cases b4<;>cases b5<;>cases b6<;>cases b7<;>exact⟨_,rfl,rfl⟩
    ·simp only[aI hl];generalize decide (1<r.Legs)=b8;generalize (!decide (r.Legs=4))=b9
     cases b1<;>cases b2<;>cases b3<;>cases b4<;>cases b5<;>cases b7<;>cases b8<;>cases b9<;>exact⟨_,rfl,rfl⟩
theorem tbl_l(t:Qy)(hl:t.Points.length<=1000)(e0:Int):∀(ys dn:List Int),t.Points=dn++ys->∃e,Lx t (some e0) ys dn.length=some e/\Kw t (some e0) ys dn.length=some e/\(e=0->e0=0/\∀v∈ys,0<=v/\v<=10000)
 |[],dn,_=>⟨e0,rfl,rfl,λh=>⟨h,λ_ h=>by cases h⟩⟩
 |y::ys,dn,h=>by
  have hw:Jg=Ei:=rfl
  rw[Lx,Kw,hw]
  obtain⟨e,a1,a2,a3⟩:=tbl_l t hl e0 ys (dn++[y]) (by rw[h];simp)
  rw[aU,aX] at a1 a2
  rw[a1,a2]
  simp only[Pf]
  cases hin:Ei y 0 10000 with
  |false=>exact⟨1,rfl,rfl,λh=>by cases h⟩
  |true=>
   have hr:0<=y/\y<=10000:=by unfold Ei at hin;simpa using hin
   have fin:e=0->e0=0/\∀v∈y::ys,0<=v/\v<=10000:=λhe=>⟨(a3 he).1,λv hv=>by
    rcases bB.1 hv with rfl|hv
    ·exact hr
    ·exact(a3 he).2 v hv⟩
   simp only[bN,aO,aR]
   by_cases h0:0<(dn.length:Int)
   ·have hdl:dn.length<=1000:=by rw[h] at hl;simp at hl;omega
    have hc:inB (W ((dn.length:Int)-1)) t.Points.length=true:=by rw[Jz aA aA,Ha,h];simp;omega
    rw[aQ (aH h0),Gl hc]
    split
    ·exact⟨7,rfl,rfl,λh=>by cases h⟩
    ·exact⟨e,rfl,rfl,fin⟩
   ·rw[aP (by simpa using h0),aI h0]
    exact⟨e,rfl,rfl,fin⟩
theorem table_eq(t:Qy):∃e,Sq t=some e/\Ta t=some e/\(e=0->TR t):=by
 have hw:Jg=Ei:=rfl;unfold Sq Ta;rw[hw]
 by_cases h:40<(t.Points.length:Int)
 ·rw[aQ (aH h),aQ (aH h)];exact⟨2,rfl,rfl,λh=>by cases h⟩
 ·have hh:decide (40<(t.Points.length:Int))=false:=aI h;simp only[Pf,hh,aO,aR]
  cases hb:((!(Ei t.Relay 1 10))||(!(Ei t.Most 0 10))) with
  |true=>
   simp only[aS];obtain⟨e,a1,a2,a3⟩:=tbl_l t aA 1 t.Points [] rfl;exact⟨e,a1,a2,λhe=>by have:=(a3 he).1;cases this⟩
  |false=>
   simp only[aO,aR];obtain⟨e,a1,a2,a3⟩:=tbl_l t aA 0 t.Points [] rfl;refine⟨e,a1,a2,λhe=>⟨by omega,(a3 he).2,?_⟩⟩;unfold Ei at hb;simp at hb;omega
theorem errs_l(j:Int):∀(l:List Int) (i k:Nat),Ma j l i=Ma j l k
 |[],_,_=>rfl
 |a::l,i,k=>by rw[Ma,Ma,errs_l j l (i+1) (k+1)]
theorem GL(a:Int)(l:List Int):Jn (a::l)=if a≠0 then a else Jn l:=by
 unfold Jn;simp only[Pf,Ma];rw[errs_l 0 l (0+1) 0]
 by_cases h:a=0<;>simp[h]
theorem errs_nil:Jn []=0:=rfl
theorem raceKey{r:Ek}(h:My r=some 0):Hy r.Key=some true:=by
 obtain⟨b,h1,_⟩:=Ya r.Key
 cases b with
 |true=>exact h1
 |false=>
  unfold My at h;rw[h1] at h;simp at h
theorem hasKey(y:Ek):∀(l:List Ek) (i:Nat),decide (0<=Gi y (-1) l i)=l.any λx=>decide (x.Key=y.Key)
 |[],i=>rfl
 |x::l,i=>by
  have hc:Ww x y=decide (x.Key=y.Key):=rfl
  rw[Gi,List.any_cons,hc]
  by_cases h:x.Key=y.Key
  ·rw[aQ (aH h),aH h];simp
  ·rw[aP (by simpa using h),hasKey y l (i+1),aI h,Bool.false_or]
theorem XE(key:ByteArray)(j:Ek):∀(l:List Ek) (i:Nat),(Kf key (j,false) l i).2=l.any λx=>decide (x.Key=key)
 |[],i=>rfl
 |x::l,i=>by
  rw[Kf,List.any_cons]
  by_cases h:x.Key=key
  ·rw[aQ (aH h),aH h];rfl
  ·rw[aP (by simpa using h),XE key j l (i+1),aI h,Bool.false_or]
theorem UY(p:Lc)(hl:p.Races.length<=1000)(e0:Int):∀(ys dn:List Ek),p.Races=dn++ys->(dn.map (·.Key)).Nodup->(∀r∈dn,Hy r.Key=some true)->∃e,Nz p (some e0) ys dn.length=some e/\Lk p (some e0) ys dn.length=some e/\(e=0->e0=0/\(p.Races.map (·.Key)).Nodup/\∀r∈p.Races,Hy r.Key=some true)
 |[],dn,h,h1,h2=>⟨e0,rfl,rfl,λhe=>⟨he,by rw[h,List.append_nil];exact h1,by rw[h,List.append_nil];exact h2⟩⟩
 |y::ys,dn,h,h1,h2=>by
  have hlen:p.Races.length=dn.length+(ys.length+1):=by rw[h];simp
  have e:p.Races=(dn++[y])++ys:=by rw[h];simp
  have hcut:cut p.Races 0 (dn.length:Int)=dn:=by unfold cut;rw[h];simp
  have hc:Kd dn y=dn.any λx=>decide (x.Key=y.Key):=by
   unfold Kd Mt;rw[Ht,hasKey]
  have hc2:(Mg dn y.Key).2=dn.any λx=>decide (x.Key=y.Key):=by
   unfold Mg;rw[Ht,XE]
  obtain⟨f,f1,f2⟩:=race_eq y;rw[Nz,Lk,f1,f2];simp only[aG,Ht]
  by_cases hf:f=0
  ·subst hf;simp only[aJ,bN,aO,aR];rw[Gl (Qs.2 aA),Gl (Qs.2 aA),hcut,hc,hc2]
   cases ha:dn.any λx=>decide (x.Key=y.Key) with
   |true=>exact⟨6,by simp,by simp,λh=>absurd h aC⟩
   |false=>
    rw[List.any_eq_false] at ha;have ih:=UY p hl e0 ys (dn++[y]) e (by
     rw[List.map_append,List.nodup_append];refine⟨h1,by simp,λa ha' b hb e'=>?_⟩;obtain⟨x,hx,rfl⟩:=bD.1 ha';simp only[aY,List.map_nil,bA] at hb;exact ha x hx (by simp[e',hb])) λr hr=>by
     rcases bC.1 hr with hr|hr
     ·exact h2 r hr
     ·obtain rfl:=bA.1 hr;exact raceKey f1
    rw[aU,aX] at ih;simpa using ih
  ·rw[aQ (by simpa using hf),aQ (by simpa using hf)];exact⟨f,rfl,rfl,λh=>absurd h hf⟩
theorem QA(p:Lc):∃e,Sm p=some e/\Qq p=some e/\(e=0->TI p):=by
 unfold Sm Qq
 by_cases h:100<(p.Races.length:Int)
 ·rw[aQ (aH h),aQ (aH h)];exact⟨2,rfl,rfl,λh=>absurd h aC⟩
 ·rw[aP (by simpa using h),aP (by simpa using h)];simp only[Ht];obtain⟨e,t1,t2,t3⟩:=table_eq p.Table;have hff:Qk p.Final=Nr p.Final:=rfl;rw[t1,t2,hff];simp only[aG]
  by_cases he:e=0
  ·subst he;simp only[aJ,bN,aO,aR];obtain⟨f,a,b,c⟩:=UY p aA (Nr p.Final) p.Races [] rfl aB aB;exact⟨f,a,b,λhf=>⟨t3 rfl,t1,(c hf).2.1,(c hf).2.2,by omega,(c hf).1⟩⟩
  ·rw[aQ (by simpa using he)];obtain⟨f,a,b,c⟩:=UY p aA e p.Races [] rfl aB aB;exact⟨f,a,b,λhf=>absurd (c hf).1 he⟩
theorem RJ(t:Int):Fw t=if Kn t=true then 0 else 1:=by
 have hmo:Kn t=On t:=by
  unfold Kn On Jg
  by_cases a1:0<=t<;>by_cases a2:t<345686400000<;>simp[a1,a2]<;>omega
 unfold Fw AG;rw[hmo]
 cases On t<;>rfl
theorem errs2(a b:Int):Jn [a,b]=if a≠0 then a else b:=by
 rw[GL,GL,errs_nil]
 by_cases ha:a=0<;>by_cases hb:b=0<;>simp[ha,hb]
theorem DsG.mom{l:List An}(h:DsG l):l.Pairwise λx y=>x.At<=y.At:=h.adj.up.imp λ{a b} hab=>by have:=(WL a b).1 hab;omega
theorem YS(p:Lc)(l:List An)(at_:Int):∃e,Ox p l at_=some e/\(e≠0->Zw p l [at_]=some (none,e))/\(e=0->TI p/\DsG l/\Kn at_=true/\Zw p l [at_]=some (some (Mp.mk p (Jw l at_)),0)):=by
 obtain⟨e,p1,p2,p3⟩:=QA p;obtain⟨f,d1,d2,d3⟩:=MV l;unfold Ox Zw;rw[p1,p2];simp only[aG]
 by_cases he:e=0
 ·subst he;simp only[aJ,bN,aO,aR];rw[d1,d2];simp only[aG,Ht,errs2,RJ]
  by_cases hf:f=0
  ·subst hf;have hG:=d3 rfl;simp only[aJ,bN,aO,aR,ne_eq,not_true_eq_false];rw[Ql]
   by_cases hm:Kn at_=true
   ·refine⟨0,by rw[aQ hm],λh=>absurd rfl h,λ_=>⟨p3 rfl,hG,hm,?_⟩⟩;rw[aP (by simp[hm]),Ql,Gl (by rfl)];have hn:nth [at_] (W ((([at_]:List Int).length:Int)-1))=at_:=rfl;rw[hn,NC p l at_ (by have:=hG.len;omega)];rfl
   ·refine⟨1,by rw[aP hm],λ_=>?_,λh=>absurd h aC⟩;rw[aQ (by simpa using hm)]
  ·refine⟨f,by rw[aQ hf],λ_=>?_,λh=>absurd h hf⟩;rw[aQ (by simpa using hf)]
 ·rw[aQ (by simpa using he)];exact⟨e,rfl,λ_=>by rw[aQ (by simpa using he)],λh=>absurd h he⟩
def R0:Ek:=Ek.mk Ed 0 0 0 0 0 0 0
theorem idxN_l(key:ByteArray):∀(l:List Ek) (i:Nat),(∀r∈l,r.Key≠key)->Gb key (-1) l i= -1
 |[],_,_=>rfl
 |x::l,i,h=>by
  rw[Gb]
  unfold Xw
  rw[aP (by simpa using h x aN)]
  exact idxN_l key l (i+1) λr hr=>h r (aM _ hr)
theorem YT{p:Lc}(hp:TI p){l:List An}{at_:Int}(hf:KG l)(hs:l.Pairwise λx y=>x.At<=y.At)(race:ByteArray):∃e,Nk p l race at_=some e/\((e≠0/\Yh p (Jw l at_) race=some (R0,e))\/(e=0/\∃r∈p.Races,r.Key=race/\Yh p (Jw l at_) race=some (r,0))):=by
 have hFl:(Jw l at_).length<=l.length:=(AE l at_).length_le;have hl:=hf.len;unfold Nk Yh
 by_cases hex:∃r∈p.Races,r.Key=race
 ·obtain⟨r,hr,hk⟩:=hex;obtain⟨k,e1,e2⟩:=idxR_l race p.Races 0 hp.keys r hr hk;have hidx:Gc p.Races race=(k:Int):=by
   unfold Gc;rw[Ht,e1];simp
  have hk2:k<p.Races.length:=by
   rcases Nat.lt_or_ge k p.Races.length with h|h
   ·exact h
   ·rw[List.getElem?_eq_none h] at e2;cases e2
  have hnth:nth p.Races (k:Int)=r:=by unfold nth;simp[List.getD,e2]
  have hro:(Mg p.Races race).2=true:=by
   unfold Mg;rw[Ht,NS race _ p.Races 0 hp.keys r hr hk]
  rw[hro,hidx,aP aB,aP aB,CH l race at_ hf hs,CG p (Jw l at_) race aA];simp only[aG]
  by_cases hc:300<((AW race (Jw l at_)).length:Int)
  ·rw[aQ (aH hc),aQ (aH hc)];exact⟨2,rfl,.inl ⟨by decide,rfl⟩⟩
  ·rw[aP (by simpa using hc),aP (by simpa using hc),Gl (Ha.2 aA),hnth];exact⟨0,rfl,.inr ⟨rfl,r,hr,hk,rfl⟩⟩
 ·have hno:∀r∈p.Races,r.Key≠race:=λr hr e=>hex ⟨r,hr,e⟩;have hidx:Gc p.Races race= -1:=by
   unfold Gc;rw[Ht,idxN_l race p.Races 0 hno]
  have hro:(Mg p.Races race).2=false:=by
   unfold Mg;rw[Ht,KU race _ p.Races 0 hno]
  rw[hro,hidx];exact⟨8,rfl,.inl ⟨by decide,rfl⟩⟩
def val(f:Ky):Nat:=(f.Num*60 / f.Den).toNat
def sumM(m:List (ByteArray×Nat)):Nat:=(m.map (·.2)).sum
theorem QB{ν:Type}(k:ByteArray)(v:ν):∀(m:List (ByteArray×ν)),(m.map (·.1)).Nodup->((Jd m k v).map (·.1)).Nodup/\∀z,z∈(Jd m k v).map (·.1)↔z=k\/z∈m.map (·.1)
 |[],_=>by simp[Jd]
 |(k',v')::m,h=>by
  rw[aY,bT] at h
  simp only[Jd]
  split
  ·rename_i e
   subst e
   refine⟨by rw[aY,bT];exact h,λz=>?_⟩
   simp only[aY,bB]
   constructor
   ·rintro(h|h)
    ·exact .inl h
    ·exact .inr (.inr h)
   ·rintro(h|h|h)
    ·exact .inl h
    ·exact .inl h
    ·exact .inr h
  ·rename_i hne
   obtain⟨h1,h2⟩:=QB k v m h.2
   rw[aY,bT]
   refine⟨⟨λhm=>?_,h1⟩,λz=>?_⟩
   ·rcases(h2 _).1 hm with e|hm
    ·exact hne e.symm
    ·exact h.1 hm
   ·simp only[aY,bB,h2 z]
    constructor
    ·rintro(h|h|h)
     ·exact .inr (.inl h)
     ·exact .inl h
     ·exact .inr (.inr h)
    ·rintro(h|h|h)
     ·exact .inr (.inl h)
     ·exact .inl h
     ·exact .inr (.inr h)
structure MOk(m:List (ByteArray×Nat))(S:Nat):Prop where
 nodup:(m.map (·.1)).Nodup
 club:∀k∈m.map (·.1),k∈clubP/\k≠Ed
 sum:sumM m=S
end Go.Proofs.YtbicihdhkkjigaaGreatDoor
