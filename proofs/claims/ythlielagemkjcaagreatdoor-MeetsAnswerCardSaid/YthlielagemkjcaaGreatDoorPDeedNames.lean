/- What the stream gives of deeds: their names are of a few,their moments early. No program stands here but its twins. -/
import Derived.Test.YthlielagemkjcaaGreatDoorPDeedMerge
namespace Go.Proofs.YthlielagemkjcaaGreatDoor
open Go
def VV(at_:Int):List An->List (Fu×Bool)->List An
 |[],_=>[]
 |d::ds,m=>if decide (at_<d.At)||Gm m (Fz d) false then VV at_ ds m else
  d::VV at_ ds (if decide (d.Kind=4) then Iv m (Fu.mk d.Of d.Other) true else m)
def Gj(l:List An)(at_:Int):List An:=(VV at_ l.reverse []).reverse
def QA(l:List An)(at_:Int):List Nat->List (Fu×Bool)->List Nat
 |[],_=>[]
 |i::is,m=>if decide (at_<(nth l (i:Int)).At)||Gm m (Fz (nth l (i:Int))) false then QA l at_ is m else
  i::QA l at_ is (if decide ((nth l (i:Int)).Kind=4) then Iv m (Fu.mk (nth l (i:Int)).Of (nth l (i:Int)).Other) true else m)
theorem NX(l:List An)(at_:Int):∀(is:List Nat) (m:List (Fu×Bool)),(QA l at_ is m).Sublist is
 |[],_=>List.Sublist.refl _
 |i::is,m=>by
  rw[QA]
  split
  ·exact(NX l at_ is m).cons i
  ·exact(NX l at_ is _).cons_cons i
theorem WY(l:List An)(at_:Int):∀(is:List Nat) (m:List (Fu×Bool)),(QA l at_ is m).map (fun(i:Nat)=>nth l (i:Int))=VV at_ (is.map fun(i:Nat)=>nth l (i:Int)) m
 |[],_=>rfl
 |i::is,m=>by
  rw[QA,aY,VV]
  split
  ·exact WY l at_ is m
  ·rw[aY,WY l at_ is _]
theorem WZ(at_:Int):∀(l:List An) (m:List (Fu×Bool)),(VV at_ l m).Sublist l
 |[],_=>List.Sublist.refl _
 |d::l,m=>by
  rw[VV]
  split
  ·exact(WZ at_ l m).cons d
  ·exact(WZ at_ l _).cons_cons d
theorem CF(l:List An)(at_:Int):(Gj l at_).Sublist l:=by
 have:=(WZ at_ l.reverse []).reverse
 rwa [List.reverse_reverse] at this
theorem UC(l:List An)(at_:Int):∀(is:List Nat) (m:List (Fu×Bool)) (x:List Int),x.length+is.length<=1000000->
 Ny l at_ is m x=Pd (x++(QA l at_ is m).map fun(i:Nat)=>(i:Int))
 |[],_,x,_=>by rw[Ny];simp[QA]
 |i::is,m,x,hl=>by
  simp only[aT] at hl
  rw[Ny,QA]
  unfold WQ
  by_cases h:(decide (at_<(nth l (i:Int)).At)||Gm m (Fz (nth l (i:Int))) false)=true
  ·rw[aQ h,aQ h]
   exact UC l at_ is m x aA
  ·rw[aP h,aP h,Fm (by unfold Ja;exact aH aA),UC l at_ is _ (x++[(i:Int)]) aD]
   simp
def Aaw(l:List An)(at_:Int):List Nat:=(QA l at_ (FW l.length) []).reverse
theorem RN(l:List An)(at_:Int)(hl:l.length<=1000000):AZ l at_=some ((Aaw l at_).map fun(i:Nat)=>(i:Int)):=by
 have h2:(FW l.length).length=l.length:=by simp[FW]
 have h3:=(NX l at_ (FW l.length) []).length_le;unfold AZ;rw[UC l at_ (FW l.length) [] [] aD,aZ,UB _ (by rw[aV];omega),←List.map_reverse];rfl
theorem Aoc{l:List An}{at_:Int}{i:Nat}(h:i∈Aaw l at_):i<l.length:=by
 unfold Aaw at h;rw[List.mem_reverse] at h;have:=(NX l at_ (FW l.length) []).subset h;unfold FW at this;simpa using this
theorem Aax(l:List An)(at_:Int):(Aaw l at_).map (fun(i:Nat)=>nth l (i:Int))=Gj l at_:=by
 unfold Aaw Gj;rw[List.map_reverse,WY]
 congr 2
 unfold FW;rw[List.map_reverse,Aqp]
theorem Adq(p:Ge)(l:List An):∀(is:List Nat) (k:Nat) (x:List An),(∀i∈is,i<l.length)->x.length+is.length<=1000000->
 Vr l (λx1=>some (some (Jr.mk p x1))) (is.map fun(i:Nat)=>(i:Int)) k x=some (some (Jr.mk p (x++is.map fun(i:Nat)=>nth l (i:Int))))
 |[],k,x,_,_=>by simp[Vr]
 |i::is,k,x,hi,hl=>by
  simp only[aT] at hl
  have h1:=hi i aN
  rw[aY,Vr,Fm (Fy.2 ⟨by omega,by omega⟩),Fm (by unfold Ja;exact aH aA),Adq p l is (k+1) (x++[nth l (i:Int)]) (λj hj=>hi j (aM _ hj)) aD]
  simp
theorem Aay(p:Ge)(l:List An)(at_:Int)(hl:l.length<=1000000):EX p l at_=some (some (Jr.mk p (Gj l at_))):=by
 have h3:=(NX l at_ (FW l.length) []).length_le;have h2:(FW l.length).length=l.length:=by simp[FW]
 unfold EX;rw[RN l at_ hl];simp only[aG,Ga];rw[Adq p l (Aaw l at_) 0 [] (λi hi=>Aoc hi) (by unfold Aaw;simp;omega),aZ,Aax]
def VW(race:ByteArray)(m:List (ByteArray×An))(y:An):List (ByteArray×An):=
 if y.Race=race then if y.Kind=1 then Iv m y.Who y else if y.Kind=2 then KZ m y.Who else m else m
def entM(race:ByteArray)(l:List An):List (ByteArray×An):=l.foldl (VW race) []
def Zw(race:ByteArray)(l:List An):List An:=Si ltW ((entM race l).map (·.2))
theorem KT(race:ByteArray)(j:List (ByteArray×An)->Option (List An)):∀(ys:List An) (i:Nat) (m:List (ByteArray×An)),Tz race j ys i m=j (ys.foldl (VW race) m)
 |[],_,m=>by rw[Tz];rfl
 |y::ys,i,m=>by
  rw[Tz]
  simp only[Ga,List.foldl_cons]
  unfold VW
  by_cases hr:y.Race=race
  ·rw[aP (by simp[hr]),aQ hr]
   by_cases h1:y.Kind=1
   ·rw[aQ (aH h1),aQ h1]
    exact KT race j ys (i+1) _
   ·rw[aP (by simpa using h1),aP h1]
    by_cases h2:y.Kind=2
    ·rw[aQ (aH h2),aQ h2]
     exact KT race j ys (i+1) _
    ·rw[aP (by simpa using h2),aP h2]
     exact KT race j ys (i+1) _
  ·rw[aQ (by simpa using hr),aP hr]
   exact KT race j ys (i+1) _
theorem Aaz(j:List An->Option (List An)):∀(p:List (ByteArray×An)) (x:List An),x.length+p.length<=1000000->Zi j p x=j (x++p.map (·.2))
 |[],x,_=>by simp[Zi]
 |y::p,x,h=>by
  simp only[aT] at h
  rw[Zi,Fm (by unfold Ja;exact aH aA)]
  simp only[aG]
  rw[Aaz j p (x++[y.2]) aD]
  simp
theorem YY{κ ν:Type}[DecidableEq κ](k:κ)(v:ν):∀m:List (κ×ν),(m.map (·.1)).Nodup->((Iv m k v).map (·.1)).Nodup/\∀x,x∈(Iv m k v).map (·.1)↔x=k\/x∈m.map (·.1)
 |[],_=>⟨by simp[Iv],λx=>by simp[Iv]⟩
 |(q,u)::m,h=>by
  simp only[aY,bT] at h
  obtain⟨i1,i2⟩:=YY k v m h.2
  by_cases e:k=q
  ·subst e
   simp only[Iv,aS,aY,bT]
   exact⟨h,λx=>by simp⟩
  ·simp only[Iv,e,aR,aY,bT]
   refine⟨⟨λhm=>((i2 q).1 hm).elim (λh1=>e h1.symm) h.1,i1⟩,λx=>?_⟩
   rw[bB,i2 x,bB]
   constructor
   ·rintro(h1|h1|h1)
    ·exact .inr (.inl h1)
    ·exact .inl h1
    ·exact .inr (.inr h1)
   ·rintro(h1|h1|h1)
    ·exact .inr (.inl h1)
    ·exact .inl h1
    ·exact .inr (.inr h1)
theorem RO{κ ν:Type}[DecidableEq κ](k:κ):∀m:List (κ×ν),(KZ m k).Sublist m
 |[]=>List.Sublist.refl _
 |(q,u)::m=>by
  by_cases e:k=q
  ·simp only[KZ,e,aS];exact List.sublist_cons_self _ _
  ·simp only[KZ,e,aR];exact(RO k m).cons_cons _
theorem Aih{κ ν:Type}[DecidableEq κ](k:κ)(v:ν):∀(m:List (κ×ν)) (p:κ×ν),p∈Iv m k v->p=(k,v)\/p∈m
 |[],p,h=>by simp[Iv] at h;exact .inl h
 |(q,u)::m,p,h=>by
  by_cases e:k=q
  ·simp only[Iv,e,aS,bB] at h
   rcases h with h|h
   ·exact .inl (by rw[h,e])
   ·exact .inr (aM _ h)
  ·simp only[Iv,e,aR,bB] at h
   rcases h with h|h
   ·exact .inr (by rw[h];exact aN)
   ·exact(Aih k v m p h).imp id (aM _)
structure EntOk(race:ByteArray)(l:List An)(m:List (ByteArray×An)):Prop where
 nd:(m.map (·.1)).Nodup
 is:∀p∈m,p.1=p.2.Who/\p.2.Race=race/\p.2.Kind=1/\p.2∈l
theorem Aod(race:ByteArray)(l:List An):∀(ys:List An) (m:List (ByteArray×An)),(∀y∈ys,y∈l)->EntOk race l m->EntOk race l (ys.foldl (VW race) m)
 |[],m,_,h=>h
 |y::ys,m,hy,h=>by
  rw[List.foldl_cons]
  refine Aod race l ys _ (λz hz=>hy z (aM _ hz)) ?_
  unfold VW
  split
  ·rename_i hr
   split
   ·rename_i h1
    obtain⟨a,_⟩:=YY y.Who y m h.nd
    refine⟨a,λp hp=>?_⟩
    rcases Aih _ _ m p hp with rfl|hp
    ·exact⟨rfl,hr,h1,hy y aN⟩
    ·exact h.is p hp
   ·split
    ·exact⟨h.nd.sublist ((RO y.Who m).map _),λp hp=>h.is p ((RO y.Who m).subset hp)⟩
    ·exact h
  ·exact h
theorem entOk(race:ByteArray)(l:List An):EntOk race l (entM race l):=Aod race l l [] (λ_ h=>h) ⟨by simp,λ_ h=>by cases h⟩
theorem Aba{race:ByteArray}{l:List An}{m:List (ByteArray×An)}(h:EntOk race l m):(m.map (·.2)).map (·.Who)=m.map (·.1):=by
 rw[List.map_map];exact List.map_congr_left λp hp=>(h.is p hp).1.symm
theorem Aii{race:ByteArray}{l:List An}{d:An}:d∈Zw race l↔d∈(entM race l).map (·.2):=JN _ _ _
theorem KU(race:ByteArray)(l:List An):(Zw race l).length=(entM race l).length:=by unfold Zw;rw[OS,aV]
theorem VX(race:ByteArray)(l:List An):(Zw race l).Pairwise λa b=>ltW a b=true:=by
 have ho:=entOk race l;exact SK SL _ (YX (by rw[Aba ho];exact ho.nd))
theorem EC{race:ByteArray}{l:List An}{d:An}(h:d∈Zw race l):d.Race=race/\d.Kind=1/\d∈l:=by
 obtain⟨p,hp,rfl⟩:=bD.1 (Aii.1 h);exact((entOk race l).is p hp).2
theorem HY(race:ByteArray)(l:List An):(entM race l).length<=l.length:=by
 have key:∀(ys:List An) (m:List (ByteArray×An)),(ys.foldl (VW race) m).length<=m.length+ys.length:=by
  intro ys
  induction ys with
  |nil=>intro m;simp
  |cons y ys ih=>
   intro m;rw[List.foldl_cons];have h1:(VW race m y).length<=m.length+1:=by
    unfold VW;have h2:(Iv m y.Who y).length<=m.length+1:=mput_le m y.Who y;have h3:=(RO y.Who m).length_le
    split
    ·split
     ·exact h2
     ·split<;>omega
    ·omega
   have:=ih (VW race m y);simp only[aT];omega
 simpa[entM] using key l []
where
 mput_le {κ ν:Type} [DecidableEq κ]:∀(m:List (κ×ν)) (k:κ) (v:ν),(Iv m k v).length<=m.length+1
  |[],_,_=>by simp[Iv]
  |(q,u)::m,k,v=>by
   by_cases e:k=q
   ·simp[Iv,e]
   ·simp only[Iv,e,aR,aT]
    have:=mput_le m k v
    omega
def BN(at_:Int):List An->Fu->Bool
 |[],_=>false
 |z::zs,e=>(decide (z.Kind=4) && decide (Fu.mk z.Of z.Other=e) && (decide (z.At<=at_) && !BN at_ zs (Fz z)))||BN at_ zs e
def okB(at_:Int)(l:List An)(i:Nat):Bool:=decide ((nth l (i:Int)).At<=at_) && !BN at_ (l.drop (i+1)) (Fz (nth l (i:Int)))
theorem Aij(l:List An)(n:Nat)(h:n<l.length):l.drop n=nth l (n:Int)::l.drop (n+1):=by
 rw[List.drop_eq_getElem_cons h];unfold nth;simp[List.getD,List.getElem?_eq_getElem h]
theorem Abb(l:List An)(at_:Int):∀(n:Nat) (m:List (Fu×Bool)),n<=l.length->(∀e,Gm m e false=BN at_ (l.drop n) e)->QA l at_ (List.range n).reverse m=(List.range n).reverse.filter (okB at_ l)
 |0,m,_,_=>rfl
 |n+1,m,hn,hm=>by
  have hr:(List.range (n+1)).reverse=n::(List.range n).reverse:=by rw[List.range_succ,List.reverse_append];rfl
  have hd:=Aij l n aA
  rw[hr,QA,hm]
  by_cases hk:okB at_ l n=true
  ·rw[bR hk]
   unfold okB at hk
   simp only[bQ,aK,Bool.not_eq_true'] at hk
   rw[aI (by omega:¬at_<(nth l (n:Int)).At),hk.2,aP aB]
   congr 1
   refine Abb l at_ n _ aA λe=>?_
   rw[hd,BN,hk.2,aH hk.1]
   by_cases h4:(nth l (n:Int)).Kind=4
   ·rw[aQ (aH h4),CW,aH h4,hm]
    by_cases he:e=Fu.mk (nth l (n:Int)).Of (nth l (n:Int)).Other
    ·rw[aQ he,he];simp
    ·rw[aP he,aI λh=>he h.symm];simp
   ·rw[aP (by simpa using h4),aI h4,hm];simp
  ·rw[bS hk]
   have hk':okB at_ l n=false:=by simpa using hk
   unfold okB at hk'
   have hc:(decide (at_<(nth l (n:Int)).At)||BN at_ (l.drop (n+1)) (Fz (nth l (n:Int))))=true:=by
    by_cases ha:(nth l (n:Int)).At<=at_
    ·rw[aH ha] at hk';simp only[bO,Bool.not_eq_false'] at hk';rw[hk'];simp
    ·rw[aH (by omega:at_<(nth l (n:Int)).At)];rfl
   rw[aQ hc];refine Abb l at_ n m aA λe=>?_;rw[hm,hd,BN,hk'];simp
theorem Afu(l:List An)(at_:Int):Aaw l at_=(List.range l.length).filter (okB at_ l):=by
 unfold Aaw;have h:=Abb l at_ l.length [] (bU _) λe=>by rw[List.drop_length];simp[BN,Gm,Tw,Oo]
 have hr:FW l.length=(List.range l.length).reverse:=by unfold FW;rfl
 rw[hr,h,←List.filter_reverse,List.reverse_reverse]
theorem XA(at_:Int):∀(l:List An),l.Pairwise (λx y=>x.At<=y.At)->∃A Q,l=A++Q/\(∀a∈A,a.At<=at_)/\∀q∈Q,at_<q.At
 |[],_=>⟨[],[],rfl,λ_ h=>absurd h aB,λ_ h=>absurd h aB⟩
 |x::l,h=>by
  rw[List.pairwise_cons] at h
  by_cases hx:x.At<=at_
  ·obtain⟨A,Q,e,h1,h2⟩:=XA at_ l h.2
   exact⟨x::A,Q,by rw[e];rfl,λa ha=>(bB.1 ha).elim (λe=>by rw[e];exact hx) (h1 a),h2⟩
  ·exact⟨[],x::l,rfl,λ_ h=>absurd h aB,λq hq=>(bB.1 hq).elim (λe=>by rw[e];omega) λhq=>by have:=h.1 q hq;omega⟩
theorem Adr(at_:Int):∀(Q:List An),(∀q∈Q,at_<q.At)->∀e,BN at_ Q e=false
 |[],_,_=>rfl
 |z::Q,h,e=>by
  have h1:=h z aN
  rw[BN,Adr at_ Q (λq hq=>h q (aM _ hq)) e,aI (by omega:¬z.At<=at_)]
  simp
theorem Abc(at_:Int)(Q:List An)(hQ:∀q∈Q,at_<q.At):∀(A:List An) (e:Fu),BN at_ (A++Q) e=BN at_ A e
 |[],e=>Adr at_ Q hQ e
 |z::A,e=>by rw[List.cons_append,BN,BN,Abc at_ Q hQ A,Abc at_ Q hQ A]
theorem Aik(P:List An)(at_:Int)(i:Nat)(hi:i<P.length)(hl:P.length<=1000)(hP:∀a∈P,a.At<=at_)(self:Int->List An->Option Bool)(hself:∀j:Nat,i<j->j<P.length->self (j:Int) P=some (!BN at_ (P.drop (j+1)) (Fz (nth P (j:Int))))):
 ∀(d m j:Nat),P.length=j+d->d<m->i<j->Jd P (i:Int) self (some true) m (j:Int)=some (!BN at_ (P.drop j) (Fz (nth P (i:Int))))
 |d,0,j,_,h,_=>by omega
 |0,m+1,j,h,_,_=>by
  rw[Jd,aP aD,List.drop_of_length_le aA]
  rfl
 |d+1,m+1,j,h,hm,hj=>by
  have ih:=Aik P at_ i hi hl hP self hself d m (j+1) aA aA aA
  have hjl:j<P.length:=by omega
  have bi:inB (i:Int) P.length=true:=Fy.2 aA
  have bj:inB (j:Int) P.length=true:=Fy.2 aA
  have hat:(nth P (j:Int)).At<=at_:=hP _ (List.mem_of_getElem? (Gd bj).1)
  have hw:W ((j:Int)+1)=((j+1:Nat):Int):=by rw[Hl aA aA];rfl
  rw[Jd,aQ (aH (by omega:(j:Int)<(P.length:Int)))]
  simp only[Ga,hw,Fm bi,Fm bj,aO,aR,ih]
  rw[Aij P j hjl,BN,aH hat]
  have hpl:decide (Fu.mk (nth P (j:Int)).Of (nth P (j:Int)).Other=Fz (nth P (i:Int)))=(decide ((nth P (j:Int)).Of=(nth P (i:Int)).Site) && decide ((nth P (j:Int)).Other=(nth P (i:Int)).No)):=by
   rw[←Bool.decide_and];apply decide_eq_decide.2;unfold Fz;simp
  rw[hpl]
  by_cases h4:(nth P (j:Int)).Kind=4
  ·rw[aQ (aH h4),aH h4]
   by_cases ho:(nth P (j:Int)).Of=(nth P (i:Int)).Site
   ·rw[aQ (aH ho),aH ho]
    by_cases hno:(nth P (j:Int)).Other=(nth P (i:Int)).No
    ·rw[aQ (aH hno),aH hno,hself j hj hjl];simp only[aG,bO]
     cases BN at_ (P.drop (j+1)) (Fz (nth P (j:Int)))<;>simp
    ·rw[aP (by simpa using hno),aI hno];simp
   ·rw[aP (by simpa using ho),aI ho];simp
  ·rw[aP (by simpa using h4),aI h4];simp
theorem Ads(P:List An)(at_:Int)(hl:P.length<=1000)(hP:∀a∈P,a.At<=at_):∀(m i:Nat),i<P.length->P.length<=i+m->La m (i:Int) P=some (!BN at_ (P.drop (i+1)) (Fz (nth P (i:Int))))
 |0,i,h1,h2=>by omega
 |m+1,i,h1,h2=>by
  have hw:W ((i:Int)+1)=((i+1:Nat):Int):=by rw[Hl aA aA];rfl
  unfold La Rh
  rw[Ga,hw]
  exact Aik P at_ i h1 hl hP _ (λj hj hjl=>Ads P at_ hl hP m j hjl aA) (P.length-(i+1)) _ (i+1) aA aA aA
theorem OT(at_:Int)(j:List An->Option (List Int)):∀(ys:List An) (i:Nat) (x:List An),x.length+ys.length<=100000->Nm at_ j ys i x=j (x++ys.filter λy=>decide (y.At<=at_))
 |[],i,x,_=>by simp[Nm]
 |y::ys,i,x,h=>by
  simp only[aT] at h
  rw[Nm]
  simp only[Ga]
  by_cases hc:y.At<=at_
  ·rw[aQ (aH hc),Fm (by unfold Ja;exact aH aA),OT at_ j ys (i+1) _ aD,bR (by simpa using hc)]
   simp
  ·rw[aP (by simpa using hc),OT at_ j ys (i+1) x aA,bS (by simpa using hc)]
theorem UD(P:List An)(at_:Int)(hl:P.length<=16)(hP:∀a∈P,a.At<=at_)(j:List Int->Option (List Int)):∀(d m i:Nat) (x:List Int),P.length=i+d->d<m->x.length<=i->Kb P j m x (i:Int)=j (x++(((List.range' i d).filter λk=>!BN at_ (P.drop (k+1)) (Fz (nth P (k:Int)))).map fun(k:Nat)=>(k:Int)))
 |d,0,i,x,_,h,_=>by omega
 |0,m+1,i,x,h,_,_=>by
  rw[Kb,aP aD]
  simp
 |d+1,m+1,i,x,h,hm,hx=>by
  have hw:W ((i:Int)+1)=((i+1:Nat):Int):=by rw[Hl aA aA];rfl
  rw[Kb,aQ (aH (by omega:(i:Int)<(P.length:Int)))]
  simp only[Ga,hw]
  rw[Ads P at_ aA hP 16 i aA aA,List.range'_succ]
  simp only[aG]
  cases hu:BN at_ (P.drop (i+1)) (Fz (nth P (i:Int))) with
  |true=>
   rw[bS (by rw[hu];simp)]
   simp only[bN,aO,aR]
   exact UD P at_ hl hP j d m (i+1) x aA aA aA
  |false=>
   rw[bR (by rw[hu];rfl)]
   simp only[Bool.not_false,aS]
   rw[Fm (by unfold Ja;exact aH aA),UD P at_ hl hP j d m (i+1) _ aA aA aD]
   simp
theorem Abv(l:List An)(at_:Int)(hl:l.length<=16)(hs:l.Pairwise λx y=>x.At<=y.At):∃r,AZ l at_=some r/\Qm l at_=some r:=by
 refine⟨_,RN l at_ aA,?_⟩;obtain⟨A,Q,e,h1,h2⟩:=XA at_ l hs;have hf:(l.filter λy=>decide (y.At<=at_))=A:=by
  rw[e,List.filter_append,List.filter_eq_self.2 λa ha=>aH (h1 a ha),List.filter_eq_nil_iff.2 λq hq=>by have:=h2 q hq;simp;omega,List.append_nil]
 have hAl:A.length<=l.length:=by rw[e];simp
 unfold Qm;simp only[Ga];rw[OT at_ _ l 0 [] aD,aZ,hf];have h3:=UD A at_ aA h1 (λx4=>some x4) A.length (((A.length:Int)-0).toNat+2) 0 [] aA aA aB;rw[aZ] at h3;refine Eq.trans h3 ?_;rw[Afu,←List.range_eq_range']
 congr 2
 have hlen:l.length=A.length+Q.length:=by rw[e];simp
 rw[hlen,List.range_add,List.filter_append];have hq:(List.map (λx=>A.length+x) (List.range Q.length)).filter (okB at_ l)=[]:=by
  rw[List.filter_eq_nil_iff];intro k hk;obtain⟨q,hq,rfl⟩:=bD.1 hk;rw[List.mem_range] at hq;have hmem:nth l ((A.length+q:Nat):Int)∈Q:=by
   have:nth l ((A.length+q:Nat):Int)=Q[q]:=by
    rw[e];unfold nth;rw[bI];simp[List.getD,List.getElem?_append_right,List.getElem?_eq_getElem hq]
   rw[this];exact List.getElem_mem hq
  have:=h2 _ hmem;unfold okB;rw[aI aA];simp
 rw[hq,List.append_nil];refine List.filter_congr λk hk=>?_;rw[List.mem_range] at hk;have hn:nth l (k:Int)=nth A (k:Int):=by
  rw[e];unfold nth;simp[List.getD,List.getElem?_append_left hk]
 have hd:l.drop (k+1)=A.drop (k+1)++Q:=by
  rw[e,List.drop_append_of_le_length aA]
 have hm:(nth A (k:Int)).At<=at_:=h1 _ (List.mem_of_getElem? (Gd (Fy.2 aA)).1);unfold okB;rw[hn,hd,Abc at_ Q h2,aH hm,bO]
theorem Aoe(j:List (ByteArray×Bool)->Bool->Option Int):∀(ys:List Fi) (i:Nat) (m:List (ByteArray×Bool)),(∀s∈ys,Gh s.Who=some true/\0<=s.Time/\s.Time<=360000)->(ys.map (·.Who)).Nodup->(∀s∈ys,Gm m s.Who false=false)->
 ∃m',Ua j ys i m false=j m' false
 |[],i,m,_,_,_=>⟨m,rfl⟩
 |y::ys,i,m,h1,h2,h3=>by
  obtain⟨k,t0,t1⟩:=h1 y aN
  simp only[aY,bT] at h2
  rw[Ua,k]
  simp only[aG,bN,aO,aR]
  rw[aP (by unfold Fv;simp;omega),h3 y aN,Bool.or_false]
  exact Aoe j ys (i+1) _ (λs hs=>h1 s (aM _ hs)) h2.2 (λs hs=>by
   rw[CW,aP (λe=>h2.1 (by rw[←e];exact bJ hs))]
   exact h3 s (aM _ hs))
theorem Ail{l:List Fi}(hl:l.length<=300)(h1:∀s∈l,Gh s.Who=some true/\0<=s.Time/\s.Time<=360000)(h2:(l.map (·.Who)).Nodup):Xy l=some 0:=by
 unfold Xy;rw[aP aD,Ga];obtain⟨m,e⟩:=Aoe (λx1 x2=>if x2 then some 6 else some 0) l 0 [] h1 h2 (λ_ _=>rfl);rw[e];rfl
theorem behindW{s t:ByteArray}(h:cB s t<0):(XL t s||decide (t=s))=false:=by
 rw[sless_cb,Bool.or_eq_false_iff];have hf:=FR s t;refine⟨aI aA,aI λe=>?_⟩;rw[e,Ut] at h;omega
theorem Abd(l:List Je)(hl:l.length<=300)(j:Option Int)(h1:∀s∈l,Gh s.Who=some true/\0<=s.Fault/\s.Fault<=8)(h2:l.Pairwise λa b=>cB a.Who b.Who<0):∀(ys dn:List Je),l=dn++ys->Qb l j ys dn.length=j
 |[],_,_=>rfl
 |y::ys,dn,he=>by
  obtain⟨k,t0,t1⟩:=h1 y (by rw[he];simp)
  have ih:=Abd l hl j h1 h2 ys (dn++[y]) (by rw[he];simp)
  rw[aU,aX] at ih
  rw[Qb,k]
  simp only[aG,bN,aO,aR,Ga]
  rw[aP (by unfold Fv;simp;omega)]
  have hlen:l.length=dn.length+(ys.length+1):=by rw[he];simp
  by_cases h0:(0:Int)<(dn.length:Int)
  ·obtain⟨d,x,hdx⟩:∃d x,dn=d++[x]:=by
    rcases List.eq_nil_or_concat dn with h1|⟨d,x,h1⟩
    ·rw[h1] at h0;simp at h0
    ·exact⟨d,x,by rw[h1];simp⟩
   have hdl:dn.length=d.length+1:=by rw[hdx];simp
   have hw:W ((dn.length:Int)-1)=(d.length:Int):=by rw[Hl aA aA];omega
   have hn:nth l (d.length:Int)=x:=by rw[he,hdx];unfold nth;simp
   have hc:cB x.Who y.Who<0:=by
    rw[he,hdx,List.append_assoc,bK] at h2;have:=h2.2.1;simp only[List.cons_append,aZ,List.pairwise_cons] at this;exact this.1 y aB
   rw[aQ (aH h0),hw,Fm (show inB (d.length:Int) l.length=true from Fy.2 aA),hn,behindW hc,Bool.and_false,aP aB];exact ih
  ·rw[aP (by simpa using h0),aI h0,bP,aP aB];exact ih
theorem Aim{l:List Je}(hl:l.length<=300)(h1:∀s∈l,Gh s.Who=some true/\0<=s.Fault/\s.Fault<=8)(h2:l.Pairwise λa b=>cB a.Who b.Who<0):Vx l=some 0:=by
 unfold Vx;rw[aP aD,Ga];exact Abd l hl (some 0) h1 h2 l [] rfl
def ltT(x y:Fj):Bool:=decide (x.Time<y.Time)
def UE(x y:Fj):Bool:=decide (x.Time<y.Time\/(x.Time=y.Time/\cB x.Who y.Who<0))
theorem RQ{x y:Fj}:UE x y=true↔x.Time<y.Time\/(x.Time=y.Time/\cB x.Who y.Who<0):=by simp[UE]
theorem Aln(x y z:Fj)(h1:UE x y=true)(h2:UE y z=true):UE x z=true:=by
 rw[RQ] at*;rcases h1 with h1|⟨h1,h3⟩
 ·rcases h2 with h2|⟨h2,_⟩<;>exact .inl aA
 ·rcases h2 with h2|⟨h2,h4⟩
  ·exact .inl aA
  ·exact .inr ⟨by omega,AY h3 h4⟩
theorem Abe{α:Type}{lt lt':α->α->Bool}:∀(l rp:List α),(∀x∈l,∀y∈rp,lt x y=lt' x y)->l.Pairwise (λa b=>lt b a=lt' b a)->DF lt l rp=DF lt' l rp
 |[],_,_,_=>rfl
 |x::l,rp,h1,h2=>by
  rw[List.pairwise_cons] at h2
  show DF lt l (AX lt x rp)=DF lt' l (AX lt' x rp)
  have e:AX lt x rp=AX lt' x rp:=TY x rp (h1 x aN)
  rw[e]
  refine Abe l _ (λz hz y hy=>?_) h2.2
  rcases(NW lt' x y rp).1 hy with rfl|hy
  ·exact h2.1 z hz
  ·exact h1 z (aM _ hz) y hy
theorem Abf{α:Type}{lt lt':α->α->Bool}(l:List α)(h:l.Pairwise λa b=>lt b a=lt' b a):Si lt l=Si lt' l:=by
 unfold Si;rw[Abe l [] (λ_ _ _ h=>by cases h) h]
theorem sortT_is{l:List Fj}(h:l.Pairwise λa b=>cB a.Who b.Who<0):Si ltT l=Si UE l:=Abf l (h.imp λ{a b} hab=>by
 have hf:=FR a.Who b.Who
 unfold ltT UE
 exact decide_eq_decide.2 ⟨.inl,λhh=>by rcases hh with hh|⟨_,hh⟩<;>omega⟩)
theorem Ain{l:List Fj}(h:l.Pairwise λa b=>cB a.Who b.Who<0):(Si UE l).Pairwise λa b=>UE a b=true:=SK Aln l (h.imp λ{a b} hab hb=>by
 rw[←Bool.not_eq_true,RQ] at hb
 rw[RQ]
 omega)
def ltT1(x y:Fj):Bool:=decide (W (W (Int.tdiv x.Time 1)-W (Int.tdiv y.Time 1))<0)
theorem ltT1_is(x y:Fj)(hx:0<=x.Time/\x.Time<=360000)(hy:0<=y.Time/\y.Time<=360000):ltT1 x y=ltT x y:=by
 unfold ltT1 ltT;rw[Int.tdiv_one,Int.tdiv_one,Hl (n:=x.Time) aA aA,Hl (n:=y.Time) aA aA,Hl aA aA];exact decide_eq_decide.2 aA
theorem Aqq(l:List Fj)(hl:l.length<=19)(h:∀x∈l,0<=x.Time/\x.Time<=360000):Jl l 1=some (Si ltT l):=by
 rw[←YB (lt:=ltT1) (lt':=ltT) l λx hx y hy=>ltT1_is x y (h x hx) (h y hy)];have hs:Hj l 0 (l.length:Int) 1=some (Si ltT1 l):=by
  unfold Hj;simp only[Ga];have hins:∀(k:List Fj->Option (List Fj)) (rp:List Fj) (x:Fj) (post:List Fj),((rp++x::post).length:Int)=(l.length:Int)->(∀y,y∈rp\/y=x\/y∈post->y∈(rp++x::post))->
   Gn 0 1 k (((rp.length:Int)-0).toNat+2) (rp.reverse++x::post) (rp.length:Int)=k ((AX ltT1 x rp).reverse++post):=by
   intro k rp x post h1 _;exact Adk (λx y k=>Option.bind (DQ x y 1) λr=>k (decide (r<0))) ltT1 k (Gn 0 1 k) (λ_ _ _=>rfl) rp x post _ aA (by simp at h1;omega) λy hy k'=>by
    unfold DQ;rw[Fm aC,Fm aC];rfl
  cases l with
  |nil=>rfl
  |cons x l=>
   have hw:W (0+1)=(([x]:List Fj).length:Int):=rfl;rw[hw];exact SJ ltT1 (λx=>some x) (λk x i=>Gn 0 1 k ((i-0).toNat+2) x i) (Hy ((x::l).length:Int) 0 1 λx=>some x) ((x::l).length:Int) (λ_ _ _=>rfl)
    (λk rp x post h1 h2=>hins k rp x post h1 h2) l [x] _ (by simp only[aT,aW];omega) (by simp only[aT,aW];omega) (by simp only[aT,aW] at hl ⊢;omega)
 unfold Jl Ll;simp only[Ga];rw[Jf,aP aD,hs];simp only[aG];rw[Jg,aP aD];rfl
def rkF(i:Nat)(pt pr:Int):List Fj->List Fj
 |[]=>[]
 |x::xs=>let r:=if decide (0<(i:Int)) && decide (x.Time=pt) then pr else(i:Int)+1
  Fj.mk x.Who r x.Time x.Fault::rkF (i+1) x.Time r xs
theorem Aof:∀(l:List Fj) (i:Nat) (pt pr:Int),(rkF i pt pr l).length=l.length
 |[],_,_,_=>rfl
 |x::xs,i,pt,pr=>by simp[rkF,Aof xs]
theorem YZ(j:List Fj->Option (List Fj×Int)):∀(B A ys:List Fj) (pt pr:Int),ys.length=B.length->(A++B).length<=1000->(∀x∈B,0<=x.Time/\x.Time<=360000)->(A=[]\/∃A' z,A=A'++[z]/\z.Time=pt/\z.Rank=pr/\0<=pt/\pt<=360000)->
 Yt 1 j ys A.length (A++B)=j (A++rkF A.length pt pr B)
 |[],A,ys,pt,pr,h1,_,_,_=>by
  obtain rfl:ys=[]:=List.length_eq_zero_iff.1 h1
  rw[Yt];rfl
 |b::B,A,[],pt,pr,h1,_,_,_=>by simp at h1
 |b::B,A,y::ys,pt,pr,h1,h2,h3,h4=>by
  simp only[aT,Nat.add_right_cancel_iff] at h1
  have hlen:(A++b::B).length=A.length+(B.length+1):=by simp
  have hb:=h3 b aN
  have nb:nth (A++b::B) (A.length:Int)=b:=SI A b B rfl
  have ib:inB (A.length:Int) (A++b::B).length=true:=Fy.2 aA
  have tb:W (Int.tdiv b.Time 1)=b.Time:=by rw[Int.tdiv_one];exact Hl aA aA
  have sb:∀z:Fj,(A++b::B).set (((A.length:Nat):Int).toNat) z=(A++[z])++B:=λz=>by simp
  rw[Yt]
  simp only[Ga]
  rw[rkF]
  by_cases h0:(0:Int)<(A.length:Int)
  ·obtain⟨A',z,hA,z1,z2,z3,z4⟩:∃A' z,A=A'++[z]/\z.Time=pt/\z.Rank=pr/\0<=pt/\pt<=360000:=by
    rcases h4 with h4|h4
    ·rw[h4] at h0;simp at h0
    ·exact h4
   have hAl:A.length=A'.length+1:=by rw[hA];simp
   have hw:W ((A.length:Int)-1)=(A'.length:Int):=by rw[Hl aA aA];omega
   have nz:nth (A++b::B) (A'.length:Int)=z:=by rw[hA,List.append_assoc];exact SI A' z _ rfl
   have iz:inB (A'.length:Int) (A++b::B).length=true:=Fy.2 aA;have tz:W (Int.tdiv z.Time 1)=pt:=by rw[Int.tdiv_one,z1];exact Hl aA aA
   have hw1:W ((A.length:Int)+1)=(A.length:Int)+1:=Hl aA aA;rw[aQ (aH h0),Fm ib,Fm aC,hw,Fm iz,Fm aC,nb,nz,tb,tz,aH h0,bO]
   by_cases ht:b.Time=pt
   ·rw[aQ (aH ht),Fm iz,Fm ib,sb,aH ht];have:=YZ j B (A++[Fj.mk b.Who z.Rank b.Time b.Fault]) ys b.Time z.Rank h1 (by simp at h2 ⊢;omega) (λx hx=>h3 x (aM _ hx)) (.inr ⟨A,_,rfl,rfl,rfl,hb.1,hb.2⟩);rw[aU,aX] at this;rw[this,z2];simp
   ·rw[aP (by simpa using ht),Fm ib,sb,hw1,aI ht];have:=YZ j B (A++[Fj.mk b.Who ((A.length:Int)+1) b.Time b.Fault]) ys b.Time ((A.length:Int)+1) h1 (by simp at h2 ⊢;omega) (λx hx=>h3 x (aM _ hx)) (.inr ⟨A,_,rfl,rfl,rfl,hb.1,hb.2⟩);rw[aU,aX] at this;rw[this];simp
  ·have hw1:W ((A.length:Int)+1)=(A.length:Int)+1:=Hl aA aA;rw[aP (by simpa using h0),aI h0,bP,bP,aP aB,Fm ib,nb,sb,hw1];have:=YZ j B (A++[Fj.mk b.Who ((A.length:Int)+1) b.Time b.Fault]) ys b.Time ((A.length:Int)+1) h1 (by simp at h2 ⊢;omega) (λx hx=>h3 x (aM _ hx)) (.inr ⟨A,_,rfl,rfl,rfl,hb.1,hb.2⟩);rw[aU,aX] at this;rw[this];simp
def LA(V:List Je)(m:List (ByteArray×Int)):List (ByteArray×Int):=V.foldl (λm v=>Iv m v.Who v.Fault) m
theorem Aog(j:List (ByteArray×Int)->Option (List Fj×Int)):∀(V:List Je) (i:Nat) (m:List (ByteArray×Int)),BB j V i m=j (LA V m)
 |[],_,m=>rfl
 |v::V,i,m=>by rw[BB,Aog j V (i+1) _];rfl
def mkR(f:ByteArray->Int)(s:Fi):Fj:=Fj.mk s.Who 0 s.Time (f s.Who)
def isG(f:ByteArray->Int)(s:Fi):Bool:=decide (f s.Who=0) && decide (0<s.Time)
theorem Afv(x1:List (ByteArray×Int))(j:List Fj->List Fj->Option (List Fj×Int)):∀(ys:List Fi) (i:Nat) (x2 x3:List Fj),x2.length+ys.length<=1000->x3.length+ys.length<=1000->
 Ys x1 j ys i x2 x3=j (x2++(ys.filter λs=>!isG (λw=>Gm x1 w 0) s).map (mkR λw=>Gm x1 w 0)) (x3++(ys.filter (isG λw=>Gm x1 w 0)).map (mkR λw=>Gm x1 w 0))
 |[],i,x2,x3,_,_=>by simp[Ys]
 |y::ys,i,x2,x3,h2,h3=>by
  simp only[aT] at h2 h3
  rw[Ys]
  simp only[Ga]
  have hg:isG (λw=>Gm x1 w 0) y=(decide (Gm x1 y.Who 0=0) && decide (0<y.Time)):=rfl
  have hm:mkR (λw=>Gm x1 w 0) y=Fj.mk y.Who 0 y.Time (Gm x1 y.Who 0):=rfl
  cases hc:(decide (Gm x1 y.Who 0=0) && decide (0<y.Time)) with
  |true=>
   rw[aQ rfl,Fm (by unfold Ja;exact aH aA),Afv x1 j ys (i+1) x2 _ aA aD,bS (by rw[hg,hc];simp),bR (by rw[hg,hc]),aY,hm]
   simp
  |false=>
   rw[aP aB,Fm (by unfold Ja;exact aH aA),Afv x1 j ys (i+1) _ x3 aD aA,bR (by rw[hg,hc];simp),bS (by rw[hg,hc];simp),aY,hm]
   simp
def RT(f:ByteArray->Int)(Q:List Fi):List Fj:=
 rkF 0 0 0 (Si UE ((Q.filter (isG f)).map (mkR f)))++(Q.filter λs=>!isG f s).map (mkR f)
theorem rank_is{Q:List Fi}{V:List Je}(hl:Q.length<=19)(h1:∀s∈Q,Gh s.Who=some true/\0<=s.Time/\s.Time<=360000)(h2:Q.Pairwise λa b=>cB a.Who b.Who<0)(hv:V.length<=300)(v1:∀s∈V,Gh s.Who=some true/\0<=s.Fault/\s.Fault<=8)(v2:V.Pairwise λa b=>cB a.Who b.Who<0):
 GR Q V=some (RT (λw=>Gm (LA V []) w 0) Q,0):=by
 have hnd:(Q.map (·.Who)).Nodup:=List.pairwise_map.2 (h2.imp λ{a b} h e=>by rw[e,Ut] at h;omega);have hgl:=List.length_filter_le (isG λw=>Gm (LA V []) w 0) Q;have hbl:=List.length_filter_le (λs=>!isG (λw=>Gm (LA V []) w 0) s) Q;have hG:∀x∈(Q.filter (isG λw=>Gm (LA V []) w 0)).map (mkR λw=>Gm (LA V []) w 0),0<=x.Time/\x.Time<=360000:=λx hx=>by
  obtain⟨s,hs,rfl⟩:=bD.1 hx;exact(h1 s (List.mem_filter.1 hs).1).2
 have hGp:((Q.filter (isG λw=>Gm (LA V []) w 0)).map (mkR λw=>Gm (LA V []) w 0)).Pairwise λa b=>cB a.Who b.Who<0:=by
  rw[List.pairwise_map];exact h2.sublist List.filter_sublist
 unfold GR OM;rw[Ail aA h1 hnd];simp only[aG,aJ,bN,aO,aR];rw[Aim hv v1 v2];simp only[aG,aJ,bN,aO,aR,Ga];rw[Aog,Afv _ _ Q 0 [] [] aD aD,aZ,aZ,Aqq _ (by rw[aV];omega) hG,sortT_is hGp];simp only[aG];have hl3:=YZ (λx8=>Chk (decide (x8.length+((Q.filter λs=>!isG (λw=>Gm (LA V []) w 0) s).map (mkR λw=>Gm (LA V []) w 0)).length<1073741824)) (some (x8++(Q.filter λs=>!isG (λw=>Gm (LA V []) w 0) s).map (mkR λw=>Gm (LA V []) w 0),0)))
  (Si UE ((Q.filter (isG λw=>Gm (LA V []) w 0)).map (mkR λw=>Gm (LA V []) w 0))) [] (Si UE ((Q.filter (isG λw=>Gm (LA V []) w 0)).map (mkR λw=>Gm (LA V []) w 0))) 0 0 rfl (by rw[aZ,OS,aV];omega) (λx hx=>hG x ((JN _ _ _).1 hx)) (.inl rfl)
 rw[aW,aZ,aZ] at hl3;rw[hl3,Fm (by rw[Aof,OS,aV,aV];exact aH aA)];rfl
theorem Aio(j:Int->Option Fh):∀(m x y:Nat),x<m->Vh j m (x:Int) (y:Int)=j ((Nat.gcd x y:Nat):Int)
 |0,_,_,h=>by omega
 |m+1,x,y,h=>by
  rw[Vh,Nat.gcd_rec]
  by_cases h0:x=0
  ·subst h0
   rw[aP aB,Nat.mod_zero,Nat.gcd_zero_right]
  ·have hlt:=Nat.mod_lt y (Nat.pos_of_ne_zero h0)
   rw[aQ aD,Fm (by simp[h0]),←Int.ofNat_tmod]
   exact Aio j m (y % x) x aA
theorem XB{a g:Nat}(h:a<=4000000000000000000):W (Int.tdiv (a:Int) (g:Int))=((a / g:Nat):Int):=by
 rw[←Int.ofNat_tdiv];have:=Nat.div_le_self a g;generalize a / g=q at this ⊢;exact Hl aA aA
theorem Afw(a b:Nat)(hb:0<b)(ha:a<=4000000000000000000)(hb':b<=4000000000000000000):Nr (a:Int) (b:Int)=some ⟨((a / Nat.gcd a b:Nat):Int),((b / Nat.gcd a b:Nat):Int)⟩:=by
 unfold Nr;simp only[Hg];rw[Aio _ _ a b aB];have hg:0<Nat.gcd a b:=Nat.gcd_pos_of_pos_right _ hb;have h0:¬((Nat.gcd a b:Nat):Int)=0:=by omega
 rw[Fm (by rw[aI h0];rfl),Fm (by rw[aI h0];rfl),XB ha,XB hb']
def fr(v:Nat):Fh:=⟨((v / Nat.gcd v 60:Nat):Int),((60 / Nat.gcd v 60:Nat):Int)⟩
theorem low_l(j:Int->Option Fh):∀(m x y:Nat),y<m->Ui j m (x:Int) (y:Int)=j ((Nat.gcd x y:Nat):Int)
 |0,_,_,h=>by omega
 |m+1,x,y,h=>by
  rw[Ui]
  by_cases h0:y=0
  ·subst h0
   rw[aP aB,Nat.gcd_zero_right]
  ·have hlt:=Nat.mod_lt x (Nat.pos_of_ne_zero h0)
   rw[aQ aD,Fm (by simp[h0]),←Int.ofNat_tmod,low_l j m y (x % y) aA,Nat.gcd_comm x y,Nat.gcd_rec y x,Nat.gcd_comm]
def One(g:List Fd):Prop:=g≠[]/\∀x∈g,∀y∈g,x.Race=y.Race
theorem Aip(pl pre g post:List Fd)(hp:pl=pre++(g++post))(hg:One g)(hn:∀x∈g,∀y,post.head? =some y->x.Race≠y.Race)(hl:pl.length<=1000)(j:Int->Option (List (List Fd))):
 ∀(d m k:Nat),g.length=k+d->1<=k->d<m->Xz pl (pre.length:Int) j m ((pre.length+k:Nat):Int)=j ((pre.length+g.length:Nat):Int)
 |d,0,_,_,_,h=>by omega
 |d,m+1,k,h1,h2,h3=>by
  have hlen:pl.length=pre.length+(g.length+post.length):=by rw[hp];simp
  rw[Xz]
  simp only[Hg]
  have hn0:∃g0 gs,g=g0::gs:=by
   cases g with
   |nil=>exact(hg.1 rfl).elim
   |cons a b=>exact⟨a,b,rfl⟩
  obtain⟨g0,gs,e0⟩:=hn0;have h0:nth pl (pre.length:Int)=g0:=by rw[hp,e0];exact SI pre g0 (gs++post) rfl
  have hb0:inB (pre.length:Int) pl.length=true:=Fy.2 (by rw[hlen,e0];simp;omega)
  cases d with
  |zero=>
   have hk:k=g.length:=by omega
   subst hk
   cases post with
   |nil=>
    simp only[aW,Nat.add_zero] at hlen;rw[aP (by rw[hlen];simp)];simp only[hlen,Int.lt_irrefl,decide_false,bP,aO,aR]
   |cons y post=>
    have hy:nth pl ((pre.length+g.length:Nat):Int)=y:=by
     have:pl=(pre++g)++y::post:=by rw[hp];simp
     rw[this];exact SI (pre++g) y post aB
    have hb:inB ((pre.length+g.length:Nat):Int) pl.length=true:=Fy.2 (by rw[hlen];simp;omega);rw[aQ (by rw[hlen];simp;omega),Fm hb,Fm hb0,hy,h0];have hne:decide (y.Race=g0.Race)=false:=aI λe=>hn g0 (by rw[e0];simp) y rfl e.symm;rw[hne,Bool.and_false,aP aB]
  |succ d=>
   have hkg:k<g.length:=by omega
   have hk:nth pl ((pre.length+k:Nat):Int)=g[k]:=by
    unfold nth;rw[bI,List.getD,hp,List.getElem?_append_right aA,Nat.add_sub_cancel_left,List.getElem?_append_left hkg,List.getElem?_eq_getElem hkg];rfl
   have hb:inB ((pre.length+k:Nat):Int) pl.length=true:=Fy.2 (by rw[hlen];omega);have hlt:((pre.length+k:Nat):Int)<(pl.length:Int):=by rw[hlen];omega
   rw[aQ (aH hlt),Fm hb,Fm hb0,hk,h0];have heq:g[k].Race=g0.Race:=hg.2 _ (List.getElem_mem hkg) _ (by rw[e0];simp);rw[aQ (by simp only[heq,aJ,Bool.and_true];exact aH hlt),Hl aA aA];have:=Aip pl pre g post hp hg hn hl j d m (k+1) aA aA aA;rw[show ((pre.length+k:Nat):Int)+1=((pre.length+(k+1):Nat):Int) by omega];exact this
theorem Aiq(pl:List Fd)(hl:pl.length<=1000)(j:List (List Fd)->Option (List (List Fd))):∀(Gs:List (List Fd)) (pre:List Fd) (x1:List (List Fd)) (m:Nat),pl=pre++Gs.flatten->Gs.length<m->x1.length+Gs.length<=10000->
 (∀g∈Gs,One g)->Gs.Pairwise (λg g'=>∀x∈g,∀y∈g',x.Race≠y.Race)->Ti pl j m x1 (pre.length:Int)=j (x1++Gs)
 |Gs,pre,x1,0,_,h,_,_,_=>by omega
 |[],pre,x1,m+1,h1,_,_,_,_=>by
  have:pl.length=pre.length:=by rw[h1];simp
  rw[Ti,aP (by rw[this];simp),List.append_nil]
 |g::Gs,pre,x1,m+1,h1,h2,h3,h4,h5=>by
  have hg:=h4 g aN
  have hpos:0<g.length:=List.length_pos_iff.2 hg.1
  have hp:pl=pre++(g++Gs.flatten):=by rw[h1];simp
  have hlen:pl.length=pre.length+(g.length+Gs.flatten.length):=by rw[hp];simp
  obtain⟨p1,p2⟩:=List.pairwise_cons.1 h5
  rw[Ti,aQ (by rw[hlen];simp;omega)]
  simp only[Hg]
  have hhead:∀x∈g,∀y,Gs.flatten.head? =some y->x.Race≠y.Race:=by
   intro x hx y hy
   cases Gs with
   |nil=>simp at hy
   |cons g' Gs=>
    have hg':=h4 g' aB
    cases g' with
    |nil=>exact(hg'.1 rfl).elim
    |cons a b=>simp at hy;subst hy;exact p1 (a::b) aN x hx a aN
  have hk:=Aip pl pre g Gs.flatten hp hg hhead hl (λx3=>Chk (Tv (pre.length:Int) x3 pl.length) (Chk (Ja x1.length) (Ti pl j m (x1++[cut pl (pre.length:Int) x3]) x3))) (g.length-1) (((pl.length:Int)-(W ((pre.length:Int)+1))).toNat+2) 1 aA aA (by rw[Hl aA aA];omega);rw[Hl aA aA] at hk ⊢;rw[show (pre.length:Int)+1=((pre.length+1:Nat):Int) by omega] at hk ⊢;rw[hk,Fm (Lc.2 aA),Fm (by unfold Ja;simp;simp at h3;omega)];have hcut:cut pl (pre.length:Int) ((pre.length+g.length:Nat):Int)=g:=by
   unfold cut;rw[hp,bI,bI,←List.append_assoc,List.take_left' aB,List.drop_left]
  rw[hcut];have ih:=Aiq pl hl j Gs (pre++g) (x1++[g]) m (by rw[hp];simp) (by simp at h2;omega) (by simp at h3 ⊢;omega) (λg' h'=>h4 g' (aM _ h')) p2;rw[aU] at ih;rw[ih];simp
theorem Aoh:∀(Gs:List (List Fd)),(∀g∈Gs,One g)->Gs.length<=Gs.flatten.length
 |[],_=>by simp
 |g::Gs,h=>by
  have:=Aoh Gs λg' h'=>h g' (aM _ h')
  have:=List.length_pos_iff.2 (h g aN).1
  rw[List.flatten_cons,aU,aT];omega
theorem Air(Gs:List (List Fd))(h1:∀g∈Gs,One g)(h2:Gs.Pairwise (λg g'=>∀x∈g,∀y∈g',x.Race≠y.Race))(hl:Gs.flatten.length<=1000):Wh Gs.flatten=some Gs:=by
 unfold Wh;simp only[Hg];have hf:=Aoh Gs h1;have:=Aiq Gs.flatten hl (λx1=>some x1) Gs [] [] (((Gs.flatten.length:Int)-0).toNat+2) rfl aA aD h1 h2;simpa using this
structure TOk(t:Il):Prop where
 len:t.Points.length<=5
 rng:∀n∈t.Points,0<=n/\n<=10
 rel:1<=t.Relay/\t.Relay<=2
 most:0<=t.Most/\t.Most<=2
def k_eve:ByteArray:=⟨#[101,118,101]⟩
def k_grey:ByteArray:=⟨#[103,114,101,121]⟩
def TJ(p_is:Bool)(p_e:Int):Int:=
 if p_is then
 p_e
 else
 0
def CG(p_at:Int):Int:=
 (TJ (!(Me p_at)) 1)
def Oh(p_p:Ge)(p_l:List An)(p_at:Int):Option Int:=
 Option.bind (Rv p_p) (λr1=>
 if !decide (r1=0) then
 some r1
 else
 Option.bind (Ql p_l) (λr2=>
 some (Nz [r2,(CG p_at)])))
structure TGood(t:Il):Prop extends TOk t where
 desc:t.Points.Pairwise λa b=>b<=a
section
variable {L:List Int}(hL:LY L)
include hL
theorem Aoi(r4:Int×Int)(j:List Int->Int->Option (Il×Int)):∀(d m:Nat) (x1:List Int) (a n q:Int),r4.1<=q+d->d<m->0<=q->q<=5->r4.1<=5->x1.length=q.toNat->0<=a->a+d<=1000000->0<=n->n<=10->(∀v∈x1,n<=v/\v<=10)->x1.Pairwise (λa b=>b<=a)->
 ∃x b,Sa r4 L j m x1 a n q=j x b/\a<=b/\b<=a+d/\x.length<=5/\(∀v∈x,0<=v/\v<=10)/\x.Pairwise (λa b=>b<=a)
 |d,0,_,_,_,_,_,h,_,_,_,_,_,_,_,_,_,_=>absurd h aA
 |d,m+1,x1,a,n,q,h1,h2,h3,h4,h4',h5,h6,h7,h8,h9,h10,h11=>by
  rw[Sa]
  by_cases hc:q<r4.1
  ·rw[aQ (aH hc),Fm (by unfold Ja;simp;omega)]
   obtain⟨d,rfl⟩:∃e,d=e+1:=⟨d-1,by omega⟩
   obtain⟨v,b,e,g1,g2,g3⟩:=Ow hL h6 aA [0,1,2,3] aB aB
   rw[e];simp only[aG]
   have hv:0<=v/\v<=3:=by simp at g3;omega
   have hn:0<=YF 0 (W (n-v))/\YF 0 (W (n-v))<=n:=by
    rw[Hl aA aA];unfold YF;split<;>omega
   rw[show W (q+1)=q+1 from Hl aA aA];obtain⟨x,c,r1,r2,r3,r5,r6,r7⟩:=Aoi r4 j d m (x1++[n]) b (YF 0 (W (n-v))) (q+1) aA aA aA aA h4' aD aA aA hn.1 aA (λv hv=>by
    rcases bC.1 hv with hv|hv
    ·have:=h10 v hv;omega
    ·obtain rfl:=bA.1 hv;omega) (by
    rw[bK];exact⟨h11,by simp,λu hu w hw=>by obtain rfl:=bA.1 hw;exact(h10 u hu).1⟩)
   exact⟨x,c,r1,by omega,by omega,r5,r6,r7⟩
  ·rw[aP (by simpa using hc)];exact⟨x1,a,rfl,by omega,by omega,by omega,λv hv=>by have:=h10 v hv;omega,h11⟩
theorem Ais{a:Int}(h0:0<=a)(h1:a<=100000):Dr a 10 TGood (Ve L a):=by
 unfold Ve;obtain⟨v1,b1,e1,p1,q1,m1⟩:=Ow hL h0 aA [1,2] aB aB;rw[e1];simp only[aG];obtain⟨v2,b2,e2,p2,q2,m2⟩:=Ow hL (a:=b1) aA aA [0,0,1,2] aB aB;rw[e2];simp only[aG];obtain⟨v3,b3,e3,p3,q3,m3⟩:=Ow hL (a:=b2) aA aA [10,9,7,5] aB aB;rw[e3];simp only[aG];obtain⟨v4,b4,e4,p4,q4,m4,m5⟩:=FT hL (a:=b3) aA aA 0 5 aA aA aA;rw[e4];simp only[aG,Hg];simp only[bB,bM,or_false] at m1 m2 m3;obtain⟨x,b,e,g1,g2,g3,g4,g5⟩:=Aoi hL (v4,b4) (λx1 x2=>some ((Il.mk x1 v1 v2),x2)) v4.toNat ((v4-0).toNat+2) [] b4 v3 0 (by simp only;omega) aA aA aA (by simp only;omega) rfl aA aA aA aA (λ_ h=>by cases h) List.Pairwise.nil;exact⟨_,b,e,by omega,by omega,⟨⟨g3,g4,by simp only;omega,by simp only;omega⟩,g5⟩⟩
end
def kR(x:Fd):Int:=if x.Rank=0 then 301 else x.Rank
def JJ(x y:Fd):Bool:=decide (cB x.Race y.Race<0\/(x.Race=y.Race/\(kR x<kR y\/(kR x=kR y/\cB x.Who y.Who<0))))
theorem NY{x y:Fd}:JJ x y=true↔(cB x.Race y.Race<0\/(x.Race=y.Race/\(kR x<kR y\/(kR x=kR y/\cB x.Who y.Who<0)))):=by simp[JJ]
theorem Alo(x y z:Fd)(h1:JJ x y=true)(h2:JJ y z=true):JJ x z=true:=by
 rw[NY] at*;rcases h1 with h1|⟨e1,h1⟩
 ·rcases h2 with h2|⟨e2,_⟩
  ·exact .inl (AY h1 h2)
  ·exact .inl (by rw[←e2];exact h1)
 ·rcases h2 with h2|⟨e2,h2⟩
  ·exact .inl (by rw[e1];exact h2)
  ·refine .inr ⟨e1.trans e2,?_⟩;rcases h1 with h1|⟨k1,h1⟩
   ·rcases h2 with h2|⟨k2,_⟩<;>exact .inl aA
   ·rcases h2 with h2|⟨k2,h2⟩
    ·exact .inl aA
    ·exact .inr ⟨by omega,AY h1 h2⟩
def RR(x:Fd):Prop:=0<=x.Rank/\x.Rank<=300
theorem sign_neg(n:Int):(Rf n<0)↔n<0:=by
 unfold Rf
 by_cases h:n<0
 ·simp[h]
 ·by_cases h':0<n
  ·simp[h,h']
  ·simp[h,h']
theorem key_is(x:Fd):Lx x=kR x:=by
 unfold Lx kR;simp
theorem Afx{x:Fd}(h:RR x):1<=kR x/\kR x<=301:=by
 unfold kR;have:=h.1;have:=h.2;split<;>omega
theorem Aqr{x y:Fd}(hx:RR x)(hy:RR y):decide (Ng x y<0)=JJ x y:=by
 have h1:=Afx hx;have h2:=Afx hy;have hc:Ic x.Race y.Race=cB x.Race y.Race:=rfl;have hw:Ic x.Who y.Who=cB x.Who y.Who:=rfl;unfold Ng JJ;rw[key_is,key_is,hc,hw]
 by_cases e:x.Race=y.Race
 ·rw[aP (by simp[e]),e,Ut]
  by_cases k:kR x=kR y
  ·rw[aP (by simp[k])];simp[k]
  ·rw[aQ (by simp[k])];rw[decide_eq_decide,sign_neg,Hl aA aA];simp[k];omega
 ·rw[aQ (by simp[e])];simp[e]
def fiveP:List ByteArray:=[Acy,k_bea,k_cid,k_dan,k_eve]
def raceP:List ByteArray:=[GQ,UV,Aab]
def clubP:List ByteArray:=[Zd,Zd,IG,k_grey,Ff]
structure O0(race:ByteArray)(rel:Bool)(o:List Fd):Prop where
 len:o.length<=5
 row:∀x∈o,x.Race=race/\x.Relay=rel/\x.Who∈fiveP/\x.Club∈clubP/\0<=x.Rank/\x.Rank<=4
 who:o.Pairwise λx y=>x.Who≠y.Who
section
variable {L:List Int}(hL:LY L)
include hL
end
def rk(o:List Fd)(r:Int):Nat:=1+o.countP λz=>decide (0<z.Rank) && decide (z.Rank<r)
def hR(o:List Fd)(x:Fd):Fd:=Fd.mk x.Race x.Who x.Club (if 0<x.Rank then(rk o x.Rank:Int) else 0) x.Relay
def g5(x:Fd):Fd:=Fd.mk x.Race x.Who x.Club (W (Int.tdiv x.Rank 10)) x.Relay
section
variable {L:List Int}(hL:LY L)
include hL
end
def XC:List ByteArray:=[Acy,k_bea,k_cid,k_dan,Ff]
def LZ:List ByteArray:=[Zd,IG,Ff,k_A]
def RU:List ByteArray:=[GQ,UV,k_rz,Ff]
def KV:List ByteArray:=[QD,k_sb,Ff]
structure NameD(d:An):Prop where
 site:d.Site∈KV
 who:d.Who∈XC
 club:d.Club∈LZ
 race:d.Race∈RU
 of_:d.Of∈KV
 at_:0<=d.At/\d.At<=80
theorem DV{κ R:Type}{K:κ}{f:κ->R}(Pr:R->Prop)(p:κ->Prop)(hK:p K)(hf:∀K',p K'->Pr (f K')):Pr (Fq K f):=hf K hK
def DH(j:List (ByteArray×Int)->List An->Int->Option (List An×Int))(a:Int)(m n:Nat)(r:Option (List An×Int)):Prop:=
 ∃mm x b,r=j mm x b/\a<=b/\b<=a+20*(m:Int)/\x.length<=n/\∀d∈x,NameD d
theorem Adt:Ff∈XC/\Ff∈LZ/\Ff∈RU/\Ff∈KV:=by simp[XC,LZ,RU,KV]
section
variable {L:List Int}(hL:LY L)
include hL
theorem Ait(many:Int)(hm:many<=16)(j:List (ByteArray×Int)->List An->Int->Option ((List An)×Int)):∀(m:Nat) (x1:List (ByteArray×Int)) (x2:List An) (a x4 x5:Int),0<=x5->many-x5<(m:Int)->0<=a->a+20*m<=10000000->x2.length+m<=1000->(∀e,0<=Gm x1 e 0/\Gm x1 e 0<=x5)->
 0<=x4->x4<=5*x5->(∀d∈x2,NameD d)->DH j a m (x2.length+(many-x5).toNat) (Xw many L j (m+1) x1 x2 a x4 x5)
 |m,x1,x2,a,x4,x5,h1,h2,h3,h4,h5,hx,h6,h7,hN=>by
  rw[Xw]
  by_cases hc:x5<many
  ·rw[aQ (aH hc)]
   cases m with
   |zero=>omega
   |succ m=>
    obtain⟨v1,b1,e1,g1,g2,hv1⟩:=Ow hL (a:=a) h3 aA [0,1,5] aB aB
    have hv1':0<=v1/\v1<=5:=by simp only[bB,bM,or_false] at hv1;omega
    rw[e1];simp only[aG]
    obtain⟨v2,b2,e2,g3,g4,hv2⟩:=EB hL (a:=b1) aA aA [QD,QD,k_sb] aB aB
    have hv2':v2∈KV:=by simp only[bB,bM,or_false] at hv2;unfold KV;rcases hv2 with rfl|rfl|rfl<;>simp
    rw[e2];simp only[aG]
    obtain⟨v3,b3,e3,gg5,g6,_⟩:=Ow hL (a:=b2) aA aA [1,1,1,3,3,3,2,4] aB aB
    rw[e3];simp only[aG]
    have hx':∀e,0<=Gm (Iv x1 v2 (W ((Gm x1 v2 0)+1))) e 0/\Gm (Iv x1 v2 (W ((Gm x1 v2 0)+1))) e 0<=x5+1:=λe=>by
     have q1:=hx v2
     have q2:=hx e
     rw[CW,Hl aA aA]
     split<;>omega
    refine DV (DH j a (m+1) (x2.length+(many-x5).toNat)) (λK=>∀s1 s2 c,s1∈XC->s2∈RU->a<=c->c<=a+5->DH j a (m+1) (x2.length+(many-x5).toNat) (K s1 s2 c)) ?_ ?_
    ·intro s1 s2 c hs1 hs2 hc1 hc2
     refine DV (DH j a (m+1) (x2.length+(many-x5).toNat)) (λK=>∀u1 u2 u3 u4 u5 c,u1∈LZ->u4∈KV->a<=c->c<=a+8->DH j a (m+1) (x2.length+(many-x5).toNat) (K u1 u2 u3 u4 u5 c)) ?_ ?_
     ·intro u1 u2 u3 u4 u5 c hu1 hu4 hc1 hc2
      obtain⟨f,d0,t0,y1,y2,_⟩:=HA hL (a:=c) aA aA 100 aA
      rw[t0];simp only[aG]
      refine DV (DH j a (m+1) (x2.length+(many-x5).toNat)) (λK=>∀t0 t1 t2 t3 t4 t5 t6 t7 t8 c,t0∈KV->t3∈XC->t4∈LZ->t5∈RU->a<=c->c<=a+17->DH j a (m+1) (x2.length+(many-x5).toNat) (K t0 t1 t2 t3 t4 t5 t6 t7 t8 c)) ?_ ?_
      ·intro q0 q1 q2 q3 q4 q5 q6 q7 q8 c hq0 hq3 hq4 hq5 hc1 hc2
       have hw4:W (x4+v1)=x4+v1:=Hl aA aA
       rw[Fm (by unfold Ja;exact aH aA),Hl (n:=x5+1) aA aA]
       obtain⟨mm,x,b,r1,r2,r3,r4,r5⟩:=Ait many hm j m _ (x2++[An.mk q0 q1 (W (x4+v1)) q2 q3 q4 q5 q6 q7 u4 q8]) c (W (x4+v1)) (x5+1) aA aA aA aA aD hx' aA aA (λd hd=>by
        rcases bC.1 hd with hd|hd
        ·exact hN d hd
        ·rw[bA] at hd
         subst hd
         exact⟨hq0,hq3,hq4,hq5,hu4,by show 0<=W (x4+v1)/\W (x4+v1)<=80;omega⟩)
       exact⟨mm,x,b,r1,by omega,by push_cast;omega,by simp at r4;omega,r5⟩
      ·intro K7 hK7
       have hno:DH j a (m+1) (x2.length+(many-x5).toNat) (K7 v2 (Gm (Iv x1 v2 (W ((Gm x1 v2 0)+1))) v2 0) v3 s1 u1 s2 u2 u3 u5 d0):=hK7 _ _ _ _ _ _ _ _ _ _ hv2' hs1 hu1 hs2 aA aA
       cases f with
       |false=>rw[aP aB];exact hno
       |true=>
        rw[aQ rfl]
        obtain⟨n,d1,t1,y3,y4,_⟩:=Afs hL (a:=d0) aA aA 4 aA
        rw[t1];simp only[aG]
        refine DV (DH j a (m+1) (x2.length+(many-x5).toNat)) (λK=>∀t0 t1 t2 t3 t4 t5 t6 t7 t8 c,t0∈KV->t3∈XC->t4∈LZ->t5∈RU->a<=c->c<=a+17->DH j a (m+1) (x2.length+(many-x5).toNat) (K t0 t1 t2 t3 t4 t5 t6 t7 t8 c)) ?_ ?_
        ·exact hK7
        intro K8 hK8
        refine DV (DH j a (m+1) (x2.length+(many-x5).toNat)) (λK=>∀t0 t1 t2 t3 t4 t5 t6 t7 t8 c,t0∈KV->t3∈XC->t4∈LZ->t5∈RU->a<=c->c<=a+17->DH j a (m+1) (x2.length+(many-x5).toNat) (K t0 t1 t2 t3 t4 t5 t6 t7 t8 c)) ?_ ?_
        ·exact hK8
        intro K9 hK9
        split
        ·skip
         obtain⟨z1,m1,oz1,pz1,qz1,hz1⟩:=EB hL (a:=d1) aA aA [Ff,QD] aB aB
         rw[oz1];simp only[aG]
         obtain⟨z2,m2,oz2,pz2,qz2,_⟩:=DN hL (a:=m1) aA aA 1 9 aA aA aA
         rw[oz2];simp only[aG]
         exact hK9 _ _ _ _ _ _ _ _ _ _ (by simp only[bB,bM,or_false] at hz1;unfold KV;rcases hz1 with rfl|rfl<;>simp) hs1 hu1 hs2 aA aA
        ·refine DV (DH j a (m+1) (x2.length+(many-x5).toNat)) (λK=>∀t0 t1 t2 t3 t4 t5 t6 c,t1∈XC->t2∈LZ->t3∈RU->a<=c->c<=a+17->DH j a (m+1) (x2.length+(many-x5).toNat) (K t0 t1 t2 t3 t4 t5 t6 c)) ?_ ?_
         ·intro q0 q1 q2 q3 q4 q5 q6 c hq1 hq2 hq3 hc1 hc2;exact hK9 _ _ _ _ _ _ _ _ _ _ hv2' hq1 hq2 hq3 aA aA
         intro K10 hK10
         split
         ·skip
          obtain⟨z1,m1,oz1,pz1,qz1,_⟩:=DN hL (a:=d1) aA aA 1 4 aA aA aA
          rw[oz1];simp only[aG]
          exact hK10 _ _ _ _ _ _ _ _ hs1 hu1 hs2 aA aA
         ·refine DV (DH j a (m+1) (x2.length+(many-x5).toNat)) (λK=>∀t0 t1 t2 t3 t4 t5 c,t0∈XC->t1∈LZ->t2∈RU->a<=c->c<=a+17->DH j a (m+1) (x2.length+(many-x5).toNat) (K t0 t1 t2 t3 t4 t5 c)) ?_ ?_
          ·intro q0 q1 q2 q3 q4 q5 c hq0 hq1 hq2 hc1 hc2;exact hK10 _ _ _ _ _ _ _ _ hq0 hq1 hq2 aA aA
          intro K11 hK11
          split
          ·skip
           obtain⟨z1,m1,oz1,pz1,qz1,hz1⟩:=EB hL (a:=d1) aA aA [Ff,Acy] aB aB
           rw[oz1];simp only[aG]
           obtain⟨z2,m2,oz2,pz2,qz2,hz2⟩:=EB hL (a:=m1) aA aA [k_A,Zd] aB aB
           rw[oz2];simp only[aG]
           obtain⟨z3,m3,oz3,pz3,qz3,hz3⟩:=EB hL (a:=m2) aA aA [Ff,GQ] aB aB
           rw[oz3];simp only[aG]
           simp only[bB,bM,or_false] at hz1 hz2 hz3
           exact hK11 _ _ _ _ _ _ _ (by unfold XC;rcases hz1 with rfl|rfl<;>simp) (by unfold LZ;rcases hz2 with rfl|rfl<;>simp) (by unfold RU;rcases hz3 with rfl|rfl<;>simp) aA aA
          ·skip
           obtain⟨z1,m1,oz1,pz1,qz1,_⟩:=DN hL (a:=d1) aA aA 0 360000 aA aA aA
           rw[oz1];simp only[aG]
           obtain⟨z2,m2,oz2,pz2,qz2,_⟩:=DN hL (a:=m1) aA aA 0 8 aA aA aA
           rw[oz2];simp only[aG]
           obtain⟨z3,m3,oz3,pz3,qz3,_⟩:=DN hL (a:=m2) aA aA 0 5 aA aA aA
           rw[oz3];simp only[aG]
           exact hK11 _ _ _ _ _ _ _ hs1 hu1 hs2 aA aA
     ·intro K3 hK3
      refine DV (DH j a (m+1) (x2.length+(many-x5).toNat)) (λK=>∀t0 t1 t2 t3 t4 c,t0∈LZ->t3∈KV->a<=c->c<=a+8->DH j a (m+1) (x2.length+(many-x5).toNat) (K t0 t1 t2 t3 t4 c)) ?_ ?_
      ·exact hK3
      intro K4 hK4
      split
      ·skip
       obtain⟨z1,m1,oz1,pz1,qz1,hz1⟩:=EB hL (a:=c) aA aA [Zd,IG,Ff] aB aB
       rw[oz1];simp only[aG]
       obtain⟨z2,m2,oz2,pz2,qz2,_⟩:=Ow hL (a:=m1) aA aA [0,5900,6000,7000] aB aB
       rw[oz2];simp only[aG]
       simp only[bB,bM,or_false] at hz1
       exact hK4 _ _ _ _ _ _ (by unfold LZ;rcases hz1 with rfl|rfl|rfl<;>simp) Adt.2.2.2 aA aA
      ·refine DV (DH j a (m+1) (x2.length+(many-x5).toNat)) (λK=>∀t0 t1 t2 t3 c,t2∈KV->a<=c->c<=a+8->DH j a (m+1) (x2.length+(many-x5).toNat) (K t0 t1 t2 t3 c)) ?_ ?_
       ·intro q0 q1 q2 q3 c hq2 hc1 hc2;exact hK4 _ _ _ _ _ _ Adt.2.1 hq2 aA aA
       intro K5 hK5
       split
       ·skip
        obtain⟨z1,m1,oz1,pz1,qz1,_⟩:=Ow hL (a:=c) aA aA [0,5900,5900,6000,6100] aB aB
        rw[oz1];simp only[aG]
        obtain⟨z2,m2,oz2,pz2,qz2,_⟩:=Ow hL (a:=m1) aA aA [0,0,0,0,3] aB aB
        rw[oz2];simp only[aG]
        exact hK5 _ _ _ _ _ Adt.2.2.2 aA aA
       ·refine DV (DH j a (m+1) (x2.length+(many-x5).toNat)) (λK=>∀t0 t1 c,t0∈KV->a<=c->c<=a+8->DH j a (m+1) (x2.length+(many-x5).toNat) (K t0 t1 c)) ?_ ?_
        ·intro q0 q1 c hq0 hc1 hc2;exact hK5 _ _ _ _ _ hq0 aA aA
        intro K6 hK6
        split
        ·skip
         obtain⟨z1,m1,oz1,pz1,qz1,hz1⟩:=EB hL (a:=c) aA aA [QD,QD,k_sb] aB aB
         rw[oz1];simp only[aG]
         have hb:YF 1 (Gm (Iv x1 v2 (W ((Gm x1 v2 0)+1))) QD 0)<=1000:=by
          have hz:=(hx' QD).2;have hmx:∀z:Int,z<=x5+1->YF 1 z<=1000:=λz hz=>by
           unfold YF
           by_cases hq:z>1
           ·rw[aQ hq];omega
           ·rw[aP hq];omega
          exact hmx _ hz
         obtain⟨z2,m2,oz2,pz2,qz2,_⟩:=FT hL (a:=m1) aA aA 1 (YF 1 (Gm (Iv x1 v2 (W ((Gm x1 v2 0)+1))) QD 0)) aA aA aA;rw[oz2];simp only[aG];simp only[bB,bM,or_false] at hz1;exact hK6 _ _ _ (by unfold KV;rcases hz1 with rfl|rfl|rfl<;>simp) aA aA
        ·exact hK6 _ _ _ Adt.2.2.2 aA aA
    ·intro K hK
     split
     ·obtain⟨w1,c1,t1,q1,q2,hw1⟩:=EB hL (a:=b3) aA aA [Acy,k_bea,k_cid,k_dan] aB aB;rw[t1];simp only[aG];obtain⟨w2,c2,t2,q3,q4,hw2⟩:=EB hL (a:=c1) aA aA [GQ,GQ,UV,k_rz] aB aB;rw[t2];simp only[aG];simp only[bB,bM,or_false] at hw1 hw2;exact hK _ _ _ (by unfold XC;rcases hw1 with rfl|rfl|rfl|rfl<;>simp) (by unfold RU;rcases hw2 with rfl|rfl|rfl|rfl<;>simp) aA aA
     ·exact hK _ _ _ Adt.1 Adt.2.2.1 aA aA
  ·rw[aP (by simpa using hc)];exact⟨x1,x2,a,rfl,by omega,by omega,by omega,hN⟩
theorem Aqs(many:Int)(h0:0<=many)(hm:many<=16){a:Int}(ha:0<=a)(ha':a<=5000000):∃l b,EV L a many=some (l,b)/\a<=b/\b<=a+400/\(l.length:Int)<=many/\∀d∈l,NameD d:=by
 obtain⟨k,rfl⟩:=Int.eq_ofNat_of_zero_le h0;unfold EV;simp only[Ga];obtain⟨mm,x,b,e,g1,g2,g3,g4⟩:=Ait hL (k:Int) aA (fun(x1:List (ByteArray×Int)) (x2:List An) (x3:Int)=>Option.bind (Hv x2) (λr23=>some (r23,x3))) (k+1) [] [] a 0 0 aA aA ha aA aD (by simp[Gm,Tw,Oo]) aA aA (λ_ h=>by cases h);simp only[aW,Nat.zero_add] at g3;rw[show (((k:Int)-0).toNat+2)=k+1+1 by omega,e];dsimp only;rw[Alm x aA];exact⟨_,_,rfl,g1,by push_cast at g2;omega,by rw[OS];omega,λd hd=>g4 d ((JN _ _ _).1 hd)⟩
end
end Go.Proofs.YthlielagemkjcaaGreatDoor
