/- Results of a race: who has Tu,the ranks,the points. Conditions: a right plan,right deeds with few names. No program stands here but its twins. -/
import Derived.Test.YtbicihdhkkjigaaGreatDoorPDeedMerge
namespace Go.Proofs.YtbicihdhkkjigaaGreatDoor
open Go
def JC(at_:Int):List An->List (Fh×Bool)->List An
 |[],_=>[]
 |d::ds,m=>if decide (at_<d.At)||Fi m (Fa d) false then JC at_ ds m else
  d::JC at_ ds (if decide (d.Kind=4) then Jd m (Fh.mk d.Of d.Other) true else m)
def Jw(l:List An)(at_:Int):List An:=(JC at_ l.reverse []).reverse
def DZ(l:List An)(at_:Int):List Nat->List (Fh×Bool)->List Nat
 |[],_=>[]
 |i::is,m=>if decide (at_<(nth l (i:Int)).At)||Fi m (Fa (nth l (i:Int))) false then DZ l at_ is m else
  i::DZ l at_ is (if decide ((nth l (i:Int)).Kind=4) then Jd m (Fh.mk (nth l (i:Int)).Of (nth l (i:Int)).Other) true else m)
theorem DA(l:List An)(at_:Int):∀(is:List Nat) (m:List (Fh×Bool)),(DZ l at_ is m).Sublist is
 |[],_=>List.Sublist.refl _
 |i::is,m=>by
  rw[DZ]
  split
  ·exact(DA l at_ is m).cons i
  ·exact(DA l at_ is _).cons_cons i
theorem KC(l:List An)(at_:Int):∀(is:List Nat) (m:List (Fh×Bool)),(DZ l at_ is m).map (fun(i:Nat)=>nth l (i:Int))=JC at_ (is.map fun(i:Nat)=>nth l (i:Int)) m
 |[],_=>rfl
 |i::is,m=>by
  rw[DZ,aY,JC]
  split
  ·exact KC l at_ is m
  ·rw[aY,KC l at_ is _]
theorem KD(at_:Int):∀(l:List An) (m:List (Fh×Bool)),(JC at_ l m).Sublist l
 |[],_=>List.Sublist.refl _
 |d::l,m=>by
  rw[JC]
  split
  ·exact(KD at_ l m).cons d
  ·exact(KD at_ l _).cons_cons d
theorem AE(l:List An)(at_:Int):(Jw l at_).Sublist l:=by
 have:=(KD at_ l.reverse []).reverse
 rwa [List.reverse_reverse] at this
theorem HW(l:List An)(at_:Int):∀(is:List Nat) (m:List (Fh×Bool)) (x:List Int),x.length+is.length<=1000000->
 Mz l at_ is m x=Pl (x++(DZ l at_ is m).map fun(i:Nat)=>(i:Int))
 |[],_,x,_=>by rw[Mz];simp[DZ]
 |i::is,m,x,hl=>by
  simp only[aT] at hl
  rw[Mz,DZ]
  unfold Zv
  by_cases h:(decide (at_<(nth l (i:Int)).At)||Fi m (Fa (nth l (i:Int))) false)=true
  ·rw[aQ h,aQ h]
   exact HW l at_ is m x aA
  ·rw[aP h,aP h,Gl (by unfold Ok;exact aH aA),HW l at_ is _ (x++[(i:Int)]) aD]
   simp
def NA(l:List An)(at_:Int):List Nat:=(DZ l at_ (Wq l.length) []).reverse
theorem FK(l:List An)(at_:Int)(hl:l.length<=1000000):Xv l at_=some ((NA l at_).map fun(i:Nat)=>(i:Int)):=by
 have h2:(Wq l.length).length=l.length:=by simp[Wq]
 have h3:=(DA l at_ (Wq l.length) []).length_le;unfold Xv;rw[HW l at_ (Wq l.length) [] [] aD,aZ,HV _ (by rw[aV];omega),←List.map_reverse];rfl
theorem WO{l:List An}{at_:Int}{i:Nat}(h:i∈NA l at_):i<l.length:=by
 unfold NA at h;rw[List.mem_reverse] at h;have:=(DA l at_ (Wq l.length) []).subset h;unfold Wq at this;simpa using this
theorem NB(l:List An)(at_:Int):(NA l at_).map (fun(i:Nat)=>nth l (i:Int))=Jw l at_:=by
 unfold NA Jw;rw[List.map_reverse,KC]
 congr 2
 unfold Wq;rw[List.map_reverse,YJ]
theorem PN(p:Lc)(l:List An):∀(is:List Nat) (k:Nat) (x:List An),(∀i∈is,i<l.length)->x.length+is.length<=1000000->
 Ol l (λx1=>some (some (Mp.mk p x1))) (is.map fun(i:Nat)=>(i:Int)) k x=some (some (Mp.mk p (x++is.map fun(i:Nat)=>nth l (i:Int))))
 |[],k,x,_,_=>by simp[Ol]
 |i::is,k,x,hi,hl=>by
  simp only[aT] at hl
  have h1:=hi i aN
  rw[aY,Ol,Gl (Ha.2 ⟨by omega,by omega⟩),Gl (by unfold Ok;exact aH aA),PN p l is (k+1) (x++[nth l (i:Int)]) (λj hj=>hi j (aM _ hj)) aD]
  simp
theorem NC(p:Lc)(l:List An)(at_:Int)(hl:l.length<=1000000):Ze p l at_=some (some (Mp.mk p (Jw l at_))):=by
 have h3:=(DA l at_ (Wq l.length) []).length_le;have h2:(Wq l.length).length=l.length:=by simp[Wq]
 unfold Ze;rw[FK l at_ hl];simp only[aG,Ht];rw[PN p l (NA l at_) 0 [] (λi hi=>WO hi) (by unfold NA;simp;omega),aZ,NB]
def JD(race:ByteArray)(m:List (ByteArray×An))(y:An):List (ByteArray×An):=
 if y.Race=race then if y.Kind=1 then Jd m y.Who y else if y.Kind=2 then CI m y.Who else m else m
def OE(race:ByteArray)(l:List An):List (ByteArray×An):=l.foldl (JD race) []
def AW(race:ByteArray)(l:List An):List An:=Rq ltW ((OE race l).map (·.2))
theorem BT(race:ByteArray)(j:List (ByteArray×An)->Option (List An)):∀(ys:List An) (i:Nat) (m:List (ByteArray×An)),Nw race j ys i m=j (ys.foldl (JD race) m)
 |[],_,m=>by rw[Nw];rfl
 |y::ys,i,m=>by
  rw[Nw]
  simp only[Ht,List.foldl_cons]
  unfold JD
  by_cases hr:y.Race=race
  ·rw[aP (by simp[hr]),aQ hr]
   by_cases h1:y.Kind=1
   ·rw[aQ (aH h1),aQ h1]
    exact BT race j ys (i+1) _
   ·rw[aP (by simpa using h1),aP h1]
    by_cases h2:y.Kind=2
    ·rw[aQ (aH h2),aQ h2]
     exact BT race j ys (i+1) _
    ·rw[aP (by simpa using h2),aP h2]
     exact BT race j ys (i+1) _
  ·rw[aQ (by simpa using hr),aP hr]
   exact BT race j ys (i+1) _
theorem ND(j:List An->Option (List An)):∀(p:List (ByteArray×An)) (x:List An),x.length+p.length<=1000000->Ov j p x=j (x++p.map (·.2))
 |[],x,_=>by simp[Ov]
 |y::p,x,h=>by
  simp only[aT] at h
  rw[Ov,Gl (by unfold Ok;exact aH aA)]
  simp only[aG]
  rw[ND j p (x++[y.2]) aD]
  simp
theorem LQ{κ ν:Type}[DecidableEq κ](k:κ)(v:ν):∀m:List (κ×ν),(m.map (·.1)).Nodup->((Jd m k v).map (·.1)).Nodup/\∀x,x∈(Jd m k v).map (·.1)↔x=k\/x∈m.map (·.1)
 |[],_=>⟨by simp[Jd],λx=>by simp[Jd]⟩
 |(q,u)::m,h=>by
  simp only[aY,bT] at h
  obtain⟨i1,i2⟩:=LQ k v m h.2
  by_cases e:k=q
  ·subst e
   simp only[Jd,aS,aY,bT]
   exact⟨h,λx=>by simp⟩
  ·simp only[Jd,e,aR,aY,bT]
   refine⟨⟨λhm=>((i2 q).1 hm).elim (λh1=>e h1.symm) h.1,i1⟩,λx=>?_⟩
   rw[bB,i2 x,bB]
   constructor
   ·rintro(h1|h1|h1)
    ·exact .inr (.inl h1)
    ·exact .inl h1
    ·exact .inr (.inr h1)
   ·rintro(h1|h1|h1)
    ·exact .inr (.inl h1)
    ·exact .inl h1
    ·exact .inr (.inr h1)
theorem FL{κ ν:Type}[DecidableEq κ](k:κ):∀m:List (κ×ν),(CI m k).Sublist m
 |[]=>List.Sublist.refl _
 |(q,u)::m=>by
  by_cases e:k=q
  ·simp only[CI,e,aS];exact List.sublist_cons_self _ _
  ·simp only[CI,e,aR];exact(FL k m).cons_cons _
theorem ST{κ ν:Type}[DecidableEq κ](k:κ)(v:ν):∀(m:List (κ×ν)) (p:κ×ν),p∈Jd m k v->p=(k,v)\/p∈m
 |[],p,h=>by simp[Jd] at h;exact .inl h
 |(q,u)::m,p,h=>by
  by_cases e:k=q
  ·simp only[Jd,e,aS,bB] at h
   rcases h with h|h
   ·exact .inl (by rw[h,e])
   ·exact .inr (aM _ h)
  ·simp only[Jd,e,aR,bB] at h
   rcases h with h|h
   ·exact .inr (by rw[h];exact aN)
   ·exact(ST k v m p h).imp id (aM _)
structure WP(race:ByteArray)(l:List An)(m:List (ByteArray×An)):Prop where
 nd:(m.map (·.1)).Nodup
 is:∀p∈m,p.1=p.2.Who/\p.2.Race=race/\p.2.Kind=1/\p.2∈l
theorem WQ(race:ByteArray)(l:List An):∀(ys:List An) (m:List (ByteArray×An)),(∀y∈ys,y∈l)->WP race l m->WP race l (ys.foldl (JD race) m)
 |[],m,_,h=>h
 |y::ys,m,hy,h=>by
  rw[List.foldl_cons]
  refine WQ race l ys _ (λz hz=>hy z (aM _ hz)) ?_
  unfold JD
  split
  ·rename_i hr
   split
   ·rename_i h1
    obtain⟨a,_⟩:=LQ y.Who y m h.nd
    refine⟨a,λp hp=>?_⟩
    rcases ST _ _ m p hp with rfl|hp
    ·exact⟨rfl,hr,h1,hy y aN⟩
    ·exact h.is p hp
   ·split
    ·exact⟨h.nd.sublist ((FL y.Who m).map _),λp hp=>h.is p ((FL y.Who m).subset hp)⟩
    ·exact h
  ·exact h
theorem WR(race:ByteArray)(l:List An):WP race l (OE race l):=WQ race l l [] (λ_ h=>h) ⟨by simp,λ_ h=>by cases h⟩
theorem NE{race:ByteArray}{l:List An}{m:List (ByteArray×An)}(h:WP race l m):(m.map (·.2)).map (·.Who)=m.map (·.1):=by
 rw[List.map_map];exact List.map_congr_left λp hp=>(h.is p hp).1.symm
theorem SU{race:ByteArray}{l:List An}{d:An}:d∈AW race l↔d∈(OE race l).map (·.2):=AC _ _ _
theorem NF(race:ByteArray)(l:List An):(AW race l).length=(OE race l).length:=by unfold AW;rw[AD,aV]
theorem LR(race:ByteArray)(l:List An):(AW race l).Pairwise λa b=>ltW a b=true:=by
 have ho:=WR race l;exact GG GH _ (LP (by rw[NE ho];exact ho.nd))
theorem DS{race:ByteArray}{l:List An}{d:An}(h:d∈AW race l):d.Race=race/\d.Kind=1/\d∈l:=by
 obtain⟨p,hp,rfl⟩:=bD.1 (SU.1 h);exact((WR race l).is p hp).2
theorem JE(race:ByteArray)(l:List An):(OE race l).length<=l.length:=by
 have key:∀(ys:List An) (m:List (ByteArray×An)),(ys.foldl (JD race) m).length<=m.length+ys.length:=by
  intro ys
  induction ys with
  |nil=>intro m;simp
  |cons y ys ih=>
   intro m;rw[List.foldl_cons];have h1:(JD race m y).length<=m.length+1:=by
    unfold JD;have h2:(Jd m y.Who y).length<=m.length+1:=mput_le m y.Who y;have h3:=(FL y.Who m).length_le
    split
    ·split
     ·exact h2
     ·split<;>omega
    ·omega
   have:=ih (JD race m y);simp only[aT];omega
 simpa[OE] using key l []
where
 mput_le {κ ν:Type} [DecidableEq κ]:∀(m:List (κ×ν)) (k:κ) (v:ν),(Jd m k v).length<=m.length+1
  |[],_,_=>by simp[Jd]
  |(q,u)::m,k,v=>by
   by_cases e:k=q
   ·simp[Jd,e]
   ·simp only[Jd,e,aR,aT]
    have:=mput_le m k v
    omega
def Wy(at_:Int):List An->Fh->Bool
 |[],_=>false
 |z::zs,e=>(decide (z.Kind=4) && decide (Fh.mk z.Of z.Other=e) && (decide (z.At<=at_) && !Wy at_ zs (Fa z)))||Wy at_ zs e
def okB(at_:Int)(l:List An)(i:Nat):Bool:=decide ((nth l (i:Int)).At<=at_) && !Wy at_ (l.drop (i+1)) (Fa (nth l (i:Int)))
theorem SV(l:List An)(n:Nat)(h:n<l.length):l.drop n=nth l (n:Int)::l.drop (n+1):=by
 rw[List.drop_eq_getElem_cons h];unfold nth;simp[List.getD,List.getElem?_eq_getElem h]
theorem NG(l:List An)(at_:Int):∀(n:Nat) (m:List (Fh×Bool)),n<=l.length->(∀e,Fi m e false=Wy at_ (l.drop n) e)->DZ l at_ (List.range n).reverse m=(List.range n).reverse.filter (okB at_ l)
 |0,m,_,_=>rfl
 |n+1,m,hn,hm=>by
  have hr:(List.range (n+1)).reverse=n::(List.range n).reverse:=by rw[List.range_succ,List.reverse_append];rfl
  have hd:=SV l n aA
  rw[hr,DZ,hm]
  by_cases hk:okB at_ l n=true
  ·rw[bR hk]
   unfold okB at hk
   simp only[bQ,aK,Bool.not_eq_true'] at hk
   rw[aI (by omega:¬at_<(nth l (n:Int)).At),hk.2,aP aB]
   congr 1
   refine NG l at_ n _ aA λe=>?_
   rw[hd,Wy,hk.2,aH hk.1]
   by_cases h4:(nth l (n:Int)).Kind=4
   ·rw[aQ (aH h4),Zm,aH h4,hm]
    by_cases he:e=Fh.mk (nth l (n:Int)).Of (nth l (n:Int)).Other
    ·rw[aQ he,he];simp
    ·rw[aP he,aI λh=>he h.symm];simp
   ·rw[aP (by simpa using h4),aI h4,hm];simp
  ·rw[bS hk]
   have hk':okB at_ l n=false:=by simpa using hk
   unfold okB at hk'
   have hc:(decide (at_<(nth l (n:Int)).At)||Wy at_ (l.drop (n+1)) (Fa (nth l (n:Int))))=true:=by
    by_cases ha:(nth l (n:Int)).At<=at_
    ·rw[aH ha] at hk';simp only[bO,Bool.not_eq_false'] at hk';rw[hk'];simp
    ·rw[aH (by omega:at_<(nth l (n:Int)).At)];rfl
   rw[aQ hc];refine NG l at_ n m aA λe=>?_;rw[hm,hd,Wy,hk'];simp
theorem RD(l:List An)(at_:Int):NA l at_=(List.range l.length).filter (okB at_ l):=by
 unfold NA;have h:=NG l at_ l.length [] (bU _) λe=>by rw[List.drop_length];simp[Wy,Fi,Ys,Rc]
 have hr:Wq l.length=(List.range l.length).reverse:=by unfold Wq;rfl
 rw[hr,h,←List.filter_reverse,List.reverse_reverse]
theorem KE(at_:Int):∀(l:List An),l.Pairwise (λx y=>x.At<=y.At)->∃A Q,l=A++Q/\(∀a∈A,a.At<=at_)/\∀q∈Q,at_<q.At
 |[],_=>⟨[],[],rfl,λ_ h=>absurd h aB,λ_ h=>absurd h aB⟩
 |x::l,h=>by
  rw[List.pairwise_cons] at h
  by_cases hx:x.At<=at_
  ·obtain⟨A,Q,e,h1,h2⟩:=KE at_ l h.2
   exact⟨x::A,Q,by rw[e];rfl,λa ha=>(bB.1 ha).elim (λe=>by rw[e];exact hx) (h1 a),h2⟩
  ·exact⟨[],x::l,rfl,λ_ h=>absurd h aB,λq hq=>(bB.1 hq).elim (λe=>by rw[e];omega) λhq=>by have:=h.1 q hq;omega⟩
theorem PO(at_:Int):∀(Q:List An),(∀q∈Q,at_<q.At)->∀e,Wy at_ Q e=false
 |[],_,_=>rfl
 |z::Q,h,e=>by
  have h1:=h z aN
  rw[Wy,PO at_ Q (λq hq=>h q (aM _ hq)) e,aI (by omega:¬z.At<=at_)]
  simp
theorem NH(at_:Int)(Q:List An)(hQ:∀q∈Q,at_<q.At):∀(A:List An) (e:Fh),Wy at_ (A++Q) e=Wy at_ A e
 |[],e=>PO at_ Q hQ e
 |z::A,e=>by rw[List.cons_append,Wy,Wy,NH at_ Q hQ A,NH at_ Q hQ A]
theorem SW(P:List An)(at_:Int)(i:Nat)(hi:i<P.length)(hl:P.length<=1000)(hP:∀a∈P,a.At<=at_)(self:Int->List An->Option Bool)(hself:∀j:Nat,i<j->j<P.length->self (j:Int) P=some (!Wy at_ (P.drop (j+1)) (Fa (nth P (j:Int))))):
 ∀(d m j:Nat),P.length=j+d->d<m->i<j->Hr P (i:Int) self (some true) m (j:Int)=some (!Wy at_ (P.drop j) (Fa (nth P (i:Int))))
 |d,0,j,_,h,_=>by omega
 |0,m+1,j,h,_,_=>by
  rw[Hr,aP aD,List.drop_of_length_le aA]
  rfl
 |d+1,m+1,j,h,hm,hj=>by
  have ih:=SW P at_ i hi hl hP self hself d m (j+1) aA aA aA
  have hjl:j<P.length:=by omega
  have bi:inB (i:Int) P.length=true:=Ha.2 aA
  have bj:inB (j:Int) P.length=true:=Ha.2 aA
  have hat:(nth P (j:Int)).At<=at_:=hP _ (List.mem_of_getElem? (Ef bj).1)
  have hw:W ((j:Int)+1)=((j+1:Nat):Int):=by rw[Jz aA aA];rfl
  rw[Hr,aQ (aH (by omega:(j:Int)<(P.length:Int)))]
  simp only[Ht,hw,Gl bi,Gl bj,aO,aR,ih]
  rw[SV P j hjl,Wy,aH hat]
  have hpl:decide (Fh.mk (nth P (j:Int)).Of (nth P (j:Int)).Other=Fa (nth P (i:Int)))=(decide ((nth P (j:Int)).Of=(nth P (i:Int)).Site) && decide ((nth P (j:Int)).Other=(nth P (i:Int)).No)):=by
   rw[←Bool.decide_and];apply decide_eq_decide.2;unfold Fa;simp
  rw[hpl]
  by_cases h4:(nth P (j:Int)).Kind=4
  ·rw[aQ (aH h4),aH h4]
   by_cases ho:(nth P (j:Int)).Of=(nth P (i:Int)).Site
   ·rw[aQ (aH ho),aH ho]
    by_cases hno:(nth P (j:Int)).Other=(nth P (i:Int)).No
    ·rw[aQ (aH hno),aH hno,hself j hj hjl];simp only[aG,bO]
     cases Wy at_ (P.drop (j+1)) (Fa (nth P (j:Int)))<;>simp
    ·rw[aP (by simpa using hno),aI hno];simp
   ·rw[aP (by simpa using ho),aI ho];simp
  ·rw[aP (by simpa using h4),aI h4];simp
theorem PP(P:List An)(at_:Int)(hl:P.length<=1000)(hP:∀a∈P,a.At<=at_):∀(m i:Nat),i<P.length->P.length<=i+m->Jp m (i:Int) P=some (!Wy at_ (P.drop (i+1)) (Fa (nth P (i:Int))))
 |0,i,h1,h2=>by omega
 |m+1,i,h1,h2=>by
  have hw:W ((i:Int)+1)=((i+1:Nat):Int):=by rw[Jz aA aA];rfl
  unfold Jp Qi
  rw[Ht,hw]
  exact SW P at_ i h1 hl hP _ (λj hj hjl=>PP P at_ hl hP m j hjl aA) (P.length-(i+1)) _ (i+1) aA aA aA
theorem DT(at_:Int)(j:List An->Option (List Int)):∀(ys:List An) (i:Nat) (x:List An),x.length+ys.length<=100000->Kh at_ j ys i x=j (x++ys.filter λy=>decide (y.At<=at_))
 |[],i,x,_=>by simp[Kh]
 |y::ys,i,x,h=>by
  simp only[aT] at h
  rw[Kh]
  simp only[Ht]
  by_cases hc:y.At<=at_
  ·rw[aQ (aH hc),Gl (by unfold Ok;exact aH aA),DT at_ j ys (i+1) _ aD,bR (by simpa using hc)]
   simp
  ·rw[aP (by simpa using hc),DT at_ j ys (i+1) x aA,bS (by simpa using hc)]
theorem HX(P:List An)(at_:Int)(hl:P.length<=16)(hP:∀a∈P,a.At<=at_)(j:List Int->Option (List Int)):∀(d m i:Nat) (x:List Int),P.length=i+d->d<m->x.length<=i->Iz P j m x (i:Int)=j (x++(((List.range' i d).filter λk=>!Wy at_ (P.drop (k+1)) (Fa (nth P (k:Int)))).map fun(k:Nat)=>(k:Int)))
 |d,0,i,x,_,h,_=>by omega
 |0,m+1,i,x,h,_,_=>by
  rw[Iz,aP aD]
  simp
 |d+1,m+1,i,x,h,hm,hx=>by
  have hw:W ((i:Int)+1)=((i+1:Nat):Int):=by rw[Jz aA aA];rfl
  rw[Iz,aQ (aH (by omega:(i:Int)<(P.length:Int)))]
  simp only[Ht,hw]
  rw[PP P at_ aA hP 16 i aA aA,List.range'_succ]
  simp only[aG]
  cases hu:Wy at_ (P.drop (i+1)) (Fa (nth P (i:Int))) with
  |true=>
   rw[bS (by rw[hu];simp)]
   simp only[bN,aO,aR]
   exact HX P at_ hl hP j d m (i+1) x aA aA aA
  |false=>
   rw[bR (by rw[hu];rfl)]
   simp only[Bool.not_false,aS]
   rw[Gl (by unfold Ok;exact aH aA),HX P at_ hl hP j d m (i+1) _ aA aA aD]
   simp
theorem OF(l:List An)(at_:Int)(hl:l.length<=16)(hs:l.Pairwise λx y=>x.At<=y.At):∃r,Xv l at_=some r/\Qa l at_=some r:=by
 refine⟨_,FK l at_ aA,?_⟩;obtain⟨A,Q,e,h1,h2⟩:=KE at_ l hs;have hf:(l.filter λy=>decide (y.At<=at_))=A:=by
  rw[e,List.filter_append,List.filter_eq_self.2 λa ha=>aH (h1 a ha),List.filter_eq_nil_iff.2 λq hq=>by have:=h2 q hq;simp;omega,List.append_nil]
 have hAl:A.length<=l.length:=by rw[e];simp
 unfold Qa;simp only[Ht];rw[DT at_ _ l 0 [] aD,aZ,hf];have h3:=HX A at_ aA h1 (λx4=>some x4) A.length (((A.length:Int)-0).toNat+2) 0 [] aA aA aB;rw[aZ] at h3;refine Eq.trans h3 ?_;rw[RD,←List.range_eq_range']
 congr 2
 have hlen:l.length=A.length+Q.length:=by rw[e];simp
 rw[hlen,List.range_add,List.filter_append];have hq:(List.map (λx=>A.length+x) (List.range Q.length)).filter (okB at_ l)=[]:=by
  rw[List.filter_eq_nil_iff];intro k hk;obtain⟨q,hq,rfl⟩:=bD.1 hk;rw[List.mem_range] at hq;have hmem:nth l ((A.length+q:Nat):Int)∈Q:=by
   have:nth l ((A.length+q:Nat):Int)=Q[q]:=by
    rw[e];unfold nth;rw[bI];simp[List.getD,List.getElem?_append_right,List.getElem?_eq_getElem hq]
   rw[this];exact List.getElem_mem hq
  have:=h2 _ hmem;unfold okB;rw[aI aA];simp
 rw[hq,List.append_nil];refine List.filter_congr λk hk=>?_;rw[List.mem_range] at hk;have hn:nth l (k:Int)=nth A (k:Int):=by
  rw[e];unfold nth;simp[List.getD,List.getElem?_append_left hk]
 have hd:l.drop (k+1)=A.drop (k+1)++Q:=by
  rw[e,List.drop_append_of_le_length aA]
 have hm:(nth A (k:Int)).At<=at_:=h1 _ (List.mem_of_getElem? (Ef (Ha.2 aA)).1);unfold okB;rw[hn,hd,NH at_ Q h2,aH hm,bO]
theorem WS(j:List (ByteArray×Bool)->Bool->Option Int):∀(ys:List Ee) (i:Nat) (m:List (ByteArray×Bool)),(∀s∈ys,Hy s.Who=some true/\0<=s.Time/\s.Time<=360000)->(ys.map (·.Who)).Nodup->(∀s∈ys,Fi m s.Who false=false)->
 ∃m',Nj j ys i m false=j m' false
 |[],i,m,_,_,_=>⟨m,rfl⟩
 |y::ys,i,m,h1,h2,h3=>by
  obtain⟨k,t0,t1⟩:=h1 y aN
  simp only[aY,bT] at h2
  rw[Nj,k]
  simp only[aG,bN,aO,aR]
  rw[aP (by unfold Ei;simp;omega),h3 y aN,Bool.or_false]
  exact WS j ys (i+1) _ (λs hs=>h1 s (aM _ hs)) h2.2 (λs hs=>by
   rw[Zm,aP (λe=>h2.1 (by rw[←e];exact bJ hs))]
   exact h3 s (aM _ hs))
theorem NI{l:List Ee}(hl:l.length<=300)(h1:∀s∈l,Hy s.Who=some true/\0<=s.Time/\s.Time<=360000)(h2:(l.map (·.Who)).Nodup):Su l=some 0:=by
 unfold Su;rw[aP aD,Ht];obtain⟨m,e⟩:=WS (λx1 x2=>if x2 then some 6 else some 0) l 0 [] h1 h2 (λ_ _=>rfl);rw[e];rfl
theorem behindW{s t:ByteArray}(h:cB s t<0):(OI t s||decide (t=s))=false:=by
 rw[sless_cb,Bool.or_eq_false_iff];have hf:=BD s t;refine⟨aI aA,aI λe=>?_⟩;rw[e,Xo] at h;omega
theorem NJ(l:List Js)(hl:l.length<=300)(j:Option Int)(h1:∀s∈l,Hy s.Who=some true/\0<=s.Fault/\s.Fault<=8)(h2:l.Pairwise λa b=>cB a.Who b.Who<0):∀(ys dn:List Js),l=dn++ys->Kv l j ys dn.length=j
 |[],_,_=>rfl
 |y::ys,dn,he=>by
  obtain⟨k,t0,t1⟩:=h1 y (by rw[he];simp)
  have ih:=NJ l hl j h1 h2 ys (dn++[y]) (by rw[he];simp)
  rw[aU,aX] at ih
  rw[Kv,k]
  simp only[aG,bN,aO,aR,Ht]
  rw[aP (by unfold Ei;simp;omega)]
  have hlen:l.length=dn.length+(ys.length+1):=by rw[he];simp
  by_cases h0:(0:Int)<(dn.length:Int)
  ·obtain⟨d,x,hdx⟩:∃d x,dn=d++[x]:=by
    rcases List.eq_nil_or_concat dn with h1|⟨d,x,h1⟩
    ·rw[h1] at h0;simp at h0
    ·exact⟨d,x,by rw[h1];simp⟩
   have hdl:dn.length=d.length+1:=by rw[hdx];simp
   have hw:W ((dn.length:Int)-1)=(d.length:Int):=by rw[Jz aA aA];omega
   have hn:nth l (d.length:Int)=x:=by rw[he,hdx];unfold nth;simp
   have hc:cB x.Who y.Who<0:=by
    rw[he,hdx,List.append_assoc,bK] at h2;have:=h2.2.1;simp only[List.cons_append,aZ,List.pairwise_cons] at this;exact this.1 y aB
   rw[aQ (aH h0),hw,Gl (show inB (d.length:Int) l.length=true from Ha.2 aA),hn,behindW hc,Bool.and_false,aP aB];exact ih
  ·rw[aP (by simpa using h0),aI h0,bP,aP aB];exact ih
theorem SX{l:List Js}(hl:l.length<=300)(h1:∀s∈l,Hy s.Who=some true/\0<=s.Fault/\s.Fault<=8)(h2:l.Pairwise λa b=>cB a.Who b.Who<0):Sz l=some 0:=by
 unfold Sz;rw[aP aD,Ht];exact NJ l hl (some 0) h1 h2 l [] rfl
def ltT(x y:Eg):Bool:=decide (x.Time<y.Time)
def HY(x y:Eg):Bool:=decide (x.Time<y.Time\/(x.Time=y.Time/\cB x.Who y.Who<0))
theorem FN{x y:Eg}:HY x y=true↔x.Time<y.Time\/(x.Time=y.Time/\cB x.Who y.Who<0):=by simp[HY]
theorem UP(x y z:Eg)(h1:HY x y=true)(h2:HY y z=true):HY x z=true:=by
 rw[FN] at*;rcases h1 with h1|⟨h1,h3⟩
 ·rcases h2 with h2|⟨h2,_⟩<;>exact .inl aA
 ·rcases h2 with h2|⟨h2,h4⟩
  ·exact .inl aA
  ·exact .inr ⟨by omega,BS h3 h4⟩
theorem NK{α:Type}{lt lt':α->α->Bool}:∀(l rp:List α),(∀x∈l,∀y∈rp,lt x y=lt' x y)->l.Pairwise (λa b=>lt b a=lt' b a)->Yr lt l rp=Yr lt' l rp
 |[],_,_,_=>rfl
 |x::l,rp,h1,h2=>by
  rw[List.pairwise_cons] at h2
  show Yr lt l (Xn lt x rp)=Yr lt' l (Xn lt' x rp)
  have e:Xn lt x rp=Xn lt' x rp:=HU x rp (h1 x aN)
  rw[e]
  refine NK l _ (λz hz y hy=>?_) h2.2
  rcases(CY lt' x y rp).1 hy with rfl|hy
  ·exact h2.1 z hz
  ·exact h1 z (aM _ hz) y hy
theorem NL{α:Type}{lt lt':α->α->Bool}(l:List α)(h:l.Pairwise λa b=>lt b a=lt' b a):Rq lt l=Rq lt' l:=by
 unfold Rq;rw[NK l [] (λ_ _ _ h=>by cases h) h]
theorem sortT_is{l:List Eg}(h:l.Pairwise λa b=>cB a.Who b.Who<0):Rq ltT l=Rq HY l:=NL l (h.imp λ{a b} hab=>by
 have hf:=BD a.Who b.Who
 unfold ltT HY
 exact decide_eq_decide.2 ⟨.inl,λhh=>by rcases hh with hh|⟨_,hh⟩<;>omega⟩)
theorem SY{l:List Eg}(h:l.Pairwise λa b=>cB a.Who b.Who<0):(Rq HY l).Pairwise λa b=>HY a b=true:=GG UP l (h.imp λ{a b} hab hb=>by
 rw[←Bool.not_eq_true,FN] at hb
 rw[FN]
 omega)
def UQ(x y:Eg):Bool:=decide (W (W (Int.tdiv x.Time 1)-W (Int.tdiv y.Time 1))<0)
theorem ltT1_is(x y:Eg)(hx:0<=x.Time/\x.Time<=360000)(hy:0<=y.Time/\y.Time<=360000):UQ x y=ltT x y:=by
 unfold UQ ltT;rw[Int.tdiv_one,Int.tdiv_one,Jz (n:=x.Time) aA aA,Jz (n:=y.Time) aA aA,Jz aA aA];exact decide_eq_decide.2 aA
theorem YK(l:List Eg)(hl:l.length<=19)(h:∀x∈l,0<=x.Time/\x.Time<=360000):Ke l 1=some (Rq ltT l):=by
 rw[←FJ (lt:=UQ) (lt':=ltT) l λx hx y hy=>ltT1_is x y (h x hx) (h y hy)];have hs:Ie l 0 (l.length:Int) 1=some (Rq UQ l):=by
  unfold Ie;simp only[Ht];have hins:∀(k:List Eg->Option (List Eg)) (rp:List Eg) (x:Eg) (post:List Eg),((rp++x::post).length:Int)=(l.length:Int)->(∀y,y∈rp\/y=x\/y∈post->y∈(rp++x::post))->
   Ff 0 1 k (((rp.length:Int)-0).toNat+2) (rp.reverse++x::post) (rp.length:Int)=k ((Xn UQ x rp).reverse++post):=by
   intro k rp x post h1 _;exact SP (λx y k=>Option.bind (Xx x y 1) λr=>k (decide (r<0))) UQ k (Ff 0 1 k) (λ_ _ _=>rfl) rp x post _ aA (by simp at h1;omega) λy hy k'=>by
    unfold Xx;rw[Gl aC,Gl aC];rfl
  cases l with
  |nil=>rfl
  |cons x l=>
   have hw:W (0+1)=(([x]:List Eg).length:Int):=rfl;rw[hw];exact IZ UQ (λx=>some x) (λk x i=>Ff 0 1 k ((i-0).toNat+2) x i) (Fu ((x::l).length:Int) 0 1 λx=>some x) ((x::l).length:Int) (λ_ _ _=>rfl)
    (λk rp x post h1 h2=>hins k rp x post h1 h2) l [x] _ (by simp only[aT,aW];omega) (by simp only[aT,aW];omega) (by simp only[aT,aW] at hl ⊢;omega)
 unfold Ke Mf;simp only[Ht];rw[Gr,aP aD,hs];simp only[aG];rw[Gs,aP aD];rfl
def rkF(i:Nat)(pt pr:Int):List Eg->List Eg
 |[]=>[]
 |x::xs=>let r:=if decide (0<(i:Int)) && decide (x.Time=pt) then pr else(i:Int)+1
  Eg.mk x.Who r x.Time x.Fault::rkF (i+1) x.Time r xs
theorem WT:∀(l:List Eg) (i:Nat) (pt pr:Int),(rkF i pt pr l).length=l.length
 |[],_,_,_=>rfl
 |x::xs,i,pt,pr=>by simp[rkF,WT xs]
theorem LS(j:List Eg->Option (List Eg×Int)):∀(B A ys:List Eg) (pt pr:Int),ys.length=B.length->(A++B).length<=1000->(∀x∈B,0<=x.Time/\x.Time<=360000)->(A=[]\/∃A' z,A=A'++[z]/\z.Time=pt/\z.Rank=pr/\0<=pt/\pt<=360000)->
 Qg 1 j ys A.length (A++B)=j (A++rkF A.length pt pr B)
 |[],A,ys,pt,pr,h1,_,_,_=>by
  obtain rfl:ys=[]:=List.length_eq_zero_iff.1 h1
  rw[Qg];rfl
 |b::B,A,[],pt,pr,h1,_,_,_=>by simp at h1
 |b::B,A,y::ys,pt,pr,h1,h2,h3,h4=>by
  simp only[aT,Nat.add_right_cancel_iff] at h1
  have hlen:(A++b::B).length=A.length+(B.length+1):=by simp
  have hb:=h3 b aN
  have nb:nth (A++b::B) (A.length:Int)=b:=IY A b B rfl
  have ib:inB (A.length:Int) (A++b::B).length=true:=Ha.2 aA
  have tb:W (Int.tdiv b.Time 1)=b.Time:=by rw[Int.tdiv_one];exact Jz aA aA
  have sb:∀z:Eg,(A++b::B).set (((A.length:Nat):Int).toNat) z=(A++[z])++B:=λz=>by simp
  rw[Qg]
  simp only[Ht]
  rw[rkF]
  by_cases h0:(0:Int)<(A.length:Int)
  ·obtain⟨A',z,hA,z1,z2,z3,z4⟩:∃A' z,A=A'++[z]/\z.Time=pt/\z.Rank=pr/\0<=pt/\pt<=360000:=by
    rcases h4 with h4|h4
    ·rw[h4] at h0;simp at h0
    ·exact h4
   have hAl:A.length=A'.length+1:=by rw[hA];simp
   have hw:W ((A.length:Int)-1)=(A'.length:Int):=by rw[Jz aA aA];omega
   have nz:nth (A++b::B) (A'.length:Int)=z:=by rw[hA,List.append_assoc];exact IY A' z _ rfl
   have iz:inB (A'.length:Int) (A++b::B).length=true:=Ha.2 aA;have tz:W (Int.tdiv z.Time 1)=pt:=by rw[Int.tdiv_one,z1];exact Jz aA aA
   have hw1:W ((A.length:Int)+1)=(A.length:Int)+1:=Jz aA aA;rw[aQ (aH h0),Gl ib,Gl aC,hw,Gl iz,Gl aC,nb,nz,tb,tz,aH h0,bO]
   by_cases ht:b.Time=pt
   ·rw[aQ (aH ht),Gl iz,Gl ib,sb,aH ht];have:=LS j B (A++[Eg.mk b.Who z.Rank b.Time b.Fault]) ys b.Time z.Rank h1 (by simp at h2 ⊢;omega) (λx hx=>h3 x (aM _ hx)) (.inr ⟨A,_,rfl,rfl,rfl,hb.1,hb.2⟩);rw[aU,aX] at this;rw[this,z2];simp
   ·rw[aP (by simpa using ht),Gl ib,sb,hw1,aI ht];have:=LS j B (A++[Eg.mk b.Who ((A.length:Int)+1) b.Time b.Fault]) ys b.Time ((A.length:Int)+1) h1 (by simp at h2 ⊢;omega) (λx hx=>h3 x (aM _ hx)) (.inr ⟨A,_,rfl,rfl,rfl,hb.1,hb.2⟩);rw[aU,aX] at this;rw[this];simp
  ·have hw1:W ((A.length:Int)+1)=(A.length:Int)+1:=Jz aA aA;rw[aP (by simpa using h0),aI h0,bP,bP,aP aB,Gl ib,nb,sb,hw1];have:=LS j B (A++[Eg.mk b.Who ((A.length:Int)+1) b.Time b.Fault]) ys b.Time ((A.length:Int)+1) h1 (by simp at h2 ⊢;omega) (λx hx=>h3 x (aM _ hx)) (.inr ⟨A,_,rfl,rfl,rfl,hb.1,hb.2⟩);rw[aU,aX] at this;rw[this];simp
def BY(V:List Js)(m:List (ByteArray×Int)):List (ByteArray×Int):=V.foldl (λm v=>Jd m v.Who v.Fault) m
theorem WU(j:List (ByteArray×Int)->Option (List Eg×Int)):∀(V:List Js) (i:Nat) (m:List (ByteArray×Int)),Rb j V i m=j (BY V m)
 |[],_,m=>rfl
 |v::V,i,m=>by rw[Rb,WU j V (i+1) _];rfl
def mkR(f:ByteArray->Int)(s:Ee):Eg:=Eg.mk s.Who 0 s.Time (f s.Who)
def isG(f:ByteArray->Int)(s:Ee):Bool:=decide (f s.Who=0) && decide (0<s.Time)
theorem RE(x1:List (ByteArray×Int))(j:List Eg->List Eg->Option (List Eg×Int)):∀(ys:List Ee) (i:Nat) (x2 x3:List Eg),x2.length+ys.length<=1000->x3.length+ys.length<=1000->
 Qf x1 j ys i x2 x3=j (x2++(ys.filter λs=>!isG (λw=>Fi x1 w 0) s).map (mkR λw=>Fi x1 w 0)) (x3++(ys.filter (isG λw=>Fi x1 w 0)).map (mkR λw=>Fi x1 w 0))
 |[],i,x2,x3,_,_=>by simp[Qf]
 |y::ys,i,x2,x3,h2,h3=>by
  simp only[aT] at h2 h3
  rw[Qf]
  simp only[Ht]
  have hg:isG (λw=>Fi x1 w 0) y=(decide (Fi x1 y.Who 0=0) && decide (0<y.Time)):=rfl
  have hm:mkR (λw=>Fi x1 w 0) y=Eg.mk y.Who 0 y.Time (Fi x1 y.Who 0):=rfl
  cases hc:(decide (Fi x1 y.Who 0=0) && decide (0<y.Time)) with
  |true=>
   rw[aQ rfl,Gl (by unfold Ok;exact aH aA),RE x1 j ys (i+1) x2 _ aA aD,bS (by rw[hg,hc];simp),bR (by rw[hg,hc]),aY,hm]
   simp
  |false=>
   rw[aP aB,Gl (by unfold Ok;exact aH aA),RE x1 j ys (i+1) _ x3 aD aA,bR (by rw[hg,hc];simp),bS (by rw[hg,hc];simp),aY,hm]
   simp
def FO(f:ByteArray->Int)(Q:List Ee):List Eg:=
 rkF 0 0 0 (Rq HY ((Q.filter (isG f)).map (mkR f)))++(Q.filter λs=>!isG f s).map (mkR f)
theorem rank_is{Q:List Ee}{V:List Js}(hl:Q.length<=19)(h1:∀s∈Q,Hy s.Who=some true/\0<=s.Time/\s.Time<=360000)(h2:Q.Pairwise λa b=>cB a.Who b.Who<0)(hv:V.length<=300)(v1:∀s∈V,Hy s.Who=some true/\0<=s.Fault/\s.Fault<=8)(v2:V.Pairwise λa b=>cB a.Who b.Who<0):
 Zy Q V=some (FO (λw=>Fi (BY V []) w 0) Q,0):=by
 have hnd:(Q.map (·.Who)).Nodup:=List.pairwise_map.2 (h2.imp λ{a b} h e=>by rw[e,Xo] at h;omega);have hgl:=List.length_filter_le (isG λw=>Fi (BY V []) w 0) Q;have hbl:=List.length_filter_le (λs=>!isG (λw=>Fi (BY V []) w 0) s) Q;have hG:∀x∈(Q.filter (isG λw=>Fi (BY V []) w 0)).map (mkR λw=>Fi (BY V []) w 0),0<=x.Time/\x.Time<=360000:=λx hx=>by
  obtain⟨s,hs,rfl⟩:=bD.1 hx;exact(h1 s (List.mem_filter.1 hs).1).2
 have hGp:((Q.filter (isG λw=>Fi (BY V []) w 0)).map (mkR λw=>Fi (BY V []) w 0)).Pairwise λa b=>cB a.Who b.Who<0:=by
  rw[List.pairwise_map];exact h2.sublist List.filter_sublist
 unfold Zy DF;rw[NI aA h1 hnd];simp only[aG,aJ,bN,aO,aR];rw[SX hv v1 v2];simp only[aG,aJ,bN,aO,aR,Ht];rw[WU,RE _ _ Q 0 [] [] aD aD,aZ,aZ,YK _ (by rw[aV];omega) hG,sortT_is hGp];simp only[aG];have hl3:=LS (λx8=>Chk (decide (x8.length+((Q.filter λs=>!isG (λw=>Fi (BY V []) w 0) s).map (mkR λw=>Fi (BY V []) w 0)).length<1073741824)) (some (x8++(Q.filter λs=>!isG (λw=>Fi (BY V []) w 0) s).map (mkR λw=>Fi (BY V []) w 0),0)))
  (Rq HY ((Q.filter (isG λw=>Fi (BY V []) w 0)).map (mkR λw=>Fi (BY V []) w 0))) [] (Rq HY ((Q.filter (isG λw=>Fi (BY V []) w 0)).map (mkR λw=>Fi (BY V []) w 0))) 0 0 rfl (by rw[aZ,AD,aV];omega) (λx hx=>hG x ((AC _ _ _).1 hx)) (.inl rfl)
 rw[aW,aZ,aZ] at hl3;rw[hl3,Gl (by rw[WT,AD,aV,aV];exact aH aA)];rfl
def fr(v:Nat):Ky:=⟨((v / Nat.gcd v 60:Nat):Int),((60 / Nat.gcd v 60:Nat):Int)⟩
structure TOk(t:Qy):Prop where
 len:t.Points.length<=5
 rng:∀n∈t.Points,0<=n/\n<=10
 rel:1<=t.Relay/\t.Relay<=2
 most:0<=t.Most/\t.Most<=2
def k_grey:ByteArray:=⟨#[103,114,101,121]⟩
structure TGood(t:Qy):Prop extends TOk t where
 desc:t.Points.Pairwise λa b=>b<=a
section
variable {L:List Int}(hL:CZ L)
include hL
theorem WV(r4:Int×Int)(j:List Int->Int->Option (Qy×Int)):∀(d m:Nat) (x1:List Int) (a n q:Int),r4.1<=q+d->d<m->0<=q->q<=5->r4.1<=5->x1.length=q.toNat->0<=a->a+d<=1000000->0<=n->n<=10->(∀v∈x1,n<=v/\v<=10)->x1.Pairwise (λa b=>b<=a)->
 ∃x b,Lv r4 L j m x1 a n q=j x b/\a<=b/\b<=a+d/\x.length<=5/\(∀v∈x,0<=v/\v<=10)/\x.Pairwise (λa b=>b<=a)
 |d,0,_,_,_,_,_,h,_,_,_,_,_,_,_,_,_,_=>absurd h aA
 |d,m+1,x1,a,n,q,h1,h2,h3,h4,h4',h5,h6,h7,h8,h9,h10,h11=>by
  rw[Lv]
  by_cases hc:q<r4.1
  ·rw[aQ (aH hc),Gl (by unfold Ok;simp;omega)]
   obtain⟨d,rfl⟩:∃e,d=e+1:=⟨d-1,by omega⟩
   obtain⟨v,b,e,g1,g2,g3⟩:=Ot hL h6 aA [0,1,2,3] aB aB
   rw[e];simp only[aG]
   have hv:0<=v/\v<=3:=by simp at g3;omega
   have hn:0<=HZ 0 (W (n-v))/\HZ 0 (W (n-v))<=n:=by
    rw[Jz aA aA];unfold HZ;split<;>omega
   rw[show W (q+1)=q+1 from Jz aA aA];obtain⟨x,c,r1,r2,r3,r5,r6,r7⟩:=WV r4 j d m (x1++[n]) b (HZ 0 (W (n-v))) (q+1) aA aA aA aA h4' aD aA aA hn.1 aA (λv hv=>by
    rcases bC.1 hv with hv|hv
    ·have:=h10 v hv;omega
    ·obtain rfl:=bA.1 hv;omega) (by
    rw[bK];exact⟨h11,by simp,λu hu w hw=>by obtain rfl:=bA.1 hw;exact(h10 u hu).1⟩)
   exact⟨x,c,r1,by omega,by omega,r5,r6,r7⟩
  ·rw[aP (by simpa using hc)];exact⟨x1,a,rfl,by omega,by omega,by omega,λv hv=>by have:=h10 v hv;omega,h11⟩
theorem SZ{a:Int}(h0:0<=a)(h1:a<=100000):Dr a 10 TGood (Sp L a):=by
 unfold Sp;obtain⟨v1,b1,e1,p1,q1,m1⟩:=Ot hL h0 aA [1,2] aB aB;rw[e1];simp only[aG];obtain⟨v2,b2,e2,p2,q2,m2⟩:=Ot hL (a:=b1) aA aA [0,0,1,2] aB aB;rw[e2];simp only[aG];obtain⟨v3,b3,e3,p3,q3,m3⟩:=Ot hL (a:=b2) aA aA [10,9,7,5] aB aB;rw[e3];simp only[aG];obtain⟨v4,b4,e4,p4,q4,m4,m5⟩:=AQ hL (a:=b3) aA aA 0 5 aA aA aA;rw[e4];simp only[aG,Pf];simp only[bB,bM,or_false] at m1 m2 m3;obtain⟨x,b,e,g1,g2,g3,g4,g5⟩:=WV hL (v4,b4) (λx1 x2=>some ((Qy.mk x1 v1 v2),x2)) v4.toNat ((v4-0).toNat+2) [] b4 v3 0 (by simp only;omega) aA aA aA (by simp only;omega) rfl aA aA aA aA (λ_ h=>by cases h) List.Pairwise.nil;exact⟨_,b,e,by omega,by omega,⟨⟨g3,g4,by simp only;omega,by simp only;omega⟩,g5⟩⟩
end
def clubP:List ByteArray:=[Sl,Sl,DV,k_grey,Ed]
section
variable {L:List Int}(hL:CZ L)
include hL
end
section
variable {L:List Int}(hL:CZ L)
include hL
end
def KF:List ByteArray:=[CP,MC,ME,MG,Ed]
def CF:List ByteArray:=[Sl,DV,Ed,k_A]
def FP:List ByteArray:=[Oc,Wz,UI,Ed]
def BU:List ByteArray:=[Ry,JT,Ed]
structure WW(d:An):Prop where
 site:d.Site∈BU
 who:d.Who∈KF
 club:d.Club∈CF
 race:d.Race∈FP
 of_:d.Of∈BU
 at_:0<=d.At/\d.At<=80
theorem Yb{κ R:Type}{K:κ}{f:κ->R}(Pr:R->Prop)(p:κ->Prop)(hK:p K)(hf:∀K',p K'->Pr (f K')):Pr (Fm K f):=hf K hK
def Xq(j:List (ByteArray×Int)->List An->Int->Option (List An×Int))(a:Int)(m n:Nat)(r:Option (List An×Int)):Prop:=
 ∃mm x b,r=j mm x b/\a<=b/\b<=a+20*(m:Int)/\x.length<=n/\∀d∈x,WW d
theorem PQ:Ed∈KF/\Ed∈CF/\Ed∈FP/\Ed∈BU:=by simp[KF,CF,FP,BU]
section
variable {L:List Int}(hL:CZ L)
include hL
theorem TA(many:Int)(hm:many<=16)(j:List (ByteArray×Int)->List An->Int->Option ((List An)×Int)):∀(m:Nat) (x1:List (ByteArray×Int)) (x2:List An) (a x4 x5:Int),0<=x5->many-x5<(m:Int)->0<=a->a+20*m<=10000000->x2.length+m<=1000->(∀e,0<=Fi x1 e 0/\Fi x1 e 0<=x5)->
 0<=x4->x4<=5*x5->(∀d∈x2,WW d)->Xq j a m (x2.length+(many-x5).toNat) (Pt many L j (m+1) x1 x2 a x4 x5)
 |m,x1,x2,a,x4,x5,h1,h2,h3,h4,h5,hx,h6,h7,hN=>by
  rw[Pt]
  by_cases hc:x5<many
  ·rw[aQ (aH hc)]
   cases m with
   |zero=>omega
   |succ m=>
    obtain⟨v1,b1,e1,g1,g2,hv1⟩:=Ot hL (a:=a) h3 aA [0,1,5] aB aB
    have hv1':0<=v1/\v1<=5:=by simp only[bB,bM,or_false] at hv1;omega
    rw[e1];simp only[aG]
    obtain⟨v2,b2,e2,g3,g4,hv2⟩:=Zn hL (a:=b1) aA aA [Ry,Ry,JT] aB aB
    have hv2':v2∈BU:=by simp only[bB,bM,or_false] at hv2;unfold BU;rcases hv2 with rfl|rfl|rfl<;>simp
    rw[e2];simp only[aG]
    obtain⟨v3,b3,e3,gg5,g6,_⟩:=Ot hL (a:=b2) aA aA [1,1,1,3,3,3,2,4] aB aB
    rw[e3];simp only[aG]
    have hx':∀e,0<=Fi (Jd x1 v2 (W ((Fi x1 v2 0)+1))) e 0/\Fi (Jd x1 v2 (W ((Fi x1 v2 0)+1))) e 0<=x5+1:=λe=>by
     have q1:=hx v2
     have q2:=hx e
     rw[Zm,Jz aA aA]
     split<;>omega
    refine Yb (Xq j a (m+1) (x2.length+(many-x5).toNat)) (λK=>∀s1 s2 c,s1∈KF->s2∈FP->a<=c->c<=a+5->Xq j a (m+1) (x2.length+(many-x5).toNat) (K s1 s2 c)) ?_ ?_
    ·intro s1 s2 c hs1 hs2 hc1 hc2
     refine Yb (Xq j a (m+1) (x2.length+(many-x5).toNat)) (λK=>∀u1 u2 u3 u4 u5 c,u1∈CF->u4∈BU->a<=c->c<=a+8->Xq j a (m+1) (x2.length+(many-x5).toNat) (K u1 u2 u3 u4 u5 c)) ?_ ?_
     ·intro u1 u2 u3 u4 u5 c hu1 hu4 hc1 hc2
      obtain⟨f,d0,t0,y1,y2,_⟩:=BE hL (a:=c) aA aA 100 aA
      rw[t0];simp only[aG]
      refine Yb (Xq j a (m+1) (x2.length+(many-x5).toNat)) (λK=>∀t0 t1 t2 t3 t4 t5 t6 t7 t8 c,t0∈BU->t3∈KF->t4∈CF->t5∈FP->a<=c->c<=a+17->Xq j a (m+1) (x2.length+(many-x5).toNat) (K t0 t1 t2 t3 t4 t5 t6 t7 t8 c)) ?_ ?_
      ·intro q0 q1 q2 q3 q4 q5 q6 q7 q8 c hq0 hq3 hq4 hq5 hc1 hc2
       have hw4:W (x4+v1)=x4+v1:=Jz aA aA
       rw[Gl (by unfold Ok;exact aH aA),Jz (n:=x5+1) aA aA]
       obtain⟨mm,x,b,r1,r2,r3,r4,r5⟩:=TA many hm j m _ (x2++[An.mk q0 q1 (W (x4+v1)) q2 q3 q4 q5 q6 q7 u4 q8]) c (W (x4+v1)) (x5+1) aA aA aA aA aD hx' aA aA (λd hd=>by
        rcases bC.1 hd with hd|hd
        ·exact hN d hd
        ·rw[bA] at hd
         subst hd
         exact⟨hq0,hq3,hq4,hq5,hu4,by show 0<=W (x4+v1)/\W (x4+v1)<=80;omega⟩)
       exact⟨mm,x,b,r1,by omega,by push_cast;omega,by simp at r4;omega,r5⟩
      ·intro K7 hK7
       have hno:Xq j a (m+1) (x2.length+(many-x5).toNat) (K7 v2 (Fi (Jd x1 v2 (W ((Fi x1 v2 0)+1))) v2 0) v3 s1 u1 s2 u2 u3 u5 d0):=hK7 _ _ _ _ _ _ _ _ _ _ hv2' hs1 hu1 hs2 aA aA
       cases f with
       |false=>rw[aP aB];exact hno
       |true=>
        rw[aQ rfl]
        obtain⟨n,d1,t1,y3,y4,_⟩:=RB hL (a:=d0) aA aA 4 aA
        rw[t1];simp only[aG]
        refine Yb (Xq j a (m+1) (x2.length+(many-x5).toNat)) (λK=>∀t0 t1 t2 t3 t4 t5 t6 t7 t8 c,t0∈BU->t3∈KF->t4∈CF->t5∈FP->a<=c->c<=a+17->Xq j a (m+1) (x2.length+(many-x5).toNat) (K t0 t1 t2 t3 t4 t5 t6 t7 t8 c)) ?_ ?_
        ·exact hK7
        intro K8 hK8
        refine Yb (Xq j a (m+1) (x2.length+(many-x5).toNat)) (λK=>∀t0 t1 t2 t3 t4 t5 t6 t7 t8 c,t0∈BU->t3∈KF->t4∈CF->t5∈FP->a<=c->c<=a+17->Xq j a (m+1) (x2.length+(many-x5).toNat) (K t0 t1 t2 t3 t4 t5 t6 t7 t8 c)) ?_ ?_
        ·exact hK8
        intro K9 hK9
        split
        ·skip
         obtain⟨z1,m1,oz1,pz1,qz1,hz1⟩:=Zn hL (a:=d1) aA aA [Ed,Ry] aB aB
         rw[oz1];simp only[aG]
         obtain⟨z2,m2,oz2,pz2,qz2,_⟩:=Xs hL (a:=m1) aA aA 1 9 aA aA aA
         rw[oz2];simp only[aG]
         exact hK9 _ _ _ _ _ _ _ _ _ _ (by simp only[bB,bM,or_false] at hz1;unfold BU;rcases hz1 with rfl|rfl<;>simp) hs1 hu1 hs2 aA aA
        ·refine Yb (Xq j a (m+1) (x2.length+(many-x5).toNat)) (λK=>∀t0 t1 t2 t3 t4 t5 t6 c,t1∈KF->t2∈CF->t3∈FP->a<=c->c<=a+17->Xq j a (m+1) (x2.length+(many-x5).toNat) (K t0 t1 t2 t3 t4 t5 t6 c)) ?_ ?_
         ·intro q0 q1 q2 q3 q4 q5 q6 c hq1 hq2 hq3 hc1 hc2;exact hK9 _ _ _ _ _ _ _ _ _ _ hv2' hq1 hq2 hq3 aA aA
         intro K10 hK10
         split
         ·skip
          obtain⟨z1,m1,oz1,pz1,qz1,_⟩:=Xs hL (a:=d1) aA aA 1 4 aA aA aA
          rw[oz1];simp only[aG]
          exact hK10 _ _ _ _ _ _ _ _ hs1 hu1 hs2 aA aA
         ·refine Yb (Xq j a (m+1) (x2.length+(many-x5).toNat)) (λK=>∀t0 t1 t2 t3 t4 t5 c,t0∈KF->t1∈CF->t2∈FP->a<=c->c<=a+17->Xq j a (m+1) (x2.length+(many-x5).toNat) (K t0 t1 t2 t3 t4 t5 c)) ?_ ?_
          ·intro q0 q1 q2 q3 q4 q5 c hq0 hq1 hq2 hc1 hc2;exact hK10 _ _ _ _ _ _ _ _ hq0 hq1 hq2 aA aA
          intro K11 hK11
          split
          ·skip
           obtain⟨z1,m1,oz1,pz1,qz1,hz1⟩:=Zn hL (a:=d1) aA aA [Ed,CP] aB aB
           rw[oz1];simp only[aG]
           obtain⟨z2,m2,oz2,pz2,qz2,hz2⟩:=Zn hL (a:=m1) aA aA [k_A,Sl] aB aB
           rw[oz2];simp only[aG]
           obtain⟨z3,m3,oz3,pz3,qz3,hz3⟩:=Zn hL (a:=m2) aA aA [Ed,Oc] aB aB
           rw[oz3];simp only[aG]
           simp only[bB,bM,or_false] at hz1 hz2 hz3
           exact hK11 _ _ _ _ _ _ _ (by unfold KF;rcases hz1 with rfl|rfl<;>simp) (by unfold CF;rcases hz2 with rfl|rfl<;>simp) (by unfold FP;rcases hz3 with rfl|rfl<;>simp) aA aA
          ·skip
           obtain⟨z1,m1,oz1,pz1,qz1,_⟩:=Xs hL (a:=d1) aA aA 0 360000 aA aA aA
           rw[oz1];simp only[aG]
           obtain⟨z2,m2,oz2,pz2,qz2,_⟩:=Xs hL (a:=m1) aA aA 0 8 aA aA aA
           rw[oz2];simp only[aG]
           obtain⟨z3,m3,oz3,pz3,qz3,_⟩:=Xs hL (a:=m2) aA aA 0 5 aA aA aA
           rw[oz3];simp only[aG]
           exact hK11 _ _ _ _ _ _ _ hs1 hu1 hs2 aA aA
     ·intro K3 hK3
      refine Yb (Xq j a (m+1) (x2.length+(many-x5).toNat)) (λK=>∀t0 t1 t2 t3 t4 c,t0∈CF->t3∈BU->a<=c->c<=a+8->Xq j a (m+1) (x2.length+(many-x5).toNat) (K t0 t1 t2 t3 t4 c)) ?_ ?_
      ·exact hK3
      intro K4 hK4
      split
      ·skip
       obtain⟨z1,m1,oz1,pz1,qz1,hz1⟩:=Zn hL (a:=c) aA aA [Sl,DV,Ed] aB aB
       rw[oz1];simp only[aG]
       obtain⟨z2,m2,oz2,pz2,qz2,_⟩:=Ot hL (a:=m1) aA aA [0,5900,6000,7000] aB aB
       rw[oz2];simp only[aG]
       simp only[bB,bM,or_false] at hz1
       exact hK4 _ _ _ _ _ _ (by unfold CF;rcases hz1 with rfl|rfl|rfl<;>simp) PQ.2.2.2 aA aA
      ·refine Yb (Xq j a (m+1) (x2.length+(many-x5).toNat)) (λK=>∀t0 t1 t2 t3 c,t2∈BU->a<=c->c<=a+8->Xq j a (m+1) (x2.length+(many-x5).toNat) (K t0 t1 t2 t3 c)) ?_ ?_
       ·intro q0 q1 q2 q3 c hq2 hc1 hc2;exact hK4 _ _ _ _ _ _ PQ.2.1 hq2 aA aA
       intro K5 hK5
       split
       ·skip
        obtain⟨z1,m1,oz1,pz1,qz1,_⟩:=Ot hL (a:=c) aA aA [0,5900,5900,6000,6100] aB aB
        rw[oz1];simp only[aG]
        obtain⟨z2,m2,oz2,pz2,qz2,_⟩:=Ot hL (a:=m1) aA aA [0,0,0,0,3] aB aB
        rw[oz2];simp only[aG]
        exact hK5 _ _ _ _ _ PQ.2.2.2 aA aA
       ·refine Yb (Xq j a (m+1) (x2.length+(many-x5).toNat)) (λK=>∀t0 t1 c,t0∈BU->a<=c->c<=a+8->Xq j a (m+1) (x2.length+(many-x5).toNat) (K t0 t1 c)) ?_ ?_
        ·intro q0 q1 c hq0 hc1 hc2;exact hK5 _ _ _ _ _ hq0 aA aA
        intro K6 hK6
        split
        ·skip
         obtain⟨z1,m1,oz1,pz1,qz1,hz1⟩:=Zn hL (a:=c) aA aA [Ry,Ry,JT] aB aB
         rw[oz1];simp only[aG]
         have hb:HZ 1 (Fi (Jd x1 v2 (W ((Fi x1 v2 0)+1))) Ry 0)<=1000:=by
          have hz:=(hx' Ry).2;have hmx:∀z:Int,z<=x5+1->HZ 1 z<=1000:=λz hz=>by
           unfold HZ
           by_cases hq:z>1
           ·rw[aQ hq];omega
           ·rw[aP hq];omega
          exact hmx _ hz
         obtain⟨z2,m2,oz2,pz2,qz2,_⟩:=AQ hL (a:=m1) aA aA 1 (HZ 1 (Fi (Jd x1 v2 (W ((Fi x1 v2 0)+1))) Ry 0)) aA aA aA;rw[oz2];simp only[aG];simp only[bB,bM,or_false] at hz1;exact hK6 _ _ _ (by unfold BU;rcases hz1 with rfl|rfl|rfl<;>simp) aA aA
        ·exact hK6 _ _ _ PQ.2.2.2 aA aA
    ·intro K hK
     split
     ·obtain⟨w1,c1,t1,q1,q2,hw1⟩:=Zn hL (a:=b3) aA aA [CP,MC,ME,MG] aB aB;rw[t1];simp only[aG];obtain⟨w2,c2,t2,q3,q4,hw2⟩:=Zn hL (a:=c1) aA aA [Oc,Oc,Wz,UI] aB aB;rw[t2];simp only[aG];simp only[bB,bM,or_false] at hw1 hw2;exact hK _ _ _ (by unfold KF;rcases hw1 with rfl|rfl|rfl|rfl<;>simp) (by unfold FP;rcases hw2 with rfl|rfl|rfl|rfl<;>simp) aA aA
     ·exact hK _ _ _ PQ.1 PQ.2.2.1 aA aA
  ·rw[aP (by simpa using hc)];exact⟨x1,x2,a,rfl,by omega,by omega,by omega,hN⟩
theorem YL(many:Int)(h0:0<=many)(hm:many<=16){a:Int}(ha:0<=a)(ha':a<=5000000):∃l b,Zd L a many=some (l,b)/\a<=b/\b<=a+400/\(l.length:Int)<=many/\∀d∈l,WW d:=by
 obtain⟨k,rfl⟩:=Int.eq_ofNat_of_zero_le h0;unfold Zd;simp only[Ht];obtain⟨mm,x,b,e,g1,g2,g3,g4⟩:=TA hL (k:Int) aA (fun(x1:List (ByteArray×Int)) (x2:List An) (x3:Int)=>Option.bind (Iv x2) (λr23=>some (r23,x3))) (k+1) [] [] a 0 0 aA aA ha aA aD (by simp[Fi,Ys,Rc]) aA aA (λ_ h=>by cases h);simp only[aW,Nat.zero_add] at g3;rw[show (((k:Int)-0).toNat+2)=k+1+1 by omega,e];dsimp only;rw[UO x aA];exact⟨_,_,rfl,g1,by push_cast at g2;omega,by rw[AD];omega,λd hd=>g4 d ((AC _ _ _).1 hd)⟩
end
theorem WX(P:List Ek)(v:Ek)(Q:List Ek):nth (P++v::Q) (P.length:Int)=v:=by unfold nth;simp
theorem WY(P:List Ek)(v u:Ek)(Q:List Ek):(P++v::Q).set P.length u=P++u::Q:=by simp
theorem revR_l(j:List Ek->Option (List Ek)):∀(k m:Nat) (A M B:List Ek),M.length<=k->M.length<m->A.length+M.length+B.length<=1000000->
 Ku j m (A++(M++B)) (A.length:Int) ((A.length:Int)+(M.length:Int)-1)=j (A++(M.reverse++B))
 |k,0,A,M,B,_,h,_=>by omega
 |k,m+1,A,M,B,hk,hm,hl=>by
  rw[Ku]
  match M,hk,hm,hl with
  |[],_,_,_=>rw[aP aD];rfl
  |[z],_,_,_=>rw[aP aB];rfl
  |a::z::M1,hk,hm,hl=>
   obtain⟨M2,b,hM⟩:∃M2 b,z::M1=M2++[b]:=by
    rcases List.eq_nil_or_concat (z::M1) with h|⟨M2,b,h⟩
    ·cases h
    ·exact⟨M2,b,by rw[h];simp⟩
   rw[hM] at hk hm hl ⊢;simp only[aT,aU,aW] at hk hm hl ⊢;have hlen:(A++(a::(M2++[b])++B)).length=A.length+M2.length+2+B.length:=by simp;omega
   have e3:(A.length:Int)+((M2.length+(0+1)+1:Nat):Int)-1=((A.length+M2.length+1:Nat):Int):=by omega
   rw[e3,aQ (aH aA)];have n2:nth (A++(a::(M2++[b])++B)) (A.length:Int)=a:=by rw[List.cons_append];exact WX _ _ _
   have h1:A++(a::(M2++[b])++B)=(A++a::M2)++b::B:=by simp
   have h2:(A++a::M2).length=A.length+M2.length+1:=by simp;omega
   have n3:nth (A++(a::(M2++[b])++B)) ((A.length+M2.length+1:Nat):Int)=b:=by
    rw[h1,←h2];exact WX _ _ _
   have hs:((A++(a::(M2++[b])++B)).set ((A.length:Int)).toNat b).set (((A.length+M2.length+1:Nat):Int)).toNat a=(A++[b])++(M2++(a::B)):=by
    rw[bI,bI];have q1:(A++(a::(M2++[b])++B)).set A.length b=(A++b::M2)++b::B:=by
     rw[List.cons_append,WY];simp
    have q2:(A++b::M2).length=A.length+M2.length+1:=by simp;omega
    rw[q1,←q2,WY];simp
   rw[Gl (Ha.2 aA),Gl (Ha.2 aA),Gl (Ha.2 aA),Gl (Ha.2 (by rw[List.length_set];omega)),n2,n3,hs,Jz aA aA,Jz aA aA];have ih:=revR_l j (k-2) m (A++[b]) M2 (a::B) aA aA aD;have e1:(((A++[b]).length:Nat):Int)=(A.length:Int)+1:=by simp
   rw[e1] at ih;have e2:(A.length:Int)+1+(M2.length:Int)-1=((A.length+M2.length+1:Nat):Int)-1:=by omega
   rw[e2] at ih;rw[ih];simp
theorem TC(l:List Ek)(hl:l.length<=1000000):Sy l=some l.reverse:=by
 unfold Sy;rw[Pf,Jz aA aA];have h:=revR_l (λx=>some x) l.length (((l.length:Int)-1-0).toNat+2) [] l [] (bU _) aA aD;simpa using h
theorem YM{s:ByteArray}(h:s∈[Oc,Wz,BK]):Hy s=some true:=by
 have key:∀s∈[Oc,Wz,BK],Hy s=some true:=by decide+kernel
 exact key s h
section
variable {L:List Int}(hL:CZ L)
include hL
theorem raceP_dr{a:Int}(h0:0<=a)(h1:a<=100000000)(key:ByteArray)(hk:key∈[Oc,Wz,BK]):Dr a 7 (λr=>r.Key=key/\My r=some 0) (St L a key):=by
 unfold St;obtain⟨v1,b1,e1,g1,g2,q1⟩:=Ot hL h0 aA [50,100,200] aB aB;rw[e1];simp only[aG];obtain⟨v2,b2,e2,g3,g4,q2⟩:=Ot hL (a:=b1) aA aA [1,2,3,4] aB aB;rw[e2];simp only[aG];obtain⟨v3,b3,e3,gg5,g6,q3⟩:=Ot hL (a:=b2) aA aA [25,50] aB aB;rw[e3];simp only[aG];obtain⟨v4,b4,e4,g7,g8,q4⟩:=Ot hL (a:=b3) aA aA [1,1,1,4] aB aB;rw[e4];simp only[aG];obtain⟨v5,b5,e5,g9,g10,q5⟩:=Ot hL (a:=b4) aA aA [0,1,2] aB aB;rw[e5];simp only[aG];obtain⟨v6,b6,e6,g11,g12,q6⟩:=Ot hL (a:=b5) aA aA [0,0,5,10] aB aB;rw[e6];simp only[aG];obtain⟨v7,b7,e7,g13,g14,q7⟩:=Ot hL (a:=b6) aA aA [0,5,90] aB aB;rw[e7];simp only[aG];refine⟨_,_,rfl,by omega,by omega,rfl,?_⟩;simp only[bB,bM,or_false] at q1 q2 q3 q4 q5 q6 q7;have w:W (v6+v7)=v6+v7:=Jz aA aA;unfold My;simp only[YM hk,aG,bN,aO,aR,Pf,w];have c1:((!(Ei v2 1 5))||(!(Ei v5 0 2)))=false:=by
  unfold Ei;simp;omega
 have c2:(((((((!decide (v3=25)) && (!decide (v3=50)))||(!(Ei v4 1 4)))||(!(Ei v1 25 1500)))||(decide (v6<0)))||(decide (v6+v7<v6)))||(decide (120<v6+v7)))=false:=by
  unfold Ei;simp;omega
 have c3:(!decide (v3=0))=true:=by simp;omega
 have c4:(!decide (Int.tmod v1 v3=0))=false:=by rcases q1 with rfl|rfl|rfl<;>rcases q3 with rfl|rfl<;>decide+kernel
 have c5:decide (v2=5)=false:=by simp;omega
 simp only[c1,c2,Gl c3,c4,c5,aO,aR,bP]
theorem NM:∀(ys:List ByteArray) (i:Nat) (x1:List Ek) (a:Int),0<=a->a+8*ys.length<=10000000->x1.length+ys.length<=1000->(∀y∈ys,y∈[Oc,Wz,BK])->ys.Nodup->(∀x∈x1,(My x=some 0/\x.Key∈[Oc,Wz,BK])/\x.Key∉ys)->(x1.map (·.Key)).Nodup->
 ∃x b,Kr L (λx a=>some (x,a)) ys i x1 a=some (x,b)/\a<=b/\b<=a+8*ys.length/\x.length<=x1.length+ys.length/\(∀z∈x,My z=some 0/\z.Key∈[Oc,Wz,BK])/\(x.map (·.Key)).Nodup
 |[],i,x1,a,_,_,_,_,_,h5,h6=>⟨x1,a,rfl,Int.le_refl _,by simp,by simp,λz hz=>(h5 z hz).1,h6⟩
 |y::ys,i,x1,a,h0,h1,h2,h3,h4,h5,h6=>by
  rw[Kr]
  rw[bT] at h4
  simp only[aT] at h1 h2 ⊢
  obtain⟨f,b,e,g1,g2,_⟩:=BE hL h0 aA 6 aA
  rw[e];simp only[aG,Pf]
  cases f with
  |true=>
   rw[aP aB]
   obtain⟨x,c,e',g3,g4,gg5,g6,g7⟩:=NM ys (i+1) x1 b aA aA aA (λz hz=>h3 z (aM _ hz)) h4.2 (λx hx=>⟨(h5 x hx).1,λhz=>(h5 x hx).2 (aM _ hz)⟩) h6
   exact⟨x,c,e',by omega,by omega,by omega,g6,g7⟩
  |false=>
   rw[aQ aB]
   obtain⟨s,b2,e2,g3,g4,q1,q2⟩:=raceP_dr hL (a:=b) aA aA y (h3 y aN)
   rw[e2];simp only[aG]
   rw[Gl (by unfold Ok;simp;omega)]
   obtain⟨x,c,e',g7,g8,g9,g10,g11⟩:=NM ys (i+1) (x1++[s]) b2 aA aA aD (λz hz=>h3 z (aM _ hz)) h4.2
    (λx hx=>by
     rcases bC.1 hx with h|h
     ·exact⟨(h5 x h).1,λhz=>(h5 x h).2 (aM _ hz)⟩
     ·rw[bA] at h;subst h;exact⟨⟨q2,by rw[q1];exact h3 y aN⟩,by rw[q1];exact h4.1⟩)
    (by
     rw[List.map_append,List.nodup_append]
     refine⟨h6,by simp,λu hu v hv=>?_⟩
     simp only[aY,List.map_nil,bA] at hv
     obtain⟨x,hx,rfl⟩:=bD.1 hu
     rw[hv,q1]
     rintro e
     exact(h5 x hx).2 (by rw[e];exact aN))
   simp only[aU,aX] at g9
   exact⟨x,c,e',by omega,by omega,by omega,g10,g11⟩
end
structure PlanG(p:Lc):Prop where
 few:p.Races.length<=3
 races:∀r∈p.Races,My r=some 0/\r.Key∈[Oc,Wz,BK]
 keys:(p.Races.map (·.Key)).Nodup
 table:TGood p.Table
 final:Qk p.Final=0
theorem planP_dr{L:List Int}(hL:CZ L){a:Int}(h0:0<=a)(h1:a<=50000):Dr a 37 PlanG (Vc L a):=by
 unfold Vc Sc;simp only[Ht];obtain⟨x,b1,e1,p1,q1,x1,x2,x3⟩:=NM hL [Oc,Wz,BK] 0 [] a h0 aD aB (λ_ h=>h) (by decide+kernel) (λ_ h=>by cases h) aB;simp only[aT,aW,Nat.zero_add] at q1 x1;rw[e1];simp only[aG];obtain⟨t,b2,e2,p2,q2,t1⟩:=SZ hL (a:=b1) aA aA;rw[e2];simp only[aG];obtain⟨v3,b3,e3,p3,q3,m3,n3⟩:=AQ hL (a:=b2) aA aA 1 3 aA aA aA;rw[e3];simp only[aG];obtain⟨v4,b4,e4,p4,q4,m4,n4⟩:=AQ hL (a:=b3) aA aA 1 2 aA aA aA;rw[e4];simp only[aG];obtain⟨v5,b5,e5,p5,q5,m5,n5⟩:=AQ hL (a:=b4) aA aA 0 2 aA aA aA;rw[e5];simp only[aG];rw[TC x aA];simp only[aG];refine⟨_,_,rfl,by omega,by push_cast at q1;omega,?_⟩;refine⟨by simp only[List.length_reverse];omega,λr hr=>x2 r (List.mem_reverse.1 hr),by rw[List.map_reverse];exact(List.reverse_perm _).nodup_iff.2 x3,t1,?_⟩;unfold Qk;rw[aP];simp only[Ei,Bool.not_and,Bool.or_eq_true,Bool.not_eq_true',aL];simp;omega
theorem RF:∀(l:List Eg) (i:Nat) (pt pr:Int) (z:Eg),z∈rkF i pt pr l->∃x∈l,z.Who=x.Who/\z.Time=x.Time/\z.Fault=x.Fault
 |[],_,_,_,_,h=>by cases h
 |x::xs,i,pt,pr,z,h=>by
  rw[rkF] at h
  rcases bB.1 h with rfl|h
  ·exact⟨x,aN,rfl,rfl,rfl⟩
  ·obtain⟨y,hy,e⟩:=RF xs _ _ _ z h
   exact⟨y,aM _ hy,e⟩
theorem WZ:∀(l:List Eg) (i:Nat) (pt pr:Int),(rkF i pt pr l).map (·.Who)=l.map (·.Who)
 |[],_,_,_=>rfl
 |x::xs,i,pt,pr=>by simp only[rkF,aY,WZ xs]
def Rk2(a b:Eg):Prop:=a.Time<=b.Time/\a.Rank<=b.Rank/\(a.Rank=b.Rank↔a.Time=b.Time)/\(a.Time=b.Time->cB a.Who b.Who<0)
theorem rkF_ok:∀(l:List Eg) (i:Nat) (pt pr:Int),l.Pairwise (λa b=>HY a b=true)->(i=0\/(1<=pr/\pr<=(i:Int)/\∀x∈l,pt<=x.Time))->
 (∀z∈rkF i pt pr l,1<=z.Rank/\z.Rank<=(i:Int)+l.length/\(i=0\/(pt<=z.Time/\pr<=z.Rank/\(z.Rank=pr↔z.Time=pt))))/\(rkF i pt pr l).Pairwise Rk2
 |[],_,_,_,_,_=>⟨λz h=>absurd h (by simp[rkF]),by simp[rkF]⟩
 |x::xs,i,pt,pr,hp,hi=>by
  rw[List.pairwise_cons] at hp
  have hle:∀y∈xs,x.Time<=y.Time/\(x.Time=y.Time->cB x.Who y.Who<0):=λy hy=>by
   have:=FN.1 (hp.1 y hy)
   omega
  have hx:i=0\/pt<=x.Time:=hi.imp id λh=>h.2.2 x aN
  generalize hr:(if decide (0<(i:Int)) && decide (x.Time=pt) then pr else(i:Int)+1)=r
  have hr':rkF i pt pr (x::xs)=Eg.mk x.Who r x.Time x.Fault::rkF (i+1) x.Time r xs:=by rw[rkF];simp only[hr]
  have hrr:(0<i/\x.Time=pt/\r=pr)\/(r=(i:Int)+1/\(i=0\/x.Time≠pt)):=by
   rw[←hr]
   by_cases h:0<i
   ·by_cases h2:x.Time=pt
    ·left;rw[aQ (by simp[h,h2])];exact⟨h,h2,rfl⟩
    ·right;rw[aP (by simp[h2])];exact⟨rfl,.inr h2⟩
   ·right;rw[aP aD];exact⟨rfl,.inl aA⟩
  have hr1:1<=r/\r<=(i:Int)+1:=by
   rcases hrr with ⟨h1,_,h3⟩|⟨h1,_⟩
   ·rcases hi with h|⟨h4,h5,_⟩<;>omega
   ·omega
  obtain⟨A,B⟩:=rkF_ok xs (i+1) x.Time r hp.2 (.inr ⟨hr1.1,by push_cast;omega,λy hy=>(hle y hy).1⟩);rw[hr'];refine⟨λz hz=>?_,List.pairwise_cons.2 ⟨λz hz=>?_,B⟩⟩
  ·rcases bB.1 hz with rfl|hz
   ·refine⟨hr1.1,by simp only[aT];push_cast;omega,?_⟩;rcases hi with h|⟨h4,h5,h6⟩
    ·exact .inl h
    ·right;have:=h6 x aN;simp only;rcases hrr with ⟨h1,h2,h3⟩|⟨h1,h2⟩<;>omega
   ·obtain⟨a1,a2,a3⟩:=A z hz;refine⟨a1,by simp only[aT];push_cast at a2 ⊢;omega,?_⟩;rcases hi with h|⟨h4,h5,h6⟩
    ·exact .inl h
    ·right;have:=h6 x aN;rcases a3 with a3|⟨a3,a4,a5⟩
     ·omega
     ·rcases hrr with ⟨h1,h2,h3⟩|⟨h1,h2⟩<;>omega
  ·obtain⟨a1,a2,a3⟩:=A z hz;obtain⟨y,hy,y1,y2,_⟩:=RF xs _ _ _ z hz;obtain⟨l1,l2⟩:=hle y hy;rcases a3 with a3|⟨a3,a4,a5⟩
   ·omega
   ·refine⟨by simp only;omega,by simp only;omega,by simp only;omega,?_⟩;simp only;rw[y1];intro e;exact l2 aA
def swS(race:ByteArray)(m:List (ByteArray×An))(y:An):List (ByteArray×An):=if decide (y.Race=race) && decide (y.Kind=3) then Jd m y.Who y else m
def swM(race:ByteArray)(l:List An):List (ByteArray×An):=l.foldl (swS race) []
theorem UR(race:ByteArray):∀(ys:List An) (i:Nat) (m:List (ByteArray×An)),Qz race (λx=>x) ys i m=ys.foldl (swS race) m
 |[],_,m=>rfl
 |y::ys,i,m=>by
  rw[Qz]
  simp only[Ht,List.foldl_cons]
  unfold swS
  cases hc:(decide (y.Race=race) && decide (y.Kind=3)) with
  |true=>rw[aQ rfl,aQ rfl];exact UR race ys (i+1) _
  |false=>rw[aP aB,aP aB];exact UR race ys (i+1) _
theorem swum_is(p:Lc)(l:List An)(race:ByteArray):Kp p l race=swM race l:=by
 unfold Kp;rw[Ht];exact UR race l 0 []
theorem XA{race:ByteArray}{l:List An}{w:ByteArray}{y:An}(h:Ys (swM race l) w=some y):y∈l/\y.Kind=3/\y.Race=race/\y.Who=w:=by
 have key:∀(ys:List An) (m:List (ByteArray×An)),(∀z∈ys,z∈l)->(∀w y,Ys m w=some y->y∈l/\y.Kind=3/\y.Race=race/\y.Who=w)->∀w y,Ys (ys.foldl (swS race) m) w=some y->y∈l/\y.Kind=3/\y.Race=race/\y.Who=w:=by
  intro ys
  induction ys with
  |nil=>intro m _ h;exact h
  |cons z ys ih=>
   intro m hz hm;rw[List.foldl_cons];refine ih _ (λu hu=>hz u (aM _ hu)) λw y hy=>?_;unfold swS at hy
   split at hy
   ·rename_i hc;simp only[bQ,aK] at hc;have e:Ys (Jd m z.Who z) w=if w=z.Who then some z else Ys m w:=IX z.Who w z m 0;rw[e] at hy
    split at hy
    ·rename_i hw;obtain rfl:=bH hy;exact⟨hz z aN,hc.2,hc.1,hw.symm⟩
    ·exact hm w y hy
   ·exact hm w y hy
 exact key l [] (λ_ h=>h) (λw y h=>by simp[Ys,Rc] at h) w y h
structure FG(F:List An):Prop where
 ok:∀d∈F,DG d/\d.Who∈KF/\d.Club∈CF
 len:F.length<=40
theorem JF{α:Type}[DecidableEq α]:∀(l l':List α),l.Nodup->(∀x∈l,x∈l')->l.length<=l'.length
 |[],_,_,_=>Nat.zero_le _
 |x::l,l',h,hm=>by
  rw[bT] at h
  have hx:=hm x aN
  have:=JF l (l'.erase x) h.2 λy hy=>(List.mem_erase_of_ne (λe=>h.1 (by rw[←e];exact hy))).2 (hm y (aM _ hy))
  rw[List.length_erase_of_mem hx] at this
  have:=List.length_pos_of_mem hx
  simp only[aT]
  omega
def D0:An:=An.mk Ed 0 0 0 Ed Ed Ed 0 0 Ed 0
def LE(race:ByteArray)(F:List An)(d:An):Bool:=(Ys (swM race F) d.Who).isSome
def svS(race:ByteArray)(F:List An)(d:An):An:=Fi (swM race F) d.Who D0
def Tu(race:ByteArray)(F:List An):List An:=(AW race F).filter (LE race F)
def Ty(race:ByteArray)(F:List An)(H:List An):List Ee:=H.map λd=>Ee.mk d.Who (svS race F d).Time
def DB(race:ByteArray)(F:List An)(H:List An):List Js:=(H.filter λd=>decide (0<(svS race F d).Fault)).map λd=>Js.mk d.Who (svS race F d).Fault []
def EA(H:List An)(m:List (ByteArray×ByteArray)):List (ByteArray×ByteArray):=H.foldl (λm d=>Jd m d.Who d.Club) m
theorem GI(p:Lc)(F:List An)(race:ByteArray)(j:List Js->List Ee->List (ByteArray×ByteArray)->Option (List Eg×List (ByteArray×ByteArray)×Int)):∀(ys:List An) (i:Nat) (v:List Js) (q:List Ee) (c:List (ByteArray×ByteArray)),v.length+ys.length<=1000->q.length+ys.length<=1000->
 Om p F race j ys i v q c=j (v++DB race F (ys.filter (LE race F))) (q++Ty race F (ys.filter (LE race F))) (EA (ys.filter (LE race F)) c)
 |[],i,v,q,c,_,_=>by simp[Om,DB,Ty,EA]
 |y::ys,i,v,q,c,h1,h2=>by
  simp only[aT] at h1 h2
  rw[Om]
  simp only[Ht,swum_is]
  have hh:LE race F y=(Ys (swM race F) y.Who).isSome:=rfl
  have hs:Fi (swM race F) y.Who (An.mk Ed 0 0 0 Ed Ed Ed 0 0 Ed 0)=svS race F y:=rfl
  rw[hs]
  cases hc:(Ys (swM race F) y.Who).isSome with
  |false=>
   rw[aQ aB,bS (by rw[hh,hc];simp)]
   exact GI p F race j ys (i+1) v q c aA aA
  |true=>
   rw[aP aB,Gl (by unfold Ok;exact aH aA),bR (by rw[hh,hc])]
   by_cases hf:0<(svS race F y).Fault
   ·rw[aQ (aH hf),Gl (by unfold Ok;exact aH aA),GI p F race j ys (i+1) _ _ _ aD aD]
    unfold DB Ty EA
    rw[bR (by simpa using hf)]
    simp
   ·rw[aP (by simpa using hf),GI p F race j ys (i+1) v _ _ aA aD]
    unfold DB Ty EA
    rw[bS (by simpa using hf)]
    simp
theorem GJ(race:ByteArray)(F:List An):(Tu race F).Pairwise λa b=>cB a.Who b.Who<0:=((LR race F).sublist List.filter_sublist).imp λ{a b} h=>by
 rw[KB,aK] at h
 exact h
def LF(race:ByteArray)(F:List An)(w:ByteArray):Int:=Fi (BY (DB race F (Tu race F)) []) w 0
theorem PR(V:List Js)(m:List (ByteArray×Int))(w:ByteArray)(h:∀v∈V,v.Who≠w):Fi (BY V m) w 0=Fi m w 0:=by
 unfold BY
 induction V generalizing m with
 |nil=>rfl
 |cons v V ih=>
  rw[List.foldl_cons,ih _ λu hu=>h u (aM _ hu),Zm,aP λe=>h v aN e.symm]
theorem YN(V:List Js)(m:List (ByteArray×Int))(v:Js)(hv:v∈V)(hp:(V.map (·.Who)).Nodup):Fi (BY V m) v.Who 0=v.Fault:=by
 induction V generalizing m with
 |nil=>cases hv
 |cons u V ih=>
  simp only[aY,bT] at hp;have e:BY (u::V) m=BY V (Jd m u.Who u.Fault):=rfl;rw[e];rcases bB.1 hv with rfl|hv
  ·rw[PR V _ v.Who λz hz e=>hp.1 (by rw[←e];exact bJ hz),Zm,aQ rfl]
  ·exact ih _ hv hp.2
def BV(race:ByteArray)(F:List An):List Eg:=FO (LF race F) (Ty race F (Tu race F))
end Go.Proofs.YtbicihdhkkjigaaGreatDoor
