/- Fractions in lowest terms whose denominators divide 2520,and how they add. No program stands here but its twins. -/
import Derived.Test.YthlielagemkjcaaGreatDoorPResults2
namespace Go.Proofs.YthlielagemkjcaaGreatDoor
open Go
theorem KW{s:ByteArray}(h:Gh s=some true):s.size<=40:=by
 obtain⟨b,h1,h2⟩:=We s;rw[h] at h1;obtain rfl:=bH h1;unfold Lu at h2;simp only[Ga] at h2
 by_cases hi:Ik (s.size:Int) 1 40=true
 ·unfold Ik at hi;simp only[bQ,aK] at hi;omega
 ·rw[aP hi] at h2;have:Ik (s.size:Int) 1 40=false:=by simpa using hi
  rw[this] at h2;simp at h2
structure FM(F:List An):Prop where
 ok:∀d∈F,DG d
 len:F.length<=1000
 few:∀race,(Oy race F).length<=12
theorem RV{F:List An}(h:FM F){race:ByteArray}{d:An}(hd:d∈Oy race F):d∈Zw race F/\(svS race F d∈F/\(svS race F d).Kind=3/\(svS race F d).Race=race/\(svS race F d).Who=d.Who)/\(0<=(svS race F d).Time/\(svS race F d).Time<=360000)/\(0<=(svS race F d).Fault/\(svS race F d).Fault<=8):=by
 obtain⟨h1,h2⟩:=List.mem_filter.1 hd;unfold QF at h2;obtain⟨y,hy⟩:=Option.isSome_iff_exists.1 h2;have e:svS race F d=y:=by unfold svS Gm;rw[hy];rfl
 have g:=Aon hy;rw[e];have gd:=h.ok y g.1;exact⟨h1,g,gd.time (.inr g.2.1),gd.fault g.2.1⟩
theorem Agd{F:List An}(h:FM F){race:ByteArray}{d:An}(hd:d∈Oy race F):YK race F d.Who=(svS race F d).Fault:=by
 obtain⟨_,_,_,f0,_⟩:=RV h hd;have hup:=SN race F;have hnd:((OA race F (Oy race F)).map (·.Who)).Nodup:=by
  unfold OA;rw[List.map_map];exact List.pairwise_map.2 ((hup.sublist List.filter_sublist).imp λ{a b} hab e=>by
   have e':a.Who=b.Who:=e;rw[e',Ut] at hab;omega)
 unfold YK
 by_cases hf:0<(svS race F d).Fault
 ·exact Aqu _ [] (Je.mk d.Who (svS race F d).Fault []) (bD.2 ⟨d,List.mem_filter.2 ⟨hd,aH hf⟩,rfl⟩) hnd
 ·rw[Adu _ _ _ λv hv e=>?_]
  ·have:(svS race F d).Fault=0:=by omega
   rw[this];rfl
  ·obtain⟨u,hu,rfl⟩:=bD.1 hv;obtain⟨hu1,hu2⟩:=List.mem_filter.1 hu;have hu2:=of_decide_eq_true hu2;simp only at e;have:svS race F u=svS race F d:=by unfold svS;rw[e]
   rw[this] at hu2;exact hf hu2
theorem Alt{F:List An}(h:FM F)(p:Ge)(race:ByteArray):EY p F race=some (Zz race F,Xr (Oy race F) [],0):=by
 have hlen:=h.few race;have hel:=KU race F;have hef:=HY race F;have hFl:=h.len;unfold EY;rw[CH p F race aA];simp only[aG,Ga];rw[SM p F race _ (Zw race F) 0 [] [] [] aD aD,aZ,aZ];have hQ:(Xu race F (Oy race F)).length<=12:=by unfold Xu;rw[aV];exact hlen
 have hV:(OA race F (Oy race F)).length<=12:=by
  unfold OA;rw[aV];exact Nat.le_trans (List.length_filter_le _ _) hlen
 have hr:=rank_is (Q:=Xu race F (Oy race F)) (V:=OA race F (Oy race F)) aA (λs hs=>by
  unfold Xu at hs;obtain⟨d,hd,rfl⟩:=bD.1 hs;obtain⟨d1,_,d3,_⟩:=RV h hd;obtain⟨_,k2,k3⟩:=EC d1;exact⟨((h.ok d k3).who aA).1,d3⟩)
  (by unfold Xu;rw[List.pairwise_map];exact SN race F) aA (λs hs=>by
   unfold OA at hs;obtain⟨d,hd,rfl⟩:=bD.1 hs;obtain⟨d1,_,_,d4⟩:=RV h (List.mem_filter.1 hd).1;obtain⟨_,k2,k3⟩:=EC d1;exact⟨((h.ok d k3).who aA).1,d4⟩)
  (by unfold OA;rw[List.pairwise_map];exact(SN race F).sublist List.filter_sublist)
 show Option.bind (GR (Xu race F (Oy race F)) (OA race F (Oy race F))) _=_;rw[hr];rfl
theorem Aeb:∀(B A:List Fj) (pt pr:Int),(A++B).Pairwise (λa b=>a.Time<=b.Time)->(A=[]\/((∃A' z,A=A'++[z]/\z.Time=pt)/\pr=1+(A.countP λo=>decide (o.Time<pt):Nat)))->
 ∀z∈rkF A.length pt pr B,z.Rank=1+((A++B).countP λo=>decide (o.Time<z.Time):Nat)
 |[],A,pt,pr,_,_,z,h=>by cases h
 |b::B,A,pt,pr,hp,hA,z,hz=>by
  have hp1:=bK.1 hp
  have hb:∀y∈B,b.Time<=y.Time:=(List.pairwise_cons.1 hp1.2.1).1
  have c0:∀t:Int,t<=b.Time->(b::B).countP (λo=>decide (o.Time<t))=0:=λt ht=>List.countP_eq_zero.2 λy hy=>by
   rcases bB.1 hy with rfl|hy
   ·simp;omega
   ·have:=hb y hy;simp;omega
  rw[rkF] at hz
  generalize hr:(if decide (0<(A.length:Int)) && decide (b.Time=pt) then pr else(A.length:Int)+1)=r at hz
  have hrv:r=1+((A++b::B).countP λo=>decide (o.Time<b.Time):Nat):=by
   rw[List.countP_append,c0 _ (Int.le_refl _),Nat.add_zero,←hr];rcases hA with rfl|⟨⟨A',q,rfl,hq⟩,hpr⟩
   ·simp
   ·have hlA:(0:Int)<((A'++[q]).length:Int):=by rw[aU,aX];omega
    by_cases hbt:b.Time=pt
    ·rw[aQ (by simp only[hbt,aJ,Bool.and_true];exact aH hlA),hpr,hbt]
    ·rw[aP (by simp[hbt])];have hq2:q.Time<=b.Time:=hp1.2.2 q aB b aN;have hall:(A'++[q]).countP (λo=>decide (o.Time<b.Time))=(A'++[q]).length:=List.countP_eq_length.2 λy hy=>by
      have hy2:y.Time<=q.Time:=by
       rcases bC.1 hy with hy|hy
       ·exact(bK.1 hp1.1).2.2 y hy q aB
       ·obtain rfl:=bA.1 hy;omega
      exact aH aA
     rw[hall];omega
  rcases bB.1 hz with rfl|hz
  ·exact hrv
  ·have e:A++b::B=(A++[b])++B:=by simp
   have:=Aeb B (A++[b]) b.Time r (by rw[←e];exact hp) (.inr ⟨⟨A,b,rfl,rfl⟩,by
    rw[hrv,e,List.countP_append];have c1:B.countP (λo=>decide (o.Time<b.Time))=0:=List.countP_eq_zero.2 λy hy=>by have:=hb y hy;simp;omega
    rw[c1,Nat.add_zero]⟩) z (by rw[aU,aX];exact hz)
   rw[e];exact this
def gdS(race:ByteArray)(F:List An)(d:An):Bool:=decide (0<(svS race F d).Time) && decide ((svS race F d).Fault=0)
def Tu(race:ByteArray)(F:List An)(d:An):Int:=if gdS race F d then 1+((Oy race F).countP λo=>gdS race F o && decide ((svS race F o).Time<(svS race F d).Time):Nat) else 0
theorem Alu{F:List An}(h:FM F){race:ByteArray}{d:An}(hd:d∈Oy race F):isG (YK race F) (Fi.mk d.Who (svS race F d).Time)=gdS race F d:=by
 unfold isG gdS;rw[Agd h hd,Bool.and_comm]
theorem CX{F:List An}(h:FM F){race:ByteArray}{y:Fj}(hy:y∈Zz race F):∃d∈Oy race F,y=Fj.mk d.Who (Tu race F d) (svS race F d).Time (svS race F d).Fault:=by
 have hmk:∀s∈Xu race F (Oy race F),∃d∈Oy race F,s=Fi.mk d.Who (svS race F d).Time:=λs hs=>by
  unfold Xu at hs;obtain⟨d,hd,rfl⟩:=bD.1 hs;exact⟨d,hd,rfl⟩
 unfold Zz RT at hy;rcases bC.1 hy with hy|hy
 ·obtain⟨x,hx,e1,e2,e3⟩:=Afz _ _ _ _ _ hy;rw[JN] at hx;obtain⟨s,hs,rfl⟩:=bD.1 hx;obtain⟨hs1,hs2⟩:=List.mem_filter.1 hs;obtain⟨d,hd,rfl⟩:=hmk s hs1;have hg:gdS race F d=true:=by rw[←Alu h hd];exact hs2
  have hup:=Ain (Aop race F);have hc:=Aeb _ [] 0 0 (by rw[aZ];exact hup.imp λ{a b} hab=>by have:=RQ.1 hab;omega) (.inl rfl) y hy;refine⟨d,hd,?_⟩;have e2':y.Time=(svS race F d).Time:=e2;have hcnt:(Si UE (((Xu race F (Oy race F)).filter (isG (YK race F))).map (mkR (YK race F)))).countP (λo=>decide (o.Time<y.Time))=(Oy race F).countP λo=>gdS race F o && decide ((svS race F o).Time<(svS race F d).Time):=by
   rw[(TZ _ _).countP_eq,List.countP_map,List.countP_filter,e2'];unfold Xu;rw[List.countP_map];apply List.countP_congr;intro o ho;have ho':=Alu h ho;simp only[Function.comp_apply,mkR,ho',bQ];exact And.comm
  have hrank:y.Rank=Tu race F d:=by
   unfold Tu;rw[aQ hg,hc,aZ,hcnt]
  have hfl:y.Fault=(svS race F d).Fault:=by rw[e3];exact Agd h hd
  cases y
  simp only[Fj.mk.injEq];exact⟨e1,hrank,e2,hfl⟩
 ·obtain⟨s,hs,rfl⟩:=bD.1 hy;obtain⟨hs1,hs2⟩:=List.mem_filter.1 hs;obtain⟨d,hd,rfl⟩:=hmk s hs1;refine⟨d,hd,?_⟩;have hg:gdS race F d=false:=by rw[←Alu h hd];simpa using hs2
  unfold mkR Tu;rw[hg,Agd h hd];rfl
theorem Aoq{F:List An}(h:FM F){race:ByteArray}{d:An}(hd:d∈Oy race F):Fj.mk d.Who (Tu race F d) (svS race F d).Time (svS race F d).Fault∈Zz race F:=by
 have hm:d.Who∈(Zz race F).map (·.Who):=(OC race F).mem_iff.2 (bJ hd);obtain⟨y,hy,e⟩:=bD.1 hm;obtain⟨d',hd',rfl⟩:=CX h hy;have e':d'.Who=d.Who:=e;have:d'=d:=Alq (JK race F) hd' hd e';rw[←this];exact hy
theorem MA{F:List An}(h:FM F)(race:ByteArray)(d:An):0<=Tu race F d/\Tu race F d<=13:=by
 have:=h.few race;have:=List.countP_le_length (p:=λo=>gdS race F o && decide ((svS race F o).Time<(svS race F d).Time)) (l:=Oy race F);unfold Tu
 split<;>omega
def MH(z:Fo)(r:Int):Fo:=Fo.mk r z.Who z.Club z.Time z.Fault z.Points
def ktL(z:Fo):Int×Int:=(z.Time,z.Fault)
def qtL(t:Int)(a:Int×Int):Bool:=(decide (0<a.1) && decide (a.2=0)) && decide (a.1<t)
theorem Abl(X:List Fo)(i:Nat)(z:Fo)(h:X[i]? =some z)(r:Int):(X.set i (MH z r)).map ktL=X.map ktL:=by
 rw[List.map_set];have:ktL (MH z r)=(X.map ktL)[i]'(by rw[aV];exact(List.getElem?_eq_some_iff.1 h).1):=by
  rw[List.getElem_map];obtain⟨hi,e⟩:=List.getElem?_eq_some_iff.1 h;rw[e];rfl
 rw[this,List.set_getElem_self]
theorem nthL{X:List Fo}{i:Nat}{z:Fo}(h:X[i]? =some z):nth X (i:Int)=z:=by unfold nth;simp[List.getD,h]
theorem Abm(X0:List Fo)(i2:Nat)(t:Int)(ht:(nth X0 (i2:Int)).Time=t)(j:List Fo->Option (List Fo))(K:List (Int×Int))(hK:K.length<=1000):∀(ys:List Fo) (i3:Nat) (X:List Fo) (z:Fo),X.map ktL=K->X[i2]? =some z->i3+ys.length=K.length->0<=z.Rank->z.Rank+ys.length<=1000000->
 Pk X0 i2 j ys i3 X=j (X.set i2 (MH z (z.Rank+((K.drop i3).countP (qtL t):Nat))))
 |[],i3,X,z,hX,hz,hi,_,_=>by
  obtain⟨hb,e⟩:=List.getElem?_eq_some_iff.1 hz
  rw[Pk,List.drop_of_length_le (by simp at hi;omega)]
  have:MH z (z.Rank+(([]:List (Int×Int)).countP (qtL t):Nat))=X[i2]:=by rw[e];simp[MH]
  rw[this,List.set_getElem_self]
 |y::ys,i3,X,z,hX,hz,hi,h0,h1=>by
  simp only[aT] at hi h1
  have hXl:X.length=K.length:=by rw[←hX,aV]
  have hi3:i3<K.length:=by omega
  obtain⟨hb,e⟩:=List.getElem?_eq_some_iff.1 hz
  obtain⟨o,ho⟩:∃o,X[i3]? =some o:=⟨X[i3]'(by omega),List.getElem?_eq_getElem aA⟩
  have hko:K[i3]=ktL o:=by
   have:(X.map ktL)[i3]? =some (ktL o):=by rw[List.getElem?_map,ho];rfl
   rw[hX,List.getElem?_eq_getElem hi3] at this;exact bH this
  have hd:K.drop i3=ktL o::K.drop (i3+1):=by rw[List.drop_eq_getElem_cons hi3,hko]
  have hq:qtL t (ktL o)=(Gp o && decide (o.Time<t)):=rfl;rw[Pk];simp only[Ga];rw[Fm (Fy.2 aA),nthL ho,ht,hd,List.countP_cons,hq];have hz2:∀r,(X.set i2 (MH z r))[i2]? =some (MH z r):=λr=>by rw[List.getElem?_set_self aA]
  have hss:∀r r',(X.set i2 (MH z r)).set i2 (MH (MH z r) r')=X.set i2 (MH z r'):=λr r'=>by rw[List.set_set];rfl
  by_cases hc:(Gp o && decide (o.Time<t))=true
  ·have hw:W (z.Rank+1)=z.Rank+1:=Hl aA aA;rw[aQ hc,Fm (Fy.2 aA),Fm (Fy.2 aA),nthL hz,hw];have ih:=Abm X0 i2 t ht j K hK ys (i3+1) (X.set i2 (MH z (z.Rank+1))) (MH z (z.Rank+1)) (by rw[Abl X i2 z hz,hX]) (hz2 _) aA (by show 0<=z.Rank+1;omega) (by show z.Rank+1+_<=_;omega);rw[hss] at ih;have he:(MH z (z.Rank+1)).Rank=z.Rank+1:=rfl;rw[he] at ih;rw[aQ hc,show ((List.countP (qtL t) (List.drop (i3+1) K)+1:Nat):Int)=1+(List.countP (qtL t) (List.drop (i3+1) K):Nat) by omega,←Int.add_assoc];exact ih
  ·rw[aP hc,aP hc];exact Abm X0 i2 t ht j K hK ys (i3+1) X z hX hz aA h0 aA
def rkL(K:List (Int×Int))(x:Fo):Fo:=if Gp x then MH x (1+(K.countP (qtL x.Time):Nat)) else x
theorem rkL_kt(K:List (Int×Int))(x:Fo):ktL (rkL K x)=ktL x:=by unfold rkL;split<;>rfl
theorem Aiz(K:List (Int×Int))(hK:K.length<=1000)(j:List Fo->Option (List Fo)):∀(B A ys:List Fo),ys.length=B.length->(A++B).map ktL=K->Nf j ys A.length (A.map (rkL K)++B)=j ((A++B).map (rkL K))
 |[],A,ys,h,_=>by
  obtain rfl:ys=[]:=List.length_eq_zero_iff.1 h
  rw[Nf];simp
 |b::B,A,[],h,_=>by simp at h
 |b::B,A,y::ys,h,hX=>by
  simp only[aT,Nat.add_right_cancel_iff] at h
  have hKl:K.length=A.length+(B.length+1):=by rw[←hX];simp
  have hg:(A.map (rkL K)++b::B)[A.length]? =some b:=by rw[List.getElem?_append_right aB];simp
  have hl:(A.map (rkL K)++b::B).length=A.length+(B.length+1):=by simp
  have hkt:(A.map (rkL K)++b::B).map ktL=K:=by
   have hA:(A.map (rkL K)).map ktL=A.map ktL:=by
    rw[List.map_map];exact List.map_congr_left λx _=>rkL_kt K x
   rw[List.map_append,hA,←List.map_append,hX]
  have e1:A++b::B=(A++[b])++B:=by simp
  have ih:=Aiz K hK j B (A++[b]) ys h (by rw[←e1];exact hX);rw[aU,aX,←e1] at ih;have es:∀u,(A.map (rkL K)++b::B).set A.length u=A.map (rkL K)++u::B:=λu=>by
   rw[List.set_append_right _ _ aB];simp
  rw[Nf];simp only[Ga];rw[Fm (Fy.2 (by rw[hl];omega)),nthL hg]
  by_cases hc:Gp b=true
  ·rw[aP (by rw[hc];simp),Fm (Fy.2 (by rw[hl];omega)),bI];have h3:=Abm (A.map (rkL K)++b::B) A.length b.Time (by rw[nthL hg]) (λx6=>Nf j ys (A.length+1) x6) K hK ((A.map (rkL K)++b::B).set A.length (MH b 1)) 0 ((A.map (rkL K)++b::B).set A.length (MH b 1)) (MH b 1) (by rw[Abl _ _ _ hg,hkt]) (by rw[List.getElem?_set_self (by rw[hl];omega)]) (by rw[List.length_set,hl];omega) (by show (0:Int)<=1;omega) (by rw[List.length_set,hl];show (1:Int)+_<=_;omega);refine Eq.trans h3 ?_;rw[←ih,List.drop_zero,List.set_set,es,List.map_append];have:rkL K b=MH (MH b 1) ((MH b 1).Rank+(K.countP (qtL b.Time):Nat)):=by unfold rkL;rw[aQ hc];rfl
   rw[←this];simp
  ·rw[aQ (by simpa using hc),←ih,List.map_append];have:rkL K b=b:=by unfold rkL;rw[aP hc]
   simp[this]
def ltLn(x y:Fo):Bool:=decide (Uy x y<0)
theorem Aqw(l:List Fo)(hl:l.length<=19):Ho l=some (Si ltLn l):=by
 have hs:Gw l 0 (l.length:Int)=some (Si ltLn l):=by
  unfold Gw;simp only[Ga];have hins:∀(k:List Fo->Option (List Fo)) (rp:List Fo) (x:Fo) (post:List Fo),((rp++x::post).length:Int)=(l.length:Int)->(∀y,y∈rp\/y=x\/y∈post->y∈(rp++x::post))->
   Gi 0 k (((rp.length:Int)-0).toNat+2) (rp.reverse++x::post) (rp.length:Int)=k ((AX ltLn x rp).reverse++post):=by
   intro k rp x post h1 _;exact Adk (λx y k=>k (ltLn x y)) ltLn k (Gi 0 k) (λ_ _ _=>rfl) rp x post _ aA (by simp at h1;omega) λy _ k'=>rfl
  cases l with
  |nil=>rfl
  |cons x l=>
   have hw:W (0+1)=(([x]:List Fo).length:Int):=rfl;rw[hw];exact SJ ltLn (λx=>some x) (λk x i=>Gi 0 k ((i-0).toNat+2) x i) (Hi ((x::l).length:Int) 0 λx=>some x) ((x::l).length:Int) (λ_ _ _=>rfl)
    (λk rp x post h1 h2=>hins k rp x post h1 h2) l [x] _ (by simp only[aT,aW];omega) (by simp only[aT,aW];omega) (by simp only[aT,aW] at hl ⊢;omega)
 unfold Ho Kc;simp only[Ga];rw[Ig,aP aD,hs];simp only[aG];rw[Ih,aP aD];rfl
theorem signN(n:Int):(Rf n<0)↔n<0:=by
 unfold Rf
 by_cases h1:n<0
 ·simp[h1]
 ·by_cases h2:0<n<;>simp[h1,h2]
def lrP(x y:Fo):Prop:=(Gp x=true/\Gp y=false)\/(Gp x=Gp y/\x.Rank<y.Rank)
theorem ltLn_iff{x y:Fo}(hx:0<=x.Rank/\x.Rank<=13)(hy:0<=y.Rank/\y.Rank<=13):ltLn x y=true↔lrP x y:=by
 unfold ltLn lrP Uy;rw[aK]
 cases h1:Gp x<;>cases h2:Gp y
 ·simp only[aJ,bN,aO,aR,signN,Hl (show -9223372036854775808<=x.Rank-y.Rank by omega) aA];simp;omega
 ·simp
 ·simp
 ·simp only[aJ,bN,aO,aR,signN,Hl (show -9223372036854775808<=x.Rank-y.Rank by omega) aA];simp;omega
def ltLW(x y:Fo):Bool:=decide ((decide (x.Rank=0)=false/\y.Rank=0)\/(decide (x.Rank=0)=decide (y.Rank=0)/\(x.Rank<y.Rank\/(x.Rank=y.Rank/\cB x.Who y.Who<0))))
theorem OD{x y:Fo}:ltLW x y=true↔(x.Rank≠0/\y.Rank=0)\/((x.Rank=0↔y.Rank=0)/\(x.Rank<y.Rank\/(x.Rank=y.Rank/\cB x.Who y.Who<0))):=by
 unfold ltLW;rw[aK]
 by_cases h1:x.Rank=0<;>by_cases h2:y.Rank=0<;>simp[h1,h2]
theorem ltLW_irr(x:Fo):ltLW x x=false:=by
 rw[←Bool.not_eq_true,OD,Ut];omega
theorem Alv(x y z:Fo)(h1:ltLW x y=true)(h2:ltLW y z=true):ltLW x z=true:=by
 rw[OD] at*;rcases h1 with ⟨a1,a2⟩|⟨a1,a2|⟨a2,a3⟩⟩<;>rcases h2 with ⟨b1,b2⟩|⟨b1,b2|⟨b2,b3⟩⟩
 all_goals first
  |omega
  |(refine .inl ⟨by omega,by omega⟩)
  |(refine .inr ⟨by omega,.inl aA⟩)
  |(exact .inr ⟨by omega,.inr ⟨by omega,AY a3 b3⟩⟩)
def toL(C:List (ByteArray×ByteArray))(y:Fj):Fo:=Fo.mk y.Rank y.Who (Gm C y.Who Ff) y.Time y.Fault (Fh.mk 0 1)
def linS(race:ByteArray)(F:List An):List Fo:=(Zz race F).map (toL (Xr (Oy race F) []))
def outS(race:ByteArray)(F:List An)(d:An):Fo:=Fo.mk 0 d.Who d.Club (svS race F d).Time (svS race F d).Fault (Fh.mk 0 1)
theorem XF(l:List An)(race:ByteArray)(at_:Int)(hf:OB l)(hs:l.Pairwise λx y=>x.At<=y.At)(j:List Fo->Option (List Fo)):∀(ys:List An) (i:Nat) (x:List Fo),x.length+ys.length<=10000->
 Pj l race at_ j ys i x=j (x++(ys.filter (QF race (Gj l at_))).map (outS race (Gj l at_)))
 |[],i,x,_=>by simp[Pj]
 |y::ys,i,x,h=>by
  simp only[aT] at h
  rw[Pj]
  simp only[Ga]
  rw[Aix l race y at_ hf hs]
  simp only[aG]
  cases hh:QF race (Gj l at_) y with
  |true=>
   rw[aQ rfl,Fm (by unfold Ja;exact aH aA),XF l race at_ hf hs j ys (i+1) _ aD,bR hh,aY]
   simp[outS]
  |false=>
   rw[aP aB,XF l race at_ hf hs j ys (i+1) x aA,bS (by rw[hh];simp)]
theorem Aqx{p:Ge}{l:List An}{race:ByteArray}{at_:Int}(hf:OB l)(hs:l.Pairwise λx y=>x.At<=y.At)(h:FM (Gj l at_)):Ym p l race at_=some (linS race (Gj l at_)):=by
 have hFl:=h.len;have hel:=KU race (Gj l at_);have hml:=HY race (Gj l at_);have hfew:=h.few race;unfold Ym;rw[CI l race at_ hf hs];simp only[aG,Ga];rw[XF l race at_ hf hs _ _ 0 [] aD,aZ];generalize hF:Gj l at_=F at*;have hout:((Zw race F).filter (QF race F)).map (outS race F)=(Oy race F).map (outS race F):=rfl;rw[hout];generalize hO:(Oy race F).map (outS race F)=O;have hOl:O.length<=12:=by rw[←hO,aV];exact hfew
 have hl2:=Aiz (O.map ktL) (by rw[aV];omega) (λx4=>Option.bind (Ho x4) λr3=>some r3) O [] O rfl rfl;rw[aW,List.map_nil,aZ] at hl2;rw[hl2,Aqw _ (by rw[aV];omega)];simp only[aG]
 congr 1
 have hmem:∀x∈O.map (rkL (O.map ktL)),∃d∈Oy race F,x=Fo.mk (Tu race F d) d.Who d.Club (svS race F d).Time (svS race F d).Fault (Fh.mk 0 1):=by
  intro x hx;obtain⟨o,ho,rfl⟩:=bD.1 hx;rw[←hO] at ho;obtain⟨d,hd,rfl⟩:=bD.1 ho;exact⟨d,hd,rk_out hO d⟩
 have hmem2:∀d∈Oy race F,Fo.mk (Tu race F d) d.Who d.Club (svS race F d).Time (svS race F d).Fault (Fh.mk 0 1)∈O.map (rkL (O.map ktL)):=by
  intro d hd;rw[←rk_out (O:=O) hO d];exact bJ (by rw[←hO];exact bJ hd)
 have hgr:∀d∈Oy race F,∀c q,Gp (Fo.mk (Tu race F d) d.Who c (svS race F d).Time (svS race F d).Fault q)= !decide (Tu race F d=0):=by
  intro d _ c q;have e:Gp (Fo.mk (Tu race F d) d.Who c (svS race F d).Time (svS race F d).Fault q)=gdS race F d:=rfl;rw[e];unfold Tu
  cases gdS race F d with
  |true=>simp only[aS];simp;omega
  |false=>simp
 have hwho:(O.map (rkL (O.map ktL))).Pairwise λa b=>cB a.Who b.Who<0:=by
  rw[List.pairwise_map,←hO,List.pairwise_map];refine(SN race F).imp λ{a b} hab=>?_;have:∀(K:List (Int×Int)) (d:An),(rkL K (outS race F d)).Who=d.Who:=λK d=>by unfold rkL;split<;>rfl
  rw[this,this];exact hab
 have hpair:Si ltLn (O.map (rkL (O.map ktL)))=Si ltLW (O.map (rkL (O.map ktL))):=Abf _ (List.Pairwise.imp_of_mem (λ{a b} ha hb hab=>by
  obtain⟨d,hd,rfl⟩:=hmem a ha;obtain⟨e,he,rfl⟩:=hmem b hb;have r1:=MA h race d;have r2:=MA h race e;rw[Bool.eq_iff_iff,ltLn_iff r2 r1,OD];unfold lrP;rw[hgr d hd,hgr e he];have hfl:=FR d.Who e.Who;have hab':cB d.Who e.Who<0:=hab;simp only
  by_cases z1:Tu race F d=0<;>by_cases z2:Tu race F e=0<;>simp only[z1,z2,aJ,decide_false,bN,Bool.not_false]<;>simp<;>omega) hwho)
 rw[hpair];refine RM ltLW_irr Alv _ _ (hwho.imp λ{a b} hab hb=>?_) ?_ λx=>⟨λhx=>?_,λhx=>?_⟩
 ·rw[←Bool.not_eq_true,OD] at hb;rw[OD];omega
 ·unfold linS;rw[List.pairwise_map];refine(Agb race F).imp λ{a b} hab=>?_;rw[OD];have e1:∀C y,(toL C y).Rank=y.Rank:=λ_ _=>rfl;have e2:∀C y,(toL C y).Who=y.Who:=λ_ _=>rfl;rw[e1,e1,e2,e2];rcases hab with ⟨h1,h2,h3,h4,h5,h6⟩|⟨h1,h2⟩|⟨h1,h2,h3⟩
  ·refine .inr ⟨by omega,?_⟩
   by_cases e:a.Rank=b.Rank
   ·exact .inr ⟨e,h6 (h5.1 e)⟩
   ·exact .inl aA
  ·exact .inl ⟨by omega,h2⟩
  ·exact .inr ⟨by omega,.inr ⟨by omega,h3⟩⟩
 ·obtain⟨d,hd,rfl⟩:=hmem x hx;refine bD.2 ⟨_,Aoq h hd,?_⟩;unfold toL;rw[OU _ [] d hd (JK race F)]
 ·obtain⟨y,hy,rfl⟩:=bD.1 hx;obtain⟨d,hd,rfl⟩:=CX h hy;have:toL (Xr (Oy race F) []) (Fj.mk d.Who (Tu race F d) (svS race F d).Time (svS race F d).Fault)=Fo.mk (Tu race F d) d.Who d.Club (svS race F d).Time (svS race F d).Fault (Fh.mk 0 1):=by
   unfold toL;rw[OU _ [] d hd (JK race F)]
  rw[this];exact hmem2 d hd
where
 rk_out {race:ByteArray} {F:List An} {O:List Fo} (hO:(Oy race F).map (outS race F)=O) (d:An):rkL (O.map ktL) (outS race F d)=Fo.mk (Tu race F d) d.Who d.Club (svS race F d).Time (svS race F d).Fault (Fh.mk 0 1):=by
  have e:Gp (outS race F d)=gdS race F d:=rfl;have hc:(O.map ktL).countP (qtL (outS race F d).Time)=(Oy race F).countP λo=>gdS race F o && decide ((svS race F o).Time<(svS race F d).Time):=by
   rw[←hO,List.map_map,List.countP_map];exact List.countP_congr λo _=>Iff.rfl
  unfold rkL Tu;rw[e,hc]
  cases gdS race F d<;>rfl
structure LG(l:List An):Prop where
 ok:DsG l
 names:∀d∈l,d.Who∈XC/\d.Club∈LZ
 len:l.length<=40
theorem idxR_l(key:ByteArray):∀(l:List Fp) (i:Nat),(l.map (·.Key)).Nodup->∀r∈l,r.Key=key->∃k:Nat,Hh key (-1) l i=((i+k:Nat):Int)/\l[k]? =some r
 |[],_,_,r,h,_=>by cases h
 |x::l,i,hn,r,h,hk=>by
  rw[Hh]
  unfold DP
  simp only[aY,bT] at hn
  by_cases hx:x.Key=key
  ·rw[aQ (aH hx)]
   rcases bB.1 h with rfl|h
   ·exact⟨0,by simp,rfl⟩
   ·exact absurd (bJ (f:=(·.Key)) h) (by rw[hk,←hx];exact hn.1)
  ·rw[aP (by simpa using hx)]
   rcases bB.1 h with rfl|h
   ·exact absurd hk hx
   ·obtain⟨k,e1,e2⟩:=idxR_l key l (i+1) hn.2 r h hk
    exact⟨k+1,by rw[e1];congr 1;omega,by simpa using e2⟩
theorem LG.of{x:List An}(h:DsG x)(hn:∀d∈x,NameD d)(hl:x.length<=40):LG x:=⟨h,λd hd=>⟨(hn d hd).who,(hn d hd).club⟩,hl⟩
def ltCl(x y:Fx):Bool:=decide (BZ x y<0)
theorem VZ(x y:Fx):ltCl x y=decide (cB x.Key y.Key<0):=rfl
theorem ltCl_irr(x:Fx):ltCl x x=false:=by rw[VZ,Ut];rfl
theorem Alw(x y z:Fx)(h1:ltCl x y=true)(h2:ltCl y z=true):ltCl x z=true:=by
 rw[VZ,aK] at*;exact AY h1 h2
theorem ltCl_tot{l:List Fx}(h:(l.map (·.Key)).Nodup):l.Pairwise λa b=>ltCl b a=false->ltCl a b=true:=by
 refine(List.pairwise_map.1 h).imp λ{a b} hne hb=>?_;rw[VZ,aL] at hb;rw[VZ,aK];have h0:cB a.Key b.Key≠0:=λe=>hne (JI e);have:=FR a.Key b.Key;omega
structure MF(m:List (ByteArray×Fh))(K:ByteArray->Prop)(u:ByteArray->Nat):Prop where
 nd:(m.map (·.1)).Nodup
 keys:∀k,k∈m.map (·.1)↔K k
 vals:∀k,K k->Gm m k (Fh.mk 0 0)=fr (u k)
theorem MF.put{m:List (ByteArray×Fh)}{K:ByteArray->Prop}{u:ByteArray->Nat}(h:MF m K u)(k:ByteArray)(v:Nat):MF (Iv m k (fr v)) (λz=>z=k\/K z) (λz=>if z=k then v else u z):=by
 obtain⟨a,b⟩:=YY k (fr v) m h.nd;refine⟨a,λz=>by rw[b z,h.keys z],λz hz=>?_⟩;rw[CW]
 by_cases e:z=k
 ·rw[aQ e,aQ e]
 ·rw[aP e,aP e];rcases hz with hz|hz
  ·exact(e hz).elim
  ·exact h.vals z hz
theorem MF.congr{m:List (ByteArray×Fh)}{K K':ByteArray->Prop}{u u':ByteArray->Nat}(h:MF m K u)(hk:∀k,K k↔K' k)(hu:∀k,K' k->u k=u' k):MF m K' u':=
 ⟨h.nd,λk=>(h.keys k).trans (hk k),λk hk'=>by rw[h.vals k ((hk k).2 hk'),hu k hk']⟩
theorem Aec{ν:Type}(k:ByteArray):∀(m:List (ByteArray×ν)) (i:Nat),(Oo m k i).isSome=true↔k∈m.map (·.1)
 |[],_=>by simp[Oo]
 |(q,u)::m,i=>by
  by_cases e:k=q
  ·simp[Oo,e]
  ·simp only[Oo,e,aR,aY,bB,false_or]
   exact Aec k m (i+1)
theorem Aja{ν:Type}(k:ByteArray)(m:List (ByteArray×ν)):(Tw m k).isSome=true↔k∈m.map (·.1):=by
 unfold Tw;rw[Option.isSome_map,Aec k m 0]
theorem Ajb(j:List Fx->Option (List Fx×Int)):∀(p:List (ByteArray×Fh)) (x:List Fx),x.length+p.length<=1000000->Zn j p x=j (x++p.map λe=>Fx.mk e.1 e.2)
 |[],x,_=>by simp[Zn]
 |y::p,x,h=>by
  simp only[aT] at h
  rw[Zn,Fm (by unfold Ja;exact aH aA)]
  simp only[aG]
  rw[Ajb j p (x++[Fx.mk y.1 y.2]) aD]
  simp
theorem Ajc{a b c:ByteArray}(h:a++b=a++c):b=c:=by
 have h1:=congrArg (λx=>x.data.toList) h;simp only[ByteArray.data_append,Array.toList_append] at h1;have h2:=List.append_cancel_left h1;obtain⟨⟨b⟩⟩:=b;obtain⟨⟨c⟩⟩:=c;simp only at h2;rw[h2]
theorem Ajd(G:List Fx)(k:ByteArray):∀(m:List (ByteArray×Fh)),(∀y∈G,y.Key≠k)->Tw (ofS G m) k=Tw m k:=by
 unfold ofS
 induction G with
 |nil=>intro m _;rfl
 |cons g G ih=>
  intro m h;rw[List.foldl_cons,ih _ λy hy=>h y (aM _ hy)];have e:Tw (Iv m g.Key g.Points) k=if k=g.Key then some g.Points else Tw m k:=NV g.Key k g.Points m 0;rw[e,aP λe=>h g aN e.symm]
theorem ofS_some(G:List Fx)(g:Fx)(hg:g∈G)(hn:(G.map (·.Key)).Nodup):∀(m:List (ByteArray×Fh)),Tw (ofS G m) g.Key=some g.Points:=by
 induction G with
 |nil=>cases hg
 |cons z G ih=>
  intro m;simp only[aY,bT] at hn;have e:ofS (z::G) m=ofS G (Iv m z.Key z.Points):=rfl;rw[e];rcases bB.1 hg with rfl|hg
  ·rw[Ajd G g.Key _ λy hy e=>hn.1 (by rw[←e];exact bJ hy)];have e:Tw (Iv m g.Key g.Points) g.Key=if g.Key=g.Key then some g.Points else Tw m g.Key:=NV g.Key g.Key g.Points m 0;rw[e,aQ rfl]
  ·exact ih hg hn.2 _
theorem Aje{x y:Fd}(hx:RR x)(hy:RR y):decide (Xb x y<0)=JJ x y:=by
 have hc:Ic x.Race y.Race=cB x.Race y.Race:=rfl;have hw:Ic x.Who y.Who=cB x.Who y.Who:=rfl;have hor:∀a b c:Int,Ss [a,b,c]=if a≠0 then a else if b≠0 then b else c:=λa b c=>by
  unfold Ss;simp only[Hg];rw[Nw,Nw,Nw,Nw]
  by_cases h1:a=0
  ·by_cases h2:b=0
   ·by_cases h3:c=0
    ·simp[h1,h2,h3]
    ·simp[h1,h2,h3]
   ·simp[h1,h2]
  ·simp[h1]
 have k1:=Afx hx;have k2:=Afx hy;have hk:Vy x.Rank y.Rank=kR x-kR y:=by
  unfold Vy;simp only[Hg];have e:kR x-kR y=W (kR x-kR y):=(Hl aA aA).symm;rw[e];unfold kR
  by_cases a:x.Rank=0
  ·by_cases b:y.Rank=0
   ·simp[a,b]
   ·simp[a,b]
  ·by_cases b:y.Rank=0
   ·simp[a,b]
   ·simp[a,b]
 unfold Xb JJ;rw[hc,hw,hk,hor,decide_eq_decide]
 by_cases e:x.Race=y.Race
 ·rw[e,Ut]
  by_cases k:kR x=kR y
  ·simp[k]
  ·simp only[ne_eq,not_true_eq_false,aR];rw[aQ aA];simp[k];omega
 ·have:cB x.Race y.Race≠0:=λh=>e (JI h);rw[aQ this];simp[e]
theorem ge_lex{x y:Fd}(hx:RR x)(hy:RR y):decide (0<=Xb x y)= !JJ x y/\decide (0<=Ng x y)= !JJ x y:=by
 rw[←Aje hx hy];refine⟨?_,?_⟩
 ·rw[←decide_not,decide_eq_decide];omega
 ·rw[Aje hx hy,←Aqr hx hy,←decide_not,decide_eq_decide];omega
theorem Aor(l:List Fd)(hl:l.length<=1000):∀(ys dn:List Fd),l=dn++ys->(∀x∈dn,RR x)->dn.Pairwise (λx y=>JJ x y=true)->
 (∃e,e≠0/\∀j,Hc l j ys dn.length=some e/\Gc l j ys dn.length=some e)\/
 (l.Pairwise (λx y=>JJ x y=true)/\(∀x∈l,RR x)/\∀j,Hc l j ys dn.length=j/\Gc l j ys dn.length=j)
 |[],dn,h,h1,h2=>by
  rw[List.append_nil] at h;subst h
  exact .inr ⟨h2,h1,λj=>⟨rfl,rfl⟩⟩
 |y::ys,dn,h,h1,h2=>by
  obtain⟨b1,p1,q1⟩:=We y.Race
  obtain⟨b2,p2,q2⟩:=We y.Who
  obtain⟨b3,p3,q3⟩:=We y.Club
  have five:∀j,b1=false\/b2=false\/(y.Club≠Ff/\b3=false)->Hc l j (y::ys) dn.length=some 5/\Gc l j (y::ys) dn.length=some 5:=by
   intro j hb;rw[Hc,Gc,p1,q1,p2,q2,p3,q3];simp only[aG,Hg];rcases hb with rfl|rfl|⟨hc,rfl⟩
   ·simp
   ·cases b1<;>simp
   ·cases b1<;>cases b2<;>simp[hc]
  by_cases g1:b1=false
  ·exact .inl ⟨5,by decide,λj=>five j (.inl g1)⟩
  by_cases g2:b2=false
  ·exact .inl ⟨5,by decide,λj=>five j (.inr (.inl g2))⟩
  by_cases g3:y.Club≠Ff/\b3=false
  ·exact .inl ⟨5,by decide,λj=>five j (.inr (.inr g3))⟩
  have e1:b1=true:=by simpa using g1
  have e2:b2=true:=by simpa using g2
  have step:∀j,Hc l j (y::ys) dn.length=(if !(Fv y.Rank 0 300) then some 1 else if decide (0<(dn.length:Int)) then Chk (inB (W ((dn.length:Int)-1)) l.length) (if decide (0<=(Xb (nth l (W ((dn.length:Int)-1))) y)) then some 7 else Hc l j ys (dn.length+1)) else Hc l j ys (dn.length+1))/\
   Gc l j (y::ys) dn.length=(if !(Fv y.Rank 0 300) then some 1 else if decide (0<(dn.length:Int)) then Chk (inB (W ((dn.length:Int)-1)) l.length) (if decide (0<=(Ng (nth l (W ((dn.length:Int)-1))) y)) then some 7 else Gc l j ys (dn.length+1)) else Gc l j ys (dn.length+1)):=by
   intro j;have hw:Ik=Fv:=rfl;rw[Hc,Gc,p1,q1,p2,q2,p3,q3,hw,e1,e2];simp only[aG,Hg]
   by_cases hc:y.Club=Ff
   ·simp[hc]
   ·have:b3=true:=by
     cases b3 with
     |true=>rfl
     |false=>exact(g3 ⟨hc,rfl⟩).elim
    simp[hc,this]
  by_cases hr:Fv y.Rank 0 300=true
  ·have hry:RR y:=by
    unfold Fv at hr;simp only[bQ,aK] at hr;exact hr
   have next:dn.Pairwise (λx y=>JJ x y=true)->(∀x∈dn,JJ x y=true)->∀(_:∀j,Hc l j (y::ys) dn.length=Hc l j ys (dn.length+1)/\Gc l j (y::ys) dn.length=Gc l j ys (dn.length+1)),
    (∃e,e≠0/\∀j,Hc l j (y::ys) dn.length=some e/\Gc l j (y::ys) dn.length=some e)\/
    (l.Pairwise (λx y=>JJ x y=true)/\(∀x∈l,RR x)/\∀j,Hc l j (y::ys) dn.length=j/\Gc l j (y::ys) dn.length=j):=by
    intro k1 k2 k3;have ih:=Aor l hl ys (dn++[y]) (by rw[h];simp) (λx hx=>by
     rcases bC.1 hx with hx|hx
     ·exact h1 x hx
     ·obtain rfl:=bA.1 hx;exact hry) (by
     rw[bK];exact⟨k1,by simp,λx hx z hz=>by obtain rfl:=bA.1 hz;exact k2 x hx⟩)
    rw[aU,aX] at ih;simp only[λj=>(k3 j).1,λj=>(k3 j).2];exact ih
   rcases List.eq_nil_or_concat dn with rfl|⟨d,x,rfl⟩
   ·refine next h2 (λx hx=>by cases hx) (λj=>?_);have s:=step j;rw[hr] at s;simpa using s
   ·simp only[List.concat_eq_append] at*;have hlen:((d++[x]).length:Int)=(d.length:Int)+1:=by simp
    have hdl:d.length<=1000:=by rw[h] at hl;simp at hl;omega
    have hw:W (((d++[x]).length:Int)-1)=(d.length:Int):=by
     rw[hlen,show (d.length:Int)+1-1=(d.length:Int) by omega,Hl aA aA]
    have hn:nth l (d.length:Int)=x:=by unfold nth;rw[h];simp
    have hin:inB (d.length:Int) l.length=true:=by rw[Fy,h];simp;omega
    have hpos:decide (0<((d++[x]).length:Int))=true:=by rw[hlen];simp
    have hrx:RR x:=h1 x aB;obtain⟨c1,c2⟩:=ge_lex hrx hry;rw[hw,hn,hpos,hr,c1,c2] at step;simp only[bN,aO,aR,aS,Fm hin] at step
    cases hlx:JJ x y with
    |false=>
     rw[hlx] at step;exact .inl ⟨7,by decide,λj=>by simpa using step j⟩
    |true=>
     rw[hlx] at step;refine next h2 (λz hz=>?_) (λj=>by simpa using step j);rcases bC.1 hz with hz|hz
     ·rw[bK] at h2;exact Alo z x y (h2.2.2 z hz x aB) hlx
     ·obtain rfl:=bA.1 hz;exact hlx
  ·refine .inl ⟨1,by decide,λj=>?_⟩;have s:=step j;simp only[Bool.not_eq_true] at hr;rw[hr] at s;simpa using s
theorem groups:∀(l:List Fd),l.Pairwise (λx y=>JJ x y=true)->∃Gs:List (List Fd),l=Gs.flatten/\(∀g∈Gs,One g)/\Gs.Pairwise (λg g'=>∀x∈g,∀y∈g',x.Race≠y.Race)
 |[],_=>⟨[],rfl,(λ_ h=>by cases h),List.Pairwise.nil⟩
 |x::r,h=>by
  obtain⟨hx,hr⟩:=List.pairwise_cons.1 h
  obtain⟨Gs,e,h1,h2⟩:=groups r hr
  cases Gs with
  |nil=>exact⟨[[x]],by rw[e];rfl,λg hg=>by
   obtain rfl:=bA.1 hg
   exact⟨by simp,λa ha b hb=>by obtain rfl:=bA.1 ha;obtain rfl:=bA.1 hb;rfl⟩,by simp⟩
  |cons g Gs=>
   obtain⟨k1,k2⟩:=List.pairwise_cons.1 h2
   have hg:=h1 g aN
   obtain⟨z,g',rfl⟩:∃z g',g=z::g':=by
    cases g with
    |nil=>exact(hg.1 rfl).elim
    |cons z g'=>exact⟨z,g',rfl⟩
   by_cases hz:x.Race=z.Race
   ·refine⟨(x::z::g')::Gs,by rw[e];rfl,λq hq=>?_,List.pairwise_cons.2 ⟨λq hq a ha b hb=>?_,k2⟩⟩
    ·rcases bB.1 hq with rfl|hq
     ·refine⟨by simp,λa ha b hb=>?_⟩;have all:∀c∈x::z::g',c.Race=z.Race:=λc hc=>by
       rcases bB.1 hc with rfl|hc
       ·exact hz
       ·exact hg.2 c hc z aB
      rw[all a ha,all b hb]
     ·exact h1 q (aM _ hq)
    ·rcases bB.1 ha with rfl|ha
     ·rw[hz];exact k1 q hq z aB b hb
     ·exact k1 q hq a ha b hb
   ·have lt:∀b∈r,cB x.Race b.Race<0:=λb hb=>by
     have hzr:z∈r:=by rw[e];simp
     have xz:cB x.Race z.Race<0:=by
      rcases NY.1 (hx z hzr) with h|⟨h,_⟩
      ·exact h
      ·exact(hz h).elim
     rw[e] at hr hb;rw[List.flatten_cons,List.cons_append] at hr hb;rcases bB.1 hb with rfl|hb
     ·exact xz
     ·rcases NY.1 ((List.pairwise_cons.1 hr).1 b hb) with h|⟨h,_⟩
      ·exact AY xz h
      ·rw[←h];exact xz
    refine⟨[x]::(z::g')::Gs,by rw[e];rfl,λq hq=>?_,List.pairwise_cons.2 ⟨λq hq a ha b hb=>?_,h2⟩⟩
    ·rcases bB.1 hq with rfl|hq
     ·exact⟨by simp,λa ha b hb=>by obtain rfl:=bA.1 ha;obtain rfl:=bA.1 hb;rfl⟩
     ·exact h1 q hq
    ·obtain rfl:=bA.1 ha;have:b∈r:=by rw[e];exact List.mem_flatten.2 ⟨q,hq,hb⟩
     have h3:=lt b this;intro e';rw[e',Ut] at h3;omega
def AP(l:List Fd)(y:Fd):Nat:=l.countP λo=>decide (o.Race=y.Race) && (decide (0<o.Rank) && decide (o.Rank<y.Rank))
def QB(l:List Fd)(y:Fd):Nat:=l.countP λo=>decide (o.Race=y.Race) && decide (o.Rank=y.Rank)
def Tc(l:List Fd)(y:Fd):Bool:=decide (0<y.Rank) && !decide (y.Rank=(AP l y:Int)+1)
def FU(l:List Fd)(y:Fd):Bool:=decide (0<y.Rank) && decide (10<(QB l y:Int))
def UG(l:List Fd)(y:Fd):Bool:=l.any λo=>decide (o.Race=y.Race) && !decide (o.Relay=y.Relay)
def twI(y:Fd)(i:Nat):List Fd->Nat->Bool
 |[],_=>false
 |o::os,k=>(decide (o.Race=y.Race) && (!decide ((k:Int)=(i:Int)) && decide (o.Who=y.Who)))||twI y i os (k+1)
def twR(l:List Fd):List Fd->Nat->Bool
 |[],_=>false
 |y::ys,i=>twI y i l 0||twR l ys (i+1)
theorem Alx(y:Fd)(i:Nat)(j:Bool->Bool->Int->Int->Option Int):∀(ys:List Fd) (k:Nat) (x6 x7:Bool) (x8 x9:Int),0<=x8->x8+ys.length<=10000->0<=x9->x9+ys.length<=10000->
 Ly y i j ys k x6 x7 x8 x9=j (x6||twI y i ys k) (x7||UG ys y) (x8+AP ys y) (x9+QB ys y)
 |[],k,x6,x7,x8,x9,_,_,_,_=>by simp[Ly,twI,UG,AP,QB]
 |o::ys,k,x6,x7,x8,x9,h1,h2,h3,h4=>by
  simp only[aT] at h2 h4
  rw[Ly]
  simp only[Hg]
  by_cases hr:o.Race=y.Race
  ·rw[aP (by simp[hr])]
   have go:∀(u v:Int),u=x8+(if(decide (0<o.Rank) && decide (o.Rank<y.Rank))=true then 1 else 0)->v=x9+(if decide (o.Rank=y.Rank)=true then 1 else 0)->
    Ly y i j ys (k+1) (x6||((!decide ((k:Int)=(i:Int))) && (decide (o.Who=y.Who)))) (x7||(!decide (o.Relay=y.Relay))) u v=j (x6||twI y i (o::ys) k) (x7||UG (o::ys) y) (x8+AP (o::ys) y) (x9+QB (o::ys) y):=by
    intro u v hu hv;rw[Alx y i j ys (k+1) _ _ u v (by split at hu<;>omega) (by split at hu<;>omega) (by split at hv<;>omega) (by split at hv<;>omega)];have t1:twI y i (o::ys) k=(((!decide ((k:Int)=(i:Int))) && (decide (o.Who=y.Who)))||twI y i ys (k+1)):=by rw[twI,hr];simp
    have t2:UG (o::ys) y=((!decide (o.Relay=y.Relay))||UG ys y):=by unfold UG;rw[List.any_cons,hr];simp
    have t3:(AP (o::ys) y:Int)=(AP ys y:Int)+(if(decide (0<o.Rank) && decide (o.Rank<y.Rank))=true then 1 else 0):=by
     unfold AP;rw[List.countP_cons,hr];simp only[aJ,bO]
     split<;>simp
    have t4:(QB (o::ys) y:Int)=(QB ys y:Int)+(if decide (o.Rank=y.Rank)=true then 1 else 0):=by
     unfold QB;rw[List.countP_cons,hr];simp only[aJ,bO]
     split<;>simp
    rw[t1,t2,t3,t4,hu,hv,Bool.or_assoc,Bool.or_assoc]
    congr 1<;>omega
   by_cases c1:(decide (0<o.Rank) && decide (o.Rank<y.Rank))=true
   ·rw[aQ c1,Hl (n:=x8+1) aA aA]
    by_cases c2:decide (o.Rank=y.Rank)=true
    ·rw[aQ c2,Hl (n:=x9+1) aA aA];exact go _ _ (by rw[aQ c1]) (by rw[aQ c2])
    ·rw[aP c2];exact go _ _ (by rw[aQ c1]) (by rw[aP c2];omega)
   ·rw[aP c1]
    by_cases c2:decide (o.Rank=y.Rank)=true
    ·rw[aQ c2,Hl (n:=x9+1) aA aA];exact go _ _ (by rw[aP c1];omega) (by rw[aQ c2])
    ·rw[aP c2];exact go _ _ (by rw[aP c1];omega) (by rw[aP c2];omega)
  ·rw[aQ (by simp[hr]),Alx y i j ys (k+1) _ _ x8 x9 h1 aA h3 aA];simp[twI,UG,AP,QB,hr]
theorem ref_l2(l:List Fd)(hl:l.length<=1000)(j:Bool->Bool->Bool->Bool->Option Int):∀(ys:List Fd) (i:Nat) (x2 x3 x4 x5:Bool),
 Lz l j ys i x2 x3 x4 x5=j (x2||twR l ys i) (x3||ys.any (UG l)) (x4||ys.any (Tc l)) (x5||ys.any (FU l))
 |[],i,x2,x3,x4,x5=>by simp[Lz,twR]
 |y::ys,i,x2,x3,x4,x5=>by
  rw[Lz]
  simp only[Hg]
  rw[Alx y i _ l 0 x2 x3 0 0 aA aA aA aA]
  have hb:AP l y<=1000:=Nat.le_trans List.countP_le_length hl
  rw[ref_l2 l hl j ys (i+1)]
  simp only[Int.zero_add,twR,List.any_cons,Bool.or_assoc,Tc,FU]
  rw[Hl aA aA]
theorem Aed(l:List Fd)(hl:l.length<=1000):Lz l (fun(x2:Bool) (x3:Bool) (x4:Bool) (x5:Bool)=>Oz (some 0) ([(Lf.mk x2 6),(Lf.mk x3 3),(Lf.mk x4 16),(Lf.mk x5 12)]:List Lf) 0) l 0 false false false false=
 some (if twR l l 0 then 6 else if l.any (UG l) then 3 else if l.any (Tc l) then 16 else if l.any (FU l) then 12 else 0):=by
 rw[ref_l2 l hl];simp only[Bool.false_or,Oz]
 cases twR l l 0<;>cases l.any (UG l)<;>cases l.any (Tc l)<;>cases l.any (FU l)<;>rfl
def Dif(x y:Fd):Prop:=¬(x.Race=y.Race/\x.Who=y.Who)
theorem Age(y:Fd)(i:Nat):∀(l:List Fd) (k:Nat),twI y i l k=true↔∃(q:Nat) (o:Fd),l[q]? =some o/\o.Race=y.Race/\k+q≠i/\o.Who=y.Who
 |[],k=>by simp[twI]
 |o::l,k=>by
  rw[twI,Bool.or_eq_true,Age y i l (k+1)]
  constructor
  ·rintro(h|⟨q,z,h1,h2,h3,h4⟩)
   ·simp only[bQ,aK,Bool.not_eq_true',aL] at h
    exact⟨0,o,rfl,h.1,by omega,h.2.2⟩
   ·exact⟨q+1,z,h1,h2,by omega,h4⟩
  ·rintro⟨q,z,h1,h2,h3,h4⟩
   cases q with
   |zero=>
    left
    have:o=z:=by simpa using h1
    subst this
    simp only[bQ,aK,Bool.not_eq_true',aL]
    exact⟨h2,by omega,h4⟩
   |succ q=>right;exact⟨q,z,h1,h2,by omega,h4⟩
theorem Aos(l:List Fd):∀(ys:List Fd) (i:Nat),twR l ys i=true↔∃(p:Nat) (y:Fd),ys[p]? =some y/\twI y (i+p) l 0=true
 |[],i=>by simp[twR]
 |y::ys,i=>by
  rw[twR,Bool.or_eq_true,Aos l ys (i+1)]
  constructor
  ·rintro(h|⟨p,z,h1,h2⟩)
   ·exact⟨0,y,rfl,h⟩
   ·exact⟨p+1,z,h1,by rw[show i+(p+1)=i+1+p by omega];exact h2⟩
  ·rintro⟨p,z,h1,h2⟩
   cases p with
   |zero=>
    left
    have:y=z:=by simpa using h1
    subst this
    exact h2
   |succ p=>right;exact⟨p,z,h1,by rw[show i+1+p=i+(p+1) by omega];exact h2⟩
theorem Abn(l:List Fd):twR l l 0=false↔l.Pairwise Dif:=by
 rw[←Bool.not_eq_true,Aos,List.pairwise_iff_getElem];constructor
 ·intro h i j hi hj hij hd;refine h ⟨i,l[i],by simp,?_⟩;rw[Age];exact⟨j,l[j],by simp,hd.1.symm,by omega,hd.2.symm⟩
 ·rintro h ⟨p,y,h1,h2⟩;obtain⟨q,o,h3,h4,h5,h6⟩:=(Age _ _ _ _).1 h2;obtain⟨hp,rfl⟩:=List.getElem?_eq_some_iff.1 h1;obtain⟨hq,rfl⟩:=List.getElem?_eq_some_iff.1 h3;rcases Nat.lt_or_ge p q with g|g
  ·exact h p q hp hq g ⟨h4.symm,h6.symm⟩
  ·exact h q p hq hp aA ⟨h4,h6⟩
theorem Ajf(j:List (Fw×Bool)->Option Int)(l:List Fd)(hw:l.Pairwise Dif):∀(ys dn:List Fd) (m:List (Fw×Bool)),l=dn++ys->(∀e,Gm m e false=true->∃x∈dn,e=Fw.mk x.Race x.Who)->
 ∃m',Pe j ys dn.length m=j m'
 |[],dn,m,_,_=>⟨m,rfl⟩
 |y::ys,dn,m,h1,h2=>by
  have hno:Gm m (Fw.mk y.Race y.Who) false=false:=by
   cases hm:Gm m (Fw.mk y.Race y.Who) false with
   |false=>rfl
   |true=>
    obtain⟨x,hx,e⟩:=h2 _ hm;rw[h1,bK] at hw;injection e with e1 e2
    exact(hw.2.2 x hx y aN ⟨e1.symm,e2.symm⟩).elim
  rw[Pe,hno,aP aB];obtain⟨m',e⟩:=Ajf j l hw ys (dn++[y]) (Iv m (Fw.mk y.Race y.Who) true) (by rw[h1];simp) (λe he=>by
   rw[CW] at he
   split at he
   ·rename_i hk;exact⟨y,by simp,hk⟩
   ·obtain⟨x,hx,e'⟩:=h2 e he;exact⟨x,by simp[hx],e'⟩)
  rw[aU,aX] at e;exact⟨m',e⟩
theorem Aee(j:List (Fw×Bool)->Option Int):∀(ys dn:List Fd) (m:List (Fw×Bool)) (i:Nat),dn.Pairwise Dif->¬(dn++ys).Pairwise Dif->(∀x∈dn,Gm m (Fw.mk x.Race x.Who) false=true)->
 Pe j ys i m=some 6
 |[],dn,m,i,h1,h2,_=>by rw[List.append_nil] at h2;exact(h2 h1).elim
 |y::ys,dn,m,i,h1,h2,h3=>by
  rw[Pe]
  by_cases hm:Gm m (Fw.mk y.Race y.Who) false=true
  ·rw[aQ hm]
  ·rw[aP hm]
   refine Aee j ys (dn++[y]) _ (i+1) ?_ (by rw[List.append_assoc];exact h2) (λx hx=>?_)
   ·rw[bK]
    refine⟨h1,by simp,λx hx z hz hd=>?_⟩
    obtain rfl:=bA.1 hz
    refine hm ?_
    rw[←hd.1,←hd.2]
    exact h3 x hx
   ·rw[CW]
    split
    ·rfl
    ·rename_i hk
     rcases bC.1 hx with hx|hx
     ·exact h3 x hx
     ·obtain rfl:=bA.1 hx;exact(hk rfl).elim
theorem idx_l(g:List Fd)(hin:inB 0 g.length=true):∀(ys:List Fd) (i:Nat),∃r,Hw g (some (-1)) ys i=some r/\decide (0<=r)=ys.any λx=>!decide (x.Relay=(nth g 0).Relay)
 |[],i=>⟨-1,rfl,by simp⟩
 |y::ys,i=>by
  rw[Hw]
  unfold AD
  rw[Fm hin,aG]
  cases hc: !decide (y.Relay=(nth g 0).Relay) with
  |true=>rw[aQ rfl];exact⟨i,rfl,by simp[hc]⟩
  |false=>
   rw[aP aB]
   obtain⟨r,e1,e2⟩:=idx_l g hin ys (i+1)
   exact⟨r,e1,by rw[e2,List.any_cons,hc,Bool.false_or]⟩
def mixG(g:List Fd):Bool:=g.any λx=>!decide (x.Relay=(nth g 0).Relay)
theorem chk_l2(j:Option Int):∀(Gs:List (List Fd)) (i:Nat),(∀g∈Gs,One g)->Rs j Gs i=if Gs.any mixG then some 3 else j
 |[],_,_=>rfl
 |g::Gs,i,h=>by
  have hg:=(h g aN).1
  have hin:inB 0 g.length=true:=Fy.2 ⟨Int.le_refl _,by cases g with|nil=>exact(hg rfl).elim|cons a b=>simp⟩
  rw[Rs]
  unfold Kg Ky
  simp only[Hg]
  obtain⟨r,e1,e2⟩:=idx_l g hin g 0
  rw[e1,aG,aG,e2,List.any_cons]
  rw[chk_l2 j Gs (i+1) (λq hq=>h q (aM _ hq))]
  show (if mixG g=true then _ else _)=_
  cases mixG g<;>rfl
structure Gr(g:List Fd):Prop where
 race:∀x∈g,∀y∈g,x.Race=y.Race
 ord:g.Pairwise λx y=>JJ x y=true
 rr:∀x∈g,RR x
 len:g.length<=1000
theorem Gr.le{g:List Fd}(h:Gr g):g.Pairwise λx y=>kR x<=kR y:=by
 have h2:g.Pairwise λx y=>x.Race=y.Race:=by
  rw[List.pairwise_iff_getElem];exact λi j hi hj _=>h.race _ (List.getElem_mem hi) _ (List.getElem_mem hj)
 refine(h.ord.and h2).imp ?_;rintro x y ⟨a,b⟩;rcases NY.1 a with a|⟨_,a⟩
 ·rw[b,Ut] at a;omega
 ·omega
theorem MI{x:Fd}(_:RR x)(h':0<x.Rank):kR x=x.Rank:=by unfold kR;rw[aP aA]
theorem OE{x:Fd}(h:RR x)(h':kR x<=300):kR x=x.Rank/\0<x.Rank:=by
 have:=h.1;unfold kR at h' ⊢
 split at h'
 ·omega
 ·rename_i hz;rw[aP hz];omega
theorem OV{g dn ys:List Fd}{y:Fd}(h:Gr g)(hg:g=dn++y::ys)(hp:0<y.Rank):AP g y=dn.countP λo=>decide (0<o.Rank) && decide (o.Rank<y.Rank):=by
 have hy:y∈g:=by rw[hg];simp
 have hle:=h.le;rw[hg,bK,List.pairwise_cons] at hle;have ky:=MI (h.rr y hy) hp;unfold AP;rw[hg,List.countP_append,List.countP_cons];have z:ys.countP (λo=>decide (o.Race=y.Race) && (decide (0<o.Rank) && decide (o.Rank<y.Rank)))=0:=by
  rw[List.countP_eq_zero];intro o ho;have h1:=hle.2.1.1 o ho;simp only[bQ,aK,not_and];intro _ h2 h3;rw[MI (h.rr o (by rw[hg];simp[ho])) h2] at h1;omega
 rw[z,aP aB,Nat.add_zero];refine List.countP_congr λo ho=>?_;rw[h.race o (by rw[hg];simp[ho]) y hy];simp
theorem Abo{g:List Fd}(h:Gr g){x y:Fd}(hx:x∈g)(hy:y∈g)(e:x.Rank=y.Rank):Tc g x=Tc g y:=by
 unfold Tc AP;rw[e,h.race x hx y hy]
theorem chk_l4{g:List Fd}(h:Gr g)(j:Option Int):∀(ys dn:List Fd),g=dn++ys->(∀x∈dn,Tc g x=false)->Rt g j ys dn.length=if ys.any (Tc g) then some 16 else j
 |[],_,_,_=>rfl
 |y::ys,dn,hg,hw=>by
  have hy:y∈g:=by rw[hg];simp
  have hdl:dn.length<=1000:=by have:=h.len;rw[hg] at this;simp at this;omega
  have hW:W ((dn.length:Int)+1)=(dn.length:Int)+1:=Hl aA aA
  have next:Tc g y=false->Rt g j ys (dn.length+1)=if(y::ys).any (Tc g) then some 16 else j:=by
   intro hf;have ih:=chk_l4 h j ys (dn++[y]) (by rw[hg];simp) (λx hx=>by
    rcases bC.1 hx with hx|hx
    ·exact hw x hx
    ·obtain rfl:=bA.1 hx;exact hf)
   rw[aU,aX] at ih;rw[ih,List.any_cons,hf,Bool.false_or]
  have yes:Tc g y=true->some (16:Int)=if(y::ys).any (Tc g) then some 16 else j:=by
   intro hf;rw[List.any_cons,hf,Bool.true_or,aQ rfl]
  rw[Rt];simp only[Hg,hW]
  cases hA:((decide (0<y.Rank)) && (!decide (y.Rank=(dn.length:Int)+1))) with
  |false=>
   simp only[aO,aR,bP];refine next ?_
   by_cases hp:0<y.Rank
   ·have e:y.Rank=(dn.length:Int)+1:=by simpa[hp] using hA
    rcases List.eq_nil_or_concat dn with rfl|⟨d,x,rfl⟩
    ·unfold Tc;rw[OV h hg hp,e];simp
    ·simp only[List.concat_eq_append] at*;have hx:x∈g:=by rw[hg];simp
     by_cases hxy:x.Rank=y.Rank
     ·rw[Abo h hy hx hxy.symm];exact hw x aB
     ·unfold Tc;rw[OV h hg hp];have all:(d++[x]).countP (λo=>decide (0<o.Rank) && decide (o.Rank<y.Rank))=(d++[x]).length:=by
       rw[List.countP_eq_length];intro o ho;have hle:=h.le;rw[hg,bK] at hle;have ky:=MI (h.rr y hy) hp;have k1:=hle.2.2 x aB y aB;have yr:=(h.rr y hy).2;have k2:kR x≠kR y:=λe2=>by
        have:=(OE (h.rr x hx) aA).1;omega
       have k3:kR o<=kR x:=by
        rcases bC.1 ho with ho|ho
        ·have:=hle.1;rw[bK] at this;exact this.2.2 o ho x aB
        ·obtain rfl:=bA.1 ho;omega
       have k4:=OE (h.rr o (by rw[hg];exact List.mem_append_left _ ho)) aA;simp only[bQ,aK];omega
      rw[all,e];simp
   ·unfold Tc;simp[hp]
  |true=>
   have hp:0<y.Rank:=by simp at hA;exact hA.1
   have hne:y.Rank≠(dn.length:Int)+1:=by simp at hA;exact hA.2
   simp only[aS,bO];rcases List.eq_nil_or_concat dn with rfl|⟨d,x,rfl⟩
   ·simp only[aW,Int.natCast_zero,aJ,aS,Bool.or_true];refine yes ?_;unfold Tc;rw[OV h hg hp];simp only[List.countP_nil,Int.natCast_zero,hp,aJ,bO];simpa using hne
   ·simp only[List.concat_eq_append] at*;have hx:x∈g:=by rw[hg];simp
    have hlen:((d++[x]).length:Int)=(d.length:Int)+1:=by simp
    have hw1:W (((d++[x]).length:Int)-1)=(d.length:Int):=by
     rw[hlen,show (d.length:Int)+1-1=(d.length:Int) by omega,Hl aA (by simp at hdl;omega)]
    have hn:nth g (d.length:Int)=x:=by unfold nth;rw[hg];simp
    have hin:inB (d.length:Int) g.length=true:=by rw[Fy,hg];simp;omega
    have h0:decide (((d++[x]).length:Int)=0)=false:=by rw[hlen];simp;omega
    rw[h0,hw1,hn];simp only[aO,aR,Fm hin,Bool.false_or]
    by_cases hxy:x.Rank=y.Rank
    ·rw[aP (by simp[hxy])];refine next ?_;rw[Abo h hy hx hxy.symm];exact hw x aB
    ·rw[aQ (by simp;exact λe=>hxy e.symm)];refine yes ?_;unfold Tc;rw[OV h hg hp];have all:(d++[x]).countP (λo=>decide (0<o.Rank) && decide (o.Rank<y.Rank))=(d++[x]).length:=by
      rw[List.countP_eq_length];intro o ho;have hle:=h.le;rw[hg,bK] at hle;have ky:=MI (h.rr y hy) hp;have k1:=hle.2.2 x aB y aB;have yr:=(h.rr y hy).2;have k2:kR x≠kR y:=λe2=>by
       have:=(OE (h.rr x hx) aA).1;omega
      have k3:kR o<=kR x:=by
       rcases bC.1 ho with ho|ho
       ·have:=hle.1;rw[bK] at this;exact this.2.2 o ho x aB
       ·obtain rfl:=bA.1 ho;omega
      have k4:=OE (h.rr o (by rw[hg];exact List.mem_append_left _ ho)) aA;simp only[bQ,aK];omega
     rw[all];simp[hp];simpa using hne
theorem chk_l3(j:Option Int):∀(Gs:List (List Fd)) (i:Nat),(∀g∈Gs,Gr g)->Pf j Gs i=if Gs.any (λg=>g.any (Tc g)) then some 16 else j
 |[],_,_=>rfl
 |g::Gs,i,h=>by
  rw[Pf]
  simp only[Hg]
  have e:=chk_l4 (h g aN) (Pf j Gs (i+1)) g [] rfl (λ_ hx=>by cases hx)
  rw[aW] at e
  rw[e,chk_l3 j Gs (i+1) (λq hq=>h q (aM _ hq)),List.any_cons]
  cases g.any (Tc g)<;>simp
def Aly(g:List Fd)(q:Nat):Prop:=∃(x z:Fd),10<=q/\g[q]? =some x/\g[q-10]? =some z/\0<x.Rank/\x.Rank=z.Rank
theorem chk_l6{g:List Fd}(hl:g.length<=1000)(j:Option Int):∀(d m i:Nat),g.length<=i+d->d<m->10<=i->((∃q,i<=q/\Aly g q)->Kt g j m (i:Int)=some 12)/\((∀q,i<=q->¬Aly g q)->Kt g j m (i:Int)=j)
 |d,0,i,_,h,_=>by omega
 |d,m+1,i,h1,h2,h3=>by
  rw[Kt]
  by_cases hi:i<g.length
  ·rw[aQ (aH aA)]
   have hin:inB (i:Int) g.length=true:=Fy.2 aA
   have hw:W ((i:Int)-10)=((i-10:Nat):Int):=by rw[Hl aA aA];omega
   have hin2:inB ((i-10:Nat):Int) g.length=true:=Fy.2 aA
   have hw1:W ((i:Int)+1)=((i+1:Nat):Int):=by rw[Hl aA aA];omega
   have e1:g[i]? =some (nth g (i:Int)):=(Gd hin).1
   have e2:g[i-10]? =some (nth g ((i-10:Nat):Int)):=(Gd hin2).1
   simp only[Hg,hw,hw1,Fm hin,Fm hin2]
   obtain⟨ih1,ih2⟩:=chk_l6 hl j (d-1) m (i+1) aA aA aA
   by_cases hf:0<(nth g (i:Int)).Rank/\(nth g (i:Int)).Rank=(nth g ((i-10:Nat):Int)).Rank
   ·have he:(if decide (0<(nth g (i:Int)).Rank)=true then(if(decide (0<(nth g (i:Int)).Rank) && decide ((nth g (i:Int)).Rank=(nth g ((i-10:Nat):Int)).Rank))=true then some 12 else Kt g j m ((i+1:Nat):Int)) else(if(decide (0<(nth g (i:Int)).Rank) && true)=true then some 12 else Kt g j m ((i+1:Nat):Int)))=some (12:Int):=by
     simp[hf.2];intro hn;have:=hf.1;have:=hf.2;omega
    rw[he];exact⟨λ_=>rfl,λhn=>(hn i (bU _) ⟨_,_,h3,e1,e2,hf.1,hf.2⟩).elim⟩
   ·have he:(if decide (0<(nth g (i:Int)).Rank)=true then(if(decide (0<(nth g (i:Int)).Rank) && decide ((nth g (i:Int)).Rank=(nth g ((i-10:Nat):Int)).Rank))=true then some 12 else Kt g j m ((i+1:Nat):Int)) else(if(decide (0<(nth g (i:Int)).Rank) && true)=true then some 12 else Kt g j m ((i+1:Nat):Int)))=Kt g j m ((i+1:Nat):Int):=by
     by_cases hp:0<(nth g (i:Int)).Rank
     ·have:¬(nth g (i:Int)).Rank=(nth g ((i-10:Nat):Int)).Rank:=λe=>hf ⟨hp,e⟩;simp[hp,this]
     ·simp[hp]
    rw[he];refine⟨fun⟨q,hq,hqf⟩=>ih1 ⟨q,?_,hqf⟩,λhn=>ih2 λq hq=>hn q aA⟩;rcases Nat.lt_or_ge i q with g1|g1
    ·exact g1
    ·exfalso;have:q=i:=by omega
     subst this;obtain⟨x,z,_,a1,a2,a3,a4⟩:=hqf;rw[e1] at a1;rw[e2] at a2
     cases a1;cases a2
     exact hf ⟨a3,a4⟩
  ·rw[aP aD];refine⟨fun⟨q,hq,x,z,_,a1,_⟩=>?_,λ_=>rfl⟩;rw[List.getElem?_eq_none aA] at a1;cases a1
theorem Ajg{r:Int}:∀(g:List Fd),(∃y∈g,y.Rank=r)->∃a x b,g=a++x::b/\(∀z∈a,z.Rank≠r)/\x.Rank=r
 |[],h=>by obtain⟨y,hy,_⟩:=h;cases hy
 |y::g,h=>by
  by_cases hy:y.Rank=r
  ·exact⟨[],y,g,rfl,(λ_ hz=>by cases hz),hy⟩
  ·obtain⟨a,x,b,e,h1,h2⟩:=Ajg g (by
    obtain⟨z,hz,e⟩:=h
    rcases bB.1 hz with rfl|hz
    ·exact(hy e).elim
    ·exact⟨z,hz,e⟩)
   refine⟨y::a,x,b,by rw[e];rfl,λz hz=>?_,h2⟩
   rcases bB.1 hz with rfl|hz
   ·exact hy
   ·exact h1 z hz
theorem Ajh{g:List Fd}(h:Gr g):(∃q,10<=q/\Aly g q)↔g.any (FU g)=true:=by
 have hle:=List.pairwise_iff_getElem.1 h.le;have mono:∀(i j:Nat) (x z:Fd),i<=j->g[i]? =some x->g[j]? =some z->kR x<=kR z:=by
  intro i j x z hij hx hz;obtain⟨h1,rfl⟩:=List.getElem?_eq_some_iff.1 hx;obtain⟨h2,rfl⟩:=List.getElem?_eq_some_iff.1 hz;rcases Nat.lt_or_ge i j with g1|g1
  ·exact hle i j h1 h2 g1
  ·have:i=j:=by omega
   subst this;exact Int.le_refl _
 have mem:∀(i:Nat) (x:Fd),g[i]? =some x->x∈g:=λi x hx=>List.mem_of_getElem? hx;rw[List.any_eq_true];constructor
 ·rintro⟨q,_,x,z,hq,hx,hz,hp,e⟩;refine⟨x,mem _ _ hx,?_⟩;unfold FU QB;simp only[bQ,aK];refine⟨hp,?_⟩;have hql:=(List.getElem?_eq_some_iff.1 hx).1;have sub:((g.drop (q-10)).take 11).Sublist g:=(List.take_sublist _ _).trans (List.drop_sublist _ _);have len:((g.drop (q-10)).take 11).length=11:=by rw[List.length_take,List.length_drop];omega
  have c:=sub.countP_le (p:=λo:Fd=>decide (o.Race=x.Race) && decide (o.Rank=x.Rank));have all:((g.drop (q-10)).take 11).countP (λo=>decide (o.Race=x.Race) && decide (o.Rank=x.Rank))=((g.drop (q-10)).take 11).length:=by
   rw[List.countP_eq_length];intro o ho;obtain⟨t,ht⟩:=List.getElem?_of_mem ho;have htl:t<11:=by rw[←len];exact(List.getElem?_eq_some_iff.1 ht).1
   rw[List.getElem?_take_of_lt htl,List.getElem?_drop] at ht;have k1:=mono (q-10) (q-10+t) z o aA hz ht;have k2:=mono (q-10+t) q o x aA ht hx;have xr:=h.rr x (mem _ _ hx);have kx:=MI xr hp;have kz:=MI (h.rr z (mem _ _ hz)) aA;have:=(OE (h.rr o (mem _ _ ht)) (by have:=xr.2;omega)).1;simp only[bQ,aK];exact⟨h.race o (mem _ _ ht) x (mem _ _ hx),by omega⟩
  rw[all,len] at c;omega
 ·rintro⟨y,hy,hf⟩;unfold FU QB at hf;simp only[bQ,aK] at hf;obtain⟨hp,hc⟩:=hf;obtain⟨a,x,b,e,h1,h2⟩:=Ajg g ⟨y,hy,rfl⟩;rcases Classical.em (∃z∈(x::b).drop 10,z.Rank=y.Rank) with ⟨z,hz,hzr⟩|hno
  ·obtain⟨t,ht⟩:=List.getElem?_of_mem hz;rw[List.getElem?_drop] at ht;have hz':g[a.length+10+t]? =some z:=by rw[e,List.getElem?_append_right aA];rw[←ht];congr 1;omega
   have hx':g[a.length]? =some x:=by rw[e];simp
   have hlt:=(List.getElem?_eq_some_iff.1 hz').1;obtain⟨u,hu⟩:∃u,g[a.length+t]? =some u:=⟨g[a.length+t]'(by omega),by simp⟩;have k1:=mono a.length (a.length+t) x u aA hx' hu;have k2:=mono (a.length+t) (a.length+10+t) u z aA hu hz';have yr:=(h.rr y hy).2;have kx:=MI (h.rr x (mem _ _ hx')) aA;have kz:=MI (h.rr z (mem _ _ hz')) aA;have:=(OE (h.rr u (mem _ _ hu)) aA).1;exact⟨a.length+10+t,by omega,z,u,by omega,hz',by rw[show a.length+10+t-10=a.length+t by omega];exact hu,by omega,by omega⟩
  ·exfalso;have c1:a.countP (λo=>decide (o.Race=y.Race) && decide (o.Rank=y.Rank))=0:=by
    rw[List.countP_eq_zero];intro o ho;simp[h1 o ho]
   have c2:((x::b).drop 10).countP (λo=>decide (o.Race=y.Race) && decide (o.Rank=y.Rank))=0:=by
    rw[List.countP_eq_zero];intro o ho;have:o.Rank≠y.Rank:=λe=>hno ⟨o,ho,e⟩;simp[this]
   have c3:((x::b).take 10).countP (λo=>decide (o.Race=y.Race) && decide (o.Rank=y.Rank))<=10:=Nat.le_trans List.countP_le_length (by rw[List.length_take];omega);have c4:=congrArg (List.countP λo=>decide (o.Race=y.Race) && decide (o.Rank=y.Rank)) (List.take_append_drop 10 (x::b));rw[List.countP_append] at c4;rw[e,List.countP_append] at hc;omega
theorem chk_l5(j:Option Int):∀(Gs:List (List Fd)) (i:Nat),(∀g∈Gs,Gr g)->Pg j Gs i=if Gs.any (λg=>g.any (FU g)) then some 12 else j
 |[],_,_=>rfl
 |g::Gs,i,h=>by
  have hg:=h g aN
  rw[Pg]
  simp only[Hg]
  obtain⟨e1,e2⟩:=chk_l6 hg.len (Pg j Gs (i+1)) (g.length-10) (((g.length:Int)-10).toNat+2) 10 aA aA (bU _)
  rw[List.any_cons]
  cases hf:g.any (FU g) with
  |true=>rw[Bool.true_or,aQ rfl];exact e1 ((Ajh hg).2 hf)
  |false=>
   rw[Bool.false_or]
   refine(e2 λq hq hn=>?_).trans (chk_l5 j Gs (i+1) (λq hq=>h q (aM _ hq)))
   rw[(Ajh hg).1 ⟨q,hq,hn⟩] at hf;cases hf
theorem WA{α:Type}(p:α->Bool):∀(Gs:List (List α)),Gs.flatten.any p=Gs.any λg=>g.any p
 |[]=>rfl
 |g::Gs=>by rw[List.flatten_cons,List.any_append,List.any_cons,WA p Gs]
theorem GU{α:Type}{p q:α->Bool}:∀(l:List α),(∀x∈l,p x=q x)->l.any p=l.any q
 |[],_=>rfl
 |x::l,h=>by rw[List.any_cons,List.any_cons,h x aN,GU l λy hy=>h y (aM _ hy)]
section
variable {Gs:List (List Fd)}(h2:Gs.Pairwise (λg g'=>∀x∈g,∀y∈g',x.Race≠y.Race))
include h2
theorem Aef{g:List Fd}(hg:g∈Gs){y:Fd}(hy:y∈g):∃P Q:List Fd,Gs.flatten=P++(g++Q)/\(∀o∈P,o.Race≠y.Race)/\(∀o∈Q,o.Race≠y.Race):=by
 obtain⟨P,Q,rfl⟩:=List.append_of_mem hg;rw[bK,List.pairwise_cons] at h2;refine⟨P.flatten,Q.flatten,by simp,λo ho=>?_,λo ho=>?_⟩
 ·obtain⟨g',hg',ho⟩:=List.mem_flatten.1 ho;exact h2.2.2 g' hg' g aB o ho y hy
 ·obtain⟨g',hg',ho⟩:=List.mem_flatten.1 ho;exact λe=>h2.2.1.1 g' hg' y hy o ho e.symm
theorem Aeg{g:List Fd}(hg:g∈Gs){y:Fd}(hy:y∈g)(q:Fd->Bool):Gs.flatten.countP (λo=>decide (o.Race=y.Race) && q o)=g.countP (λo=>decide (o.Race=y.Race) && q o):=by
 obtain⟨P,Q,e,h3,h4⟩:=Aef h2 hg hy;rw[e,List.countP_append,List.countP_append];have z:∀l:List Fd,(∀o∈l,o.Race≠y.Race)->l.countP (λo=>decide (o.Race=y.Race) && q o)=0:=λl hl=>by
  rw[List.countP_eq_zero];intro o ho;simp[hl o ho]
 rw[z P h3,z Q h4];omega
theorem any_loc{g:List Fd}(hg:g∈Gs){y:Fd}(hy:y∈g)(q:Fd->Bool):Gs.flatten.any (λo=>decide (o.Race=y.Race) && q o)=g.any (λo=>decide (o.Race=y.Race) && q o):=by
 obtain⟨P,Q,e,h3,h4⟩:=Aef h2 hg hy;rw[e,List.any_append,List.any_append];have z:∀l:List Fd,(∀o∈l,o.Race≠y.Race)->l.any (λo=>decide (o.Race=y.Race) && q o)=false:=λl hl=>by
  rw[List.any_eq_false];intro o ho;simp[hl o ho]
 rw[z P h3,z Q h4];simp
end
theorem mix_grp{g:List Fd}(h:One g):(g.any λy=>g.any λo=>decide (o.Race=y.Race) && !decide (o.Relay=y.Relay))=mixG g:=by
 obtain⟨h0,hr⟩:=h;obtain⟨z,r,rfl⟩:∃z r,g=z::r:=by
  cases g with
  |nil=>exact(h0 rfl).elim
  |cons z r=>exact⟨z,r,rfl⟩
 unfold mixG;have hn:nth (z::r) 0=z:=rfl;rw[hn,Bool.eq_iff_iff,List.any_eq_true,List.any_eq_true];constructor
 ·rintro⟨y,hy,h1⟩;rw[List.any_eq_true] at h1;obtain⟨o,ho,h1⟩:=h1;simp only[bQ,aK,Bool.not_eq_true',aL] at h1
  by_cases hyz:y.Relay=z.Relay
  ·refine⟨o,ho,?_⟩;simp only[Bool.not_eq_true',aL];rw[←hyz];exact h1.2
  ·exact⟨y,hy,by simpa using hyz⟩
 ·rintro⟨y,hy,h1⟩;refine⟨z,by simp,?_⟩;rw[List.any_eq_true];exact⟨y,hy,by rw[hr y hy z aB];simpa using h1⟩
theorem Aeh(l:List Fd)(hl:l.length<=1000):∃e,Xc l=some e/\Kf l=some e/\(e=0->∃Gs:List (List Fd),l=Gs.flatten/\(∀g∈Gs,One g/\Gr g)/\Gs.Pairwise (λg g'=>∀x∈g,∀y∈g',x.Race≠y.Race)/\l.Pairwise Dif/\(∀g∈Gs,mixG g=false/\g.any (Tc g)=false/\g.any (FU g)=false)):=by
 unfold Xc Kf;rw[aP aD,aP aD];simp only[Hg];rcases Aor l hl l [] rfl (λ_ h=>by cases h) List.Pairwise.nil with ⟨e,he,h⟩|⟨ho,hr,h⟩
 ·exact⟨e,(h _).1,(h _).2,λh0=>(he h0).elim⟩
 ·have h':∀j,Hc l j l 0=j/\Gc l j l 0=j:=h;rw[(h' _).1,(h' _).2,Aed l hl];obtain⟨Gs,e,g1,g2⟩:=groups l ho;have gr:∀g∈Gs,Gr g:=λg hg=>by
   have sub:g.Sublist l:=by rw[e];exact List.sublist_flatten_of_mem hg
   exact⟨(g1 g hg).2,ho.sublist sub,λx hx=>hr x (sub.subset hx),Nat.le_trans sub.length_le hl⟩
  have hraces:Wh l=some Gs:=by rw[e];exact Air Gs g1 g2 (by rw[←e];exact hl)
  have m1:l.any (UG l)=Gs.any mixG:=by
   rw[show l.any (UG l)=Gs.flatten.any (UG Gs.flatten) by rw[←e],WA];refine GU Gs λg hg=>?_;rw[←mix_grp (g1 g hg)];exact GU g λy hy=>any_loc g2 hg hy _
  have m2:l.any (Tc l)=Gs.any λg=>g.any (Tc g):=by
   rw[show l.any (Tc l)=Gs.flatten.any (Tc Gs.flatten) by rw[←e],WA];refine GU Gs λg hg=>GU g λy hy=>?_;unfold Tc AP;rw[Aeg g2 hg hy]
  have m3:l.any (FU l)=Gs.any λg=>g.any (FU g):=by
   rw[show l.any (FU l)=Gs.flatten.any (FU Gs.flatten) by rw[←e],WA];refine GU Gs λg hg=>GU g λy hy=>?_;unfold FU QB;rw[Aeg g2 hg hy]
  rw[m1,m2,m3];unfold DX;simp only[Hg]
  by_cases hd:l.Pairwise Dif
  ·obtain⟨m',em⟩:=Ajf (λx1=>Option.bind (Wh l) (λr1=>Rs (Pf (Pg (some 0) r1 0) r1 0) r1 0)) l hd l [] [] rfl (λe he=>by simp[Gm,Tw,Oo] at he);rw[aW] at em;rw[em,hraces,aG,chk_l2 _ Gs 0 g1,chk_l3 _ Gs 0 gr,chk_l5 _ Gs 0 gr,(Abn l).2 hd];simp only[aO,aR]
   cases c1:Gs.any mixG with
   |true=>exact⟨3,rfl,rfl,λh=>by cases h⟩
   |false=>
    cases c2:Gs.any (λg=>g.any (Tc g)) with
    |true=>exact⟨16,rfl,rfl,λh=>by cases h⟩
    |false=>
     cases c3:Gs.any (λg=>g.any (FU g)) with
     |true=>exact⟨12,rfl,rfl,λh=>by cases h⟩
     |false=>exact⟨0,rfl,rfl,λ_=>⟨Gs,e,λg hg=>⟨g1 g hg,gr g hg⟩,g2,hd,λg hg=>⟨by simpa using List.any_eq_false.1 c1 g hg,by simpa using List.any_eq_false.1 c2 g hg,by simpa using List.any_eq_false.1 c3 g hg⟩⟩⟩
  ·have ht:twR l l 0=true:=by
    cases ht:twR l l 0 with
    |true=>rfl
    |false=>exact(hd ((Abn l).1 ht)).elim
   rw[Aee _ l [] [] 0 List.Pairwise.nil hd (λ_ h=>by cases h),ht];exact⟨6,rfl,rfl,λh=>by cases h⟩
def frB(v:Nat):Fh:=⟨((v / Nat.gcd v 2520:Nat):Int),((2520 / Nat.gcd v 2520:Nat):Int)⟩
theorem gcdB(v:Nat):0<Nat.gcd v 2520:=Nat.gcd_pos_of_pos_right _ aC
theorem WB{a b v:Nat}(hb:0<b)(h:a*2520=v*b):a / Nat.gcd a b=v / Nat.gcd v 2520/\b / Nat.gcd a b=2520 / Nat.gcd v 2520:=by
 have hg:=Nat.gcd_pos_of_pos_right a hb;have hk:=gcdB v;have c1:(a / Nat.gcd a b).Coprime (b / Nat.gcd a b):=Nat.coprime_div_gcd_div_gcd hg;have c2:(v / Nat.gcd v 2520).Coprime (2520 / Nat.gcd v 2520):=Nat.coprime_div_gcd_div_gcd hk;have e1:=Nat.div_mul_cancel (Nat.gcd_dvd_left a b);have e2:=Nat.div_mul_cancel (Nat.gcd_dvd_right a b);have e3:=Nat.div_mul_cancel (Nat.gcd_dvd_left v 2520);have e4:=Nat.div_mul_cancel (Nat.gcd_dvd_right v 2520);generalize a / Nat.gcd a b=a' at*;generalize b / Nat.gcd a b=b' at*;generalize v / Nat.gcd v 2520=v' at*;generalize hd:2520 / Nat.gcd v 2520=d' at*;generalize Nat.gcd a b=g at*;generalize Nat.gcd v 2520=k at*;have hx:a'*d'=v'*b':=by
  have h1:a'*g*(d'*k)=v'*k*(b'*g):=by rw[e1,e4,e3,e2];exact h
  have h2:a'*d'*(g*k)=v'*b'*(g*k):=by
   calc a'*d'*(g*k)=a'*g*(d'*k):=by ac_rfl
    _=v'*k*(b'*g):=h1
    _=v'*b'*(g*k):=by ac_rfl
  exact Nat.eq_of_mul_eq_mul_right (Nat.mul_pos hg hk) h2
 have hb':0<b':=by
  rcases Nat.eq_zero_or_pos b' with h0|h0
  ·rw[h0] at e2;omega
  ·exact h0
 have p1:b' ∣ d':=c1.symm.dvd_of_dvd_mul_left (by rw[hx];exact Nat.dvd_mul_left _ _);have p2:d' ∣ b':=c2.symm.dvd_of_dvd_mul_left (by rw[←hx];exact Nat.dvd_mul_left _ _);have e:b'=d':=Nat.dvd_antisymm p1 p2;subst e;exact⟨Nat.eq_of_mul_eq_mul_right hb' hx,rfl⟩
theorem Aji{a b v:Nat}(hb:0<b)(h:a*2520=v*b)(ha:a<=4000000000000000000)(hb':b<=4000000000000000000):Nr (a:Int) (b:Int)=some (frB v):=by
 rw[Afw a b hb ha hb'];obtain⟨h1,h2⟩:=WB hb h;rw[h1,h2];rfl
theorem OF(v:Nat):∃n d:Nat,frB v=⟨(n:Int),(d:Int)⟩/\0<d/\d<=2520/\n<=v/\n*2520=v*d:=by
 refine⟨v / Nat.gcd v 2520,2520 / Nat.gcd v 2520,rfl,?_,Nat.div_le_self _ _,Nat.div_le_self _ _,?_⟩
 ·exact Nat.div_pos (Nat.le_of_dvd aC (Nat.gcd_dvd_right _ _)) (gcdB v)
 ·have e3:=Nat.div_mul_cancel (Nat.gcd_dvd_left v 2520);have e4:=Nat.div_mul_cancel (Nat.gcd_dvd_right v 2520);generalize v / Nat.gcd v 2520=v' at*;generalize 2520 / Nat.gcd v 2520=d' at*;generalize Nat.gcd v 2520=k at*
  calc v'*2520=v'*(d'*k):=by rw[e4]
   _=v'*k*d':=by ac_rfl
   _=v*d':=by rw[e3]
theorem Alz{n d m e u v K:Nat}(h1:n*K=u*d)(h2:m*K=v*e):(n*e+m*d)*K=(u+v)*(d*e):=by
 calc (n*e+m*d)*K=n*K*e+m*K*d:=by rw[Nat.add_mul];congr 1<;>ac_rfl
  _=u*d*e+v*e*d:=by rw[h1,h2]
  _=(u+v)*(d*e):=by rw[Nat.add_mul];congr 1<;>ac_rfl
theorem Abp{n d m e u v:Nat}(h1:n*2520=u*d)(h2:m*2520=v*e):(n*e+m*d)*2520=(u+v)*(d*e):=Alz h1 h2
theorem OW{a b:Nat}(ha:a<=1000000000000)(hb:b<=2520):a*b<=2520000000000000:=by have:=Nat.mul_le_mul ha hb;omega
theorem XG{a b:Nat}(ha:a<=1000000000000)(hb:b<=2520):W ((a:Int)*(b:Int))=((a*b:Nat):Int):=by
 have:=OW ha hb;rw[←Int.natCast_mul];exact Hl aA aA
theorem Ama{a b v:Nat}(hb:0<b)(h:a*2520=v*b)(ha:a<=4000000000000000000)(hb':b<=4000000000000000000):Pw (a:Int) (b:Int)=some (frB v):=by
 unfold Pw;simp only[Hg];rw[low_l _ _ a b aA];have hg:0<Nat.gcd a b:=Nat.gcd_pos_of_pos_right _ hb;have h0:¬((Nat.gcd a b:Nat):Int)=0:=by omega
 rw[aP aB,Fm (by rw[aI h0];rfl),Fm (by rw[aI h0];rfl),XB ha,XB hb'];obtain⟨h1,h2⟩:=WB hb h;rw[h1,h2];rfl
theorem WC:BV=frB 0:=by decide+kernel
theorem low_is(a b:Nat)(hb:0<b)(ha:a<=4000000000000000000)(hb':b<=4000000000000000000):Pw (a:Int) (b:Int)=Nr (a:Int) (b:Int):=by
 rw[Afw a b hb ha hb'];unfold Pw;simp only[Hg];rw[low_l _ _ a b aA];have hg:0<Nat.gcd a b:=Nat.gcd_pos_of_pos_right _ hb;have h0:¬((Nat.gcd a b:Nat):Int)=0:=by omega
 rw[aP aB,Fm (by rw[aI h0];rfl),Fm (by rw[aI h0];rfl),XB ha,XB hb']
end Go.Proofs.YthlielagemkjcaaGreatDoor
