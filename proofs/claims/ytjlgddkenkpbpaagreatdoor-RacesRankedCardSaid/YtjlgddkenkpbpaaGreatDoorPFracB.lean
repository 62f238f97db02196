/- Fractions in lowest terms whose denominators divide 2520,and how they add. No program stands here but its twins. -/
import Derived.Test.YtjlgddkenkpbpaaGreatDoorPResults2
import Derived.Test.YtjlgddkenkpbpaaGreatDoorPDeedNames
import Derived.Test.YtjlgddkenkpbpaaGreatDoorPDeedMerge
namespace Go.Proofs.YtjlgddkenkpbpaaGreatDoor
open Go
theorem VZ{s:ByteArray}(h:Ia s=some true):s.size<=40:=by
 obtain⟨b,h1,h2⟩:=Vv s;rw[h] at h1;obtain rfl:=bH h1;unfold Pj at h2;simp only[Jp] at h2
 by_cases hi:Ik (s.size:Int) 1 40=true
 ·unfold Ik at hi;simp only[bQ,aK] at hi;omega
 ·rw[aP hi] at h2;have:Ik (s.size:Int) 1 40=false:=by simpa using hi
  rw[this] at h2;simp at h2
structure FM(F:List Dy):Prop where
 ok:∀d∈F,DG d
 len:F.length<=1000
 few:∀race,(Rc race F).length<=12
theorem KN{F:List Dy}(h:FM F){race:ByteArray}{d:Dy}(hd:d∈Rc race F):d∈BX race F/\(svS race F d∈F/\(svS race F d).Kind=3/\(svS race F d).Race=race/\(svS race F d).Who=d.Who)/\(0<=(svS race F d).Time/\(svS race F d).Time<=360000)/\(0<=(svS race F d).Fault/\(svS race F d).Fault<=8):=by
 obtain⟨h1,h2⟩:=List.mem_filter.1 hd;unfold GA at h2;obtain⟨y,hy⟩:=Option.isSome_iff_exists.1 h2;have e:svS race F d=y:=by unfold svS Em;rw[hy];rfl
 have g:=Aas hy;rw[e];have gd:=h.ok y g.1;exact⟨h1,g,gd.time (.inr g.2.1),gd.fault g.2.1⟩
theorem TW{F:List Dy}(h:FM F){race:ByteArray}{d:Dy}(hd:d∈Rc race F):NJ race F d.Who=(svS race F d).Fault:=by
 obtain⟨_,_,_,f0,_⟩:=KN h hd;have hup:=HT race F;have hnd:((DX race F (Rc race F)).map (·.Who)).Nodup:=by
  unfold DX;rw[List.map_map];exact List.pairwise_map.2 ((hup.sublist List.filter_sublist).imp λ{a b} hab e=>by
   have e':a.Who=b.Who:=e;rw[e',Tz] at hab;omega)
 unfold NJ
 by_cases hf:0<(svS race F d).Fault
 ·exact Ack _ [] (Jm.mk d.Who (svS race F d).Fault []) (bD.2 ⟨d,List.mem_filter.2 ⟨hd,aH hf⟩,Z⟩) hnd
 ·rw[RW _ _ _ λv hv e=>?_]
  ·have:(svS race F d).Fault=0:=by omega
   rw[this];rfl
  ·obtain⟨u,hu,rfl⟩:=bD.1 hv;obtain⟨hu1,hu2⟩:=List.mem_filter.1 hu;have hu2:=of_decide_eq_true hu2;simp only at e;have:svS race F u=svS race F d:=by unfold svS;rw[e]
   rw[this] at hu2;exact hf hu2
theorem YH{F:List Dy}(h:FM F)(p:Ir)(race:ByteArray):Zn p F race=some (Xp race F,Ut (Rc race F) [],0):=by
 have hlen:=h.few race;have hel:=HA race F;have hef:=DW race F;have hFl:=h.len;unfold Zn;rw[AY p F race aA];simp only[aG,Jp];rw[HS p F race _ (BX race F) 0 [] [] [] aD aD,aZ,aZ];have hQ:(Uy race F (Rc race F)).length<=12:=by unfold Uy;rw[aV];exact hlen
 have hV:(DX race F (Rc race F)).length<=12:=by
  unfold DX;rw[aV];exact Nat.le_trans (List.length_filter_le _ _) hlen
 have hr:=rank_is (Q:=Uy race F (Rc race F)) (V:=DX race F (Rc race F)) aA (λs hs=>by
  unfold Uy at hs;obtain⟨d,hd,rfl⟩:=bD.1 hs;obtain⟨d1,_,d3,_⟩:=KN h hd;obtain⟨_,k2,k3⟩:=KL d1;exact⟨((h.ok d k3).who aA).1,d3⟩)
  (by unfold Uy;rw[List.pairwise_map];exact HT race F) aA (λs hs=>by
   unfold DX at hs;obtain⟨d,hd,rfl⟩:=bD.1 hs;obtain⟨d1,_,_,d4⟩:=KN h (List.mem_filter.1 hd).1;obtain⟨_,k2,k3⟩:=KL d1;exact⟨((h.ok d k3).who aA).1,d4⟩)
  (by unfold DX;rw[List.pairwise_map];exact(HT race F).sublist List.filter_sublist)
 show Option.bind (AF (Uy race F (Rc race F)) (DX race F (Rc race F))) _=_;rw[hr];rfl
theorem SD:∀(B A:List Ed) (pt pr:Int),(A++B).Pairwise (λa b=>a.Time<=b.Time)->(A=[]\/((∃A' z,A=A'++[z]/\z.Time=pt)/\pr=1+(A.countP λo=>decide (o.Time<pt):Nat)))->
 ∀z∈rkF A.length pt pr B,z.Rank=1+((A++B).countP λo=>decide (o.Time<z.Time):Nat)
 |[],A,pt,pr,_,_,z,h=>by cases h
 |b::B,A,pt,pr,hp,hA,z,hz=>by
  have hp1:=bK.1 hp
  have hb:∀y∈B,b.Time<=y.Time:=(List.pairwise_cons.1 hp1.2.1).1
  have c0:∀t:Int,t<=b.Time->(b::B).countP (λo=>decide (o.Time<t))=0:=λt ht=>List.countP_eq_zero.2 λy hy=>by
   rcases bB.1 hy with rfl|hy
   ·simp;omega
   ·have:=hb y hy;simp;omega
  rw[rkF] at hz
  generalize hr:(if decide (0<(A.length:Int)) && decide (b.Time=pt) then pr else(A.length:Int)+1)=r at hz
  have hrv:r=1+((A++b::B).countP λo=>decide (o.Time<b.Time):Nat):=by
   rw[List.countP_append,c0 _ (Int.le_refl _),Nat.add_zero,←hr];rcases hA with rfl|⟨⟨A',q,rfl,hq⟩,hpr⟩
   ·simp
   ·have hlA:(0:Int)<((A'++[q]).length:Int):=by rw[aU,aX];omega
    by_cases hbt:b.Time=pt
    ·rw[aQ (by simp only[hbt,aJ,Bool.and_true];exact aH hlA),hpr,hbt]
    ·rw[aP (by simp[hbt])];have hq2:q.Time<=b.Time:=hp1.2.2 q aB b aN;have hall:(A'++[q]).countP (λo=>decide (o.Time<b.Time))=(A'++[q]).length:=List.countP_eq_length.2 λy hy=>by
      have hy2:y.Time<=q.Time:=by
       rcases bC.1 hy with hy|hy
       ·exact(bK.1 hp1.1).2.2 y hy q aB
       ·obtain rfl:=bA.1 hy;omega
      exact aH aA
     rw[hall];omega
  rcases bB.1 hz with rfl|hz
  ·exact hrv
  ·have e:A++b::B=(A++[b])++B:=by simp
   have:=SD B (A++[b]) b.Time r (by rw[←e];exact hp) (.inr ⟨⟨A,b,Z,Z⟩,by
    rw[hrv,e,List.countP_append];have c1:B.countP (λo=>decide (o.Time<b.Time))=0:=List.countP_eq_zero.2 λy hy=>by have:=hb y hy;simp;omega
    rw[c1,Nat.add_zero]⟩) z (by rw[aU,aX];exact hz)
   rw[e];exact this
def gdS(race:ByteArray)(F:List Dy)(d:Dy):Bool:=decide (0<(svS race F d).Time) && decide ((svS race F d).Fault=0)
def Yw(race:ByteArray)(F:List Dy)(d:Dy):Int:=if gdS race F d then 1+((Rc race F).countP λo=>gdS race F o && decide ((svS race F o).Time<(svS race F d).Time):Nat) else 0
theorem YI{F:List Dy}(h:FM F){race:ByteArray}{d:Dy}(hd:d∈Rc race F):isG (NJ race F) (Jt.mk d.Who (svS race F d).Time)=gdS race F d:=by
 unfold isG gdS;rw[TW h hd,Bool.and_comm]
theorem DY{F:List Dy}(h:FM F){race:ByteArray}{y:Ed}(hy:y∈Xp race F):∃d∈Rc race F,y=Ed.mk d.Who (Yw race F d) (svS race F d).Time (svS race F d).Fault:=by
 have hmk:∀s∈Uy race F (Rc race F),∃d∈Rc race F,s=Jt.mk d.Who (svS race F d).Time:=λs hs=>by
  unfold Uy at hs;obtain⟨d,hd,rfl⟩:=bD.1 hs;exact⟨d,hd,Z⟩
 unfold Xp HC at hy;rcases bC.1 hy with hy|hy
 ·obtain⟨x,hx,e1,e2,e3⟩:=TU _ _ _ _ _ hy;rw[BN] at hx;obtain⟨s,hs,rfl⟩:=bD.1 hx;obtain⟨hs1,hs2⟩:=List.mem_filter.1 hs;obtain⟨d,hd,rfl⟩:=hmk s hs1;have hg:gdS race F d=true:=by rw[←YI h hd];exact hs2
  have hup:=VN (Aau race F);have hc:=SD _ [] 0 0 (by rw[aZ];exact hup.imp λ{a b} hab=>by have:=HB.1 hab;omega) (.inl Z) y hy;refine⟨d,hd,?_⟩;have e2':y.Time=(svS race F d).Time:=e2;have hcnt:(Sh JH (((Uy race F (Rc race F)).filter (isG (NJ race F))).map (mkR (NJ race F)))).countP (λo=>decide (o.Time<y.Time))=(Rc race F).countP λo=>gdS race F o && decide ((svS race F o).Time<(svS race F d).Time):=by
   rw[(PC _ _).countP_eq,List.countP_map,List.countP_filter,e2'];unfold Uy;rw[List.countP_map];apply List.countP_congr;intro o ho;have ho':=YI h ho;simp only[Function.comp_apply,mkR,ho',bQ];exact And.comm
  have hrank:y.Rank=Yw race F d:=by
   unfold Yw;rw[aQ hg,hc,aZ,hcnt]
  have hfl:y.Fault=(svS race F d).Fault:=by rw[e3];exact TW h hd
  cases y
  simp only[Ed.mk.injEq];exact⟨e1,hrank,e2,hfl⟩
 ·obtain⟨s,hs,rfl⟩:=bD.1 hy;obtain⟨hs1,hs2⟩:=List.mem_filter.1 hs;obtain⟨d,hd,rfl⟩:=hmk s hs1;refine⟨d,hd,?_⟩;have hg:gdS race F d=false:=by rw[←YI h hd];simpa using hs2
  unfold mkR Yw;rw[hg,TW h hd];rfl
theorem rank_ex{F:List Dy}(h:FM F){race:ByteArray}{d:Dy}(hd:d∈Rc race F):Ed.mk d.Who (Yw race F d) (svS race F d).Time (svS race F d).Fault∈Xp race F:=by
 have hm:d.Who∈(Xp race F).map (·.Who):=(HU race F).mem_iff.2 (bJ hd);obtain⟨y,hy,e⟩:=bD.1 hm;obtain⟨d',hd',rfl⟩:=DY h hy;have e':d'.Who=d.Who:=e;have:d'=d:=YD (FC race F) hd' hd e';rw[←this];exact hy
theorem KO{F:List Dy}(h:FM F)(race:ByteArray)(d:Dy):0<=Yw race F d/\Yw race F d<=13:=by
 have:=h.few race;have:=List.countP_le_length (p:=λo=>gdS race F o && decide ((svS race F o).Time<(svS race F d).Time)) (l:=Rc race F);unfold Yw
 split<;>omega
def DB(z:Ec)(r:Int):Ec:=Ec.mk r z.Who z.Club z.Time z.Fault z.Points
def ktL(z:Ec):Int×Int:=(z.Time,z.Fault)
def qtL(t:Int)(a:Int×Int):Bool:=(decide (0<a.1) && decide (a.2=0)) && decide (a.1<t)
theorem PT(X:List Ec)(i:Nat)(z:Ec)(h:X[i]? =some z)(r:Int):(X.set i (DB z r)).map ktL=X.map ktL:=by
 rw[List.map_set];have:ktL (DB z r)=(X.map ktL)[i]'(by rw[aV];exact(List.getElem?_eq_some_iff.1 h).1):=by
  rw[List.getElem_map];obtain⟨hi,e⟩:=List.getElem?_eq_some_iff.1 h;rw[e];rfl
 rw[this,List.set_getElem_self]
theorem nthL{X:List Ec}{i:Nat}{z:Ec}(h:X[i]? =some z):nth X (i:Int)=z:=by unfold nth;simp[List.getD,h]
theorem PU(X0:List Ec)(i2:Nat)(t:Int)(ht:(nth X0 (i2:Int)).Time=t)(j:List Ec->Option (List Ec))(K:List (Int×Int))(hK:K.length<=1000):∀(ys:List Ec) (i3:Nat) (X:List Ec) (z:Ec),X.map ktL=K->X[i2]? =some z->i3+ys.length=K.length->0<=z.Rank->z.Rank+ys.length<=1000000->
 Lb X0 i2 j ys i3 X=j (X.set i2 (DB z (z.Rank+((K.drop i3).countP (qtL t):Nat))))
 |[],i3,X,z,hX,hz,hi,_,_=>by
  obtain⟨hb,e⟩:=List.getElem?_eq_some_iff.1 hz
  rw[Lb,List.drop_of_length_le (by simp at hi;omega)]
  have:DB z (z.Rank+(([]:List (Int×Int)).countP (qtL t):Nat))=X[i2]:=by rw[e];simp[DB]
  rw[this,List.set_getElem_self]
 |y::ys,i3,X,z,hX,hz,hi,h0,h1=>by
  simp only[aT] at hi h1
  have hXl:X.length=K.length:=by rw[←hX,aV]
  have hi3:i3<K.length:=by omega
  obtain⟨hb,e⟩:=List.getElem?_eq_some_iff.1 hz
  obtain⟨o,ho⟩:∃o,X[i3]? =some o:=⟨X[i3]'(by omega),List.getElem?_eq_getElem aA⟩
  have hko:K[i3]=ktL o:=by
   have:(X.map ktL)[i3]? =some (ktL o):=by rw[List.getElem?_map,ho];rfl
   rw[hX,List.getElem?_eq_getElem hi3] at this;exact bH this
  have hd:K.drop i3=ktL o::K.drop (i3+1):=by rw[List.drop_eq_getElem_cons hi3,hko]
  have hq:qtL t (ktL o)=(He o && decide (o.Time<t)):=rfl;rw[Lb];simp only[Jp];rw[Ep (Ih.2 aA),nthL ho,ht,hd,List.countP_cons,hq];have hz2:∀r,(X.set i2 (DB z r))[i2]? =some (DB z r):=λr=>by rw[List.getElem?_set_self aA]
  have hss:∀r r',(X.set i2 (DB z r)).set i2 (DB (DB z r) r')=X.set i2 (DB z r'):=λr r'=>by rw[List.set_set];rfl
  by_cases hc:(He o && decide (o.Time<t))=true
  ·have hw:W (z.Rank+1)=z.Rank+1:=Ng aA aA;rw[aQ hc,Ep (Ih.2 aA),Ep (Ih.2 aA),nthL hz,hw];have ih:=PU X0 i2 t ht j K hK ys (i3+1) (X.set i2 (DB z (z.Rank+1))) (DB z (z.Rank+1)) (by rw[PT X i2 z hz,hX]) (hz2 _) aA (by show 0<=z.Rank+1;omega) (by show z.Rank+1+_<=_;omega);rw[hss] at ih;have he:(DB z (z.Rank+1)).Rank=z.Rank+1:=rfl;rw[he] at ih;rw[aQ hc,show ((List.countP (qtL t) (List.drop (i3+1) K)+1:Nat):Int)=1+(List.countP (qtL t) (List.drop (i3+1) K):Nat) by omega,←Int.add_assoc];exact ih
  ·rw[aP hc,aP hc];exact PU X0 i2 t ht j K hK ys (i3+1) X z hX hz aA h0 aA
def rkL(K:List (Int×Int))(x:Ec):Ec:=if He x then DB x (1+(K.countP (qtL x.Time):Nat)) else x
theorem rkL_kt(K:List (Int×Int))(x:Ec):ktL (rkL K x)=ktL x:=by unfold rkL;split<;>rfl
theorem WA(K:List (Int×Int))(hK:K.length<=1000)(j:List Ec->Option (List Ec)):∀(B A ys:List Ec),ys.length=B.length->(A++B).map ktL=K->Kf j ys A.length (A.map (rkL K)++B)=j ((A++B).map (rkL K))
 |[],A,ys,h,_=>by
  obtain rfl:ys=[]:=List.length_eq_zero_iff.1 h
  rw[Kf];simp
 |b::B,A,[],h,_=>by simp at h
 |b::B,A,y::ys,h,hX=>by
  simp only[aT,Nat.add_right_cancel_iff] at h
  have hKl:K.length=A.length+(B.length+1):=by rw[←hX];simp
  have hg:(A.map (rkL K)++b::B)[A.length]? =some b:=by rw[List.getElem?_append_right aB];simp
  have hl:(A.map (rkL K)++b::B).length=A.length+(B.length+1):=by simp
  have hkt:(A.map (rkL K)++b::B).map ktL=K:=by
   have hA:(A.map (rkL K)).map ktL=A.map ktL:=by
    rw[List.map_map];exact List.map_congr_left λx _=>rkL_kt K x
   rw[List.map_append,hA,←List.map_append,hX]
  have e1:A++b::B=(A++[b])++B:=by simp
  have ih:=WA K hK j B (A++[b]) ys h (by rw[←e1];exact hX);rw[aU,aX,←e1] at ih;have es:∀u,(A.map (rkL K)++b::B).set A.length u=A.map (rkL K)++u::B:=λu=>by
   rw[List.set_append_right _ _ aB];simp
  rw[Kf];simp only[Jp];rw[Ep (Ih.2 (by rw[hl];omega)),nthL hg]
  by_cases hc:He b=true
  ·rw[aP (by rw[hc];simp),Ep (Ih.2 (by rw[hl];omega)),bI];have h3:=PU (A.map (rkL K)++b::B) A.length b.Time (by rw[nthL hg]) (λx6=>Kf j ys (A.length+1) x6) K hK ((A.map (rkL K)++b::B).set A.length (DB b 1)) 0 ((A.map (rkL K)++b::B).set A.length (DB b 1)) (DB b 1) (by rw[PT _ _ _ hg,hkt]) (by rw[List.getElem?_set_self (by rw[hl];omega)]) (by rw[List.length_set,hl];omega) (by show (0:Int)<=1;omega) (by rw[List.length_set,hl];show (1:Int)+_<=_;omega);refine Eq.trans h3 ?_;rw[←ih,List.drop_zero,List.set_set,es,List.map_append];have:rkL K b=DB (DB b 1) ((DB b 1).Rank+(K.countP (qtL b.Time):Nat)):=by unfold rkL;rw[aQ hc];rfl
   rw[←this];simp
  ·rw[aQ (by simpa using hc),←ih,List.map_append];have:rkL K b=b:=by unfold rkL;rw[aP hc]
   simp[this]
def TX(x y:Ec):Bool:=decide (Nc x y<0)
theorem Acm(l:List Ec)(hl:l.length<=19):Im l=some (Sh TX l):=by
 have hs:Ht l 0 (l.length:Int)=some (Sh TX l):=by
  unfold Ht;simp only[Jp];have hins:∀(k:List Ec->Option (List Ec)) (rp:List Ec) (x:Ec) (post:List Ec),((rp++x::post).length:Int)=(l.length:Int)->(∀y,y∈rp\/y=x\/y∈post->y∈(rp++x::post))->
   Eu 0 k (((rp.length:Int)-0).toNat+2) (rp.reverse++x::post) (rp.length:Int)=k ((Xl TX x rp).reverse++post):=by
   intro k rp x post h1 _;exact VE (λx y k=>k (TX x y)) TX k (Eu 0 k) (λ_ _ _=>rfl) rp x post _ aA (by simp at h1;omega) λy _ k'=>rfl
  cases l with
  |nil=>rfl
  |cons x l=>
   have hw:W (0+1)=(([x]:List Ec).length:Int):=rfl;rw[hw];exact KG TX (λx=>some x) (λk x i=>Eu 0 k ((i-0).toNat+2) x i) (Fi ((x::l).length:Int) 0 λx=>some x) ((x::l).length:Int) (λ_ _ _=>rfl)
    (λk rp x post h1 h2=>hins k rp x post h1 h2) l [x] _ (by simp only[aT,aW];omega) (by simp only[aT,aW];omega) (by simp only[aT,aW] at hl ⊢;omega)
 unfold Im Kt;simp only[Jp];rw[Fx,aP aD,hs];simp only[aG];rw[Fy,aP aD];rfl
theorem signN(n:Int):(Qs n<0)↔n<0:=by
 unfold Qs
 by_cases h1:n<0
 ·simp[h1]
 ·by_cases h2:0<n<;>simp[h1,h2]
def lrP(x y:Ec):Prop:=(He x=true/\He y=false)\/(He x=He y/\x.Rank<y.Rank)
theorem ltLn_iff{x y:Ec}(hx:0<=x.Rank/\x.Rank<=13)(hy:0<=y.Rank/\y.Rank<=13):TX x y=true↔lrP x y:=by
 unfold TX lrP Nc;rw[aK]
 cases h1:He x<;>cases h2:He y
 ·simp only[aJ,bN,aO,aR,signN,Ng (show -9223372036854775808<=x.Rank-y.Rank by omega) aA];simp;omega
 ·simp
 ·simp
 ·simp only[aJ,bN,aO,aR,signN,Ng (show -9223372036854775808<=x.Rank-y.Rank by omega) aA];simp;omega
def YJ(x y:Ec):Bool:=decide ((decide (x.Rank=0)=false/\y.Rank=0)\/(decide (x.Rank=0)=decide (y.Rank=0)/\(x.Rank<y.Rank\/(x.Rank=y.Rank/\cB x.Who y.Who<0))))
theorem DZ{x y:Ec}:YJ x y=true↔(x.Rank≠0/\y.Rank=0)\/((x.Rank=0↔y.Rank=0)/\(x.Rank<y.Rank\/(x.Rank=y.Rank/\cB x.Who y.Who<0))):=by
 unfold YJ;rw[aK]
 by_cases h1:x.Rank=0<;>by_cases h2:y.Rank=0<;>simp[h1,h2]
theorem ltLW_irr(x:Ec):YJ x x=false:=by
 rw[←Bool.not_eq_true,DZ,Tz];omega
theorem YK(x y z:Ec)(h1:YJ x y=true)(h2:YJ y z=true):YJ x z=true:=by
 rw[DZ] at*;rcases h1 with ⟨a1,a2⟩|⟨a1,a2|⟨a2,a3⟩⟩<;>rcases h2 with ⟨b1,b2⟩|⟨b1,b2|⟨b2,b3⟩⟩
 all_goals first
  |omega
  |(refine .inl ⟨by omega,by omega⟩)
  |(refine .inr ⟨by omega,.inl aA⟩)
  |(exact .inr ⟨by omega,.inr ⟨by omega,Xd a3 b3⟩⟩)
def toL(C:List (ByteArray×ByteArray))(y:Ed):Ec:=Ec.mk y.Rank y.Who (Em C y.Who An) y.Time y.Fault (Eb.mk 0 1)
def linS(race:ByteArray)(F:List Dy):List Ec:=(Xp race F).map (toL (Ut (Rc race F) []))
def QH(race:ByteArray)(F:List Dy)(d:Dy):Ec:=Ec.mk 0 d.Who d.Club (svS race F d).Time (svS race F d).Fault (Eb.mk 0 1)
theorem LY(l:List Dy)(race:ByteArray)(at_:Int)(hf:IF l)(hs:l.Pairwise λx y=>x.At<=y.At)(j:List Ec->Option (List Ec)):∀(ys:List Dy) (i:Nat) (x:List Ec),x.length+ys.length<=10000->
 La l race at_ j ys i x=j (x++(ys.filter (GA race (Iw l at_))).map (QH race (Iw l at_)))
 |[],i,x,_=>by simp[La]
 |y::ys,i,x,h=>by
  simp only[aT] at h
  rw[La]
  simp only[Jp]
  rw[VX l race y at_ hf hs]
  simp only[aG]
  cases hh:GA race (Iw l at_) y with
  |true=>
   rw[aQ Z,Ep (by unfold Qi;exact aH aA),LY l race at_ hf hs j ys (i+1) _ aD,bR hh,aY]
   simp[QH]
  |false=>
   rw[aP aB,LY l race at_ hf hs j ys (i+1) x aA,bS (by rw[hh];simp)]
theorem Acn{p:Ir}{l:List Dy}{race:ByteArray}{at_:Int}(hf:IF l)(hs:l.Pairwise λx y=>x.At<=y.At)(h:FM (Iw l at_)):Vi p l race at_=some (linS race (Iw l at_)):=by
 have hFl:=h.len;have hel:=HA race (Iw l at_);have hml:=DW race (Iw l at_);have hfew:=h.few race;unfold Vi;rw[CV l race at_ hf hs];simp only[aG,Jp];rw[LY l race at_ hf hs _ _ 0 [] aD,aZ];generalize hF:Iw l at_=F at*;have hout:((BX race F).filter (GA race F)).map (QH race F)=(Rc race F).map (QH race F):=rfl;rw[hout];generalize hO:(Rc race F).map (QH race F)=O;have hOl:O.length<=12:=by rw[←hO,aV];exact hfew
 have hl2:=WA (O.map ktL) (by rw[aV];omega) (λx4=>Option.bind (Im x4) λr3=>some r3) O [] O Z Z;rw[aW,List.map_nil,aZ] at hl2;rw[hl2,Acm _ (by rw[aV];omega)];simp only[aG]
 congr 1
 have hmem:∀x∈O.map (rkL (O.map ktL)),∃d∈Rc race F,x=Ec.mk (Yw race F d) d.Who d.Club (svS race F d).Time (svS race F d).Fault (Eb.mk 0 1):=by
  intro x hx;obtain⟨o,ho,rfl⟩:=bD.1 hx;rw[←hO] at ho;obtain⟨d,hd,rfl⟩:=bD.1 ho;exact⟨d,hd,rk_out hO d⟩
 have hmem2:∀d∈Rc race F,Ec.mk (Yw race F d) d.Who d.Club (svS race F d).Time (svS race F d).Fault (Eb.mk 0 1)∈O.map (rkL (O.map ktL)):=by
  intro d hd;rw[←rk_out (O:=O) hO d];exact bJ (by rw[←hO];exact bJ hd)
 have hgr:∀d∈Rc race F,∀c q,He (Ec.mk (Yw race F d) d.Who c (svS race F d).Time (svS race F d).Fault q)= !decide (Yw race F d=0):=by
  intro d _ c q;have e:He (Ec.mk (Yw race F d) d.Who c (svS race F d).Time (svS race F d).Fault q)=gdS race F d:=rfl;rw[e];unfold Yw
  cases gdS race F d with
  |true=>simp only[aS];simp;omega
  |false=>simp
 have hwho:(O.map (rkL (O.map ktL))).Pairwise λa b=>cB a.Who b.Who<0:=by
  rw[List.pairwise_map,←hO,List.pairwise_map];refine(HT race F).imp λ{a b} hab=>?_;have:∀(K:List (Int×Int)) (d:Dy),(rkL K (QH race F d)).Who=d.Who:=λK d=>by unfold rkL;split<;>rfl
  rw[this,this];exact hab
 have hpair:Sh TX (O.map (rkL (O.map ktL)))=Sh YJ (O.map (rkL (O.map ktL))):=PN _ (List.Pairwise.imp_of_mem (λ{a b} ha hb hab=>by
  obtain⟨d,hd,rfl⟩:=hmem a ha;obtain⟨e,he,rfl⟩:=hmem b hb;have r1:=KO h race d;have r2:=KO h race e;rw[Bool.eq_iff_iff,ltLn_iff r2 r1,DZ];unfold lrP;rw[hgr d hd,hgr e he];have hfl:=Zu d.Who e.Who;have hab':cB d.Who e.Who<0:=hab;simp only
  by_cases z1:Yw race F d=0<;>by_cases z2:Yw race F e=0<;>simp only[z1,z2,aJ,decide_false,bN,Bool.not_false]<;>simp<;>omega) hwho)
 rw[hpair];refine GX ltLW_irr YK _ _ (hwho.imp λ{a b} hab hb=>?_) ?_ λx=>⟨λhx=>?_,λhx=>?_⟩
 ·rw[←Bool.not_eq_true,DZ] at hb;rw[DZ];omega
 ·unfold linS;rw[List.pairwise_map];refine(Aav race F).imp λ{a b} hab=>?_;rw[DZ];have e1:∀C y,(toL C y).Rank=y.Rank:=λ_ _=>rfl;have e2:∀C y,(toL C y).Who=y.Who:=λ_ _=>rfl;rw[e1,e1,e2,e2];rcases hab with ⟨h1,h2,h3,h4,h5,h6⟩|⟨h1,h2⟩|⟨h1,h2,h3⟩
  ·refine .inr ⟨by omega,?_⟩
   by_cases e:a.Rank=b.Rank
   ·exact .inr ⟨e,h6 (h5.1 e)⟩
   ·exact .inl aA
  ·exact .inl ⟨by omega,h2⟩
  ·exact .inr ⟨by omega,.inr ⟨by omega,h3⟩⟩
 ·obtain⟨d,hd,rfl⟩:=hmem x hx;refine bD.2 ⟨_,rank_ex h hd,?_⟩;unfold toL;rw[JJ _ [] d hd (FC race F)]
 ·obtain⟨y,hy,rfl⟩:=bD.1 hx;obtain⟨d,hd,rfl⟩:=DY h hy;have:toL (Ut (Rc race F) []) (Ed.mk d.Who (Yw race F d) (svS race F d).Time (svS race F d).Fault)=Ec.mk (Yw race F d) d.Who d.Club (svS race F d).Time (svS race F d).Fault (Eb.mk 0 1):=by
   unfold toL;rw[JJ _ [] d hd (FC race F)]
  rw[this];exact hmem2 d hd
where
 rk_out {race:ByteArray} {F:List Dy} {O:List Ec} (hO:(Rc race F).map (QH race F)=O) (d:Dy):rkL (O.map ktL) (QH race F d)=Ec.mk (Yw race F d) d.Who d.Club (svS race F d).Time (svS race F d).Fault (Eb.mk 0 1):=by
  have e:He (QH race F d)=gdS race F d:=rfl;have hc:(O.map ktL).countP (qtL (QH race F d).Time)=(Rc race F).countP λo=>gdS race F o && decide ((svS race F o).Time<(svS race F d).Time):=by
   rw[←hO,List.map_map,List.countP_map];exact List.countP_congr λo _=>Iff.rfl
  unfold rkL Yw;rw[e,hc]
  cases gdS race F d<;>rfl
structure LG(l:List Dy):Prop where
 ok:DsG l
 names:∀d∈l,d.Who∈LV/\d.Club∈CU
 len:l.length<=40
theorem idxR_l(key:ByteArray):∀(l:List Eh) (i:Nat),(l.map (·.Key)).Nodup->∀r∈l,r.Key=key->∃k:Nat,Fz key (-1) l i=((i+k:Nat):Int)/\l[k]? =some r
 |[],_,_,r,h,_=>by cases h
 |x::l,i,hn,r,h,hk=>by
  rw[Fz]
  unfold Ys
  simp only[aY,bT] at hn
  by_cases hx:x.Key=key
  ·rw[aQ (aH hx)]
   rcases bB.1 h with rfl|h
   ·exact⟨0,by simp,Z⟩
   ·exact absurd (bJ (f:=(·.Key)) h) (by rw[hk,←hx];exact hn.1)
  ·rw[aP (by simpa using hx)]
   rcases bB.1 h with rfl|h
   ·exact absurd hk hx
   ·obtain⟨k,e1,e2⟩:=idxR_l key l (i+1) hn.2 r h hk
    exact⟨k+1,by rw[e1];congr 1;omega,by simpa using e2⟩
theorem LG.of{x:List Dy}(h:DsG x)(hn:∀d∈x,NameD d)(hl:x.length<=40):LG x:=⟨h,λd hd=>⟨(hn d hd).who,(hn d hd).club⟩,hl⟩
def WB(x y:Et):Bool:=decide (Ya x y<0)
theorem KP(x y:Et):WB x y=decide (cB x.Key y.Key<0):=rfl
theorem ltCl_irr(x:Et):WB x x=false:=by rw[KP,Tz];rfl
theorem YL(x y z:Et)(h1:WB x y=true)(h2:WB y z=true):WB x z=true:=by
 rw[KP,aK] at*;exact Xd h1 h2
theorem ltCl_tot{l:List Et}(h:(l.map (·.Key)).Nodup):l.Pairwise λa b=>WB b a=false->WB a b=true:=by
 refine(List.pairwise_map.1 h).imp λ{a b} hne hb=>?_;rw[KP,aL] at hb;rw[KP,aK];have h0:cB a.Key b.Key≠0:=λe=>hne (BJ e);have:=Zu a.Key b.Key;omega
structure MF(m:List (ByteArray×Eb))(K:ByteArray->Prop)(u:ByteArray->Nat):Prop where
 nd:(m.map (·.1)).Nodup
 keys:∀k,k∈m.map (·.1)↔K k
 vals:∀k,K k->Em m k (Eb.mk 0 0)=fr (u k)
theorem MF.put{m:List (ByteArray×Eb)}{K:ByteArray->Prop}{u:ByteArray->Nat}(h:MF m K u)(k:ByteArray)(v:Nat):MF (Hv m k (fr v)) (λz=>z=k\/K z) (λz=>if z=k then v else u z):=by
 obtain⟨a,b⟩:=NX k (fr v) m h.nd;refine⟨a,λz=>by rw[b z,h.keys z],λz hz=>?_⟩;rw[Yj]
 by_cases e:z=k
 ·rw[aQ e,aQ e]
 ·rw[aP e,aP e];rcases hz with hz|hz
  ·exact(e hz).elim
  ·exact h.vals z hz
theorem MF.congr{m:List (ByteArray×Eb)}{K K':ByteArray->Prop}{u u':ByteArray->Nat}(h:MF m K u)(hk:∀k,K k↔K' k)(hu:∀k,K' k->u k=u' k):MF m K' u':=
 ⟨h.nd,λk=>(h.keys k).trans (hk k),λk hk'=>by rw[h.vals k ((hk k).2 hk'),hu k hk']⟩
theorem SE{ν:Type}(k:ByteArray):∀(m:List (ByteArray×ν)) (i:Nat),(Pn m k i).isSome=true↔k∈m.map (·.1)
 |[],_=>by simp[Pn]
 |(q,u)::m,i=>by
  by_cases e:k=q
  ·simp[Pn,e]
  ·simp only[Pn,e,aR,aY,bB,false_or]
   exact SE k m (i+1)
theorem WC{ν:Type}(k:ByteArray)(m:List (ByteArray×ν)):(Tc m k).isSome=true↔k∈m.map (·.1):=by
 unfold Tc;rw[Option.isSome_map,SE k m 0]
theorem WD(j:List Et->Option (List Et×Int)):∀(p:List (ByteArray×Eb)) (x:List Et),x.length+p.length<=1000000->Pv j p x=j (x++p.map λe=>Et.mk e.1 e.2)
 |[],x,_=>by simp[Pv]
 |y::p,x,h=>by
  simp only[aT] at h
  rw[Pv,Ep (by unfold Qi;exact aH aA)]
  simp only[aG]
  rw[WD j p (x++[Et.mk y.1 y.2]) aD]
  simp
theorem WE{a b c:ByteArray}(h:a++b=a++c):b=c:=by
 have h1:=congrArg (λx=>x.data.toList) h;simp only[ByteArray.data_append,Array.toList_append] at h1;have h2:=List.append_cancel_left h1;obtain⟨⟨b⟩⟩:=b;obtain⟨⟨c⟩⟩:=c;simp only at h2;rw[h2]
theorem WG(G:List Et)(k:ByteArray):∀(m:List (ByteArray×Eb)),(∀y∈G,y.Key≠k)->Tc (ofS G m) k=Tc m k:=by
 unfold ofS
 induction G with
 |nil=>intro m _;rfl
 |cons g G ih=>
  intro m h;rw[List.foldl_cons,ih _ λy hy=>h y (aM _ hy)];have e:Tc (Hv m g.Key g.Points) k=if k=g.Key then some g.Points else Tc m k:=DT g.Key k g.Points m 0;rw[e,aP λe=>h g aN e.symm]
theorem ofS_some(G:List Et)(g:Et)(hg:g∈G)(hn:(G.map (·.Key)).Nodup):∀(m:List (ByteArray×Eb)),Tc (ofS G m) g.Key=some g.Points:=by
 induction G with
 |nil=>cases hg
 |cons z G ih=>
  intro m;simp only[aY,bT] at hn;have e:ofS (z::G) m=ofS G (Hv m z.Key z.Points):=rfl;rw[e];rcases bB.1 hg with rfl|hg
  ·rw[WG G g.Key _ λy hy e=>hn.1 (by rw[←e];exact bJ hy)];have e:Tc (Hv m g.Key g.Points) g.Key=if g.Key=g.Key then some g.Points else Tc m g.Key:=DT g.Key g.Key g.Points m 0;rw[e,aQ Z]
  ·exact ih hg hn.2 _
theorem WH{x y:Ea}(hx:RR x)(hy:RR y):decide (Th x y<0)=DA x y:=by
 have hc:Gm x.Race y.Race=cB x.Race y.Race:=rfl;have hw:Gm x.Who y.Who=cB x.Who y.Who:=rfl;have hor:∀a b c:Int,Xx [a,b,c]=if a≠0 then a else if b≠0 then b else c:=λa b c=>by
  unfold Xx;simp only[Ie];rw[Pa,Pa,Pa,Pa]
  by_cases h1:a=0
  ·by_cases h2:b=0
   ·by_cases h3:c=0
    ·simp[h1,h2,h3]
    ·simp[h1,h2,h3]
   ·simp[h1,h2]
  ·simp[h1]
 have k1:=TS hx;have k2:=TS hy;have hk:Nq x.Rank y.Rank=kR x-kR y:=by
  unfold Nq;simp only[Ie];have e:kR x-kR y=W (kR x-kR y):=(Ng aA aA).symm;rw[e];unfold kR
  by_cases a:x.Rank=0
  ·by_cases b:y.Rank=0
   ·simp[a,b]
   ·simp[a,b]
  ·by_cases b:y.Rank=0
   ·simp[a,b]
   ·simp[a,b]
 unfold Th DA;rw[hc,hw,hk,hor,decide_eq_decide]
 by_cases e:x.Race=y.Race
 ·rw[e,Tz]
  by_cases k:kR x=kR y
  ·simp[k]
  ·simp only[ne_eq,not_true_eq_false,aR];rw[aQ aA];simp[k];omega
 ·have:cB x.Race y.Race≠0:=λh=>e (BJ h);rw[aQ this];simp[e]
theorem ge_lex{x y:Ea}(hx:RR x)(hy:RR y):decide (0<=Th x y)= !DA x y/\decide (0<=Oh x y)= !DA x y:=by
 rw[←WH hx hy];refine⟨?_,?_⟩
 ·rw[←decide_not,decide_eq_decide];omega
 ·rw[WH hx hy,←Ach hx hy,←decide_not,decide_eq_decide];omega
theorem Aaw(l:List Ea)(hl:l.length<=1000):∀(ys dn:List Ea),l=dn++ys->(∀x∈dn,RR x)->dn.Pairwise (λx y=>DA x y=true)->
 (∃e,e≠0/\∀j,Hc l j ys dn.length=some e/\Ge l j ys dn.length=some e)\/
 (l.Pairwise (λx y=>DA x y=true)/\(∀x∈l,RR x)/\∀j,Hc l j ys dn.length=j/\Ge l j ys dn.length=j)
 |[],dn,h,h1,h2=>by
  rw[List.append_nil] at h;subst h
  exact .inr ⟨h2,h1,λj=>⟨Z,Z⟩⟩
 |y::ys,dn,h,h1,h2=>by
  obtain⟨b1,p1,q1⟩:=Vv y.Race
  obtain⟨b2,p2,q2⟩:=Vv y.Who
  obtain⟨b3,p3,q3⟩:=Vv y.Club
  have five:∀j,b1=false\/b2=false\/(y.Club≠An/\b3=false)->Hc l j (y::ys) dn.length=some 5/\Ge l j (y::ys) dn.length=some 5:=by
   intro j hb;rw[Hc,Ge,p1,q1,p2,q2,p3,q3];simp only[aG,Ie];rcases hb with rfl|rfl|⟨hc,rfl⟩
   ·simp
   ·cases b1<;>simp
   ·cases b1<;>cases b2<;>simp[hc]
  by_cases g1:b1=false
  ·exact .inl ⟨5,by decide,λj=>five j (.inl g1)⟩
  by_cases g2:b2=false
  ·exact .inl ⟨5,by decide,λj=>five j (.inr (.inl g2))⟩
  by_cases g3:y.Club≠An/\b3=false
  ·exact .inl ⟨5,by decide,λj=>five j (.inr (.inr g3))⟩
  have e1:b1=true:=by simpa using g1
  have e2:b2=true:=by simpa using g2
  have step:∀j,Hc l j (y::ys) dn.length=(if !(Ej y.Rank 0 300) then some 1 else if decide (0<(dn.length:Int)) then Chk (inB (W ((dn.length:Int)-1)) l.length) (if decide (0<=(Th (nth l (W ((dn.length:Int)-1))) y)) then some 7 else Hc l j ys (dn.length+1)) else Hc l j ys (dn.length+1))/\
   Ge l j (y::ys) dn.length=(if !(Ej y.Rank 0 300) then some 1 else if decide (0<(dn.length:Int)) then Chk (inB (W ((dn.length:Int)-1)) l.length) (if decide (0<=(Oh (nth l (W ((dn.length:Int)-1))) y)) then some 7 else Ge l j ys (dn.length+1)) else Ge l j ys (dn.length+1)):=by
   intro j;have hw:Ik=Ej:=rfl;rw[Hc,Ge,p1,q1,p2,q2,p3,q3,hw,e1,e2];simp only[aG,Ie]
   by_cases hc:y.Club=An
   ·simp[hc]
   ·have:b3=true:=by
     cases b3 with
     |true=>rfl
     |false=>exact(g3 ⟨hc,Z⟩).elim
    simp[hc,this]
  by_cases hr:Ej y.Rank 0 300=true
  ·have hry:RR y:=by
    unfold Ej at hr;simp only[bQ,aK] at hr;exact hr
   have next:dn.Pairwise (λx y=>DA x y=true)->(∀x∈dn,DA x y=true)->∀(_:∀j,Hc l j (y::ys) dn.length=Hc l j ys (dn.length+1)/\Ge l j (y::ys) dn.length=Ge l j ys (dn.length+1)),
    (∃e,e≠0/\∀j,Hc l j (y::ys) dn.length=some e/\Ge l j (y::ys) dn.length=some e)\/
    (l.Pairwise (λx y=>DA x y=true)/\(∀x∈l,RR x)/\∀j,Hc l j (y::ys) dn.length=j/\Ge l j (y::ys) dn.length=j):=by
    intro k1 k2 k3;have ih:=Aaw l hl ys (dn++[y]) (by rw[h];simp) (λx hx=>by
     rcases bC.1 hx with hx|hx
     ·exact h1 x hx
     ·obtain rfl:=bA.1 hx;exact hry) (by
     rw[bK];exact⟨k1,by simp,λx hx z hz=>by obtain rfl:=bA.1 hz;exact k2 x hx⟩)
    rw[aU,aX] at ih;simp only[λj=>(k3 j).1,λj=>(k3 j).2];exact ih
   rcases List.eq_nil_or_concat dn with rfl|⟨d,x,rfl⟩
   ·refine next h2 (λx hx=>by cases hx) (λj=>?_);have s:=step j;rw[hr] at s;simpa using s
   ·simp only[List.concat_eq_append] at*;have hlen:((d++[x]).length:Int)=(d.length:Int)+1:=by simp
    have hdl:d.length<=1000:=by rw[h] at hl;simp at hl;omega
    have hw:W (((d++[x]).length:Int)-1)=(d.length:Int):=by
     rw[hlen,show (d.length:Int)+1-1=(d.length:Int) by omega,Ng aA aA]
    have hn:nth l (d.length:Int)=x:=by unfold nth;rw[h];simp
    have hin:inB (d.length:Int) l.length=true:=by rw[Ih,h];simp;omega
    have hpos:decide (0<((d++[x]).length:Int))=true:=by rw[hlen];simp
    have hrx:RR x:=h1 x aB;obtain⟨c1,c2⟩:=ge_lex hrx hry;rw[hw,hn,hpos,hr,c1,c2] at step;simp only[bN,aO,aR,aS,Ep hin] at step
    cases hlx:DA x y with
    |false=>
     rw[hlx] at step;exact .inl ⟨7,by decide,λj=>by simpa using step j⟩
    |true=>
     rw[hlx] at step;refine next h2 (λz hz=>?_) (λj=>by simpa using step j);rcases bC.1 hz with hz|hz
     ·rw[bK] at h2;exact YB z x y (h2.2.2 z hz x aB) hlx
     ·obtain rfl:=bA.1 hz;exact hlx
  ·refine .inl ⟨1,by decide,λj=>?_⟩;have s:=step j;simp only[Bool.not_eq_true] at hr;rw[hr] at s;simpa using s
theorem groups:∀(l:List Ea),l.Pairwise (λx y=>DA x y=true)->∃Gs:List (List Ea),l=Gs.flatten/\(∀g∈Gs,One g)/\Gs.Pairwise (λg g'=>∀x∈g,∀y∈g',x.Race≠y.Race)
 |[],_=>⟨[],Z,(λ_ h=>by cases h),List.Pairwise.nil⟩
 |x::r,h=>by
  obtain⟨hx,hr⟩:=List.pairwise_cons.1 h
  obtain⟨Gs,e,h1,h2⟩:=groups r hr
  cases Gs with
  |nil=>exact⟨[[x]],by rw[e];rfl,λg hg=>by
   obtain rfl:=bA.1 hg
   exact⟨by simp,λa ha b hb=>by obtain rfl:=bA.1 ha;obtain rfl:=bA.1 hb;rfl⟩,by simp⟩
  |cons g Gs=>
   obtain⟨k1,k2⟩:=List.pairwise_cons.1 h2
   have hg:=h1 g aN
   obtain⟨z,g',rfl⟩:∃z g',g=z::g':=by
    cases g with
    |nil=>exact(hg.1 Z).elim
    |cons z g'=>exact⟨z,g',Z⟩
   by_cases hz:x.Race=z.Race
   ·refine⟨(x::z::g')::Gs,by rw[e];rfl,λq hq=>?_,List.pairwise_cons.2 ⟨λq hq a ha b hb=>?_,k2⟩⟩
    ·rcases bB.1 hq with rfl|hq
     ·refine⟨by simp,λa ha b hb=>?_⟩;have all:∀c∈x::z::g',c.Race=z.Race:=λc hc=>by
       rcases bB.1 hc with rfl|hc
       ·exact hz
       ·exact hg.2 c hc z aB
      rw[all a ha,all b hb]
     ·exact h1 q (aM _ hq)
    ·rcases bB.1 ha with rfl|ha
     ·rw[hz];exact k1 q hq z aB b hb
     ·exact k1 q hq a ha b hb
   ·have lt:∀b∈r,cB x.Race b.Race<0:=λb hb=>by
     have hzr:z∈r:=by rw[e];simp
     have xz:cB x.Race z.Race<0:=by
      rcases HD.1 (hx z hzr) with h|⟨h,_⟩
      ·exact h
      ·exact(hz h).elim
     rw[e] at hr hb;rw[List.flatten_cons,List.cons_append] at hr hb;rcases bB.1 hb with rfl|hb
     ·exact xz
     ·rcases HD.1 ((List.pairwise_cons.1 hr).1 b hb) with h|⟨h,_⟩
      ·exact Xd xz h
      ·rw[←h];exact xz
    refine⟨[x]::(z::g')::Gs,by rw[e];rfl,λq hq=>?_,List.pairwise_cons.2 ⟨λq hq a ha b hb=>?_,h2⟩⟩
    ·rcases bB.1 hq with rfl|hq
     ·exact⟨by simp,λa ha b hb=>by obtain rfl:=bA.1 ha;obtain rfl:=bA.1 hb;rfl⟩
     ·exact h1 q hq
    ·obtain rfl:=bA.1 ha;have:b∈r:=by rw[e];exact List.mem_flatten.2 ⟨q,hq,hb⟩
     have h3:=lt b this;intro e';rw[e',Tz] at h3;omega
def Wp(l:List Ea)(y:Ea):Nat:=l.countP λo=>decide (o.Race=y.Race) && (decide (0<o.Rank) && decide (o.Rank<y.Rank))
def FN(l:List Ea)(y:Ea):Nat:=l.countP λo=>decide (o.Race=y.Race) && decide (o.Rank=y.Rank)
def St(l:List Ea)(y:Ea):Bool:=decide (0<y.Rank) && !decide (y.Rank=(Wp l y:Int)+1)
def AD(l:List Ea)(y:Ea):Bool:=decide (0<y.Rank) && decide (10<(FN l y:Int))
def LZ(l:List Ea)(y:Ea):Bool:=l.any λo=>decide (o.Race=y.Race) && !decide (o.Relay=y.Relay)
def twI(y:Ea)(i:Nat):List Ea->Nat->Bool
 |[],_=>false
 |o::os,k=>(decide (o.Race=y.Race) && (!decide ((k:Int)=(i:Int)) && decide (o.Who=y.Who)))||twI y i os (k+1)
def twR(l:List Ea):List Ea->Nat->Bool
 |[],_=>false
 |y::ys,i=>twI y i l 0||twR l ys (i+1)
theorem YM(y:Ea)(i:Nat)(j:Bool->Bool->Int->Int->Option Int):∀(ys:List Ea) (k:Nat) (x6 x7:Bool) (x8 x9:Int),0<=x8->x8+ys.length<=10000->0<=x9->x9+ys.length<=10000->
 Jb y i j ys k x6 x7 x8 x9=j (x6||twI y i ys k) (x7||LZ ys y) (x8+Wp ys y) (x9+FN ys y)
 |[],k,x6,x7,x8,x9,_,_,_,_=>by simp[Jb,twI,LZ,Wp,FN]
 |o::ys,k,x6,x7,x8,x9,h1,h2,h3,h4=>by
  simp only[aT] at h2 h4
  rw[Jb]
  simp only[Ie]
  by_cases hr:o.Race=y.Race
  ·rw[aP (by simp[hr])]
   have go:∀(u v:Int),u=x8+(if(decide (0<o.Rank) && decide (o.Rank<y.Rank))=true then 1 else 0)->v=x9+(if decide (o.Rank=y.Rank)=true then 1 else 0)->
    Jb y i j ys (k+1) (x6||((!decide ((k:Int)=(i:Int))) && (decide (o.Who=y.Who)))) (x7||(!decide (o.Relay=y.Relay))) u v=j (x6||twI y i (o::ys) k) (x7||LZ (o::ys) y) (x8+Wp (o::ys) y) (x9+FN (o::ys) y):=by
    intro u v hu hv;rw[YM y i j ys (k+1) _ _ u v (by split at hu<;>omega) (by split at hu<;>omega) (by split at hv<;>omega) (by split at hv<;>omega)];have t1:twI y i (o::ys) k=(((!decide ((k:Int)=(i:Int))) && (decide (o.Who=y.Who)))||twI y i ys (k+1)):=by rw[twI,hr];simp
    have t2:LZ (o::ys) y=((!decide (o.Relay=y.Relay))||LZ ys y):=by unfold LZ;rw[List.any_cons,hr];simp
    have t3:(Wp (o::ys) y:Int)=(Wp ys y:Int)+(if(decide (0<o.Rank) && decide (o.Rank<y.Rank))=true then 1 else 0):=by
     unfold Wp;rw[List.countP_cons,hr];simp only[aJ,bO]
     split<;>simp
    have t4:(FN (o::ys) y:Int)=(FN ys y:Int)+(if decide (o.Rank=y.Rank)=true then 1 else 0):=by
     unfold FN;rw[List.countP_cons,hr];simp only[aJ,bO]
     split<;>simp
    rw[t1,t2,t3,t4,hu,hv,Bool.or_assoc,Bool.or_assoc]
    congr 1<;>omega
   by_cases c1:(decide (0<o.Rank) && decide (o.Rank<y.Rank))=true
   ·rw[aQ c1,Ng (n:=x8+1) aA aA]
    by_cases c2:decide (o.Rank=y.Rank)=true
    ·rw[aQ c2,Ng (n:=x9+1) aA aA];exact go _ _ (by rw[aQ c1]) (by rw[aQ c2])
    ·rw[aP c2];exact go _ _ (by rw[aQ c1]) (by rw[aP c2];omega)
   ·rw[aP c1]
    by_cases c2:decide (o.Rank=y.Rank)=true
    ·rw[aQ c2,Ng (n:=x9+1) aA aA];exact go _ _ (by rw[aP c1];omega) (by rw[aQ c2])
    ·rw[aP c2];exact go _ _ (by rw[aP c1];omega) (by rw[aP c2];omega)
  ·rw[aQ (by simp[hr]),YM y i j ys (k+1) _ _ x8 x9 h1 aA h3 aA];simp[twI,LZ,Wp,FN,hr]
theorem ref_l2(l:List Ea)(hl:l.length<=1000)(j:Bool->Bool->Bool->Bool->Option Int):∀(ys:List Ea) (i:Nat) (x2 x3 x4 x5:Bool),
 Jc l j ys i x2 x3 x4 x5=j (x2||twR l ys i) (x3||ys.any (LZ l)) (x4||ys.any (St l)) (x5||ys.any (AD l))
 |[],i,x2,x3,x4,x5=>by simp[Jc,twR]
 |y::ys,i,x2,x3,x4,x5=>by
  rw[Jc]
  simp only[Ie]
  rw[YM y i _ l 0 x2 x3 0 0 aA aA aA aA]
  have hb:Wp l y<=1000:=Nat.le_trans List.countP_le_length hl
  rw[ref_l2 l hl j ys (i+1)]
  simp only[Int.zero_add,twR,List.any_cons,Bool.or_assoc,St,AD]
  rw[Ng aA aA]
theorem Aco(l:List Ea)(hl:l.length<=1000):Jc l (fun(x2:Bool) (x3:Bool) (x4:Bool) (x5:Bool)=>Kg (some 0) ([(Hd.mk x2 6),(Hd.mk x3 3),(Hd.mk x4 16),(Hd.mk x5 12)]:List Hd) 0) l 0 false false false false=
 some (if twR l l 0 then 6 else if l.any (LZ l) then 3 else if l.any (St l) then 16 else if l.any (AD l) then 12 else 0):=by
 rw[ref_l2 l hl];simp only[Bool.false_or,Kg]
 cases twR l l 0<;>cases l.any (LZ l)<;>cases l.any (St l)<;>cases l.any (AD l)<;>rfl
def Dif(x y:Ea):Prop:=¬(x.Race=y.Race/\x.Who=y.Who)
theorem TY(y:Ea)(i:Nat):∀(l:List Ea) (k:Nat),twI y i l k=true↔∃(q:Nat) (o:Ea),l[q]? =some o/\o.Race=y.Race/\k+q≠i/\o.Who=y.Who
 |[],k=>by simp[twI]
 |o::l,k=>by
  rw[twI,Bool.or_eq_true,TY y i l (k+1)]
  constructor
  ·rintro(h|⟨q,z,h1,h2,h3,h4⟩)
   ·simp only[bQ,aK,Bool.not_eq_true',aL] at h
    exact⟨0,o,Z,h.1,by omega,h.2.2⟩
   ·exact⟨q+1,z,h1,h2,by omega,h4⟩
  ·rintro⟨q,z,h1,h2,h3,h4⟩
   cases q with
   |zero=>
    left
    have:o=z:=by simpa using h1
    subst this
    simp only[bQ,aK,Bool.not_eq_true',aL]
    exact⟨h2,by omega,h4⟩
   |succ q=>right;exact⟨q,z,h1,h2,by omega,h4⟩
theorem Aax(l:List Ea):∀(ys:List Ea) (i:Nat),twR l ys i=true↔∃(p:Nat) (y:Ea),ys[p]? =some y/\twI y (i+p) l 0=true
 |[],i=>by simp[twR]
 |y::ys,i=>by
  rw[twR,Bool.or_eq_true,Aax l ys (i+1)]
  constructor
  ·rintro(h|⟨p,z,h1,h2⟩)
   ·exact⟨0,y,Z,h⟩
   ·exact⟨p+1,z,h1,by rw[show i+(p+1)=i+1+p by omega];exact h2⟩
  ·rintro⟨p,z,h1,h2⟩
   cases p with
   |zero=>
    left
    have:y=z:=by simpa using h1
    subst this
    exact h2
   |succ p=>right;exact⟨p,z,h1,by rw[show i+1+p=i+(p+1) by omega];exact h2⟩
theorem WI(l:List Ea):twR l l 0=false↔l.Pairwise Dif:=by
 rw[←Bool.not_eq_true,Aax,List.pairwise_iff_getElem];constructor
 ·intro h i j hi hj hij hd;refine h ⟨i,l[i],by simp,?_⟩;rw[TY];exact⟨j,l[j],by simp,hd.1.symm,by omega,hd.2.symm⟩
 ·rintro h ⟨p,y,h1,h2⟩;obtain⟨q,o,h3,h4,h5,h6⟩:=(TY _ _ _ _).1 h2;obtain⟨hp,rfl⟩:=List.getElem?_eq_some_iff.1 h1;obtain⟨hq,rfl⟩:=List.getElem?_eq_some_iff.1 h3;rcases Nat.lt_or_ge p q with g|g
  ·exact h p q hp hq g ⟨h4.symm,h6.symm⟩
  ·exact h q p hq hp aA ⟨h4,h6⟩
theorem WJ(j:List (Ft×Bool)->Option Int)(l:List Ea)(hw:l.Pairwise Dif):∀(ys dn:List Ea) (m:List (Ft×Bool)),l=dn++ys->(∀e,Em m e false=true->∃x∈dn,e=Ft.mk x.Race x.Who)->
 ∃m',Lm j ys dn.length m=j m'
 |[],dn,m,_,_=>⟨m,Z⟩
 |y::ys,dn,m,h1,h2=>by
  have hno:Em m (Ft.mk y.Race y.Who) false=false:=by
   cases hm:Em m (Ft.mk y.Race y.Who) false with
   |false=>rfl
   |true=>
    obtain⟨x,hx,e⟩:=h2 _ hm;rw[h1,bK] at hw;injection e with e1 e2
    exact(hw.2.2 x hx y aN ⟨e1.symm,e2.symm⟩).elim
  rw[Lm,hno,aP aB];obtain⟨m',e⟩:=WJ j l hw ys (dn++[y]) (Hv m (Ft.mk y.Race y.Who) true) (by rw[h1];simp) (λe he=>by
   rw[Yj] at he
   split at he
   ·rename_i hk;exact⟨y,by simp,hk⟩
   ·obtain⟨x,hx,e'⟩:=h2 e he;exact⟨x,by simp[hx],e'⟩)
  rw[aU,aX] at e;exact⟨m',e⟩
theorem SF(j:List (Ft×Bool)->Option Int):∀(ys dn:List Ea) (m:List (Ft×Bool)) (i:Nat),dn.Pairwise Dif->¬(dn++ys).Pairwise Dif->(∀x∈dn,Em m (Ft.mk x.Race x.Who) false=true)->
 Lm j ys i m=some 6
 |[],dn,m,i,h1,h2,_=>by rw[List.append_nil] at h2;exact(h2 h1).elim
 |y::ys,dn,m,i,h1,h2,h3=>by
  rw[Lm]
  by_cases hm:Em m (Ft.mk y.Race y.Who) false=true
  ·rw[aQ hm]
  ·rw[aP hm]
   refine SF j ys (dn++[y]) _ (i+1) ?_ (by rw[List.append_assoc];exact h2) (λx hx=>?_)
   ·rw[bK]
    refine⟨h1,by simp,λx hx z hz hd=>?_⟩
    obtain rfl:=bA.1 hz
    refine hm ?_
    rw[←hd.1,←hd.2]
    exact h3 x hx
   ·rw[Yj]
    split
    ·rfl
    ·rename_i hk
     rcases bC.1 hx with hx|hx
     ·exact h3 x hx
     ·obtain rfl:=bA.1 hx;exact(hk Z).elim
theorem idx_l(g:List Ea)(hin:inB 0 g.length=true):∀(ys:List Ea) (i:Nat),∃r,Fw g (some (-1)) ys i=some r/\decide (0<=r)=ys.any λx=>!decide (x.Relay=(nth g 0).Relay)
 |[],i=>⟨-1,Z,by simp⟩
 |y::ys,i=>by
  rw[Fw]
  unfold Wr
  rw[Ep hin,aG]
  cases hc: !decide (y.Relay=(nth g 0).Relay) with
  |true=>rw[aQ Z];exact⟨i,Z,by simp[hc]⟩
  |false=>
   rw[aP aB]
   obtain⟨r,e1,e2⟩:=idx_l g hin ys (i+1)
   exact⟨r,e1,by rw[e2,List.any_cons,hc,Bool.false_or]⟩
def TZ(g:List Ea):Bool:=g.any λx=>!decide (x.Relay=(nth g 0).Relay)
theorem chk_l2(j:Option Int):∀(Gs:List (List Ea)) (i:Nat),(∀g∈Gs,One g)->Mj j Gs i=if Gs.any TZ then some 3 else j
 |[],_,_=>rfl
 |g::Gs,i,h=>by
  have hg:=(h g aN).1
  have hin:inB 0 g.length=true:=Ih.2 ⟨Int.le_refl _,by cases g with|nil=>exact(hg rfl).elim|cons a b=>simp⟩
  rw[Mj]
  unfold Le Lv
  simp only[Ie]
  obtain⟨r,e1,e2⟩:=idx_l g hin g 0
  rw[e1,aG,aG,e2,List.any_cons]
  rw[chk_l2 j Gs (i+1) (λq hq=>h q (aM _ hq))]
  show (if TZ g=true then _ else _)=_
  cases TZ g<;>rfl
structure Gr(g:List Ea):Prop where
 race:∀x∈g,∀y∈g,x.Race=y.Race
 ord:g.Pairwise λx y=>DA x y=true
 rr:∀x∈g,RR x
 len:g.length<=1000
theorem Gr.le{g:List Ea}(h:Gr g):g.Pairwise λx y=>kR x<=kR y:=by
 have h2:g.Pairwise λx y=>x.Race=y.Race:=by
  rw[List.pairwise_iff_getElem];exact λi j hi hj _=>h.race _ (List.getElem_mem hi) _ (List.getElem_mem hj)
 refine(h.ord.and h2).imp ?_;rintro x y ⟨a,b⟩;rcases HD.1 a with a|⟨_,a⟩
 ·rw[b,Tz] at a;omega
 ·omega
theorem DC{x:Ea}(h:RR x)(h':0<x.Rank):kR x=x.Rank:=by unfold kR;rw[aP aA]
theorem EA{x:Ea}(h:RR x)(h':kR x<=300):kR x=x.Rank/\0<x.Rank:=by
 have:=h.1;unfold kR at h' ⊢
 split at h'
 ·omega
 ·rename_i hz;rw[aP hz];omega
theorem FD{g dn ys:List Ea}{y:Ea}(h:Gr g)(hg:g=dn++y::ys)(hp:0<y.Rank):Wp g y=dn.countP λo=>decide (0<o.Rank) && decide (o.Rank<y.Rank):=by
 have hy:y∈g:=by rw[hg];simp
 have hle:=h.le;rw[hg,bK,List.pairwise_cons] at hle;have ky:=DC (h.rr y hy) hp;unfold Wp;rw[hg,List.countP_append,List.countP_cons];have z:ys.countP (λo=>decide (o.Race=y.Race) && (decide (0<o.Rank) && decide (o.Rank<y.Rank)))=0:=by
  rw[List.countP_eq_zero];intro o ho;have h1:=hle.2.1.1 o ho;simp only[bQ,aK,not_and];intro _ h2 h3;rw[DC (h.rr o (by rw[hg];simp[ho])) h2] at h1;omega
 rw[z,aP aB,Nat.add_zero];refine List.countP_congr λo ho=>?_;rw[h.race o (by rw[hg];simp[ho]) y hy];simp
theorem PV{g:List Ea}(h:Gr g){x y:Ea}(hx:x∈g)(hy:y∈g)(e:x.Rank=y.Rank):St g x=St g y:=by
 unfold St Wp;rw[e,h.race x hx y hy]
theorem chk_l4{g:List Ea}(h:Gr g)(j:Option Int):∀(ys dn:List Ea),g=dn++ys->(∀x∈dn,St g x=false)->Mk g j ys dn.length=if ys.any (St g) then some 16 else j
 |[],_,_,_=>rfl
 |y::ys,dn,hg,hw=>by
  have hy:y∈g:=by rw[hg];simp
  have hdl:dn.length<=1000:=by have:=h.len;rw[hg] at this;simp at this;omega
  have hW:W ((dn.length:Int)+1)=(dn.length:Int)+1:=Ng aA aA
  have next:St g y=false->Mk g j ys (dn.length+1)=if(y::ys).any (St g) then some 16 else j:=by
   intro hf;have ih:=chk_l4 h j ys (dn++[y]) (by rw[hg];simp) (λx hx=>by
    rcases bC.1 hx with hx|hx
    ·exact hw x hx
    ·obtain rfl:=bA.1 hx;exact hf)
   rw[aU,aX] at ih;rw[ih,List.any_cons,hf,Bool.false_or]
  have yes:St g y=true->some (16:Int)=if(y::ys).any (St g) then some 16 else j:=by
   intro hf;rw[List.any_cons,hf,Bool.true_or,aQ Z]
  rw[Mk];simp only[Ie,hW]
  cases hA:((decide (0<y.Rank)) && (!decide (y.Rank=(dn.length:Int)+1))) with
  |false=>
   simp only[aO,aR,bP];refine next ?_
   by_cases hp:0<y.Rank
   ·
    have e:y.Rank=(dn.length:Int)+1:=by simpa[hp] using hA
    rcases List.eq_nil_or_concat dn with rfl|⟨d,x,rfl⟩
    ·unfold St;rw[FD h hg hp,e];simp
    ·simp only[List.concat_eq_append] at*;have hx:x∈g:=by rw[hg];simp
     by_cases hxy:x.Rank=y.Rank
     ·rw[PV h hy hx hxy.symm];exact hw x aB
     ·unfold St;rw[FD h hg hp];have all:(d++[x]).countP (λo=>decide (0<o.Rank) && decide (o.Rank<y.Rank))=(d++[x]).length:=by
       rw[List.countP_eq_length];intro o ho;have hle:=h.le;rw[hg,bK] at hle;have ky:=DC (h.rr y hy) hp;have k1:=hle.2.2 x aB y aB;have yr:=(h.rr y hy).2;have k2:kR x≠kR y:=λe2=>by
        have:=(EA (h.rr x hx) aA).1;omega
       have k3:kR o<=kR x:=by
        rcases bC.1 ho with ho|ho
        ·have:=hle.1;rw[bK] at this;exact this.2.2 o ho x aB
        ·obtain rfl:=bA.1 ho;omega
       have k4:=EA (h.rr o (by rw[hg];exact List.mem_append_left _ ho)) aA;simp only[bQ,aK];omega
      rw[all,e];simp
   ·unfold St;simp[hp]
  |true=>
   have hp:0<y.Rank:=by simp at hA;exact hA.1
   have hne:y.Rank≠(dn.length:Int)+1:=by simp at hA;exact hA.2
   simp only[aS,bO];rcases List.eq_nil_or_concat dn with rfl|⟨d,x,rfl⟩
   ·simp only[aW,Int.natCast_zero,aJ,aS,Bool.or_true];refine yes ?_;unfold St;rw[FD h hg hp];simp only[List.countP_nil,Int.natCast_zero,hp,aJ,bO];simpa using hne
   ·simp only[List.concat_eq_append] at*;have hx:x∈g:=by rw[hg];simp
    have hlen:((d++[x]).length:Int)=(d.length:Int)+1:=by simp
    have hw1:W (((d++[x]).length:Int)-1)=(d.length:Int):=by
     rw[hlen,show (d.length:Int)+1-1=(d.length:Int) by omega,Ng aA (by simp at hdl;omega)]
    have hn:nth g (d.length:Int)=x:=by unfold nth;rw[hg];simp
    have hin:inB (d.length:Int) g.length=true:=by rw[Ih,hg];simp;omega
    have h0:decide (((d++[x]).length:Int)=0)=false:=by rw[hlen];simp;omega
    rw[h0,hw1,hn];simp only[aO,aR,Ep hin,Bool.false_or]
    by_cases hxy:x.Rank=y.Rank
    ·rw[aP (by simp[hxy])];refine next ?_;rw[PV h hy hx hxy.symm];exact hw x aB
    ·rw[aQ (by simp;exact λe=>hxy e.symm)];refine yes ?_;unfold St;rw[FD h hg hp];have all:(d++[x]).countP (λo=>decide (0<o.Rank) && decide (o.Rank<y.Rank))=(d++[x]).length:=by
      rw[List.countP_eq_length];intro o ho;have hle:=h.le;rw[hg,bK] at hle;have ky:=DC (h.rr y hy) hp;have k1:=hle.2.2 x aB y aB;have yr:=(h.rr y hy).2;have k2:kR x≠kR y:=λe2=>by
       have:=(EA (h.rr x hx) aA).1;omega
      have k3:kR o<=kR x:=by
       rcases bC.1 ho with ho|ho
       ·have:=hle.1;rw[bK] at this;exact this.2.2 o ho x aB
       ·obtain rfl:=bA.1 ho;omega
      have k4:=EA (h.rr o (by rw[hg];exact List.mem_append_left _ ho)) aA;simp only[bQ,aK];omega
     rw[all];simp[hp];simpa using hne
theorem chk_l3(j:Option Int):∀(Gs:List (List Ea)) (i:Nat),(∀g∈Gs,Gr g)->Ln j Gs i=if Gs.any (λg=>g.any (St g)) then some 16 else j
 |[],_,_=>rfl
 |g::Gs,i,h=>by
  rw[Ln]
  simp only[Ie]
  have e:=chk_l4 (h g aN) (Ln j Gs (i+1)) g [] Z (λ_ hx=>by cases hx)
  rw[aW] at e
  rw[e,chk_l3 j Gs (i+1) (λq hq=>h q (aM _ hq)),List.any_cons]
  cases g.any (St g)<;>simp
def YN(g:List Ea)(q:Nat):Prop:=∃(x z:Ea),10<=q/\g[q]? =some x/\g[q-10]? =some z/\0<x.Rank/\x.Rank=z.Rank
theorem chk_l6{g:List Ea}(hl:g.length<=1000)(j:Option Int):∀(d m i:Nat),g.length<=i+d->d<m->10<=i->((∃q,i<=q/\YN g q)->Je g j m (i:Int)=some 12)/\((∀q,i<=q->¬YN g q)->Je g j m (i:Int)=j)
 |d,0,i,_,h,_=>by omega
 |d,m+1,i,h1,h2,h3=>by
  rw[Je]
  by_cases hi:i<g.length
  ·rw[aQ (aH aA)]
   have hin:inB (i:Int) g.length=true:=Ih.2 aA
   have hw:W ((i:Int)-10)=((i-10:Nat):Int):=by rw[Ng aA aA];omega
   have hin2:inB ((i-10:Nat):Int) g.length=true:=Ih.2 aA
   have hw1:W ((i:Int)+1)=((i+1:Nat):Int):=by rw[Ng aA aA];omega
   have e1:g[i]? =some (nth g (i:Int)):=(Ef hin).1
   have e2:g[i-10]? =some (nth g ((i-10:Nat):Int)):=(Ef hin2).1
   simp only[Ie,hw,hw1,Ep hin,Ep hin2]
   obtain⟨ih1,ih2⟩:=chk_l6 hl j (d-1) m (i+1) aA aA aA
   by_cases hf:0<(nth g (i:Int)).Rank/\(nth g (i:Int)).Rank=(nth g ((i-10:Nat):Int)).Rank
   ·have he:(if decide (0<(nth g (i:Int)).Rank)=true then(if(decide (0<(nth g (i:Int)).Rank) && decide ((nth g (i:Int)).Rank=(nth g ((i-10:Nat):Int)).Rank))=true then some 12 else Je g j m ((i+1:Nat):Int)) else(if(decide (0<(nth g (i:Int)).Rank) && true)=true then some 12 else Je g j m ((i+1:Nat):Int)))=some (12:Int):=by
     simp[hf.1,hf.2];intro hn;have:=hf.1;have:=hf.2;omega
    rw[he];exact⟨λ_=>rfl,λhn=>(hn i (bU _) ⟨_,_,h3,e1,e2,hf.1,hf.2⟩).elim⟩
   ·have he:(if decide (0<(nth g (i:Int)).Rank)=true then(if(decide (0<(nth g (i:Int)).Rank) && decide ((nth g (i:Int)).Rank=(nth g ((i-10:Nat):Int)).Rank))=true then some 12 else Je g j m ((i+1:Nat):Int)) else(if(decide (0<(nth g (i:Int)).Rank) && true)=true then some 12 else Je g j m ((i+1:Nat):Int)))=Je g j m ((i+1:Nat):Int):=by
     by_cases hp:0<(nth g (i:Int)).Rank
     ·have:¬(nth g (i:Int)).Rank=(nth g ((i-10:Nat):Int)).Rank:=λe=>hf ⟨hp,e⟩;simp[hp,this]
     ·simp[hp]
    rw[he];refine⟨fun⟨q,hq,hqf⟩=>ih1 ⟨q,?_,hqf⟩,λhn=>ih2 λq hq=>hn q aA⟩;rcases Nat.lt_or_ge i q with g1|g1
    ·exact g1
    ·exfalso;have:q=i:=by omega
     subst this;obtain⟨x,z,_,a1,a2,a3,a4⟩:=hqf;rw[e1] at a1;rw[e2] at a2
     cases a1;cases a2
     exact hf ⟨a3,a4⟩
  ·rw[aP aD];refine⟨fun⟨q,hq,x,z,_,a1,_⟩=>?_,λ_=>rfl⟩;rw[List.getElem?_eq_none aA] at a1;cases a1
theorem WK{r:Int}:∀(g:List Ea),(∃y∈g,y.Rank=r)->∃a x b,g=a++x::b/\(∀z∈a,z.Rank≠r)/\x.Rank=r
 |[],h=>by obtain⟨y,hy,_⟩:=h;cases hy
 |y::g,h=>by
  by_cases hy:y.Rank=r
  ·exact⟨[],y,g,Z,(λ_ hz=>by cases hz),hy⟩
  ·obtain⟨a,x,b,e,h1,h2⟩:=WK g (by
    obtain⟨z,hz,e⟩:=h
    rcases bB.1 hz with rfl|hz
    ·exact(hy e).elim
    ·exact⟨z,hz,e⟩)
   refine⟨y::a,x,b,by rw[e];rfl,λz hz=>?_,h2⟩
   rcases bB.1 hz with rfl|hz
   ·exact hy
   ·exact h1 z hz
theorem WL{g:List Ea}(h:Gr g):(∃q,10<=q/\YN g q)↔g.any (AD g)=true:=by
 have hle:=List.pairwise_iff_getElem.1 h.le;have mono:∀(i j:Nat) (x z:Ea),i<=j->g[i]? =some x->g[j]? =some z->kR x<=kR z:=by
  intro i j x z hij hx hz;obtain⟨h1,rfl⟩:=List.getElem?_eq_some_iff.1 hx;obtain⟨h2,rfl⟩:=List.getElem?_eq_some_iff.1 hz;rcases Nat.lt_or_ge i j with g1|g1
  ·exact hle i j h1 h2 g1
  ·have:i=j:=by omega
   subst this;exact Int.le_refl _
 have mem:∀(i:Nat) (x:Ea),g[i]? =some x->x∈g:=λi x hx=>List.mem_of_getElem? hx;rw[List.any_eq_true];constructor
 ·rintro⟨q,_,x,z,hq,hx,hz,hp,e⟩;refine⟨x,mem _ _ hx,?_⟩;unfold AD FN;simp only[bQ,aK];refine⟨hp,?_⟩;have hql:=(List.getElem?_eq_some_iff.1 hx).1;have sub:((g.drop (q-10)).take 11).Sublist g:=(List.take_sublist _ _).trans (List.drop_sublist _ _);have len:((g.drop (q-10)).take 11).length=11:=by rw[List.length_take,List.length_drop];omega
  have c:=sub.countP_le (p:=λo:Ea=>decide (o.Race=x.Race) && decide (o.Rank=x.Rank));have all:((g.drop (q-10)).take 11).countP (λo=>decide (o.Race=x.Race) && decide (o.Rank=x.Rank))=((g.drop (q-10)).take 11).length:=by
   rw[List.countP_eq_length];intro o ho;obtain⟨t,ht⟩:=List.getElem?_of_mem ho;have htl:t<11:=by rw[←len];exact(List.getElem?_eq_some_iff.1 ht).1
   rw[List.getElem?_take_of_lt htl,List.getElem?_drop] at ht;have k1:=mono (q-10) (q-10+t) z o aA hz ht;have k2:=mono (q-10+t) q o x aA ht hx;have xr:=h.rr x (mem _ _ hx);have kx:=DC xr hp;have kz:=DC (h.rr z (mem _ _ hz)) aA;have:=(EA (h.rr o (mem _ _ ht)) (by have:=xr.2;omega)).1;simp only[bQ,aK];exact⟨h.race o (mem _ _ ht) x (mem _ _ hx),by omega⟩
  rw[all,len] at c;omega
 ·rintro⟨y,hy,hf⟩;unfold AD FN at hf;simp only[bQ,aK] at hf;obtain⟨hp,hc⟩:=hf;obtain⟨a,x,b,e,h1,h2⟩:=WK g ⟨y,hy,Z⟩;rcases Classical.em (∃z∈(x::b).drop 10,z.Rank=y.Rank) with ⟨z,hz,hzr⟩|hno
  ·obtain⟨t,ht⟩:=List.getElem?_of_mem hz;rw[List.getElem?_drop] at ht;have hz':g[a.length+10+t]? =some z:=by rw[e,List.getElem?_append_right aA];rw[←ht];congr 1;omega
   have hx':g[a.length]? =some x:=by rw[e];simp
   have hlt:=(List.getElem?_eq_some_iff.1 hz').1;obtain⟨u,hu⟩:∃u,g[a.length+t]? =some u:=⟨g[a.length+t]'(by omega),by simp⟩;have k1:=mono a.length (a.length+t) x u aA hx' hu;have k2:=mono (a.length+t) (a.length+10+t) u z aA hu hz';have yr:=(h.rr y hy).2;have kx:=DC (h.rr x (mem _ _ hx')) aA;have kz:=DC (h.rr z (mem _ _ hz')) aA;have:=(EA (h.rr u (mem _ _ hu)) aA).1;exact⟨a.length+10+t,by omega,z,u,by omega,hz',by rw[show a.length+10+t-10=a.length+t by omega];exact hu,by omega,by omega⟩
  ·exfalso;have c1:a.countP (λo=>decide (o.Race=y.Race) && decide (o.Rank=y.Rank))=0:=by
    rw[List.countP_eq_zero];intro o ho;simp[h1 o ho]
   have c2:((x::b).drop 10).countP (λo=>decide (o.Race=y.Race) && decide (o.Rank=y.Rank))=0:=by
    rw[List.countP_eq_zero];intro o ho;have:o.Rank≠y.Rank:=λe=>hno ⟨o,ho,e⟩;simp[this]
   have c3:((x::b).take 10).countP (λo=>decide (o.Race=y.Race) && decide (o.Rank=y.Rank))<=10:=Nat.le_trans List.countP_le_length (by rw[List.length_take];omega);have c4:=congrArg (List.countP λo=>decide (o.Race=y.Race) && decide (o.Rank=y.Rank)) (List.take_append_drop 10 (x::b));rw[List.countP_append] at c4;rw[e,List.countP_append] at hc;omega
theorem chk_l5(j:Option Int):∀(Gs:List (List Ea)) (i:Nat),(∀g∈Gs,Gr g)->Lo j Gs i=if Gs.any (λg=>g.any (AD g)) then some 12 else j
 |[],_,_=>rfl
 |g::Gs,i,h=>by
  have hg:=h g aN
  rw[Lo]
  simp only[Ie]
  obtain⟨e1,e2⟩:=chk_l6 hg.len (Lo j Gs (i+1)) (g.length-10) (((g.length:Int)-10).toNat+2) 10 aA aA (bU _)
  rw[List.any_cons]
  cases hf:g.any (AD g) with
  |true=>rw[Bool.true_or,aQ Z];exact e1 ((WL hg).2 hf)
  |false=>
   rw[Bool.false_or]
   refine(e2 λq hq hn=>?_).trans (chk_l5 j Gs (i+1) (λq hq=>h q (aM _ hq)))
   rw[(WL hg).1 ⟨q,hq,hn⟩] at hf;cases hf
theorem KQ{α:Type}(p:α->Bool):∀(Gs:List (List α)),Gs.flatten.any p=Gs.any λg=>g.any p
 |[]=>rfl
 |g::Gs=>by rw[List.flatten_cons,List.any_append,List.any_cons,KQ p Gs]
theorem AH{α:Type}{p q:α->Bool}:∀(l:List α),(∀x∈l,p x=q x)->l.any p=l.any q
 |[],_=>rfl
 |x::l,h=>by rw[List.any_cons,List.any_cons,h x aN,AH l λy hy=>h y (aM _ hy)]
section
variable {Gs:List (List Ea)}(h2:Gs.Pairwise (λg g'=>∀x∈g,∀y∈g',x.Race≠y.Race))
include h2
theorem SG{g:List Ea}(hg:g∈Gs){y:Ea}(hy:y∈g):∃P Q:List Ea,Gs.flatten=P++(g++Q)/\(∀o∈P,o.Race≠y.Race)/\(∀o∈Q,o.Race≠y.Race):=by
 obtain⟨P,Q,rfl⟩:=List.append_of_mem hg;rw[bK,List.pairwise_cons] at h2;refine⟨P.flatten,Q.flatten,by simp,λo ho=>?_,λo ho=>?_⟩
 ·obtain⟨g',hg',ho⟩:=List.mem_flatten.1 ho;exact h2.2.2 g' hg' g aB o ho y hy
 ·obtain⟨g',hg',ho⟩:=List.mem_flatten.1 ho;exact λe=>h2.2.1.1 g' hg' y hy o ho e.symm
theorem SH{g:List Ea}(hg:g∈Gs){y:Ea}(hy:y∈g)(q:Ea->Bool):Gs.flatten.countP (λo=>decide (o.Race=y.Race) && q o)=g.countP (λo=>decide (o.Race=y.Race) && q o):=by
 obtain⟨P,Q,e,h3,h4⟩:=SG h2 hg hy;rw[e,List.countP_append,List.countP_append];have z:∀l:List Ea,(∀o∈l,o.Race≠y.Race)->l.countP (λo=>decide (o.Race=y.Race) && q o)=0:=λl hl=>by
  rw[List.countP_eq_zero];intro o ho;simp[hl o ho]
 rw[z P h3,z Q h4];omega
theorem any_loc{g:List Ea}(hg:g∈Gs){y:Ea}(hy:y∈g)(q:Ea->Bool):Gs.flatten.any (λo=>decide (o.Race=y.Race) && q o)=g.any (λo=>decide (o.Race=y.Race) && q o):=by
 obtain⟨P,Q,e,h3,h4⟩:=SG h2 hg hy;rw[e,List.any_append,List.any_append];have z:∀l:List Ea,(∀o∈l,o.Race≠y.Race)->l.any (λo=>decide (o.Race=y.Race) && q o)=false:=λl hl=>by
  rw[List.any_eq_false];intro o ho;simp[hl o ho]
 rw[z P h3,z Q h4];simp
end
theorem mix_grp{g:List Ea}(h:One g):(g.any λy=>g.any λo=>decide (o.Race=y.Race) && !decide (o.Relay=y.Relay))=TZ g:=by
 obtain⟨h0,hr⟩:=h;obtain⟨z,r,rfl⟩:∃z r,g=z::r:=by
  cases g with
  |nil=>exact(h0 Z).elim
  |cons z r=>exact⟨z,r,Z⟩
 unfold TZ;have hn:nth (z::r) 0=z:=rfl;rw[hn,Bool.eq_iff_iff,List.any_eq_true,List.any_eq_true];constructor
 ·rintro⟨y,hy,h1⟩;rw[List.any_eq_true] at h1;obtain⟨o,ho,h1⟩:=h1;simp only[bQ,aK,Bool.not_eq_true',aL] at h1
  by_cases hyz:y.Relay=z.Relay
  ·refine⟨o,ho,?_⟩;simp only[Bool.not_eq_true',aL];rw[←hyz];exact h1.2
  ·exact⟨y,hy,by simpa using hyz⟩
 ·rintro⟨y,hy,h1⟩;refine⟨z,by simp,?_⟩;rw[List.any_eq_true];exact⟨y,hy,by rw[hr y hy z aB];simpa using h1⟩
theorem SI(l:List Ea)(hl:l.length<=1000):∃e,Ui l=some e/\Oi l=some e/\(e=0->∃Gs:List (List Ea),l=Gs.flatten/\(∀g∈Gs,One g/\Gr g)/\Gs.Pairwise (λg g'=>∀x∈g,∀y∈g',x.Race≠y.Race)/\l.Pairwise Dif/\(∀g∈Gs,TZ g=false/\g.any (St g)=false/\g.any (AD g)=false)):=by
 unfold Ui Oi;rw[aP aD,aP aD];simp only[Ie];rcases Aaw l hl l [] rfl (λ_ h=>by cases h) List.Pairwise.nil with ⟨e,he,h⟩|⟨ho,hr,h⟩
 ·exact⟨e,(h _).1,(h _).2,λh0=>(he h0).elim⟩
 ·have h':∀j,Hc l j l 0=j/\Ge l j l 0=j:=h;rw[(h' _).1,(h' _).2,Aco l hl];obtain⟨Gs,e,g1,g2⟩:=groups l ho;have gr:∀g∈Gs,Gr g:=λg hg=>by
   have sub:g.Sublist l:=by rw[e];exact List.sublist_flatten_of_mem hg
   exact⟨(g1 g hg).2,ho.sublist sub,λx hx=>hr x (sub.subset hx),Nat.le_trans sub.length_le hl⟩
  have hraces:Ty l=some Gs:=by rw[e];exact VR Gs g1 g2 (by rw[←e];exact hl)
  have m1:l.any (LZ l)=Gs.any TZ:=by
   rw[show l.any (LZ l)=Gs.flatten.any (LZ Gs.flatten) by rw[←e],KQ];refine AH Gs λg hg=>?_;rw[←mix_grp (g1 g hg)];exact AH g λy hy=>any_loc g2 hg hy _
  have m2:l.any (St l)=Gs.any λg=>g.any (St g):=by
   rw[show l.any (St l)=Gs.flatten.any (St Gs.flatten) by rw[←e],KQ];refine AH Gs λg hg=>AH g λy hy=>?_;unfold St Wp;rw[SH g2 hg hy]
  have m3:l.any (AD l)=Gs.any λg=>g.any (AD g):=by
   rw[show l.any (AD l)=Gs.flatten.any (AD Gs.flatten) by rw[←e],KQ];refine AH Gs λg hg=>AH g λy hy=>?_;unfold AD FN;rw[SH g2 hg hy]
  rw[m1,m2,m3];unfold Yy;simp only[Ie]
  by_cases hd:l.Pairwise Dif
  ·obtain⟨m',em⟩:=WJ (λx1=>Option.bind (Ty l) (λr1=>Mj (Ln (Lo (some 0) r1 0) r1 0) r1 0)) l hd l [] [] Z (λe he=>by simp[Em,Tc,Pn] at he);rw[aW] at em;rw[em,hraces,aG,chk_l2 _ Gs 0 g1,chk_l3 _ Gs 0 gr,chk_l5 _ Gs 0 gr,(WI l).2 hd];simp only[aO,aR]
   cases c1:Gs.any TZ with
   |true=>exact⟨3,Z,Z,λh=>by cases h⟩
   |false=>
    cases c2:Gs.any (λg=>g.any (St g)) with
    |true=>exact⟨16,Z,Z,λh=>by cases h⟩
    |false=>
     cases c3:Gs.any (λg=>g.any (AD g)) with
     |true=>exact⟨12,Z,Z,λh=>by cases h⟩
     |false=>exact⟨0,Z,Z,λ_=>⟨Gs,e,λg hg=>⟨g1 g hg,gr g hg⟩,g2,hd,λg hg=>⟨by simpa using List.any_eq_false.1 c1 g hg,by simpa using List.any_eq_false.1 c2 g hg,by simpa using List.any_eq_false.1 c3 g hg⟩⟩⟩
  ·have ht:twR l l 0=true:=by
    cases ht:twR l l 0 with
    |true=>rfl
    |false=>exact(hd ((WI l).1 ht)).elim
   rw[SF _ l [] [] 0 List.Pairwise.nil hd (λ_ h=>by cases h),ht];exact⟨6,Z,Z,λh=>by cases h⟩
def frB(v:Nat):Eb:=⟨((v / Nat.gcd v 2520:Nat):Int),((2520 / Nat.gcd v 2520:Nat):Int)⟩
theorem gcdB(v:Nat):0<Nat.gcd v 2520:=Nat.gcd_pos_of_pos_right _ aC
theorem KR{a b v:Nat}(hb:0<b)(h:a*2520=v*b):a / Nat.gcd a b=v / Nat.gcd v 2520/\b / Nat.gcd a b=2520 / Nat.gcd v 2520:=by
 have hg:=Nat.gcd_pos_of_pos_right a hb;have hk:=gcdB v;have c1:(a / Nat.gcd a b).Coprime (b / Nat.gcd a b):=Nat.coprime_div_gcd_div_gcd hg;have c2:(v / Nat.gcd v 2520).Coprime (2520 / Nat.gcd v 2520):=Nat.coprime_div_gcd_div_gcd hk;have e1:=Nat.div_mul_cancel (Nat.gcd_dvd_left a b);have e2:=Nat.div_mul_cancel (Nat.gcd_dvd_right a b);have e3:=Nat.div_mul_cancel (Nat.gcd_dvd_left v 2520);have e4:=Nat.div_mul_cancel (Nat.gcd_dvd_right v 2520);generalize a / Nat.gcd a b=a' at*;generalize b / Nat.gcd a b=b' at*;generalize v / Nat.gcd v 2520=v' at*;generalize hd:2520 / Nat.gcd v 2520=d' at*;generalize Nat.gcd a b=g at*;generalize Nat.gcd v 2520=k at*;have hx:a'*d'=v'*b':=by
  have h1:a'*g*(d'*k)=v'*k*(b'*g):=by rw[e1,e4,e3,e2];exact h
  have h2:a'*d'*(g*k)=v'*b'*(g*k):=by
   calc a'*d'*(g*k)=a'*g*(d'*k):=by ac_rfl
    _=v'*k*(b'*g):=h1
    _=v'*b'*(g*k):=by ac_rfl
  exact Nat.eq_of_mul_eq_mul_right (Nat.mul_pos hg hk) h2
 have hb':0<b':=by
  rcases Nat.eq_zero_or_pos b' with h0|h0
  ·rw[h0] at e2;omega
  ·exact h0
 have p1:b' ∣ d':=c1.symm.dvd_of_dvd_mul_left (by rw[hx];exact Nat.dvd_mul_left _ _);have p2:d' ∣ b':=c2.symm.dvd_of_dvd_mul_left (by rw[←hx];exact Nat.dvd_mul_left _ _);have e:b'=d':=Nat.dvd_antisymm p1 p2;subst e;exact⟨Nat.eq_of_mul_eq_mul_right hb' hx,Z⟩
theorem WM{a b v:Nat}(hb:0<b)(h:a*2520=v*b)(ha:a<=4000000000000000000)(hb':b<=4000000000000000000):Ov (a:Int) (b:Int)=some (frB v):=by
 rw[TQ a b hb ha hb'];obtain⟨h1,h2⟩:=KR hb h;rw[h1,h2];rfl
theorem EB(v:Nat):∃n d:Nat,frB v=⟨(n:Int),(d:Int)⟩/\0<d/\d<=2520/\n<=v/\n*2520=v*d:=by
 refine⟨v / Nat.gcd v 2520,2520 / Nat.gcd v 2520,Z,?_,Nat.div_le_self _ _,Nat.div_le_self _ _,?_⟩
 ·exact Nat.div_pos (Nat.le_of_dvd aC (Nat.gcd_dvd_right _ _)) (gcdB v)
 ·have e3:=Nat.div_mul_cancel (Nat.gcd_dvd_left v 2520);have e4:=Nat.div_mul_cancel (Nat.gcd_dvd_right v 2520);generalize v / Nat.gcd v 2520=v' at*;generalize 2520 / Nat.gcd v 2520=d' at*;generalize Nat.gcd v 2520=k at*
  calc v'*2520=v'*(d'*k):=by rw[e4]
   _=v'*k*d':=by ac_rfl
   _=v*d':=by rw[e3]
theorem YO{n d m e u v K:Nat}(h1:n*K=u*d)(h2:m*K=v*e):(n*e+m*d)*K=(u+v)*(d*e):=by
 calc (n*e+m*d)*K=n*K*e+m*K*d:=by rw[Nat.add_mul];congr 1<;>ac_rfl
  _=u*d*e+v*e*d:=by rw[h1,h2]
  _=(u+v)*(d*e):=by rw[Nat.add_mul];congr 1<;>ac_rfl
theorem PW{n d m e u v:Nat}(h1:n*2520=u*d)(h2:m*2520=v*e):(n*e+m*d)*2520=(u+v)*(d*e):=YO h1 h2
theorem FE{a b:Nat}(ha:a<=1000000000000)(hb:b<=2520):a*b<=2520000000000000:=by have:=Nat.mul_le_mul ha hb;omega
theorem MA{a b:Nat}(ha:a<=1000000000000)(hb:b<=2520):W ((a:Int)*(b:Int))=((a*b:Nat):Int):=by
 have:=FE ha hb;rw[←Int.natCast_mul];exact Ng aA aA
theorem YP{a b v:Nat}(hb:0<b)(h:a*2520=v*b)(ha:a<=4000000000000000000)(hb':b<=4000000000000000000):Qd (a:Int) (b:Int)=some (frB v):=by
 unfold Qd;simp only[Ie];rw[low_l _ _ a b aA];have hg:0<Nat.gcd a b:=Nat.gcd_pos_of_pos_right _ hb;have h0:¬((Nat.gcd a b:Nat):Int)=0:=by omega
 rw[aP aB,Ep (by rw[aI h0];rfl),Ep (by rw[aI h0];rfl),LU ha,LU hb'];obtain⟨h1,h2⟩:=KR hb h;rw[h1,h2];rfl
theorem KS:Pt=frB 0:=by decide+kernel
theorem low_is(a b:Nat)(hb:0<b)(ha:a<=4000000000000000000)(hb':b<=4000000000000000000):Qd (a:Int) (b:Int)=Ov (a:Int) (b:Int):=by
 rw[TQ a b hb ha hb'];unfold Qd;simp only[Ie];rw[low_l _ _ a b aA];have hg:0<Nat.gcd a b:=Nat.gcd_pos_of_pos_right _ hb;have h0:¬((Nat.gcd a b:Nat):Int)=0:=by omega
 rw[aP aB,Ep (by rw[aI h0];rfl),Ep (by rw[aI h0];rfl),LU ha,LU hb']
end Go.Proofs.YtjlgddkenkpbpaaGreatDoor
