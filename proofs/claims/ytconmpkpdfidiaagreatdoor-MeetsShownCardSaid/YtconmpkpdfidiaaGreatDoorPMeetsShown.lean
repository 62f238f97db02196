/- The plain law of MeetsShown. No program stands here but its twins. -/
import Derived.Test.YtconmpkpdfidiaaGreatDoorPPtsM
import Derived.Test.YtconmpkpdfidiaaGreatDoorPDeedMerge
import Derived.Test.YtconmpkpdfidiaaGreatDoorPDeedNames
namespace Go.Proofs.YtconmpkpdfidiaaGreatDoor
open Go
structure MS(m:List (ByteArray×Ef))(K:ByteArray->Prop)(u:ByteArray->Nat):Prop where
 nd:(m.map (·.1)).Nodup
 keys:∀k,k∈m.map (·.1)↔K k
 vals:∀k,K k->Eh m k (Ef.mk 0 0)=frB (u k)
theorem MS.put{m:List (ByteArray×Ef)}{K:ByteArray->Prop}{u:ByteArray->Nat}(h:MS m K u)(k:ByteArray)(v:Nat):MS (Hp m k (frB v)) (λz=>z=k\/K z) (λz=>if z=k then v else u z):=by
 obtain⟨a,b⟩:=RF k (frB v) m h.nd;refine⟨a,λz=>by rw[b z,h.keys z],λz hz=>?_⟩;rw[Ya]
 by_cases e:z=k
 ·rw[aQ e,aQ e]
 ·rw[aP e,aP e];rcases hz with hz|hz
  ·exact(e hz).elim
  ·exact h.vals z hz
theorem MS.congr{m:List (ByteArray×Ef)}{K K':ByteArray->Prop}{u u':ByteArray->Nat}(h:MS m K u)(hk:∀k,K k↔K' k)(hu:∀k,K' k->u k=u' k):MS m K' u':=
 ⟨h.nd,λk=>(h.keys k).trans (hk k),λk hk'=>by rw[h.vals k ((hk k).2 hk'),hu k hk']⟩
def sumB(k:ByteArray)(ls:List Dy):Nat:=((ls.filter λy=>decide (y.Club=k)).map λy=>valB y.Points).sum
structure CJ(lines:List Dy)(names:List ByteArray)(m:List (ByteArray×Ef)):Prop where
 ms:MS m (λk=>k∈names) (λk=>sumB k lines)
 pts:∀y∈lines,Pts y.Points
 club:∀y∈lines,y.Club≠An->y.Club∈names
 few:∀k∈names,k∈[Sv,EQ,k_A]
def FewC(F:List Dt):Prop:=∀d∈F,d.Club∈[Sv,EQ,An,k_A]
theorem VN{L:List Int}(hL:EU L){a:Int}(h0:0<=a)(h1:a<=100000000)(key:ByteArray):Dr a 7 (λ_=>True) (Te L a key):=by
 unfold Te;obtain⟨v1,b1,e1,g1,g2,_⟩:=Qc hL h0 aA [50,100,200] aB aB;rw[e1];simp only[aG];obtain⟨v2,b2,e2,g3,g4,_⟩:=Qc hL (a:=b1) aA aA [1,2,3,4] aB aB;rw[e2];simp only[aG];obtain⟨v3,b3,e3,g5,g6,_⟩:=Qc hL (a:=b2) aA aA [25,50] aB aB;rw[e3];simp only[aG];obtain⟨v4,b4,e4,g7,g8,_⟩:=Qc hL (a:=b3) aA aA [1,1,1,4] aB aB;rw[e4];simp only[aG];obtain⟨v5,b5,e5,g9,g10,_⟩:=Qc hL (a:=b4) aA aA [0,1,2] aB aB;rw[e5];simp only[aG];obtain⟨v6,b6,e6,g11,g12,_⟩:=Qc hL (a:=b5) aA aA [0,0,5,10] aB aB;rw[e6];simp only[aG];obtain⟨v7,b7,e7,g13,g14,_⟩:=Qc hL (a:=b6) aA aA [0,5,90] aB aB;rw[e7];simp only[aG];exact⟨_,_,rfl,by omega,by omega,trivial⟩
section
variable {L:List Int}(hL:EU L)
include hL
theorem GJ:∀(ys:List ByteArray) (i:Nat) (x1:List Ea) (a:Int),0<=a->a+8*ys.length<=10000000->x1.length+ys.length<=1000->
 ∃x b,Ki L (λx a=>some (x,a)) ys i x1 a=some (x,b)/\a<=b/\b<=a+8*ys.length/\x.length<=x1.length+ys.length
 |[],i,x1,a,_,_,_=>⟨x1,a,rfl,Int.le_refl _,by simp,by simp⟩
 |y::ys,i,x1,a,h0,h1,h2=>by
  rw[Ki]
  simp only[aT] at h1 h2 ⊢
  obtain⟨f,b,e,g1,g2,_⟩:=CN hL h0 aA 6 aA
  rw[e];simp only[aG,Ic]
  cases f with
  |true=>
   rw[aP aB]
   obtain⟨x,c,e',g3,g4,g5⟩:=GJ ys (i+1) x1 b aA aA aA
   exact⟨x,c,e',by omega,by omega,by omega⟩
  |false=>
   rw[aQ aB]
   obtain⟨s,b2,e2,g3,g4,_⟩:=VN hL (a:=b) aA aA y
   rw[e2];simp only[aG]
   rw[Ei (by unfold Px;simp;omega)]
   obtain⟨x,c,e',g7,g8,g9⟩:=GJ ys (i+1) (x1++[s]) b2 aA aA aD
   simp only[aU,aX] at g9
   exact⟨x,c,e',by omega,by omega,by omega⟩
variable {a:Int}(h0:0<=a)(h1:a<=1000000)
include h0 h1
theorem TC:Dr a 24 (λx=>x.length<=3) (Si L a):=by
 unfold Si;simp only[Ic];obtain⟨x,c,e',g7,g8,g9⟩:=GJ hL [Po,Yz,BE] 0 [] a h0 aD aB;exact⟨x,c,e',g7,by simp at g8;omega,by simpa using g9⟩
end
theorem Yc:Zn=some true:=by
 have h1:Vz (Iq.mk [Ea.mk k_r 50 1 50 1 0 0 0] (Jh.mk [] 1 0) (Qe.mk 1 1 0))=some 0:=by decide+kernel
 have h2:Rx [Dt.mk k_s 1 0 1 k_a An k_r 5 0 An 0]=some 0:=by decide+kernel
 have h3:Ku [Dt.mk k_s 1 0 1 k_a An k_r 5 0 An 0] 0=[Dt.mk k_s 1 0 1 k_a An k_r 5 0 An 0]:=by decide+kernel
 have h4:DI k_r [Dt.mk k_s 1 0 1 k_a An k_r 5 0 An 0]=[Dt.mk k_s 1 0 1 k_a An k_r 5 0 An 0]:=by decide+kernel
 have h5:=CP (Iq.mk [Ea.mk k_r 50 1 50 1 0 0 0] (Jh.mk [] 1 0) (Qe.mk 1 1 0)) [Dt.mk k_s 1 0 1 k_a An k_r 5 0 An 0] k_r aB;rw[h4] at h5;have h6:=EK (Iq.mk [Ea.mk k_r 50 1 50 1 0 0 0] (Jh.mk [] 1 0) (Qe.mk 1 1 0)) [Dt.mk k_s 1 0 1 k_a An k_r 5 0 An 0] 0 aB;rw[h3] at h6;have h7:Fy [Ea.mk k_r 50 1 50 1 0 0 0] k_r=0:=by decide+kernel
 have h8:Ji 0=true:=by decide
 have h9:nth [(0:Int)] (W ((([(0:Int)].length:Nat):Int)-1))=0:=by decide+kernel
 unfold Zn BH JH Uu;rw[h1];simp only[aG,Jb];rw[aP aB,h2];simp only[aG];rw[aP aB,Pq,aP (by rw[h8];simp),Pq,Ei (by decide+kernel),h9,h6];simp only[aG];unfold Xm;rw[aP aB,aP (by rw[h7];simp),h5];simp only[aG];rw[aP aB,Ei (by rw[h7];decide+kernel)];simp only[aG];rw[aP aB];unfold CH;rw[h5];simp only[aG,Jb];rw[Ql,Ei aC,Ql];rfl
theorem swum_k1{F:List Dt}(race:ByteArray):(Oz race F).length<=F.countP λd=>decide (d.Kind=1):=by
 rw[List.countP_eq_length_filter];refine OH _ _ ((List.pairwise_map.1 (BL race F)).imp λh e=>h (congrArg (·.Who) e)) λd hd=>?_;obtain⟨h1,_⟩:=List.mem_filter.1 hd;obtain⟨_,k2,k3⟩:=HC h1;exact List.mem_filter.2 ⟨k3,aH k2⟩
theorem swum_k3{F:List Dt}(race:ByteArray):(Oz race F).length<=F.countP λd=>decide (d.Kind=3):=by
 have hsv:∀d∈Oz race F,svS race F d∈F/\(svS race F d).Kind=3/\(svS race F d).Who=d.Who:=λd hd=>by
  obtain⟨_,h2⟩:=List.mem_filter.1 hd;unfold MC at h2;obtain⟨y,hy⟩:=Option.isSome_iff_exists.1 h2;have e:svS race F d=y:=by unfold svS Eh;rw[hy];rfl
  have g:=YZ hy;rw[e];exact⟨g.1,g.2.1,g.2.2.2⟩
 rw[List.countP_eq_length_filter,←aV (f:=svS race F)];have hn:(((Oz race F).map (svS race F)).map (·.Who)).Nodup:=by
  have e:((Oz race F).map (svS race F)).map (·.Who)=(Oz race F).map (·.Who):=by
   rw[List.map_map];exact List.map_congr_left λd hd=>(hsv d hd).2.2
  rw[e];exact BL race F
 refine OH _ _ ((List.pairwise_map.1 hn).imp λh e=>h (congrArg (·.Who) e)) λy hy=>?_
 ·obtain⟨d,hd,rfl⟩:=bD.1 hy;obtain⟨h1,h2,_⟩:=hsv d hd;exact List.mem_filter.2 ⟨h1,aH h2⟩
structure MD(l:List Dt):Prop where
 few:IT l
 club:FewC l
 swms:(l.countP λd=>decide (d.Kind=1))<=12\/(l.countP λd=>decide (d.Kind=3))<=12
theorem MD.fm{l:List Dt}(h:MD l)(g:DsG l)(at_:Int):FM (Ku l at_):=by
 have hs:=IP l at_;refine⟨λd hd=>g.each d (hs.subset hd),Nat.le_trans hs.length_le h.few.len,λrace=>?_⟩;rcases h.swms with h1|h1
 ·exact Nat.le_trans (swum_k1 race) (Nat.le_trans (hs.countP_le) h1)
 ·exact Nat.le_trans (swum_k3 race) (Nat.le_trans (hs.countP_le) h1)
theorem rune_sz:∀i:Fin 26,(Utf8.encode (IntKind.wrap .i32 (W (97+(i.val:Int))))).size<=1000:=by decide+kernel
theorem VO{x:Int}(h0:0<=x)(h1:x<26):(Utf8.encode (IntKind.wrap .i32 (W (97+x)))).size<=1000:=by
 have:=rune_sz ⟨x.toNat,by omega⟩;simp only[Int.toNat_of_nonneg h0] at this;exact this
section
variable {L:List Int}(hL:EU L)
theorem tied_l(r1:Int×Int)(hr:r1.1<=12)(j:List Dt->Option (List Dt×Int)):∀(m:Nat) (x:List Dt) (i:Int),0<=i->r1.1-i<(m:Int)->(x.length:Int)<=2*i->i<=13->(∀d∈x,d.Kind≠4/\d.Club∈[Sv,EQ,An,k_A])->((x.countP λd=>decide (d.Kind=1):Nat):Int)<=i->i<=r1.1->
 ∃x',Mh r1 j m x i=j x'/\(x'.length:Int)<=24/\(∀d∈x',d.Kind≠4/\d.Club∈[Sv,EQ,An,k_A])/\((x'.countP λd=>decide (d.Kind=1):Nat):Int)<=12
 |0,x,i,_,h,_,_,_,_,_=>by omega
 |m+1,x,i,h0,h1,h2,h3,h4,h5,h6=>by
  rw[Mh]
  by_cases hc:i<r1.1
  ·have hw:W (i+1)=i+1:=Nt aA aA
   rw[aQ (aH hc),Ei (by unfold Px;exact aH aA),hw]
   refine tied_l r1 hr j m _ (i+1) aA aA aD aA (λd hd=>?_) ?_ aA
   ·rcases bC.1 hd with hd|hd
    ·exact h4 d hd
    ·rcases bB.1 hd with rfl|hd
     ·exact⟨by simp,by simp⟩
     ·obtain rfl:=bA.1 hd
      exact⟨by simp,by simp⟩
   ·rw[List.countP_append]
    simp
    omega
  ·rw[aP (by simpa using hc)]
   exact⟨x,rfl,by omega,h4,by omega⟩
theorem ZL(r1:Int×Int)(hr:0<=r1.1/\r1.1<=1)(j:List Dt->Option (List Dt×Int)):∀(m:Nat) (x:List Dt) (i:Int),0<=i->300+r1.1-i<(m:Int)->(x.length:Int)<=i->(∀d∈x,d.Kind=1/\d.Club=An)->i<=300+r1.1->
 ∃x',Lu r1 j m x i=j x'/\(x'.length:Int)<=301/\(∀d∈x',d.Kind=1/\d.Club=An)
 |0,x,i,_,h,_,_,_=>by omega
 |m+1,x,i,h0,h1,h2,h3,h4=>by
  have hw0:W (300+r1.1)=300+r1.1:=Nt aA aA
  rw[Lu,hw0]
  by_cases hc:i<300+r1.1
  ·have hw:W (i+1)=i+1:=Nt aA aA
   have hd:Int.tdiv i 26=i / 26:=Int.tdiv_eq_ediv_of_nonneg h0
   have hm:Int.tmod i 26=i % 26:=Int.tmod_eq_emod_of_nonneg h0
   have hwd:W (Int.tdiv i 26)=i / 26:=by rw[hd];exact Nt aA aA
   have s1:=VO (x:=i / 26) aA aA
   have s2:=VO (x:=i % 26) aA aA
   rw[aQ (aH hc),hwd,hm,Ei (aH aA),Ei (by unfold Px;exact aH aA),hw]
   refine ZL r1 hr j m _ (i+1) aA aA aD (λd hd=>?_) aA
   rcases bC.1 hd with hd|hd
   ·exact h3 d hd
   ·obtain rfl:=bA.1 hd
    exact⟨rfl,rfl⟩
  ·rw[aP (by simpa using hc)]
   exact⟨x,rfl,by omega,h3⟩
include hL
theorem TD(many:Int)(h0:0<=many)(hm:many<=16){a:Int}(ha:0<=a)(ha':a<=1000000):Dr a 500 MD (Tw L a many):=by
 unfold Tw;obtain⟨f,b,e,g1,g2,_⟩:=CN hL ha aA 15 aA;rw[e];simp only[aG]
 cases f with
 |true=>
  rw[aQ rfl];unfold Xt;obtain⟨v,b1,e1,g3,g4,g5,g6⟩:=AV hL (a:=b) aA aA 9 12 aA aA aA;rw[e1];simp only[aG,Jb];obtain⟨x,q1,q2,q3,q4⟩:=tied_l (v,b1) (by show v<=12;omega) (λx1=>some (x1,b1)) (((v,b1):Int×Int).1-0).toNat.succ.succ [] 0 aA (by show v-0<_;simp;omega) aB aA (λd hd=>absurd hd aB) aB (by show (0:Int)<=v;omega);rw[show (((v-0).toNat+2)=(((v,b1):Int×Int).1-0).toNat.succ.succ) from rfl,q1];have hM:MD x:=⟨.inr ⟨by omega,λd hd=>(q3 d hd).1⟩,λd hd=>(q3 d hd).2,.inl aA⟩;exact⟨_,_,rfl,by omega,by omega,hM⟩
 |false=>
  rw[aP aB];obtain⟨f2,b1,e1,g3,g4,_⟩:=CN hL (a:=b) aA aA 60 aA;rw[e1];simp only[aG]
  cases f2 with
  |true=>
   rw[aQ rfl];unfold Xd;obtain⟨v,b2,e2,g5,g6,g7,g8⟩:=AV hL (a:=b1) aA aA 0 1 aA aA aA;rw[e2];simp only[aG,Jb];have hw0:W (300+v)=300+v:=Nt aA aA;obtain⟨x,q1,q2,q3⟩:=ZL (v,b2) ⟨by show 0<=v;omega,by show v<=1;omega⟩ (λx1=>some (x1,b2)) ((W (300+v)-0).toNat+2) [] 0 aA (by show 300+v-0<_;rw[hw0];omega) aB (λd hd=>absurd hd aB) (by show (0:Int)<=300+v;omega);rw[q1];have hk:∀d∈x,d.Kind≠4:=λd hd=>by rw[(q3 d hd).1];decide
   have hc:(x.countP λd=>decide (d.Kind=3))=0:=List.countP_eq_zero.2 λd hd=>by rw[(q3 d hd).1];decide
   have hM:MD x:=⟨.inr ⟨by omega,hk⟩,λd hd=>by rw[(q3 d hd).2];simp,.inr aA⟩;exact⟨_,_,rfl,by omega,by omega,hM⟩
  |false=>
   rw[aP aB];obtain⟨v,b2,e2,g5,g6,g7,g8⟩:=AV hL (a:=b1) aA aA 0 many aA aA aA;rw[e2];simp only[aG];obtain⟨x,b3,e3,g9,g10,g11,g12⟩:=Aak hL v aA aA (a:=b2) aA aA;rw[e3];have hd:∀l:List Dt,(l.countP λd=>decide (d.Kind=1))+(l.countP λd=>decide (d.Kind=3))<=l.length:=by
    intro l
    induction l with
    |nil=>simp
    |cons y l ih=>
     rw[List.countP_cons,List.countP_cons,aT]
     by_cases k1:y.Kind=1
     ·simp[k1];omega
     ·by_cases k3:y.Kind=3<;>simp[k1,k3]<;>omega
   have:=hd x;have hM:MD x:=⟨.inl aA,λd hd=>(g12 d hd).club,by omega⟩;exact⟨_,_,rfl,by omega,by omega,hM⟩
theorem XG{a:Int}(h0:0<=a)(h1:a<=100000):Dr a 40 (λx=>x.length<=3) (Tv L a):=by
 unfold Tv;obtain⟨x,b,e,g1,g2,g3⟩:=TC hL h0 aA;rw[e];simp only[aG,Ic]
 by_cases hx:0<(x.length:Int)
 ·rw[aQ (aH hx)];obtain⟨f,b1,e1,g4,g5,_⟩:=CN hL (a:=b) aA aA 12 aA;rw[e1];simp only[aG]
  cases f with
  |false=>rw[aP aB];exact⟨x,b1,rfl,by omega,by omega,g3⟩
  |true=>
   rw[aQ rfl];obtain⟨i,b2,e2,g6,g7,g8⟩:=SH hL (a:=b1) aA aA (x.length:Int) aA;rw[e2];simp only[aG];rw[Ei (Ih.2 ⟨g8.1,by omega⟩)];obtain⟨s,b3,e3,g9,g10,_⟩:=Zv hL (a:=b2) aA aA [(nth x i).Key,An,Po] aB aB;rw[e3];simp only[aG];obtain⟨t,b4,e4,g11,g12,_⟩:=AY hL (a:=b3) aA aA 1 4 aA aA aA;rw[e4];simp only[aG];obtain⟨u,b5,e5,g13,g14,_⟩:=Qc hL (a:=b4) aA aA [25,50,33] aB aB;rw[e5];simp only[aG];obtain⟨v,b6,e6,g15,g16,_⟩:=Qc hL (a:=b5) aA aA [0,1,2,3] aB aB;rw[e6];simp only[aG];exact⟨_,_,rfl,by omega,by omega,by simp only[List.length_set];exact g3⟩
 ·rw[aP (by simpa using hx),aP aB];exact⟨x,b,rfl,by omega,by omega,g3⟩
theorem Aav{a:Int}(h0:0<=a)(h1:a<=10000):Dr a 20 (λ_=>True) (Zk L a):=by
 unfold Zk;obtain⟨t,b,e,g1,g2,g3⟩:=UT hL (a:=a) h0 aA;rw[e];simp only[aG,Ic];obtain⟨f,b1,e1,g4,g5,_⟩:=CN hL (a:=b) aA aA 12 aA;rw[e1];simp only[aG]
 cases f with
 |false=>rw[aP aB];exact⟨_,_,rfl,by omega,by omega,trivial⟩
 |true=>
  rw[aQ rfl];obtain⟨v1,b2,e2,g6,g7,_⟩:=AY hL (a:=b1) aA aA 1 10 aA aA aA;rw[e2];simp only[aG];obtain⟨v2,b3,e3,g8,g9,_⟩:=AY hL (a:=b2) aA aA 0 10 aA aA aA;rw[e3];simp only[aG];have hlen:=g3.len;have hcl:Vy t.Points=some t.Points:=by
   unfold Vy;rw[Ei aD,aZ]
  rw[hcl];simp only[aG];obtain⟨v3,b4,e4,g10,g11,_⟩:=AY hL (a:=b3) aA aA 0 20 aA aA aA;rw[e4];simp only[aG];rw[Ei (by unfold Px;simp;omega)];exact⟨_,_,rfl,by omega,by omega,trivial⟩
theorem VP{a:Int}(h0:0<=a)(h1:a<=1000):Dr a 200 (λp=>p.Races.length<=6) (Wq L a):=by
 unfold Wq;obtain⟨p,b,e,g1,g2,g3⟩:=planP_dr hL (a:=a) h0 aA;have hfew:=g3.few;rw[e];simp only[aG,Jb];obtain⟨f,b1,e1,g4,g5,_⟩:=CN hL (a:=b) aA aA 12 aA;rw[e1];simp only[aG]
 cases f with
 |false=>rw[aP aB];exact⟨_,_,rfl,by omega,by omega,by show p.Races.length<=6;omega⟩
 |true=>
  rw[aQ rfl];obtain⟨i,b2,e2,g6,g7,g8⟩:=SH hL (a:=b1) aA aA 3 aA;rw[e2];simp only[aG]
  by_cases hi0:i=0
  ·rw[aQ (aH hi0)];obtain⟨x,b3,e3,g9,g10,g11⟩:=XG hL (a:=b2) aA aA;rw[e3];simp only[aG];rw[Ei (aH aA)];exact⟨_,_,rfl,by omega,by omega,by show (p.Races++x).length<=6;rw[aU];omega⟩
  ·rw[aP (by simpa using hi0)]
   by_cases hi1:i=1
   ·rw[aQ (aH hi1)];obtain⟨t,b3,e3,g9,g10,_⟩:=Aav hL (a:=b2) aA aA;rw[e3];simp only[aG];exact⟨_,_,rfl,by omega,by omega,by show p.Races.length<=6;omega⟩
   ·rw[aP (by simpa using hi1)];obtain⟨v1,b3,e3,g9,g10,_⟩:=AY hL (a:=b2) aA aA 1 10 aA aA aA;rw[e3];simp only[aG];obtain⟨v2,b4,e4,g11,g12,_⟩:=AY hL (a:=b3) aA aA 1 5 aA aA aA;rw[e4];simp only[aG];obtain⟨v3,b5,e5,g13,g14,_⟩:=AY hL (a:=b4) aA aA 0 10 aA aA aA;rw[e5];simp only[aG];exact⟨_,_,rfl,by omega,by omega,by show p.Races.length<=6;omega⟩
theorem LO{a:Int}(h0:0<=a)(h1:a<=1000000):Dr a 1 (λ_=>True) (Us L a):=by
 unfold Us;obtain⟨v,b,e,g1,g2,_⟩:=Qc hL h0 aA [0,3,10,20,40,60,60,(-1)] aB aB;rw[e];exact⟨_,_,rfl,g1,g2,trivial⟩
end
theorem ZM(who:ByteArray):∀(l:List Dt) (i:Nat),(∀d∈l,d.Who≠who)->Fo who (-1) l i= -1
 |[],_,_=>rfl
 |x::l,i,h=>by
  rw[Fo]
  unfold Zb
  rw[aP (by simpa using h x aN)]
  exact ZM who l (i+1) λd hd=>h d (aM _ hd)
theorem VQ(who:ByteArray)(d:Dt)(B:List Dt)(hd:d.Who=who):∀(A:List Dt) (i:Nat),(∀d∈A,d.Who≠who)->Fo who (-1) (A++d::B) i=((i+A.length:Nat):Int)
 |[],i,_=>by
  rw[aZ,Fo]
  unfold Zb
  rw[aQ (by simpa using hd)]
  simp
 |x::A,i,h=>by
  rw[List.cons_append,Fo]
  unfold Zb
  rw[aP (by simpa using h x aN)]
  rw[VQ who d B hd A (i+1) λd hd=>h d (aM _ hd),aT]
  congr 1;omega
theorem RG(who:ByteArray)(r:Ea)(hk:r.Key.size<=40):∀(ys:List Dy) (i:Nat) (x:ByteArray),(∀y∈ys,0<=y.Rank/\y.Rank<=13/\0<=y.Time/\y.Time<=360000)->
 ∃z,(∀j,Ry who r j ys i x=j z)/\∀j,Lk who r j ys i x=j z
 |[],i,x,_=>⟨x,λ_=>rfl,λ_=>rfl⟩
 |y::ys,i,x,h=>by
  obtain⟨h1,h2,h3,h4⟩:=h y aN
  have ih:=λz=>RG who r hk ys (i+1) z λy hy=>h y (aM _ hy)
  by_cases hw:y.Who=who
  ·obtain⟨c,c1,c2,c3⟩:=OU h3 h4
   have k1:Jo.size=1:=by decide
   have k2:HQ.size=1:=by decide
   by_cases hr:0<y.Rank
   ·obtain⟨s,s1,s2⟩:=itoaM y.Rank h1 aA
    obtain⟨z,z1,z2⟩:=ih (r.Key++Jo++s++Jo++c)
    refine⟨z,λj=>?_,λj=>?_⟩
    ·rw[Ry]
     simp only[Jb]
     rw[aQ (aH hw),aQ (aH hr),s1,c1]
     simp only[aG]
     repeat rw[Ei (by simp only[ByteArray.size_append,aK];omega)]
     exact z1 j
    ·rw[Lk]
     simp only[Jb]
     rw[aP (by simp[hw]),aQ (aH hr),numM _ s s1 s2,c2]
     simp only[aG]
     repeat rw[Ei (by simp only[ByteArray.size_append,aK];omega)]
     exact z2 j
   ·obtain⟨z,z1,z2⟩:=ih (r.Key++Jo++HQ++Jo++c)
    refine⟨z,λj=>?_,λj=>?_⟩
    ·rw[Ry]
     simp only[Jb]
     rw[aQ (aH hw),aP (by simpa using hr),c1]
     simp only[aG]
     repeat rw[Ei (by simp only[ByteArray.size_append,aK];omega)]
     exact z1 j
    ·rw[Lk]
     simp only[Jb]
     rw[aP (by simp[hw]),aP (by simpa using hr),c2]
     simp only[aG]
     repeat rw[Ei (by simp only[ByteArray.size_append,aK];omega)]
     exact z2 j
  ·obtain⟨z,z1,z2⟩:=ih x
   refine⟨z,λj=>?_,λj=>?_⟩
   ·rw[Ry]
    simp only[Jb]
    rw[aP (by simpa using hw)]
    exact z1 j
   ·rw[Lk]
    simp only[Jb]
    rw[aQ (by simpa using hw)]
    exact z2 j
theorem TF(who:ByteArray)(p:Iq)(l:List Dt)(r:Ea)(at_:Int)(j:List ByteArray->Option (List ByteArray×Int)):∀(ys:List Dt) (i:Nat) (x:List ByteArray),(∀d∈ys,d.Who≠who)->Jv who p l r at_ j ys i x=j x
 |[],_,_,_=>rfl
 |d::ys,i,x,h=>by
  rw[Jv]
  simp only[Jb]
  rw[aQ (by simpa using h d aN)]
  exact TF who p l r at_ j ys (i+1) x λd hd=>h d (aM _ hd)
theorem VR(who:ByteArray)(p:Iq)(l:List Dt)(r:Ea)(at_:Int)(j:List ByteArray->Option (List ByteArray×Int))(Z:List Dt):∀(A:List Dt) (i:Nat) (x:List ByteArray),(∀d∈A,d.Who≠who)->Jv who p l r at_ j (A++Z) i x=Jv who p l r at_ j Z (i+A.length) x
 |[],_,_,_=>rfl
 |d::A,i,x,h=>by
  rw[List.cons_append,Jv]
  simp only[Jb]
  rw[aQ (by simpa using h d aN),VR who p l r at_ j Z A (i+1) x λd hd=>h d (aM _ hd),aT]
  congr 1;omega
theorem entL_nd(race:ByteArray)(F:List Dt):(DI race F).Pairwise λa b=>a.Who≠b.Who:=(SI race F).imp λ{a b} h e=>by
 rw[KV,aK,e,Uj] at h
 omega
theorem Aaw(race:ByteArray)(F:List Dt):(DI race F).length<=F.length:=by rw[OA];exact JZ race F
theorem of_l{p:Iq}(hp:KD p){l:List Dt}{at_:Int}(hf:IT l)(hs:l.Pairwise λx y=>x.At<=y.At)(h:FM (Ku l at_))(who:ByteArray):∀(ys:List Ea) (i:Nat) (x:List ByteArray),(∀r∈ys,r∈p.Races)->x.length+ys.length<=1000000->
 ∃L e,Tq p (Ku l at_) who (λx1=>some (x1,0)) ys i x=some (L,e)/\Nb l at_ who p (λx1=>some (x1,0)) ys i x=some (L,e)/\(e≠0->L=[])
 |[],i,x,_,_=>⟨x,0,rfl,rfl,λh=>absurd rfl h⟩
 |r::ys,i,x,hr,hx=>by
  rw[aT] at hx
  have hr1:=hr r aN
  have hk:=ON (hp.key r hr1)
  have ih:=λz hz=>of_l hp hf hs h who ys (i+1) z (λq hq=>hr q (aM _ hq)) hz
  have hent:=CP p (Ku l at_) r.Key (by have:=h.len;omega)
  have hentR:=GH l r.Key at_ hf hs
  rw[Tq,Nb,hent,hentR]
  simp only[aG,Jb]
  generalize hE:DI r.Key (Ku l at_)=E at*
  by_cases hw:∀d∈E,d.Who≠who
  ·unfold Jl
   rw[Jb,ZM who E 0 hw,aQ aC,TF who p l r at_ _ E 0 x hw]
   exact ih x aA
  ·obtain⟨d,hd,hdw⟩:∃d∈E,d.Who=who:=by
    apply Classical.byContradiction;intro hn;exact hw λd hd e=>hn ⟨d,hd,e⟩
   obtain⟨A,B,rfl⟩:=List.append_of_mem hd;have nd:=entL_nd r.Key (Ku l at_);rw[hE,bK] at nd;have hA:∀o∈A,o.Who≠who:=λo ho e=>nd.2.2 o ho d aN (by rw[e,hdw]);have hB:∀o∈B,o.Who≠who:=λo ho e=>(List.pairwise_cons.1 nd.2.1).1 o ho (by rw[e,hdw]);have hl:(A++d::B).length<=1000:=by rw[←hE];exact Nat.le_trans (Aaw _ _) h.len
   rw[VR who p l r at_ _ _ A 0 x hA,Jv];unfold Jl;simp only[Jb];simp only[VQ who d B hdw A 0 hA,Nat.zero_add];rw[aP aB,aP (by simp[hdw])];obtain⟨L,e,r1,r2,r3,r4⟩:=TA hp hf hs h hr1;rw[r1,r2];simp only[aG]
   by_cases he:e=0
   ·subst he;obtain⟨_,r5⟩:=r4 rfl;have hdE:d∈DI r.Key (Ku l at_):=by rw[hE];exact hd
    obtain⟨_,k2,k3⟩:=HC hdE;have tm:=(h.ok d k3).time (.inl k2);obtain⟨c,c1,c2,c3⟩:=OU tm.1 tm.2;have hn:nth (A++d::B) ((A.length:Nat):Int)=d:=by unfold nth;simp
    have k1:Nv.size=7:=by decide
    have hin:inB ((A.length:Nat):Int) (A++d::B).length=true:=by rw[Ih];simp;omega
    rw[hn,c1,c2];simp only[aJ,bN,aO,aR,aG];rw[Ei (c:=inB _ _) hin]
    repeat rw[Ei (by simp only[ByteArray.size_append,aK];omega)]
    obtain⟨z,z1,z2⟩:=RG who r hk L 0 (r.Key++Nv++c) λy hy=>(r5 y hy).2.2;have hroom:Px x.length=true:=by unfold Px;simp;omega
    rw[z1,z2,Ei hroom,Ei hroom,TF who p l r at_ _ B _ _ hB];exact ih (x++[z]) aD
   ·refine⟨[],e,?_,?_,λ_=>rfl⟩
    ·rw[aQ (by simpa using he)]
    ·rw[aQ (by simpa using he)]
theorem Of_both{p:Iq}{l:List Dt}(hM:MD l)(who:ByteArray)(at_:Int):∃e0 L e,Mi p l at_=some e0/\GV p l who at_=some (L,e)/\(e0≠0->e=e0/\L=[])/\
 (e0=0->∃a,Ny p l at_=some a/\(a≠0->e=a/\L=[])/\(a=0->∃L' e' b,Uv p l who at_=some (L',e')/\Mt who=some b/\(e'≠0->e=e'/\L=L')/\(e'=0->(b=true->e=0/\L=L')/\(b=false->e=5/\L=[])))):=by
 obtain⟨e0,h1,h2,h3⟩:=Aas p l at_
 by_cases he:e0=0
 ·obtain⟨hp,hG,hm,ho⟩:=h3 he;have hs:=hG.mom;obtain⟨a,a1,a2⟩:=OT hp hM.few hs (at_:=at_);unfold GV;rw[ho];simp only[aG,aJ,bN,aO,aR];unfold JG;rw[a2];simp only[aG,Jb]
  by_cases ha:a=0
  ·rw[aP (by simpa using ha)];obtain⟨L,e,c1,c2,c3⟩:=of_l hp hM.few hs (hM.fm hG at_) who p.Races 0 [] (λ_ h=>h) (by have:=hp.len;simp;omega);rw[c1];simp only[aG];obtain⟨b,b1,b2⟩:=Tm who;have hto:Uv p l who at_=some (L,e):=by unfold Uv;rw[Jb];exact c2
   by_cases hz:e=0
   ·subst hz;rw[b1];simp only[aJ,bN,aO,aR,aG]
    cases b with
    |true=>exact⟨e0,L,0,h1,rfl,λh=>absurd he h,λ_=>⟨a,a1,λh=>absurd ha h,λ_=>⟨L,0,true,hto,b2,λh=>absurd rfl h,λ_=>⟨λ_=>⟨rfl,rfl⟩,λh=>absurd h aC⟩⟩⟩⟩
    |false=>exact⟨e0,[],5,h1,rfl,λh=>absurd he h,λ_=>⟨a,a1,λh=>absurd ha h,λ_=>⟨L,0,false,hto,b2,λh=>absurd rfl h,λ_=>⟨λh=>absurd h aC,λ_=>⟨rfl,rfl⟩⟩⟩⟩⟩
   ·rw[aQ (by simpa using hz)];exact⟨e0,[],e,h1,rfl,λh=>absurd he h,λ_=>⟨a,a1,λh=>absurd ha h,λ_=>⟨L,e,b,hto,b2,λ_=>⟨rfl,(c3 hz).symm⟩,λh=>absurd h hz⟩⟩⟩
  ·rw[aQ (by simpa using ha)];simp only[aG];rw[aQ (by simpa using ha)];exact⟨e0,[],a,h1,rfl,λh=>absurd he h,λ_=>⟨a,a1,λ_=>⟨rfl,rfl⟩,λh=>absurd h ha⟩⟩
 ·refine⟨e0,[],e0,h1,?_,λ_=>⟨rfl,rfl⟩,λh=>absurd h he⟩;have ho:=h2 he;unfold GV;rw[ho];simp only[aG];rw[aQ (by simpa using he)]
theorem XH(p:Iq)(l:List Dt)(a b:Int):∃e0,Mi p l a=some e0/\(Io [e0,Fx b]≠0->Uu p l [a,b]=some (none,Io [e0,Fx b]))/\
 (Io [e0,Fx b]=0->KD p/\DsG l/\Uu p l [a,b]=some (some (Kq.mk p (Ku l b)),0)):=by
 obtain⟨e,p1,p2,p3⟩:=RE p;obtain⟨f,d1,d2,d3⟩:=NR l;unfold Mi Uu;rw[p1,p2];simp only[aG,OS]
 by_cases he:e=0
 ·subst he;simp only[aJ,bN,aO,aR];rw[d1,d2];simp only[aG,Jb,KE]
  by_cases hf:f=0
  ·subst hf;have hG:=d3 rfl;have hn:nth [a,b] (W ((([a,b]:List Int).length:Int)-1))=b:=rfl;have hin:inB (W ((([a,b]:List Int).length:Int)-1)) ([a,b]:List Int).length=true:=rfl;rw[Ei hin,hn,EK p l b (by have:=hG.len;omega)];simp only[Pq,aG]
   cases ha:Ji a<;>cases hb:Ji b
   ·exact⟨1,by simp,by simp,by simp⟩
   ·exact⟨1,by simp,by simp,by simp⟩
   ·exact⟨0,by simp,by simp,by simp⟩
   ·exact⟨0,by simp,by simp,λ_=>⟨p3 rfl,hG,by simp⟩⟩
  ·refine⟨f,by rw[aQ hf],λ_=>?_,λh=>?_⟩
   ·rw[aQ (by simpa using hf),aQ hf]
   ·rw[aQ hf] at h;exact absurd h hf
 ·rw[aQ (by simpa using he)];refine⟨e,rfl,λ_=>?_,λh=>?_⟩
  ·rw[aQ (by simpa using he),aQ he]
  ·rw[aQ he] at h;exact absurd h he
theorem eqL_l(b:List Dy)(j:Option Bool)(hj:∃r,j=some r):∀(ys:List Dy) (i:Nat),i+ys.length<=b.length->∃r,Lw b j ys i=some r
 |[],_,_=>hj
 |y::ys,i,h=>by
  rw[aT] at h
  rw[Lw,Ei (by rw[Ih];omega)]
  split
  ·exact⟨false,rfl⟩
  ·exact eqL_l b j hj ys (i+1) aA
theorem eqL_some(a b:List Dy):∃r,Tc a b=some r:=by
 unfold Tc
 split
 ·exact⟨false,rfl⟩
 ·rename_i h;rw[Jb];exact eqL_l b _ ⟨true,rfl⟩ a 0 (by simp at h;omega)
theorem chg_l{p:Iq}(hp:KD p){l:List Dt}{a b:Int}(hf:IT l)(hs:l.Pairwise λx y=>x.At<=y.At)(ha:FM (Ku l a))(hb:FM (Ku l b)):∀(ys:List Ea) (i:Nat) (x:List ByteArray),(∀r∈ys,r∈p.Races)->x.length+ys.length<=1000000->
 ∃L e,Pm (Kq.mk p (Ku l a)) (Kq.mk p (Ku l b)) (λx1=>some (x1,0)) ys i x=some (L,e)/\Lf p l a b (λx1=>some (x1,0)) ys i x=some (L,e)
 |[],i,x,_,_=>⟨x,0,rfl,rfl⟩
 |r::ys,i,x,hr,hx=>by
  rw[aT] at hx
  have hr1:=hr r aN
  have ih:=λz hz=>chg_l hp hf hs ha hb ys (i+1) z (λq hq=>hr q (aM _ hq)) hz
  have err:∀{F:List Dt} {e:Int},FM F->Kb (Ou r F)=some e->e≠0->e=12:=λhF he hn=>by
   obtain⟨e',h1,h2⟩:=Aau hF r (hp.key r hr1)
   rw[he] at h1
   obtain rfl:=bH h1
   exact h2.resolve_left hn
  obtain⟨L,e,r1,r2,_,_,r3⟩:=CV hp hf hs ha hr1
  obtain⟨M,f,s1,s2,_,_,s3⟩:=CV hp hf hs hb hr1
  rw[Pm,Lf]
  simp only[Jb]
  rw[r1,r2,s2]
  simp only[aG]
  by_cases he:e=0
  ·subst he
   simp only[aJ,bN,aO,aR,Bool.false_or]
   rw[s1]
   simp only[aG]
   by_cases hz:f=0
   ·subst hz
    simp only[aJ,bN,aO,aR]
    obtain⟨q,q1⟩:=eqL_some L M
    rw[q1]
    simp only[aG]
    have hroom:Px x.length=true:=by unfold Px;simp;omega
    cases q with
    |true=>exact ih x aA
    |false=>
     simp only[Bool.not_false,aS]
     rw[Ei hroom,Ei hroom]
     exact ih (x++[r.Key]) aD
   ·refine⟨[],12,?_,?_⟩
    ·rw[aQ (by simpa using hz),err hb s3 hz]
    ·rw[aQ (by simpa using hz)]
  ·refine⟨[],12,?_,?_⟩
   ·rw[aQ (by simpa using he),err ha r3 he]
   ·rw[aQ (by simp[he])]
theorem TG{p:Iq}{l:List Dt}(hM:MD l)(a b:Int):∃e0 L e,Mi p l a=some e0/\Xv p l a b=some (L,e)/\(Io [e0,Fx b]≠0->e=Io [e0,Fx b]/\L=[])/\
 (Io [e0,Fx b]=0->∃x y,Ny p l a=some x/\Ny p l b=some y/\(Io [x,y]≠0->e=Io [x,y]/\L=[])/\(Io [x,y]=0->Ud p l a b=some (L,e))):=by
 obtain⟨e0,h1,h2,h3⟩:=XH p l a b
 by_cases he:Io [e0,Fx b]=0
 ·obtain⟨hp,hG,ho⟩:=h3 he;have hs:=hG.mom;obtain⟨x,x1,x2⟩:=OT hp hM.few hs (at_:=a);obtain⟨y,y1,y2⟩:=OT hp hM.few hs (at_:=b);unfold Xv;rw[ho,EK p l a (by have:=hG.len;omega)];simp only[aG,aJ,bN,aO,aR];rw[x2,y2];simp only[aG,Jb]
  by_cases hx:x=0
  ·subst hx
   by_cases hy:y=0
   ·subst hy;obtain⟨L,e,c1,c2⟩:=chg_l hp hM.few hs (hM.fm hG a) (hM.fm hG b) p.Races 0 [] (λ_ h=>h) (by have:=hp.len;simp;omega);refine⟨e0,L,e,h1,?_,λh=>absurd he h,λ_=>⟨0,0,x1,y1,λh=>absurd rfl h,λ_=>?_⟩⟩
    ·simp only[aJ,bN,aO,aR];exact c1
    ·unfold Ud;rw[Jb];exact c2
   ·refine⟨e0,[],y,h1,?_,λh=>absurd he h,λ_=>⟨0,y,x1,y1,λ_=>⟨by rw[OS,aP aB],rfl⟩,λh=>?_⟩⟩
    ·simp only[aJ,bN,aO,aR];rw[aQ (by simpa using hy)]
    ·rw[OS,aP aB] at h;exact absurd h hy
  ·refine⟨e0,[],x,h1,?_,λh=>absurd he h,λ_=>⟨x,y,x1,y1,λ_=>⟨by rw[OS,aQ hx],rfl⟩,λh=>?_⟩⟩
   ·rw[aQ (by simpa using hx)]
   ·rw[OS,aQ hx] at h;exact absurd h hx
 ·refine⟨e0,[],_,h1,?_,λ_=>⟨rfl,rfl⟩,λh=>absurd h he⟩;have ho:=h2 he;unfold Xv;rw[ho];simp only[aG];rw[aQ (by simpa using he)]
theorem eqS_l(b:List ByteArray)(j:Option Bool):∀(ys dn:List ByteArray),b=dn++ys->Ko b j ys dn.length=j
 |[],_,_=>rfl
 |y::ys,dn,h=>by
  have hn:nth b (dn.length:Int)=y:=by unfold nth;rw[h];simp
  rw[Ko,Ei (by rw[Ih,h];simp;omega),hn,aP aB]
  have:=eqS_l b j ys (dn++[y]) (by rw[h];simp)
  rw[aU,aX] at this
  exact this
theorem Wf(b:List ByteArray):Rv b b=some true:=by
 unfold Rv;rw[aP aB,Jb];exact eqS_l b _ b [] rfl
theorem plain_MeetsShown(l:List Int)(hl:l.length<=9223372036854775807):Vs l=some true:=by
 have hL:EU l:=by unfold EU;omega
 obtain⟨p,a1,e1,p1,q1,hp⟩:=VP hL (a:=0) aA aA;obtain⟨x,a2,e2,p2,q2,hM⟩:=TD hL 14 aA aA (a:=a1) aA aA;obtain⟨at_,a3,e3,p3,q3,_⟩:=LO hL (a:=a2) aA aA;obtain⟨to,a4,e4,p4,q4,_⟩:=LO hL (a:=a3) aA aA;obtain⟨who,a5,e5,p5,q5,_⟩:=Zv hL (a:=a4) aA aA [Za,CG,k_a,k_A] aB aB;obtain⟨e0,L,e,h1,h2,h3,h4⟩:=Of_both (p:=p) hM who at_;obtain⟨e0',M,f,c1,c2,c3,c4⟩:=TG (p:=p) hM at_ to;rw[h1] at c1;obtain rfl:=bH c1;unfold Vs;rw[e1];simp only[aG];rw[e2];simp only[aG];rw[e3];simp only[aG];rw[e4];simp only[aG];rw[e5];simp only[aG];rw[h2];simp only[aG];rw[c2];simp only[aG];rw[h1];simp only[aG,Jb]
 by_cases he:e0=0
 ·obtain⟨a,r1,r2,r3⟩:=h4 he;rw[aQ (aH he),r1];simp only[aG]
  by_cases hz:Io [e0,Fx to]=0
  ·obtain⟨u,v,u1,v1,w1,w2⟩:=c4 hz;rw[r1] at u1;obtain rfl:=bH u1;rw[aQ (aH hz),v1];simp only[aG]
   by_cases hq:Io [a,v]=0
   ·have hc:=w2 hq
    by_cases ha:a=0
    ·obtain⟨L',e',b,t1,t2,t3,t4⟩:=r3 ha;rw[aQ (aH ha),t1]
     by_cases hq':e'=0
     ·cases b with
      |true=>
       obtain⟨rfl,rfl⟩:=(t4 hq').1 rfl;simp[t2,hq',Wf,Yc,hq,hc]
      |false=>
       obtain⟨rfl,rfl⟩:=(t4 hq').2 rfl;simp[t2,hq',Wf,Yc,hq,hc]
     ·obtain⟨rfl,rfl⟩:=t3 hq';simp[hq',Wf,Yc,hq,hc]
    ·obtain⟨rfl,rfl⟩:=r2 ha;rw[aP (by simpa using ha)];simp[ha,Wf,Yc,hq,hc]
   ·obtain⟨hf,rfl⟩:=w1 hq
    by_cases ha:a=0
    ·obtain⟨L',e',b,t1,t2,t3,t4⟩:=r3 ha;rw[aQ (aH ha),t1]
     by_cases hq':e'=0
     ·cases b with
      |true=>
       obtain⟨rfl,rfl⟩:=(t4 hq').1 rfl;simp[t2,hq',Wf,Yc,hq,hf]
      |false=>
       obtain⟨rfl,rfl⟩:=(t4 hq').2 rfl;simp[t2,hq',Wf,Yc,hq,hf]
     ·obtain⟨rfl,rfl⟩:=t3 hq';simp[hq',Wf,Yc,hq,hf]
    ·obtain⟨rfl,rfl⟩:=r2 ha;rw[aP (by simpa using ha)];simp[ha,Wf,Yc,hq,hf]
  ·obtain⟨hf,rfl⟩:=c3 hz;rw[aP (by simpa using hz)]
   by_cases ha:a=0
   ·obtain⟨L',e',b,t1,t2,t3,t4⟩:=r3 ha;rw[aQ (aH ha),t1]
    by_cases hq':e'=0
    ·cases b with
     |true=>
      obtain⟨rfl,rfl⟩:=(t4 hq').1 rfl;simp[t2,hq',Wf,Yc,hz,hf]
     |false=>
      obtain⟨rfl,rfl⟩:=(t4 hq').2 rfl;simp[t2,hq',Wf,Yc,hz,hf]
    ·obtain⟨rfl,rfl⟩:=t3 hq';simp[hq',Wf,Yc,hz,hf]
   ·obtain⟨rfl,rfl⟩:=r2 ha;rw[aP (by simpa using ha)];simp[ha,Wf,Yc,hz,hf]
 ·obtain⟨rfl,rfl⟩:=h3 he;have hz:Io [e,Fx to]≠0:=by rw[OS,aQ he];exact he
  obtain⟨hf,rfl⟩:=c3 hz;rw[aP (by simpa using he),aP (by simpa using hz)];simp[he,hz,hf,Wf,Yc]
end Go.Proofs.YtconmpkpdfidiaaGreatDoor
