/- The draw of a race: the program's starts are the reference's. No program stands here but its twins. -/
import Derived.Test.YtbicihdhkkjigaaGreatDoorPPtsM
import Derived.Test.YtbicihdhkkjigaaGreatDoorPDeedMerge
import Derived.Test.YtbicihdhkkjigaaGreatDoorPResults
namespace Go.Proofs.YtbicihdhkkjigaaGreatDoor
open Go
structure MS(m:List (ByteArray×Ky))(K:ByteArray->Prop)(u:ByteArray->Nat):Prop where
 nd:(m.map (·.1)).Nodup
 keys:∀k,k∈m.map (·.1)↔K k
 vals:∀k,K k->Fi m k (Ky.mk 0 0)=frB (u k)
theorem MS.put{m:List (ByteArray×Ky)}{K:ByteArray->Prop}{u:ByteArray->Nat}(h:MS m K u)(k:ByteArray)(v:Nat):MS (Jd m k (frB v)) (λz=>z=k\/K z) (λz=>if z=k then v else u z):=by
 obtain⟨a,b⟩:=QB k (frB v) m h.nd;refine⟨a,λz=>by rw[b z,h.keys z],λz hz=>?_⟩;rw[Zm]
 by_cases e:z=k
 ·rw[aQ e,aQ e]
 ·rw[aP e,aP e];rcases hz with hz|hz
  ·exact(e hz).elim
  ·exact h.vals z hz
theorem MS.congr{m:List (ByteArray×Ky)}{K K':ByteArray->Prop}{u u':ByteArray->Nat}(h:MS m K u)(hk:∀k,K k↔K' k)(hu:∀k,K' k->u k=u' k):MS m K' u':=
 ⟨h.nd,λk=>(h.keys k).trans (hk k),λk hk'=>by rw[h.vals k ((hk k).2 hk'),hu k hk']⟩
def sumB(k:ByteArray)(ls:List El):Nat:=((ls.filter λy=>decide (y.Club=k)).map λy=>valB y.Points).sum
structure CJ(lines:List El)(names:List ByteArray)(m:List (ByteArray×Ky)):Prop where
 ms:MS m (λk=>k∈names) (λk=>sumB k lines)
 pts:∀y∈lines,Pts y.Points
 club:∀y∈lines,y.Club≠Ed->y.Club∈names
 few:∀k∈names,k∈[Sl,DV,k_A]
def FewC(F:List An):Prop:=∀d∈F,d.Club∈[Sl,DV,Ed,k_A]
theorem TJ{L:List Int}(hL:CZ L){a:Int}(h0:0<=a)(h1:a<=100000000)(key:ByteArray):Dr a 7 (λ_=>True) (St L a key):=by
 unfold St;obtain⟨v1,b1,e1,g1,g2,_⟩:=Ot hL h0 aA [50,100,200] aB aB;rw[e1];simp only[aG];obtain⟨v2,b2,e2,g3,g4,_⟩:=Ot hL (a:=b1) aA aA [1,2,3,4] aB aB;rw[e2];simp only[aG];obtain⟨v3,b3,e3,g5,g6,_⟩:=Ot hL (a:=b2) aA aA [25,50] aB aB;rw[e3];simp only[aG];obtain⟨v4,b4,e4,g7,g8,_⟩:=Ot hL (a:=b3) aA aA [1,1,1,4] aB aB;rw[e4];simp only[aG];obtain⟨v5,b5,e5,g9,g10,_⟩:=Ot hL (a:=b4) aA aA [0,1,2] aB aB;rw[e5];simp only[aG];obtain⟨v6,b6,e6,g11,g12,_⟩:=Ot hL (a:=b5) aA aA [0,0,5,10] aB aB;rw[e6];simp only[aG];obtain⟨v7,b7,e7,g13,g14,_⟩:=Ot hL (a:=b6) aA aA [0,5,90] aB aB;rw[e7];simp only[aG];exact⟨_,_,rfl,by omega,by omega,trivial⟩
section
variable {L:List Int}(hL:CZ L)
include hL
theorem FQ:∀(ys:List ByteArray) (i:Nat) (x1:List Ek) (a:Int),0<=a->a+8*ys.length<=10000000->x1.length+ys.length<=1000->
 ∃x b,Kr L (λx a=>some (x,a)) ys i x1 a=some (x,b)/\a<=b/\b<=a+8*ys.length/\x.length<=x1.length+ys.length
 |[],i,x1,a,_,_,_=>⟨x1,a,rfl,Int.le_refl _,by simp,by simp⟩
 |y::ys,i,x1,a,h0,h1,h2=>by
  rw[Kr]
  simp only[aT] at h1 h2 ⊢
  obtain⟨f,b,e,g1,g2,_⟩:=BE hL h0 aA 6 aA
  rw[e];simp only[aG,Pf]
  cases f with
  |true=>
   rw[aP aB]
   obtain⟨x,c,e',g3,g4,g5⟩:=FQ ys (i+1) x1 b aA aA aA
   exact⟨x,c,e',by omega,by omega,by omega⟩
  |false=>
   rw[aQ aB]
   obtain⟨s,b2,e2,g3,g4,_⟩:=TJ hL (a:=b) aA aA y
   rw[e2];simp only[aG]
   rw[Gl (by unfold Ok;simp;omega)]
   obtain⟨x,c,e',g7,g8,g9⟩:=FQ ys (i+1) (x1++[s]) b2 aA aA aD
   simp only[aU,aX] at g9
   exact⟨x,c,e',by omega,by omega,by omega⟩
variable {a:Int}(h0:0<=a)(h1:a<=1000000)
include h0 h1
theorem RK:Dr a 24 (λx=>x.length<=3) (Sc L a):=by
 unfold Sc;simp only[Pf];obtain⟨x,c,e',g7,g8,g9⟩:=FQ hL [Oc,Wz,BK] 0 [] a h0 aD aB;exact⟨x,c,e',g7,by simp at g8;omega,by simpa using g9⟩
end
theorem JI:Zg=some true:=by
 have h1:Sm (Lc.mk [Ek.mk k_r 50 1 50 1 0 0 0] (Qy.mk [] 1 0) (Hn.mk 1 1 0))=some 0:=by decide+kernel
 have h2:Rx [An.mk k_s 1 0 1 k_a Ed k_r 5 0 Ed 0]=some 0:=by decide+kernel
 have h3:Jw [An.mk k_s 1 0 1 k_a Ed k_r 5 0 Ed 0] 0=[An.mk k_s 1 0 1 k_a Ed k_r 5 0 Ed 0]:=by decide+kernel
 have h4:AW k_r [An.mk k_s 1 0 1 k_a Ed k_r 5 0 Ed 0]=[An.mk k_s 1 0 1 k_a Ed k_r 5 0 Ed 0]:=by decide+kernel
 have h5:=CG (Lc.mk [Ek.mk k_r 50 1 50 1 0 0 0] (Qy.mk [] 1 0) (Hn.mk 1 1 0)) [An.mk k_s 1 0 1 k_a Ed k_r 5 0 Ed 0] k_r aB;rw[h4] at h5;have h6:=NC (Lc.mk [Ek.mk k_r 50 1 50 1 0 0 0] (Qy.mk [] 1 0) (Hn.mk 1 1 0)) [An.mk k_s 1 0 1 k_a Ed k_r 5 0 Ed 0] 0 aB;rw[h3] at h6;have h7:Gc [Ek.mk k_r 50 1 50 1 0 0 0] k_r=0:=by decide+kernel
 have h8:Kn 0=true:=by decide
 have h9:nth [(0:Int)] (W ((([(0:Int)].length:Nat):Int)-1))=0:=by decide+kernel
 unfold Zg Ud Vg Zw;rw[h1];simp only[aG,Ht];rw[aP aB,h2];simp only[aG];rw[aP aB,Ql,aP (by rw[h8];simp),Ql,Gl (by decide+kernel),h9,h6];simp only[aG];unfold Yh;rw[aP aB,aP (by rw[h7];simp),h5];simp only[aG];rw[aP aB,Gl (by rw[h7];decide+kernel)];simp only[aG];rw[aP aB];unfold Vz;rw[h5];simp only[aG,Ht];rw[Pm,Gl aC,Pm];rfl
theorem swum_k1{F:List An}(race:ByteArray):(Tu race F).length<=F.countP λd=>decide (d.Kind=1):=by
 rw[List.countP_eq_length_filter];refine JF _ _ ((List.pairwise_map.1 (GK race F)).imp λh e=>h (congrArg (·.Who) e)) λd hd=>?_;obtain⟨h1,_⟩:=List.mem_filter.1 hd;obtain⟨_,k2,k3⟩:=DS h1;exact List.mem_filter.2 ⟨k3,aH k2⟩
theorem swum_k3{F:List An}(race:ByteArray):(Tu race F).length<=F.countP λd=>decide (d.Kind=3):=by
 have hsv:∀d∈Tu race F,svS race F d∈F/\(svS race F d).Kind=3/\(svS race F d).Who=d.Who:=λd hd=>by
  obtain⟨_,h2⟩:=List.mem_filter.1 hd;unfold LE at h2;obtain⟨y,hy⟩:=Option.isSome_iff_exists.1 h2;have e:svS race F d=y:=by unfold svS Fi;rw[hy];rfl
  have g:=XA hy;rw[e];exact⟨g.1,g.2.1,g.2.2.2⟩
 rw[List.countP_eq_length_filter,←aV (f:=svS race F)];have hn:(((Tu race F).map (svS race F)).map (·.Who)).Nodup:=by
  have e:((Tu race F).map (svS race F)).map (·.Who)=(Tu race F).map (·.Who):=by
   rw[List.map_map];exact List.map_congr_left λd hd=>(hsv d hd).2.2
  rw[e];exact GK race F
 refine JF _ _ ((List.pairwise_map.1 hn).imp λh e=>h (congrArg (·.Who) e)) λy hy=>?_
 ·obtain⟨d,hd,rfl⟩:=bD.1 hy;obtain⟨h1,h2,_⟩:=hsv d hd;exact List.mem_filter.2 ⟨h1,aH h2⟩
structure MD(l:List An):Prop where
 few:KG l
 club:FewC l
 swms:(l.countP λd=>decide (d.Kind=1))<=12\/(l.countP λd=>decide (d.Kind=3))<=12
 alike:(l.countP λd=>decide (d.Kind=1))<=16\/∀d∈l,d.Time=0
theorem MD.fm{l:List An}(h:MD l)(g:DsG l)(at_:Int):FM (Jw l at_):=by
 have hs:=AE l at_;refine⟨λd hd=>g.each d (hs.subset hd),Nat.le_trans hs.length_le h.few.len,λrace=>?_⟩;rcases h.swms with h1|h1
 ·exact Nat.le_trans (swum_k1 race) (Nat.le_trans (hs.countP_le) h1)
 ·exact Nat.le_trans (swum_k3 race) (Nat.le_trans (hs.countP_le) h1)
theorem rune_sz:∀i:Fin 26,(Utf8.encode (IntKind.wrap .i32 (W (97+(i.val:Int))))).size<=1000:=by decide+kernel
theorem TK{x:Int}(h0:0<=x)(h1:x<26):(Utf8.encode (IntKind.wrap .i32 (W (97+x)))).size<=1000:=by
 have:=rune_sz ⟨x.toNat,by omega⟩;simp only[Int.toNat_of_nonneg h0] at this;exact this
section
variable {L:List Int}(hL:CZ L)
theorem tied_l(r1:Int×Int)(hr:r1.1<=12)(j:List An->Option (List An×Int)):∀(m:Nat) (x:List An) (i:Int),0<=i->r1.1-i<(m:Int)->(x.length:Int)<=2*i->i<=13->(∀d∈x,d.Kind≠4/\d.Club∈[Sl,DV,Ed,k_A])->((x.countP λd=>decide (d.Kind=1):Nat):Int)<=i->i<=r1.1->
 ∃x',Mr r1 j m x i=j x'/\(x'.length:Int)<=24/\(∀d∈x',d.Kind≠4/\d.Club∈[Sl,DV,Ed,k_A])/\((x'.countP λd=>decide (d.Kind=1):Nat):Int)<=12
 |0,x,i,_,h,_,_,_,_,_=>by omega
 |m+1,x,i,h0,h1,h2,h3,h4,h5,h6=>by
  rw[Mr]
  by_cases hc:i<r1.1
  ·have hw:W (i+1)=i+1:=Jz aA aA
   rw[aQ (aH hc),Gl (by unfold Ok;exact aH aA),hw]
   refine tied_l r1 hr j m _ (i+1) aA aA aD aA (λd hd=>?_) ?_ aA
   ·rcases bC.1 hd with hd|hd
    ·exact h4 d hd
    ·rcases bB.1 hd with rfl|hd
     ·exact⟨by simp,by simp⟩
     ·obtain rfl:=bA.1 hd
      exact⟨by simp,by simp⟩
   ·rw[List.countP_append]
    simp
    omega
  ·rw[aP (by simpa using hc)]
   exact⟨x,rfl,by omega,h4,by omega⟩
theorem XF(r1:Int×Int)(hr:0<=r1.1/\r1.1<=1)(j:List An->Option (List An×Int)):∀(m:Nat) (x:List An) (i:Int),0<=i->300+r1.1-i<(m:Int)->(x.length:Int)<=i->(∀d∈x,d.Kind=1/\d.Club=Ed/\d.Time=0)->i<=300+r1.1->
 ∃x',Lw r1 j m x i=j x'/\(x'.length:Int)<=301/\(∀d∈x',d.Kind=1/\d.Club=Ed/\d.Time=0)
 |0,x,i,_,h,_,_,_=>by omega
 |m+1,x,i,h0,h1,h2,h3,h4=>by
  have hw0:W (300+r1.1)=300+r1.1:=Jz aA aA
  rw[Lw,hw0]
  by_cases hc:i<300+r1.1
  ·have hw:W (i+1)=i+1:=Jz aA aA
   have hd:Int.tdiv i 26=i / 26:=Int.tdiv_eq_ediv_of_nonneg h0
   have hm:Int.tmod i 26=i % 26:=Int.tmod_eq_emod_of_nonneg h0
   have hwd:W (Int.tdiv i 26)=i / 26:=by rw[hd];exact Jz aA aA
   have s1:=TK (x:=i / 26) aA aA
   have s2:=TK (x:=i % 26) aA aA
   rw[aQ (aH hc),hwd,hm,Gl (aH aA),Gl (by unfold Ok;exact aH aA),hw]
   refine XF r1 hr j m _ (i+1) aA aA aD (λd hd=>?_) aA
   rcases bC.1 hd with hd|hd
   ·exact h3 d hd
   ·obtain rfl:=bA.1 hd
    exact⟨rfl,rfl,rfl⟩
  ·rw[aP (by simpa using hc)]
   exact⟨x,rfl,by omega,h3⟩
include hL
theorem RL(many:Int)(h0:0<=many)(hm:many<=16){a:Int}(ha:0<=a)(ha':a<=1000000):Dr a 500 MD (Tj L a many):=by
 unfold Tj;obtain⟨f,b,e,g1,g2,_⟩:=BE hL ha aA 15 aA;rw[e];simp only[aG]
 cases f with
 |true=>
  rw[aQ rfl];unfold Xj;obtain⟨v,b1,e1,g3,g4,g5,g6⟩:=AQ hL (a:=b) aA aA 9 12 aA aA aA;rw[e1];simp only[aG,Ht];obtain⟨x,q1,q2,q3,q4⟩:=tied_l (v,b1) (by show v<=12;omega) (λx1=>some (x1,b1)) (((v,b1):Int×Int).1-0).toNat.succ.succ [] 0 aA (by show v-0<_;simp;omega) aB aA (λd hd=>absurd hd aB) aB (by show (0:Int)<=v;omega);rw[show (((v-0).toNat+2)=(((v,b1):Int×Int).1-0).toNat.succ.succ) from rfl,q1];have hM:MD x:=⟨.inr ⟨by omega,λd hd=>(q3 d hd).1⟩,λd hd=>(q3 d hd).2,.inl aA,.inl aA⟩;exact⟨_,_,rfl,by omega,by omega,hM⟩
 |false=>
  rw[aP aB];obtain⟨f2,b1,e1,g3,g4,_⟩:=BE hL (a:=b) aA aA 60 aA;rw[e1];simp only[aG]
  cases f2 with
  |true=>
   rw[aQ rfl];unfold Wv;obtain⟨v,b2,e2,g5,g6,g7,g8⟩:=AQ hL (a:=b1) aA aA 0 1 aA aA aA;rw[e2];simp only[aG,Ht];have hw0:W (300+v)=300+v:=Jz aA aA;obtain⟨x,q1,q2,q3⟩:=XF (v,b2) ⟨by show 0<=v;omega,by show v<=1;omega⟩ (λx1=>some (x1,b2)) ((W (300+v)-0).toNat+2) [] 0 aA (by show 300+v-0<_;rw[hw0];omega) aB (λd hd=>absurd hd aB) (by show (0:Int)<=300+v;omega);rw[q1];have hk:∀d∈x,d.Kind≠4:=λd hd=>by rw[(q3 d hd).1];decide
   have hc:(x.countP λd=>decide (d.Kind=3))=0:=List.countP_eq_zero.2 λd hd=>by rw[(q3 d hd).1];decide
   have hM:MD x:=⟨.inr ⟨by omega,hk⟩,λd hd=>by rw[(q3 d hd).2.1];simp,.inr aA,.inr λd hd=>(q3 d hd).2.2⟩;exact⟨_,_,rfl,by omega,by omega,hM⟩
  |false=>
   rw[aP aB];obtain⟨v,b2,e2,g5,g6,g7,g8⟩:=AQ hL (a:=b1) aA aA 0 many aA aA aA;rw[e2];simp only[aG];obtain⟨x,b3,e3,g9,g10,g11,g12⟩:=YL hL v aA aA (a:=b2) aA aA;rw[e3];have hd:∀l:List An,(l.countP λd=>decide (d.Kind=1))+(l.countP λd=>decide (d.Kind=3))<=l.length:=by
    intro l
    induction l with
    |nil=>simp
    |cons y l ih=>
     rw[List.countP_cons,List.countP_cons,aT]
     by_cases k1:y.Kind=1
     ·simp[k1];omega
     ·by_cases k3:y.Kind=3<;>simp[k1,k3]<;>omega
   have:=hd x;have hM:MD x:=⟨.inl aA,λd hd=>(g12 d hd).club,by omega,.inl aA⟩;exact⟨_,_,rfl,by omega,by omega,hM⟩
theorem UZ{a:Int}(h0:0<=a)(h1:a<=100000):Dr a 40 (λx=>x.length<=3) (Ti L a):=by
 unfold Ti;obtain⟨x,b,e,g1,g2,g3⟩:=RK hL h0 aA;rw[e];simp only[aG,Pf]
 by_cases hx:0<(x.length:Int)
 ·rw[aQ (aH hx)];obtain⟨f,b1,e1,g4,g5,_⟩:=BE hL (a:=b) aA aA 12 aA;rw[e1];simp only[aG]
  cases f with
  |false=>rw[aP aB];exact⟨x,b1,rfl,by omega,by omega,g3⟩
  |true=>
   rw[aQ rfl];obtain⟨i,b2,e2,g6,g7,g8⟩:=RB hL (a:=b1) aA aA (x.length:Int) aA;rw[e2];simp only[aG];rw[Gl (Ha.2 ⟨g8.1,by omega⟩)];obtain⟨s,b3,e3,g9,g10,_⟩:=Zn hL (a:=b2) aA aA [(nth x i).Key,Ed,Oc] aB aB;rw[e3];simp only[aG];obtain⟨t,b4,e4,g11,g12,_⟩:=Xs hL (a:=b3) aA aA 1 4 aA aA aA;rw[e4];simp only[aG];obtain⟨u,b5,e5,g13,g14,_⟩:=Ot hL (a:=b4) aA aA [25,50,33] aB aB;rw[e5];simp only[aG];obtain⟨v,b6,e6,g15,g16,_⟩:=Ot hL (a:=b5) aA aA [0,1,2,3] aB aB;rw[e6];simp only[aG];exact⟨_,_,rfl,by omega,by omega,by simp only[List.length_set];exact g3⟩
 ·rw[aP (by simpa using hx),aP aB];exact⟨x,b,rfl,by omega,by omega,g3⟩
theorem YU{a:Int}(h0:0<=a)(h1:a<=10000):Dr a 20 (λ_=>True) (Zc L a):=by
 unfold Zc;obtain⟨t,b,e,g1,g2,g3⟩:=SZ hL (a:=a) h0 aA;rw[e];simp only[aG,Pf];obtain⟨f,b1,e1,g4,g5,_⟩:=BE hL (a:=b) aA aA 12 aA;rw[e1];simp only[aG]
 cases f with
 |false=>rw[aP aB];exact⟨_,_,rfl,by omega,by omega,trivial⟩
 |true=>
  rw[aQ rfl];obtain⟨v1,b2,e2,g6,g7,_⟩:=Xs hL (a:=b1) aA aA 1 10 aA aA aA;rw[e2];simp only[aG];obtain⟨v2,b3,e3,g8,g9,_⟩:=Xs hL (a:=b2) aA aA 0 10 aA aA aA;rw[e3];simp only[aG];have hlen:=g3.len;have hcl:Vd t.Points=some t.Points:=by
   unfold Vd;rw[Gl aD,aZ]
  rw[hcl];simp only[aG];obtain⟨v3,b4,e4,g10,g11,_⟩:=Xs hL (a:=b3) aA aA 0 20 aA aA aA;rw[e4];simp only[aG];rw[Gl (by unfold Ok;simp;omega)];exact⟨_,_,rfl,by omega,by omega,trivial⟩
theorem TL{a:Int}(h0:0<=a)(h1:a<=1000):Dr a 200 (λp=>p.Races.length<=6) (Wf L a):=by
 unfold Wf;obtain⟨p,b,e,g1,g2,g3⟩:=planP_dr hL (a:=a) h0 aA;have hfew:=g3.few;rw[e];simp only[aG,Ht];obtain⟨f,b1,e1,g4,g5,_⟩:=BE hL (a:=b) aA aA 12 aA;rw[e1];simp only[aG]
 cases f with
 |false=>rw[aP aB];exact⟨_,_,rfl,by omega,by omega,by show p.Races.length<=6;omega⟩
 |true=>
  rw[aQ rfl];obtain⟨i,b2,e2,g6,g7,g8⟩:=RB hL (a:=b1) aA aA 3 aA;rw[e2];simp only[aG]
  by_cases hi0:i=0
  ·rw[aQ (aH hi0)];obtain⟨x,b3,e3,g9,g10,g11⟩:=UZ hL (a:=b2) aA aA;rw[e3];simp only[aG];rw[Gl (aH aA)];exact⟨_,_,rfl,by omega,by omega,by show (p.Races++x).length<=6;rw[aU];omega⟩
  ·rw[aP (by simpa using hi0)]
   by_cases hi1:i=1
   ·rw[aQ (aH hi1)];obtain⟨t,b3,e3,g9,g10,_⟩:=YU hL (a:=b2) aA aA;rw[e3];simp only[aG];exact⟨_,_,rfl,by omega,by omega,by show p.Races.length<=6;omega⟩
   ·rw[aP (by simpa using hi1)];obtain⟨v1,b3,e3,g9,g10,_⟩:=Xs hL (a:=b2) aA aA 1 10 aA aA aA;rw[e3];simp only[aG];obtain⟨v2,b4,e4,g11,g12,_⟩:=Xs hL (a:=b3) aA aA 1 5 aA aA aA;rw[e4];simp only[aG];obtain⟨v3,b5,e5,g13,g14,_⟩:=Xs hL (a:=b4) aA aA 0 10 aA aA aA;rw[e5];simp only[aG];exact⟨_,_,rfl,by omega,by omega,by show p.Races.length<=6;omega⟩
theorem TM{a:Int}(h0:0<=a)(h1:a<=1000000):Dr a 1 (λ_=>True) (Wh L a):=by
 unfold Wh;obtain⟨v,b,e,g1,g2,_⟩:=Ot hL h0 aA [0,3,10,20,40,60,60,(-1)] aB aB;rw[e];exact⟨_,_,rfl,g1,g2,trivial⟩
end
theorem JJ(c:Ee->Ee->Int)(l:List Ee)(hl:l.length<=19):Hi c l=some (Rq (λx y=>decide (c x y<0)) l):=by
 have hs:Ii c l 0 (l.length:Int)=some (Rq (λx y=>decide (c x y<0)) l):=by
  unfold Ii;simp only[Ht];have hins:∀(k:List Ee->Option (List Ee)) (rp:List Ee) (x:Ee) (post:List Ee),((rp++x::post).length:Int)=(l.length:Int)->(∀y,y∈rp\/y=x\/y∈post->y∈(rp++x::post))->
   Ge c 0 k (((rp.length:Int)-0).toNat+2) (rp.reverse++x::post) (rp.length:Int)=k ((Xn (λx y=>decide (c x y<0)) x rp).reverse++post):=by
   intro k rp x post h1 _;exact SP (λx y k=>k (decide (c x y<0))) _ k (Ge c 0 k) (λ_ _ _=>rfl) rp x post _ aA (by simp at h1;omega) λy _ k'=>rfl
  cases l with
  |nil=>rfl
  |cons x l=>
   have hw:W (0+1)=(([x]:List Ee).length:Int):=rfl;rw[hw];exact IZ _ (λx=>some x) (λk x i=>Ge c 0 k ((i-0).toNat+2) x i) (Gp c ((x::l).length:Int) 0 λx=>some x) ((x::l).length:Int) (λ_ _ _=>rfl)
    (λk rp x post h1 h2=>hins k rp x post h1 h2) l [x] _ (by simp only[aT,aW];omega) (by simp only[aT,aW];omega) (by simp only[aT,aW] at hl ⊢;omega)
 unfold Hi Pd;simp only[Ht];rw[Hw,aP aD,hs];simp only[aG];rw[Gq,aP aD];rfl
theorem AR{l:List Ee}{e:Int}(h0:0<=e)(h1:e<l.length):nth l e∈l:=List.mem_of_getElem? (Ef (Ha.2 ⟨h0,h1⟩)).1
theorem midS{l h:Int}(h0:0<=l)(h1:l<=h)(h2:h<=100000):W (Hc .u64 (IntKind.wrap .u64 (W (l+h))) 1)=(l+h) / 2:=by
 have e1:W (l+h)=l+h:=Jz aA aA;have e2:IntKind.wrap .u64 (l+h)=l+h:=by
  simp only[IntKind.wrap,IntKind.bits,IntKind.signed];simp;omega
 have e3:Hc .u64 (l+h) 1=(l+h) / 2:=by
  unfold Hc;have:(min (1:Int).toNat IntKind.u64.bits)=1:=by decide
  rw[this];exact Int.fdiv_eq_ediv_of_nonneg _ aC
 rw[e1,e2,e3,Jz aA aA]
section
variable (c:Ee->Ee->Int)(l:List Ee)(hl:l.length<=1000)(h:∀x∈l,∀y∈l,c x y=0)
include hl h
theorem gins_l(a b:Int)(h0:0<=a)(hb:b<=l.length)(j:List Ee->Option (List Ee)):∀(m:Nat) (i:Int),(b-i).toNat<m->a<i->Gp c b a j m l i=j l
 |0,i,h1,h2=>by omega
 |m+1,i,h1,h2=>by
  rw[Gp]
  by_cases hi:i<b
  ·have w1:W (i-1)=i-1:=Jz aA aA
   have w2:W (i+1)=i+1:=Jz aA aA
   rw[aQ (aH hi),Ht,Ge]
   simp only[Ht]
   rw[aQ (aH h2),Nt (Ha.2 aA),w1,Nt (Ha.2 aA),h _ (AR aA aA) _ (AR aA aA),aP aB,w2]
   exact gins_l a b h0 hb j m (i+1) aA aA
  ·rw[aP (by simpa using hi)]
theorem XG{a b:Int}(h0:0<=a)(ha:a<=l.length)(hb:b<=l.length):Ii c l a b=some l:=by
 unfold Ii;rw[Ht,Jz aA aA];exact gins_l c l hl h a b h0 hb _ _ _ aA aA
theorem gm1(a m:Int)(h0:0<=a)(ha:a<m)(j:Int->Option (List Ee)):∀(f:Nat) (q:Int),q-m<(f:Int)->m<=q->q<=l.length->Ia c l a j f m q=j m
 |0,q,h1,h2,_=>by omega
 |f+1,q,h1,h2,h3=>by
  rw[Ia]
  by_cases hq:m<q
  ·rw[aQ (aH hq),Ht,midS aA h2 aA,Nt (Ha.2 aA),Nt (Ha.2 aA),Ht,h _ (AR aA aA) _ (AR aA aA),aP aB]
   exact gm1 a m h0 ha j f _ aA aA aA
  ·rw[aP (by simpa using hq)]
theorem gm3(m:Int)(hm:m<l.length)(j:Int->Option (List Ee)):∀(f:Nat) (p:Int),m-p<(f:Int)->0<=p->p<=m->Ib c m l j f p m=j m
 |0,p,h1,h2,_=>by omega
 |f+1,p,h1,h2,h3=>by
  rw[Ib]
  by_cases hq:p<m
  ·rw[aQ (aH hq),Ht,midS aA h3 aA,Nt (Ha.2 aA),Nt (Ha.2 aA),Ht,h _ (AR aA aA) _ (AR aA aA),aQ aB,Jz aA aA]
   exact gm3 m hm j f _ aA aA aA
  ·obtain rfl:p=m:=by omega
   rw[aP aB]
theorem gm5(a b m n q:Int)(h0:0<=a)(hab:a<=b)(hb:b<=l.length)(hn:W ((W (Hc .u64 (IntKind.wrap .u64 (W (a+b))) 1))+m)=n)(hn2:n<=5000)(j:Int->Option (List Ee)):∀(f:Nat) (p:Int),q-p<(f:Int)->0<=p->p<=q->q<=l.length->(∀k,p<=k->k<q->0<=n-1-k/\n-1-k<l.length)->Ic c a b m l j f p q=j q
 |0,p,h1,h2,_,_,_=>by omega
 |f+1,p,h1,h2,h3,h4,h5=>by
  rw[Ic]
  by_cases hq:p<q
  ·have h6:=h5 ((p+q) / 2) aA aA
   rw[aQ (aH hq),Ht,midS h2 h3 aA,hn,Jz (n:=n-1) aA aA,Jz (n:=n-1-(p+q) / 2) aA aA,Nt (Ha.2 h6),Nt (Ha.2 aA),Ht,h _ (AR h6.1 h6.2) _ (AR aA aA),aQ aB,Jz aA aA]
   exact gm5 a b m n q h0 hab hb hn hn2 j f _ aA aA aA h4 λk hk=>h5 k aA
  ·obtain rfl:p=q:=by omega
   rw[aP aB]
theorem GM:∀(f:Nat) (a m b:Int),b-a<=2 ^ f->0<=a->a<m->m<b->b<=l.length->Hp c f l a m b=some l
 |0,a,m,b,h1,h2,h3,h4,h5=>by simp at h1;omega
 |f+1,a,m,b,h1,h2,h3,h4,h5=>by
  have w1:W (m-a)=m-a:=Jz aA aA
  have w2:W (b-m)=b-m:=Jz aA aA
  rw[Hp]
  unfold Pi
  simp only[Ht]
  rw[w1,w2]
  by_cases c1:m-a=1
  ·rw[aQ (aH c1),gm1 c l hl h a m h2 h3 _ _ _ aA aA h5,Iw,Jz aA aA,aP aD]
  ·rw[aP (by simpa using c1)]
   by_cases c2:b-m=1
   ·rw[aQ (aH c2),gm3 c l hl h m aA _ _ _ aA h2 aA,Iy,aP aB]
   ·have hp:∀x:Int,x<=2 ^ (f+1)->(x+1) / 2<=2 ^ f:=λx hx=>by rw[Int.pow_succ] at hx;omega
    have hp1:=hp _ h1
    have hmd:=midS h2 (show a<=b by omega) aA
    have hn:W ((W (Hc .u64 (IntKind.wrap .u64 (W (a+b))) 1))+m)=(a+b) / 2+m:=by rw[hmd];exact Jz aA aA
    rw[aP (by simpa using c2),hn,hmd]
    by_cases c3:(a+b) / 2<m
    ·rw[aQ (aH c3),Jz (n:=(a+b) / 2+m-b) aA aA,gm5 c l hl h a b m _ _ h2 aA h5 hn aA _ _ _ aA aA aA aA λk k1 k2=>by omega]
     have e:W ((a+b) / 2+m-(a+b) / 2)=m:=by rw[show (a+b) / 2+m-(a+b) / 2=m by omega];exact Jz aA aA
     rw[e,aP aB,aP aB]
     by_cases c4:(a+b) / 2<m/\m<b
     ·rw[aQ (by simpa using c4),GM f _ _ _ aA aA aA aA h5]
      rfl
     ·rw[aP (by simpa using c4)]
    ·rw[aP (by simpa using c3),gm5 c l hl h a b m _ _ h2 aA h5 hn aA _ _ _ aA aA aA aA λk k1 k2=>by omega]
     have e:W ((a+b) / 2+m-m)=(a+b) / 2:=by rw[show (a+b) / 2+m-m=(a+b) / 2 by omega];exact Jz aA aA
     rw[e,aP aB]
     by_cases c4:a<m/\m<(a+b) / 2
     ·rw[aQ (by simpa using c4),GM f _ _ _ aA aA aA aA aA]
      simp only[aG]
      rw[aP aB]
     ·rw[aP (by simpa using c4),aP aB]
theorem gst1(j:List Ee->Int->Option (List Ee)):∀(f:Nat) (a:Int),((l.length:Int)-(a+20)+1).toNat<f->0<=a->a<=l.length->∃a':Int,0<=a'/\a'<=l.length/\Hw c (l.length:Int) j f l a (a+20)=j l a'
 |0,a,h1,h2,h3=>by omega
 |f+1,a,h1,h2,h3=>by
  rw[Hw]
  by_cases hq:a+20<=l.length
  ·rw[aQ (aH hq),XG c l hl h h2 h3 hq]
   simp only[aG]
   rw[Jz aA aA]
   exact gst1 j f (a+20) aA aA hq
  ·rw[aP (by simpa using hq)]
   exact⟨a,h2,h3,rfl⟩
theorem gst3(s:Int)(hs:0<s)(hs2:s<=1000)(j:List Ee->Int->Option (List Ee)):∀(f:Nat) (a:Int),((l.length:Int)-(a+2*s)+1).toNat<f->0<=a->a<=l.length->∃a':Int,0<=a'/\a'<=l.length/\Iq c (l.length:Int) s j f l a (a+2*s)=j l a'
 |0,a,h1,h2,h3=>by omega
 |f+1,a,h1,h2,h3=>by
  have w1:W (2*s)=2*s:=Jz aA aA
  rw[Iq,w1]
  by_cases hq:a+2*s<=l.length
  ·rw[aQ (aH hq),Jz aA aA,GM c l hl h 16 _ _ _ aD h2 aA aA hq]
   simp only[aG]
   rw[Jz aA aA]
   exact gst3 s hs hs2 j f (a+2*s) aA aA hq
  ·rw[aP (by simpa using hq)]
   exact⟨a,h2,h3,rfl⟩
theorem gst2(j:List Ee->Option (List Ee)):∀(f:Nat) (s:Int),((l.length:Int)-s).toNat<f->0<s->Gq c (l.length:Int) j f l s=j l
 |0,s,h1,h2=>by omega
 |f+1,s,h1,h2=>by
  rw[Gq]
  by_cases hq:s<l.length
  ·rw[aQ (aH hq)]
   simp only[Ht]
   have w1:W (2*s)=0+2*s:=by rw[Jz aA aA];omega
   have w2:W (s*2)=s*2:=Jz aA aA
   rw[w1,w2]
   have ih:=gst2 j f (s*2) aA aA
   obtain⟨a',g1,g2,e⟩:=gst3 c l hl h s h2 aA (fun(x6:List Ee) (x7:Int)=>if decide (W (x7+s)<(l.length:Int)) then Option.bind (Hp c 16 x6 x7 (W (x7+s)) (l.length:Int)) (λr4=>Gq c (l.length:Int) j f r4 (s*2)) else Gq c (l.length:Int) j f x6 (s*2)) (((l.length:Int)-(0+2*s)).toNat+2) 0 aA aA aA
   refine e.trans ?_
   show (if _ then _ else _)=_
   rw[Jz aA aA]
   by_cases hc:a'+s<l.length
   ·rw[aQ (aH hc),GM c l hl h 16 _ _ _ aD g1 aA hc aA]
    exact ih
   ·rw[aP (by simpa using hc)]
    exact ih
  ·rw[aP (by simpa using hq)]
theorem TN:Hi c l=some l:=by
 unfold Hi Pd;rw[Ht];obtain⟨a',g1,g2,e⟩:=gst1 c l hl h (fun(x1:List Ee) (x2:Int)=>Option.bind (Ii c x1 x2 (l.length:Int)) λr2=>Fm (fun(x4:List Ee)=>some x4) λj2=>Gq c (l.length:Int) j2 (((l.length:Int)-20).toNat+2) r2 20) (((l.length:Int)-20).toNat+2) 0 aA aA aA;rw[show ((0:Int)+20)=20 from rfl] at e;rw[e,XG c l hl h g1 g2 aA];simp only[aG];rw[Ht,gst2 c l hl h _ _ _ aA aA];rfl
end
structure QC(p:Fq):Prop where
 low:1<=p.Low
 high:p.Low<=p.High
 ten:p.High<=10
 least:1<=p.Least/\p.Least<=p.High-p.Low+1
 circ:1<=p.Circles/\p.Circles<=10
theorem YV(p:Fq):Pn p=Ij p/\(Pn p=0->QC p):=by
 unfold Pn Ij Ei Ez;refine⟨?_,λh=>?_⟩
 ·congr 1
  simp only[Bool.or_comm,Bool.or_left_comm,Bool.or_assoc]
 ·by_cases hc:(decide (10<p.High)|| !(decide (1<=p.Low) && decide (p.Low<=p.High))|| !(decide (1<=p.Least) && decide (p.Least<=W (W (p.High-p.Low)+1)))|| !(decide (1<=p.Circles) && decide (p.Circles<=10)))=true
  ·rw[aQ hc] at h
   cases h
  ·simp only[Bool.or_eq_true,Bool.not_eq_true',Bool.and_eq_false_iff,aL,aK,not_or,Int.not_le,Int.not_lt] at hc;obtain⟨⟨⟨h1,h2⟩,h3⟩,h4⟩:=hc;have hw:W (W (p.High-p.Low)+1)=p.High-p.Low+1:=by rw[Jz (n:=p.High-p.Low) aA aA,Jz aA aA]
   rw[hw] at h3;exact⟨by omega,by omega,h1,by omega,by omega⟩
theorem lan1(a b c d:Int)(j:List Int->Option (List Int)):∀(m:Nat) (x:List Int) (i:Int),Nu (Fq.mk a b c d) j m x i=Nu (Fq.mk a b 0 0) j m x i
 |0,_,_=>rfl
 |m+1,x,i=>by
  rw[Nu,Nu]
  simp only[Ht,lan1 a b c d j m]
theorem lan2(a b c d:Int)(j:List Int->Option (List Int)):∀(m:Nat) (x:List Int) (i k:Int),Ks (Fq.mk a b c d) j m x i k=Ks (Fq.mk a b 0 0) j m x i k
 |0,_,_,_=>rfl
 |m+1,x,i,k=>by
  rw[Ks,Ks]
  simp only[Ht,lan2 a b c d j m]
def lanOk(a b:Nat):Bool:=match Ug (Fq.mk (a:Int) (b:Int) 0 0),Px (Fq.mk (a:Int) (b:Int) 0 0) with
 |some L,some M=>decide (L=M) && decide ((L.length:Int)=(b:Int)-(a:Int)+1) && decide L.Nodup
 |_,_=>false
theorem lan_all:∀a:Fin 11,∀b:Fin 11,1<=a.val->a.val<=b.val->lanOk a.val b.val=true:=by decide+kernel
theorem NT{p:Fq}(h:QC p):∃L,Ug p=some L/\Px p=some L/\(L.length:Int)=p.High-p.Low+1/\L.Nodup:=by
 obtain⟨h1,h2,h3,_,_⟩:=h;obtain⟨lo,hi,c,d⟩:=p;simp only at h1 h2 h3;have e1:Ug (Fq.mk lo hi c d)=Ug (Fq.mk lo hi 0 0):=by
  unfold Ug;simp only[Ht,lan1 lo hi c d]
 have e2:Px (Fq.mk lo hi c d)=Px (Fq.mk lo hi 0 0):=by
  unfold Px;simp only[Ht,lan2 lo hi c d]
 have k:=lan_all ⟨lo.toNat,by omega⟩ ⟨hi.toNat,by omega⟩ aD aD;simp only[lanOk,show ((lo.toNat:Nat):Int)=lo by omega,show ((hi.toNat:Nat):Int)=hi by omega] at k;rw[e1,e2]
 split at k
 ·rename_i L M g1 g2;simp only[bQ,aK] at k;obtain⟨⟨rfl,k2⟩,k3⟩:=k;exact⟨L,g1,g2,k2,k3⟩
 ·cases k
theorem VA(p:Fq)(n L q:Int)(hL:W (W (p.High-p.Low)+1)=L)(hq:W (Int.tdiv (W (W (n+L)-1)) L)=q)(hq2:q<=1000)(j:List Int->Option (List Int×Int)):∀(m:Nat) (x:List Int) (i:Int),(q-i).toNat<m->1<=i->i<=q->x.length+(q-i)<=1000->
 Pu n p j m x i=j (x++List.replicate (q-i).toNat L)
 |0,x,i,h,_,_,_=>by omega
 |m+1,x,i,h1,h2,h3,h4=>by
  rw[Pu]
  simp only[Ht]
  rw[hL,hq]
  by_cases hc:i<q
  ·rw[aQ (aH hc),aP aD,Nt (by unfold Ok;exact aH aA),Jz aA aA,VA p n L q hL hq hq2 j m _ (i+1) aA aA aA aD]
   rw[show (q-i).toNat=(q-(i+1)).toNat+1 by omega,List.replicate_succ,List.append_assoc]
   rfl
  ·rw[aP (by simpa using hc),show (q-i).toNat=0 by omega]
   simp
theorem rs_l(p:Fq)(L r:Int)(hL:W (W (p.High-p.Low)+1)=L)(hL2:1<=L/\L<=10)(hr:1<=r/\r<=L)(j:List Int->Option (List Int×Int)):∀(k m:Nat) (x:List Int),k+1<m->x.length+k<=1000->k<=1000->
 Kk p j m x ((k:Int)*L+r)=j (x++(List.replicate k L++[r]))
 |0,m,x,h1,h2,_=>by
  obtain⟨m,rfl⟩:∃q,m=q+2:=⟨m-2,by omega⟩
  rw[show ((0:Nat):Int)*L+r=r by simp,Kk,hL,aQ (aH aA),Nt (by unfold Ok;exact aH aA),Jz aA aA,Kk,aP aD]
  unfold Rs
  rw[aP aA]
  simp
 |k+1,m,x,h1,h2,h3=>by
  obtain⟨m,rfl⟩:∃q,m=q+1:=⟨m-1,by omega⟩
  have e:((k+1:Nat):Int)*L+r=(k:Int)*L+r+L:=by rw[Int.natCast_add,Int.add_mul];simp;omega
  have h0:0<=(k:Int)*L:=Int.mul_nonneg aA aA
  have h9:(k:Int)*L<=(k:Int)*10:=Int.mul_le_mul_of_nonneg_left aA aA
  rw[e,Kk,hL,aQ (aH aA),Nt (by unfold Ok;exact aH aA),Jz aA aA,show (k:Int)*L+r+L-L=(k:Int)*L+r by omega,rs_l p L r hL hL2 hr j k m _ aA aD aA]
  unfold Rs
  rw[aQ aA,List.replicate_succ,List.append_assoc]
  rfl
theorem rs_2(p:Fq)(hp:1<=p.Least/\p.Least<=10)(j:List Int->Option (List Int×Int))(t:List Int):∀(d m:Nat) (u v:Int),d<m->u<=p.Least->p.Least<=v->0<=u->v<=20->(d:Int)=Rs (p.Least-u) (v-p.Least)->
 Jj p j m (u::v::t)=j ((u+d)::(v-d)::t)
 |0,m,u,v,h1,h2,h3,_,_,h4=>by
  obtain⟨m,rfl⟩:∃q,m=q+1:=⟨m-1,by omega⟩
  have n0:nth (u::v::t) 0=u:=rfl
  have n1:nth (u::v::t) 1=v:=rfl
  have hl:(1:Int)<((u::v::t).length:Int):=by simp;omega
  rw[Jj]
  simp only[Ht]
  rw[aQ (aH hl),Nt (Ha.2 aA),n0,n1]
  unfold Rs at h4
  by_cases hu:u<p.Least
  ·have hv:¬p.Least<v:=by split at h4<;>omega
   rw[aQ (by simp[hu];omega),Nt (Ha.2 aA),aP (by simp[hv])]
   simp
  ·rw[aP (by simp[hu]),aP (by simp[hu])]
   simp
 |d+1,m,u,v,h1,h2,h3,h5,h6,h4=>by
  obtain⟨m,rfl⟩:∃q,m=q+1:=⟨m-1,by omega⟩
  have n0:nth (u::v::t) 0=u:=rfl
  have n1:nth (u::v::t) 1=v:=rfl
  have hl:(1:Int)<((u::v::t).length:Int):=by simp;omega
  have hu:u<p.Least:=by unfold Rs at h4;split at h4<;>omega
  have hv:p.Least<v:=by unfold Rs at h4;split at h4<;>omega
  have hd:(d:Int)=Rs (p.Least-(u+1)) (v-1-p.Least):=by
   unfold Rs at h4 ⊢
   by_cases g:v-p.Least<p.Least-u
   ·rw[aQ g] at h4;rw[aQ aA];omega
   ·rw[aP g] at h4;rw[aP aA];omega
  rw[Jj];simp only[Ht];have hb:inB 0 (u::v::t).length=true:=Ha.2 aA;have hb1:inB 1 (u::v::t).length=true:=Ha.2 aA;rw[aQ (aH hl),Nt hb,n0,n1];have hc:(decide (1<((u::v::t).length:Int)) && decide (u<p.Least))=true:=by rw[aH hl,aH hu];rfl
  have w1:W (u+1)=u+1:=Jz aA aA;have w2:W (v-1)=v-1:=Jz aA aA;have s1:nth ((u::v::t).set ((0:Int).toNat) (u+1)) 1=v:=rfl;have hbs:inB 1 ((u::v::t).set ((0:Int).toNat) (u+1)).length=true:=by rw[List.length_set];exact hb1
  rw[aQ hc,Nt hb1,aQ (by rw[hc,aH hv];rfl),w1,Nt hb,Nt hb,Nt hbs,Nt hbs,s1,w2];have ih:=rs_2 p hp j t d m (u+1) (v-1) aA aA aA aA aA hd;refine Eq.trans ?_ (ih.trans ?_)
  ·rfl
  ·rw[show u+1+(d:Int)=u+((d+1:Nat):Int) by omega,show v-1-(d:Int)=v-((d+1:Nat):Int) by omega]
structure SzG(p:Fq)(n:Int)(Z:List Int):Prop where
 len:Z.length<=60
 sum:Z.sum=n
 each:∀z∈Z,0<=z/\z<=p.High-p.Low+1
theorem RM(L:Int):∀k:Nat,(List.replicate k L).sum=(k:Int)*L
 |0=>by simp
 |k+1=>by rw[List.replicate_succ,List.sum_cons,RM L k,Int.natCast_add,Int.add_mul];simp;omega
theorem VB{p:Fq}(h:QC p)(n:Int)(h0:0<=n)(h1:n<=300):∃Z e,BL p n=some (Z,e)/\Vo p n=some (Z,e)/\(e≠0->Z=[])/\(e=0->SzG p n Z):=by
 obtain⟨p1,p2,p3,p4,p5⟩:=h;obtain⟨L,hLe⟩:∃L,p.High-p.Low+1=L:=⟨_,rfl⟩;have hL:W (W (p.High-p.Low)+1)=L:=by rw[Jz (n:=p.High-p.Low) aA aA,Jz aA aA,hLe]
 have hL2:1<=L/\L<=10:=by omega
 obtain⟨q,hqe⟩:∃q,(n+L-1) / L=q:=⟨_,rfl⟩;have hq:W (Int.tdiv (W (W (n+L)-1)) L)=q:=by
  rw[Jz (n:=n+L) aA aA,Jz (n:=n+L-1) aA aA,Int.tdiv_eq_ediv_of_nonneg aA,hqe];have:0<=(n+L-1) / L:=Int.ediv_nonneg aA aA;have:(n+L-1) / L<=n+L-1:=Int.ediv_le_self _ aA;exact Jz aA aA
 have q1:q*L<=n+L-1:=by rw[←hqe];exact Int.ediv_mul_le _ aA
 have q2:n+L-1<q*L+L:=by have:=Int.lt_ediv_add_one_mul_self (n+L-1) (show 0<L by omega);rw[hqe,Int.add_mul] at this;omega
 have q3:0<=q:=by rw[←hqe];exact Int.ediv_nonneg aA aA
 have q5:q<=n+L-1:=by rw[←hqe];exact Int.ediv_le_self _ aA
 have q4:q<=310:=by omega
 unfold BL Vo;simp only[Ht];rw[hL,hq,Nt aD]
 by_cases hn:n=0
 ·have hz:q=0:=by rcases Int.lt_trichotomy q 0 with g|g|g<;>first|omega|(have:=Int.mul_le_mul_of_nonneg_right (show 1<=q by omega) (show 0<=L by omega);omega)
  subst hn hz;rw[aP aB,Pu,hL,hq,aP aB,aP aB,aP aB,Kk,aP aB,aP aB,HV _ aB];simp only[aG,List.reverse_nil];rw[Jj];simp only[Ht];rw[aP aB,aP aB,aP aB];exact⟨[],0,rfl,rfl,λ_=>rfl,λ_=>⟨by simp,by simp,λz hz=>absurd hz aB⟩⟩
 ·have hq1:1<=q:=by
   rcases Int.lt_or_le q 1 with g|g
   ·have:q=0:=by omega
    subst this;omega
   ·exact g
  obtain⟨k,hk⟩:∃k:Nat,q=(k:Int)+1:=⟨(q-1).toNat,by omega⟩;have hqL:q*L=(k:Int)*L+L:=by rw[hk,Int.add_mul];omega
  obtain⟨r,hr⟩:∃r,n=(k:Int)*L+r:=⟨n-(k:Int)*L,by omega⟩;have hr1:1<=r/\r<=L:=by omega
  have hkL:(k:Int)<=(k:Int)*L:=by have:=Int.mul_le_mul_of_nonneg_left (show 1<=L by omega) (show 0<=(k:Int) by omega);omega
  have href:=rs_l p L r hL hL2 hr1 (fun(x1:List Int)=>if decide (60<(x1.length:Int))=true then some (([]:List Int),(2:Int)) else Option.bind (Pl x1) λr1=>Jj p (λx3=>some (x3,0)) 4611686018427387904 r1) k ((n-0).toNat+2) [] aA aD aA;rw[←hr] at href;rw[href];simp only[aZ];have hlen:(List.replicate k L++[r]).length=k+1:=by simp
  by_cases hs:60<q
  ·rw[aQ (aH hs),aQ (aH aD)];exact⟨[],2,rfl,rfl,λ_=>rfl,λh=>absurd h aC⟩
  ·rw[aP (by simpa using hs),aP aD,HV _ (by rw[hlen];omega)];simp only[aG,List.reverse_append,List.reverse_replicate,List.reverse_cons,List.reverse_nil,aZ,List.singleton_append];have hfirst:W (n-W (L*W (q-1)))=r:=by
    have e1:W (q-1)=(k:Int):=by rw[Jz aA aA];omega
    have e2:L*(k:Int)=(k:Int)*L:=Int.mul_comm _ _;have e3:0<=(k:Int)*L:=Int.mul_nonneg aA aA;rw[e1,e2,Jz (n:=(k:Int)*L) aA aA,Jz aA aA];omega
   rw[Pu];simp only[Ht];rw[hL,hq,aQ (aH aA),aQ aB,Nt (by unfold Ok;simp),hfirst,show W ((0:Int)+1)=1 from rfl,aZ,VA p n L q hL hq aA _ _ _ 1 aA aA hq1 aD,List.singleton_append,show (q-1).toNat=k by omega]
   cases k with
   |zero=>
    obtain rfl:q=1:=by omega
    rw[List.replicate_zero,aP aB,aP aB,Jj];simp only[Ht];rw[aP aB,aP aB,aP aB];exact⟨[r],0,rfl,rfl,λh=>absurd rfl h,λ_=>⟨by simp,by simp at hr ⊢;omega,λz hz=>by simp at hz;omega⟩⟩
   |succ k=>
    have hq2:1<q:=by omega
    have n0:nth (r::List.replicate (k+1) L) 0=r:=rfl;have n1:nth (r::List.replicate (k+1) L) 1=L:=rfl;have hb:inB 0 (r::List.replicate (k+1) L).length=true:=Ha.2 aD;have hb1:inB 1 (r::List.replicate (k+1) L).length=true:=Ha.2 aD;rw[aQ (aH hq2),Nt hb,n0,n1,aH hq2,bO]
    by_cases hu:r<p.Least
    ·obtain⟨d,hd⟩:∃d:Nat,(d:Int)=Rs (p.Least-r) (L-p.Least):=⟨(Rs (p.Least-r) (L-p.Least)).toNat,by unfold Rs;split<;>omega⟩;have hd2:(d:Int)<=p.Least-r/\(d:Int)<=L-p.Least:=by unfold Rs at hd;split at hd<;>omega
     have w1:W (p.Least-r)=p.Least-r:=Jz aA aA;have w2:W (L-p.Least)=L-p.Least:=Jz aA aA;have w3:W (r+d)=r+d:=Jz aA aA;have w4:W (L-d)=L-d:=Jz aA aA;have s1:nth ((r::List.replicate (k+1) L).set ((0:Int).toNat) (r+d)) 1=L:=rfl;have hbs:inB 1 ((r::List.replicate (k+1) L).set ((0:Int).toNat) (r+d)).length=true:=by rw[List.length_set];exact hb1
     rw[aQ (aH hu),w1,w2,←hd,w3,Nt hb,Nt hb1,Nt hb,Nt hb,Nt hbs,Nt hbs,s1,w4];rw[List.replicate_succ,rs_2 p ⟨p4.1,by omega⟩ _ _ d _ r L aA aA aA aA aA hd];refine⟨(r+(d:Int))::(L-(d:Int))::List.replicate k L,0,rfl,rfl,λh=>absurd rfl h,λ_=>⟨by simp;omega,?_,λz hz=>?_⟩⟩
     ·rw[List.sum_cons,List.sum_cons,RM,hr,Int.natCast_add,Int.add_mul];simp;omega
     ·rcases bB.1 hz with rfl|hz
      ·omega
      ·rcases bB.1 hz with rfl|hz
       ·omega
       ·rw[List.eq_of_mem_replicate hz];omega
    ·rw[aP (by simpa using hu),Jj];simp only[Ht];have hl:(1:Int)<((r::List.replicate (k+1) L).length:Int):=by simp;omega
     rw[aQ (aH hl),Nt hb,n0,aP (by simp[hu]),aP (by simp[hu])];refine⟨_,0,rfl,rfl,λh=>absurd rfl h,λ_=>⟨by simp;omega,?_,λz hz=>?_⟩⟩
     ·rw[List.sum_cons,RM,hr,Int.natCast_add,Int.add_mul];simp;omega
     ·rcases bB.1 hz with rfl|hz
      ·omega
      ·rw[List.eq_of_mem_replicate hz];omega
theorem GN{α:Type}[Inhabited α](l:List α)(i k:Nat)(v:α)(hi:i<l.length):nth (l.set i v) (k:Int)=if k=i then v else nth l (k:Int):=by
 unfold nth;simp only[bI,List.getD_eq_getElem?_getD,List.getElem?_set]
 by_cases e:i=k
 ·subst e;simp[hi]
 ·rw[aP e,aP λh=>e h.symm]
def rmI(Z:List Int)(H:List (List ByteArray)):Nat->Nat->Int
 |_,0=>0
 |k,d+1=>(nth Z (k:Int)-((nth H (k:Int)).length:Int))+rmI Z H (k+1) d
theorem rm_set(Z:List Int)(H:List (List ByteArray))(i:Nat)(w:ByteArray)(hi:i<H.length):∀(d k:Nat),rmI Z (H.set i (nth H (i:Int)++[w])) k d=rmI Z H k d-(if k<=i/\i<k+d then 1 else 0)
 |0,k=>by rw[aP aA];rfl
 |d+1,k=>by
  unfold rmI
  rw[rm_set Z H i w hi d (k+1),GN H i k _ hi]
  by_cases e:k=i
  ·subst e
   rw[aQ rfl,aP aA,aQ aA,aU]
   simp
   omega
  ·rw[aP e]
   by_cases g:k+1<=i/\i<k+1+d
   ·rw[aQ g,aQ aA];omega
   ·rw[aP g,aP aA];omega
theorem rm_pos(Z:List Int)(H:List (List ByteArray)):∀(d k:Nat),0<rmI Z H k d->∃i,k<=i/\i<k+d/\((nth H (i:Int)).length:Int)<nth Z (i:Int)
 |0,k,h=>by unfold rmI at h;omega
 |d+1,k,h=>by
  unfold rmI at h
  by_cases g:((nth H (k:Int)).length:Int)<nth Z (k:Int)
  ·exact⟨k,by omega,by omega,g⟩
  ·obtain⟨i,h1,h2,h3⟩:=rm_pos Z H d (k+1) aA
   exact⟨i,by omega,by omega,h3⟩
theorem XH(Z:List Int)(H:List (List ByteArray)):∀(d k:Nat),(∀i,k<=i->i<k+d->((nth H (i:Int)).length:Int)<=nth Z (i:Int))->0<=rmI Z H k d/\(rmI Z H k d=0->∀i,k<=i->i<k+d->((nth H (i:Int)).length:Int)=nth Z (i:Int))
 |0,k,h=>⟨Int.le_refl _,λ_ i h1 h2=>by omega⟩
 |d+1,k,h=>by
  obtain⟨g1,g2⟩:=XH Z H d (k+1) λi h1 h2=>h i aA aA
  have h0:=h k aA aA
  unfold rmI
  refine⟨by omega,λe i h1 h2=>?_⟩
  by_cases ei:i=k
  ·subst ei;omega
  ·exact g2 aA i aA aA
theorem rm_l(Z:List Int)(H:List (List ByteArray))(hZ:Z.length<=60)(hH:H.length=Z.length)(j:Int->Option (List Eo)):∀(d m k:Nat) (a:Int),d<m->k+d=Z.length->0<=a->a<=10*(k:Int)->(∀i,k<=i->i<k+d->0<=nth Z (i:Int)-((nth H (i:Int)).length:Int)/\nth Z (i:Int)-((nth H (i:Int)).length:Int)<=10)->
 Lg Z H j m a (k:Int)=j (a+rmI Z H k d)
 |0,m,k,a,h1,h2,h3,h4,h5=>by
  obtain⟨m,rfl⟩:∃q,m=q+1:=⟨m-1,by omega⟩
  rw[Lg,aP aD]
  unfold rmI
  rw[Int.add_zero]
 |d+1,m,k,a,h1,h2,h3,h4,h5=>by
  obtain⟨m,rfl⟩:∃q,m=q+1:=⟨m-1,by omega⟩
  have g:=h5 k aA aA
  rw[Lg,aQ (aH aA),Nt (Ha.2 aA),Nt (Ha.2 aA),Jz (n:=nth Z (k:Int)-_) aA aA,Jz (n:=a+_) aA aA,Jz (n:=(k:Int)+1) aA aA]
  have ih:=rm_l Z H hZ hH j d m (k+1) (a+(nth Z (k:Int)-((nth H (k:Int)).length:Int))) aA aA aA aA λi k1 k2=>h5 i aA aA
  rw[Int.natCast_add] at ih
  refine ih.trans ?_
  rw[rmI,Int.add_assoc]
structure Cir(p:Fq)(Z:List Int)(c:Int)(first:Nat):Prop where
 few:Z.length<=60
 ten:∀i:Nat,0<=nth Z (i:Int)/\nth Z (i:Int)<=10
 isc:Rs p.Circles (Z.length:Int)=c
 two:2<=c
 first:(first:Int)+c=(Z.length:Int)
structure HeG(Z:List Int)(H:List (List ByteArray)):Prop where
 len:H.length=Z.length
 le:∀i:Nat,i<Z.length->((nth H (i:Int)).length:Int)<=nth Z (i:Int)
theorem HeG.put{Z:List Int}{H:List (List ByteArray)}(h:HeG Z H){i:Nat}(hi:i<Z.length)(hl:((nth H (i:Int)).length:Int)<nth Z (i:Int))(w:ByteArray):HeG Z (H.set i (nth H (i:Int)++[w])):=by
 refine⟨by rw[List.length_set];exact h.len,λk hk=>?_⟩;rw[GN H i k _ (by rw[h.len];exact hi)]
 by_cases e:k=i
 ·subst e;rw[aQ rfl,aU];simp;omega
 ·rw[aP e];exact h.le k hk
section
variable {p:Fq}{Z:List Int}{c:Int}{first:Nat}(hC:Cir p Z c first)(j:List (List ByteArray)->List ByteArray->Option (List Eo))
include hC
theorem cir_go(H:List (List ByteArray))(hH:HeG Z H)(w:ByteArray)(ws:List ByteArray)(hr:0<rmI Z H first (Z.length-first))(m:Nat)(at_:Nat)(x:Int)(h1:first<=at_)(h2:at_<Z.length)(hx:x=at_\/(x=(first:Int)-1/\at_+1=Z.length)):
 Hl p Z j (m+1) H (w::ws) x=if((nth H (at_:Int)).length:Int)<nth Z (at_:Int) then Hl p Z j m (H.set at_ (nth H (at_:Int)++[w])) ws ((at_:Int)-1) else Hl p Z j m H (w::ws) ((at_:Int)-1):=by
 have hz:=hC.few;have hf:=hC.first;have h0:=hC.two;have w1:W ((Z.length:Int)-c)=(first:Int):=by rw[Jz aA aA];omega
 have w2:W ((Z.length:Int)-1)=(Z.length:Int)-1:=Jz aA aA;have w3:W ((at_:Int)-1)=(at_:Int)-1:=Jz aA aA;have hnorm:(if decide (x<(first:Int)) then(Z.length:Int)-1 else x)=(at_:Int):=by
  by_cases g:x<(first:Int)
  ·rw[aQ (aH g)];omega
  ·rw[aP (by simpa using g)];omega
 have hb:inB (at_:Int) H.length=true:=Ha.2 (by rw[hH.len];omega);have hb2:inB (at_:Int) Z.length=true:=Ha.2 aA;have hroom:∀k:Int->Option (List Eo),Lg Z H k (((Z.length:Int)-(first:Int)).toNat+2) 0 (first:Int)=k (rmI Z H first (Z.length-first)):=λk=>by
  rw[rm_l Z H hz hH.len k (Z.length-first) _ first 0 aA aA aA aA λi k1 k2=>?_,Int.zero_add];have:=hH.le i aA;have:=(hC.ten i);omega
 rw[Hl];simp only[Ht];rw[hC.isc,aQ aD,w1,w2,hroom,hroom];have key:∀y:Int,y=(at_:Int)->(if decide (rmI Z H first (Z.length-first)=0)=true then j H (w::ws) else Chk (inB y H.length) (Chk (inB y Z.length) (if decide (((nth H y).length:Int)<nth Z y)=true then Chk (inB y H.length) (Chk (inB 0 (w::ws).length) (Chk (Ok (nth H y).length) (Chk (Yt 1 ((w::ws).length:Int) (w::ws).length) (Hl p Z j m (H.set y.toNat (nth H y++[nth (w::ws) 0])) (cut (w::ws) 1 ((w::ws).length:Int)) (W (y-1)))))) else Hl p Z j m H (w::ws) (W (y-1)))))=if((nth H (at_:Int)).length:Int)<nth Z (at_:Int) then Hl p Z j m (H.set at_ (nth H (at_:Int)++[w])) ws ((at_:Int)-1) else Hl p Z j m H (w::ws) ((at_:Int)-1):=by
  rintro y rfl;have ht:=(hC.ten at_);rw[aP aD,Nt hb,Nt hb2,w3]
  by_cases g:((nth H (at_:Int)).length:Int)<nth Z (at_:Int)
  ·have hcut:cut (w::ws) 1 ((w::ws).length:Int)=ws:=by unfold cut;simp
   have hn:nth (w::ws) 0=w:=rfl;rw[aQ (aH g),aQ g,Nt hb,Nt (Ha.2 (by rw[aT];omega)),Nt (by unfold Ok;exact aH aA),Nt (Qs.2 aD),hcut,hn,bI]
  ·rw[aP (by simpa using g),aP g]
 by_cases g:x<(first:Int)
 ·rw[aQ (aH g)] at hnorm ⊢;exact key _ hnorm
 ·rw[aP (by simpa using g)] at hnorm ⊢;exact key _ hnorm
theorem cir_end(H:List (List ByteArray))(hH:HeG Z H)(ws:List ByteArray)(hr:rmI Z H first (Z.length-first)=0)(m:Nat)(x:Int):Hl p Z j (m+1) H ws x=j H ws:=by
 have hz:=hC.few;have hf:=hC.first;have h0:=hC.two;have w1:W ((Z.length:Int)-c)=(first:Int):=by rw[Jz aA aA];omega
 have hroom:∀k:Int->Option (List Eo),Lg Z H k (((Z.length:Int)-(first:Int)).toNat+2) 0 (first:Int)=k (rmI Z H first (Z.length-first)):=λk=>by
  rw[rm_l Z H hz hH.len k (Z.length-first) _ first 0 aA aA aA aA λi k1 k2=>?_,Int.zero_add];have:=hH.le i aA;have:=(hC.ten i);omega
 rw[Hl];simp only[Ht];rw[hC.isc]
 by_cases hw:0<(ws.length:Int)
 ·rw[aQ (by simp at hw ⊢;omega),w1,hroom,hroom]
  split<;>rw[aQ (aH hr)]
 ·rw[aP (by simp at hw ⊢;simp[hw])]
end
def OH(first h a:Nat):Nat:=if a=first then h-1 else a-1
def dis(first h q a:Nat):Nat:=if q<=a then a-q else a-first+(h-q)
theorem dis_bef{first h q a:Nat}(h1:first<=q)(h2:q<h)(h3:first<=a)(h4:a<h)(e:a≠q):dis first h q (OH first h a)+1=dis first h q a:=by
 unfold dis OH
 by_cases g:a=first
 ·subst g;rw[aQ rfl,aQ aA,aP aA];omega
 ·rw[aP g]
  by_cases k:q<=a
  ·rw[aQ aA,aQ k];omega
  ·rw[aP aA,aP k];omega
section
variable {p:Fq}{Z:List Int}{c:Int}{first:Nat}(hC:Cir p Z c first)
include hC
theorem bef_is(a:Nat)(h1:first<=a)(h2:a<Z.length):Uf (a:Int) (first:Int) (Z.length:Int)=((OH first Z.length a:Nat):Int)/\first<=OH first Z.length a/\OH first Z.length a<Z.length/\((a:Int)-1=((OH first Z.length a:Nat):Int)\/((a:Int)-1=(first:Int)-1/\OH first Z.length a+1=Z.length)):=by
 have hz:=hC.few;have hf:=hC.first;have h0:=hC.two;unfold Uf OH
 by_cases g:a=first
 ·subst g;rw[aQ aB,aQ rfl,Jz aA aA];omega
 ·rw[aP aD,aP g,Jz aA aA];omega
theorem TO(H:List (List ByteArray))(hH:HeG Z H)(w:ByteArray)(ws:List ByteArray)(hr:0<rmI Z H first (Z.length-first))(j:List (List ByteArray)->List ByteArray->Option (List Eo))(e2:Int)(x1:Int)(hx1:(Z.length:Int)-x1=(first:Int))(j4:Int->Option (List Eo×Int))(q:Nat)(q1:first<=q)(q2:q<Z.length)(q3:((nth H (q:Int)).length:Int)<nth Z (q:Int)):
 ∀(d a M:Nat) (x:Int),dis first Z.length q a=d->first<=a->a<Z.length->(x=a\/(x=(first:Int)-1/\a+1=Z.length))->d<M->∃a':Nat,first<=a'/\a'<Z.length/\((nth H (a':Int)).length:Int)<nth Z (a':Int)/\Ri H (Z,e2) x1 j4 M (a:Int)=j4 (a':Int)/\
  ∃d',d'<=d/\∀m:Nat,Hl p Z j (m+d'+1) H (w::ws) x=Hl p Z j m (H.set a' (nth H (a':Int)++[w])) ws ((a':Int)-1)
 |d,a,0,x,hd,h1,h2,hx,hM=>by omega
 |d,a,M+1,x,hd,h1,h2,hx,hM=>by
  have hz:=hC.few
  have w1:W ((Z.length:Int)-x1)=(first:Int):=by rw[hx1];exact Jz aA aA
  by_cases g:((nth H (a:Int)).length:Int)<nth Z (a:Int)
  ·refine⟨a,h1,h2,g,?_,0,by omega,λm=>?_⟩
   ·rw[Ri,Nt (Ha.2 (by rw[hH.len];omega)),Nt (Ha.2 (by dsimp only;omega)),if_neg aD]
   ·rw[Nat.add_zero,cir_go hC j H hH w ws hr m a x h1 h2 hx,aQ g]
  ·have hne:a≠q:=λe=>g (by rw[e];exact q3)
   have hd2:=dis_bef q1 q2 h1 h2 hne
   obtain⟨b1,b2,b3,b4⟩:=bef_is hC a h1 h2
   have hle:=hH.le a h2
   match d,hd,hM with
   |0,hd,_=>omega
   |d+1,hd,hM=>
    obtain⟨a',r1,r2,r3,r4,d',r5,r6⟩:=TO H hH w ws hr j e2 x1 hx1 j4 q q1 q2 q3 d (OH first Z.length a) M ((a:Int)-1) aA b2 b3 b4 aA
    refine⟨a',r1,r2,r3,?_,d'+1,by omega,λm=>?_⟩
    ·rw[Ri,Nt (Ha.2 (by rw[hH.len];omega)),Nt (Ha.2 (by dsimp only;omega)),if_pos aD]
     dsimp only
     rw[w1,b1]
     exact r4
    ·rw[show m+(d'+1)+1=(m+d'+1)+1 by omega,cir_go hC j H hH w ws hr (m+d'+1) a x h1 h2 hx,aP g]
     exact r6 m
theorem dis_le(q a:Nat)(h1:first<=q)(h2:q<Z.length)(h3:first<=a)(h4:a<Z.length):dis first Z.length q a<=120:=by
 have hz:=hC.few;unfold dis
 split<;>omega
theorem circle(j:List (List ByteArray)->List ByteArray->Option (List Eo))(e2:Int)(x1:Int)(hx1:(Z.length:Int)-x1=(first:Int))(j3:List (List ByteArray)->Option (List Eo×Int))(rest:List ByteArray):∀(ys:List Ee) (i2:Nat) (H:List (List ByteArray)) (a m:Nat) (x:Int),HeG Z H->rmI Z H first (Z.length-first)=(ys.length:Int)->first<=a->a<Z.length->(x=a\/(x=(first:Int)-1/\a+1=Z.length))->200*(ys.length:Int)+1<=(m:Int)->(ys.length:Int)<=1000->
 ∃H',HeG Z H'/\rmI Z H' first (Z.length-first)=0/\(∀k:Nat,k<first->nth H' (k:Int)=nth H (k:Int))/\Pe (Z,e2) x1 j3 ys i2 H (a:Int)=j3 H'/\Hl p Z j m H (ys.map (·.Who)++rest) x=j H' rest:=by
 intro ys
 induction ys with
 |nil=>
  intro i2 H a m x hH hr h1 h2 hx hm hs;rw[aW] at hm;obtain⟨m,rfl⟩:∃q,m=q+1:=⟨m-1,by omega⟩;refine⟨H,hH,by simpa using hr,λ_ _=>rfl,?_,?_⟩
  ·rw[Pe]
  ·exact cir_end hC j H hH rest (by simpa using hr) m x
 |cons y ys ih=>
  intro i2 H a m x hH hr h1 h2 hx hm hs;have hz:=hC.few;rw[aT] at hr hm hs;have hr0:0<rmI Z H first (Z.length-first):=by omega
  obtain⟨q,q1,q2,q3⟩:=rm_pos Z H _ _ hr0;have hdl:=dis_le hC q a q1 aA h1 h2;have w1:W ((Z.length:Int)-x1)=(first:Int):=by rw[hx1];exact Jz aA aA
  rw[Pe,Ht];obtain⟨M,hM⟩:∃M:Nat,M=4611686018427387904:=⟨_,rfl⟩;have hM2:200<M:=by omega
  rw[←hM];obtain⟨d,hd⟩:∃d,dis first Z.length q a=d:=⟨_,rfl⟩;obtain⟨a',r1,r2,r3,r4,d',r5,r6⟩:=TO hC H hH y.Who (ys.map (·.Who)++rest) hr0 j e2 x1 hx1 (fun(x5:Int)=>Chk (inB x5 H.length) (Chk (Ok (nth H x5).length) (Pe (Z,e2) x1 j3 ys (i2+1) (H.set x5.toNat (nth H x5++[y.Who])) (Uf x5 (W ((Z.length:Int)-x1)) (Z.length:Int))))) q q1 aA q3 d a M x hd h1 h2 hx aA;obtain⟨b1,b2,b3,b4⟩:=bef_is hC a' r1 r2;have hp:=hH.put r2 r3 y.Who;have hrm:=rm_set Z H a' y.Who (by rw[hH.len];exact r2) (Z.length-first) first;rw[aQ aA,hr] at hrm;have hle:=hH.le a' r2;have hten:=hC.ten a';obtain⟨H',s1,s2,s3,s4,s5⟩:=ih (i2+1) (H.set a' (nth H (a':Int)++[y.Who])) (OH first Z.length a') (m-d'-1) ((a':Int)-1) hp (by rw[hrm];omega) b2 b3 b4 aA aA;refine⟨H',s1,s2,λk hk=>?_,?_,?_⟩
  ·rw[s3 k hk,GN H a' k _ (by rw[hH.len];exact r2),aP aA]
  ·rw[r4,Nt (Ha.2 (by rw[hH.len];omega)),Nt (by unfold Ok;exact aH aA),w1,b1,bI];exact s4
  ·have r7:=r6 (m-d'-1);rw[show m-d'-1+d'+1=m by omega] at r7;exact r7.trans s5
end
theorem RN{α:Type}[Inhabited α](l:List α)(k:Nat)(hk:k<l.length):l.set k (nth l (k:Int))=l:=by
 unfold nth;rw[bI,List.getD_eq_getElem?_getD,List.getElem?_eq_getElem hk,Option.getD_some,List.set_getElem_self]
theorem l5_is(k:Nat)(j:List (List ByteArray)->Option (List Eo×Int)):∀(ys:List Ee) (i:Nat) (H:List (List ByteArray)),k<H.length->(nth H (k:Int)).length+ys.length<=100000->Rj (k:Int) j ys i H=j (H.set k (nth H (k:Int)++ys.map (·.Who)))
 |[],i,H,h,_=>by rw[Rj,List.map_nil,List.append_nil,RN H k h]
 |y::ys,i,H,h,h2=>by
  rw[aT] at h2
  have e:=GN H k k (nth H (k:Int)++[y.Who]) h
  rw[aQ rfl] at e
  rw[Rj,Nt (Ha.2 aA),Nt (by unfold Ok;exact aH aA),bI,l5_is k j ys (i+1) _ (by rw[List.length_set];exact h) (by rw[e,aU];simp;omega),e,List.set_set,List.append_assoc]
  rfl
theorem r4_is(k:Nat)(Z:List Int)(hk:k<Z.length)(j:List (List ByteArray)->List ByteArray->Option (List Eo))(rest:List ByteArray):∀(ys:List ByteArray) (m:Nat) (H:List (List ByteArray)),ys.length<m->k<H.length->((nth H (k:Int)).length:Int)+(ys.length:Int)=nth Z (k:Int)->(nth H (k:Int)).length+ys.length<=100000->
 Nd (k:Int) Z j m H (ys++rest)=j (H.set k (nth H (k:Int)++ys)) rest
 |[],m,H,h1,h2,h3,h4=>by
  obtain⟨m,rfl⟩:∃q,m=q+1:=⟨m-1,by omega⟩
  rw[Nd,Nt (Ha.2 aA),Nt (Ha.2 aA),aP (by simp at h3 ⊢;omega),List.append_nil,RN H k h2,aZ]
 |y::ys,m,H,h1,h2,h3,h4=>by
  obtain⟨m,rfl⟩:∃q,m=q+1:=⟨m-1,by omega⟩
  rw[aT] at h1 h3 h4
  have e:=GN H k k (nth H (k:Int)++[y]) h2
  rw[aQ rfl] at e
  have hcut:cut (y::(ys++rest)) 1 ((y::(ys++rest)).length:Int)=ys++rest:=by unfold cut;rw[bI,List.take_length];rfl
  have hn:nth (y::(ys++rest)) 0=y:=rfl
  rw[List.cons_append,Nd,Nt (Ha.2 aA),Nt (Ha.2 aA),aQ (aH aA),Nt (Ha.2 aA),Nt (Ha.2 (by rw[aT];omega)),Nt (by unfold Ok;exact aH aA),Nt (Qs.2 (by rw[aT];omega)),hcut,hn,bI,r4_is k Z hk j rest ys m _ aA (by rw[List.length_set];exact h2) (by rw[e,aU];simp;omega) (by rw[e,aU];simp;omega),e,List.set_set,List.append_assoc]
  rfl
theorem take_sum(Z:List Int)(k:Nat)(hk:k<Z.length):(Z.take (k+1)).sum=(Z.take k).sum+nth Z (k:Int):=by
 unfold nth;rw[bI,List.getD_eq_getElem?_getD,List.getElem?_eq_getElem hk,Option.getD_some,List.take_succ_eq_append_getElem hk,List.sum_append];simp
theorem LT(Z:List Int)(h:∀z∈Z,0<=z)(k:Nat):0<=(Z.take k).sum:=by
 have key:∀l:List Int,(∀z∈l,0<=z)->0<=l.sum:=by
  intro l
  induction l with
  |nil=>intro _;simp
  |cons z l ih=>
   intro h;have h1:=h z aN;have h2:=ih λx hx=>h x (aM _ hx);rw[List.sum_cons];omega
 exact key _ λz hz=>h z (List.mem_of_mem_take hz)
section
variable {Z:List Int}(hZ:Z.length<=60)(hz:∀z∈Z,0<=z/\z<=10)
include hz
theorem nthZ(i:Nat):0<=nth Z (i:Int)/\nth Z (i:Int)<=10:=by
 by_cases h:i<Z.length
 ·exact hz _ (List.mem_of_getElem? (Ef (Ha.2 ⟨by omega,by omega⟩)).1)
 ·have:nth Z (i:Int)=0:=by unfold nth;rw[bI,List.getD_eq_getElem?_getD,List.getElem?_eq_none aA];rfl
  rw[this];omega
include hZ
theorem RO(e2:Int)(j5:List (List ByteArray)->Option (List Eo×Int))(j6:List (List ByteArray)->Option (List Eo)):∀(k m2 m3:Nat) (R:List Ee) (H:List (List ByteArray)),k<m2->k<m3->k<=Z.length->H.length=Z.length->(∀t:Nat,t<k->nth H (t:Int)=[])->(Z.take k).sum=(R.length:Int)->
 ∃H',H'.length=Z.length/\(∀t:Nat,((nth H' (t:Int)).length:Int)=if t<k then nth Z (t:Int) else((nth H (t:Int)).length:Int))/\Pw (Z,e2) j5 m2 H R ((k:Int)-1)=j5 H'/\Ju Z j6 m3 H (R.map (·.Who)) ((k:Int)-1)=j6 H'
 |0,m2,m3,R,H,h1,h2,h3,h4,h5,h6=>by
  obtain⟨m2,rfl⟩:∃q,m2=q+1:=⟨m2-1,by omega⟩
  obtain⟨m3,rfl⟩:∃q,m3=q+1:=⟨m3-1,by omega⟩
  refine⟨H,h4,λt=>by rw[aP aA],?_,?_⟩
  ·rw[Pw,aP aB]
  ·rw[Ju,aP aB]
 |k+1,m2,m3,R,H,h1,h2,h3,h4,h5,h6=>by
  obtain⟨m2,rfl⟩:∃q,m2=q+1:=⟨m2-1,by omega⟩
  obtain⟨m3,rfl⟩:∃q,m3=q+1:=⟨m3-1,by omega⟩
  have hk:=nthZ hz k
  have hnn:=LT Z (λz h=>(hz z h).1) k
  rw[take_sum Z k aA] at h6
  obtain⟨s,hs⟩:∃s:Nat,nth Z (k:Int)=(s:Int):=⟨(nth Z (k:Int)).toNat,by omega⟩
  rw[hs] at h6 hk
  have e:((k+1:Nat):Int)-1=(k:Int):=by omega
  have hrow:=h5 k aA
  have hsp:(R.take s).map (·.Who)++(R.drop s).map (·.Who)=R.map (·.Who):=by rw[←List.map_append,List.take_append_drop]
  have hlen:(R.take s).length=s:=by rw[List.length_take];omega
  have hw:W ((k:Int)-1)=(k:Int)-1:=Jz aA aA
  have hset:∀t:Nat,nth (H.set k ((R.take s).map (·.Who))) (t:Int)=if t=k then(R.take s).map (·.Who) else nth H (t:Int):=λt=>GN H k t _ aA
  obtain⟨H',g1,g2,g3,g4⟩:=RO e2 j5 j6 k m2 m3 (R.drop s) (H.set k ((R.take s).map (·.Who))) aA aA aA (by rw[List.length_set];exact h4) (λt ht=>by rw[hset,aP aA];exact h5 t aA) (by rw[List.length_drop];omega)
  refine⟨H',g1,λt=>?_,?_,?_⟩
  ·rw[g2 t,hset]
   by_cases c1:t<k
   ·rw[aQ c1,aQ aA]
   ·rw[aP c1]
    by_cases c2:t=k
    ·rw[aQ c2,aQ aA,aV,hlen,c2,hs]
    ·rw[aP c2,aP aA]
  ·rw[e,Pw,aQ (aH aA),Nt (Ha.2 (by dsimp only;omega))]
   dsimp only
   have c1:cut R 0 (s:Int)=R.take s:=by unfold cut;simp
   have c2:cut R (s:Int) (R.length:Int)=R.drop s:=by unfold cut;simp
   rw[hs,Nt (Qs.2 aA),Ht,c1,l5_is k _ _ 0 H aA (by rw[hrow,hlen];simp;omega),Nt (Ha.2 aA),Nt (Qs.2 aA),c2,hw,hrow,aZ]
   exact g3
  ·rw[e,Ju,aQ (aH aA),Ht,←hsp,r4_is k Z aA _ _ _ _ H (by rw[aV,hlen,hrow,hs];simp) aA (by rw[hrow,aV,hlen,hs];simp) (by rw[hrow,aV,hlen];simp;omega),hw,hrow,aZ]
   exact g4
theorem skip3(j6:List (List ByteArray)->Option (List Eo))(H:List (List ByteArray))(hH:H.length=Z.length)(ws:List ByteArray)(first m:Nat):∀d:Nat,first+d<=Z.length->(∀t:Nat,first<=t->t<first+d->((nth H (t:Int)).length:Int)=nth Z (t:Int))->Ju Z j6 (m+d) H ws (((first+d:Nat):Int)-1)=Ju Z j6 m H ws ((first:Int)-1)
 |0,_,_=>rfl
 |d+1,h1,h2=>by
  have h3:=h2 (first+d) aA aA
  have hk:=nthZ hz (first+d)
  have hw:W (((first+d:Nat):Int)-1)=((first+d:Nat):Int)-1:=Jz aA aA
  have r4:=r4_is (first+d) Z aA (λx15 x16=>Ju Z j6 (m+d) x15 x16 (W (((first+d:Nat):Int)-1))) ws [] ((nth Z ((first+d:Nat):Int)-((nth H ((first+d:Nat):Int)).length:Int)).toNat+2) H aB aA (by simp;exact h3) (by rw[aW];omega)
  rw[aZ,List.append_nil,RN H (first+d) aA] at r4
  rw[show (((first+(d+1):Nat):Int)-1)=((first+d:Nat):Int) by omega,show m+(d+1)=(m+d)+1 by omega,Ju,aQ (aH aA),Ht,r4,hw]
  exact skip3 j6 H hH ws first m d aA λt t1 t2=>h2 t t1 aA
end
theorem rm_rep(Z:List Int)(h:Nat):∀(d k:Nat),k+d=Z.length->rmI Z (List.replicate h []) k d=(Z.drop k).sum
 |0,k,e=>by rw[List.drop_eq_nil_of_le aA];rfl
 |d+1,k,e=>by
  have hn:nth (List.replicate h ([]:List ByteArray)) (k:Int)=[]:=by
   unfold nth;rw[bI,List.getD_eq_getElem?_getD]
   by_cases g:k<h
   ·simp[g]
   ·simp[g];rfl
  have hz:nth Z (k:Int)=Z[k]'(by omega):=by
   unfold nth;rw[bI,List.getD_eq_getElem?_getD,List.getElem?_eq_getElem aA,Option.getD_some]
  rw[rmI,rm_rep Z h d (k+1) aA,hn,hz,List.drop_eq_getElem_cons (by omega:k<Z.length),List.sum_cons];simp
def HB(L:List Int)(i:Nat):List ByteArray->Nat->List Eo
 |[],_=>[]
 |w::ws,k=>Eo.mk w (W ((i:Int)+1)) (nth L (k:Int))::HB L i ws (k+1)
def EB(L:List Int):List (List ByteArray)->Nat->List Eo
 |[],_=>[]
 |r::rs,i=>HB L i r 0++EB L rs (i+1)
theorem KM(L:List Int)(i:Nat):∀(ws:List ByteArray) (k:Nat),(HB L i ws k).length=ws.length
 |[],_=>rfl
 |w::ws,k=>by rw[HB,aT,KM L i ws (k+1),aT]
section
variable (L:List Int)
theorem row_p(i:Nat)(j:List Eo->Option (List Eo)):∀(ws:List ByteArray) (k:Nat) (x:List Eo),k+ws.length<=L.length->x.length+ws.length<=10000->Po L i j ws k x=j (x++HB L i ws k)/\Nf L i j ws k x=j (x++HB L i ws k)
 |[],k,x,_,_=>by rw[Po,Nf,HB,List.append_nil];exact⟨rfl,rfl⟩
 |w::ws,k,x,h,h2=>by
  rw[aT] at h h2
  obtain⟨g1,g2⟩:=row_p i j ws (k+1) (x++[Eo.mk w (W ((i:Int)+1)) (nth L (k:Int))]) aA aD
  have hr:Ok x.length=true:=by unfold Ok;exact aH aA
  rw[Po,Nf,Nt (Ha.2 aA),Nt hr,Nt (Ha.2 aA),Nt hr,g1,g2,HB,List.append_assoc]
  exact⟨rfl,rfl⟩
theorem all_p(hL:L.length<=10)(j:List Eo->Option (List Eo)):∀(rs:List (List ByteArray)) (i:Nat) (x:List Eo),(∀r∈rs,r.length<=L.length)->x.length+10*rs.length<=1000->Pp L j rs i x=j (x++EB L rs i)/\Lh L j rs i x=j (x++EB L rs i)
 |[],i,x,_,_=>by rw[Pp,Lh,EB,List.append_nil];exact⟨rfl,rfl⟩
 |r::rs,i,x,h,h2=>by
  rw[aT] at h2
  have h1:=h r aN
  obtain⟨g1,g2⟩:=all_p hL j rs (i+1) (x++HB L i r 0) (λy hy=>h y (aM _ hy)) (by rw[aU,KM];omega)
  rw[Pp,Lh,Ht,Ht,(row_p L i _ r 0 x aA aA).1,(row_p L i _ r 0 x aA aA).2,g1,g2,EB,List.append_assoc]
  exact⟨rfl,rfl⟩
theorem XI(i:Nat){s:Eo}:∀(ws:List ByteArray) (k:Nat),s∈HB L i ws k->∃q:Nat,q<ws.length/\s=Eo.mk (nth ws (q:Int)) (W ((i:Int)+1)) (nth L ((k+q:Nat):Int))
 |[],k,h=>by cases h
 |w::ws,k,h=>by
  rcases bB.1 h with rfl|h
  ·exact⟨0,by simp,rfl⟩
  ·obtain⟨q,h1,h2⟩:=XI i ws (k+1) h
   refine⟨q+1,by simp;omega,?_⟩
   rw[h2,show k+1+q=k+(q+1) by omega]
   rfl
theorem RR{s:Eo}:∀(rs:List (List ByteArray)) (i:Nat),s∈EB L rs i->∃t q:Nat,t<rs.length/\q<(nth rs (t:Int)).length/\s=Eo.mk (nth (nth rs (t:Int)) (q:Int)) (W (((i+t:Nat):Int)+1)) (nth L (q:Int))
 |[],i,h=>by cases h
 |r::rs,i,h=>by
  rcases bC.1 h with h|h
  ·obtain⟨q,h1,h2⟩:=XI L i r 0 h
   rw[Nat.zero_add] at h2
   exact⟨0,q,by simp,h1,h2⟩
  ·obtain⟨t,q,h1,h2,h3⟩:=RR rs (i+1) h
   refine⟨t+1,q,by simp;omega,h2,?_⟩
   rw[h3,show i+1+t=i+(t+1) by omega]
   rfl
theorem cmpI(a b:Int):Ho a b=if a<b then -1 else if b<a then 1 else 0:=by
 unfold Ho Te;simp
theorem or2_p(a b:Int):Tl [a,b]=if a=0 then b else a:=by
 unfold Tl;rw[Ht,Ou,Ou,Ou]
 by_cases ha:a=0<;>by_cases hb:b=0<;>simp[ha,hb]
theorem cmpS(x y:Eo):Oi x y<0↔x.Heat<y.Heat\/(x.Heat=y.Heat/\x.Lane<y.Lane):=by
 unfold Oi;rw[or2_p,cmpI,cmpI]
 by_cases h1:x.Heat<y.Heat
 ·simp[h1]
 ·by_cases h2:y.Heat<x.Heat
  ·simp[h1,h2];omega
  ·have:x.Heat=y.Heat:=by omega
   by_cases h3:x.Lane<y.Lane
   ·simp[this,h3]
   ·by_cases h4:y.Lane<x.Lane<;>simp[this,h3,h4]
end
theorem byS_eq:Vr=Oi:=rfl
theorem st_good{L:List Int}(hn:L.Nodup){rs:List (List ByteArray)}(hr:∀r∈rs,r.length<=L.length)(hrs:rs.length<=60):BH Oi (EB L rs 0):=by
 refine⟨λx _ h=>?_,λx _ y _ z _ h1 h2=>?_,λx _ y _ z _ h1 h2 h3=>?_,λx hx y hy h1 h2=>?_⟩
 ·rw[cmpS] at h;omega
 ·rw[cmpS] at*;omega
 ·rw[cmpS] at*;omega
 ·obtain⟨t,q,a1,a2,a3⟩:=RR L rs 0 hx;obtain⟨t',q',b1,b2,b3⟩:=RR L rs 0 hy;have c1:=hr _ (List.mem_of_getElem? (Ef (Ha.2 ⟨by omega,(by omega:((t:Nat):Int)<(rs.length:Int))⟩)).1);have c2:=hr _ (List.mem_of_getElem? (Ef (Ha.2 ⟨by omega,(by omega:((t':Nat):Int)<(rs.length:Int))⟩)).1);rw[cmpS] at h1 h2;have e1:x.Heat=y.Heat:=by omega
  have e2:x.Lane=y.Lane:=by omega
  rw[a3,b3] at e1 e2;simp only at e1 e2;rw[Jz aA aA,Jz aA aA] at e1;obtain rfl:t=t':=by omega
  have e3:q=q':=by
   unfold nth at e2;rw[bI,bI,List.getD_eq_getElem?_getD,List.getD_eq_getElem?_getD,List.getElem?_eq_getElem aA,List.getElem?_eq_getElem aA,Option.getD_some,Option.getD_some] at e2;have hp:=List.pairwise_iff_getElem.1 hn;rcases Nat.lt_trichotomy q q' with g|g|g
   ·exact absurd e2 (hp q q' aA aA g)
   ·exact g
   ·exact absurd e2.symm (hp q' q aA aA g)
  rw[a3,b3,e3]
theorem TP{p:Fq}(h:QC p){rs:List (List ByteArray)}(hrs:rs.length<=60)(hr:∀r∈rs,(r.length:Int)<=p.High-p.Low+1):∃L D,Px p=some L/\Tf p rs=some D/\Fm (fun(x17:List Eo)=>Option.bind (Jv x17) (λr4=>some r4)) (λj8=>Lh L j8 rs 0 ([]:List Eo))=some D:=by
 obtain⟨L,l1,l2,l3,l4⟩:=NT h;have h2:=h.high;have h3:=h.ten;have h4:=h.low;have hL:L.length<=10:=by omega
 have hr':∀r∈rs,r.length<=L.length:=λr hr2=>by have:=hr r hr2;omega
 have hlen:(EB L rs 0).length<4611686018427387904:=by
  have key:∀(rs:List (List ByteArray)) (i:Nat),(∀r∈rs,r.length<=L.length)->(EB L rs i).length<=10*rs.length:=by
   intro rs
   induction rs with
   |nil=>intro i _;simp[EB]
   |cons r rs ih=>
    intro i g;have g1:=g r aN;have g2:=ih (i+1) λy hy=>g y (aM _ hy);rw[EB,aU,KM,aT];omega
  have:=key rs 0 hr';omega
 have hg:=st_good l4 hr' hrs;refine⟨L,Pa Oi (EB L rs 0),l2,?_,?_⟩
 ·unfold Tf Yd Mk;rw[l1];simp only[aG];rw[Ht,(all_p L hL _ rs 0 [] hr' aD).1,aZ,aQ ⟨hg,hlen⟩];rfl
 ·unfold Jv;rw[Ht,(all_p L hL _ rs 0 [] hr' aD).2,aZ,byS_eq,aQ ⟨hg,hlen⟩];rfl
noncomputable def drT (p:Fq) (Z:List Int) (o:Option (List Ee)) (x1:Int):Option (List Eo×Int):=
 Chk (Yt (W ((Z.length:Int)-x1)) (Z.length:Int) Z.length) (
 Fm (fun(x2:Int)=>
 Option.bind o (λr2=>
 Chk (Yt 0 x2 r2.length) (
 Fm (fun(x3:List (List ByteArray))=>
 Chk (Yt x2 (r2.length:Int) r2.length) (
 Fm (fun(x6:List (List ByteArray))=>
 Option.bind (Tf p x6) (λr3=>
 some (r3,0))) (λj5=>
 Pw (Z,0) j5 (((W ((W ((Z.length:Int)-x1))-1))-0).toNat+2) x3 (cut r2 x2 r2.length) (W ((W ((Z.length:Int)-x1))-1))))) (λj3=>
 Pe (Z,0) x1 j3 (cut r2 0 x2) 0 (List.replicate ((Z.length:Int).toNat) []:List (List ByteArray)) (W ((Z.length:Int)-1)))))) (λj2=>
 Qm j2 (cut Z (W ((Z.length:Int)-x1)) Z.length) 0 0))
theorem VC(j:Int->Option (List Eo×Int)):∀(ys:List Int) (i:Nat) (a:Int),0<=a->a+ys.sum<=1000->(∀z∈ys,0<=z)->Qm j ys i a=j (a+ys.sum)
 |[],i,a,_,_,_=>by rw[Qm,List.sum_nil,Int.add_zero]
 |y::ys,i,a,h0,h,hz=>by
  have h1:=hz y aN
  have h2:=LT ys (λz hz2=>hz z (aM _ hz2)) ys.length
  rw[List.take_length] at h2
  rw[List.sum_cons] at h
  rw[Qm,Jz aA aA,VC j ys (i+1) (a+y) aA aA λz hz2=>hz z (aM _ hz2),List.sum_cons,Int.add_assoc]
noncomputable def J6 (L:List Int) (x12:List (List ByteArray)):Option (List Eo):=
 Fm (fun(x17:List Eo)=>Option.bind (Jv x17) (λr4=>some r4)) (λj8=>Lh L j8 x12 0 ([]:List Eo))
noncomputable def J1 (Z L:List Int) (x1:List (List ByteArray)) (x2:List ByteArray):Option (List Eo):=
 Ju Z (J6 L) (((W ((Z.length:Int)-1))-0).toNat+2) x1 x2 (W ((Z.length:Int)-1))
theorem RT(h k:Nat):nth (List.replicate h ([]:List ByteArray)) (k:Int)=[]:=by
 unfold nth;rw[bI,List.getD_eq_getElem?_getD]
 by_cases g:k<h
 ·simp[g]
 ·simp[g];rfl
theorem YW{p:Fq}(h:QC p){Z:List Int}{n:Int}(hZ:SzG p n Z)(hn:n<=300)(L:List Int)(S:List Ee)(hS:(S.length:Int)=n)(M:Nat)(hM:100000<M):∃H,H.length=Z.length/\(∀t:Nat,t<Z.length->((nth H (t:Int)).length:Int)=nth Z (t:Int))/\
 drT p Z (some S) (if decide (Rs p.Circles (Z.length:Int)<2) then 0 else Rs p.Circles (Z.length:Int))=Option.bind (Tf p H) (λr3=>some (r3,0))/\
 Hl p Z (J1 Z L) M (List.replicate ((Z.length:Int).toNat) []) (S.map (·.Who)) (W ((Z.length:Int)-1))=J6 L H:=by
 have hlen:=hZ.len;have hsum:=hZ.sum;have hz:∀z∈Z,0<=z/\z<=10:=λz hz=>by have:=hZ.each z hz;have:=h.ten;have:=h.low;omega
 have hz0:∀z∈Z,0<=z:=λz g=>(hz z g).1;have hw1:W ((Z.length:Int)-1)=(Z.length:Int)-1:=Jz aA aA;have htn:((Z.length:Int).toNat)=Z.length:=bI _;have hcirc:=h.circ;obtain⟨M,rfl⟩:∃q,M=q+1:=⟨M-1,by omega⟩
 by_cases hc:Rs p.Circles (Z.length:Int)<2
 ·obtain⟨H,g1,g2,g3,g4⟩:=RO hlen hz 0 (λx6=>Option.bind (Tf p x6) (λr3=>some (r3,0))) (J6 L) Z.length ((((Z.length:Int)-1)-0).toNat+2) ((((Z.length:Int)-1)-0).toNat+2) S (List.replicate Z.length []) aA aA (bU _) aB (λt _=>RT _ t) (by rw[List.take_length];omega);refine⟨H,g1,λt ht=>by rw[g2 t,aQ ht],?_,?_⟩
  ·have w0:W ((Z.length:Int)-0)=(Z.length:Int):=by rw[Int.sub_zero];exact Jz aA aA
   have c1:cut Z (Z.length:Int) (Z.length:Int)=[]:=by unfold cut;simp
   have c2:cut S 0 0=[]:=by unfold cut;simp
   have c3:cut S 0 (S.length:Int)=S:=by unfold cut;simp
   rw[aQ (aH hc)];unfold drT;rw[w0,Nt (Qs.2 aA),Ht,c1,VC _ [] 0 0 aA aB aB];simp only[List.sum_nil,Int.add_zero,aG];rw[Nt (Qs.2 aA),Ht,c2,Pe,Nt (Qs.2 aA),Ht,c3,hw1,htn];exact g3
  ·rw[Hl,aP aD];unfold J1;rw[hw1,htn];exact g4
 ·obtain⟨c,hcc⟩:∃c,Rs p.Circles (Z.length:Int)=c:=⟨_,rfl⟩;have hcl:c<=(Z.length:Int):=by rw[←hcc];unfold Rs;split<;>omega
  obtain⟨first,hf⟩:∃first:Nat,(first:Int)+c=(Z.length:Int):=⟨((Z.length:Int)-c).toNat,by omega⟩;rw[hcc] at hc;have hC:Cir p Z c first:=⟨hlen,λi=>nthZ hz i,hcc,by omega,hf⟩;have hsp:(Z.take first).sum+(Z.drop first).sum=n:=by rw[←hsum,←List.sum_append,List.take_append_drop]
  have hn1:=LT Z hz0 first;have hn2:0<=(Z.drop first).sum:=by have:=LT (Z.drop first) (λz g=>hz0 z (List.mem_of_mem_drop g)) (Z.drop first).length;rwa [List.take_length] at this
  obtain⟨s,hs⟩:∃s:Nat,(Z.drop first).sum=(s:Int):=⟨(Z.drop first).sum.toNat,by omega⟩;have hlt:(S.take s).length=s:=by rw[List.length_take];omega
  have hld:((S.drop s).length:Int)=(Z.take first).sum:=by rw[List.length_drop];omega
  have hrm:rmI Z (List.replicate Z.length []) first (Z.length-first)=((S.take s).length:Int):=by rw[rm_rep Z Z.length (Z.length-first) first aA,hs,hlt]
  have hHe:HeG Z (List.replicate Z.length []):=⟨by simp,λi hi=>by rw[RT];have:=nthZ hz i;simp;omega⟩;have hx1:(Z.length:Int)-c=(first:Int):=by omega
  have wf:W ((Z.length:Int)-c)=(first:Int):=by rw[hx1];exact Jz aA aA
  have wf1:W ((first:Int)-1)=(first:Int)-1:=Jz aA aA;have hlast:(Z.length:Int)-1=((Z.length-1:Nat):Int):=by omega
  have hsw:(S.take s).map (·.Who)++(S.drop s).map (·.Who)=S.map (·.Who):=by rw[←List.map_append,List.take_append_drop]
  obtain⟨H1,s1,s2,s3,s4,s5⟩:=circle hC (J1 Z L) 0 c hx1 (fun(x3:List (List ByteArray))=>Chk (Yt (s:Int) (S.length:Int) S.length) (Fm (fun(x6:List (List ByteArray))=>Option.bind (Tf p x6) (λr3=>some (r3,0))) (λj5=>Pw (Z,0) j5 (((W ((first:Int)-1))-0).toNat+2) x3 (cut S (s:Int) S.length) (W ((first:Int)-1))))) ((S.drop s).map (·.Who)) (S.take s) 0 (List.replicate Z.length []) (Z.length-1) (M+1) ((Z.length:Int)-1) hHe hrm aA aA (.inl hlast) aA aA;have hle1:=s1.le;obtain⟨e1,e2⟩:=XH Z H1 (Z.length-first) first λi i1 i2=>hle1 i aA;have hfull:=e2 s2;obtain⟨H,g1,g2,g3,g4⟩:=RO hlen hz 0 (λx6=>Option.bind (Tf p x6) (λr3=>some (r3,0))) (J6 L) first ((((first:Int)-1)-0).toNat+2) ((((Z.length:Int)-1)-0).toNat+2-(Z.length-first)) (S.drop s) H1 aA aA aA s1.len (λt ht=>by rw[s3 t ht];exact RT _ t) hld.symm;have hsk:=skip3 hlen hz (J6 L) H1 s1.len ((S.drop s).map (·.Who)) first ((((Z.length:Int)-1)-0).toNat+2-(Z.length-first)) (Z.length-first) aA λt t1 t2=>hfull t t1 aA;refine⟨H,g1,λt ht=>?_,?_,?_⟩
  ·rw[g2 t]
   by_cases k:t<first
   ·rw[aQ k]
   ·rw[aP k];exact hfull t aA aA
  ·have c1:cut Z (first:Int) (Z.length:Int)=Z.drop first:=by unfold cut;simp
   have c2:cut S 0 (s:Int)=S.take s:=by unfold cut;simp
   have c3:cut S (s:Int) (S.length:Int)=S.drop s:=by unfold cut;simp
   rw[hcc,aP (by simpa using hc)];unfold drT;rw[wf,Nt (Qs.2 aA),Ht,c1,VC _ _ 0 0 aA aA (λz g=>hz0 z (List.mem_of_mem_drop g)),Int.zero_add,hs,aG,Nt (Qs.2 aA),Ht,c2,hw1,htn,hlast,s4,Nt (Qs.2 aA),Ht,c3,wf1];exact g3
  ·rw[hw1,htn,←hsw,s5];unfold J1;rw[hw1];have a1:(((Z.length:Int)-1)-0).toNat+2-(Z.length-first)+(Z.length-first)=(((Z.length:Int)-1)-0).toNat+2:=by omega
   rw[a1,show first+(Z.length-first)=Z.length by omega] at hsk;exact hsk.trans g4
end Go.Proofs.YtbicihdhkkjigaaGreatDoor
