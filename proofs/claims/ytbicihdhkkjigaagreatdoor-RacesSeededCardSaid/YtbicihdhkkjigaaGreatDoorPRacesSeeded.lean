/- The plain law of RacesSeeded. No program stands here but its twins. -/
import Derived.Test.YtbicihdhkkjigaaGreatDoorPSd4
namespace Go.Proofs.YtbicihdhkkjigaaGreatDoor
open Go
theorem cmpT(x y:Ee)(hx:0<=x.Time)(hy:0<=y.Time):Me x y=Qb x y:=by
 unfold Me Sr Qb;rw[cmpI,cmpI]
 by_cases h1:x.Time=0<;>by_cases h2:y.Time=0
 ·simp[h1,h2]
 ·have h3:0<y.Time:=by omega
  simp[h1,h2,h3];omega
 ·have h3:0<x.Time:=by omega
  simp[h1,h2,h3]
 ·simp[h1,h2]
theorem cmpZ(x y:Ee)(hx:x.Time=0)(hy:y.Time=0):Me x y=0:=by
 unfold Me Sr;rw[cmpI,hx,hy];simp
theorem JK(l:List Ee)(hl:l.length<=1000):Rh l=some l:=by
 unfold Rh;rw[Nt aD,aZ]
theorem VD{l:List Ee}(hl:l.length<=300)(ht:∀s∈l,0<=s.Time)(ha:l.length<=19\/∀s∈l,s.Time=0):∃S,S.length=l.length/\Ue l=some S/\Vp l=some (S.map (·.Who)):=by
 have key:∃S,S.length=l.length/\Hi Me l=some S/\Hi Qb l=some S:=by
  rcases ha with h|h
  ·refine⟨_,AD _ l,JJ _ l h,?_⟩;rw[JJ _ l h]
   congr 1
   exact FJ l λx hx y hy=>by rw[cmpT x y (ht x hx) (ht y hy)]
  ·exact⟨l,rfl,TN _ l aA λx hx y hy=>cmpZ x y (h x hx) (h y hy),TN _ l aA λx hx y hy=>by rw[←cmpT x y (ht x hx) (ht y hy)];exact cmpZ x y (h x hx) (h y hy)⟩
 obtain⟨S,h1,h2,h3⟩:=key;refine⟨S,h1,?_,?_⟩
 ·unfold Ue;rw[JK l aA,aG,h2];rfl
 ·unfold Vp;rw[JK l aA,aG,h3,aG,Ht];have:=SQ (λ_=>true) (fun(y:Ee)=>y.Who) (λx1=>some x1) (Ns λx1=>some x1) (λ_ _=>rfl) S aA (λy ys i x=>rfl);rw[this,List.filter_eq_self.2 λ_ _=>rfl]
theorem YX{p:Fq}(h:QC p){l:List Ee}(hl:l.length<=300)(ht:∀s∈l,0<=s.Time)(ha:l.length<=19\/∀s∈l,s.Time=0):∃D e,Zx p l=some (D,e)/\Tz p l=some (D,e):=by
 obtain⟨S,h1,h2,h3⟩:=VD hl ht ha;obtain⟨Z,e,z1,z2,z3,z4⟩:=VB h (l.length:Int) aA aA;unfold Tz;rw[z2,aG]
 by_cases he:e=0
 ·subst he;have hZ:=z4 rfl;have hlen:=hZ.len;obtain⟨M,hM⟩:∃M:Nat,M=4611686018427387904:=⟨_,rfl⟩;obtain⟨L,q1,q2,q3,q4⟩:=NT h;obtain⟨H,g1,g2,g3,g4⟩:=YW h hZ aA L S aA M aA;have hH:∀r∈H,(r.length:Int)<=p.High-p.Low+1:=λr hr=>by
   obtain⟨k,hk,e⟩:=List.getElem_of_mem hr;have e2:nth H (k:Int)=r:=by unfold nth;rw[bI,List.getD_eq_getElem?_getD,List.getElem?_eq_getElem hk,Option.getD_some,e]
   have e3:=g2 k aA;rw[e2] at e3;have e4:=hZ.each (nth Z (k:Int)) (List.mem_of_getElem? (Ef (Ha.2 ⟨by omega,by omega⟩)).1);omega
  obtain⟨L',D,d1,d2,d3⟩:=TP h (rs:=H) aA hH;rw[q2] at d1;obtain rfl:=bH d1;refine⟨D,0,?_,?_⟩
  ·have hd:Zx p l=drT p Z (Ue l) (if decide (Rs p.Circles (Z.length:Int)<2) then 0 else Rs p.Circles (Z.length:Int)):=by
    unfold Zx drT;rw[z1,aG,aP aB,Nt aD,Ht]
    by_cases hc:Rs p.Circles (Z.length:Int)<2
    ·rw[aQ (aH hc),aQ (aH hc)]
    ·rw[aP (by simpa using hc),aP (by simpa using hc)]
   rw[hd,h2,g3,d2];rfl
  ·rw[aP aB,h3,aG];have hr:Xe p (S.map (·.Who)) Z=some D:=by
    unfold Xe;rw[q2,aG,Nt aD,Ht,←hM];exact g4.trans d3
   rw[hr];rfl
 ·refine⟨[],e,?_,?_⟩
  ·unfold Zx;rw[z1,aG,aQ (by simpa using he)]
  ·rw[aQ (by simpa using he)]
structure FinG(f:Hn):Prop where
 size:1<=f.Size/\f.Size<=10
 many:1<=f.Many/\f.Many<=5
 res:0<=f.Reserves/\f.Reserves<=10
theorem fin_of{f:Hn}(h:Nr f=0):FinG f:=by
 unfold Nr Ez at h
 by_cases hc:(!(decide (1<=f.Size) && decide (f.Size<=10))|| !(decide (1<=f.Many) && decide (f.Many<=5))|| !(decide (0<=f.Reserves) && decide (f.Reserves<=10)))=true
 ·rw[aQ hc] at h;cases h
 ·simp at hc;exact⟨by omega,by omega,by omega⟩
theorem fr_l(t:Int)(j:Int->Int)(y:Ee)(hy:y.Time=t)(j3:Int->Option (List Gh)):∀(ys:List Ee) (i:Nat) (a:Int),0<=a->a+ys.length<=100000->∃r,Sj t j ys i a=j r/\Nl y j3 ys i a=j3 r
 |[],i,a,_,_=>⟨a,rfl,rfl⟩
 |z::ys,i,a,h0,h1=>by
  rw[aT] at h1
  rw[Sj,Nl,hy]
  simp only[Ht]
  by_cases g:z.Time<t
  ·rw[aQ (aH g),aQ (aH g),Jz aA aA]
   exact fr_l t j y hy j3 ys (i+1) (a+1) aA aA
  ·rw[aP (by simpa using g),aP (by simpa using g)]
   exact fr_l t j y hy j3 ys (i+1) a h0 aA
theorem TQ{f:Hn}(h:FinG f)(l:List Ee)(hl:l.length<=1000):∀(ys:List Ee) (i:Nat) (x:List Gh),i+ys.length<=1000->x.length<=i->∃P,Qh f l (λx1=>some x1) ys i x=some P/\Ki f l (λx1=>some x1) ys i x=some P
 |[],i,x,_,_=>⟨x,rfl,rfl⟩
 |y::ys,i,x,h1,h2=>by
  rw[aT] at h1
  obtain⟨⟨s1,s2⟩,⟨m1,m2⟩,r1,r2⟩:=h
  have hsm:f.Size*f.Many<=50:=Int.le_trans (Int.mul_le_mul_of_nonneg_right s2 aA) aA
  have hsm0:0<=f.Size*f.Many:=Int.mul_nonneg aA aA
  have w1:W (f.Size*f.Many)=f.Size*f.Many:=Jz aA aA
  have w2:W (f.Size*f.Many+f.Reserves)=f.Size*f.Many+f.Reserves:=Jz aA aA
  have hd0:0<=(i:Int) / f.Size:=Int.ediv_nonneg aA aA
  have hd1:(i:Int) / f.Size<=(i:Int):=Int.ediv_le_self _ aA
  have w3:W (Int.tdiv (i:Int) f.Size)=(i:Int) / f.Size:=by rw[Int.tdiv_eq_ediv_of_nonneg aA];exact Jz aA aA
  have w4:W ((i:Int) / f.Size+1)=(i:Int) / f.Size+1:=Jz aA aA
  have hlt:(i:Int) / f.Size<f.Many↔(i:Int)<f.Size*f.Many:=by rw[Int.mul_comm];exact Int.ediv_lt_iff_lt_mul aA
  have hsz:(!decide (f.Size=0))=true:=by simp;omega
  have hr:Ok x.length=true:=by unfold Ok;exact aH aA
  rw[Qh,Ki]
  simp only[Ht]
  obtain⟨r,q1,q2⟩:=fr_l y.Time (λx1=>x1) y rfl (fun(x5:Int)=>Chk (!decide (f.Size=0)) (if decide (f.Many<W (W (Int.tdiv (i:Int) f.Size)+1))=true then if decide ((i:Int)<W (W (f.Size*f.Many)+f.Reserves))=true then Chk (Ok x.length) (Ki f l (λx1=>some x1) ys (i+1) (x++[Gh.mk y.Who 0 x5])) else Ki f l (λx1=>some x1) ys (i+1) x else if decide ((i:Int)<W (W (f.Size*f.Many)+f.Reserves))=true then Chk (Ok x.length) (Ki f l (λx1=>some x1) ys (i+1) (x++[Gh.mk y.Who (W (W (Int.tdiv (i:Int) f.Size)+1)) x5])) else Ki f l (λx1=>some x1) ys (i+1) x)) l 0 1 aA aA
  have hrk:Vi l y.Time=r:=by unfold Vi;rw[Ht];exact q1
  have hcl:BM f (i:Int)=if(i:Int)<f.Size*f.Many then some ((i:Int) / f.Size+1) else if(i:Int)<f.Size*f.Many+f.Reserves then some 0 else some (-1):=by
   unfold BM;rw[w1,w2,Nt hsz,w3,w4];simp only[aK]
  rw[q2,hrk,hcl,Nt hsz,w1,w2,w3,w4];have ih:=λx' (hx':x'.length<=i+1)=>TQ ⟨⟨s1,s2⟩,⟨m1,m2⟩,r1,r2⟩ l hl ys (i+1) x' aA hx'
  by_cases c1:(i:Int)<f.Size*f.Many
  ·have c2:=hlt.2 c1;rw[aQ c1,aP aD,aQ (aH aA),Nt hr];simp only[aG];rw[aQ (aH aA),Nt hr];exact ih _ aD
  ·have c2:¬(i:Int) / f.Size<f.Many:=λe=>c1 (hlt.1 e);rw[aP c1,aQ (aH aA)]
   by_cases c3:(i:Int)<f.Size*f.Many+f.Reserves
   ·rw[aQ c3,aQ (aH c3),Nt hr];simp only[aG];rw[aQ aB,Nt hr];exact ih _ aD
   ·rw[aP c3,aP (by simpa using c3)];simp only[aG];rw[aP aB];exact ih _ aA
theorem XJ(ys:List Ee)(h:∀s∈ys,s.Time≠0):Gy ys= -1/\Gj ys= -1:=by
 have key:∀(ys:List Ee) (i:Nat),(∀s∈ys,s.Time≠0)->Gm (-1) ys i= -1/\Fx (-1) ys i= -1:=by
  intro ys
  induction ys with
  |nil=>intro i _;exact⟨rfl,rfl⟩
  |cons y ys ih=>
   intro i g;have g1:=g y aN;rw[Gm,Fx];unfold Vh Sn;rw[aP (by simpa using g1),aP (by simpa using g1)];exact ih (i+1) λs hs=>g s (aM _ hs)
 exact key ys 0 h
theorem TS{f:Hn}(hf:Nr f=0){l:List Ee}(hl:l.length<=19)(h1:∀s∈l,Hy s.Who=some true/\0<=s.Time/\s.Time<=360000)(h2:(l.map (·.Who)).Nodup)(hp:∀s∈l,0<s.Time):∃P,Yn f l=some (P,0)/\Ui f l=some P:=by
 have hcf:Qk f=0:=hf;have e1:Hi Me l=some (Rq (λx y=>decide (Me x y<0)) l):=JJ _ l hl;have e2:Hi Qt l=some (Rq (λx y=>decide (Me x y<0)) l):=by
  rw[JJ _ l hl]
  congr 1
  refine FJ l λx hx y hy=>?_;have g1:=hp x hx;have g2:=hp y hy;unfold Qt Me Sr;rw[aP aD]
 obtain⟨S,hS⟩:∃S,Rq (λx y=>decide (Me x y<0)) l=S:=⟨_,rfl⟩;have hm:∀s∈S,s.Time≠0:=λs hs=>by
  rw[←hS,AC] at hs;have:=hp s hs;omega
 have hlen:S.length<=1000:=by rw[←hS,AD];omega
 rw[hS] at e1 e2;obtain⟨P,q1,q2⟩:=TQ (fin_of hf) S hlen S 0 [] aA aB;refine⟨P,?_,?_⟩
 ·unfold Yn Xl AF Ue Mu CB;rw[hcf,aP aB,NI aA h1 h2];simp only[aG];rw[aP aB,JK l aA,aG,e1];simp only[aG];rw[(XJ S hm).1,aQ aB];simp only[aG,Ht];rw[q1];rfl
 ·unfold Ui Wx Lr Yf;rw[JK l aA,aG,(XJ l λs hs=>by have:=hp s hs;omega).2,aQ aB,aG,e2];simp only[aG,Ht];rw[q2];rfl
def sdS(d:An):Ee:=Ee.mk d.Who d.Time
theorem VE{p:Lc}{l:List An}{race:ByteArray}{at_:Int}(hf:KG l)(hs:l.Pairwise λx y=>x.At<=y.At):Vz p (Jw l at_) race=some ((AW race (Jw l at_)).map sdS)/\Qr l race at_=some ((AW race (Jw l at_)).map sdS):=by
 have hl:=hf.len;have hFl:(Jw l at_).length<=l.length:=(AE l at_).length_le;have he1:=NF race (Jw l at_);have he2:=JE race (Jw l at_);constructor
 ·unfold Vz;rw[CG p (Jw l at_) race aA,aG,Ht,SQ (λ_=>true) sdS (λx1=>some x1) (Pm λx1=>some x1) (λ_ _=>rfl) (AW race (Jw l at_)) aA (λy ys i x=>rfl),List.filter_eq_self.2 λ_ _=>rfl]
 ·unfold Qr;rw[CH l race at_ hf hs,aG,Ht,SQ (λ_=>true) sdS (λx1=>some x1) (Ml λx1=>some x1) (λ_ _=>rfl) (AW race (Jw l at_)) aA (λy ys i x=>rfl),List.filter_eq_self.2 λ_ _=>rfl]
def fsS(y:Eg):Ee:=Ee.mk y.Who y.Time
theorem NU{p:Lc}(hp:TI p){l:List An}{race:ByteArray}{at_:Int}(hf:KG l)(hs:l.Pairwise λx y=>x.At<=y.At)(h:FM (Jw l at_)):∃P,Qu p l race at_=some P/\
 Option.bind (Xk p (Jw l at_) race) (λr3=>if !decide (r3.2.2=0) then some (([]:List Gh),r3.2.2) else Fm (fun(x1:List Ee)=>Option.bind (Yn p.Final x1) (λr4=>some (r4.1,r4.2))) (λj1=>Na j1 r3.1 0 ([]:List Ee)))=some (P,0):=by
 have hrl:(BV race (Jw l at_)).length<=12:=by
  have:=(KI race (Jw l at_)).length_eq;rw[aV,aV] at this;have:=h.few race;omega
 obtain⟨Q,hQ⟩:∃Q,((BV race (Jw l at_)).filter λy=>decide (0<y.Rank)).map fsS=Q:=⟨_,rfl⟩;have hQl:Q.length<=12:=by rw[←hQ,aV];exact Nat.le_trans (List.length_filter_le _ _) hrl
 have hmem:∀s∈Q,Hy s.Who=some true/\(0<=s.Time/\s.Time<=360000)/\0<s.Time:=λs hsq=>by
  rw[←hQ] at hsq;obtain⟨y,hy,rfl⟩:=bD.1 hsq;obtain⟨hy1,hy2⟩:=List.mem_filter.1 hy;obtain⟨d,hd,rfl⟩:=KK h hy1;obtain⟨k1,_,k3,_⟩:=JH h hd;obtain⟨_,k5,k6⟩:=DS k1;have hr:=of_decide_eq_true hy2;simp only at hr;unfold CK gdS at hr
  split at hr
  ·rename_i hg;simp only[bQ,aK] at hg;exact⟨((h.ok d k6).who (by rw[k5];decide)).1,k3,hg.1⟩
  ·omega
 have hnd:(Q.map (·.Who)).Nodup:=by
  have g:(((BV race (Jw l at_)).filter λy=>decide (0<y.Rank)).map λy:Eg=>y.Who).Nodup:=(rank_nd race (Jw l at_)).sublist (List.Sublist.map _ List.filter_sublist);rw[←hQ,List.map_map];exact g
 obtain⟨P,q1,q2⟩:=TS hp.fin (l:=Q) aA (λs hsq=>⟨(hmem s hsq).1,(hmem s hsq).2.1⟩) hnd λs hsq=>(hmem s hsq).2.2;refine⟨P,?_,?_⟩
 ·unfold Qu;rw[YQ hf hs h,aG,Ht,SQ (λy:El=>decide (0<y.Rank)) (λy:El=>Ee.mk y.Who y.Time) _ (Km _) (λ_ _=>rfl) (YP race (Jw l at_)) (by unfold YP;rw[aV];omega) (λy ys i x=>by rw[Km];rfl)];have e:((YP race (Jw l at_)).filter λy:El=>decide (0<y.Rank)).map (λy:El=>Ee.mk y.Who y.Time)=Q:=by
   rw[←hQ];unfold YP;rw[List.filter_map,List.map_map];rfl
  rw[e,q2];rfl
 ·rw[UU h p race,aG,aP aB,Ht,SQ (λy:Eg=>decide (0<y.Rank)) fsS _ (Na _) (λ_ _=>rfl) (BV race (Jw l at_)) aA (λy ys i x=>by rw[Na];rfl),hQ,q1];rfl
theorem TT{L:List Int}(hL:CZ L){a:Int}(h0:0<=a)(h1:a<=100000):Dr a 20 (λ_=>True) (Wg L a):=by
 unfold Wg;obtain⟨v1,b1,e1,g1,g2,_⟩:=Ot hL h0 aA [0,1,1] aB aB;rw[e1];simp only[aG];obtain⟨v2,b2,e2,g3,g4,_⟩:=Ot hL (a:=b1) aA aA [3,4,8] aB aB;rw[e2];simp only[aG];obtain⟨v3,b3,e3,g5,g6,_⟩:=Ot hL (a:=b2) aA aA [1,2] aB aB;rw[e3];simp only[aG];obtain⟨v4,b4,e4,g7,g8,_⟩:=Ot hL (a:=b3) aA aA [1,2,3] aB aB;rw[e4];simp only[aG];obtain⟨f,b5,e5,g9,g10,_⟩:=BE hL (a:=b4) aA aA 15 aA;rw[e5];simp only[aG,Ht]
 cases f with
 |false=>rw[aP aB];exact⟨_,_,rfl,by omega,by omega,trivial⟩
 |true=>
  rw[aQ rfl];obtain⟨w1,c1,k1,r1,r2,_⟩:=Xs hL (a:=b5) aA aA 1 3 aA aA aA;rw[k1];simp only[aG];obtain⟨w2,c2,k2,r3,r4,_⟩:=Xs hL (a:=c1) aA aA 1 10 aA aA aA;rw[k2];simp only[aG];obtain⟨w3,c3,k3,r5,r6,_⟩:=Xs hL (a:=c2) aA aA 1 3 aA aA aA;rw[k3];simp only[aG];obtain⟨w4,c4,k4,r7,r8,_⟩:=Xs hL (a:=c3) aA aA 1 10 aA aA aA;rw[k4];simp only[aG];exact⟨_,_,rfl,by omega,by omega,trivial⟩
theorem YY{p:Lc}{l:List An}{race:ByteArray}{at_:Int}(hf:KG l)(hs:l.Pairwise λx y=>x.At<=y.At)(h:Nk p l race at_=some 0):(AW race (Jw l at_)).length<=300:=by
 unfold Nk at h
 split at h
 ·cases h
 ·rw[CH l race at_ hf hs,aG] at h
  split at h
  ·cases h
  ·rename_i g;simp at g;omega
theorem ask_both{p:Lc}{l:List An}(hM:MD l)(race:ByteArray)(at_:Int):∃e0 one,Ox p l at_=some e0/\(e0≠0->one=e0)/\(e0=0->Nk p l race at_=some one)/\(one≠0->∃s r,Vg p l race at_=some (s,r,one))/\
 (one=0->TI p/\DsG l/\∃r,r.Key=race/\Vg p l race at_=some (some (Mp.mk p (Jw l at_)),r,0)/\(AW race (Jw l at_)).length<=300):=by
 obtain⟨e0,h1,h2,h3⟩:=YS p l at_
 by_cases he:e0=0
 ·obtain⟨hp,hG,hm,ho⟩:=h3 he;have hs:=hG.mom;obtain⟨a,r1,r2⟩:=YT hp hM.few hs race (at_:=at_);refine⟨e0,a,h1,λh=>absurd he h,λ_=>r1,λha=>?_,λha=>?_⟩
  ·rcases r2 with ⟨_,r3⟩|⟨r2,_⟩
   ·refine⟨some (Mp.mk p (Jw l at_)),R0,?_⟩;unfold Vg;rw[ho];simp only[aG,aJ,bN,aO,aR];rw[r3];rfl
   ·exact absurd r2 ha
  ·rcases r2 with ⟨r2,_⟩|⟨_,r,hr,hk,r3⟩
   ·exact absurd ha r2
   ·subst ha;refine⟨hp,hG,r,hk,?_,YY hM.few hs r1⟩;unfold Vg;rw[ho];simp only[aG,aJ,bN,aO,aR];rw[r3];rfl
 ·refine⟨e0,e0,h1,λ_=>rfl,λh=>absurd h he,λ_=>⟨none,Ek.mk Ed 0 0 0 0 0 0 0,?_⟩,λh=>absurd h he⟩;unfold Vg;rw[h2 he];simp only[aG];rw[aQ (by simpa using he)]
theorem few_sd{l:List An}(hM:MD l)(race:ByteArray)(at_:Int):((AW race (Jw l at_)).map sdS).length<=19\/∀s∈(AW race (Jw l at_)).map sdS,s.Time=0:=by
 have hsub:=AE l at_;rcases hM.alike with h|h
 ·left;rw[aV];have hn:(AW race (Jw l at_)).Nodup:=(LR race _).imp λ{a b} h e=>by rw[e,RC] at h;cases h
  have h1:=JF _ ((Jw l at_).filter λd=>decide (d.Kind=1)) hn λd hd=>by
   obtain⟨_,k2,k3⟩:=DS hd;exact List.mem_filter.2 ⟨k3,aH k2⟩
  rw[←List.countP_eq_length_filter] at h1;have:=hsub.countP_le (p:=λd=>decide (d.Kind=1));omega
 ·right;intro s hs;obtain⟨d,hd,rfl⟩:=bD.1 hs;exact h d (hsub.subset (DS hd).2.2)
theorem TU(l:List Ee):Uj l l=some true:=by
 unfold Uj;rw[aP aB,Ht];exact eq_l l (Ng l (some true)) (λ_=>rfl) (λ_ _ _=>rfl) l [] rfl
theorem TV(l:List Eo):Tp l l=some true:=by
 unfold Tp;rw[aP aB,Ht];exact eq_l l (Mm l (some true)) (λ_=>rfl) (λ_ _ _=>rfl) l [] rfl
theorem TW(l:List Gh):Tq l l=some true:=by
 unfold Tq;rw[aP aB,Ht];exact eq_l l (Mn l (some true)) (λ_=>rfl) (λ_ _ _=>rfl) l [] rfl
theorem VF{p:Lc}{l:List An}(hM:MD l)(race:ByteArray)(at_:Int):∃e0 one A C,Ox p l at_=some e0/\(e0≠0->one=e0)/\(e0=0->Nk p l race at_=some one)/\Ud p l race at_=some (A,one)/\Vj p l race at_=some (C,one)/\
 (one≠0->A=[]/\C=[]/\∃s r,Vg p l race at_=some (s,r,one))/\(one=0->Qr l race at_=some A/\Qu p l race at_=some C/\DsG l/\A=(AW race (Jw l at_)).map sdS/\A.length<=300/\
  ∃s r,Vg p l race at_=some (some s,r,0)/\Vz s.p_ s.deeds_ race=some A):=by
 obtain⟨e0,one,h1,h2,h3,h4,h5⟩:=ask_both (p:=p) hM race at_
 by_cases ho:one=0
 ·obtain⟨hp,hG,r,hk,ha,hfew⟩:=h5 ho;have hs:=hG.mom;obtain⟨s1,s2⟩:=VE (p:=p) (race:=race) (at_:=at_) hM.few hs;obtain⟨P,f1,f2⟩:=NU hp (race:=race) (at_:=at_) hM.few hs (hM.fm hG at_);subst ho;refine⟨e0,0,_,P,h1,h2,h3,?_,?_,λh=>absurd rfl h,λ_=>⟨s2,f1,hG,rfl,by rw[aV];exact hfew,_,r,ha,s1⟩⟩
  ·unfold Ud;rw[ha,aG,aP aB,aG,s1];rfl
  ·unfold Vj;rw[ha,aG,aP aB,aG,hk];exact f2
 ·obtain⟨s,r,ha⟩:=h4 ho;refine⟨e0,one,[],[],h1,h2,h3,?_,?_,λ_=>⟨rfl,rfl,s,r,ha⟩,λh=>absurd h ho⟩
  ·unfold Ud;rw[ha,aG,aQ (by simpa using ho)]
  ·unfold Vj;rw[ha,aG,aQ (by simpa using ho)]
theorem errs4(a b c d:Int):Jn [a,b,c,d]=if a≠0 then a else if b≠0 then b else Jn [c,d]:=by rw[GL,GL]
theorem seedsG{l:List An}(hG:DsG l)(race:ByteArray)(at_:Int):(∀s∈(AW race (Jw l at_)).map sdS,Hy s.Who=some true/\0<=s.Time/\s.Time<=360000)/\(((AW race (Jw l at_)).map sdS).map (·.Who)).Nodup:=by
 refine⟨λs hs=>?_,?_⟩
 ·obtain⟨d,hd,rfl⟩:=bD.1 hs;obtain⟨_,k2,k3⟩:=DS hd;have g:=hG.each d ((AE l at_).subset k3);exact⟨(g.who (by rw[k2];decide)).1,g.time (.inl k2)⟩
 ·rw[List.map_map,List.nodup_iff_pairwise_ne,List.pairwise_map];exact(LR race _).imp λ{a b} h e=>by
   have e':a.Who=b.Who:=e;rw[KB,aK,e',Xo] at h;omega
theorem plain_RacesSeeded(l:List Int)(hl:l.length<=9223372036854775807):Uk l=some true:=by
 have hL:CZ l:=by unfold CZ;omega
 obtain⟨p,a1,e1,p1,q1,hpl⟩:=TL hL (a:=0) aA aA;obtain⟨q,a2,e2,p2,q2,_⟩:=TT hL (a:=a1) aA aA;obtain⟨x,a3,e3,p3,q3,hM⟩:=RL hL 14 aA aA (a:=a2) aA aA;obtain⟨at_,a4,e4,p4,q4,_⟩:=TM hL (a:=a3) aA aA;obtain⟨race,a5,e5,p5,q5,_⟩:=Zn hL (a:=a4) aA aA [Oc,Oc,Wz,XY] aB aB;obtain⟨e0,one,A,C,h1,h2,h3,h4,h5,h6,h7⟩:=VF (p:=p) hM race at_;obtain⟨ep,c1,c2,c3⟩:=QA p;obtain⟨ed,d1,d2,d3⟩:=MV x;obtain⟨u1,u2⟩:=YV q;have hst:∃two B,AJ p q x race at_=some (B,two)/\(Jn [ep,(Ij q),ed,(Fw at_)]≠0->two=Jn [ep,(Ij q),ed,(Fw at_)]/\B=[])/\
  (Jn [ep,(Ij q),ed,(Fw at_)]=0->e0=0/\(one≠0->two=one/\B=[])/\(one=0->Tz q A=some (B,two))):=by
  unfold AJ;rw[c1,aG]
  by_cases hep:ep=0
  ·rw[aP (by simp[hep])]
   by_cases hpo:Pn q=0
   ·rw[aP (by simp[hpo])];have hE:Jn [ep,Ij q,ed,Fw at_]=Jn [ed,Fw at_]:=by rw[errs4,aP (by simp[hep]),←u1,aP (by simp[hpo])]
    have hq:=u2 hpo;have he0:e0=Jn [ed,Fw at_]:=by
     unfold Ox at h1;rw[c2,aG,aP (by simp[hep]),d2,aG] at h1;exact(bH h1).symm
    rw[hE,←he0]
    by_cases ho:one=0
    ·obtain⟨v1,v2,hG,hA,hAl,s,r,ha,hs⟩:=h7 ho;have he:e0=0:=by
      by_cases g:e0=0
      ·exact g
      ·rw[h2 g] at ho;exact absurd ho g
     obtain⟨w1,w2⟩:=seedsG hG race at_;have hz:=few_sd hM race at_;rw[←hA] at w1 w2 hz;obtain⟨D,e,y1,y2⟩:=YX hq (l:=A) hAl (λs hs=>(w1 s hs).2.1) hz;refine⟨e,D,?_,?_⟩
     ·rw[ha,aG,aP aB,aG,hs,aG];unfold FY Zf;rw[aP (by simp[hpo]),NI hAl w1 w2];simp only[aG];rw[aP aB,y1];rfl
     ·exact⟨λg=>absurd he g,λ_=>⟨he,λg=>absurd ho g,λ_=>y2⟩⟩
    ·obtain⟨_,_,s,r,ha⟩:=h6 ho;refine⟨one,[],?_,?_⟩
     ·rw[ha,aG,aQ (by simpa using ho)]
     ·exact⟨λg=>⟨h2 g,rfl⟩,λg=>⟨g,λ_=>⟨rfl,rfl⟩,λg=>absurd g ho⟩⟩
   ·have hE:Jn [ep,Ij q,ed,Fw at_]=Pn q:=by rw[errs4,aP (by simp[hep]),←u1,aQ hpo]
    rw[aQ (by simpa using hpo),hE];exact⟨_,_,rfl,λ_=>⟨rfl,rfl⟩,λg=>absurd g hpo⟩
  ·have hE:Jn [ep,Ij q,ed,Fw at_]=ep:=by rw[errs4,aQ hep]
   rw[aQ (by simpa using hep),hE];exact⟨_,_,rfl,λ_=>⟨rfl,rfl⟩,λg=>absurd g hep⟩
 obtain⟨two,B,t1,t2,t3⟩:=hst;unfold Uk;rw[e1];simp only[aG];rw[e2];simp only[aG];rw[e3];simp only[aG];rw[e4];simp only[aG];rw[e5];simp only[aG];rw[h4];simp only[aG];rw[t1];simp only[aG];rw[h5];simp only[aG];rw[h1];simp only[aG];rw[c2];simp only[aG];rw[d2];simp only[aG,Ht];generalize Jn [ep,Ij q,ed,Fw at_]=E at t2 t3 ⊢;rw[c1]
 by_cases he:e0=0
 ·rw[aQ (aH he),h3 he];simp only[aG]
  by_cases hE:E=0
  ·obtain⟨_,s1,s2⟩:=t3 hE;rw[aQ (aH hE)]
   by_cases ho:one=0
   ·obtain⟨v1,v2,_⟩:=h7 ho;rw[aQ (aH ho),v1,v2];simp only[aG];rw[aQ (aH ho),s2 ho];simp only[aG,aJ,aS,TU,TV,TW,JI]
   ·obtain⟨r1,r2,_⟩:=h6 ho;obtain⟨r3,r4⟩:=s1 ho;rw[aP (by simpa using ho),aP (by simpa using ho),r1,r2,r3,r4];simp only[aG,aJ,aS,TU,TV,TW,JI]
  ·obtain⟨r3,r4⟩:=t2 hE;have hE':¬(decide (E=0)=true):=by simpa using hE
   rw[aP hE']
   by_cases ho:one=0
   ·obtain⟨v1,v2,_⟩:=h7 ho;rw[aQ (aH ho),v1,v2];simp only[aG];rw[aP hE',r3,r4];simp only[aG,aJ,aS,TU,TV,TW,JI]
   ·obtain⟨r1,r2,_⟩:=h6 ho;rw[aP (by simpa using ho),aP hE',r1,r2,r3,r4];simp only[aG,aJ,aS,TU,TV,TW,JI]
 ·have hE:E≠0:=λg=>he (t3 g).1;have hE':¬(decide (E=0)=true):=by simpa using hE
  obtain⟨r3,r4⟩:=t2 hE;obtain rfl:=h2 he;obtain⟨r1,r2,_⟩:=h6 he;have he':¬(decide (one=0)=true):=by simpa using he
  rw[aP he',aP hE',aP he',aP hE',r1,r2,r3,r4];simp only[aG,aJ,aS,TU,TV,TW,JI]
end Go.Proofs.YtbicihdhkkjigaaGreatDoor
