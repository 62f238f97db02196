/- Results of a race,with their points. Conditions: a right plan,right deeds with few names. No program stands here but its twins. -/
import Derived.Test.YthlielagemkjcaaGreatDoorPDeedNames
namespace Go.Proofs.YthlielagemkjcaaGreatDoor
open Go
theorem Aoj(P:List Fp)(v:Fp)(Q:List Fp):nth (P++v::Q) (P.length:Int)=v:=by unfold nth;simp
theorem Aok(P:List Fp)(v u:Fp)(Q:List Fp):(P++v::Q).set P.length u=P++u::Q:=by simp
theorem revR_l(j:List Fp->Option (List Fp)):∀(k m:Nat) (A M B:List Fp),M.length<=k->M.length<m->A.length+M.length+B.length<=1000000->
 Qa j m (A++(M++B)) (A.length:Int) ((A.length:Int)+(M.length:Int)-1)=j (A++(M.reverse++B))
 |k,0,A,M,B,_,h,_=>by omega
 |k,m+1,A,M,B,hk,hm,hl=>by
  rw[Qa]
  match M,hk,hm,hl with
  |[],_,_,_=>rw[aP aD];rfl
  |[z],_,_,_=>rw[aP aB];rfl
  |a::z::M1,hk,hm,hl=>
   obtain⟨M2,b,hM⟩:∃M2 b,z::M1=M2++[b]:=by
    rcases List.eq_nil_or_concat (z::M1) with h|⟨M2,b,h⟩
    ·cases h
    ·exact⟨M2,b,by rw[h];simp⟩
   rw[hM] at hk hm hl ⊢;simp only[aT,aU,aW] at hk hm hl ⊢;have hlen:(A++(a::(M2++[b])++B)).length=A.length+M2.length+2+B.length:=by simp;omega
   have e3:(A.length:Int)+((M2.length+(0+1)+1:Nat):Int)-1=((A.length+M2.length+1:Nat):Int):=by omega
   rw[e3,aQ (aH aA)];have n2:nth (A++(a::(M2++[b])++B)) (A.length:Int)=a:=by rw[List.cons_append];exact Aoj _ _ _
   have h1:A++(a::(M2++[b])++B)=(A++a::M2)++b::B:=by simp
   have h2:(A++a::M2).length=A.length+M2.length+1:=by simp;omega
   have n3:nth (A++(a::(M2++[b])++B)) ((A.length+M2.length+1:Nat):Int)=b:=by
    rw[h1,←h2];exact Aoj _ _ _
   have hs:((A++(a::(M2++[b])++B)).set ((A.length:Int)).toNat b).set (((A.length+M2.length+1:Nat):Int)).toNat a=(A++[b])++(M2++(a::B)):=by
    rw[bI,bI];have q1:(A++(a::(M2++[b])++B)).set A.length b=(A++b::M2)++b::B:=by
     rw[List.cons_append,Aok];simp
    have q2:(A++b::M2).length=A.length+M2.length+1:=by simp;omega
    rw[q1,←q2,Aok];simp
   rw[Fm (Fy.2 aA),Fm (Fy.2 aA),Fm (Fy.2 aA),Fm (Fy.2 (by rw[List.length_set];omega)),n2,n3,hs,Hl aA aA,Hl aA aA];have ih:=revR_l j (k-2) m (A++[b]) M2 (a::B) aA aA aD;have e1:(((A++[b]).length:Nat):Int)=(A.length:Int)+1:=by simp
   rw[e1] at ih;have e2:(A.length:Int)+1+(M2.length:Int)-1=((A.length+M2.length+1:Nat):Int)-1:=by omega
   rw[e2] at ih;rw[ih];simp
theorem Aiu(l:List Fp)(hl:l.length<=1000000):Vw l=some l.reverse:=by
 unfold Vw;rw[Hg,Hl aA aA];have h:=revR_l (λx=>some x) l.length (((l.length:Int)-1-0).toNat+2) [] l [] (bU _) aA aD;simpa using h
theorem Aqt{s:ByteArray}(h:s∈[GQ,UV,Aab]):Gh s=some true:=by
 have key:∀s∈[GQ,UV,Aab],Gh s=some true:=by decide+kernel
 exact key s h
section
variable {L:List Int}(hL:LY L)
include hL
theorem raceP_dr{a:Int}(h0:0<=a)(h1:a<=100000000)(key:ByteArray)(hk:key∈[GQ,UV,Aab]):Dr a 7 (λr=>r.Key=key/\Md r=some 0) (Vp L a key):=by
 unfold Vp;obtain⟨v1,b1,e1,g1,g2,q1⟩:=Ow hL h0 aA [50,100,200] aB aB;rw[e1];simp only[aG];obtain⟨v2,b2,e2,g3,g4,q2⟩:=Ow hL (a:=b1) aA aA [1,2,3,4] aB aB;rw[e2];simp only[aG];obtain⟨v3,b3,e3,gg5,g6,q3⟩:=Ow hL (a:=b2) aA aA [25,50] aB aB;rw[e3];simp only[aG];obtain⟨v4,b4,e4,g7,g8,q4⟩:=Ow hL (a:=b3) aA aA [1,1,1,4] aB aB;rw[e4];simp only[aG];obtain⟨v5,b5,e5,g9,g10,q5⟩:=Ow hL (a:=b4) aA aA [0,1,2] aB aB;rw[e5];simp only[aG];obtain⟨v6,b6,e6,g11,g12,q6⟩:=Ow hL (a:=b5) aA aA [0,0,5,10] aB aB;rw[e6];simp only[aG];obtain⟨v7,b7,e7,g13,g14,q7⟩:=Ow hL (a:=b6) aA aA [0,5,90] aB aB;rw[e7];simp only[aG];refine⟨_,_,rfl,by omega,by omega,rfl,?_⟩;simp only[bB,bM,or_false] at q1 q2 q3 q4 q5 q6 q7;have w:W (v6+v7)=v6+v7:=Hl aA aA;unfold Md;simp only[Aqt hk,aG,bN,aO,aR,Hg,w];have c1:((!(Fv v2 1 5))||(!(Fv v5 0 2)))=false:=by
  unfold Fv;simp;omega
 have c2:(((((((!decide (v3=25)) && (!decide (v3=50)))||(!(Fv v4 1 4)))||(!(Fv v1 25 1500)))||(decide (v6<0)))||(decide (v6+v7<v6)))||(decide (120<v6+v7)))=false:=by
  unfold Fv;simp;omega
 have c3:(!decide (v3=0))=true:=by simp;omega
 have c4:(!decide (Int.tmod v1 v3=0))=false:=by rcases q1 with rfl|rfl|rfl<;>rcases q3 with rfl|rfl<;>decide+kernel
 have c5:decide (v2=5)=false:=by simp;omega
 simp only[c1,c2,Fm c3,c4,c5,aO,aR,bP]
theorem Abg:∀(ys:List ByteArray) (i:Nat) (x1:List Fp) (a:Int),0<=a->a+8*ys.length<=10000000->x1.length+ys.length<=1000->(∀y∈ys,y∈[GQ,UV,Aab])->ys.Nodup->(∀x∈x1,(Md x=some 0/\x.Key∈[GQ,UV,Aab])/\x.Key∉ys)->(x1.map (·.Key)).Nodup->
 ∃x b,Od L (λx a=>some (x,a)) ys i x1 a=some (x,b)/\a<=b/\b<=a+8*ys.length/\x.length<=x1.length+ys.length/\(∀z∈x,Md z=some 0/\z.Key∈[GQ,UV,Aab])/\(x.map (·.Key)).Nodup
 |[],i,x1,a,_,_,_,_,_,h5,h6=>⟨x1,a,rfl,Int.le_refl _,by simp,by simp,λz hz=>(h5 z hz).1,h6⟩
 |y::ys,i,x1,a,h0,h1,h2,h3,h4,h5,h6=>by
  rw[Od]
  rw[bT] at h4
  simp only[aT] at h1 h2 ⊢
  obtain⟨f,b,e,g1,g2,_⟩:=HA hL h0 aA 6 aA
  rw[e];simp only[aG,Hg]
  cases f with
  |true=>
   rw[aP aB]
   obtain⟨x,c,e',g3,g4,gg5,g6,g7⟩:=Abg ys (i+1) x1 b aA aA aA (λz hz=>h3 z (aM _ hz)) h4.2 (λx hx=>⟨(h5 x hx).1,λhz=>(h5 x hx).2 (aM _ hz)⟩) h6
   exact⟨x,c,e',by omega,by omega,by omega,g6,g7⟩
  |false=>
   rw[aQ aB]
   obtain⟨s,b2,e2,g3,g4,q1,q2⟩:=raceP_dr hL (a:=b) aA aA y (h3 y aN)
   rw[e2];simp only[aG]
   rw[Fm (by unfold Ja;simp;omega)]
   obtain⟨x,c,e',g7,g8,g9,g10,g11⟩:=Abg ys (i+1) (x1++[s]) b2 aA aA aD (λz hz=>h3 z (aM _ hz)) h4.2
    (λx hx=>by
     rcases bC.1 hx with h|h
     ·exact⟨(h5 x h).1,λhz=>(h5 x h).2 (aM _ hz)⟩
     ·rw[bA] at h;subst h;exact⟨⟨q2,by rw[q1];exact h3 y aN⟩,by rw[q1];exact h4.1⟩)
    (by
     rw[List.map_append,List.nodup_append]
     refine⟨h6,by simp,λu hu v hv=>?_⟩
     simp only[aY,List.map_nil,bA] at hv
     obtain⟨x,hx,rfl⟩:=bD.1 hu
     rw[hv,q1]
     rintro e
     exact(h5 x hx).2 (by rw[e];exact aN))
   simp only[aU,aX] at g9
   exact⟨x,c,e',by omega,by omega,by omega,g10,g11⟩
end
structure PlanG(p:Ge):Prop where
 few:p.Races.length<=3
 races:∀r∈p.Races,Md r=some 0/\r.Key∈[GQ,UV,Aab]
 keys:(p.Races.map (·.Key)).Nodup
 table:TGood p.Table
 final:Xx p.Final=0
theorem planP_dr{L:List Int}(hL:LY L){a:Int}(h0:0<=a)(h1:a<=50000):Dr a 37 PlanG (Ze L a):=by
 unfold Ze Tx;simp only[Ga];obtain⟨x,b1,e1,p1,q1,x1,x2,x3⟩:=Abg hL [GQ,UV,Aab] 0 [] a h0 aD aB (λ_ h=>h) (by decide+kernel) (λ_ h=>by cases h) aB;simp only[aT,aW,Nat.zero_add] at q1 x1;rw[e1];simp only[aG];obtain⟨t,b2,e2,p2,q2,t1⟩:=Ais hL (a:=b1) aA aA;rw[e2];simp only[aG];obtain⟨v3,b3,e3,p3,q3,m3,n3⟩:=FT hL (a:=b2) aA aA 1 3 aA aA aA;rw[e3];simp only[aG];obtain⟨v4,b4,e4,p4,q4,m4,n4⟩:=FT hL (a:=b3) aA aA 1 2 aA aA aA;rw[e4];simp only[aG];obtain⟨v5,b5,e5,p5,q5,m5,n5⟩:=FT hL (a:=b4) aA aA 0 2 aA aA aA;rw[e5];simp only[aG];rw[Aiu x aA];simp only[aG];refine⟨_,_,rfl,by omega,by push_cast at q1;omega,?_⟩;refine⟨by simp only[List.length_reverse];omega,λr hr=>x2 r (List.mem_reverse.1 hr),by rw[List.map_reverse];exact(List.reverse_perm _).nodup_iff.2 x3,t1,?_⟩;unfold Xx;rw[aP];simp only[Fv,Bool.not_and,Bool.or_eq_true,Bool.not_eq_true',aL];simp;omega
def RankOk(g:List Fd):Prop:=∀a x b,g=a++x::b->0<x.Rank->x.Rank=(a.length:Int)+1\/∃d y,a=d++[y]/\y.Rank=x.Rank
structure GGd(race:ByteArray)(rel:Bool)(g:List Fd):Prop where
 len:g.length<=5
 row:∀x∈g,x.Race=race/\x.Relay=rel/\x.Who∈fiveP/\x.Club∈clubP/\0<=x.Rank/\x.Rank<=6
 asc:g.Pairwise λx y=>JJ x y=true
 who:g.Pairwise λx y=>x.Who≠y.Who
 rank:RankOk g
structure LGd(Gs:List (List Fd)):Prop where
 grp:∀g∈Gs,g≠[]/\∃race rel,race∈raceP/\GGd race rel g
 diff:Gs.Pairwise λg g'=>∀x∈g,∀y∈g',cB x.Race y.Race<0
 len:Gs.flatten.length<=15
theorem LGd.one{Gs:List (List Fd)}(h:LGd Gs):∀g∈Gs,One g/\g.length<=5:=λg hg=>by
 obtain⟨h1,race,rel,_,h2⟩:=h.grp g hg
 exact⟨⟨h1,λx hx y hy=>by rw[(h2.row x hx).1,(h2.row y hy).1]⟩,h2.len⟩
theorem LGd.ne{Gs:List (List Fd)}(h:LGd Gs):Gs.Pairwise λg g'=>∀x∈g,∀y∈g',x.Race≠y.Race:=
 h.diff.imp λhd x hx y hy e=>by have:=hd x hx y hy;rw[e,Ut] at this;omega
theorem LGd.row{Gs:List (List Fd)}(h:LGd Gs):∀x∈Gs.flatten,x.Race∈raceP/\x.Who∈fiveP/\x.Club∈clubP/\0<=x.Rank/\x.Rank<=6:=λx hx=>by
 obtain⟨g,hg,hx⟩:=List.mem_flatten.1 hx
 obtain⟨_,race,rel,hr,h2⟩:=h.grp g hg
 obtain⟨r1,_,r3,r4,r5⟩:=h2.row x hx
 exact⟨by rw[r1];exact hr,r3,r4,r5⟩
theorem LGd.asc{Gs:List (List Fd)}(h:LGd Gs):Gs.flatten.Pairwise λx y=>JJ x y=true:=by
 rw[List.pairwise_flatten];refine⟨λg hg=>?_,h.diff.imp λhd x hx y hy=>NY.2 (.inl (hd x hx y hy))⟩;obtain⟨_,race,rel,_,h2⟩:=h.grp g hg;exact h2.asc
theorem LGd.who{Gs:List (List Fd)}(h:LGd Gs):Gs.flatten.Pairwise λx y=>¬(x.Race=y.Race/\x.Who=y.Who):=by
 rw[List.pairwise_flatten];refine⟨λg hg=>?_,h.ne.imp λhd x hx y hy e=>hd x hx y hy e.1⟩;obtain⟨_,race,rel,_,h2⟩:=h.grp g hg;exact h2.who.imp λhne e=>hne e.2
theorem Afy{α:Type}[Inhabited α]{l:List α}{i s:Int}{v:α}(hi0:0<=i)(hi:i<l.length)(hs0:0<=s):nth (l.set i.toNat v) s=if s=i then v else nth l s:=by
 unfold nth;rw[List.getD_eq_getElem?_getD,List.getD_eq_getElem?_getD,List.getElem?_set]
 by_cases h:s=i
 ·subst h;rw[aQ rfl,aQ rfl,aQ aA];rfl
 ·rw[aP h,aP aA]
theorem Afz:∀(l:List Fj) (i:Nat) (pt pr:Int) (z:Fj),z∈rkF i pt pr l->∃x∈l,z.Who=x.Who/\z.Time=x.Time/\z.Fault=x.Fault
 |[],_,_,_,_,h=>by cases h
 |x::xs,i,pt,pr,z,h=>by
  rw[rkF] at h
  rcases bB.1 h with rfl|h
  ·exact⟨x,aN,rfl,rfl,rfl⟩
  ·obtain⟨y,hy,e⟩:=Afz xs _ _ _ z h
   exact⟨y,aM _ hy,e⟩
theorem Aol:∀(l:List Fj) (i:Nat) (pt pr:Int),(rkF i pt pr l).map (·.Who)=l.map (·.Who)
 |[],_,_,_=>rfl
 |x::xs,i,pt,pr=>by simp only[rkF,aY,Aol xs]
def Rk2(a b:Fj):Prop:=a.Time<=b.Time/\a.Rank<=b.Rank/\(a.Rank=b.Rank↔a.Time=b.Time)/\(a.Time=b.Time->cB a.Who b.Who<0)
theorem rkF_ok:∀(l:List Fj) (i:Nat) (pt pr:Int),l.Pairwise (λa b=>UE a b=true)->(i=0\/(1<=pr/\pr<=(i:Int)/\∀x∈l,pt<=x.Time))->
 (∀z∈rkF i pt pr l,1<=z.Rank/\z.Rank<=(i:Int)+l.length/\(i=0\/(pt<=z.Time/\pr<=z.Rank/\(z.Rank=pr↔z.Time=pt))))/\(rkF i pt pr l).Pairwise Rk2
 |[],_,_,_,_,_=>⟨λz h=>absurd h (by simp[rkF]),by simp[rkF]⟩
 |x::xs,i,pt,pr,hp,hi=>by
  rw[List.pairwise_cons] at hp
  have hle:∀y∈xs,x.Time<=y.Time/\(x.Time=y.Time->cB x.Who y.Who<0):=λy hy=>by
   have:=RQ.1 (hp.1 y hy)
   omega
  have hx:i=0\/pt<=x.Time:=hi.imp id λh=>h.2.2 x aN
  generalize hr:(if decide (0<(i:Int)) && decide (x.Time=pt) then pr else(i:Int)+1)=r
  have hr':rkF i pt pr (x::xs)=Fj.mk x.Who r x.Time x.Fault::rkF (i+1) x.Time r xs:=by rw[rkF];simp only[hr]
  have hrr:(0<i/\x.Time=pt/\r=pr)\/(r=(i:Int)+1/\(i=0\/x.Time≠pt)):=by
   rw[←hr]
   by_cases h:0<i
   ·by_cases h2:x.Time=pt
    ·left;rw[aQ (by simp[h,h2])];exact⟨h,h2,rfl⟩
    ·right;rw[aP (by simp[h2])];exact⟨rfl,.inr h2⟩
   ·right;rw[aP aD];exact⟨rfl,.inl aA⟩
  have hr1:1<=r/\r<=(i:Int)+1:=by
   rcases hrr with ⟨h1,_,h3⟩|⟨h1,_⟩
   ·rcases hi with h|⟨h4,h5,_⟩<;>omega
   ·omega
  obtain⟨A,B⟩:=rkF_ok xs (i+1) x.Time r hp.2 (.inr ⟨hr1.1,by push_cast;omega,λy hy=>(hle y hy).1⟩);rw[hr'];refine⟨λz hz=>?_,List.pairwise_cons.2 ⟨λz hz=>?_,B⟩⟩
  ·rcases bB.1 hz with rfl|hz
   ·refine⟨hr1.1,by simp only[aT];push_cast;omega,?_⟩;rcases hi with h|⟨h4,h5,h6⟩
    ·exact .inl h
    ·right;have:=h6 x aN;simp only;rcases hrr with ⟨h1,h2,h3⟩|⟨h1,h2⟩<;>omega
   ·obtain⟨a1,a2,a3⟩:=A z hz;refine⟨a1,by simp only[aT];push_cast at a2 ⊢;omega,?_⟩;rcases hi with h|⟨h4,h5,h6⟩
    ·exact .inl h
    ·right;have:=h6 x aN;rcases a3 with a3|⟨a3,a4,a5⟩
     ·omega
     ·rcases hrr with ⟨h1,h2,h3⟩|⟨h1,h2⟩<;>omega
  ·obtain⟨a1,a2,a3⟩:=A z hz;obtain⟨y,hy,y1,y2,_⟩:=Afz xs _ _ _ z hz;obtain⟨l1,l2⟩:=hle y hy;rcases a3 with a3|⟨a3,a4,a5⟩
   ·omega
   ·refine⟨by simp only;omega,by simp only;omega,by simp only;omega,?_⟩;simp only;rw[y1];intro e;exact l2 aA
def swS(race:ByteArray)(m:List (ByteArray×An))(y:An):List (ByteArray×An):=if decide (y.Race=race) && decide (y.Kind=3) then Iv m y.Who y else m
def swM(race:ByteArray)(l:List An):List (ByteArray×An):=l.foldl (swS race) []
theorem Alp(race:ByteArray):∀(ys:List An) (i:Nat) (m:List (ByteArray×An)),BA race (λx=>x) ys i m=ys.foldl (swS race) m
 |[],_,m=>rfl
 |y::ys,i,m=>by
  rw[BA]
  simp only[Ga,List.foldl_cons]
  unfold swS
  cases hc:(decide (y.Race=race) && decide (y.Kind=3)) with
  |true=>rw[aQ rfl,aQ rfl];exact Alp race ys (i+1) _
  |false=>rw[aP aB,aP aB];exact Alp race ys (i+1) _
theorem Aom(p:Ge)(l:List An)(race:ByteArray):AC p l race=swM race l:=by
 unfold AC;rw[Ga];exact Alp race l 0 []
theorem Aon{race:ByteArray}{l:List An}{w:ByteArray}{y:An}(h:Tw (swM race l) w=some y):y∈l/\y.Kind=3/\y.Race=race/\y.Who=w:=by
 have key:∀(ys:List An) (m:List (ByteArray×An)),(∀z∈ys,z∈l)->(∀w y,Tw m w=some y->y∈l/\y.Kind=3/\y.Race=race/\y.Who=w)->∀w y,Tw (ys.foldl (swS race) m) w=some y->y∈l/\y.Kind=3/\y.Race=race/\y.Who=w:=by
  intro ys
  induction ys with
  |nil=>intro m _ h;exact h
  |cons z ys ih=>
   intro m hz hm;rw[List.foldl_cons];refine ih _ (λu hu=>hz u (aM _ hu)) λw y hy=>?_;unfold swS at hy
   split at hy
   ·rename_i hc;simp only[bQ,aK] at hc;have e:Tw (Iv m z.Who z) w=if w=z.Who then some z else Tw m w:=NV z.Who w z m 0;rw[e] at hy
    split at hy
    ·rename_i hw;obtain rfl:=bH hy;exact⟨hz z aN,hc.2,hc.1,hw.symm⟩
    ·exact hm w y hy
   ·exact hm w y hy
 exact key l [] (λ_ h=>h) (λw y h=>by simp[Tw,Oo] at h) w y h
structure FG(F:List An):Prop where
 ok:∀d∈F,DG d/\d.Who∈XC/\d.Club∈LZ
 len:F.length<=40
theorem NZ{α:Type}[DecidableEq α]:∀(l l':List α),l.Nodup->(∀x∈l,x∈l')->l.length<=l'.length
 |[],_,_,_=>Nat.zero_le _
 |x::l,l',h,hm=>by
  rw[bT] at h
  have hx:=hm x aN
  have:=NZ l (l'.erase x) h.2 λy hy=>(List.mem_erase_of_ne (λe=>h.1 (by rw[←e];exact hy))).2 (hm y (aM _ hy))
  rw[List.length_erase_of_mem hx] at this
  have:=List.length_pos_of_mem hx
  simp only[aT]
  omega
def D0:An:=An.mk Ff 0 0 0 Ff Ff Ff 0 0 Ff 0
def QF(race:ByteArray)(F:List An)(d:An):Bool:=(Tw (swM race F) d.Who).isSome
def svS(race:ByteArray)(F:List An)(d:An):An:=Gm (swM race F) d.Who D0
def Oy(race:ByteArray)(F:List An):List An:=(Zw race F).filter (QF race F)
def Xu(race:ByteArray)(F:List An)(H:List An):List Fi:=H.map λd=>Fi.mk d.Who (svS race F d).Time
def OA(race:ByteArray)(F:List An)(H:List An):List Je:=(H.filter λd=>decide (0<(svS race F d).Fault)).map λd=>Je.mk d.Who (svS race F d).Fault []
def Xr(H:List An)(m:List (ByteArray×ByteArray)):List (ByteArray×ByteArray):=H.foldl (λm d=>Iv m d.Who d.Club) m
theorem SM(p:Ge)(F:List An)(race:ByteArray)(j:List Je->List Fi->List (ByteArray×ByteArray)->Option (List Fj×List (ByteArray×ByteArray)×Int)):∀(ys:List An) (i:Nat) (v:List Je) (q:List Fi) (c:List (ByteArray×ByteArray)),v.length+ys.length<=1000->q.length+ys.length<=1000->
 Vs p F race j ys i v q c=j (v++OA race F (ys.filter (QF race F))) (q++Xu race F (ys.filter (QF race F))) (Xr (ys.filter (QF race F)) c)
 |[],i,v,q,c,_,_=>by simp[Vs,OA,Xu,Xr]
 |y::ys,i,v,q,c,h1,h2=>by
  simp only[aT] at h1 h2
  rw[Vs]
  simp only[Ga,Aom]
  have hh:QF race F y=(Tw (swM race F) y.Who).isSome:=rfl
  have hs:Gm (swM race F) y.Who (An.mk Ff 0 0 0 Ff Ff Ff 0 0 Ff 0)=svS race F y:=rfl
  rw[hs]
  cases hc:(Tw (swM race F) y.Who).isSome with
  |false=>
   rw[aQ aB,bS (by rw[hh,hc];simp)]
   exact SM p F race j ys (i+1) v q c aA aA
  |true=>
   rw[aP aB,Fm (by unfold Ja;exact aH aA),bR (by rw[hh,hc])]
   by_cases hf:0<(svS race F y).Fault
   ·rw[aQ (aH hf),Fm (by unfold Ja;exact aH aA),SM p F race j ys (i+1) _ _ _ aD aD]
    unfold OA Xu Xr
    rw[bR (by simpa using hf)]
    simp
   ·rw[aP (by simpa using hf),SM p F race j ys (i+1) v _ _ aA aD]
    unfold OA Xu Xr
    rw[bS (by simpa using hf)]
    simp
theorem SN(race:ByteArray)(F:List An):(Oy race F).Pairwise λa b=>cB a.Who b.Who<0:=((VX race F).sublist List.filter_sublist).imp λ{a b} h=>by
 rw[UA,aK] at h
 exact h
def YK(race:ByteArray)(F:List An)(w:ByteArray):Int:=Gm (LA (OA race F (Oy race F)) []) w 0
theorem Adu(V:List Je)(m:List (ByteArray×Int))(w:ByteArray)(h:∀v∈V,v.Who≠w):Gm (LA V m) w 0=Gm m w 0:=by
 unfold LA
 induction V generalizing m with
 |nil=>rfl
 |cons v V ih=>
  rw[List.foldl_cons,ih _ λu hu=>h u (aM _ hu),CW,aP λe=>h v aN e.symm]
theorem Aqu(V:List Je)(m:List (ByteArray×Int))(v:Je)(hv:v∈V)(hp:(V.map (·.Who)).Nodup):Gm (LA V m) v.Who 0=v.Fault:=by
 induction V generalizing m with
 |nil=>cases hv
 |cons u V ih=>
  simp only[aY,bT] at hp;have e:LA (u::V) m=LA V (Iv m u.Who u.Fault):=rfl;rw[e];rcases bB.1 hv with rfl|hv
  ·rw[Adu V _ v.Who λz hz e=>hp.1 (by rw[←e];exact bJ hz),CW,aQ rfl]
  ·exact ih _ hv hp.2
def Zz(race:ByteArray)(F:List An):List Fj:=RT (YK race F) (Xu race F (Oy race F))
theorem cB_nn{s t u:ByteArray}(h1:¬cB s t<0)(h2:¬cB t u<0):¬cB s u<0:=by
 intro h;have f1:=FR s t;have f2:=FR t u
 by_cases e:cB t u=0
 ·rw[JI e] at h1;exact h1 h
 ·have:=AY h (show cB u t<0 by omega);omega
section
variable {α:Type}[Inhabited α]{f:α->ByteArray}{c:α->α->Int}(hc:∀x y,c x y=cB (f x) (f y))
omit [Inhabited α] in
theorem Alq{l:List α}(h:(l.map f).Nodup){x y:α}(hx:x∈l)(hy:y∈l)(e:f x=f y):x=y:=by
 induction l with
 |nil=>cases hx
 |cons a l ih=>
  simp only[aY,bT] at h;rcases bB.1 hx with hx1|hx1<;>rcases bB.1 hy with hy1|hy1
  ·rw[hx1,hy1]
  ·exact(h.1 (by rw[←hx1,e];exact bJ hy1)).elim
  ·exact(h.1 (by rw[←hy1,←e];exact bJ hx1)).elim
  ·exact ih h.2 hx1 hy1
include hc
theorem XD{l:List α}(h:(l.map f).Nodup):HC c l:=by
 refine⟨λx _=>by rw[hc,Ut];omega,λx _ y _ z _ h1 h2=>by rw[hc] at*;exact AY h1 h2,λx _ y _ z _ h1 h2=>by rw[hc] at*;exact cB_nn h1 h2,λx hx y hy h1 h2=>?_⟩;rw[hc] at h1 h2;have:=FR (f x) (f y);exact Alq h hx hy (JI aA)
omit [Inhabited α] in
theorem UF{l:List α}(h:(l.map f).Nodup):Nc c l=Si (λx y=>decide (c x y<0)) l:=by
 have hp:(Nc c l).Perm l:=List.mergeSort_perm _ _;have tot:∀{l:List α},(l.map f).Nodup->l.Pairwise λa b=>decide (c b a<0)=false->decide (c a b<0)=true:=λ{l} h=>(List.pairwise_map.1 h).imp λ{a b} hne hb=>by
  rw[hc,aL] at hb;rw[hc,aK];have h0:cB (f a) (f b)≠0:=λe=>hne (JI e);have:=FR (f a) (f b);omega
 refine(RM (λx=>by rw[hc,Ut];rfl) (λx y z h1 h2=>by rw[hc,aK] at*;exact AY h1 h2) _ _ (tot h) ?_ λx=>hp.mem_iff.symm).symm;have hs:(Nc c l).Pairwise λx y=>(!decide (c y x<0))=true:=List.pairwise_mergeSort (λa b d h1 h2=>by
  simp only[Bool.not_eq_true',aL,hc] at h1 h2 ⊢;exact cB_nn h2 h1) (λa b=>by
  have:=FR (f a) (f b);simp only[hc]
  by_cases h1:cB (f b) (f a)<0
  ·have:¬cB (f a) (f b)<0:=by omega
   simp[this]
  ·simp[h1]) _
 exact(hs.and (tot ((hp.map _).nodup_iff.2 h))).imp λ{a b} hab=>hab.2 (by simpa using hab.1)
end
theorem sortE_is{l:List An}(h:(l.map (·.Who)).Nodup)(hl:l.length<=1000000):Ki l=some (Si ltW l):=by
 unfold Ki;rw[aQ ⟨XD (f:=An.Who) (λ_ _=>rfl) h,by omega⟩];exact congrArg some (UF (f:=An.Who) (λ_ _=>rfl) h)
theorem sortR_is{l:List An}(h:(l.map (·.Who)).Nodup)(hl:l.length<=1000000):Iy l=some (Si ltW l):=by
 unfold Iy;rw[aQ ⟨XD (f:=An.Who) (λ_ _=>rfl) h,by omega⟩];exact congrArg some (UF (f:=An.Who) (λ_ _=>rfl) h)
theorem CH(p:Ge)(l:List An)(race:ByteArray)(hl:l.length<=100000):Sl p l race=some (Zw race l):=by
 have ho:=entOk race l;have hml:=HY race l;unfold Sl;simp only[Ga];rw[KT];refine Amr λq hq=>?_;have hql:q.length=(entM race l).length:=hq.length_eq;have hnd:(((entM race l).map (·.2)).map (·.Who)).Nodup:=by rw[Aba ho];exact ho.nd
 have hp:(q.map (·.2)).Perm ((entM race l).map (·.2)):=hq.map _;have hqn:=(hp.map (·.Who)).nodup_iff.2 hnd;rw[Aaz _ q [] aD,aZ,sortE_is hqn (by rw[aV];omega)];simp only[aG]
 congr 1
 exact RM Aft SL _ _ (YX hqn) (SK SL _ (YX hnd)) λx=>by rw[hp.mem_iff];exact(JN _ _ _).symm
theorem VY(P:List An)(hl:P.length<=100000)(h4:∀a∈P,a.Kind≠4)(i:Nat)(self:Int->List An->Option Bool):
 ∀(d m j:Nat),P.length=j+d->d<m->Jd P (i:Int) self (some true) m (j:Int)=some true
 |d,0,j,_,h=>by omega
 |0,m+1,j,h,_=>by rw[Jd,aP aD]
 |d+1,m+1,j,h,hm=>by
  have ih:=VY P hl h4 i self d m (j+1) aA aA
  have bj:inB (j:Int) P.length=true:=Fy.2 aA
  have hk:=h4 _ (List.mem_of_getElem? (Gd bj).1)
  have hw:W ((j:Int)+1)=((j+1:Nat):Int):=by rw[Hl aA aA];rfl
  rw[Jd,aQ (aH (by omega:(j:Int)<(P.length:Int)))]
  simp only[Ga,hw,Fm bj,ih]
  rw[aP (by simpa using hk)]
  simp
theorem Adv(at_:Int):∀(P:List An),(∀a∈P,a.Kind≠4)->∀e,BN at_ P e=false
 |[],_,_=>rfl
 |z::P,h,e=>by
  have h1:=h z aN
  rw[BN,Adv at_ P (λq hq=>h q (aM _ hq)) e,aI h1]
  simp
theorem Adw(P:List An)(hl:P.length<=100000)(h4:∀a∈P,a.Kind≠4)(j:List Int->Option (List Int)):∀(d m i:Nat) (x:List Int),P.length=i+d->d<m->x.length<=i->Kb P j m x (i:Int)=j (x++(List.range' i d).map fun(k:Nat)=>(k:Int))
 |d,0,i,x,_,h,_=>by omega
 |0,m+1,i,x,h,_,_=>by
  rw[Kb,aP aD]
  simp
 |d+1,m+1,i,x,h,hm,hx=>by
  have hw:W ((i:Int)+1)=((i+1:Nat):Int):=by rw[Hl aA aA];rfl
  rw[Kb,aQ (aH (by omega:(i:Int)<(P.length:Int)))]
  simp only[Ga,hw]
  have hc:La 16 (i:Int) P=some true:=by
   unfold La Rh;rw[Ga,hw];exact VY P hl h4 i _ (P.length-(i+1)) _ (i+1) aA aA
  rw[hc,List.range'_succ];simp only[aG,aS];rw[Fm (by unfold Ja;exact aH aA),Adw P hl h4 j d m (i+1) _ aA aA aD];simp
def OB(l:List An):Prop:=l.length<=16\/(l.length<=1000/\∀a∈l,a.Kind≠4)
theorem OB.len{l:List An}(h:OB l):l.length<=1000:=by
 rcases h with h|h
 ·omega
 ·exact h.1
theorem Aga(l:List An)(at_:Int)(hf:OB l)(hs:l.Pairwise λx y=>x.At<=y.At):Qm l at_=some ((Aaw l at_).map fun(i:Nat)=>(i:Int)):=by
 rcases hf with hl|⟨hl,h4⟩
 ·obtain⟨r,h1,h2⟩:=Abv l at_ hl hs;rw[RN l at_ aA] at h1;rw[h2,←h1]
 ·obtain⟨A,Q,e,h1,h2⟩:=XA at_ l hs;have hflt:(l.filter λy=>decide (y.At<=at_))=A:=by
   rw[e,List.filter_append,List.filter_eq_self.2 λa ha=>aH (h1 a ha),List.filter_eq_nil_iff.2 λq hq=>by have:=h2 q hq;simp;omega,List.append_nil]
  have hAl:A.length<=l.length:=by rw[e];simp
  unfold Qm;simp only[Ga];rw[OT at_ _ l 0 [] aD,aZ,hflt];have h3:=Adw A aA (λa ha=>h4 a (by rw[e];exact List.mem_append_left _ ha)) (λx4=>some x4) A.length (((A.length:Int)-0).toNat+2) 0 [] aA aA aB;rw[aZ] at h3;refine Eq.trans h3 ?_;rw[Afu,←List.range_eq_range']
  congr 2
  have hlen:l.length=A.length+Q.length:=by rw[e];simp
  rw[hlen,List.range_add,List.filter_append];have hu:∀k e,BN at_ (l.drop k) e=false:=λk e=>Adv at_ _ (λa ha=>h4 a (List.mem_of_mem_drop ha)) e;have hat:∀k:Nat,okB at_ l k=decide ((nth l (k:Int)).At<=at_):=λk=>by unfold okB;rw[hu];simp
  have hq:(List.map (λx=>A.length+x) (List.range Q.length)).filter (okB at_ l)=[]:=by
   rw[List.filter_eq_nil_iff];intro k hk;obtain⟨q,hq,rfl⟩:=bD.1 hk;rw[List.mem_range] at hq;have hn:nth l ((A.length+q:Nat):Int)=Q[q]:=by
    rw[e];unfold nth;rw[bI];simp[List.getD,List.getElem?_append_right,List.getElem?_eq_getElem hq]
   have:=h2 _ (List.getElem_mem hq);rw[hat,hn];simp;omega
  have ha:(List.range A.length).filter (okB at_ l)=List.range A.length:=by
   rw[List.filter_eq_self];intro k hk;rw[List.mem_range] at hk;have hn:nth l (k:Int)=A[k]:=by
    rw[e];unfold nth;rw[bI];simp[List.getD,List.getElem?_append_left hk,List.getElem?_eq_getElem hk]
   have:=h1 _ (List.getElem_mem hk);rw[hat,hn];simpa using this
  rw[hq,ha,List.append_nil]
theorem Aoo(l:List An)(j:List An->Option (List An)):∀(is:List Nat) (k:Nat) (x:List An),(∀i∈is,i<l.length)->x.length+is.length<=1000000->
 Ta l j (is.map fun(i:Nat)=>(i:Int)) k x=j (x++is.map fun(i:Nat)=>nth l (i:Int))
 |[],k,x,_,_=>by simp[Ta]
 |i::is,k,x,h,hl=>by
  simp only[aT] at hl
  rw[aY,Ta,Fm (Fy.2 (by have:=h i aN;omega)),Fm (by unfold Ja;exact aH aA),Aoo l j is (k+1) _ (λz hz=>h z (aM _ hz)) aD]
  simp
theorem Adx(l:List An)(at_:Int)(hf:OB l)(hs:l.Pairwise λx y=>x.At<=y.At):Zo l at_=some (Gj l at_):=by
 unfold Zo;rw[Aga l at_ hf hs];simp only[aG,Ga];have hl:=hf.len;have hc:(Aaw l at_).length<=l.length:=by rw[Afu];exact Nat.le_trans (List.length_filter_le _ _) aB
 rw[Aoo l _ _ 0 [] (λi hi=>Aoc hi) aD,aZ,Aax]
theorem idxE_l(race:ByteArray)(d:An):∀(l:List An) (i:Nat),decide (0<=Hz race d (-1) l i)=l.any λo=>Jq o race d
 |[],i=>rfl
 |y::l,i=>by
  rw[Hz,List.any_cons]
  by_cases h:Jq y race d=true
  ·rw[aQ h,h];simp
  ·rw[aP h,idxE_l race d l (i+1)]
   simp[h]
def IV(race:ByteArray):List An->List An
 |[]=>[]
 |d::l=>if(decide (d.Kind=1) && decide (d.Race=race)) && !(l.any λo=>Jq o race d) then d::IV race l else IV race l
theorem Ady(race:ByteArray):∀l:List An,(IV race l).length<=l.length
 |[]=>bU _
 |d::l=>by
  have:=Ady race l
  unfold IV
  split
  ·simp only[aT];omega
  ·simp only[aT];omega
theorem Alr(race:ByteArray)(j:List An->Option (List An))(F:List An)(hF:F.length<=100000):∀(ys dn x:List An),F=dn++ys->x.length<=dn.length->Qn F race j ys dn.length x=j (x++IV race ys)
 |[],dn,x,_,_=>by simp[Qn,IV]
 |y::ys,dn,x,h,hx=>by
  have hlen:F.length=dn.length+(ys.length+1):=by rw[h];simp
  have hw:W ((dn.length:Int)+1)=((dn.length+1:Nat):Int):=by rw[Hl aA aA];rfl
  have hcut:cut F ((dn.length+1:Nat):Int) (F.length:Int)=ys:=by
   unfold cut;rw[bI,bI,List.take_length,h];have:dn++y::ys=(dn++[y])++ys:=by simp
   rw[this,List.drop_left' aB]
  have hc:Jh ys race y=ys.any λo=>Jq o race y:=by
   unfold Jh Ln;rw[Ga,idxE_l]
  rw[Qn];simp only[Ga,hw];rw[Fm (Lc.2 aA),hcut,hc,IV];have e:F=(dn++[y])++ys:=by rw[h];simp
  by_cases hk:((decide (y.Kind=1) && decide (y.Race=race)) && !(ys.any λo=>Jq o race y))=true
  ·rw[aQ hk,aQ hk,Fm (by unfold Ja;exact aH aA)];have ih:=Alr race j F hF ys (dn++[y]) (x++[y]) e aD;rw[aU,aX] at ih;rw[ih];simp
  ·rw[aP hk,aP hk];have ih:=Alr race j F hF ys (dn++[y]) x e aD;rw[aU,aX] at ih;exact ih
theorem XE{race:ByteArray}:∀{l:List An} {d:An},d∈IV race l->d.Kind=1/\d.Race=race/\d∈l
 |x::l,d,h=>by
  unfold IV at h
  split at h
  ·rename_i hk
   simp only[bQ,aK] at hk
   rcases bB.1 h with rfl|h
   ·exact⟨hk.1.1,hk.1.2,aN⟩
   ·obtain⟨a,b,c⟩:=XE h
    exact⟨a,b,aM _ c⟩
  ·obtain⟨a,b,c⟩:=XE h
   exact⟨a,b,aM _ c⟩
theorem Abh(race:ByteArray):∀l:List An,((IV race l).map (·.Who)).Nodup
 |[]=>List.nodup_nil
 |d::l=>by
  have ih:=Abh race l
  unfold IV
  split
  ·rename_i hk
   simp only[bQ,Bool.not_eq_true',List.any_eq_false] at hk
   rw[aY,bT]
   refine⟨λhm=>?_,ih⟩
   obtain⟨o,ho,e⟩:=bD.1 hm
   obtain⟨a,b,c⟩:=XE ho
   refine hk.2 o c ?_
   unfold Jq
   simp[a,b,e]
  ·exact ih
theorem Aiv{ν:Type}(k:ByteArray):∀(m:List (ByteArray×ν)),(m.map (·.1)).Nodup->∀p,p∈KZ m k↔p∈m/\p.1≠k
 |[],_,p=>by simp[KZ]
 |(q,v)::m,h,p=>by
  simp only[aY,bT] at h
  rw[KZ]
  by_cases e:k=q
  ·rw[aQ e]
   constructor
   ·intro hp
    exact⟨aM _ hp,λe'=>h.1 (by rw[←e,←e'];exact bJ hp)⟩
   ·rintro⟨hp,hn⟩
    rcases bB.1 hp with rfl|hp
    ·exact absurd e.symm hn
    ·exact hp
  ·rw[aP e,bB,Aiv k m h.2 p,bB]
   constructor
   ·rintro(rfl|⟨h1,h2⟩)
    ·exact⟨.inl rfl,λh=>e h.symm⟩
    ·exact⟨.inr h1,h2⟩
   ·rintro⟨rfl|h1,h2⟩
    ·exact .inl rfl
    ·exact .inr ⟨h1,h2⟩
theorem Adz{ν:Type}(k:ByteArray)(v:ν):∀(m:List (ByteArray×ν)),(m.map (·.1)).Nodup->∀p,p∈Iv m k v↔p=(k,v)\/(p∈m/\p.1≠k)
 |[],_,p=>by simp[Iv]
 |(q,u)::m,h,p=>by
  simp only[aY,bT] at h
  rw[Iv]
  by_cases e:k=q
  ·rw[aQ e,bB]
   constructor
   ·rintro(h1|h1)
    ·exact .inl h1
    ·exact .inr ⟨aM _ h1,λe'=>h.1 (by rw[←e,←e'];exact bJ h1)⟩
   ·rintro(h1|⟨h1,h2⟩)
    ·exact .inl h1
    ·rcases bB.1 h1 with rfl|h1
     ·exact absurd e.symm h2
     ·exact .inr h1
  ·rw[aP e,bB,Adz k v m h.2 p,bB]
   constructor
   ·rintro(rfl|h1|⟨h1,h2⟩)
    ·exact .inr ⟨.inl rfl,λh=>e h.symm⟩
    ·exact .inl h1
    ·exact .inr ⟨.inr h1,h2⟩
   ·rintro(h1|⟨rfl|h1,h2⟩)
    ·exact .inr (.inl h1)
    ·exact .inl rfl
    ·exact .inr (.inr ⟨h1,h2⟩)
theorem entS_nd(race:ByteArray)(m:List (ByteArray×An))(y:An)(h:(m.map (·.1)).Nodup):((VW race m y).map (·.1)).Nodup:=by
 unfold VW
 split
 ·split
  ·exact(YY y.Who y m h).1
  ·split
   ·exact h.sublist ((RO y.Who m).map _)
   ·exact h
 ·exact h
theorem Aiw(race:ByteArray):∀(l:List An) (m:List (ByteArray×An)),(m.map (·.1)).Nodup->∀d:An,(d.Who,d)∈l.foldl (VW race) m↔d∈IV race l\/((d.Who,d)∈m/\∀o∈l,Jq o race d=false)
 |[],m,_,d=>by simp[IV]
 |y::l,m,hm,d=>by
  rw[List.foldl_cons,Aiw race l _ (entS_nd race m y hm) d]
  have hy:Jq y race d=((decide (y.Race=race) && decide (y.Who=d.Who)) && (decide (y.Kind=1)||decide (y.Kind=2))):=rfl
  have hS:(d.Who,d)∈VW race m y↔(y.Race=race/\y.Kind=1/\d=y)\/((d.Who,d)∈m/\Jq y race d=false):=by
   rw[hy];unfold VW
   by_cases hr:y.Race=race
   ·by_cases h1:y.Kind=1
    ·simp only[hr,h1,aJ,aS,Adz y.Who y m hm];constructor
     ·rintro(h|⟨h,h2⟩)
      ·exact .inl ⟨trivial,trivial,(Prod.mk.inj h).2⟩
      ·exact .inr ⟨h,by simp;exact λe=>h2 e.symm⟩
     ·rintro(⟨_,_,rfl⟩|⟨h,h2⟩)
      ·exact .inl rfl
      ·exact .inr ⟨h,λe=>by simp[e] at h2⟩
    ·by_cases h2:y.Kind=2
     ·simp only[hr,h2,aJ,aS,show ((2:Int)=1)=False from by simp,aR,Aiv y.Who m hm];constructor
      ·rintro⟨h,h3⟩;exact .inr ⟨h,by simp;exact λe=>h3 e.symm⟩
      ·rintro(⟨_,h,_⟩|⟨h,h3⟩)
       ·exact absurd h aB
       ·exact⟨h,λe=>by simp[e] at h3⟩
     ·simp only[hr,h1,h2,aJ,decide_false,aS,aR,Bool.or_self,Bool.and_false];constructor
      ·intro h;exact .inr ⟨h,trivial⟩
      ·rintro(⟨_,h,_⟩|⟨h,_⟩)
       ·exact absurd h aB
       ·exact h
   ·simp only[hr,decide_false,aR,bP];constructor
    ·intro h;exact .inr ⟨h,trivial⟩
    ·rintro(⟨h,_⟩|⟨h,_⟩)
     ·exact absurd h aB
     ·exact h
  rw[hS];have hk:d∈IV race (y::l)↔((y.Kind=1/\y.Race=race/\∀o∈l,Jq o race y=false)/\d=y)\/d∈IV race l:=by
   rw[IV]
   split
   ·rename_i hc;simp only[bQ,aK,Bool.not_eq_true',List.any_eq_false,Bool.not_eq_true] at hc;rw[bB];constructor
    ·rintro(h|h)
     ·exact .inl ⟨⟨hc.1.1,hc.1.2,hc.2⟩,h⟩
     ·exact .inr h
    ·rintro(⟨_,h⟩|h)
     ·exact .inl h
     ·exact .inr h
   ·rename_i hc;simp only[bQ,aK,Bool.not_eq_true',List.any_eq_false,Bool.not_eq_true] at hc;constructor
    ·exact .inr
    ·rintro(⟨⟨h1,h2,h3⟩,_⟩|h)
     ·exact absurd ⟨⟨h1,h2⟩,h3⟩ hc
     ·exact h
  rw[hk];constructor
  ·rintro(h|⟨⟨h1,h2,h3⟩|⟨h1,h2⟩,h4⟩)
   ·exact .inl (.inr h)
   ·subst h3;exact .inl (.inl ⟨⟨h2,h1,h4⟩,rfl⟩)
   ·exact .inr ⟨h1,λo ho=>(bB.1 ho).elim (λe=>by rw[e];exact h2) (h4 o)⟩
  ·rintro((⟨⟨h1,h2,h3⟩,rfl⟩|h)|⟨h1,h2⟩)
   ·exact .inr ⟨.inl ⟨h2,h1,rfl⟩,h3⟩
   ·exact .inl h
   ·exact .inr ⟨.inr ⟨h1,h2 y aN⟩,λo ho=>h2 o (aM _ ho)⟩
theorem CI(l:List An)(race:ByteArray)(at_:Int)(hf:OB l)(hs:l.Pairwise λx y=>x.At<=y.At):Oa l race at_=some (Zw race (Gj l at_)):=by
 have hl:=hf.len;have hFl:(Gj l at_).length<=l.length:=(CF l at_).length_le;have hkl:=Ady race (Gj l at_);unfold Oa;rw[Adx l at_ hf hs];simp only[aG,Ga];have h:=Alr race (λx1=>Option.bind (Iy x1) λr2=>some r2) (Gj l at_) aA (Gj l at_) [] [] rfl (bU _);rw[aW,aZ] at h;rw[h,sortR_is (Abh race _) aA];simp only[aG]
 congr 1
 have ho:=entOk race (Gj l at_);have hnd:(((entM race (Gj l at_)).map (·.2)).map (·.Who)).Nodup:=by rw[Aba ho];exact ho.nd
 refine RM Aft SL _ _ (YX (Abh race _)) (VX race _) λd=>?_;rw[Aii];have hfold:=Aiw race (Gj l at_) [] aB d;constructor
 ·intro h;exact bD.2 ⟨(d.Who,d),hfold.2 (.inl h),rfl⟩
 ·intro h;obtain⟨p,hp,rfl⟩:=bD.1 h;have hw:=(ho.is p hp).1;have hpe:p=(p.2.Who,p.2):=by rw[←hw]
  rcases hfold.1 (by rw[←hpe];exact hp) with h1|⟨h1,_⟩
  ·exact h1
  ·cases h1
theorem Aea(F:List An)(race who:ByteArray):∀(is:List Nat),Uh F race who is=match (is.map fun(i:Nat)=>nth F (i:Int)).find? λd=>Zp d race who with|some d=>(d,true)|none=>(An.mk Ff 0 0 0 Ff Ff Ff 0 0 Ff 0,false)
 |[]=>rfl
 |i::is=>by
  rw[Uh,aY,List.find?_cons]
  cases Zp (nth F (i:Int)) race who with
  |true=>rfl
  |false=>exact Aea F race who is
theorem revI_map(F:List An):(FW F.length).map (fun(i:Nat)=>nth F (i:Int))=F.reverse:=by
 unfold FW;rw[List.map_reverse]
 congr 1
 apply List.ext_getElem?;intro i
 by_cases h:i<F.length
 ·simp[nth,h]
 ·simp[h]
theorem swM_snoc(race:ByteArray)(F:List An)(d:An):swM race (F++[d])=swS race (swM race F) d:=by unfold swM;rw[List.foldl_append];rfl
theorem swM_find(race who:ByteArray)(F:List An):Tw (swM race F) who=F.reverse.find? λd=>Zp d race who:=by
 induction hn:F.length generalizing F with
 |zero=>
  obtain rfl:=List.length_eq_zero_iff.1 hn;rfl
 |succ n ih=>
  obtain⟨G,d,rfl⟩:∃G d,F=G++[d]:=⟨F.dropLast,F.getLast (by intro e;rw[e] at hn;simp at hn),(List.dropLast_concat_getLast _).symm⟩;rw[swM_snoc,List.reverse_append,List.reverse_singleton,List.singleton_append,List.find?_cons];have hG:=ih G (by simp at hn;exact hn);have hq:Zp d race who=((decide (d.Kind=3) && decide (d.Race=race)) && decide (d.Who=who)):=rfl;have hput:∀v:An,Tw (Iv (swM race G) d.Who v) who=if who=d.Who then some v else Tw (swM race G) who:=λv=>NV d.Who who v (swM race G) 0;rw[hq];unfold swS
  by_cases h1:d.Race=race
  ·by_cases h2:d.Kind=3
   ·rw[aQ (by simp[h1,h2]),hput]
    by_cases h3:d.Who=who
    ·rw[aQ h3.symm];simp[h1,h2,h3]
    ·rw[aP λe=>h3 e.symm];simpa[h1,h2,h3] using hG
   ·rw[aP (by simp[h1,h2])];simpa[h1,h2] using hG
  ·rw[aP (by simp[h1])];simpa[h1] using hG
theorem Aix(l:List An)(race:ByteArray)(d:An)(at_:Int)(hf:OB l)(hs:l.Pairwise λx y=>x.At<=y.At):BC l race d.Who at_=some (svS race (Gj l at_) d,QF race (Gj l at_) d):=by
 unfold BC;rw[Adx l at_ hf hs];simp only[aG];rw[Aea,revI_map,←swM_find];unfold svS QF Gm
 cases Tw (swM race (Gj l at_)) d.Who<;>rfl
def Rk3(a b:Fj):Prop:=(0<a.Rank/\0<b.Rank/\Rk2 a b)\/(0<a.Rank/\b.Rank=0)\/(a.Rank=0/\b.Rank=0/\cB a.Who b.Who<0)
theorem Aiy(race:ByteArray)(F:List An):(Xu race F (Oy race F)).Pairwise λa b=>cB a.Who b.Who<0:=by
 unfold Xu;rw[List.pairwise_map];exact SN race F
theorem Aop(race:ByteArray)(F:List An):(((Xu race F (Oy race F)).filter (isG (YK race F))).map (mkR (YK race F))).Pairwise λa b=>cB a.Who b.Who<0:=by
 rw[List.pairwise_map];exact(Aiy race F).sublist List.filter_sublist
theorem Agb(race:ByteArray)(F:List An):(Zz race F).Pairwise Rk3:=by
 obtain⟨A,B⟩:=rkF_ok _ 0 0 0 (Ain (Aop race F)) (.inl rfl);unfold Zz RT;rw[bK];refine⟨?_,?_,λa ha b hb=>?_⟩
 ·refine List.Pairwise.imp_of_mem (λ{a b} ha hb hab=>.inl ⟨?_,?_,hab⟩) B
  ·have:=(A a ha).1;omega
  ·have:=(A b hb).1;omega
 ·rw[List.pairwise_map];exact((Aiy race F).sublist List.filter_sublist).imp λ{a b} hab=>.inr (.inr ⟨rfl,rfl,hab⟩)
 ·obtain⟨s,_,rfl⟩:=bD.1 hb;exact .inr (.inl ⟨by have:=(A a ha).1;omega,rfl⟩)
theorem OC(race:ByteArray)(F:List An):((Zz race F).map (·.Who)).Perm ((Oy race F).map (·.Who)):=by
 have e1:(Xu race F (Oy race F)).map (·.Who)=(Oy race F).map (·.Who):=by unfold Xu;rw[List.map_map];rfl
 unfold Zz RT;rw[List.map_append,Aol,←e1];have e2:∀l:List Fi,(l.map (mkR (YK race F))).map (·.Who)=l.map (·.Who):=λl=>by rw[List.map_map];rfl
 have p1:((Si UE (((Xu race F (Oy race F)).filter (isG (YK race F))).map (mkR (YK race F)))).map (·.Who)).Perm (((Xu race F (Oy race F)).filter (isG (YK race F))).map (·.Who)):=by
  rw[←e2];exact(TZ _ _).map _
 rw[e2];refine(p1.append_right _).trans ?_;rw[←List.map_append];exact(List.filter_append_perm _ _).map _
theorem JK(race:ByteArray)(F:List An):((Oy race F).map (·.Who)).Nodup:=List.pairwise_map.2 ((SN race F).imp λ{a b} h e=>by rw[e,Ut] at h;omega)
theorem Agc(race:ByteArray)(F:List An):((Zz race F).map (·.Who)).Nodup:=(OC race F).nodup_iff.2 (JK race F)
theorem Als(H:List An)(m:List (ByteArray×ByteArray))(w:ByteArray)(h:∀d∈H,d.Who≠w):Gm (Xr H m) w Ff=Gm m w Ff:=by
 unfold Xr
 induction H generalizing m with
 |nil=>rfl
 |cons v H ih=>
  rw[List.foldl_cons,ih _ λu hu=>h u (aM _ hu),CW,aP λe=>h v aN e.symm]
theorem OU(H:List An)(m:List (ByteArray×ByteArray))(d:An)(hd:d∈H)(hp:(H.map (·.Who)).Nodup):Gm (Xr H m) d.Who Ff=d.Club:=by
 induction H generalizing m with
 |nil=>cases hd
 |cons u H ih=>
  simp only[aY,bT] at hp;have e:Xr (u::H) m=Xr H (Iv m u.Who u.Club):=rfl;rw[e];rcases bB.1 hd with rfl|hd
  ·rw[Als H _ d.Who λz hz e=>hp.1 (by rw[←e];exact bJ hz),CW,aQ rfl]
  ·exact ih _ hd hp.2
def scS(C:List (ByteArray×ByteArray))(r:Fp)(y:Fj):Fd:=Fd.mk r.Key y.Who (Gm C y.Who Ff) y.Rank (decide (1<r.Legs))
theorem Abi(r:Fp)(r1:List Fj×List (ByteArray×ByteArray)×Int)(j:List Fd->Option (List Fo×Int)):∀(ys:List Fj) (i:Nat) (x:List Fd),x.length+ys.length<=1000->Ub r r1 j ys i x=j (x++ys.map (scS r1.2.1 r))
 |[],i,x,_=>by simp[Ub]
 |y::ys,i,x,h=>by
  simp only[aT] at h
  rw[Ub,Fm (by unfold Ja;exact aH aA),Abi r r1 j ys (i+1) _ aD]
  unfold scS
  simp
def Ox(r:Fp)(F:List An):List Fd:=(Zz r.Key F).map (scS (Xr (Oy r.Key F) []) r)
def ltRs(x y:Fd):Bool:=decide (Zj x y<0)
theorem Aqv(l:List Fd)(hl:l.length<=19):Gz l=some (Si ltRs l):=by
 have hs:Hb l 0 (l.length:Int)=some (Si ltRs l):=by
  unfold Hb;simp only[Ga];have hins:∀(k:List Fd->Option (List Fd)) (rp:List Fd) (x:Fd) (post:List Fd),((rp++x::post).length:Int)=(l.length:Int)->(∀y,y∈rp\/y=x\/y∈post->y∈(rp++x::post))->
   Gl 0 k (((rp.length:Int)-0).toNat+2) (rp.reverse++x::post) (rp.length:Int)=k ((AX ltRs x rp).reverse++post):=by
   intro k rp x post h1 _;exact Adk (λx y k=>k (ltRs x y)) ltRs k (Gl 0 k) (λ_ _ _=>rfl) rp x post _ aA (by simp at h1;omega) λy _ k'=>rfl
  cases l with
  |nil=>rfl
  |cons x l=>
   have hw:W (0+1)=(([x]:List Fd).length:Int):=rfl;rw[hw];exact SJ ltRs (λx=>some x) (λk x i=>Gl 0 k ((i-0).toNat+2) x i) (Hq ((x::l).length:Int) 0 λx=>some x) ((x::l).length:Int) (λ_ _ _=>rfl)
    (λk rp x post h1 h2=>hins k rp x post h1 h2) l [x] _ (by simp only[aT,aW];omega) (by simp only[aT,aW];omega) (by simp only[aT,aW] at hl ⊢;omega)
 unfold Gz Kj;simp only[Ga];rw[Ir,aP aD,hs];simp only[aG];rw[It,aP aD];rfl
def gvS(r:Fl):Fx:=Fx.mk ((r.x_.Race++Gy)++r.x_.Who) r.points_
def ofS(G:List Fx)(m:List (ByteArray×Fh)):List (ByteArray×Fh):=G.foldl (λm y=>Iv m y.Key y.Points) m
theorem Abj(j:List (ByteArray×Fh)->Option (List Fo×Int)):∀(G:List Fx) (i:Nat) (m:List (ByteArray×Fh)),Uc j G i m=j (ofS G m)
 |[],_,_=>rfl
 |y::G,i,m=>by rw[Uc,Abj j G (i+1) _];rfl
def ptS(m:List (ByteArray×Fh))(k:ByteArray):Fh:=if(Tw m k).isSome then Gm m k (Fh.mk 0 0) else Fh.mk 0 1
def TK(C:List (ByteArray×ByteArray))(m:List (ByteArray×Fh))(r:Fp)(y:Fj):Fo:=Fo.mk y.Rank y.Who (Gm C y.Who Ff) y.Time y.Fault (ptS m ((r.Key++Gy)++y.Who))
theorem Abk(r:Fp)(r1:List Fj×List (ByteArray×ByteArray)×Int)(m:List (ByteArray×Fh))(j:List Fo->Option (List Fo×Int))(hk:r.Key.size<=40):∀(ys:List Fj) (i:Nat) (x:List Fo),(∀y∈ys,y.Who.size<=40)->x.length+ys.length<=1000->Sd r r1 m j ys i x=j (x++ys.map (TK r1.2.1 m r))
 |[],i,x,_,_=>by simp[Sd]
 |y::ys,i,x,hw,h=>by
  simp only[aT] at h
  have h20:Gy.size=1:=by decide+kernel
  have hy:=hw y aN
  rw[Sd,Fm (aH aA),Fm (aH (by rw[ByteArray.size_append];omega))]
  simp only[Ga]
  have hroom:Ja x.length=true:=by unfold Ja;exact aH aA
  have hfin:=Abk r r1 m j hk ys (i+1) (x++[TK r1.2.1 m r y]) (λz hz=>hw z (aM _ hz)) aD
  have hl:TK r1.2.1 m r y=Fo.mk y.Rank y.Who (Gm r1.2.1 y.Who Ff) y.Time y.Fault (ptS m ((r.Key++Gy)++y.Who)):=rfl
  have hp:ptS m ((r.Key++Gy)++y.Who)=if(Tw m ((r.Key++Gy)++y.Who)).isSome then Gm m ((r.Key++Gy)++y.Who) (Fh.mk 0 0) else Fh.mk 0 1:=rfl
  cases hc:(Tw m ((r.Key++Gy)++y.Who)).isSome with
  |true=>
   rw[hc,aQ rfl] at hp
   rw[aP aB,Fm hroom]
   rw[hl,hp] at hfin
   rw[hfin,aY,hl,hp]
   simp
  |false=>
   rw[hc,aP aB] at hp
   rw[aQ aB,Fm hroom]
   rw[hl,hp] at hfin
   rw[hfin,aY,hl,hp]
   simp
end Go.Proofs.YthlielagemkjcaaGreatDoor
