/- Results of a race,with their points. Conditions: a right plan,right deeds with few names. No program stands here but its twins. -/
import Derived.Test.YtconmpkpdfidiaaGreatDoorPDeedNames
namespace Go.Proofs.YtconmpkpdfidiaaGreatDoor
open Go
theorem YW(P:List Ea)(v:Ea)(Q:List Ea):nth (P++v::Q) (P.length:Int)=v:=by unfold nth;simp
theorem YX(P:List Ea)(v u:Ea)(Q:List Ea):(P++v::Q).set P.length u=P++u::Q:=by simp
theorem revR_l(j:List Ea->Option (List Ea)):∀(k m:Nat) (A M B:List Ea),M.length<=k->M.length<m->A.length+M.length+B.length<=1000000->
 Kk j m (A++(M++B)) (A.length:Int) ((A.length:Int)+(M.length:Int)-1)=j (A++(M.reverse++B))
 |k,0,A,M,B,_,h,_=>by omega
 |k,m+1,A,M,B,hk,hm,hl=>by
  rw[Kk]
  match M,hk,hm,hl with
  |[],_,_,_=>rw[aP aD];rfl
  |[z],_,_,_=>rw[aP aB];rfl
  |a::z::M1,hk,hm,hl=>
   obtain⟨M2,b,hM⟩:∃M2 b,z::M1=M2++[b]:=by
    rcases List.eq_nil_or_concat (z::M1) with h|⟨M2,b,h⟩
    ·cases h
    ·exact⟨M2,b,by rw[h];simp⟩
   rw[hM] at hk hm hl ⊢;simp only[aT,aU,aW] at hk hm hl ⊢;have hlen:(A++(a::(M2++[b])++B)).length=A.length+M2.length+2+B.length:=by simp;omega
   have e3:(A.length:Int)+((M2.length+(0+1)+1:Nat):Int)-1=((A.length+M2.length+1:Nat):Int):=by omega
   rw[e3,aQ (aH aA)];have n2:nth (A++(a::(M2++[b])++B)) (A.length:Int)=a:=by rw[List.cons_append];exact YW _ _ _
   have h1:A++(a::(M2++[b])++B)=(A++a::M2)++b::B:=by simp
   have h2:(A++a::M2).length=A.length+M2.length+1:=by simp;omega
   have n3:nth (A++(a::(M2++[b])++B)) ((A.length+M2.length+1:Nat):Int)=b:=by
    rw[h1,←h2];exact YW _ _ _
   have hs:((A++(a::(M2++[b])++B)).set ((A.length:Int)).toNat b).set (((A.length+M2.length+1:Nat):Int)).toNat a=(A++[b])++(M2++(a::B)):=by
    rw[bI,bI];have q1:(A++(a::(M2++[b])++B)).set A.length b=(A++b::M2)++b::B:=by
     rw[List.cons_append,YX];simp
    have q2:(A++b::M2).length=A.length+M2.length+1:=by simp;omega
    rw[q1,←q2,YX];simp
   rw[Ei (Ih.2 aA),Ei (Ih.2 aA),Ei (Ih.2 aA),Ei (Ih.2 (by rw[List.length_set];omega)),n2,n3,hs,Nt aA aA,Nt aA aA];have ih:=revR_l j (k-2) m (A++[b]) M2 (a::B) aA aA aD;have e1:(((A++[b]).length:Nat):Int)=(A.length:Int)+1:=by simp
   rw[e1] at ih;have e2:(A.length:Int)+1+(M2.length:Int)-1=((A.length+M2.length+1:Nat):Int)-1:=by omega
   rw[e2] at ih;rw[ih];simp
theorem UV(l:List Ea)(hl:l.length<=1000000):Th l=some l.reverse:=by
 unfold Th;rw[Ic,Nt aA aA];have h:=revR_l (λx=>some x) l.length (((l.length:Int)-1-0).toNat+2) [] l [] (bU _) aA aD;simpa using h
theorem Aal{s:ByteArray}(h:s∈[Po,Yz,BE]):Gp s=some true:=by
 have key:∀s∈[Po,Yz,BE],Gp s=some true:=by decide+kernel
 exact key s h
section
variable {L:List Int}(hL:EU L)
include hL
theorem raceP_dr{a:Int}(h0:0<=a)(h1:a<=100000000)(key:ByteArray)(hk:key∈[Po,Yz,BE]):Dr a 7 (λr=>r.Key=key/\Mm r=some 0) (Te L a key):=by
 unfold Te;obtain⟨v1,b1,e1,g1,g2,q1⟩:=Qc hL h0 aA [50,100,200] aB aB;rw[e1];simp only[aG];obtain⟨v2,b2,e2,g3,g4,q2⟩:=Qc hL (a:=b1) aA aA [1,2,3,4] aB aB;rw[e2];simp only[aG];obtain⟨v3,b3,e3,gg5,g6,q3⟩:=Qc hL (a:=b2) aA aA [25,50] aB aB;rw[e3];simp only[aG];obtain⟨v4,b4,e4,g7,g8,q4⟩:=Qc hL (a:=b3) aA aA [1,1,1,4] aB aB;rw[e4];simp only[aG];obtain⟨v5,b5,e5,g9,g10,q5⟩:=Qc hL (a:=b4) aA aA [0,1,2] aB aB;rw[e5];simp only[aG];obtain⟨v6,b6,e6,g11,g12,q6⟩:=Qc hL (a:=b5) aA aA [0,0,5,10] aB aB;rw[e6];simp only[aG];obtain⟨v7,b7,e7,g13,g14,q7⟩:=Qc hL (a:=b6) aA aA [0,5,90] aB aB;rw[e7];simp only[aG];refine⟨_,_,rfl,by omega,by omega,rfl,?_⟩;simp only[bB,bM,or_false] at q1 q2 q3 q4 q5 q6 q7;have w:W (v6+v7)=v6+v7:=Nt aA aA;unfold Mm;simp only[Aal hk,aG,bN,aO,aR,Ic,w];have c1:((!(Ed v2 1 5))||(!(Ed v5 0 2)))=false:=by
  unfold Ed;simp;omega
 have c2:(((((((!decide (v3=25)) && (!decide (v3=50)))||(!(Ed v4 1 4)))||(!(Ed v1 25 1500)))||(decide (v6<0)))||(decide (v6+v7<v6)))||(decide (120<v6+v7)))=false:=by
  unfold Ed;simp;omega
 have c3:(!decide (v3=0))=true:=by simp;omega
 have c4:(!decide (Int.tmod v1 v3=0))=false:=by rcases q1 with rfl|rfl|rfl<;>rcases q3 with rfl|rfl<;>decide+kernel
 have c5:decide (v2=5)=false:=by simp;omega
 simp only[c1,c2,Ei c3,c4,c5,aO,aR,bP]
theorem OG:∀(ys:List ByteArray) (i:Nat) (x1:List Ea) (a:Int),0<=a->a+8*ys.length<=10000000->x1.length+ys.length<=1000->(∀y∈ys,y∈[Po,Yz,BE])->ys.Nodup->(∀x∈x1,(Mm x=some 0/\x.Key∈[Po,Yz,BE])/\x.Key∉ys)->(x1.map (·.Key)).Nodup->
 ∃x b,Ki L (λx a=>some (x,a)) ys i x1 a=some (x,b)/\a<=b/\b<=a+8*ys.length/\x.length<=x1.length+ys.length/\(∀z∈x,Mm z=some 0/\z.Key∈[Po,Yz,BE])/\(x.map (·.Key)).Nodup
 |[],i,x1,a,_,_,_,_,_,h5,h6=>⟨x1,a,rfl,Int.le_refl _,by simp,by simp,λz hz=>(h5 z hz).1,h6⟩
 |y::ys,i,x1,a,h0,h1,h2,h3,h4,h5,h6=>by
  rw[Ki]
  rw[bT] at h4
  simp only[aT] at h1 h2 ⊢
  obtain⟨f,b,e,g1,g2,_⟩:=CN hL h0 aA 6 aA
  rw[e];simp only[aG,Ic]
  cases f with
  |true=>
   rw[aP aB]
   obtain⟨x,c,e',g3,g4,gg5,g6,g7⟩:=OG ys (i+1) x1 b aA aA aA (λz hz=>h3 z (aM _ hz)) h4.2 (λx hx=>⟨(h5 x hx).1,λhz=>(h5 x hx).2 (aM _ hz)⟩) h6
   exact⟨x,c,e',by omega,by omega,by omega,g6,g7⟩
  |false=>
   rw[aQ aB]
   obtain⟨s,b2,e2,g3,g4,q1,q2⟩:=raceP_dr hL (a:=b) aA aA y (h3 y aN)
   rw[e2];simp only[aG]
   rw[Ei (by unfold Px;simp;omega)]
   obtain⟨x,c,e',g7,g8,g9,g10,g11⟩:=OG ys (i+1) (x1++[s]) b2 aA aA aD (λz hz=>h3 z (aM _ hz)) h4.2
    (λx hx=>by
     rcases bC.1 hx with h|h
     ·exact⟨(h5 x h).1,λhz=>(h5 x h).2 (aM _ hz)⟩
     ·rw[bA] at h;subst h;exact⟨⟨q2,by rw[q1];exact h3 y aN⟩,by rw[q1];exact h4.1⟩)
    (by
     rw[List.map_append,List.nodup_append]
     refine⟨h6,by simp,λu hu v hv=>?_⟩
     simp only[aY,List.map_nil,bA] at hv
     obtain⟨x,hx,rfl⟩:=bD.1 hu
     rw[hv,q1]
     rintro e
     exact(h5 x hx).2 (by rw[e];exact aN))
   simp only[aU,aX] at g9
   exact⟨x,c,e',by omega,by omega,by omega,g10,g11⟩
end
structure PlanG(p:Iq):Prop where
 few:p.Races.length<=3
 races:∀r∈p.Races,Mm r=some 0/\r.Key∈[Po,Yz,BE]
 keys:(p.Races.map (·.Key)).Nodup
 table:TGood p.Table
 final:Ut p.Final=0
theorem planP_dr{L:List Int}(hL:EU L){a:Int}(h0:0<=a)(h1:a<=50000):Dr a 37 PlanG (Vx L a):=by
 unfold Vx Si;simp only[Jb];obtain⟨x,b1,e1,p1,q1,x1,x2,x3⟩:=OG hL [Po,Yz,BE] 0 [] a h0 aD aB (λ_ h=>h) (by decide+kernel) (λ_ h=>by cases h) aB;simp only[aT,aW,Nat.zero_add] at q1 x1;rw[e1];simp only[aG];obtain⟨t,b2,e2,p2,q2,t1⟩:=UT hL (a:=b1) aA aA;rw[e2];simp only[aG];obtain⟨v3,b3,e3,p3,q3,m3,n3⟩:=AV hL (a:=b2) aA aA 1 3 aA aA aA;rw[e3];simp only[aG];obtain⟨v4,b4,e4,p4,q4,m4,n4⟩:=AV hL (a:=b3) aA aA 1 2 aA aA aA;rw[e4];simp only[aG];obtain⟨v5,b5,e5,p5,q5,m5,n5⟩:=AV hL (a:=b4) aA aA 0 2 aA aA aA;rw[e5];simp only[aG];rw[UV x aA];simp only[aG];refine⟨_,_,rfl,by omega,by push_cast at q1;omega,?_⟩;refine⟨by simp only[List.length_reverse];omega,λr hr=>x2 r (List.mem_reverse.1 hr),by rw[List.map_reverse];exact(List.reverse_perm _).nodup_iff.2 x3,t1,?_⟩;unfold Ut;rw[aP];simp only[Ed,Bool.not_and,Bool.or_eq_true,Bool.not_eq_true',aL];simp;omega
def RankOk(g:List Du):Prop:=∀a x b,g=a++x::b->0<x.Rank->x.Rank=(a.length:Int)+1\/∃d y,a=d++[y]/\y.Rank=x.Rank
structure GGd(race:ByteArray)(rel:Bool)(g:List Du):Prop where
 len:g.length<=5
 row:∀x∈g,x.Race=race/\x.Relay=rel/\x.Who∈fiveP/\x.Club∈YU/\0<=x.Rank/\x.Rank<=6
 asc:g.Pairwise λx y=>BK x y=true
 who:g.Pairwise λx y=>x.Who≠y.Who
 rank:RankOk g
structure LGd(Gs:List (List Du)):Prop where
 grp:∀g∈Gs,g≠[]/\∃race rel,race∈raceP/\GGd race rel g
 diff:Gs.Pairwise λg g'=>∀x∈g,∀y∈g',cB x.Race y.Race<0
 len:Gs.flatten.length<=15
theorem LGd.one{Gs:List (List Du)}(h:LGd Gs):∀g∈Gs,One g/\g.length<=5:=λg hg=>by
 obtain⟨h1,race,rel,_,h2⟩:=h.grp g hg
 exact⟨⟨h1,λx hx y hy=>by rw[(h2.row x hx).1,(h2.row y hy).1]⟩,h2.len⟩
theorem LGd.ne{Gs:List (List Du)}(h:LGd Gs):Gs.Pairwise λg g'=>∀x∈g,∀y∈g',x.Race≠y.Race:=
 h.diff.imp λhd x hx y hy e=>by have:=hd x hx y hy;rw[e,Uj] at this;omega
theorem LGd.row{Gs:List (List Du)}(h:LGd Gs):∀x∈Gs.flatten,x.Race∈raceP/\x.Who∈fiveP/\x.Club∈YU/\0<=x.Rank/\x.Rank<=6:=λx hx=>by
 obtain⟨g,hg,hx⟩:=List.mem_flatten.1 hx
 obtain⟨_,race,rel,hr,h2⟩:=h.grp g hg
 obtain⟨r1,_,r3,r4,r5⟩:=h2.row x hx
 exact⟨by rw[r1];exact hr,r3,r4,r5⟩
theorem LGd.asc{Gs:List (List Du)}(h:LGd Gs):Gs.flatten.Pairwise λx y=>BK x y=true:=by
 rw[List.pairwise_flatten];refine⟨λg hg=>?_,h.diff.imp λhd x hx y hy=>DJ.2 (.inl (hd x hx y hy))⟩;obtain⟨_,race,rel,_,h2⟩:=h.grp g hg;exact h2.asc
theorem LGd.who{Gs:List (List Du)}(h:LGd Gs):Gs.flatten.Pairwise λx y=>¬(x.Race=y.Race/\x.Who=y.Who):=by
 rw[List.pairwise_flatten];refine⟨λg hg=>?_,h.ne.imp λhd x hx y hy e=>hd x hx y hy e.1⟩;obtain⟨_,race,rel,_,h2⟩:=h.grp g hg;exact h2.who.imp λhne e=>hne e.2
theorem SO{α:Type}[Inhabited α]{l:List α}{i s:Int}{v:α}(hi0:0<=i)(hi:i<l.length)(hs0:0<=s):nth (l.set i.toNat v) s=if s=i then v else nth l s:=by
 unfold nth;rw[List.getD_eq_getElem?_getD,List.getD_eq_getElem?_getD,List.getElem?_set]
 by_cases h:s=i
 ·subst h;rw[aQ rfl,aQ rfl,aQ aA];rfl
 ·rw[aP h,aP aA]
theorem SP:∀(l:List Dw) (i:Nat) (pt pr:Int) (z:Dw),z∈rkF i pt pr l->∃x∈l,z.Who=x.Who/\z.Time=x.Time/\z.Fault=x.Fault
 |[],_,_,_,_,h=>by cases h
 |x::xs,i,pt,pr,z,h=>by
  rw[rkF] at h
  rcases bB.1 h with rfl|h
  ·exact⟨x,aN,rfl,rfl,rfl⟩
  ·obtain⟨y,hy,e⟩:=SP xs _ _ _ z h
   exact⟨y,aM _ hy,e⟩
theorem YY:∀(l:List Dw) (i:Nat) (pt pr:Int),(rkF i pt pr l).map (·.Who)=l.map (·.Who)
 |[],_,_,_=>rfl
 |x::xs,i,pt,pr=>by simp only[rkF,aY,YY xs]
def Rk2(a b:Dw):Prop:=a.Time<=b.Time/\a.Rank<=b.Rank/\(a.Rank=b.Rank↔a.Time=b.Time)/\(a.Time=b.Time->cB a.Who b.Who<0)
theorem rkF_ok:∀(l:List Dw) (i:Nat) (pt pr:Int),l.Pairwise (λa b=>IS a b=true)->(i=0\/(1<=pr/\pr<=(i:Int)/\∀x∈l,pt<=x.Time))->
 (∀z∈rkF i pt pr l,1<=z.Rank/\z.Rank<=(i:Int)+l.length/\(i=0\/(pt<=z.Time/\pr<=z.Rank/\(z.Rank=pr↔z.Time=pt))))/\(rkF i pt pr l).Pairwise Rk2
 |[],_,_,_,_,_=>⟨λz h=>absurd h (by simp[rkF]),by simp[rkF]⟩
 |x::xs,i,pt,pr,hp,hi=>by
  rw[List.pairwise_cons] at hp
  have hle:∀y∈xs,x.Time<=y.Time/\(x.Time=y.Time->cB x.Who y.Who<0):=λy hy=>by
   have:=GE.1 (hp.1 y hy)
   omega
  have hx:i=0\/pt<=x.Time:=hi.imp id λh=>h.2.2 x aN
  generalize hr:(if decide (0<(i:Int)) && decide (x.Time=pt) then pr else(i:Int)+1)=r
  have hr':rkF i pt pr (x::xs)=Dw.mk x.Who r x.Time x.Fault::rkF (i+1) x.Time r xs:=by rw[rkF];simp only[hr]
  have hrr:(0<i/\x.Time=pt/\r=pr)\/(r=(i:Int)+1/\(i=0\/x.Time≠pt)):=by
   rw[←hr]
   by_cases h:0<i
   ·by_cases h2:x.Time=pt
    ·left;rw[aQ (by simp[h,h2])];exact⟨h,h2,rfl⟩
    ·right;rw[aP (by simp[h2])];exact⟨rfl,.inr h2⟩
   ·right;rw[aP aD];exact⟨rfl,.inl aA⟩
  have hr1:1<=r/\r<=(i:Int)+1:=by
   rcases hrr with ⟨h1,_,h3⟩|⟨h1,_⟩
   ·rcases hi with h|⟨h4,h5,_⟩<;>omega
   ·omega
  obtain⟨A,B⟩:=rkF_ok xs (i+1) x.Time r hp.2 (.inr ⟨hr1.1,by push_cast;omega,λy hy=>(hle y hy).1⟩);rw[hr'];refine⟨λz hz=>?_,List.pairwise_cons.2 ⟨λz hz=>?_,B⟩⟩
  ·rcases bB.1 hz with rfl|hz
   ·refine⟨hr1.1,by simp only[aT];push_cast;omega,?_⟩;rcases hi with h|⟨h4,h5,h6⟩
    ·exact .inl h
    ·right;have:=h6 x aN;simp only;rcases hrr with ⟨h1,h2,h3⟩|⟨h1,h2⟩<;>omega
   ·obtain⟨a1,a2,a3⟩:=A z hz;refine⟨a1,by simp only[aT];push_cast at a2 ⊢;omega,?_⟩;rcases hi with h|⟨h4,h5,h6⟩
    ·exact .inl h
    ·right;have:=h6 x aN;rcases a3 with a3|⟨a3,a4,a5⟩
     ·omega
     ·rcases hrr with ⟨h1,h2,h3⟩|⟨h1,h2⟩<;>omega
  ·obtain⟨a1,a2,a3⟩:=A z hz;obtain⟨y,hy,y1,y2,_⟩:=SP xs _ _ _ z hz;obtain⟨l1,l2⟩:=hle y hy;rcases a3 with a3|⟨a3,a4,a5⟩
   ·omega
   ·refine⟨by simp only;omega,by simp only;omega,by simp only;omega,?_⟩;simp only;rw[y1];intro e;exact l2 aA
def swS(race:ByteArray)(m:List (ByteArray×Dt))(y:Dt):List (ByteArray×Dt):=if decide (y.Race=race) && decide (y.Kind=3) then Hp m y.Who y else m
def swM(race:ByteArray)(l:List Dt):List (ByteArray×Dt):=l.foldl (swS race) []
theorem WQ(race:ByteArray):∀(ys:List Dt) (i:Nat) (m:List (ByteArray×Dt)),Rh race (λx=>x) ys i m=ys.foldl (swS race) m
 |[],_,m=>rfl
 |y::ys,i,m=>by
  rw[Rh]
  simp only[Jb,List.foldl_cons]
  unfold swS
  cases hc:(decide (y.Race=race) && decide (y.Kind=3)) with
  |true=>rw[aQ rfl,aQ rfl];exact WQ race ys (i+1) _
  |false=>rw[aP aB,aP aB];exact WQ race ys (i+1) _
theorem swum_is(p:Iq)(l:List Dt)(race:ByteArray):Kh p l race=swM race l:=by
 unfold Kh;rw[Jb];exact WQ race l 0 []
theorem YZ{race:ByteArray}{l:List Dt}{w:ByteArray}{y:Dt}(h:Vi (swM race l) w=some y):y∈l/\y.Kind=3/\y.Race=race/\y.Who=w:=by
 have key:∀(ys:List Dt) (m:List (ByteArray×Dt)),(∀z∈ys,z∈l)->(∀w y,Vi m w=some y->y∈l/\y.Kind=3/\y.Race=race/\y.Who=w)->∀w y,Vi (ys.foldl (swS race) m) w=some y->y∈l/\y.Kind=3/\y.Race=race/\y.Who=w:=by
  intro ys
  induction ys with
  |nil=>intro m _ h;exact h
  |cons z ys ih=>
   intro m hz hm;rw[List.foldl_cons];refine ih _ (λu hu=>hz u (aM _ hu)) λw y hy=>?_;unfold swS at hy
   split at hy
   ·rename_i hc;simp only[bQ,aK] at hc;have e:Vi (Hp m z.Who z) w=if w=z.Who then some z else Vi m w:=DE z.Who w z m 0;rw[e] at hy
    split at hy
    ·rename_i hw;obtain rfl:=bH hy;exact⟨hz z aN,hc.2,hc.1,hw.symm⟩
    ·exact hm w y hy
   ·exact hm w y hy
 exact key l [] (λ_ h=>h) (λw y h=>by simp[Vi,Rd] at h) w y h
structure FG(F:List Dt):Prop where
 ok:∀d∈F,DG d/\d.Who∈KZ/\d.Club∈CO
 len:F.length<=40
theorem OH{α:Type}[DecidableEq α]:∀(l l':List α),l.Nodup->(∀x∈l,x∈l')->l.length<=l'.length
 |[],_,_,_=>Nat.zero_le _
 |x::l,l',h,hm=>by
  rw[bT] at h
  have hx:=hm x aN
  have:=OH l (l'.erase x) h.2 λy hy=>(List.mem_erase_of_ne (λe=>h.1 (by rw[←e];exact hy))).2 (hm y (aM _ hy))
  rw[List.length_erase_of_mem hx] at this
  have:=List.length_pos_of_mem hx
  simp only[aT]
  omega
def D0:Dt:=Dt.mk An 0 0 0 An An An 0 0 An 0
def MC(race:ByteArray)(F:List Dt)(d:Dt):Bool:=(Vi (swM race F) d.Who).isSome
def svS(race:ByteArray)(F:List Dt)(d:Dt):Dt:=Eh (swM race F) d.Who D0
def Oz(race:ByteArray)(F:List Dt):List Dt:=(DI race F).filter (MC race F)
def Ur(race:ByteArray)(F:List Dt)(H:List Dt):List Jn:=H.map λd=>Jn.mk d.Who (svS race F d).Time
def DK(race:ByteArray)(F:List Dt)(H:List Dt):List Jg:=(H.filter λd=>decide (0<(svS race F d).Fault)).map λd=>Jg.mk d.Who (svS race F d).Fault []
def Um(H:List Dt)(m:List (ByteArray×ByteArray)):List (ByteArray×ByteArray):=H.foldl (λm d=>Hp m d.Who d.Club) m
theorem HD(p:Iq)(F:List Dt)(race:ByteArray)(j:List Jg->List Jn->List (ByteArray×ByteArray)->Option (List Dw×List (ByteArray×ByteArray)×Int)):∀(ys:List Dt) (i:Nat) (v:List Jg) (q:List Jn) (c:List (ByteArray×ByteArray)),v.length+ys.length<=1000->q.length+ys.length<=1000->
 Oh p F race j ys i v q c=j (v++DK race F (ys.filter (MC race F))) (q++Ur race F (ys.filter (MC race F))) (Um (ys.filter (MC race F)) c)
 |[],i,v,q,c,_,_=>by simp[Oh,DK,Ur,Um]
 |y::ys,i,v,q,c,h1,h2=>by
  simp only[aT] at h1 h2
  rw[Oh]
  simp only[Jb,swum_is]
  have hh:MC race F y=(Vi (swM race F) y.Who).isSome:=rfl
  have hs:Eh (swM race F) y.Who (Dt.mk An 0 0 0 An An An 0 0 An 0)=svS race F y:=rfl
  rw[hs]
  cases hc:(Vi (swM race F) y.Who).isSome with
  |false=>
   rw[aQ aB,bS (by rw[hh,hc];simp)]
   exact HD p F race j ys (i+1) v q c aA aA
  |true=>
   rw[aP aB,Ei (by unfold Px;exact aH aA),bR (by rw[hh,hc])]
   by_cases hf:0<(svS race F y).Fault
   ·rw[aQ (aH hf),Ei (by unfold Px;exact aH aA),HD p F race j ys (i+1) _ _ _ aD aD]
    unfold DK Ur Um
    rw[bR (by simpa using hf)]
    simp
   ·rw[aP (by simpa using hf),HD p F race j ys (i+1) v _ _ aA aD]
    unfold DK Ur Um
    rw[bS (by simpa using hf)]
    simp
theorem HE(race:ByteArray)(F:List Dt):(Oz race F).Pairwise λa b=>cB a.Who b.Who<0:=((SI race F).sublist List.filter_sublist).imp λ{a b} h=>by
 rw[KV,aK] at h
 exact h
def ME(race:ByteArray)(F:List Dt)(w:ByteArray):Int:=Eh (CB (DK race F (Oz race F)) []) w 0
theorem QO(V:List Jg)(m:List (ByteArray×Int))(w:ByteArray)(h:∀v∈V,v.Who≠w):Eh (CB V m) w 0=Eh m w 0:=by
 unfold CB
 induction V generalizing m with
 |nil=>rfl
 |cons v V ih=>
  rw[List.foldl_cons,ih _ λu hu=>h u (aM _ hu),Ya,aP λe=>h v aN e.symm]
theorem Aam(V:List Jg)(m:List (ByteArray×Int))(v:Jg)(hv:v∈V)(hp:(V.map (·.Who)).Nodup):Eh (CB V m) v.Who 0=v.Fault:=by
 induction V generalizing m with
 |nil=>cases hv
 |cons u V ih=>
  simp only[aY,bT] at hp;have e:CB (u::V) m=CB V (Hp m u.Who u.Fault):=rfl;rw[e];rcases bB.1 hv with rfl|hv
  ·rw[QO V _ v.Who λz hz e=>hp.1 (by rw[←e];exact bJ hz),Ya,aQ rfl]
  ·exact ih _ hv hp.2
def Wh(race:ByteArray)(F:List Dt):List Dw:=GF (ME race F) (Ur race F (Oz race F))
theorem cB_nn{s t u:ByteArray}(h1:¬cB s t<0)(h2:¬cB t u<0):¬cB s u<0:=by
 intro h;have f1:=AK s t;have f2:=AK t u
 by_cases e:cB t u=0
 ·rw[EI e] at h1;exact h1 h
 ·have:=Yr h (show cB u t<0 by omega);omega
section
variable {α:Type}[Inhabited α]{f:α->ByteArray}{c:α->α->Int}(hc:∀x y,c x y=cB (f x) (f y))
omit [Inhabited α] in
theorem WR{l:List α}(h:(l.map f).Nodup){x y:α}(hx:x∈l)(hy:y∈l)(e:f x=f y):x=y:=by
 induction l with
 |nil=>cases hx
 |cons a l ih=>
  simp only[aY,bT] at h;rcases bB.1 hx with hx1|hx1<;>rcases bB.1 hy with hy1|hy1
  ·rw[hx1,hy1]
  ·exact(h.1 (by rw[←hx1,e];exact bJ hy1)).elim
  ·exact(h.1 (by rw[←hy1,←e];exact bJ hx1)).elim
  ·exact ih h.2 hx1 hy1
include hc
theorem QP{l:List α}(h:(l.map f).Nodup):IY c l:=by
 refine⟨λx _=>by rw[hc,Uj];omega,λx _ y _ z _ h1 h2=>by rw[hc] at*;exact Yr h1 h2,λx _ y _ z _ h1 h2=>by rw[hc] at*;exact cB_nn h1 h2,λx hx y hy h1 h2=>?_⟩;rw[hc] at h1 h2;have:=AK (f x) (f y);exact WR h hx hy (EI aA)
omit [Inhabited α] in
theorem OI{l:List α}(h:(l.map f).Nodup):Qd c l=Sa (λx y=>decide (c x y<0)) l:=by
 have hp:(Qd c l).Perm l:=List.mergeSort_perm _ _;have tot:∀{l:List α},(l.map f).Nodup->l.Pairwise λa b=>decide (c b a<0)=false->decide (c a b<0)=true:=λ{l} h=>(List.pairwise_map.1 h).imp λ{a b} hne hb=>by
  rw[hc,aL] at hb;rw[hc,aK];have h0:cB (f a) (f b)≠0:=λe=>hne (EI e);have:=AK (f a) (f b);omega
 refine(JW (λx=>by rw[hc,Uj];rfl) (λx y z h1 h2=>by rw[hc,aK] at*;exact Yr h1 h2) _ _ (tot h) ?_ λx=>hp.mem_iff.symm).symm;have hs:(Qd c l).Pairwise λx y=>(!decide (c y x<0))=true:=List.pairwise_mergeSort (λa b d h1 h2=>by
  simp only[Bool.not_eq_true',aL,hc] at h1 h2 ⊢;exact cB_nn h2 h1) (λa b=>by
  have:=AK (f a) (f b);simp only[hc]
  by_cases h1:cB (f b) (f a)<0
  ·have:¬cB (f a) (f b)<0:=by omega
   simp[this]
  ·simp[h1]) _
 exact(hs.and (tot ((hp.map _).nodup_iff.2 h))).imp λ{a b} hab=>hab.2 (by simpa using hab.1)
end
theorem sortE_is{l:List Dt}(h:(l.map (·.Who)).Nodup)(hl:l.length<=1000000):La l=some (Sa ltW l):=by
 unfold La;rw[aQ ⟨QP (f:=Dt.Who) (λ_ _=>rfl) h,by omega⟩];exact congrArg some (OI (f:=Dt.Who) (λ_ _=>rfl) h)
theorem sortR_is{l:List Dt}(h:(l.map (·.Who)).Nodup)(hl:l.length<=1000000):Iz l=some (Sa ltW l):=by
 unfold Iz;rw[aQ ⟨QP (f:=Dt.Who) (λ_ _=>rfl) h,by omega⟩];exact congrArg some (OI (f:=Dt.Who) (λ_ _=>rfl) h)
theorem CP(p:Iq)(l:List Dt)(race:ByteArray)(hl:l.length<=100000):Tp p l race=some (DI race l):=by
 have ho:=YO race l;have hml:=JZ race l;unfold Tp;simp only[Jb];rw[BW];refine allP_is λq hq=>?_;have hql:q.length=(PA race l).length:=hq.length_eq;have hnd:(((PA race l).map (·.2)).map (·.Who)).Nodup:=by rw[NZ ho];exact ho.nd
 have hp:(q.map (·.2)).Perm ((PA race l).map (·.2)):=hq.map _;have hqn:=(hp.map (·.Who)).nodup_iff.2 hnd;rw[NY _ q [] aD,aZ,sortE_is hqn (by rw[aV];omega)];simp only[aG]
 congr 1
 exact JW YI HB _ _ (MN hqn) (HA HB _ (MN hnd)) λx=>by rw[hp.mem_iff];exact(BN _ _ _).symm
theorem KA(P:List Dt)(hl:P.length<=100000)(h4:∀a∈P,a.Kind≠4)(i:Nat)(self:Int->List Dt->Option Bool):
 ∀(d m j:Nat),P.length=j+d->d<m->Hq P (i:Int) self (some true) m (j:Int)=some true
 |d,0,j,_,h=>by omega
 |0,m+1,j,h,_=>by rw[Hq,aP aD]
 |d+1,m+1,j,h,hm=>by
  have ih:=KA P hl h4 i self d m (j+1) aA aA
  have bj:inB (j:Int) P.length=true:=Ih.2 aA
  have hk:=h4 _ (List.mem_of_getElem? (Eb bj).1)
  have hw:W ((j:Int)+1)=((j+1:Nat):Int):=by rw[Nt aA aA];rfl
  rw[Hq,aQ (aH (by omega:(j:Int)<(P.length:Int)))]
  simp only[Jb,hw,Ei bj,ih]
  rw[aP (by simpa using hk)]
  simp
theorem QQ(at_:Int):∀(P:List Dt),(∀a∈P,a.Kind≠4)->∀e,Xf at_ P e=false
 |[],_,_=>rfl
 |z::P,h,e=>by
  have h1:=h z aN
  rw[Xf,QQ at_ P (λq hq=>h q (aM _ hq)) e,aI h1]
  simp
theorem QR(P:List Dt)(hl:P.length<=100000)(h4:∀a∈P,a.Kind≠4)(j:List Int->Option (List Int)):∀(d m i:Nat) (x:List Int),P.length=i+d->d<m->x.length<=i->Im P j m x (i:Int)=j (x++(List.range' i d).map fun(k:Nat)=>(k:Int))
 |d,0,i,x,_,h,_=>by omega
 |0,m+1,i,x,h,_,_=>by
  rw[Im,aP aD]
  simp
 |d+1,m+1,i,x,h,hm,hx=>by
  have hw:W ((i:Int)+1)=((i+1:Nat):Int):=by rw[Nt aA aA];rfl
  rw[Im,aQ (aH (by omega:(i:Int)<(P.length:Int)))]
  simp only[Jb,hw]
  have hc:Je 16 (i:Int) P=some true:=by
   unfold Je Qk;rw[Jb,hw];exact KA P hl h4 i _ (P.length-(i+1)) _ (i+1) aA aA
  rw[hc,List.range'_succ];simp only[aG,aS];rw[Ei (by unfold Px;exact aH aA),QR P hl h4 j d m (i+1) _ aA aA aD];simp
def IT(l:List Dt):Prop:=l.length<=16\/(l.length<=1000/\∀a∈l,a.Kind≠4)
theorem IT.len{l:List Dt}(h:IT l):l.length<=1000:=by
 rcases h with h|h
 ·omega
 ·exact h.1
theorem SQ(l:List Dt)(at_:Int)(hf:IT l)(hs:l.Pairwise λx y=>x.At<=y.At):Qa l at_=some ((NW l at_).map fun(i:Nat)=>(i:Int)):=by
 rcases hf with hl|⟨hl,h4⟩
 ·obtain⟨r,h1,h2⟩:=PB l at_ hl hs;rw[GC l at_ aA] at h1;rw[h2,←h1]
 ·obtain⟨A,Q,e,h1,h2⟩:=KY at_ l hs;have hflt:(l.filter λy=>decide (y.At<=at_))=A:=by
   rw[e,List.filter_append,List.filter_eq_self.2 λa ha=>aH (h1 a ha),List.filter_eq_nil_iff.2 λq hq=>by have:=h2 q hq;simp;omega,List.append_nil]
  have hAl:A.length<=l.length:=by rw[e];simp
  unfold Qa;simp only[Jb];rw[EL at_ _ l 0 [] aD,aZ,hflt];have h3:=QR A aA (λa ha=>h4 a (by rw[e];exact List.mem_append_left _ ha)) (λx4=>some x4) A.length (((A.length:Int)-0).toNat+2) 0 [] aA aA aB;rw[aZ] at h3;refine Eq.trans h3 ?_;rw[SJ,←List.range_eq_range']
  congr 2
  have hlen:l.length=A.length+Q.length:=by rw[e];simp
  rw[hlen,List.range_add,List.filter_append];have hu:∀k e,Xf at_ (l.drop k) e=false:=λk e=>QQ at_ _ (λa ha=>h4 a (List.mem_of_mem_drop ha)) e;have hat:∀k:Nat,okB at_ l k=decide ((nth l (k:Int)).At<=at_):=λk=>by unfold okB;rw[hu];simp
  have hq:(List.map (λx=>A.length+x) (List.range Q.length)).filter (okB at_ l)=[]:=by
   rw[List.filter_eq_nil_iff];intro k hk;obtain⟨q,hq,rfl⟩:=bD.1 hk;rw[List.mem_range] at hq;have hn:nth l ((A.length+q:Nat):Int)=Q[q]:=by
    rw[e];unfold nth;rw[bI];simp[List.getD,List.getElem?_append_right,List.getElem?_eq_getElem hq]
   have:=h2 _ (List.getElem_mem hq);rw[hat,hn];simp;omega
  have ha:(List.range A.length).filter (okB at_ l)=List.range A.length:=by
   rw[List.filter_eq_self];intro k hk;rw[List.mem_range] at hk;have hn:nth l (k:Int)=A[k]:=by
    rw[e];unfold nth;rw[bI];simp[List.getD,List.getElem?_append_left hk,List.getElem?_eq_getElem hk]
   have:=h1 _ (List.getElem_mem hk);rw[hat,hn];simpa using this
  rw[hq,ha,List.append_nil]
theorem ZA(l:List Dt)(j:List Dt->Option (List Dt)):∀(is:List Nat) (k:Nat) (x:List Dt),(∀i∈is,i<l.length)->x.length+is.length<=1000000->
 Mu l j (is.map fun(i:Nat)=>(i:Int)) k x=j (x++is.map fun(i:Nat)=>nth l (i:Int))
 |[],k,x,_,_=>by simp[Mu]
 |i::is,k,x,h,hl=>by
  simp only[aT] at hl
  rw[aY,Mu,Ei (Ih.2 (by have:=h i aN;omega)),Ei (by unfold Px;exact aH aA),ZA l j is (k+1) _ (λz hz=>h z (aM _ hz)) aD]
  simp
theorem QS(l:List Dt)(at_:Int)(hf:IT l)(hs:l.Pairwise λx y=>x.At<=y.At):Wb l at_=some (Ku l at_):=by
 unfold Wb;rw[SQ l at_ hf hs];simp only[aG,Jb];have hl:=hf.len;have hc:(NW l at_).length<=l.length:=by rw[SJ];exact Nat.le_trans (List.length_filter_le _ _) aB
 rw[ZA l _ _ 0 [] (λi hi=>YL hi) aD,aZ,NX]
theorem idxE_l(race:ByteArray)(d:Dt):∀(l:List Dt) (i:Nat),decide (0<=Fz race d (-1) l i)=l.any λo=>Jw o race d
 |[],i=>rfl
 |y::l,i=>by
  rw[Fz,List.any_cons]
  by_cases h:Jw y race d=true
  ·rw[aQ h,h];simp
  ·rw[aP h,idxE_l race d l (i+1)]
   simp[h]
def BA(race:ByteArray):List Dt->List Dt
 |[]=>[]
 |d::l=>if(decide (d.Kind=1) && decide (d.Race=race)) && !(l.any λo=>Jw o race d) then d::BA race l else BA race l
theorem QT(race:ByteArray):∀l:List Dt,(BA race l).length<=l.length
 |[]=>bU _
 |d::l=>by
  have:=QT race l
  unfold BA
  split
  ·simp only[aT];omega
  ·simp only[aT];omega
theorem WS(race:ByteArray)(j:List Dt->Option (List Dt))(F:List Dt)(hF:F.length<=100000):∀(ys dn x:List Dt),F=dn++ys->x.length<=dn.length->Ll F race j ys dn.length x=j (x++BA race ys)
 |[],dn,x,_,_=>by simp[Ll,BA]
 |y::ys,dn,x,h,hx=>by
  have hlen:F.length=dn.length+(ys.length+1):=by rw[h];simp
  have hw:W ((dn.length:Int)+1)=((dn.length+1:Nat):Int):=by rw[Nt aA aA];rfl
  have hcut:cut F ((dn.length+1:Nat):Int) (F.length:Int)=ys:=by
   unfold cut;rw[bI,bI,List.take_length,h];have:dn++y::ys=(dn++[y])++ys:=by simp
   rw[this,List.drop_left' aB]
  have hc:Hf ys race y=ys.any λo=>Jw o race y:=by
   unfold Hf Mc;rw[Jb,idxE_l]
  rw[Ll];simp only[Jb,hw];rw[Ei (Wp.2 aA),hcut,hc,BA];have e:F=(dn++[y])++ys:=by rw[h];simp
  by_cases hk:((decide (y.Kind=1) && decide (y.Race=race)) && !(ys.any λo=>Jw o race y))=true
  ·rw[aQ hk,aQ hk,Ei (by unfold Px;exact aH aA)];have ih:=WS race j F hF ys (dn++[y]) (x++[y]) e aD;rw[aU,aX] at ih;rw[ih];simp
  ·rw[aP hk,aP hk];have ih:=WS race j F hF ys (dn++[y]) x e aD;rw[aU,aX] at ih;exact ih
theorem LA{race:ByteArray}:∀{l:List Dt} {d:Dt},d∈BA race l->d.Kind=1/\d.Race=race/\d∈l
 |x::l,d,h=>by
  unfold BA at h
  split at h
  ·rename_i hk
   simp only[bQ,aK] at hk
   rcases bB.1 h with rfl|h
   ·exact⟨hk.1.1,hk.1.2,aN⟩
   ·obtain⟨a,b,c⟩:=LA h
    exact⟨a,b,aM _ c⟩
  ·obtain⟨a,b,c⟩:=LA h
   exact⟨a,b,aM _ c⟩
theorem OJ(race:ByteArray):∀l:List Dt,((BA race l).map (·.Who)).Nodup
 |[]=>List.nodup_nil
 |d::l=>by
  have ih:=OJ race l
  unfold BA
  split
  ·rename_i hk
   simp only[bQ,Bool.not_eq_true',List.any_eq_false] at hk
   rw[aY,bT]
   refine⟨λhm=>?_,ih⟩
   obtain⟨o,ho,e⟩:=bD.1 hm
   obtain⟨a,b,c⟩:=LA ho
   refine hk.2 o c ?_
   unfold Jw
   simp[a,b,e]
  ·exact ih
theorem UW{ν:Type}(k:ByteArray):∀(m:List (ByteArray×ν)),(m.map (·.1)).Nodup->∀p,p∈CR m k↔p∈m/\p.1≠k
 |[],_,p=>by simp[CR]
 |(q,v)::m,h,p=>by
  simp only[aY,bT] at h
  rw[CR]
  by_cases e:k=q
  ·rw[aQ e]
   constructor
   ·intro hp
    exact⟨aM _ hp,λe'=>h.1 (by rw[←e,←e'];exact bJ hp)⟩
   ·rintro⟨hp,hn⟩
    rcases bB.1 hp with rfl|hp
    ·exact absurd e.symm hn
    ·exact hp
  ·rw[aP e,bB,UW k m h.2 p,bB]
   constructor
   ·rintro(rfl|⟨h1,h2⟩)
    ·exact⟨.inl rfl,λh=>e h.symm⟩
    ·exact⟨.inr h1,h2⟩
   ·rintro⟨rfl|h1,h2⟩
    ·exact .inl rfl
    ·exact .inr ⟨h1,h2⟩
theorem QU{ν:Type}(k:ByteArray)(v:ν):∀(m:List (ByteArray×ν)),(m.map (·.1)).Nodup->∀p,p∈Hp m k v↔p=(k,v)\/(p∈m/\p.1≠k)
 |[],_,p=>by simp[Hp]
 |(q,u)::m,h,p=>by
  simp only[aY,bT] at h
  rw[Hp]
  by_cases e:k=q
  ·rw[aQ e,bB]
   constructor
   ·rintro(h1|h1)
    ·exact .inl h1
    ·exact .inr ⟨aM _ h1,λe'=>h.1 (by rw[←e,←e'];exact bJ h1)⟩
   ·rintro(h1|⟨h1,h2⟩)
    ·exact .inl h1
    ·rcases bB.1 h1 with rfl|h1
     ·exact absurd e.symm h2
     ·exact .inr h1
  ·rw[aP e,bB,QU k v m h.2 p,bB]
   constructor
   ·rintro(rfl|h1|⟨h1,h2⟩)
    ·exact .inr ⟨.inl rfl,λh=>e h.symm⟩
    ·exact .inl h1
    ·exact .inr ⟨.inr h1,h2⟩
   ·rintro(h1|⟨rfl|h1,h2⟩)
    ·exact .inr (.inl h1)
    ·exact .inl rfl
    ·exact .inr (.inr ⟨h1,h2⟩)
theorem entS_nd(race:ByteArray)(m:List (ByteArray×Dt))(y:Dt)(h:(m.map (·.1)).Nodup):((JY race m y).map (·.1)).Nodup:=by
 unfold JY
 split
 ·split
  ·exact(MO y.Who y m h).1
  ·split
   ·exact h.sublist ((GD y.Who m).map _)
   ·exact h
 ·exact h
theorem UX(race:ByteArray):∀(l:List Dt) (m:List (ByteArray×Dt)),(m.map (·.1)).Nodup->∀d:Dt,(d.Who,d)∈l.foldl (JY race) m↔d∈BA race l\/((d.Who,d)∈m/\∀o∈l,Jw o race d=false)
 |[],m,_,d=>by simp[BA]
 |y::l,m,hm,d=>by
  rw[List.foldl_cons,UX race l _ (entS_nd race m y hm) d]
  have hy:Jw y race d=((decide (y.Race=race) && decide (y.Who=d.Who)) && (decide (y.Kind=1)||decide (y.Kind=2))):=rfl
  have hS:(d.Who,d)∈JY race m y↔(y.Race=race/\y.Kind=1/\d=y)\/((d.Who,d)∈m/\Jw y race d=false):=by
   rw[hy];unfold JY
   by_cases hr:y.Race=race
   ·by_cases h1:y.Kind=1
    ·simp only[hr,h1,aJ,aS,QU y.Who y m hm];constructor
     ·rintro(h|⟨h,h2⟩)
      ·exact .inl ⟨trivial,trivial,(Prod.mk.inj h).2⟩
      ·exact .inr ⟨h,by simp;exact λe=>h2 e.symm⟩
     ·rintro(⟨_,_,rfl⟩|⟨h,h2⟩)
      ·exact .inl rfl
      ·exact .inr ⟨h,λe=>by simp[e] at h2⟩
    ·by_cases h2:y.Kind=2
     ·simp only[hr,h2,aJ,aS,show ((2:Int)=1)=False from by simp,show decide ((2:Int)=1)=false from rfl,aO,aR,UW y.Who m hm];constructor
      ·rintro⟨h,h3⟩;exact .inr ⟨h,by simp;exact λe=>h3 e.symm⟩
      ·rintro(⟨_,h,_⟩|⟨h,h3⟩)
       ·exact absurd h aB
       ·exact⟨h,λe=>by simp[e] at h3⟩
     ·simp only[hr,h1,h2,aJ,decide_false,aS,aO,aR,Bool.or_self,Bool.and_false];constructor
      ·intro h;exact .inr ⟨h,trivial⟩
      ·rintro(⟨_,h,_⟩|⟨h,_⟩)
       ·exact absurd h aB
       ·exact h
   ·simp only[hr,decide_false,aO,aR,bP];constructor
    ·intro h;exact .inr ⟨h,trivial⟩
    ·rintro(⟨h,_⟩|⟨h,_⟩)
     ·exact absurd h aB
     ·exact h
  rw[hS];have hk:d∈BA race (y::l)↔((y.Kind=1/\y.Race=race/\∀o∈l,Jw o race y=false)/\d=y)\/d∈BA race l:=by
   rw[BA]
   split
   ·rename_i hc;simp only[bQ,aK,Bool.not_eq_true',List.any_eq_false,Bool.not_eq_true] at hc;rw[bB];constructor
    ·rintro(h|h)
     ·exact .inl ⟨⟨hc.1.1,hc.1.2,hc.2⟩,h⟩
     ·exact .inr h
    ·rintro(⟨_,h⟩|h)
     ·exact .inl h
     ·exact .inr h
   ·rename_i hc;simp only[bQ,aK,Bool.not_eq_true',List.any_eq_false,Bool.not_eq_true] at hc;constructor
    ·exact .inr
    ·rintro(⟨⟨h1,h2,h3⟩,_⟩|h)
     ·exact absurd ⟨⟨h1,h2⟩,h3⟩ hc
     ·exact h
  rw[hk];constructor
  ·rintro(h|⟨⟨h1,h2,h3⟩|⟨h1,h2⟩,h4⟩)
   ·exact .inl (.inr h)
   ·subst h3;exact .inl (.inl ⟨⟨h2,h1,h4⟩,rfl⟩)
   ·exact .inr ⟨h1,λo ho=>(bB.1 ho).elim (λe=>by rw[e];exact h2) (h4 o)⟩
  ·rintro((⟨⟨h1,h2,h3⟩,rfl⟩|h)|⟨h1,h2⟩)
   ·exact .inr ⟨.inl ⟨h2,h1,rfl⟩,h3⟩
   ·exact .inl h
   ·exact .inr ⟨.inr ⟨h1,h2 y aN⟩,λo ho=>h2 o (aM _ ho)⟩
theorem GH(l:List Dt)(race:ByteArray)(at_:Int)(hf:IT l)(hs:l.Pairwise λx y=>x.At<=y.At):Sk l race at_=some (DI race (Ku l at_)):=by
 have hl:=hf.len;have hFl:(Ku l at_).length<=l.length:=(IP l at_).length_le;have hkl:=QT race (Ku l at_);unfold Sk;rw[QS l at_ hf hs];simp only[aG,Jb];have h:=WS race (λx1=>Option.bind (Iz x1) λr2=>some r2) (Ku l at_) aA (Ku l at_) [] [] rfl (bU _);rw[aW,aZ] at h;rw[h,sortR_is (OJ race _) aA];simp only[aG]
 congr 1
 have ho:=YO race (Ku l at_);have hnd:(((PA race (Ku l at_)).map (·.2)).map (·.Who)).Nodup:=by rw[NZ ho];exact ho.nd
 refine JW YI HB _ _ (MN (OJ race _)) (SI race _) λd=>?_;rw[UK];have hfold:=UX race (Ku l at_) [] aB d;constructor
 ·intro h;exact bD.2 ⟨(d.Who,d),hfold.2 (.inl h),rfl⟩
 ·intro h;obtain⟨p,hp,rfl⟩:=bD.1 h;have hw:=(ho.is p hp).1;have hpe:p=(p.2.Who,p.2):=by rw[←hw]
  rcases hfold.1 (by rw[←hpe];exact hp) with h1|⟨h1,_⟩
  ·exact h1
  ·cases h1
theorem QV(F:List Dt)(race who:ByteArray):∀(is:List Nat),Oq F race who is=match (is.map fun(i:Nat)=>nth F (i:Int)).find? λd=>Rq d race who with|some d=>(d,true)|none=>(Dt.mk An 0 0 0 An An An 0 0 An 0,false)
 |[]=>rfl
 |i::is=>by
  rw[Oq,aY,List.find?_cons]
  cases Rq (nth F (i:Int)) race who with
  |true=>rfl
  |false=>exact QV F race who is
theorem revI_map(F:List Dt):(Wx F.length).map (fun(i:Nat)=>nth F (i:Int))=F.reverse:=by
 unfold Wx;rw[List.map_reverse]
 congr 1
 apply List.ext_getElem?;intro i
 by_cases h:i<F.length
 ·simp[nth,h]
 ·simp[h]
theorem swM_snoc(race:ByteArray)(F:List Dt)(d:Dt):swM race (F++[d])=swS race (swM race F) d:=by unfold swM;rw[List.foldl_append];rfl
theorem swM_find(race who:ByteArray)(F:List Dt):Vi (swM race F) who=F.reverse.find? λd=>Rq d race who:=by
 induction hn:F.length generalizing F with
 |zero=>
  obtain rfl:=List.length_eq_zero_iff.1 hn;rfl
 |succ n ih=>
  obtain⟨G,d,rfl⟩:∃G d,F=G++[d]:=⟨F.dropLast,F.getLast (by intro e;rw[e] at hn;simp at hn),(List.dropLast_concat_getLast _).symm⟩;rw[swM_snoc,List.reverse_append,List.reverse_singleton,List.singleton_append,List.find?_cons];have hG:=ih G (by simp at hn;exact hn);have hq:Rq d race who=((decide (d.Kind=3) && decide (d.Race=race)) && decide (d.Who=who)):=rfl;have hput:∀v:Dt,Vi (Hp (swM race G) d.Who v) who=if who=d.Who then some v else Vi (swM race G) who:=λv=>DE d.Who who v (swM race G) 0;rw[hq];unfold swS
  by_cases h1:d.Race=race
  ·by_cases h2:d.Kind=3
   ·rw[aQ (by simp[h1,h2]),hput]
    by_cases h3:d.Who=who
    ·rw[aQ h3.symm];simp[h1,h2,h3]
    ·rw[aP λe=>h3 e.symm];simpa[h1,h2,h3] using hG
   ·rw[aP (by simp[h1,h2])];simpa[h1,h2] using hG
  ·rw[aP (by simp[h1])];simpa[h1] using hG
theorem last_ref(l:List Dt)(race:ByteArray)(d:Dt)(at_:Int)(hf:IT l)(hs:l.Pairwise λx y=>x.At<=y.At):Yq l race d.Who at_=some (svS race (Ku l at_) d,MC race (Ku l at_) d):=by
 unfold Yq;rw[QS l at_ hf hs];simp only[aG];rw[QV,revI_map,←swM_find];unfold svS MC Eh
 cases Vi (swM race (Ku l at_)) d.Who<;>rfl
def Rk3(a b:Dw):Prop:=(0<a.Rank/\0<b.Rank/\Rk2 a b)\/(0<a.Rank/\b.Rank=0)\/(a.Rank=0/\b.Rank=0/\cB a.Who b.Who<0)
theorem UY(race:ByteArray)(F:List Dt):(Ur race F (Oz race F)).Pairwise λa b=>cB a.Who b.Who<0:=by
 unfold Ur;rw[List.pairwise_map];exact HE race F
theorem ZB(race:ByteArray)(F:List Dt):(((Ur race F (Oz race F)).filter (isG (ME race F))).map (mkR (ME race F))).Pairwise λa b=>cB a.Who b.Who<0:=by
 rw[List.pairwise_map];exact(UY race F).sublist List.filter_sublist
theorem SR(race:ByteArray)(F:List Dt):(Wh race F).Pairwise Rk3:=by
 obtain⟨A,B⟩:=rkF_ok _ 0 0 0 (UO (ZB race F)) (.inl rfl);unfold Wh GF;rw[bK];refine⟨?_,?_,λa ha b hb=>?_⟩
 ·refine List.Pairwise.imp_of_mem (λ{a b} ha hb hab=>.inl ⟨?_,?_,hab⟩) B
  ·have:=(A a ha).1;omega
  ·have:=(A b hb).1;omega
 ·rw[List.pairwise_map];exact((UY race F).sublist List.filter_sublist).imp λ{a b} hab=>.inr (.inr ⟨rfl,rfl,hab⟩)
 ·obtain⟨s,_,rfl⟩:=bD.1 hb;exact .inr (.inl ⟨by have:=(A a ha).1;omega,rfl⟩)
theorem DL(race:ByteArray)(F:List Dt):((Wh race F).map (·.Who)).Perm ((Oz race F).map (·.Who)):=by
 have e1:(Ur race F (Oz race F)).map (·.Who)=(Oz race F).map (·.Who):=by unfold Ur;rw[List.map_map];rfl
 unfold Wh GF;rw[List.map_append,YY,←e1];have e2:∀l:List Jn,(l.map (mkR (ME race F))).map (·.Who)=l.map (·.Who):=λl=>by rw[List.map_map];rfl
 have p1:((Sa IS (((Ur race F (Oz race F)).filter (isG (ME race F))).map (mkR (ME race F)))).map (·.Who)).Perm (((Ur race F (Oz race F)).filter (isG (ME race F))).map (·.Who)):=by
  rw[←e2];exact(NV _ _).map _
 rw[e2];refine(p1.append_right _).trans ?_;rw[←List.map_append];exact(List.filter_append_perm _ _).map _
theorem BL(race:ByteArray)(F:List Dt):((Oz race F).map (·.Who)).Nodup:=List.pairwise_map.2 ((HE race F).imp λ{a b} h e=>by rw[e,Uj] at h;omega)
theorem SS(race:ByteArray)(F:List Dt):((Wh race F).map (·.Who)).Nodup:=(DL race F).nodup_iff.2 (BL race F)
theorem WT(H:List Dt)(m:List (ByteArray×ByteArray))(w:ByteArray)(h:∀d∈H,d.Who≠w):Eh (Um H m) w An=Eh m w An:=by
 unfold Um
 induction H generalizing m with
 |nil=>rfl
 |cons v H ih=>
  rw[List.foldl_cons,ih _ λu hu=>h u (aM _ hu),Ya,aP λe=>h v aN e.symm]
theorem EM(H:List Dt)(m:List (ByteArray×ByteArray))(d:Dt)(hd:d∈H)(hp:(H.map (·.Who)).Nodup):Eh (Um H m) d.Who An=d.Club:=by
 induction H generalizing m with
 |nil=>cases hd
 |cons u H ih=>
  simp only[aY,bT] at hp;have e:Um (u::H) m=Um H (Hp m u.Who u.Club):=rfl;rw[e];rcases bB.1 hd with rfl|hd
  ·rw[WT H _ d.Who λz hz e=>hp.1 (by rw[←e];exact bJ hz),Ya,aQ rfl]
  ·exact ih _ hd hp.2
def scS(C:List (ByteArray×ByteArray))(r:Ea)(y:Dw):Du:=Du.mk r.Key y.Who (Eh C y.Who An) y.Rank (decide (1<r.Legs))
theorem OK(r:Ea)(r1:List Dw×List (ByteArray×ByteArray)×Int)(j:List Du->Option (List Dy×Int)):∀(ys:List Dw) (i:Nat) (x:List Du),x.length+ys.length<=1000->Nn r r1 j ys i x=j (x++ys.map (scS r1.2.1 r))
 |[],i,x,_=>by simp[Nn]
 |y::ys,i,x,h=>by
  simp only[aT] at h
  rw[Nn,Ei (by unfold Px;exact aH aA),OK r r1 j ys (i+1) _ aD]
  unfold scS
  simp
def Ou(r:Ea)(F:List Dt):List Du:=(Wh r.Key F).map (scS (Um (Oz r.Key F) []) r)
def WU(x y:Du):Bool:=decide (Ps x y<0)
theorem Aan(l:List Du)(hl:l.length<=19):Hs l=some (Sa WU l):=by
 have hs:Hu l 0 (l.length:Int)=some (Sa WU l):=by
  unfold Hu;simp only[Jb];have hins:∀(k:List Du->Option (List Du)) (rp:List Du) (x:Du) (post:List Du),((rp++x::post).length:Int)=(l.length:Int)->(∀y,y∈rp\/y=x\/y∈post->y∈(rp++x::post))->
   Ep 0 k (((rp.length:Int)-0).toNat+2) (rp.reverse++x::post) (rp.length:Int)=k ((Xc WU x rp).reverse++post):=by
   intro k rp x post h1 _;exact UF (λx y k=>k (WU x y)) WU k (Ep 0 k) (λ_ _ _=>rfl) rp x post _ aA (by simp at h1;omega) λy _ k'=>rfl
  cases l with
  |nil=>rfl
  |cons x l=>
   have hw:W (0+1)=(([x]:List Du).length:Int):=rfl;rw[hw];exact JU WU (λx=>some x) (λk x i=>Ep 0 k ((i-0).toNat+2) x i) (Fd ((x::l).length:Int) 0 λx=>some x) ((x::l).length:Int) (λ_ _ _=>rfl)
    (λk rp x post h1 h2=>hins k rp x post h1 h2) l [x] _ (by simp only[aT,aW];omega) (by simp only[aT,aW];omega) (by simp only[aT,aW] at hl ⊢;omega)
 unfold Hs Lb;simp only[Jb];rw[Gf,aP aD,hs];simp only[aG];rw[Gg,aP aD];rfl
def gvS(r:Ec):Od:=Od.mk ((r.x_.Race++Jo)++r.x_.Who) r.points_
def ofS(G:List Od)(m:List (ByteArray×Ef)):List (ByteArray×Ef):=G.foldl (λm y=>Hp m y.Key y.Points) m
theorem OL(j:List (ByteArray×Ef)->Option (List Dy×Int)):∀(G:List Od) (i:Nat) (m:List (ByteArray×Ef)),Np j G i m=j (ofS G m)
 |[],_,_=>rfl
 |y::G,i,m=>by rw[Np,OL j G (i+1) _];rfl
def ptS(m:List (ByteArray×Ef))(k:ByteArray):Ef:=if(Vi m k).isSome then Eh m k (Ef.mk 0 0) else Ef.mk 0 1
def HW(C:List (ByteArray×ByteArray))(m:List (ByteArray×Ef))(r:Ea)(y:Dw):Dy:=Dy.mk y.Rank y.Who (Eh C y.Who An) y.Time y.Fault (ptS m ((r.Key++Jo)++y.Who))
theorem OM(r:Ea)(r1:List Dw×List (ByteArray×ByteArray)×Int)(m:List (ByteArray×Ef))(j:List Dy->Option (List Dy×Int))(hk:r.Key.size<=40):∀(ys:List Dw) (i:Nat) (x:List Dy),(∀y∈ys,y.Who.size<=40)->x.length+ys.length<=1000->Mo r r1 m j ys i x=j (x++ys.map (HW r1.2.1 m r))
 |[],i,x,_,_=>by simp[Mo]
 |y::ys,i,x,hw,h=>by
  simp only[aT] at h
  have h20:Jo.size=1:=by decide+kernel
  have hy:=hw y aN
  rw[Mo,Ei (aH aA),Ei (aH (by rw[ByteArray.size_append];omega))]
  simp only[Jb]
  have hroom:Px x.length=true:=by unfold Px;exact aH aA
  have hfin:=OM r r1 m j hk ys (i+1) (x++[HW r1.2.1 m r y]) (λz hz=>hw z (aM _ hz)) aD
  have hl:HW r1.2.1 m r y=Dy.mk y.Rank y.Who (Eh r1.2.1 y.Who An) y.Time y.Fault (ptS m ((r.Key++Jo)++y.Who)):=rfl
  have hp:ptS m ((r.Key++Jo)++y.Who)=if(Vi m ((r.Key++Jo)++y.Who)).isSome then Eh m ((r.Key++Jo)++y.Who) (Ef.mk 0 0) else Ef.mk 0 1:=rfl
  cases hc:(Vi m ((r.Key++Jo)++y.Who)).isSome with
  |true=>
   rw[hc,aQ rfl] at hp
   rw[aP aB,Ei hroom]
   rw[hl,hp] at hfin
   rw[hfin,aY,hl,hp]
   simp
  |false=>
   rw[hc,aP aB] at hp
   rw[aQ aB,Ei hroom]
   rw[hl,hp] at hfin
   rw[hfin,aY,hl,hp]
   simp
end Go.Proofs.YtconmpkpdfidiaaGreatDoor
