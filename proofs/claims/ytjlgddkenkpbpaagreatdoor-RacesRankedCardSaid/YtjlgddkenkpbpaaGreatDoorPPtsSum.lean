/- Points of clubs and of swimmers: the program's sums are the reference's. Conditions: as in PPtsAll; at most twelve names. -/
import Derived.Test.YtjlgddkenkpbpaaGreatDoorPFracB
import Derived.Test.YtjlgddkenkpbpaaGreatDoorPResults2
import Derived.Test.YtjlgddkenkpbpaaGreatDoorPDeedMerge
import Derived.Test.YtjlgddkenkpbpaaGreatDoorPDeedNames
namespace Go.Proofs.YtjlgddkenkpbpaaGreatDoor
open Go
structure TR(t:Jn):Prop where
 len:t.Points.length<=40
 rng:∀n∈t.Points,0<=n/\n<=10000
 rel:1<=t.Relay/\t.Relay<=10
def mkr(x:Ea):Ei:=Ei.mk x Pt
theorem WN{x:Ea}(h:RR x):(decide (x.Rank=0)||decide (x.Club=An))= !Gq x:=by
 unfold Gq;have:=h.1
 by_cases a:x.Rank=0
 ·simp[a]
 ·have:0<x.Rank:=by omega
  simp[a,this]
def Pl(n:Nat)(x2:List Int):Prop:=(∀s∈x2,0<=s/\s<n)/\x2.Pairwise λa b=>a<b
theorem nth_app{α:Type}[Inhabited α]{l r:List α}{s:Int}(h0:0<=s)(h:s<l.length):nth (l++r) s=nth l s:=by
 unfold nth;rw[List.getD_eq_getElem?_getD,List.getD_eq_getElem?_getD,List.getElem?_append_left aA]
theorem NZ(t:Jn)(r:ByteArray):∀(ys:List Ea) (m:List (ByteArray×Int)) (x2:List Int) (cs:List Ea),(∀y∈ys,y.Race=r/\RR y)->Pl cs.length x2->cs.length+ys.length<=1000->x2.length<=cs.length->
 ∃m' x2',Pl (cs++ys.filter Gq).length x2'/\x2'.length<=(cs++ys.filter Gq).length/\(∀j i,Nt t j ys i m x2 (cs.map mkr)=j m' x2' ((cs++ys.filter Gq).map mkr))/\
  (∀x j i,x.Race=r->Gx x t j ys i m (x2.map (nth cs))=j m' (x2'.map (nth (cs++ys.filter Gq))))
 |[],m,x2,cs,_,h2,_,h4=>⟨m,x2,by simpa using h2,by simpa using h4,λj i=>by simp[Nt],λx j i _=>by simp[Gx]⟩
 |y::ys,m,x2,cs,h1,h2,h3,h4=>by
  obtain⟨hr,hrr⟩:=h1 y aN
  have hys:=λz hz=>h1 z (aM y hz)
  simp only[aT] at h3
  have hnc:=WN hrr
  cases hc:Gq y with
  |false=>
   rw[hc] at hnc
   obtain⟨m',x2',g1,g2,g3,g4⟩:=NZ t r ys m x2 cs hys h2 aA h4
   rw[bS (by simp[hc])]
   refine⟨m',x2',g1,g2,λj i=>?_,λx j i hx=>?_⟩
   ·rw[Nt,hnc];simp only[Ie,Bool.not_false,aS];exact g3 j (i+1)
   ·rw[Gx,Bool.or_assoc,hnc];simp only[Ie,Bool.not_false,Bool.or_true,aS];exact g4 x j (i+1) hx
  |true=>
   rw[hc] at hnc
   have hf:(y::ys).filter Gq=y::ys.filter Gq:=bR (by simp[hc])
   have eA:cs++y::ys.filter Gq=(cs++[y])++ys.filter Gq:=by simp
   have hcs:(cs++[y]).map mkr=cs.map mkr++[Ei.mk y Pt]:=by simp[mkr]
   have hsame:x2.map (nth (cs++[y]))=x2.map (nth cs):=List.map_congr_left λs hs=>nth_app (h2.1 s hs).1 (h2.1 s hs).2
   rw[hf,eA]
   have P0:Pl (cs++[y]).length x2:=⟨λs hs=>by have:=h2.1 s hs;simp;omega,h2.2⟩
   have P1:Pl (cs++[y]).length (x2++[(cs.length:Int)]):=by
    refine⟨λs hs=>?_,?_⟩
    ·rcases bC.1 hs with hs|hs
     ·have:=h2.1 s hs;simp;omega
     ·obtain rfl:=bA.1 hs;simp;omega
    ·rw[bK];exact⟨h2.2,by simp,λa ha b hb=>by obtain rfl:=bA.1 hb;exact(h2.1 a ha).2⟩
   have hnew:(x2++[(cs.length:Int)]).map (nth (cs++[y]))=x2.map (nth cs)++[y]:=by
    rw[List.map_append,hsame];simp[nth]
   have hrace:∀x:Ea,x.Race=r->(((!decide (y.Race=x.Race))||(decide (y.Rank=0)))||(decide (y.Club=An)))=false:=λx hx=>by
    rw[Bool.or_assoc,hnc,hr,hx];simp
   cases hm:((decide (t.Most=0))||(decide ((Em (Hv m y.Club (W ((Em m y.Club 0)+1))) y.Club 0)<=t.Most))) with
   |true=>
    obtain⟨m',x2',g1,g2,g3,g4⟩:=NZ t r ys (Hv m y.Club (W ((Em m y.Club 0)+1))) (x2++[(cs.length:Int)]) (cs++[y]) hys P1 aD aD;refine⟨m',x2',g1,g2,λj i=>?_,λx j i hx=>?_⟩
    ·rw[Nt,hnc];simp only[Ie,bN,aO,aR,hm,aS];rw[Ep (by unfold Qi;simp;omega),Ep (by unfold Qi;simp;omega),aV,←hcs];exact g3 j (i+1)
    ·rw[Gx,hrace x hx];simp only[Ie,aO,aR,hm,aS];rw[Ep (by unfold Qi;simp;omega),←hnew];exact g4 x j (i+1) hx
   |false=>
    obtain⟨m',x2',g1,g2,g3,g4⟩:=NZ t r ys (Hv m y.Club (W ((Em m y.Club 0)+1))) x2 (cs++[y]) hys P0 aD aD;refine⟨m',x2',g1,g2,λj i=>?_,λx j i hx=>?_⟩
    ·rw[Nt,hnc];simp only[Ie,bN,aO,aR,hm];rw[Ep (by unfold Qi;simp;omega),←hcs];exact g3 j (i+1)
    ·rw[Gx,hrace x hx];simp only[Ie,aO,aR,hm];rw[←hsame];exact g4 x j (i+1) hx
theorem MB(x:Ea)(t:Jn)(j:List (ByteArray×Int)->List Ea->Option Eb):∀(A B:List Ea) (i:Nat) (m:List (ByteArray×Int)) (s:List Ea),
 Gx x t j (A++B) i m s=Gx x t (λm' s'=>Gx x t j B 0 m' s') A i m s
 |[],B,i,m,s=>by
  have idx:∀(B:List Ea) (i k:Nat) (m:List (ByteArray×Int)) (s:List Ea),Gx x t j B i m s=Gx x t j B k m s:=by
   intro B
   induction B with
   |nil=>intros;rfl
   |cons b B ih=>
    intro i k m s;rw[Gx,Gx];simp only[Ie,ih (i+1) (k+1)]
  exact idx B i 0 m s
 |a::A,B,i,m,s=>by
  rw[List.cons_append,Gx,Gx];simp only[Ie,MB x t j A B (i+1)]
theorem JK(x:Ea)(t:Jn)(j:List (ByteArray×Int)->List Ea->Option Eb):∀(A:List Ea) (i:Nat) (m:List (ByteArray×Int)) (s:List Ea),(∀a∈A,a.Race≠x.Race)->Gx x t j A i m s=j m s
 |[],_,_,_,_=>rfl
 |a::A,i,m,s,h=>by
  rw[Gx,Ie,aQ (by simp[h a aN])]
  exact JK x t j A (i+1) m s (λb hb=>h b (aM _ hb))
def Zw(t:Jn)(r:Int):List Ea->Nat->Int
 |[],_=>0
 |s::sw,k=>(if s.Rank=r/\k<t.Points.length then nth t.Points (k:Int) else 0)+Zw t r sw (k+1)
def Rh(r:Int)(sw:List Ea):Nat:=sw.countP λs=>decide (s.Rank=r)
theorem UA{t:Jn}(ht:TR t){k:Nat}(hk:k<t.Points.length):0<=nth t.Points (k:Int)/\nth t.Points (k:Int)<=10000:=ht.rng _ (List.mem_of_getElem? (Ef (Ih.2 aA)).1)
theorem OA{t:Jn}(ht:TR t)(r:Int):∀(sw:List Ea) (k:Nat),0<=Zw t r sw k/\Zw t r sw k<=10000*sw.length
 |[],_=>by simp[Zw]
 |s::sw,k=>by
  have ih:=OA ht r sw (k+1)
  rw[Zw,aT]
  split
  ·rename_i h;have:=UA ht h.2;omega
  ·omega
theorem KT(x:Ea){t:Jn}(ht:TR t)(j:Int->Int->Option Eb):∀(ys:List Ea) (k:Nat) (a n:Int),0<=a->a+10000*ys.length<=100000000->0<=n->n+ys.length<=100000000->
 Kn x t j ys k a n=j (a+Zw t x.Rank ys k) (n+Rh x.Rank ys)
 |[],k,a,n,_,_,_,_=>by simp[Kn,Zw,Rh]
 |y::ys,k,a,n,h1,h2,h3,h4=>by
  simp only[aT] at h2 h4
  rw[Kn,Zw]
  simp only[Ie]
  have hc:(Rh x.Rank (y::ys):Int)=(if y.Rank=x.Rank then 1 else 0)+Rh x.Rank ys:=by
   unfold Rh;rw[List.countP_cons]
   by_cases h:y.Rank=x.Rank
   ·simp[h];omega
   ·simp[h]
  rw[hc]
  by_cases h:y.Rank=x.Rank
  ·rw[aQ (aH h),aQ h,Ng (n:=n+1) aA aA]
   by_cases hk:k<t.Points.length
   ·have:=UA ht hk;rw[aQ (by simpa using hk),aQ ⟨h,hk⟩,Ep (Ih.2 aA),Ng aA aA,KT x ht j ys (k+1) _ _ aA aA aA aA]
    congr 1<;>omega
   ·rw[aP (by simpa using hk),aP (λe=>hk e.2),KT x ht j ys (k+1) _ _ aA aA aA aA]
    congr 1<;>omega
  ·rw[aP (by simpa using h),aP h,aP (λe=>h e.1),KT x ht j ys (k+1) _ _ aA aA aA aA]
   congr 1<;>omega
def YQ(t:Jn)(rel:Bool)(sw:List Ea)(r:Int):Option Eb:=Ov (if rel then Zw t r sw 0*t.Relay else Zw t r sw 0) (Rh r sw)
theorem OB(t:Jn)(r:Int):∀(ys:List Ea) (k:Nat),(∀z∈ys,z.Rank≠r)->Zw t r ys k=0/\Rh r ys=0
 |[],_,_=>⟨Z,Z⟩
 |y::ys,k,h=>by
  obtain⟨a,b⟩:=OB t r ys (k+1) λz hz=>h z (aM _ hz)
  have hy:=h y aN
  refine⟨by rw[Zw,a,aP (λe=>hy e.1)];rfl,?_⟩
  unfold Rh at b ⊢
  rw[List.countP_cons,b];simp[hy]
theorem Aay(t:Jn)(r:Int):∀(A B:List Ea) (k:Nat),Zw t r (A++B) k=Zw t r A k+Zw t r B (k+A.length)
 |[],B,k=>by simp[Zw]
 |a::A,B,k=>by
  rw[List.cons_append,Zw,Zw,Aay t r A B (k+1),aT,show k+(A.length+1)=k+1+A.length by omega];omega
theorem Ta{α:Type}[Inhabited α]{l:List α}{p:Nat}(h:p<l.length):nth l (p:Int)=l[p]:=by
 unfold nth;rw[bI,List.getD_eq_getElem?_getD,List.getElem?_eq_getElem h];rfl
section
variable {t:Jn}(ht:TR t){x2:List Int}{cs:List Ea}(hp:Pl cs.length x2)(hl:x2.length<=1000)
include hp in
theorem Pl.at{p:Nat}(h:p<x2.length):0<=nth x2 (p:Int)/\nth x2 (p:Int)<cs.length:=by
 rw[Ta h];exact hp.1 _ (List.getElem_mem h)
include hp in
theorem Pl.lt{p q:Nat}(h:p<q)(hq:q<x2.length):nth x2 (p:Int)<nth x2 (q:Int):=by
 rw[Ta hq,Ta aA];exact List.pairwise_iff_getElem.1 hp.2 p q aA hq h
theorem Aaz{q:Nat}(h:q<x2.length):(x2.map (nth cs)).drop q=nth cs (nth x2 (q:Int))::(x2.map (nth cs)).drop (q+1):=by
 rw[List.drop_eq_getElem_cons (by simpa using h)]
 congr 1
 rw[List.getElem_map,Ta h]
include ht hp hl in
theorem YR{x8:List Ei}(hx:x8.length=cs.length)(hr:∀s:Int,0<=s->s<cs.length->(nth x8 s).x_=nth cs s)(hs:(x2.map (nth cs)).Pairwise λa b=>a.Rank<=b.Rank)(i:Nat)(hi:i<x2.length)(j:Int->Int->Option (List Ei)):
 ∀(d m q:Nat) (acc:Int),x2.length=q+d->d<m->0<=acc->acc+10000*d<=100000000->(∀z∈(x2.map (nth cs)).drop q,(nth cs (nth x2 (i:Int))).Rank<=z.Rank)->
  Qv t x2 x8 (i:Int) j m (q:Int) acc=j ((q+Rh (nth cs (nth x2 (i:Int))).Rank ((x2.map (nth cs)).drop q):Nat):Int) (acc+Zw t (nth cs (nth x2 (i:Int))).Rank ((x2.map (nth cs)).drop q) q)
 |d,0,q,acc,_,h,_,_,_=>by omega
 |d,m+1,q,acc,h1,h2,h3,h4,h5=>by
  rw[Qv]
  by_cases hq:q<x2.length
  ·have hd:=Aaz (cs:=cs) hq
   have pq:=hp.at hq
   have pi:=hp.at hi
   have hin:=Ih.2 (show 0<=(q:Int)/\(q:Int)<x2.length by omega)
   have hin2:=Ih.2 (show 0<=nth x2 (q:Int)/\nth x2 (q:Int)<x8.length by omega)
   have hin3:=Ih.2 (show 0<=(i:Int)/\(i:Int)<x2.length by omega)
   have hin4:=Ih.2 (show 0<=nth x2 (i:Int)/\nth x2 (i:Int)<x8.length by omega)
   have hlt:decide ((q:Int)<(x2.length:Int))=true:=aH aA
   simp only[Ie,hlt,aS,bO,Ep hin,Ep hin2,Ep hin3,Ep hin4,hr _ pq.1 pq.2,hr _ pi.1 pi.2]
   have hc:∀(A:List Ea) (z:Ea) (r:Int),(Rh r (z::A))=(if z.Rank=r then 1 else 0)+Rh r A:=by
    intro A z r;unfold Rh;rw[List.countP_cons]
    by_cases h:z.Rank=r
    ·simp[h];omega
    ·simp[h]
   by_cases e:(nth cs (nth x2 (q:Int))).Rank=(nth cs (nth x2 (i:Int))).Rank
   ·rw[aQ (aH e)];have hW:W ((q:Int)+1)=((q+1:Nat):Int):=by rw[Ng aA aA];omega
    have low:∀z∈(x2.map (nth cs)).drop (q+1),(nth cs (nth x2 (i:Int))).Rank<=z.Rank:=λz hz=>h5 z (by rw[hd];exact aM _ hz);rw[hd,hc,Zw,aQ e,hW]
    by_cases hk:q<t.Points.length
    ·have:=UA ht hk;rw[aQ (by simpa using hk),aQ ⟨e,hk⟩,Ep (Ih.2 aA),Ng aA aA,YR hx hr hs i hi j (d-1) m (q+1) _ aA aA aA aA low]
     congr 1<;>omega
    ·rw[aP (by simpa using hk),aP (λe=>hk e.2),YR hx hr hs i hi j (d-1) m (q+1) _ aA aA aA aA low]
     congr 1<;>omega
   ·rw[aP (by simpa using e)];have none:∀z∈(x2.map (nth cs)).drop q,z.Rank≠(nth cs (nth x2 (i:Int))).Rank:=by
     intro z hz;have h0:=h5 (nth cs (nth x2 (q:Int))) (by rw[hd];exact aN);have hsd:=hs.sublist (List.drop_sublist q _);rw[hd] at hz hsd;rcases bB.1 hz with rfl|hz
     ·exact e
     ·have:=(List.pairwise_cons.1 hsd).1 z hz;omega
    obtain⟨a,b⟩:=OB t _ _ q none;rw[a,b];congr 1;omega
  ·rw[List.drop_eq_nil_of_le aD];have hlt:decide ((q:Int)<(x2.length:Int))=false:=aI aA;simp[Ie,hq,Zw,Rh]
include hp in
theorem set_l4(i k:Nat)(hk:k<=x2.length)(hl:x2.length<=1000)(a:Int)(V:Eb)(hV:Ov a (W ((k:Int)-(i:Int)))=some V)(j:List Ei->Option (List Ei)):∀(d m q:Nat) (x15:List Ei),k=i+q+d->d<m->x15.length=cs.length->
 ∃out,Nu (k:Int) (i:Int) a x2 j m x15 (q:Int)=j out/\out.length=cs.length/\(∀p:Nat,i+q<=p->p<k->nth out (nth x2 (p:Int))=Ei.mk (nth x15 (nth x2 (p:Int))).x_ V)/\
  (∀s:Int,0<=s->s<cs.length->(∀p:Nat,i+q<=p->p<k->nth x2 (p:Int)≠s)->nth out s=nth x15 s)
 |d,0,q,x15,_,h,_=>by omega
 |d,m+1,q,x15,h1,h2,h3=>by
  rw[Nu]
  have hki:((k:Int).toNat-(i:Int).toNat)=k-i:=by simp
  rw[hki]
  by_cases hq:i+q<k
  ·rw[aQ (aH aA),Ep (Ih.2 aA),hV,aG]
   have hn:nth (cut x2 (i:Int) (k:Int)) (q:Int)=nth x2 ((i+q:Nat):Int):=by
    unfold nth cut;rw[bI,bI,bI,bI,List.getD_eq_getElem?_getD,List.getD_eq_getElem?_getD,List.getElem?_drop,List.getElem?_take_of_lt aA]
   have pq:=hp.at (p:=i+q) aA;have hW:W ((q:Int)+1)=((q+1:Nat):Int):=by rw[Ng aA aA];omega
   rw[hn,Ep (Ih.2 aA),hW];obtain⟨out,e1,e2,e3,e4⟩:=set_l4 i k hk hl a V hV j (d-1) m (q+1) (x15.set (nth x2 ((i+q:Nat):Int)).toNat (Ei.mk (nth x15 (nth x2 ((i+q:Nat):Int))).x_ V)) aA aA (by rw[List.length_set];exact h3);refine⟨out,e1,e2,λp hp1 hp2=>?_,λs h0 hs hno=>?_⟩
   ·rcases Nat.lt_or_ge (i+q) p with g|g
    ·rw[e3 p aA hp2,TT pq.1 aA (hp.at (p:=p) aA).1,aP];have:=hp.lt g aA;omega
    ·obtain rfl:p=i+q:=by omega
     rw[e4 _ pq.1 pq.2 (λp' h1 h2=>by have:=hp.lt (p:=i+q) (q:=p') aA aA;omega),TT pq.1 aA pq.1,aQ Z]
   ·rw[e4 s h0 hs (λp h1 h2=>hno p aA h2),TT pq.1 aA h0,aP];exact λe=>hno (i+q) aA aA e.symm
  ·rw[aP aD];exact⟨x15,Z,h3,λp _ _=>by omega,λ_ _ _ _=>rfl⟩
include ht in
theorem SJ(rel:Bool){sw:List Ea}(hsl:sw.length<=1000){r:Int}(hc:0<Rh r sw):∃a:Nat,(a:Int)=(if rel then Zw t r sw 0*t.Relay else Zw t r sw 0)/\a<=100000*sw.length/\YQ t rel sw r=some ⟨((a / Nat.gcd a (Rh r sw):Nat):Int),((Rh r sw / Nat.gcd a (Rh r sw):Nat):Int)⟩:=by
 have h:=OA ht r sw 0;have hn:Rh r sw<=sw.length:=List.countP_le_length;have hr:=ht.rel;have hA:0<=(if rel then Zw t r sw 0*t.Relay else Zw t r sw 0)/\(if rel then Zw t r sw 0*t.Relay else Zw t r sw 0)<=100000*sw.length:=by
  cases rel with
  |false=>simp only[aO,aR];omega
  |true=>
   simp only[aS];refine⟨Int.mul_nonneg h.1 aA,?_⟩;have:=Int.mul_le_mul h.2 hr.2 aA aA;omega
 obtain⟨a,ha⟩:=Int.eq_ofNat_of_zero_le hA.1;refine⟨a,ha.symm,by omega,?_⟩;unfold YQ;rw[ha];exact TQ a _ hc aA aA
include ht hp hl in
theorem run_l2{g:List Ea}(hg:g≠[])(rel:Bool)(hrel:(nth g 0).Relay=rel)(hs:(x2.map (nth cs)).Pairwise λa b=>a.Rank<=b.Rank)(j:List Ei->Option (List Ei)):∀(d m i:Nat) (x8:List Ei),x2.length=i+d->d<m->x8.length=cs.length->
 (∀s:Int,0<=s->s<cs.length->(nth x8 s).x_=nth cs s)->(∀z∈(x2.map (nth cs)).take i,∀y∈(x2.map (nth cs)).drop i,z.Rank<y.Rank)->
 ∃out,Mz x2 g t j m x8 (i:Int)=j out/\out.length=cs.length/\(∀s:Int,0<=s->s<cs.length->(nth out s).x_=nth cs s)/\
  (∀p:Nat,i<=p->p<x2.length->YQ t rel (x2.map (nth cs)) (nth cs (nth x2 (p:Int))).Rank=some (nth out (nth x2 (p:Int))).points_)/\
  (∀s:Int,0<=s->s<cs.length->(∀p:Nat,i<=p->p<x2.length->nth x2 (p:Int)≠s)->nth out s=nth x8 s)
 |d,0,i,x8,_,h,_,_,_=>by omega
 |d,m+1,i,x8,h1,h2,h3,h4,h5=>by
  rw[Mz]
  by_cases hi:i<x2.length
  ·have hd:=Aaz (cs:=cs) hi
   obtain⟨r,hr⟩:∃r,r=(nth cs (nth x2 (i:Int))).Rank:=⟨_,Z⟩
   obtain⟨sw,hsw⟩:∃sw,sw=x2.map (nth cs):=⟨_,Z⟩
   have hswl:sw.length=x2.length:=by rw[hsw,aV]
   rw[←hsw] at hd hs h5
   have hsd:=hs.sublist (List.drop_sublist i _)
   have low:∀z∈sw.drop i,r<=z.Rank:=λz hz=>by
    rw[hd] at hz hsd
    rcases bB.1 hz with rfl|hz
    ·omega
    ·rw[hr];exact(List.pairwise_cons.1 hsd).1 z hz
   obtain⟨k,hk⟩:∃k,k=i+Rh r (sw.drop i):=⟨_,Z⟩
   have hcl:Rh r (sw.drop i)<=(sw.drop i).length:=List.countP_le_length
   rw[List.length_drop] at hcl
   have hc1:0<Rh r (sw.drop i):=by
    rw[hd];unfold Rh;rw[List.countP_cons,aQ (by simp[hr])];omega
   have pre:=OB t r (sw.take i) 0 (λz hz e=>by
    have:=h5 z hz (nth cs (nth x2 (i:Int))) (by rw[hd];exact aN);omega)
   have hsum:Zw t r sw 0=Zw t r (sw.drop i) i:=by
    have e:=Aay t r (sw.take i) (sw.drop i) 0;rw[List.take_append_drop,pre.1,List.length_take,Nat.min_eq_left aA,Int.zero_add,Nat.zero_add] at e;exact e
   have hcnt:Rh r sw=Rh r (sw.drop i):=by
    have e:Rh r (sw.take i++sw.drop i)=Rh r (sw.take i)+Rh r (sw.drop i):=List.countP_append;rw[List.take_append_drop,pre.2,Nat.zero_add] at e;exact e
   have hsr:=OA ht r sw 0;obtain⟨a,ha,ha2,hV⟩:=SJ (t:=t) ht rel (sw:=sw) aA (r:=r) aA;obtain⟨V,hVV⟩:∃V,YQ t rel sw r=some V:=⟨_,hV⟩;have hlt:decide ((i:Int)<(x2.length:Int))=true:=aH aA;have hg0:inB 0 g.length=true:=Ih.2 ⟨Int.le_refl _,by cases g with|nil=>exact(hg rfl).elim|cons a b=>simp⟩;simp only[Ie,hlt,aS];have e3:=YR ht hp hl h3 h4 (by rw[←hsw];exact hs) i hi (fun(x10:Int) (x11:Int)=>Chk (inB 0 g.length) (if(nth g 0).Relay=true then Chk (Zx (i:Int) x10 x2.length) (Nu x10 (i:Int) (W (x11*t.Relay)) x2 (fun(x15:List Ei)=>Mz x2 g t j m x15 x10) ((((x10.toNat-(i:Int).toNat:Nat):Int)-0).toNat+2) x8 0) else Chk (Zx (i:Int) x10 x2.length) (Nu x10 (i:Int) x11 x2 (fun(x15:List Ei)=>Mz x2 g t j m x15 x10) ((((x10.toNat-(i:Int).toNat:Nat):Int)-0).toNat+2) x8 0))) d (((x2.length:Int)-(i:Int)).toNat+2) i 0 h1 aA aA aA (by rw[←hsw,←hr];exact low);rw[←hsw,←hr,Int.zero_add,←hsum,←hk] at e3;rw[e3];have hcut:Zx (i:Int) (k:Int) x2.length=true:=Tb.2 aA;rw[Ep hg0,Ep hcut,Ep hcut,hrel];have hfr:Ov (a:Int) (W ((k:Int)-(i:Int)))=some V:=by
    rw[Ng aA aA,show (k:Int)-(i:Int)=((Rh r sw:Nat):Int) by omega];rw[←hVV];unfold YQ;rw[ha]
   have rest:∃out,Nu (k:Int) (i:Int) (a:Int) x2 (fun(x15:List Ei)=>Mz x2 g t j m x15 (k:Int)) (((((k:Int).toNat-(i:Int).toNat:Nat):Int)-0).toNat+2) x8 0=j out/\out.length=cs.length/\(∀s:Int,0<=s->s<cs.length->(nth out s).x_=nth cs s)/\
    (∀p:Nat,i<=p->p<x2.length->YQ t rel sw (nth cs (nth x2 (p:Int))).Rank=some (nth out (nth x2 (p:Int))).points_)/\
    (∀s:Int,0<=s->s<cs.length->(∀p:Nat,i<=p->p<x2.length->nth x2 (p:Int)≠s)->nth out s=nth x8 s):=by
    obtain⟨o1,q1,q2,q3,q4⟩:=set_l4 hp i k aA hl (a:Int) V hfr (fun(x15:List Ei)=>Mz x2 g t j m x15 (k:Int)) (k-i) (((((k:Int).toNat-(i:Int).toNat:Nat):Int)-0).toNat+2) 0 x8 aA aB h3;rw[Nat.add_zero] at q3 q4;have o1x:∀s:Int,0<=s->s<cs.length->(nth o1 s).x_=nth cs s:=λs h0 hs'=>by
     rcases Classical.em (∃p:Nat,i<=p/\p<k/\nth x2 (p:Int)=s) with ⟨p,p1,p2,rfl⟩|hno
     ·rw[q3 p p1 p2];exact h4 _ h0 hs'
     ·rw[q4 s h0 hs' (λp p1 p2 e=>hno ⟨p,p1,p2,e⟩)];exact h4 s h0 hs'
    have inrun:∀p:Nat,i<=p->p<x2.length->((nth cs (nth x2 (p:Int))).Rank=r↔p<k):=by
     have gen:∀(l:List Ea),l.Pairwise (λa b=>a.Rank<=b.Rank)->(∀z∈l,r<=z.Rank)->∀(q:Nat) (hq:q<l.length),(l[q]).Rank=r↔q<Rh r l:=by
      intro l
      induction l with
      |nil=>intro _ _ q hq;simp at hq
      |cons z l ih=>
       intro hs1 hl1 q hq;obtain⟨s1,s2⟩:=List.pairwise_cons.1 hs1
       by_cases hz:z.Rank=r
       ·have e:Rh r (z::l)=Rh r l+1:=by unfold Rh;rw[List.countP_cons,aQ (by simp[hz])]
        rw[e]
        cases q with
        |zero=>simp[hz]
        |succ q=>
         have:=ih s2 (λy hy=>hl1 y (aM _ hy)) q (by simpa using hq);rw[List.getElem_cons_succ,this];omega
       ·have all:∀y∈z::l,y.Rank≠r:=λy hy=>by
         have h0:=hl1 z aN;rcases bB.1 hy with rfl|hy
         ·exact hz
         ·have:=s1 y hy;omega
        rw[(OB t r _ 0 all).2];have:=all _ (List.getElem_mem hq);simp[this]
     intro p hp1 hp2;have:=gen (sw.drop i) hsd low (p-i) (by rw[List.length_drop];omega);rw[List.getElem_drop] at this;have e:sw[i+(p-i)]'(by omega)=nth cs (nth x2 (p:Int)):=by
      subst hsw;rw[List.getElem_map,Ta hp2]
      congr 2;omega
     rw[e] at this;rw[this];omega
    have h5':∀z∈sw.take k,∀y∈sw.drop k,z.Rank<y.Rank:=by
     intro z hz y hy;obtain⟨u,hu⟩:=List.getElem?_of_mem hz;obtain⟨v,hv⟩:=List.getElem?_of_mem hy;have hul:=(List.getElem?_eq_some_iff.1 hu).1;rw[List.length_take] at hul;rw[List.getElem?_take_of_lt aA] at hu;rw[List.getElem?_drop] at hv;have hvl:=(List.getElem?_eq_some_iff.1 hv).1;have ge:∀(q:Nat) (w:Ea),sw[q]? =some w->q<x2.length/\w=nth cs (nth x2 (q:Int)):=by
      intro q w hw;obtain⟨hq,rfl⟩:=List.getElem?_eq_some_iff.1 hw;subst hsw;refine⟨by simpa using hq,?_⟩;rw[List.getElem_map,Ta (by simpa using hq)]
     obtain⟨v1,rfl⟩:=ge _ _ hv;obtain⟨u1,rfl⟩:=ge _ _ hu;have hy2:=inrun (k+v) aA v1;have hyr:r<=(nth cs (nth x2 ((k+v:Nat):Int))).Rank:=low _ (by
      rw[hsw];refine List.mem_drop_iff_getElem.2 ⟨k+v-i,by simp;omega,?_⟩;rw[List.getElem_map,Ta v1];congr 2;omega)
     have hne:(nth cs (nth x2 ((k+v:Nat):Int))).Rank≠r:=λe=>by have:=hy2.1 e;omega
     rcases Nat.lt_or_ge u i with g1|g1
     ·exact h5 _ (by
       rw[hsw];refine List.mem_take_iff_getElem.2 ⟨u,by simp;omega,?_⟩;rw[List.getElem_map,Ta u1]) _ (by
       rw[hsw];refine List.mem_drop_iff_getElem.2 ⟨k+v-i,by simp;omega,?_⟩;rw[List.getElem_map,Ta v1];congr 2;omega)
     ·have:=(inrun u g1 u1).2 aA;omega
    obtain⟨out,w1,w2,w3,w4,w5⟩:=run_l2 hg rel hrel (by rw[←hsw];exact hs) j (x2.length-k) m k o1 aA aA q2 o1x (by rw[←hsw];exact h5');rw[←hsw] at w4;refine⟨out,q1.trans w1,w2,w3,λp hp1 hp2=>?_,λs h0 hs' hno=>?_⟩
    ·rcases Nat.lt_or_ge p k with g1|g1
     ·have pp:=hp.at hp2;rw[w5 _ pp.1 pp.2 (λp' a1 a2=>by have:=hp.lt (p:=p) (q:=p') aA a2;omega),q3 p hp1 g1,(inrun p hp1 hp2).2 g1,hVV]
     ·exact w4 p g1 hp2
    ·rw[w5 s h0 hs' (λp a1 a2=>hno p aA a2),q4 s h0 hs' (λp a1 a2=>hno p a1 aA)]
   cases rel with
   |true=>
    rw[aQ Z];simp only[aS] at ha;rw[←ha,Ng aA aA];rw[←hsw];exact rest
   |false=>
    rw[aP aB];simp only[aO,aR] at ha;rw[←ha];rw[←hsw];exact rest
  ·have hlt:decide ((i:Int)<(x2.length:Int))=false:=aI aA;rw[hlt,aP aB];exact⟨x8,Z,h3,h4,λp _ _=>by omega,λ_ _ _ _=>rfl⟩
end
theorem WO(v:Ea):∀(l:List Ea),Qh l v=decide (v∈l):=by
 intro l;unfold Qh Wd;simp only[Ie];have gen:∀(l:List Ea) (i:Nat),decide (0<=Ka v (-1) l i)=decide (v∈l):=by
  intro l
  induction l with
  |nil=>intro i;simp[Ka]
  |cons y l ih=>
   intro i;rw[Ka]
   by_cases h:v=y
   ·rw[aQ (aH h)];simp[h]
   ·rw[aP (by simpa using h),ih (i+1)];simp[h]
 exact gen l 0
theorem JL:∀(cs:List Ea) (k:Int) (x2:List Int),(∀s∈x2,k<=s/\s<k+cs.length)->x2.Pairwise (λa b=>a<b)->(x2.map λs=>nth cs (s-k)).Sublist cs
 |[],k,x2,h,_=>by
  cases x2 with
  |nil=>exact .slnil
  |cons s x2=>have:=h s aN;simp at this;omega
 |c::cs,k,x2,h,hp=>by
  have sh:∀(x:List Int),(∀s∈x,k+1<=s/\s<k+1+cs.length)->(x.map λs=>nth (c::cs) (s-k))=x.map λs=>nth cs (s-(k+1)):=λx hx=>List.map_congr_left λs hs=>by
   have:=hx s hs
   unfold nth
   rw[show (s-k).toNat=(s-(k+1)).toNat+1 by omega];rfl
  cases x2 with
  |nil=>exact List.nil_sublist _
  |cons s x2=>
   obtain⟨p1,p2⟩:=List.pairwise_cons.1 hp
   have hs:=h s aN
   simp only[aT] at h hs
   have tl:∀z∈x2,k+1<=z/\z<k+1+cs.length:=λz hz=>by
    have a:=h z (aM _ hz);have b:=p1 z hz;omega
   by_cases e:s=k
   ·subst e
    rw[aY,sh x2 tl]
    have:nth (c::cs) (s-s)=c:=by rw[Int.sub_self];rfl
    rw[this]
    exact(JL cs (s+1) x2 tl p2).cons_cons c
   ·have all:∀z∈s::x2,k+1<=z/\z<k+1+cs.length:=λz hz=>by
     rcases bB.1 hz with rfl|hz
     ·omega
     ·exact tl z hz
    rw[sh _ all]
    exact(JL cs (k+1) (s::x2) all hp).cons c
def Pts(f:Eb):Prop:=∃v,v<=4000000000/\f=frB v
theorem div2520{N:Nat}(h1:1<=N)(h2:N<=10):2520 / N*N=2520:=by
 have:N=1\/N=2\/N=3\/N=4\/N=5\/N=6\/N=7\/N=8\/N=9\/N=10:=by omega
 rcases this with rfl|rfl|rfl|rfl|rfl|rfl|rfl|rfl|rfl|rfl<;>rfl
theorem grp_pts{t:Jn}(ht:TR t){P g Q:List Ea}{r:ByteArray}(hP:∀o∈P,o.Race≠r)(hQ:∀o∈Q,o.Race≠r)(hr:∀o∈g,o.Race=r)(hne:g≠[])(hg:Gr g)(hm:TZ g=false)(hf:g.any (AD g)=false)(hd:g.Pairwise Dif)(hl:g.length<=15):
 ∃out,Xz t g=some out/\out.map (·.x_)=g.filter Gq/\∀row∈out,Ob t (P++(g++Q)) row.x_=some row.points_/\Pts row.points_:=by
 obtain⟨m',x2,q1,q2,q3,q4⟩:=NZ t r g [] [] [] (λy hy=>⟨hr y hy,hg.rr y hy⟩) ⟨(λ_ h=>by cases h),List.Pairwise.nil⟩ aD aB;rw[aZ] at q1 q2;simp only[aZ,List.map_nil] at q3 q4;obtain⟨cs,hcs⟩:∃cs,cs=g.filter Gq:=⟨_,Z⟩;rw[←hcs] at q1 q2 q3 q4 ⊢;have csg:cs.Sublist g:=by rw[hcs];exact List.filter_sublist
 have hcl:cs.length<=15:=Nat.le_trans csg.length_le hl;have swc:(x2.map (nth cs)).Sublist cs:=by
  have:=JL cs 0 x2 (λs hs=>by have:=q1.1 s hs;omega) q1.2;simpa using this
 have cpos:∀y∈cs,0<y.Rank:=λy hy=>by
  rw[hcs] at hy;have:=(List.mem_filter.1 hy).2;unfold Gq at this;simp only[bQ,aK] at this;exact this.1
 have ranks:(x2.map (nth cs)).Pairwise λa b=>a.Rank<=b.Rank:=by
  have h1:cs.Pairwise λa b=>a.Rank<=b.Rank:=by
   refine(hg.le.sublist csg).imp_of_mem ?_;intro a b ha hb h;rw[DC (hg.rr a (csg.subset ha)) (cpos a ha),DC (hg.rr b (csg.subset hb)) (cpos b hb)] at h;exact h
  exact h1.sublist swc
 have hrel:∀y∈g,y.Relay=(nth g 0).Relay:=λy hy=>by
  have:=List.any_eq_false.1 hm y hy;simpa using this
 have x2l:x2.length<=15:=by omega
 obtain⟨out,e1,e2,e3,e4,e5⟩:=run_l2 ht q1 aA hne (nth g 0).Relay Z ranks (λx8=>some x8) x2.length (((x2.length:Int)-0).toNat+2) 0 (cs.map mkr) aA aA aB (λs h0 hs=>by
  have:nth (cs.map mkr) s=mkr (nth cs s):=by
   obtain⟨p,rfl⟩:=Int.eq_ofNat_of_zero_le h0;rw[Ta aD,List.getElem_map,Ta aA]
  rw[this];rfl) aB
 have hrace:Xz t g=some out:=by
  unfold Xz;simp only[Ie];exact(q3 _ 0).trans e1
 have base:∀s:Int,0<=s->s<cs.length->nth (cs.map mkr) s=mkr (nth cs s):=λs h0 hs=>by
  obtain⟨p,rfl⟩:=Int.eq_ofNat_of_zero_le h0;rw[Ta aD,List.getElem_map,Ta aA]
 have mapx:out.map (·.x_)=cs:=by
  apply List.ext_getElem (by simp[e2]);intro i h1 h2;rw[List.getElem_map,←Ta (l:=out) aA,e3 _ aA aA,Ta aA]
 have csd:cs.Pairwise Dif:=hd.sublist csg;have inj:∀(s s':Int),0<=s->s<cs.length->0<=s'->s'<cs.length->nth cs s=nth cs s'->s=s':=by
  intro s s' a1 a2 b1 b2 e;obtain⟨p,rfl⟩:=Int.eq_ofNat_of_zero_le a1;obtain⟨p',rfl⟩:=Int.eq_ofNat_of_zero_le b1;rw[Ta aA,Ta aA] at e;have h:=List.pairwise_iff_getElem.1 csd;rcases Nat.lt_trichotomy p p' with c|c|c
  ·exact(h p p' aA aA c ⟨by rw[e],by rw[e]⟩).elim
  ·omega
  ·exact(h p' p aA aA c ⟨by rw[e],by rw[e]⟩).elim
 refine⟨out,hrace,mapx,λrow hrow=>?_⟩;obtain⟨p,hpl,rfl⟩:=List.getElem_of_mem hrow;have hpc:p<cs.length:=by omega
 have hrow':nth out (p:Int)=out[p]:=Ta hpl;rw[←hrow'];have hx:(nth out (p:Int)).x_=nth cs (p:Int):=e3 _ aA aA;have hmem:nth cs (p:Int)∈cs:=by rw[Ta hpc];exact List.getElem_mem hpc
 have hxr:(nth cs (p:Int)).Race=r:=hr _ (csg.subset hmem);rw[hx];have hshare:Ob t (P++(g++Q)) (nth cs (p:Int))=if(!(Qh (x2.map (nth cs)) (nth cs (p:Int))))=true then some (Eb.mk 0 1) else
  Kn (nth cs (p:Int)) t (fun(x6:Int) (x7:Int)=>if(nth cs (p:Int)).Relay=true then Option.bind (Qd (W (x6*t.Relay)) x7) (λr1=>some r1) else Option.bind (Qd x6 x7) (λr1=>some r1)) (x2.map (nth cs)) 0 0 0:=by
  unfold Ob;simp only[Ie];rw[MB,JK _ _ _ P 0 [] [] (λo ho=>by rw[hxr];exact hP o ho),MB,q4 _ _ 0 hxr,JK _ _ _ Q 0 _ _ (λo ho=>by rw[hxr];exact hQ o ho)]
 rw[hshare,WO];rcases Classical.em (∃k:Nat,k<x2.length/\nth x2 (k:Int)=(p:Int)) with ⟨k,hk,hkp⟩|hno
 ·have hin:nth cs (p:Int)∈x2.map (nth cs):=by
   rw[←hkp,Ta hk];exact bD.2 ⟨_,List.getElem_mem hk,Z⟩
  have hval:=e4 k (Nat.zero_le _) hk;rw[hkp] at hval;obtain⟨sw,hsw⟩:∃sw,sw=x2.map (nth cs):=⟨_,Z⟩;rw[←hsw] at hin hval swc ⊢;have hswl:sw.length<=15:=by rw[hsw,aV];exact x2l
  have hc1:0<Rh (nth cs (p:Int)).Rank sw:=List.countP_pos_iff.2 ⟨_,hin,by simp⟩;have hc10:Rh (nth cs (p:Int)).Rank sw<=10:=by
   have h1:=(swc.trans csg).countP_le (p:=λs:Ea=>decide (s.Rank=(nth cs (p:Int)).Rank));have h2:=List.any_eq_false.1 hf _ (csg.subset hmem);unfold AD FN at h2;have h3:g.countP (λo=>decide (o.Race=(nth cs (p:Int)).Race) && decide (o.Rank=(nth cs (p:Int)).Rank))=g.countP (λs=>decide (s.Rank=(nth cs (p:Int)).Rank)):=List.countP_congr λo ho=>by
    rw[hr o ho,hxr];simp
   rw[h3] at h2;have h4:=cpos _ hmem;simp only[h4,aJ,bO,aK] at h2;unfold Rh;omega
  obtain⟨a,ha,ha2,hV⟩:=SJ (t:=t) ht (nth g 0).Relay (sw:=sw) aA hc1;have hcn:Rh (nth cs (p:Int)).Rank sw<=sw.length:=List.countP_le_length;have hlow:Ov (a:Int) ((Rh (nth cs (p:Int)).Rank sw:Nat):Int)=some (nth out (p:Int)).points_:=by
   rw[←hval];unfold YQ;rw[ha]
  have hsr:=OA ht (nth cs (p:Int)).Rank sw 0;refine⟨?_,a*(2520 / Rh (nth cs (p:Int)).Rank sw),?_,?_⟩
  ·rw[aH hin,bN,aP aB,KT _ ht _ sw 0 0 0 aA aA aA aA,hrel _ (csg.subset hmem)];rw[Int.zero_add,Int.zero_add,←hlow]
   cases hrl:(nth g 0).Relay with
   |true=>
    rw[hrl] at ha;simp only[aS] at ha ⊢;rw[←ha,Ng aA aA,low_is a _ hc1 aA aA,hlow];rfl
   |false=>
    rw[hrl] at ha;simp only[aO,aR] at ha ⊢;rw[←ha,low_is a _ hc1 aA aA,hlow];rfl
  ·have h1:2520 / Rh (nth cs (p:Int)).Rank sw<=2520:=Nat.div_le_self _ _;have h2:a<=1500000:=by omega
   have:=Nat.mul_le_mul h2 h1;omega
  ·have h1:=WM (a:=a) (b:=Rh (nth cs (p:Int)).Rank sw) (v:=a*(2520 / Rh (nth cs (p:Int)).Rank sw)) hc1 (by rw[Nat.mul_assoc,div2520 aA hc10]) aA aA;rw[hlow] at h1;exact bH h1
 ·have hnin:nth cs (p:Int)∉x2.map (nth cs):=by
   intro h;obtain⟨s,hs,e⟩:=bD.1 h;obtain⟨k,hk,rfl⟩:=List.getElem_of_mem hs;have:=q1.1 _ hs;have e':=inj _ _ this.1 this.2 aA aA e;exact hno ⟨k,hk,by rw[Ta hk];exact e'⟩
  rw[aI hnin,Bool.not_false,aQ Z,e5 _ aA aA (λk _ hk e=>hno ⟨k,hk,e⟩),base _ aA aA];exact⟨Z,0,by omega,by show Pt=frB 0;exact KS⟩
structure Right(t:Jn)(l:List Ea)(R:List Ei):Prop where
 rows:AP t l=some R
 xs:R.map (·.x_)=l.filter Gq
 pts:∀r∈R,Ob t l r.x_=some r.points_/\Pts r.points_
 len:l.length<=15
theorem WP{t:Jn}(l:List Ea)(j:List Ei->Option (List Ei)):∀(Gs:List (List Ea)) (i:Nat) (x:List Ei),(∀g∈Gs,∃out,Xz t g=some out/\out.map (·.x_)=g.filter Gq/\∀row∈out,Ob t l row.x_=some row.points_/\Pts row.points_)->
 x.length+Gs.flatten.length<=1000->(∀row∈x,Ob t l row.x_=some row.points_/\Pts row.points_)->
 ∃R,Qw t j Gs i x=j R/\R.map (·.x_)=x.map (·.x_)++Gs.flatten.filter Gq/\∀row∈R,Ob t l row.x_=some row.points_/\Pts row.points_
 |[],i,x,_,_,h=>⟨x,Z,by simp,h⟩
 |g::Gs,i,x,h1,h2,h3=>by
  obtain⟨out,e1,e2,e3⟩:=h1 g aN
  have hol:out.length<=g.length:=by
   have:=congrArg List.length e2;rw[aV] at this;have:=List.length_filter_le Gq g;omega
  rw[List.flatten_cons,aU] at h2;rw[Qw,e1,aG,Ep aD];obtain⟨R,r1,r2,r3⟩:=WP l j Gs (i+1) (x++out) (λq hq=>h1 q (aM _ hq)) (by rw[aU];omega) (λrow hr=>by
   rcases bC.1 hr with hr|hr
   ·exact h3 row hr
   ·exact e3 row hr)
  refine⟨R,r1,?_,r3⟩;rw[r2,List.map_append,e2,List.flatten_cons,List.filter_append,List.append_assoc]
theorem YS{t:Jn}(ht:TR t){l:List Ea}(hl:l.length<=15)(h:Oi l=some 0):∃R,Right t l R:=by
 obtain⟨e,h1,h2,h3⟩:=SI l aA;rw[h] at h2;obtain⟨Gs,e1,e2,e3,e4,e5⟩:=h3 (bH h2).symm;have hraces:Ty l=some Gs:=by rw[e1];exact VR Gs (λg hg=>(e2 g hg).1) e3 (by rw[←e1];omega)
 obtain⟨R,r1,r2,r3⟩:=WP (t:=t) l (λx=>some x) Gs 0 [] (λg hg=>by
  obtain⟨P,Q,rfl⟩:=List.append_of_mem hg;have hg1:=(e2 g hg).1;obtain⟨z,hz⟩:∃z,z∈g:=List.exists_mem_of_ne_nil g hg1.1;rw[bK,List.pairwise_cons] at e3;have sub:g.Sublist l:=by rw[e1];exact List.sublist_flatten_of_mem hg
  have eq:l=P.flatten++(g++Q.flatten):=by rw[e1];simp
  rw[eq];refine grp_pts ht (r:=z.Race) (λo ho=>?_) (λo ho=>?_) (λo ho=>hg1.2 o ho z hz) hg1.1 (e2 g hg).2 (e5 g hg).1 (e5 g hg).2.2 (e4.sublist sub) (Nat.le_trans sub.length_le hl)
  ·obtain⟨g',hg',ho⟩:=List.mem_flatten.1 ho;exact e3.2.2 g' hg' g aB o ho z hz
  ·obtain⟨g',hg',ho⟩:=List.mem_flatten.1 ho;exact λe=>e3.2.1.1 g' hg' z hz o ho e.symm) (by rw[←e1];simp;omega) (λ_ h=>by cases h)
 refine⟨R,?_,?_,r3,hl⟩
 ·unfold AP;rw[hraces,aG];simp only[Ie];exact r1
 ·rw[r2,←e1];simp
def WQ(f:Eb):Nat:=(f.Num*2520 / f.Den).toNat
theorem valB_fr(v:Nat):WQ (frB v)=v:=by
 obtain⟨n,d,e,d1,d2,n1,p⟩:=EB v;unfold WQ;rw[e];simp only;rw[show ((n:Int)*2520)=((v*d:Nat):Int) by rw[←p];simp,Int.natCast_mul,Int.mul_ediv_cancel _ aA];simp
theorem Pts.val{f:Eb}(h:Pts f):f=frB (WQ f)/\WQ f<=4000000000:=by
 obtain⟨v,hv,rfl⟩:=h;rw[valB_fr];exact⟨Z,hv⟩
theorem plus_frB{u v:Nat}(hu:u<=1000000000000)(hv:v<=1000000000000):Xh (frB u) (frB v)=some (frB (u+v)):=by
 obtain⟨n,d,e1,d1,d2,n1,p1⟩:=EB u;obtain⟨m,e,e2,d3,d4,m1,p2⟩:=EB v;unfold Xh;rw[e1,e2];simp only;have b1:=FE (a:=n) (b:=e) aA d4;have b2:=FE (a:=m) (b:=d) aA d2;have b3:=FE (a:=d) (b:=e) aA d4;rw[MA aA d4,MA aA d2,MA aA d4,←Int.natCast_add,Ng aA aA,YP (Nat.mul_pos d1 d3) (PW p1 p2) aA aA];rfl
structure MT(p:Ir):Prop where
 table:TR p.Table
 chk:Sa p.Table=some 0
 keys:(p.Races.map (·.Key)).Nodup
 key:∀r∈p.Races,Ia r.Key=some true
 len:p.Races.length<=100
theorem WR{α:Type}(lt:α->α->Bool):∀(l rp:List α),(∀x∈l,∀y∈rp,lt x y=false)->l.Pairwise (λa b=>lt b a=false)->Yn lt l rp=l.reverse++rp
 |[],rp,_,_=>rfl
 |x::l,rp,h1,h2=>by
  rw[List.pairwise_cons] at h2
  show Yn lt l (Xl lt x rp)=_
  have e:Xl lt x rp=x::rp:=by
   cases rp with
   |nil=>rfl
   |cons y rp=>unfold Xl;rw[h1 x aN y aN];simp
  rw[e,WR lt l (x::rp) (λz hz y hy=>by
   rcases bB.1 hy with rfl|hy
   ·exact h2.1 z hz
   ·exact h1 z (aM _ hz) y hy) h2.2]
  simp
theorem Acp{α:Type}{lt:α->α->Bool}{l:List α}(h:l.Pairwise λa b=>lt b a=false):Sh lt l=l:=by
 unfold Sh;rw[WR lt l [] (λ_ _ _ h=>by cases h) h];simp
theorem UB{F:List Dy}(h:FM F)(r:Eh):Hx (Wo r F)=some (Wo r F):=by
 have hl:(Xp r.Key F).length<=12:=by
  have:=(HU r.Key F).length_eq;rw[aV,aV] at this;have:=h.few r.Key;omega
 rw[Acl _ (by unfold Wo;rw[aV];omega)]
 congr 1
 refine Acp ?_;unfold Wo;rw[List.pairwise_map];refine List.Pairwise.imp_of_mem (λ{a b} ha hb hab=>?_) (Aav r.Key F);obtain⟨d,_,rfl⟩:=DY h ha;obtain⟨e,_,rfl⟩:=DY h hb;have r1:=KO h r.Key d;have r2:=KO h r.Key e;have hab':(0<Yw r.Key F d/\0<Yw r.Key F e/\(Yw r.Key F d<=Yw r.Key F e/\(Yw r.Key F d=Yw r.Key F e->cB d.Who e.Who<0)))\/(0<Yw r.Key F d/\Yw r.Key F e=0)\/(Yw r.Key F d=0/\Yw r.Key F e=0/\cB d.Who e.Who<0):=by
  rcases hab with ⟨h1,h2,h3,h4,h5,h6⟩|h1|h1
  ·exact .inl ⟨h1,h2,h4,λe=>h6 (h5.1 e)⟩
  ·exact .inr (.inl h1)
  ·exact .inr (.inr h1)
 have hfl:=Zu d.Who e.Who;unfold YG Qg scS;simp only;generalize hx:Yw r.Key F d=x at*;generalize hy:Yw r.Key F e=y at*;rw[Ng (show -9223372036854775808<=x-y by omega) aA,Ng (show -9223372036854775808<=y-x by omega) aA];have hc:Gm e.Who d.Who=cB e.Who d.Who:=rfl;rw[hc,aL]
 by_cases z1:x=0<;>by_cases z2:y=0
 ·rw[aP (by simp[z1,z2]),aP (by simp[z1,z2])];omega
 ·exfalso;omega
 ·rw[aQ (by simp[z1,z2])];omega
 ·rw[aP (by simp[z1,z2])]
  by_cases z3:x=y
  ·rw[aP (by simp[z3])];omega
  ·rw[aQ (by simpa using λe=>z3 e.symm)];omega
theorem givenM{t:Jn}{l:List Ea}{R:List Ei}(h:Right t l R)(hb:Uc t l=some 0)(hs:∀x∈l,x.Race.size<=1000/\x.Who.size<=1000):Vh t l=some (R.map gvS,0):=by
 have hRl:R.length<=15:=by
  have:=congrArg List.length h.xs;rw[aV] at this;have:=List.length_filter_le Gq l;have:=h.len;omega
 have hRs:∀r∈R,r.x_.Race.size<=1000/\r.x_.Who.size<=1000:=λr hr=>by
  have:r.x_∈l.filter Gq:=by rw[←h.xs];exact bJ hr
  exact hs _ (List.mem_filter.1 this).1
 have h20:Rz.size=1:=by decide+kernel
 unfold Vh;rw[hb,aG,aP aB,h.rows,aG];simp only[Ie];have loop:∀(R:List Ei) (i:Nat) (x:List Et),(∀r∈R,r.x_.Race.size<=1000/\r.x_.Who.size<=1000)->x.length+R.length<=1000->Ow (fun(x1:List Et)=>some (x1,0)) R i x=some (x++R.map gvS,0):=by
  intro R
  induction R with
  |nil=>intro i x _ _;simp[Ow]
  |cons r R ih=>
   intro i x h1 h2;simp only[aT] at h2;obtain⟨c1,c2⟩:=h1 r aN;rw[Ow,Ep (aH aA),Ep (aH (by rw[ByteArray.size_append];omega)),Ep (by unfold Qi;exact aH aA),ih _ _ (λz hz=>h1 z (aM _ hz)) aD];simp[gvS]
 rw[loop R 0 [] hRs aD,aZ]
theorem WS(r:Eh)(F:List Dy):((Wo r F).map (·.Who)).Nodup:=by
 unfold Wo;rw[List.map_map];exact rank_nd r.Key F
theorem pts_zero:Pts (Eb.mk 0 1):=⟨0,by omega,KS⟩
theorem ptM{t:Jn}{r:Eh}{F:List Dy}{R:List Ei}(h:Right t (Wo r F) R){x:Ea}(hx:x∈Wo r F):
 Pts (ptS (ofS (R.map gvS) []) ((r.Key++Rz)++x.Who))/\(Gq x=true->Ob t (Wo r F) x=some (ptS (ofS (R.map gvS) []) ((r.Key++Rz)++x.Who)))/\(Gq x=false->ptS (ofS (R.map gvS) []) ((r.Key++Rz)++x.Who)=Eb.mk 0 1):=by
 have hrace:∀y∈Wo r F,y.Race=r.Key:=λy hy=>by
  obtain⟨z,_,rfl⟩:=bD.1 hy;rfl
 have hR:∀y∈R,y.x_∈Wo r F/\Gq y.x_=true:=λy hy=>by
  have:y.x_∈(Wo r F).filter Gq:=by rw[←h.xs];exact bJ hy
  exact List.mem_filter.1 this
 have hkey:∀y∈R,(gvS y).Key=(r.Key++Rz)++y.x_.Who:=λy hy=>by
  unfold gvS;simp only;rw[hrace _ (hR y hy).1]
 have hnd:((R.map gvS).map (·.Key)).Nodup:=by
  have e:(R.map gvS).map (·.Key)=((R.map (·.x_)).map (·.Who)).map λw=>(r.Key++Rz)++w:=by
   rw[List.map_map,List.map_map,List.map_map];exact List.map_congr_left λz hz=>hkey z hz
  rw[e,h.xs];have h1:(((Wo r F).filter Gq).map (·.Who)).Nodup:=(WS r F).sublist (List.filter_sublist.map _);exact List.pairwise_map.2 (h1.imp λ{a b} hne e=>hne (WE e))
 cases hc:Gq x with
 |true=>
  have hxf:x∈R.map (·.x_):=by rw[h.xs];exact List.mem_filter.2 ⟨hx,hc⟩
  obtain⟨y,hy,rfl⟩:=bD.1 hxf;have hg:=ofS_some (R.map gvS) (gvS y) (bJ hy) hnd [];rw[hkey y hy] at hg;have e:ptS (ofS (R.map gvS) []) ((r.Key++Rz)++y.x_.Who)=y.points_:=by
   unfold ptS Em;rw[hg];rfl
  rw[e];exact⟨(h.pts y hy).2,λ_=>(h.pts y hy).1,λh=>by cases h⟩
 |false=>
  have hg:=WG (R.map gvS) ((r.Key++Rz)++x.Who) [] λg hg e=>by
   obtain⟨y,hy,rfl⟩:=bD.1 hg;rw[hkey y hy] at e;have:=YD (WS r F) (hR y hy).1 hx (WE e);rw[←this,(hR y hy).2] at hc
   cases hc
  have e:ptS (ofS (R.map gvS) []) ((r.Key++Rz)++x.Who)=Eb.mk 0 1:=by
   unfold ptS Em;rw[hg];rfl
  rw[e];exact⟨pts_zero,λh=>absurd h aB,λ_=>rfl⟩
theorem Aba(p:Ir)(r:Eh)(hr:(Ho p.Races r.Key).1=r)(C:List (ByteArray×ByteArray))(j:List Ea->Option (List Ec×Int)):∀(ys:List Ed) (i:Nat) (x:List Ea),x.length+ys.length<=1000->Ki r.Key p j (ys.map (toL C)) i x=j (x++ys.map (scS C r))
 |[],i,x,_=>by simp[Ki]
 |y::ys,i,x,h=>by
  simp only[aT] at h
  rw[aY,Ki,Ep (by unfold Qi;exact aH aA),hr,Aba p r hr C j ys (i+1) _ aD]
  simp[scS,toL]
theorem Abb{p:Ir}{r:Eh}{F:List Dy}{R:List Ei}(h:Right p.Table (Wo r F) R)(j:List Ec->Option (List Ec×Int)):∀(B A:List Ed),Xp r.Key F=A++B->(Xp r.Key F).length<=1000->
 Jh p (Wo r F) j (B.map (scS (Ut (Rc r.Key F) []) r)) A.length (A.map (IM (Ut (Rc r.Key F) []) (ofS (R.map gvS) []) r)++B.map (toL (Ut (Rc r.Key F) [])))=j ((A++B).map (IM (Ut (Rc r.Key F) []) (ofS (R.map gvS) []) r))
 |[],A,_,_=>by simp[Jh]
 |b::B,A,hAB,hl=>by
  have hx:scS (Ut (Rc r.Key F) []) r b∈Wo r F:=by unfold Wo;rw[hAB];simp
  obtain⟨_,p2,p3⟩:=ptM h hx
  have e1:A++b::B=(A++[b])++B:=by simp
  have ih:=Abb h j B (A++[b]) (by rw[hAB,e1]) hl
  rw[aU,aX,←e1] at ih
  have hg:∀u:List Ec,(A.map (IM (Ut (Rc r.Key F) []) (ofS (R.map gvS) []) r)++toL (Ut (Rc r.Key F) []) b::u)[A.length]? =some (toL (Ut (Rc r.Key F) []) b):=λu=>by rw[List.getElem?_append_right aB];simp
  have hw:(scS (Ut (Rc r.Key F) []) r b).Who=b.Who:=rfl
  rw[hw] at p2 p3
  rw[aY,aY,Jh]
  simp only[Jp]
  cases hc:Gq (scS (Ut (Rc r.Key F) []) r b) with
  |true=>
   rw[aQ Z,p2 hc]
   simp only[aG]
   rw[Ep (Ih.2 aD),nthL (hg _),←ih,bI,List.set_append_right _ _ aB]
   simp[IM,toL]
  |false=>
   rw[aP aB,←ih]
   have:toL (Ut (Rc r.Key F) []) b=IM (Ut (Rc r.Key F) []) (ofS (R.map gvS) []) r b:=by
    unfold toL IM;rw[p3 hc]
   rw[this];simp
theorem JM(key:ByteArray)(j:Eh×Bool):∀(l:List Eh) (i:Nat),(l.map (·.Key)).Nodup->∀r∈l,r.Key=key->Jw key j l i=(r,true)
 |[],_,_,_,h,_=>by cases h
 |x::l,i,hn,r,h,hk=>by
  simp only[aY,bT] at hn
  rw[Jw]
  rcases bB.1 h with rfl|h
  ·rw[aQ (aH hk)]
  ·rw[aP (by simpa using λe=>hn.1 (by rw[e,←hk];exact bJ h))]
   exact JM key j l (i+1) hn.2 r h hk
theorem MU(key:ByteArray)(j:Eh×Bool):∀(l:List Eh) (i:Nat),(∀r∈l,r.Key≠key)->Jw key j l i=j
 |[],_,_=>rfl
 |x::l,i,h=>by
  rw[Jw,aP (by simpa using h x aN)]
  exact MU key j l (i+1) λr hr=>h r (aM _ hr)
theorem KU{p:Ir}(hp:MT p){l:List Dy}{at_:Int}(hf:IF l)(hs:l.Pairwise λx y=>x.At<=y.At)(h:FM (Iw l at_)){r:Eh}(hr:r∈p.Races):
 ∃L e,Ua p (Iw l at_) r=some (L,e)/\Pw p l r.Key at_=some (L,e)/\(e≠0->L=[])/\(e=0->L.length<=12/\∀y∈L,Pts y.Points/\(∃d∈BX r.Key (Iw l at_),d.Who=y.Who/\d.Club=y.Club)/\0<=y.Rank/\y.Rank<=13/\0<=y.Time/\y.Time<=360000):=by
 generalize hF:Iw l at_=F at*;have hlen:(Xp r.Key F).length<=12:=by
  have:=(HU r.Key F).length_eq;rw[aV,aV] at this;have:=h.few r.Key;omega
 have hrl:(Wo r F).length<=12:=by unfold Wo;rw[aV];exact hlen
 have hrace:(Ho p.Races r.Key).1=r:=by
  unfold Ho;rw[Jp,JM r.Key _ p.Races 0 hp.keys r hr Z]
 have hk:=VZ (hp.key r hr);have hent:∀y∈Xp r.Key F,∃d∈Rc r.Key F,d∈BX r.Key F/\y.Who=d.Who/\Em (Ut (Rc r.Key F) []) y.Who An=d.Club/\y.Who.size<=40/\(0<=y.Rank/\y.Rank<=13)/\0<=y.Time/\y.Time<=360000:=λy hy=>by
  obtain⟨d,hd,rfl⟩:=DY h hy;obtain⟨d1,_,d3,_⟩:=KN h hd;obtain⟨_,k2,k3⟩:=KL d1;exact⟨d,hd,d1,Z,JJ _ [] d hd (FC r.Key F),VZ ((h.ok d k3).who aA).1,KO h r.Key d,d3⟩
 obtain⟨e,c1,c2,_⟩:=SI (Wo r F) aA;have hboth:Uc p.Table (Wo r F)=some e:=by
  unfold Uc;rw[hp.chk];simp only[aG,aJ,bN,aO,aR];rw[c1];rfl
 have hpro:Ua p F r=Option.bind (Vh p.Table (Wo r F)) λr3=>if !decide (r3.2=0) then some (([]:List Ec),r3.2) else Nw (λx2=>Mv r (Xp r.Key F,Ut (Rc r.Key F) [],0) x2 (λx3=>some (x3,0)) (Xp r.Key F) 0 []) r3.1 0 []:=by
  unfold Ua;rw[YH h p r.Key];simp only[aG,aJ,bN,aO,aR,Jp];rw[PQ r _ _ (Xp r.Key F) 0 [] aD,aZ];show Option.bind (Hx (Wo r F)) _=_;rw[UB h r];rfl
 have href:Pw p l r.Key at_=if !decide (e=0) then some (([]:List Ec),e) else Jh p (Wo r F) (λx2=>some (x2,0)) (Wo r F) 0 (linS r.Key F):=by
  unfold Pw;rw[Acn hf hs (by rw[hF];exact h),hF];simp only[aG,Jp];have h1:=Aba p r hrace (Ut (Rc r.Key F) []) (λx1=>Option.bind (Oi x1) λr2=>if !decide (r2=0) then some (([]:List Ec),r2) else Jh p x1 (λx2=>some (x2,0)) x1 0 (linS r.Key F)) (Xp r.Key F) 0 [] aD;rw[aZ] at h1;refine Eq.trans h1 ?_;show Option.bind (Oi (Wo r F)) _=_;rw[c2];rfl
 by_cases he:e=0
 ·subst he;obtain⟨R,hR⟩:=YS hp.table aA c2;have hg:=givenM hR hboth λx hx=>by
   obtain⟨y,hy,rfl⟩:=bD.1 hx;obtain⟨_,_,_,_,_,e5,_⟩:=hent y hy;exact⟨by show r.Key.size<=1000;omega,by show y.Who.size<=1000;omega⟩
  refine⟨(Xp r.Key F).map (IM (Ut (Rc r.Key F) []) (ofS (R.map gvS) []) r),0,?_,?_,λh=>absurd Z h,λ_=>⟨by rw[aV];exact hlen,λy hy=>?_⟩⟩
  ·rw[hpro,hg];simp only[aG,aJ,bN,aO,aR];rw[PR,PS r _ _ _ hk (Xp r.Key F) 0 [] (λy hy=>(hent y hy).elim λd hd=>hd.2.2.2.2.1) aD,aZ]
  ·rw[href];simp only[aJ,bN,aO,aR];have:=Abb hR (λx2=>some (x2,(0:Int))) (Xp r.Key F) [] Z aA;rw[aW,List.map_nil,aZ,aZ] at this;exact this
  ·obtain⟨z,hz,rfl⟩:=bD.1 hy;obtain⟨d,_,e2,e3,e4,_,e6,e7⟩:=hent z hz;exact⟨(ptM hR (x:=scS (Ut (Rc r.Key F) []) r z) (bJ hz)).1,⟨d,e2,e3.symm,e4.symm⟩,e6.1,e6.2,e7⟩
 ·refine⟨[],e,?_,?_,λ_=>rfl,λh=>absurd h he⟩
  ·have hg:Vh p.Table (Wo r F)=some ([],e):=by
    unfold Vh;rw[hboth];simp only[aG];rw[aQ (by simpa using he)]
   rw[hpro,hg];simp only[aG];rw[aQ (by simpa using he)]
  ·rw[href,aQ (by simpa using he)]
theorem key1_eq(s:ByteArray):∃b,Ia s=some b/\Yh s=some b:=by
 by_cases hs:1<=s.size/\s.size<=40
 ·obtain⟨h1,h2⟩:=hs;have hsz:=BM s;obtain⟨u,r,hl⟩:∃u r,s.data.toList=u::r:=by
   cases h:s.data.toList with
   |nil=>rw[h] at hsz;exact absurd hsz (by show ¬s.size=0;omega)
   |cons u r=>exact⟨u,r,Z⟩
  have hin:Ga (s.size:Int) 1 40=true:=by unfold Ga;simp;omega
  have hwin:(decide (1<=(s.size:Int)) && decide ((s.size:Int)<=40))=true:=by simp;omega
  have hb0:inB 0 s.size=true:=Ih.2 ⟨by omega,by omega⟩;have hu:CE s 0=(u.toNat:Int):=LQ (j:=0) (by rw[hl];rfl);have hix:decide (0<=Sb Jk (u.toNat:Int))=(decide (97<=(u.toNat:Int)) && decide ((u.toNat:Int)<=122)):=by
   unfold Sb;rw[RH,←RI];have:=KF (l:=Jk.data.toList) (c:=u)
   cases hc:Jk.data.toList.contains u<;>rw[hc] at this<;>simp at this ⊢<;>omega
  have htrim:Vg s Ib=some ⟨(Lib.trimS s.data.toList Ib.data.toList).toArray⟩:=by
   unfold Vg;rw[Ep aD,Ep (by decide+kernel),Ep RJ]
  refine⟨(decide (97<=(u.toNat:Int)) && decide ((u.toNat:Int)<=122)) && decide ((⟨(Lib.trimS s.data.toList Ib.data.toList).toArray⟩:ByteArray)=An),?_,?_⟩
  ·unfold Ia;simp only[Ie,hwin,aS,bO,Ep hb0,hu]
   by_cases g1:97<=(u.toNat:Int)
   ·simp only[g1,aJ,aS,bO]
    by_cases g2:(u.toNat:Int)<=122
    ·simp only[g2,aJ,aS,bO,htrim,aG]
    ·simp only[g2,decide_false,aO,aR,bP]
   ·simp only[g1,decide_false,aO,aR,bP]
  ·unfold Yh;simp only[Ie,hin,aS,bO,htrim,aG,Ep hb0,hu,hix]
   cases decide ((⟨(Lib.trimS s.data.toList Ib.data.toList).toArray⟩:ByteArray)=An) with
   |true=>simp only[aS,bO,Bool.and_true]
   |false=>simp only[aO,aR,bP,Bool.and_false]
 ·refine⟨false,?_,?_⟩
  ·have hwin:(decide (1<=(s.size:Int)) && decide ((s.size:Int)<=40))=false:=by simp;omega
   unfold Ia;simp only[Ie,hwin,aO,aR,bP]
  ·have hin:Ga (s.size:Int) 1 40=false:=by unfold Ga;simp;omega
   unfold Yh;simp only[Ie,hin,aO,aR,bP]
theorem race_eq(r:Eh):∃e,Mt r=some e/\Uj r=some e:=by
 unfold Mt Uj;obtain⟨b,e1,e2⟩:=key1_eq r.Key;have hw:Ej=Ga:=rfl;rw[e1,e2,hw];simp only[aG,Ie];have hy:(decide (r.Young<0)||decide (r.Old<r.Young))= !(Ga r.Young 0 r.Old):=by
  unfold Ga
  by_cases h1:r.Young<0<;>by_cases h2:r.Old<r.Young
  ·simp[h1,h2]
  ·simp[h1,h2]
  ·simp[h1,h2]
  ·simp only[h1,h2,decide_false,Bool.or_self];rw[show decide (0<=r.Young)=true by simp;omega,show decide (r.Young<=r.Old)=true by simp;omega];rfl
 cases b with
 |false=>exact⟨5,Z,Z⟩
 |true=>
  simp only[bN,aO,aR]
  by_cases h1:((!(Ga r.Stroke 1 5))||(!(Ga r.Sex 0 2)))=true
  ·rw[aQ h1,aQ h1];exact⟨4,Z,Z⟩
  ·rw[aP h1,aP h1];have hbig:(((((((!decide (r.Course=25)) && (!decide (r.Course=50)))||(!(Ga r.Legs 1 4)))||(!(Ga r.Metres 25 1500)))||(decide (r.Young<0)))||(decide (r.Old<r.Young)))||(decide (120<r.Old)))=
    (((!decide (r.Course=25)) && (!decide (r.Course=50)))||((!(Ga r.Legs 1 4))||((!(Ga r.Metres 25 1500))||((!(Ga r.Young 0 r.Old))||(decide (120<r.Old)))))):=by
    rw[←hy];simp only[Bool.or_assoc]
   rw[hbig]
   by_cases hcr:((!decide (r.Course=25)) && (!decide (r.Course=50)))=true
   ·simp only[hcr,aS,Bool.true_or];exact⟨1,Z,Z⟩
   ·have hcr':r.Course=25\/r.Course=50:=by simp at hcr;omega
    have c0:(!decide (r.Course=0))=true:=by rcases hcr' with h|h<;>simp[h]
    have c4:(!decide ((W (4*r.Course))=0))=true:=by rcases hcr' with h|h<;>rw[h]<;>decide+kernel
    rw[Bool.not_eq_true] at hcr;simp only[hcr,Bool.false_or,aO,aR,Ep c0,Ep c4];generalize (!(Ga r.Legs 1 4))=b1;generalize (!(Ga r.Metres 25 1500))=b2;generalize (!(Ga r.Young 0 r.Old))=b3;generalize decide (120<r.Old)=b4;generalize (!decide ((Int.tmod r.Metres r.Course)=0))=b5;generalize (!decide ((Int.tmod r.Metres (W (4*r.Course)))=0))=b6;generalize decide (r.Stroke=5)=b7
    by_cases hl:r.Legs=1
    ·have hl2:decide (1<r.Legs)=false:=by rw[hl];rfl
     simp only[hl2,aH hl]
     cases b1<;>cases b2<;>cases b3<;>cases b4<;>cases b5<;>cases b6<;>cases b7<;>exact⟨_,Z,Z⟩
    ·simp only[aI hl];generalize decide (1<r.Legs)=b8;generalize (!decide (r.Legs=4))=b9
     cases b1<;>cases b2<;>cases b3<;>cases b4<;>cases b5<;>cases b7<;>cases b8<;>cases b9<;>exact⟨_,Z,Z⟩
theorem tbl_l(t:Jn)(hl:t.Points.length<=1000)(e0:Int):∀(ys dn:List Int),t.Points=dn++ys->∃e,Ma t (some e0) ys dn.length=some e/\Ks t (some e0) ys dn.length=some e/\(e=0->e0=0/\∀v∈ys,0<=v/\v<=10000)
 |[],dn,_=>⟨e0,Z,Z,λh=>⟨h,λ_ h=>by cases h⟩⟩
 |y::ys,dn,h=>by
  have hw:Ik=Ej:=rfl
  rw[Ma,Ks,hw]
  obtain⟨e,a1,a2,a3⟩:=tbl_l t hl e0 ys (dn++[y]) (by rw[h];simp)
  rw[aU,aX] at a1 a2
  rw[a1,a2]
  simp only[Ie]
  cases hin:Ej y 0 10000 with
  |false=>exact⟨1,Z,Z,λh=>by cases h⟩
  |true=>
   have hr:0<=y/\y<=10000:=by unfold Ej at hin;simpa using hin
   have fin:e=0->e0=0/\∀v∈y::ys,0<=v/\v<=10000:=λhe=>⟨(a3 he).1,λv hv=>by
    rcases bB.1 hv with rfl|hv
    ·exact hr
    ·exact(a3 he).2 v hv⟩
   simp only[bN,aO,aR]
   by_cases h0:0<(dn.length:Int)
   ·have hdl:dn.length<=1000:=by rw[h] at hl;simp at hl;omega
    have hc:inB (W ((dn.length:Int)-1)) t.Points.length=true:=by rw[Ng aA aA,Ih,h];simp;omega
    rw[aQ (aH h0),Ep hc]
    split
    ·exact⟨7,Z,Z,λh=>by cases h⟩
    ·exact⟨e,Z,Z,fin⟩
   ·rw[aP (by simpa using h0),aI h0]
    exact⟨e,Z,Z,fin⟩
theorem table_eq(t:Jn):∃e,Sa t=some e/\Tu t=some e/\(e=0->TR t):=by
 have hw:Ik=Ej:=rfl;unfold Sa Tu;rw[hw]
 by_cases h:40<(t.Points.length:Int)
 ·rw[aQ (aH h),aQ (aH h)];exact⟨2,Z,Z,λh=>by cases h⟩
 ·have hh:decide (40<(t.Points.length:Int))=false:=aI h;simp only[Ie,hh,aO,aR]
  cases hb:((!(Ej t.Relay 1 10))||(!(Ej t.Most 0 10))) with
  |true=>
   simp only[aS];obtain⟨e,a1,a2,a3⟩:=tbl_l t aA 1 t.Points [] Z;exact⟨e,a1,a2,λhe=>by have:=(a3 he).1;cases this⟩
  |false=>
   simp only[aO,aR];obtain⟨e,a1,a2,a3⟩:=tbl_l t aA 0 t.Points [] Z;refine⟨e,a1,a2,λhe=>⟨by omega,(a3 he).2,?_⟩⟩;unfold Ej at hb;simp at hb;omega
theorem errs_l(j:Int):∀(l:List Int) (i k:Nat),Mc j l i=Mc j l k
 |[],_,_=>rfl
 |a::l,i,k=>by rw[Mc,Mc,errs_l j l (i+1) (k+1)]
theorem SK(a:Int)(l:List Int):Ub (a::l)=if a≠0 then a else Ub l:=by
 unfold Ub;simp only[Ie,Mc];rw[errs_l 0 l (0+1) 0]
 by_cases h:a=0<;>simp[h]
theorem errs_nil:Ub []=0:=rfl
theorem raceKey{r:Eh}(h:Mt r=some 0):Ia r.Key=some true:=by
 obtain⟨b,h1,_⟩:=Vv r.Key
 cases b with
 |true=>exact h1
 |false=>
  unfold Mt at h;rw[h1] at h;simp at h
theorem hasKey(y:Eh):∀(l:List Eh) (i:Nat),decide (0<=Gp y (-1) l i)=l.any λx=>decide (x.Key=y.Key)
 |[],i=>rfl
 |x::l,i=>by
  have hc:Xn x y=decide (x.Key=y.Key):=rfl
  rw[Gp,List.any_cons,hc]
  by_cases h:x.Key=y.Key
  ·rw[aQ (aH h),aH h];simp
  ·rw[aP (by simpa using h),hasKey y l (i+1),aI h,Bool.false_or]
theorem Abc(key:ByteArray)(j:Eh):∀(l:List Eh) (i:Nat),(Jw key (j,false) l i).2=l.any λx=>decide (x.Key=key)
 |[],i=>rfl
 |x::l,i=>by
  rw[Jw,List.any_cons]
  by_cases h:x.Key=key
  ·rw[aQ (aH h),aH h];rfl
  ·rw[aP (by simpa using h),Abc key j l (i+1),aI h,Bool.false_or]
theorem YT(p:Ir)(hl:p.Races.length<=1000)(e0:Int):∀(ys dn:List Eh),p.Races=dn++ys->(dn.map (·.Key)).Nodup->(∀r∈dn,Ia r.Key=some true)->∃e,Od p (some e0) ys dn.length=some e/\Lk p (some e0) ys dn.length=some e/\(e=0->e0=0/\(p.Races.map (·.Key)).Nodup/\∀r∈p.Races,Ia r.Key=some true)
 |[],dn,h,h1,h2=>⟨e0,Z,Z,λhe=>⟨he,by rw[h,List.append_nil];exact h1,by rw[h,List.append_nil];exact h2⟩⟩
 |y::ys,dn,h,h1,h2=>by
  have hlen:p.Races.length=dn.length+(ys.length+1):=by rw[h];simp
  have e:p.Races=(dn++[y])++ys:=by rw[h];simp
  have hcut:cut p.Races 0 (dn.length:Int)=dn:=by unfold cut;rw[h];simp
  have hc:Ju dn y=dn.any λx=>decide (x.Key=y.Key):=by
   unfold Ju Mr;rw[Jp,hasKey]
  have hc2:(Ho dn y.Key).2=dn.any λx=>decide (x.Key=y.Key):=by
   unfold Ho;rw[Jp,Abc]
  obtain⟨f,f1,f2⟩:=race_eq y;rw[Od,Lk,f1,f2];simp only[aG,Jp]
  by_cases hf:f=0
  ·subst hf;simp only[aJ,bN,aO,aR];rw[Ep (Tb.2 aA),Ep (Tb.2 aA),hcut,hc,hc2]
   cases ha:dn.any λx=>decide (x.Key=y.Key) with
   |true=>exact⟨6,by simp,by simp,λh=>absurd h aC⟩
   |false=>
    rw[List.any_eq_false] at ha;have ih:=YT p hl e0 ys (dn++[y]) e (by
     rw[List.map_append,List.nodup_append];refine⟨h1,by simp,λa ha' b hb e'=>?_⟩;obtain⟨x,hx,rfl⟩:=bD.1 ha';simp only[aY,List.map_nil,bA] at hb;exact ha x hx (by simp[e',hb])) λr hr=>by
     rcases bC.1 hr with hr|hr
     ·exact h2 r hr
     ·obtain rfl:=bA.1 hr;exact raceKey f1
    rw[aU,aX] at ih;simpa using ih
  ·rw[aQ (by simpa using hf),aQ (by simpa using hf)];exact⟨f,Z,Z,λh=>absurd h hf⟩
theorem Acq(p:Ir):∃e,Wi p=some e/\Uk p=some e/\(e=0->MT p):=by
 unfold Wi Uk
 by_cases h:100<(p.Races.length:Int)
 ·rw[aQ (aH h),aQ (aH h)];exact⟨2,Z,Z,λh=>absurd h aC⟩
 ·rw[aP (by simpa using h),aP (by simpa using h)];simp only[Jp];obtain⟨e,t1,t2,t3⟩:=table_eq p.Table;have hff:Vc p.Final=Tv p.Final:=rfl;rw[t1,t2,hff];simp only[aG]
  by_cases he:e=0
  ·subst he;simp only[aJ,bN,aO,aR];obtain⟨f,a,b,c⟩:=YT p aA (Tv p.Final) p.Races [] Z aB aB;exact⟨f,a,b,λhf=>⟨t3 Z,t1,(c hf).2.1,(c hf).2.2,by omega⟩⟩
  ·rw[aQ (by simpa using he)];obtain⟨f,a,b,c⟩:=YT p aA e p.Races [] Z aB aB;exact⟨f,a,b,λhf=>absurd (c hf).1 he⟩
theorem UC(t:Int):Na t=if Kh t=true then 0 else 1:=by
 have hmo:Kh t=Ox t:=by
  unfold Kh Ox Ik
  by_cases a1:0<=t<;>by_cases a2:t<345686400000<;>simp[a1,a2]<;>omega
 unfold Na AL;rw[hmo]
 cases Ox t<;>rfl
theorem errs2(a b:Int):Ub [a,b]=if a≠0 then a else b:=by
 rw[SK,SK,errs_nil]
 by_cases ha:a=0<;>by_cases hb:b=0<;>simp[ha,hb]
theorem DsG.mom{l:List Dy}(h:DsG l):l.Pairwise λx y=>x.At<=y.At:=h.adj.up.imp λ{a b} hab=>by have:=(Aac a b).1 hab;omega
theorem MC(p:Ir)(l:List Dy)(at_:Int):∃e,Pf p l at_=some e/\(e≠0->Yf p l [at_]=some (none,e))/\(e=0->MT p/\DsG l/\Kh at_=true/\Yf p l [at_]=some (some (Nn.mk p (Iw l at_)),0)):=by
 obtain⟨e,p1,p2,p3⟩:=Acq p;obtain⟨f,d1,d2,d3⟩:=XW l;unfold Pf Yf;rw[p1,p2];simp only[aG]
 by_cases he:e=0
 ·subst he;simp only[aJ,bN,aO,aR];rw[d1,d2];simp only[aG,Jp,errs2,UC]
  by_cases hf:f=0
  ·subst hf;have hG:=d3 Z;simp only[aJ,bN,aO,aR,ne_eq,not_true_eq_false];rw[Re]
   by_cases hm:Kh at_=true
   ·refine⟨0,by rw[aQ hm],λh=>absurd Z h,λ_=>⟨p3 Z,hG,hm,?_⟩⟩;rw[aP (by simp[hm]),Re,Ep (by rfl)];have hn:nth [at_] (W ((([at_]:List Int).length:Int)-1))=at_:=rfl;rw[hn,PG p l at_ (by have:=hG.len;omega)];rfl
   ·refine⟨1,by rw[aP hm],λ_=>?_,λh=>absurd h aC⟩;rw[aQ (by simpa using hm)]
  ·refine⟨f,by rw[aQ hf],λ_=>?_,λh=>absurd h hf⟩;rw[aQ (by simpa using hf)]
 ·rw[aQ (by simpa using he)];exact⟨e,Z,λ_=>by rw[aQ (by simpa using he)],λh=>absurd h he⟩
def R0:Eh:=Eh.mk An 0 0 0 0 0 0 0
theorem idxN_l(key:ByteArray):∀(l:List Eh) (i:Nat),(∀r∈l,r.Key≠key)->Fz key (-1) l i= -1
 |[],_,_=>rfl
 |x::l,i,h=>by
  rw[Fz]
  unfold Ys
  rw[aP (by simpa using h x aN)]
  exact idxN_l key l (i+1) λr hr=>h r (aM _ hr)
theorem SL{p:Ir}(hp:MT p){l:List Dy}{at_:Int}(hf:IF l)(hs:l.Pairwise λx y=>x.At<=y.At)(race:ByteArray):∃e,Ri p l race at_=some e/\((e≠0/\Xy p (Iw l at_) race=some (R0,e))\/(e=0/\∃r∈p.Races,r.Key=race/\Xy p (Iw l at_) race=some (r,0))):=by
 have hFl:(Iw l at_).length<=l.length:=(BW l at_).length_le;have hl:=hf.len;unfold Ri Xy
 by_cases hex:∃r∈p.Races,r.Key=race
 ·obtain⟨r,hr,hk⟩:=hex;obtain⟨k,e1,e2⟩:=idxR_l race p.Races 0 hp.keys r hr hk;have hidx:Gc p.Races race=(k:Int):=by
   unfold Gc;rw[Jp,e1];simp
  have hk2:k<p.Races.length:=by
   rcases Nat.lt_or_ge k p.Races.length with h|h
   ·exact h
   ·rw[List.getElem?_eq_none h] at e2;cases e2
  have hnth:nth p.Races (k:Int)=r:=by unfold nth;simp[List.getD,e2]
  have hro:(Ho p.Races race).2=true:=by
   unfold Ho;rw[Jp,JM race _ p.Races 0 hp.keys r hr hk]
  rw[hro,hidx,aP aB,aP aB,CV l race at_ hf hs,AY p (Iw l at_) race aA];simp only[aG]
  by_cases hc:300<((BX race (Iw l at_)).length:Int)
  ·rw[aQ (aH hc),aQ (aH hc)];exact⟨2,Z,.inl ⟨by decide,Z⟩⟩
  ·rw[aP (by simpa using hc),aP (by simpa using hc),Ep (Ih.2 aA),hnth];exact⟨0,Z,.inr ⟨Z,r,hr,hk,Z⟩⟩
 ·have hno:∀r∈p.Races,r.Key≠race:=λr hr e=>hex ⟨r,hr,e⟩;have hidx:Gc p.Races race= -1:=by
   unfold Gc;rw[Jp,idxN_l race p.Races 0 hno]
  have hro:(Ho p.Races race).2=false:=by
   unfold Ho;rw[Jp,MU race _ p.Races 0 hno]
  rw[hro,hidx];exact⟨8,Z,.inl ⟨by decide,Z⟩⟩
theorem WT{p:Ir}(hp:MT p){l:List Dy}{at_:Int}(hf:IF l)(hs:l.Pairwise λx y=>x.At<=y.At):∃e,Pk p l at_=some e/\BL p (Iw l at_)=some e:=by
 unfold Pk BL;rw[Jp,Jp];have loop:∀(ys:List Eh) (i:Nat),∃e,Mb p l at_ (some 0) ys i=some e/\Sy p (Iw l at_) (some 0) ys i=some e:=by
  intro ys
  induction ys with
  |nil=>intro i;exact⟨0,Z,Z⟩
  |cons y ys ih=>
   intro i;rw[Mb,Sy];obtain⟨e,h1,h2⟩:=SL hp hf hs (at_:=at_) y.Key;rw[h1];simp only[aG];rcases h2 with ⟨h2,h3⟩|⟨h2,r,_,_,h3⟩
   ·rw[h3];simp only[aG];rw[aQ (by simpa using h2),aQ (by simpa using h2)];exact⟨e,Z,Z⟩
   ·rw[h3,h2];simpa using ih (i+1)
 exact loop p.Races 0
def WU(F:List Dy)(r:Eh):List Ig:=((BX r.Key F).filter λd=>!GA r.Key F d).map λd=>Ig.mk r.Key d.Who
theorem Abd(F:List Dy)(r:Eh):(WU F r).length<=F.length:=by
 unfold WU;rw[aV];have h1:=List.length_filter_le (λd=>!GA r.Key F d) (BX r.Key F);have h2:=HA r.Key F;have h3:=DW r.Key F;omega
theorem YU(p:Ir)(F:List Dy)(r:Eh)(j:List Ig->Option (List Ig×Int)):∀(ys:List Dy) (i:Nat) (x:List Ig),x.length+ys.length<=1000000->Ny p F r j ys i x=j (x++(ys.filter λd=>!GA r.Key F d).map λd=>Ig.mk r.Key d.Who)
 |[],i,x,_=>by simp[Ny]
 |y::ys,i,x,h=>by
  simp only[aT] at h
  have hh:GA r.Key F y=(Tc (swM r.Key F) y.Who).isSome:=rfl
  rw[Ny]
  simp only[Jp,Aar]
  cases hc:(Tc (swM r.Key F) y.Who).isSome with
  |true=>
   rw[aP aB,YU p F r j ys (i+1) x aA,bS (by rw[hh,hc];simp)]
  |false=>
   rw[aQ aB,Ep (by unfold Qi;exact aH aA),YU p F r j ys (i+1) _ aD,bR (by rw[hh,hc];rfl)]
   simp
theorem YV(l:List Dy)(r:Eh)(at_:Int)(hf:IF l)(hs:l.Pairwise λx y=>x.At<=y.At)(j:List Ig->Option (List Ig)):∀(ys:List Dy) (i:Nat) (x:List Ig),x.length+ys.length<=1000000->Kj l r at_ j ys i x=j (x++(ys.filter λd=>!GA r.Key (Iw l at_) d).map λd=>Ig.mk r.Key d.Who)
 |[],i,x,_=>by simp[Kj]
 |y::ys,i,x,h=>by
  simp only[aT] at h
  rw[Kj]
  simp only[Jp]
  rw[VX l r.Key y at_ hf hs]
  simp only[aG]
  cases hc:GA r.Key (Iw l at_) y with
  |true=>
   rw[aP aB,YV l r at_ hf hs j ys (i+1) x aA,bS (by rw[hc];simp)]
  |false=>
   rw[aQ aB,Ep (by unfold Qi;exact aH aA),YV l r at_ hf hs j ys (i+1) _ aD,bR (by rw[hc];rfl)]
   simp
theorem UD{p:Ir}(hp:MT p){l:List Dy}{at_:Int}(hf:IF l)(hs:l.Pairwise λx y=>x.At<=y.At):∃L e,Yu p (Iw l at_)=some (L,e)/\Pk p l at_=some e/\(e≠0->L=[])/\(e=0->Ss p l at_=some L/\L=p.Races.flatMap (WU (Iw l at_))):=by
 have hFl:(Iw l at_).length<=l.length:=(BW l at_).length_le;have hl:=hf.len;obtain⟨e,a1,a2⟩:=WT hp hf hs (at_:=at_);unfold Yu;rw[a2];simp only[aG,Jp]
 by_cases he:e=0
 ·subst he;simp only[aJ,bN,aO,aR];have hel:∀r:Eh,(BX r.Key (Iw l at_)).length<=1000:=λr=>by
   have h2:=HA r.Key (Iw l at_);have h3:=DW r.Key (Iw l at_);omega
  have l1:∀(ys:List Eh) (i:Nat) (x:List Ig),x.length+1000*ys.length<=200000->Mw p (Iw l at_) (λx1=>some (x1,0)) ys i x=some (x++ys.flatMap (WU (Iw l at_)),0):=by
   intro ys
   induction ys with
   |nil=>intro i x _;simp[Mw]
   |cons y ys ih=>
    intro i x hx;simp only[aT] at hx;have h1:=hel y;have h2:=Abd (Iw l at_) y;rw[Mw,AY p _ _ aA];simp only[aG,Jp];rw[YU p _ y _ _ 0 x aA];show Mw p (Iw l at_) _ ys (i+1) (x++WU (Iw l at_) y)=_;rw[ih (i+1) _ (by rw[aU];omega),List.flatMap_cons,List.append_assoc]
  have l2:∀(ys:List Eh) (i:Nat) (x:List Ig),x.length+1000*ys.length<=200000->Jr l at_ (λx1=>some x1) ys i x=some (x++ys.flatMap (WU (Iw l at_))):=by
   intro ys
   induction ys with
   |nil=>intro i x _;simp[Jr]
   |cons y ys ih=>
    intro i x hx;simp only[aT] at hx;have h1:=hel y;have h2:=Abd (Iw l at_) y;rw[Jr,CV l y.Key at_ hf hs];simp only[aG,Jp];rw[YV l y at_ hf hs _ _ 0 x aA];show Jr l at_ _ ys (i+1) (x++WU (Iw l at_) y)=_;rw[ih (i+1) _ (by rw[aU];omega),List.flatMap_cons,List.append_assoc]
  have hpl:=hp.len;refine⟨p.Races.flatMap (WU (Iw l at_)),0,?_,a1,λh=>absurd Z h,λ_=>⟨?_,Z⟩⟩
  ·rw[l1 p.Races 0 [] aD,aZ]
  ·unfold Ss;rw[Jp,l2 p.Races 0 [] aD,aZ]
 ·rw[aQ (by simpa using he)];exact⟨[],e,Z,a1,λ_=>rfl,λh=>absurd h he⟩
def val(f:Eb):Nat:=(f.Num*60 / f.Den).toNat
def sumM(m:List (ByteArray×Nat)):Nat:=(m.map (·.2)).sum
theorem SM{ν:Type}(k:ByteArray)(v:ν):∀(m:List (ByteArray×ν)),(m.map (·.1)).Nodup->((Hv m k v).map (·.1)).Nodup/\∀z,z∈(Hv m k v).map (·.1)↔z=k\/z∈m.map (·.1)
 |[],_=>by simp[Hv]
 |(k',v')::m,h=>by
  rw[aY,bT] at h
  simp only[Hv]
  split
  ·rename_i e
   subst e
   refine⟨by rw[aY,bT];exact h,λz=>?_⟩
   simp only[aY,bB]
   constructor
   ·rintro(h|h)
    ·exact .inl h
    ·exact .inr (.inr h)
   ·rintro(h|h|h)
    ·exact .inl h
    ·exact .inl h
    ·exact .inr h
  ·rename_i hne
   obtain⟨h1,h2⟩:=SM k v m h.2
   rw[aY,bT]
   refine⟨⟨λhm=>?_,h1⟩,λz=>?_⟩
   ·rcases(h2 _).1 hm with e|hm
    ·exact hne e.symm
    ·exact h.1 hm
   ·simp only[aY,bB,h2 z]
    constructor
    ·rintro(h|h|h)
     ·exact .inr (.inl h)
     ·exact .inl h
     ·exact .inr (.inr h)
    ·rintro(h|h|h)
     ·exact .inr (.inl h)
     ·exact .inl h
     ·exact .inr (.inr h)
structure MOk(m:List (ByteArray×Nat))(S:Nat):Prop where
 nodup:(m.map (·.1)).Nodup
 club:∀k∈m.map (·.1),k∈clubP/\k≠An
 sum:sumM m=S
theorem comp1(s:List ByteArray)(hs:s.length<=1000000):∀(ys dn:List ByteArray) (p:ByteArray) (m:Nat),s=dn++p::ys->ys.length<m->Jj s (some s) m ((dn.length+1:Nat):Int)=some (dn++p::nbF p ys)
 |[],dn,p,m,e,h1=>by
  obtain⟨m,rfl⟩:∃q,m=q+1:=⟨m-1,by omega⟩
  have hlen:s.length=dn.length+1:=by rw[e];simp
  rw[Jj,aP (by simp only[aK];omega)]
  simp[nbF,←e]
 |y::ys,dn,p,m,e,h1=>by
  obtain⟨m,rfl⟩:∃q,m=q+1:=⟨m-1,by omega⟩
  simp only[aT] at h1
  have hlen:s.length=dn.length+(ys.length+1+1):=by rw[e];simp
  have w1:W (((dn.length+1:Nat):Int)-1)=(dn.length:Int):=by rw[Ng aA aA];omega
  have n1:nth s (dn.length:Int)=p:=NV (by rw[e];simp)
  have n2:nth s ((dn.length+1:Nat):Int)=y:=NV (by rw[e,List.getElem?_append_right aA];simp)
  rw[Jj,aQ (by simp only[aK];omega),w1,IE (Ih.2 aA),IE (Ih.2 aA),n1,n2]
  by_cases hy:y=p
  ·rw[aQ (aH hy),IE (Tb.2 aA),Jp]
   obtain⟨mid,e1,e2⟩:=TM (dn.length+1) s.length _ (Ku s ((dn.length+1:Nat):Int) (fun(x2:List ByteArray) (x3:Int)=>Chk (Zx x3 (x2.length:Int) x2.length) (Chk (Zx 0 x3 (clr x2 x3 (x2.length:Int) An).length) (some (cut (clr x2 x3 (x2.length:Int) An) (0:Int) x3)))))
    (λ_ _ _ _=>rfl) aA ys (dn++[p]) [] y (((((s.length:Int).toNat-((dn.length+1:Nat):Int).toNat:Nat):Int)-1).toNat+2) 1 (by simp only[bI];omega) aD aA aB
   have e3:dn++[p]++[]++y::ys=s:=by rw[e];simp
   have e4:((dn++[p]).length:Int)=((dn.length+1:Nat):Int):=by simp
   rw[e3,e4] at e1
   refine e1.trans ?_
   obtain⟨c1,c2,c3⟩:=cut_clr (dn++[p]++nbF y ys) mid An
   rw[IE c1,IE c2,c3]
   simp[nbF,hy]
  ·rw[aP (by simpa using hy)]
   have w2:W (((dn.length+1:Nat):Int)+1)=(((dn++[p]).length+1:Nat):Int):=by rw[Ng aA aA];simp
   rw[w2,comp1 s hs ys (dn++[p]) y m (by rw[e];simp) aA]
   simp[nbF,hy]
theorem YW(s:List ByteArray)(hs:s.length<=1000000):So s=some (nb s):=by
 unfold So
 cases s with
 |nil=>rfl
 |cons p ys=>
  by_cases h:((p::ys).length:Int)<2
  ·have:ys=[]:=List.eq_nil_of_length_eq_zero (by simp at h;omega);subst this;rfl
  ·rw[aP (by simpa using h),Jp];have:=comp1 (p::ys) hs ys [] p ((((p::ys).length:Int)-1).toNat+2) Z aB;simpa[nb] using this
theorem UE{α:Type}[DecidableEq α]:∀(r:List α) (p x:α),x∈nbF p r->x∈r
 |[],_,_,h=>by cases h
 |y::r,p,x,h=>by
  unfold nbF at h
  split at h
  ·exact aM _ (UE r y x h)
  ·rcases bB.1 h with rfl|h
   ·simp
   ·exact aM _ (UE r y x h)
theorem Abe{α:Type}[DecidableEq α]:∀(r:List α) (p x:α),x∈r->x=p\/x∈nbF p r
 |[],_,_,h=>by cases h
 |y::r,p,x,h=>by
  unfold nbF
  rcases bB.1 h with rfl|h
  ·split
   ·rename_i e;exact .inl e
   ·exact .inr aB
  ·rcases Abe r y x h with rfl|h2
   ·split
    ·rename_i e;exact .inl e
    ·exact .inr aB
   ·split
    ·exact .inr h2
    ·exact .inr (aM _ h2)
theorem nbF_up:∀(r:List ByteArray) (p:ByteArray),(p::r).Pairwise leB->(p::nbF p r).Pairwise λa b=>cB a b<0
 |[],p,_=>by simp[nbF]
 |y::r,p,h=>by
  rw[List.pairwise_cons] at h
  have hy:=h.1 y aB
  have ih:=nbF_up r y h.2
  unfold nbF
  by_cases e:y=p
  ·rw[aQ e]
   rw[e] at ih ⊢
   exact ih
  ·rw[aP e]
   have h1:cB p y<0:=by
    rcases hy with h|h
    ·exact h
    ·exact absurd h.symm e
   refine List.pairwise_cons.2 ⟨λz hz=>?_,ih⟩;rcases bB.1 hz with rfl|hz
   ·exact h1
   ·rw[List.pairwise_cons] at ih;exact Xd h1 (ih.1 z hz)
theorem cb_le:∀(a b:List UInt8),a<=b->Lib.compareBytes a b<=0
 |[],[],_=>by simp[Lib.compareBytes]
 |[],_::_,_=>by simp[Lib.compareBytes]
 |x::a,[],h=>by
  exact absurd h aB
 |x::a,y::b,h=>by
  rw[Lib.compareBytes]
  rw[List.cons_le_cons_iff] at h
  rcases h with h|⟨rfl,h⟩
  ·rw[aQ h];omega
  ·rw[aP (UInt8.lt_irrefl _),aP (UInt8.lt_irrefl _)]
   exact cb_le a b h
theorem KV(l:List ByteArray):(Ti l).Pairwise leB/\∀x,x∈Ti l↔x∈l:=by
 unfold Ti;constructor
 ·rw[List.pairwise_map];refine(List.pairwise_mergeSort (le:=λx y=>decide (x<=y)) (λa b c h1 h2=>by
   rw[aK] at*;exact List.le_trans h1 h2) (λa b=>by
   rcases List.le_total a b with h|h<;>simp[h]) _).imp ?_
  intro a b h;have:=cb_le a b (of_decide_eq_true h);have e:cB (⟨a.toArray⟩:ByteArray) ⟨b.toArray⟩=Lib.compareBytes a b:=rfl;rcases Int.lt_or_eq_of_le this with h1|h1
  ·exact .inl (by rw[e];exact h1)
  ·exact .inr (BJ (by rw[e];exact h1))
 ·intro x;rw[bD];constructor
  ·rintro⟨a,ha,rfl⟩;rw[List.mem_mergeSort,bD] at ha;obtain⟨y,hy,rfl⟩:=ha;exact hy
  ·intro hx;exact⟨x.data.toList,by rw[List.mem_mergeSort];exact bD.2 ⟨x,hx,Z⟩,Z⟩
def FF(l:List ByteArray):List ByteArray:=nb (Ti l)
theorem Abf(l:List ByteArray):(FF l).Pairwise (λa b=>cB a b<0):=by
 unfold FF;have h:=(KV l).1
 cases e:Ti l with
 |nil=>exact List.Pairwise.nil
 |cons p r=>rw[e] at h;exact nbF_up r p h
theorem PX(l:List ByteArray)(x:ByteArray):x∈FF l↔x∈l:=by
 rw[←(KV l).2 x];unfold FF
 cases e:Ti l with
 |nil=>exact Iff.rfl
 |cons p r=>
  show x∈p::nbF p r↔x∈p::r;constructor
  ·intro h;rcases bB.1 h with rfl|h
   ·simp
   ·exact aM _ (UE r p x h)
  ·intro h;rcases bB.1 h with rfl|h
   ·simp
   ·rcases Abe r p x h with rfl|h
    ·simp
    ·exact aM _ h
theorem UF{ν:Type}(d:ν):∀(m:List (ByteArray×ν)),(m.map (·.1)).Nodup->∀k v,(k,v)∈m↔k∈m.map (·.1)/\Em m k d=v
 |[],_,k,v=>by simp
 |p::m,h,k,v=>by
  rw[aY,bT] at h
  have idx:∀(m:List (ByteArray×ν)) (i j:Nat),(Pn m k i).map (·.2)=(Pn m k j).map (·.2):=by
   intro m
   induction m with
   |nil=>intros;rfl
   |cons q m ih=>
    intro i j;obtain⟨a,b⟩:=q;unfold Pn
    split
    ·rfl
    ·exact ih _ _
  obtain⟨a,b⟩:=p;have hg:Em ((a,b)::m) k d=if k=a then b else Em m k d:=by
   unfold Em Tc;rw[Pn]
   split
   ·rfl
   ·rw[idx m (0+1) 0]
  rw[hg];have ih:=UF d m h.2 k v
  by_cases e:k=a
  ·subst e;rw[aQ Z];constructor
   ·intro hm;rcases bB.1 hm with hm|hm
    ·injection hm with _ e2;exact⟨by simp,e2.symm⟩
    ·exact(h.1 (bD.2 ⟨_,hm,Z⟩)).elim
   ·rintro⟨_,rfl⟩;simp
  ·rw[aP e];constructor
   ·intro hm;rcases bB.1 hm with hm|hm
    ·injection hm with e1 _;exact(e e1).elim
    ·exact⟨aM _ (ih.1 hm).1,(ih.1 hm).2⟩
   ·rintro⟨h1,h2⟩;rcases bB.1 h1 with h1|h1
    ·exact(e h1).elim
    ·exact aM _ (ih.2 ⟨h1,h2⟩)
structure MS(m:List (ByteArray×Eb))(K:ByteArray->Prop)(u:ByteArray->Nat):Prop where
 nd:(m.map (·.1)).Nodup
 keys:∀k,k∈m.map (·.1)↔K k
 vals:∀k,K k->Em m k (Eb.mk 0 0)=frB (u k)
theorem MS.put{m:List (ByteArray×Eb)}{K:ByteArray->Prop}{u:ByteArray->Nat}(h:MS m K u)(k:ByteArray)(v:Nat):MS (Hv m k (frB v)) (λz=>z=k\/K z) (λz=>if z=k then v else u z):=by
 obtain⟨a,b⟩:=SM k (frB v) m h.nd;refine⟨a,λz=>by rw[b z,h.keys z],λz hz=>?_⟩;rw[Yj]
 by_cases e:z=k
 ·rw[aQ e,aQ e]
 ·rw[aP e,aP e];rcases hz with hz|hz
  ·exact(e hz).elim
  ·exact h.vals z hz
theorem MS.congr{m:List (ByteArray×Eb)}{K K':ByteArray->Prop}{u u':ByteArray->Nat}(h:MS m K u)(hk:∀k,K k↔K' k)(hu:∀k,K' k->u k=u' k):MS m K' u':=
 ⟨h.nd,λk=>(h.keys k).trans (hk k),λk hk'=>by rw[h.vals k ((hk k).2 hk'),hu k hk']⟩
end Go.Proofs.YtjlgddkenkpbpaaGreatDoor
