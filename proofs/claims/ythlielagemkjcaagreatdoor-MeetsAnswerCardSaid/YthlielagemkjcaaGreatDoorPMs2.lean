/- What a meet writes of times and ranks is what the reference writes. Conditions: times of at most an hour. -/
import Derived.Test.YthlielagemkjcaaGreatDoorPFracB
import Derived.Lib.ItoaLen
namespace Go.Proofs.YthlielagemkjcaaGreatDoor
open Go
structure TR(t:Il):Prop where
 len:t.Points.length<=40
 rng:∀n∈t.Points,0<=n/\n<=10000
 rel:1<=t.Relay/\t.Relay<=10
def mkr(x:Fd):Fl:=Fl.mk x BV
theorem Ajj{x:Fd}(h:RR x):(decide (x.Rank=0)||decide (x.Club=Ff))= !Gg x:=by
 unfold Gg;have:=h.1
 by_cases a:x.Rank=0
 ·simp[a]
 ·have:0<x.Rank:=by omega
  simp[a,this]
def Pl(n:Nat)(x2:List Int):Prop:=(∀s∈x2,0<=s/\s<n)/\x2.Pairwise λa b=>a<b
theorem nth_app{α:Type}[Inhabited α]{l r:List α}{s:Int}(h0:0<=s)(h:s<l.length):nth (l++r) s=nth l s:=by
 unfold nth;rw[List.getD_eq_getElem?_getD,List.getD_eq_getElem?_getD,List.getElem?_append_left aA]
theorem ZA(t:Il)(r:ByteArray):∀(ys:List Fd) (m:List (ByteArray×Int)) (x2:List Int) (cs:List Fd),(∀y∈ys,y.Race=r/\RR y)->Pl cs.length x2->cs.length+ys.length<=1000->x2.length<=cs.length->
 ∃m' x2',Pl (cs++ys.filter Gg).length x2'/\x2'.length<=(cs++ys.filter Gg).length/\(∀j i,Su t j ys i m x2 (cs.map mkr)=j m' x2' ((cs++ys.filter Gg).map mkr))/\
  (∀x j i,x.Race=r->Gx x t j ys i m (x2.map (nth cs))=j m' (x2'.map (nth (cs++ys.filter Gg))))
 |[],m,x2,cs,_,h2,_,h4=>⟨m,x2,by simpa using h2,by simpa using h4,λj i=>by simp[Su],λx j i _=>by simp[Gx]⟩
 |y::ys,m,x2,cs,h1,h2,h3,h4=>by
  obtain⟨hr,hrr⟩:=h1 y aN
  have hys:=λz hz=>h1 z (aM y hz)
  simp only[aT] at h3
  have hnc:=Ajj hrr
  cases hc:Gg y with
  |false=>
   rw[hc] at hnc
   obtain⟨m',x2',g1,g2,g3,g4⟩:=ZA t r ys m x2 cs hys h2 aA h4
   rw[bS (by simp[hc])]
   refine⟨m',x2',g1,g2,λj i=>?_,λx j i hx=>?_⟩
   ·rw[Su,hnc];simp only[Hg,Bool.not_false,aS];exact g3 j (i+1)
   ·rw[Gx,Bool.or_assoc,hnc];simp only[Hg,Bool.not_false,Bool.or_true,aS];exact g4 x j (i+1) hx
  |true=>
   rw[hc] at hnc
   have hf:(y::ys).filter Gg=y::ys.filter Gg:=bR (by simp[hc])
   have eA:cs++y::ys.filter Gg=(cs++[y])++ys.filter Gg:=by simp
   have hcs:(cs++[y]).map mkr=cs.map mkr++[Fl.mk y BV]:=by simp[mkr]
   have hsame:x2.map (nth (cs++[y]))=x2.map (nth cs):=List.map_congr_left λs hs=>nth_app (h2.1 s hs).1 (h2.1 s hs).2
   rw[hf,eA]
   have P0:Pl (cs++[y]).length x2:=⟨λs hs=>by have:=h2.1 s hs;simp;omega,h2.2⟩
   have P1:Pl (cs++[y]).length (x2++[(cs.length:Int)]):=by
    refine⟨λs hs=>?_,?_⟩
    ·rcases bC.1 hs with hs|hs
     ·have:=h2.1 s hs;simp;omega
     ·obtain rfl:=bA.1 hs;simp;omega
    ·rw[bK];exact⟨h2.2,by simp,λa ha b hb=>by obtain rfl:=bA.1 hb;exact(h2.1 a ha).2⟩
   have hnew:(x2++[(cs.length:Int)]).map (nth (cs++[y]))=x2.map (nth cs)++[y]:=by
    rw[List.map_append,hsame];simp[nth]
   have hrace:∀x:Fd,x.Race=r->(((!decide (y.Race=x.Race))||(decide (y.Rank=0)))||(decide (y.Club=Ff)))=false:=λx hx=>by
    rw[Bool.or_assoc,hnc,hr,hx];simp
   cases hm:((decide (t.Most=0))||(decide ((Gm (Iv m y.Club (W ((Gm m y.Club 0)+1))) y.Club 0)<=t.Most))) with
   |true=>
    obtain⟨m',x2',g1,g2,g3,g4⟩:=ZA t r ys (Iv m y.Club (W ((Gm m y.Club 0)+1))) (x2++[(cs.length:Int)]) (cs++[y]) hys P1 aD aD;refine⟨m',x2',g1,g2,λj i=>?_,λx j i hx=>?_⟩
    ·rw[Su,hnc];simp only[Hg,bN,aO,aR,hm,aS];rw[Fm (by unfold Ja;simp;omega),Fm (by unfold Ja;simp;omega),aV,←hcs];exact g3 j (i+1)
    ·rw[Gx,hrace x hx];simp only[Hg,aO,aR,hm,aS];rw[Fm (by unfold Ja;simp;omega),←hnew];exact g4 x j (i+1) hx
   |false=>
    obtain⟨m',x2',g1,g2,g3,g4⟩:=ZA t r ys (Iv m y.Club (W ((Gm m y.Club 0)+1))) x2 (cs++[y]) hys P0 aD aD;refine⟨m',x2',g1,g2,λj i=>?_,λx j i hx=>?_⟩
    ·rw[Su,hnc];simp only[Hg,bN,aO,aR,hm];rw[Fm (by unfold Ja;simp;omega),←hcs];exact g3 j (i+1)
    ·rw[Gx,hrace x hx];simp only[Hg,aO,aR,hm];rw[←hsame];exact g4 x j (i+1) hx
theorem XH(x:Fd)(t:Il)(j:List (ByteArray×Int)->List Fd->Option Fh):∀(A B:List Fd) (i:Nat) (m:List (ByteArray×Int)) (s:List Fd),
 Gx x t j (A++B) i m s=Gx x t (λm' s'=>Gx x t j B 0 m' s') A i m s
 |[],B,i,m,s=>by
  have idx:∀(B:List Fd) (i k:Nat) (m:List (ByteArray×Int)) (s:List Fd),Gx x t j B i m s=Gx x t j B k m s:=by
   intro B
   induction B with
   |nil=>intros;rfl
   |cons b B ih=>
    intro i k m s;rw[Gx,Gx];simp only[Hg,ih (i+1) (k+1)]
  exact idx B i 0 m s
 |a::A,B,i,m,s=>by
  rw[List.cons_append,Gx,Gx];simp only[Hg,XH x t j A B (i+1)]
theorem UH(x:Fd)(t:Il)(j:List (ByteArray×Int)->List Fd->Option Fh):∀(A:List Fd) (i:Nat) (m:List (ByteArray×Int)) (s:List Fd),(∀a∈A,a.Race≠x.Race)->Gx x t j A i m s=j m s
 |[],_,_,_,_=>rfl
 |a::A,i,m,s,h=>by
  rw[Gx,Hg,aQ (by simp[h a aN])]
  exact UH x t j A (i+1) m s (λb hb=>h b (aM _ hb))
def FV(t:Il)(r:Int):List Fd->Nat->Int
 |[],_=>0
 |s::sw,k=>(if s.Rank=r/\k<t.Points.length then nth t.Points (k:Int) else 0)+FV t r sw (k+1)
def Rp(r:Int)(sw:List Fd):Nat:=sw.countP λs=>decide (s.Rank=r)
theorem Agf{t:Il}(ht:TR t){k:Nat}(hk:k<t.Points.length):0<=nth t.Points (k:Int)/\nth t.Points (k:Int)<=10000:=ht.rng _ (List.mem_of_getElem? (Gd (Fy.2 aA)).1)
theorem ZB{t:Il}(ht:TR t)(r:Int):∀(sw:List Fd) (k:Nat),0<=FV t r sw k/\FV t r sw k<=10000*sw.length
 |[],_=>by simp[FV]
 |s::sw,k=>by
  have ih:=ZB ht r sw (k+1)
  rw[FV,aT]
  split
  ·rename_i h;have:=Agf ht h.2;omega
  ·omega
theorem WD(x:Fd){t:Il}(ht:TR t)(j:Int->Int->Option Fh):∀(ys:List Fd) (k:Nat) (a n:Int),0<=a->a+10000*ys.length<=100000000->0<=n->n+ys.length<=100000000->
 Oe x t j ys k a n=j (a+FV t x.Rank ys k) (n+Rp x.Rank ys)
 |[],k,a,n,_,_,_,_=>by simp[Oe,FV,Rp]
 |y::ys,k,a,n,h1,h2,h3,h4=>by
  simp only[aT] at h2 h4
  rw[Oe,FV]
  simp only[Hg]
  have hc:(Rp x.Rank (y::ys):Int)=(if y.Rank=x.Rank then 1 else 0)+Rp x.Rank ys:=by
   unfold Rp;rw[List.countP_cons]
   by_cases h:y.Rank=x.Rank
   ·simp[h];omega
   ·simp[h]
  rw[hc]
  by_cases h:y.Rank=x.Rank
  ·rw[aQ (aH h),aQ h,Hl (n:=n+1) aA aA]
   by_cases hk:k<t.Points.length
   ·have:=Agf ht hk;rw[aQ (by simpa using hk),aQ ⟨h,hk⟩,Fm (Fy.2 aA),Hl aA aA,WD x ht j ys (k+1) _ _ aA aA aA aA]
    congr 1<;>omega
   ·rw[aP (by simpa using hk),aP (λe=>hk e.2),WD x ht j ys (k+1) _ _ aA aA aA aA]
    congr 1<;>omega
  ·rw[aP (by simpa using h),aP h,aP (λe=>h e.1),WD x ht j ys (k+1) _ _ aA aA aA aA]
   congr 1<;>omega
def valR(t:Il)(rel:Bool)(sw:List Fd)(r:Int):Option Fh:=Nr (if rel then FV t r sw 0*t.Relay else FV t r sw 0) (Rp r sw)
theorem ZD(t:Il)(r:Int):∀(ys:List Fd) (k:Nat),(∀z∈ys,z.Rank≠r)->FV t r ys k=0/\Rp r ys=0
 |[],_,_=>⟨rfl,rfl⟩
 |y::ys,k,h=>by
  obtain⟨a,b⟩:=ZD t r ys (k+1) λz hz=>h z (aM _ hz)
  have hy:=h y aN
  refine⟨by rw[FV,a,aP (λe=>hy e.1)];rfl,?_⟩
  unfold Rp at b ⊢
  rw[List.countP_cons,b];simp[hy]
theorem Aot(t:Il)(r:Int):∀(A B:List Fd) (k:Nat),FV t r (A++B) k=FV t r A k+FV t r B (k+A.length)
 |[],B,k=>by simp[FV]
 |a::A,B,k=>by
  rw[List.cons_append,FV,FV,Aot t r A B (k+1),aT,show k+(A.length+1)=k+1+A.length by omega];omega
theorem Uu{α:Type}[Inhabited α]{l:List α}{p:Nat}(h:p<l.length):nth l (p:Int)=l[p]:=by
 unfold nth;rw[bI,List.getD_eq_getElem?_getD,List.getElem?_eq_getElem h];rfl
section
variable {t:Il}(ht:TR t){x2:List Int}{cs:List Fd}(hp:Pl cs.length x2)(hl:x2.length<=1000)
include hp in
theorem Pl.at{p:Nat}(h:p<x2.length):0<=nth x2 (p:Int)/\nth x2 (p:Int)<cs.length:=by
 rw[Uu h];exact hp.1 _ (List.getElem_mem h)
include hp in
theorem Pl.lt{p q:Nat}(h:p<q)(hq:q<x2.length):nth x2 (p:Int)<nth x2 (q:Int):=by
 rw[Uu hq,Uu aA];exact List.pairwise_iff_getElem.1 hp.2 p q aA hq h
theorem Aou{q:Nat}(h:q<x2.length):(x2.map (nth cs)).drop q=nth cs (nth x2 (q:Int))::(x2.map (nth cs)).drop (q+1):=by
 rw[List.drop_eq_getElem_cons (by simpa using h)]
 congr 1
 rw[List.getElem_map,Uu h]
include ht hp hl in
theorem Amb{x8:List Fl}(hx:x8.length=cs.length)(hr:∀s:Int,0<=s->s<cs.length->(nth x8 s).x_=nth cs s)(hs:(x2.map (nth cs)).Pairwise λa b=>a.Rank<=b.Rank)(i:Nat)(hi:i<x2.length)(j:Int->Int->Option (List Fl)):
 ∀(d m q:Nat) (acc:Int),x2.length=q+d->d<m->0<=acc->acc+10000*d<=100000000->(∀z∈(x2.map (nth cs)).drop q,(nth cs (nth x2 (i:Int))).Rank<=z.Rank)->
  Zk t x2 x8 (i:Int) j m (q:Int) acc=j ((q+Rp (nth cs (nth x2 (i:Int))).Rank ((x2.map (nth cs)).drop q):Nat):Int) (acc+FV t (nth cs (nth x2 (i:Int))).Rank ((x2.map (nth cs)).drop q) q)
 |d,0,q,acc,_,h,_,_,_=>by omega
 |d,m+1,q,acc,h1,h2,h3,h4,h5=>by
  rw[Zk]
  by_cases hq:q<x2.length
  ·have hd:=Aou (cs:=cs) hq
   have pq:=hp.at hq
   have pi:=hp.at hi
   have hin:=Fy.2 (show 0<=(q:Int)/\(q:Int)<x2.length by omega)
   have hin2:=Fy.2 (show 0<=nth x2 (q:Int)/\nth x2 (q:Int)<x8.length by omega)
   have hin3:=Fy.2 (show 0<=(i:Int)/\(i:Int)<x2.length by omega)
   have hin4:=Fy.2 (show 0<=nth x2 (i:Int)/\nth x2 (i:Int)<x8.length by omega)
   have hlt:decide ((q:Int)<(x2.length:Int))=true:=aH aA
   simp only[Hg,hlt,aS,bO,Fm hin,Fm hin2,Fm hin3,Fm hin4,hr _ pq.1 pq.2,hr _ pi.1 pi.2]
   have hc:∀(A:List Fd) (z:Fd) (r:Int),(Rp r (z::A))=(if z.Rank=r then 1 else 0)+Rp r A:=by
    intro A z r;unfold Rp;rw[List.countP_cons]
    by_cases h:z.Rank=r
    ·simp[h];omega
    ·simp[h]
   by_cases e:(nth cs (nth x2 (q:Int))).Rank=(nth cs (nth x2 (i:Int))).Rank
   ·rw[aQ (aH e)];have hW:W ((q:Int)+1)=((q+1:Nat):Int):=by rw[Hl aA aA];omega
    have low:∀z∈(x2.map (nth cs)).drop (q+1),(nth cs (nth x2 (i:Int))).Rank<=z.Rank:=λz hz=>h5 z (by rw[hd];exact aM _ hz);rw[hd,hc,FV,aQ e,hW]
    by_cases hk:q<t.Points.length
    ·have:=Agf ht hk;rw[aQ (by simpa using hk),aQ ⟨e,hk⟩,Fm (Fy.2 aA),Hl aA aA,Amb hx hr hs i hi j (d-1) m (q+1) _ aA aA aA aA low]
     congr 1<;>omega
    ·rw[aP (by simpa using hk),aP (λe=>hk e.2),Amb hx hr hs i hi j (d-1) m (q+1) _ aA aA aA aA low]
     congr 1<;>omega
   ·rw[aP (by simpa using e)];have none:∀z∈(x2.map (nth cs)).drop q,z.Rank≠(nth cs (nth x2 (i:Int))).Rank:=by
     intro z hz;have h0:=h5 (nth cs (nth x2 (q:Int))) (by rw[hd];exact aN);have hsd:=hs.sublist (List.drop_sublist q _);rw[hd] at hz hsd;rcases bB.1 hz with rfl|hz
     ·exact e
     ·have:=(List.pairwise_cons.1 hsd).1 z hz;omega
    obtain⟨a,b⟩:=ZD t _ _ q none;rw[a,b];congr 1;omega
  ·rw[List.drop_eq_nil_of_le aD];have hlt:decide ((q:Int)<(x2.length:Int))=false:=aI aA;simp[Hg,hq,FV,Rp]
include hp in
theorem set_l4(i k:Nat)(hk:k<=x2.length)(hl:x2.length<=1000)(a:Int)(V:Fh)(hV:Nr a (W ((k:Int)-(i:Int)))=some V)(j:List Fl->Option (List Fl)):∀(d m q:Nat) (x15:List Fl),k=i+q+d->d<m->x15.length=cs.length->
 ∃out,Sv (k:Int) (i:Int) a x2 j m x15 (q:Int)=j out/\out.length=cs.length/\(∀p:Nat,i+q<=p->p<k->nth out (nth x2 (p:Int))=Fl.mk (nth x15 (nth x2 (p:Int))).x_ V)/\
  (∀s:Int,0<=s->s<cs.length->(∀p:Nat,i+q<=p->p<k->nth x2 (p:Int)≠s)->nth out s=nth x15 s)
 |d,0,q,x15,_,h,_=>by omega
 |d,m+1,q,x15,h1,h2,h3=>by
  rw[Sv]
  have hki:((k:Int).toNat-(i:Int).toNat)=k-i:=by simp
  rw[hki]
  by_cases hq:i+q<k
  ·rw[aQ (aH aA),Fm (Fy.2 aA),hV,aG]
   have hn:nth (cut x2 (i:Int) (k:Int)) (q:Int)=nth x2 ((i+q:Nat):Int):=by
    unfold nth cut;rw[bI,bI,bI,bI,List.getD_eq_getElem?_getD,List.getD_eq_getElem?_getD,List.getElem?_drop,List.getElem?_take_of_lt aA]
   have pq:=hp.at (p:=i+q) aA;have hW:W ((q:Int)+1)=((q+1:Nat):Int):=by rw[Hl aA aA];omega
   rw[hn,Fm (Fy.2 aA),hW];obtain⟨out,e1,e2,e3,e4⟩:=set_l4 i k hk hl a V hV j (d-1) m (q+1) (x15.set (nth x2 ((i+q:Nat):Int)).toNat (Fl.mk (nth x15 (nth x2 ((i+q:Nat):Int))).x_ V)) aA aA (by rw[List.length_set];exact h3);refine⟨out,e1,e2,λp hp1 hp2=>?_,λs h0 hs hno=>?_⟩
   ·rcases Nat.lt_or_ge (i+q) p with g|g
    ·rw[e3 p aA hp2,Afy pq.1 aA (hp.at (p:=p) aA).1,aP];have:=hp.lt g aA;omega
    ·obtain rfl:p=i+q:=by omega
     rw[e4 _ pq.1 pq.2 (λp' h1 h2=>by have:=hp.lt (p:=i+q) (q:=p') aA aA;omega),Afy pq.1 aA pq.1,aQ rfl]
   ·rw[e4 s h0 hs (λp h1 h2=>hno p aA h2),Afy pq.1 aA h0,aP];exact λe=>hno (i+q) aA aA e.symm
  ·rw[aP aD];exact⟨x15,rfl,h3,λp _ _=>by omega,λ_ _ _ _=>rfl⟩
include ht in
theorem Aei(rel:Bool){sw:List Fd}(hsl:sw.length<=1000){r:Int}(hc:0<Rp r sw):∃a:Nat,(a:Int)=(if rel then FV t r sw 0*t.Relay else FV t r sw 0)/\a<=100000*sw.length/\valR t rel sw r=some ⟨((a / Nat.gcd a (Rp r sw):Nat):Int),((Rp r sw / Nat.gcd a (Rp r sw):Nat):Int)⟩:=by
 have h:=ZB ht r sw 0;have hn:Rp r sw<=sw.length:=List.countP_le_length;have hr:=ht.rel;have hA:0<=(if rel then FV t r sw 0*t.Relay else FV t r sw 0)/\(if rel then FV t r sw 0*t.Relay else FV t r sw 0)<=100000*sw.length:=by
  cases rel with
  |false=>simp only[aO,aR];omega
  |true=>
   simp only[aS];refine⟨Int.mul_nonneg h.1 aA,?_⟩;have:=Int.mul_le_mul h.2 hr.2 aA aA;omega
 obtain⟨a,ha⟩:=Int.eq_ofNat_of_zero_le hA.1;refine⟨a,ha.symm,by omega,?_⟩;unfold valR;rw[ha];exact Afw a _ hc aA aA
include ht hp hl in
theorem run_l2{g:List Fd}(hg:g≠[])(rel:Bool)(hrel:(nth g 0).Relay=rel)(hs:(x2.map (nth cs)).Pairwise λa b=>a.Rank<=b.Rank)(j:List Fl->Option (List Fl)):∀(d m i:Nat) (x8:List Fl),x2.length=i+d->d<m->x8.length=cs.length->
 (∀s:Int,0<=s->s<cs.length->(nth x8 s).x_=nth cs s)->(∀z∈(x2.map (nth cs)).take i,∀y∈(x2.map (nth cs)).drop i,z.Rank<y.Rank)->
 ∃out,Rg x2 g t j m x8 (i:Int)=j out/\out.length=cs.length/\(∀s:Int,0<=s->s<cs.length->(nth out s).x_=nth cs s)/\
  (∀p:Nat,i<=p->p<x2.length->valR t rel (x2.map (nth cs)) (nth cs (nth x2 (p:Int))).Rank=some (nth out (nth x2 (p:Int))).points_)/\
  (∀s:Int,0<=s->s<cs.length->(∀p:Nat,i<=p->p<x2.length->nth x2 (p:Int)≠s)->nth out s=nth x8 s)
 |d,0,i,x8,_,h,_,_,_=>by omega
 |d,m+1,i,x8,h1,h2,h3,h4,h5=>by
  rw[Rg]
  by_cases hi:i<x2.length
  ·have hd:=Aou (cs:=cs) hi
   obtain⟨r,hr⟩:∃r,r=(nth cs (nth x2 (i:Int))).Rank:=⟨_,rfl⟩
   obtain⟨sw,hsw⟩:∃sw,sw=x2.map (nth cs):=⟨_,rfl⟩
   have hswl:sw.length=x2.length:=by rw[hsw,aV]
   rw[←hsw] at hd hs h5
   have hsd:=hs.sublist (List.drop_sublist i _)
   have low:∀z∈sw.drop i,r<=z.Rank:=λz hz=>by
    rw[hd] at hz hsd
    rcases bB.1 hz with rfl|hz
    ·omega
    ·rw[hr];exact(List.pairwise_cons.1 hsd).1 z hz
   obtain⟨k,hk⟩:∃k,k=i+Rp r (sw.drop i):=⟨_,rfl⟩
   have hcl:Rp r (sw.drop i)<=(sw.drop i).length:=List.countP_le_length
   rw[List.length_drop] at hcl
   have hc1:0<Rp r (sw.drop i):=by
    rw[hd];unfold Rp;rw[List.countP_cons,aQ (by simp[hr])];omega
   have pre:=ZD t r (sw.take i) 0 (λz hz e=>by
    have:=h5 z hz (nth cs (nth x2 (i:Int))) (by rw[hd];exact aN);omega)
   have hsum:FV t r sw 0=FV t r (sw.drop i) i:=by
    have e:=Aot t r (sw.take i) (sw.drop i) 0;rw[List.take_append_drop,pre.1,List.length_take,Nat.min_eq_left aA,Int.zero_add,Nat.zero_add] at e;exact e
   have hcnt:Rp r sw=Rp r (sw.drop i):=by
    have e:Rp r (sw.take i++sw.drop i)=Rp r (sw.take i)+Rp r (sw.drop i):=List.countP_append;rw[List.take_append_drop,pre.2,Nat.zero_add] at e;exact e
   have hsr:=ZB ht r sw 0;obtain⟨a,ha,ha2,hV⟩:=Aei (t:=t) ht rel (sw:=sw) aA (r:=r) aA;obtain⟨V,hVV⟩:∃V,valR t rel sw r=some V:=⟨_,hV⟩;have hlt:decide ((i:Int)<(x2.length:Int))=true:=aH aA;have hg0:inB 0 g.length=true:=Fy.2 ⟨Int.le_refl _,by cases g with|nil=>exact(hg rfl).elim|cons a b=>simp⟩;simp only[Hg,hlt,aS];have e3:=Amb ht hp hl h3 h4 (by rw[←hsw];exact hs) i hi (fun(x10:Int) (x11:Int)=>Chk (inB 0 g.length) (if(nth g 0).Relay=true then Chk (Tv (i:Int) x10 x2.length) (Sv x10 (i:Int) (W (x11*t.Relay)) x2 (fun(x15:List Fl)=>Rg x2 g t j m x15 x10) ((((x10.toNat-(i:Int).toNat:Nat):Int)-0).toNat+2) x8 0) else Chk (Tv (i:Int) x10 x2.length) (Sv x10 (i:Int) x11 x2 (fun(x15:List Fl)=>Rg x2 g t j m x15 x10) ((((x10.toNat-(i:Int).toNat:Nat):Int)-0).toNat+2) x8 0))) d (((x2.length:Int)-(i:Int)).toNat+2) i 0 h1 aA aA aA (by rw[←hsw,←hr];exact low);rw[←hsw,←hr,Int.zero_add,←hsum,←hk] at e3;rw[e3];have hcut:Tv (i:Int) (k:Int) x2.length=true:=Lc.2 aA;rw[Fm hg0,Fm hcut,Fm hcut,hrel];have hfr:Nr (a:Int) (W ((k:Int)-(i:Int)))=some V:=by
    rw[Hl aA aA,show (k:Int)-(i:Int)=((Rp r sw:Nat):Int) by omega];rw[←hVV];unfold valR;rw[ha]
   have rest:∃out,Sv (k:Int) (i:Int) (a:Int) x2 (fun(x15:List Fl)=>Rg x2 g t j m x15 (k:Int)) (((((k:Int).toNat-(i:Int).toNat:Nat):Int)-0).toNat+2) x8 0=j out/\out.length=cs.length/\(∀s:Int,0<=s->s<cs.length->(nth out s).x_=nth cs s)/\
    (∀p:Nat,i<=p->p<x2.length->valR t rel sw (nth cs (nth x2 (p:Int))).Rank=some (nth out (nth x2 (p:Int))).points_)/\
    (∀s:Int,0<=s->s<cs.length->(∀p:Nat,i<=p->p<x2.length->nth x2 (p:Int)≠s)->nth out s=nth x8 s):=by
    obtain⟨o1,q1,q2,q3,q4⟩:=set_l4 hp i k aA hl (a:Int) V hfr (fun(x15:List Fl)=>Rg x2 g t j m x15 (k:Int)) (k-i) (((((k:Int).toNat-(i:Int).toNat:Nat):Int)-0).toNat+2) 0 x8 aA aB h3;rw[Nat.add_zero] at q3 q4;have o1x:∀s:Int,0<=s->s<cs.length->(nth o1 s).x_=nth cs s:=λs h0 hs'=>by
     rcases Classical.em (∃p:Nat,i<=p/\p<k/\nth x2 (p:Int)=s) with ⟨p,p1,p2,rfl⟩|hno
     ·rw[q3 p p1 p2];exact h4 _ h0 hs'
     ·rw[q4 s h0 hs' (λp p1 p2 e=>hno ⟨p,p1,p2,e⟩)];exact h4 s h0 hs'
    have inrun:∀p:Nat,i<=p->p<x2.length->((nth cs (nth x2 (p:Int))).Rank=r↔p<k):=by
     have gen:∀(l:List Fd),l.Pairwise (λa b=>a.Rank<=b.Rank)->(∀z∈l,r<=z.Rank)->∀(q:Nat) (hq:q<l.length),(l[q]).Rank=r↔q<Rp r l:=by
      intro l
      induction l with
      |nil=>intro _ _ q hq;simp at hq
      |cons z l ih=>
       intro hs1 hl1 q hq;obtain⟨s1,s2⟩:=List.pairwise_cons.1 hs1
       by_cases hz:z.Rank=r
       ·have e:Rp r (z::l)=Rp r l+1:=by unfold Rp;rw[List.countP_cons,aQ (by simp[hz])]
        rw[e]
        cases q with
        |zero=>simp[hz]
        |succ q=>
         have:=ih s2 (λy hy=>hl1 y (aM _ hy)) q (by simpa using hq);rw[List.getElem_cons_succ,this];omega
       ·have all:∀y∈z::l,y.Rank≠r:=λy hy=>by
         have h0:=hl1 z aN;rcases bB.1 hy with rfl|hy
         ·exact hz
         ·have:=s1 y hy;omega
        rw[(ZD t r _ 0 all).2];have:=all _ (List.getElem_mem hq);simp[this]
     intro p hp1 hp2;have:=gen (sw.drop i) hsd low (p-i) (by rw[List.length_drop];omega);rw[List.getElem_drop] at this;have e:sw[i+(p-i)]'(by omega)=nth cs (nth x2 (p:Int)):=by
      subst hsw;rw[List.getElem_map,Uu hp2]
      congr 2;omega
     rw[e] at this;rw[this];omega
    have h5':∀z∈sw.take k,∀y∈sw.drop k,z.Rank<y.Rank:=by
     intro z hz y hy;obtain⟨u,hu⟩:=List.getElem?_of_mem hz;obtain⟨v,hv⟩:=List.getElem?_of_mem hy;have hul:=(List.getElem?_eq_some_iff.1 hu).1;rw[List.length_take] at hul;rw[List.getElem?_take_of_lt aA] at hu;rw[List.getElem?_drop] at hv;have hvl:=(List.getElem?_eq_some_iff.1 hv).1;have ge:∀(q:Nat) (w:Fd),sw[q]? =some w->q<x2.length/\w=nth cs (nth x2 (q:Int)):=by
      intro q w hw;obtain⟨hq,rfl⟩:=List.getElem?_eq_some_iff.1 hw;subst hsw;refine⟨by simpa using hq,?_⟩;rw[List.getElem_map,Uu (by simpa using hq)]
     obtain⟨v1,rfl⟩:=ge _ _ hv;obtain⟨u1,rfl⟩:=ge _ _ hu;have hy2:=inrun (k+v) aA v1;have hyr:r<=(nth cs (nth x2 ((k+v:Nat):Int))).Rank:=low _ (by
      rw[hsw];refine List.mem_drop_iff_getElem.2 ⟨k+v-i,by simp;omega,?_⟩;rw[List.getElem_map,Uu v1];congr 2;omega)
     have hne:(nth cs (nth x2 ((k+v:Nat):Int))).Rank≠r:=λe=>by have:=hy2.1 e;omega
     rcases Nat.lt_or_ge u i with g1|g1
     ·exact h5 _ (by
       rw[hsw];refine List.mem_take_iff_getElem.2 ⟨u,by simp;omega,?_⟩;rw[List.getElem_map,Uu u1]) _ (by
       rw[hsw];refine List.mem_drop_iff_getElem.2 ⟨k+v-i,by simp;omega,?_⟩;rw[List.getElem_map,Uu v1];congr 2;omega)
     ·have:=(inrun u g1 u1).2 aA;omega
    obtain⟨out,w1,w2,w3,w4,w5⟩:=run_l2 hg rel hrel (by rw[←hsw];exact hs) j (x2.length-k) m k o1 aA aA q2 o1x (by rw[←hsw];exact h5');rw[←hsw] at w4;refine⟨out,q1.trans w1,w2,w3,λp hp1 hp2=>?_,λs h0 hs' hno=>?_⟩
    ·rcases Nat.lt_or_ge p k with g1|g1
     ·have pp:=hp.at hp2;rw[w5 _ pp.1 pp.2 (λp' a1 a2=>by have:=hp.lt (p:=p) (q:=p') aA a2;omega),q3 p hp1 g1,(inrun p hp1 hp2).2 g1,hVV]
     ·exact w4 p g1 hp2
    ·rw[w5 s h0 hs' (λp a1 a2=>hno p aA a2),q4 s h0 hs' (λp a1 a2=>hno p a1 aA)]
   cases rel with
   |true=>
    rw[aQ rfl];simp only[aS] at ha;rw[←ha,Hl aA aA];rw[←hsw];exact rest
   |false=>
    rw[aP aB];simp only[aO,aR] at ha;rw[←ha];rw[←hsw];exact rest
  ·have hlt:decide ((i:Int)<(x2.length:Int))=false:=aI aA;rw[hlt,aP aB];exact⟨x8,rfl,h3,h4,λp _ _=>by omega,λ_ _ _ _=>rfl⟩
end
theorem Ajk(v:Fd):∀(l:List Fd),Qe l v=decide (v∈l):=by
 intro l;unfold Qe Za;simp only[Hg];have gen:∀(l:List Fd) (i:Nat),decide (0<=Nn v (-1) l i)=decide (v∈l):=by
  intro l
  induction l with
  |nil=>intro i;simp[Nn]
  |cons y l ih=>
   intro i;rw[Nn]
   by_cases h:v=y
   ·rw[aQ (aH h)];simp[h]
   ·rw[aP (by simpa using h),ih (i+1)];simp[h]
 exact gen l 0
theorem UI:∀(cs:List Fd) (k:Int) (x2:List Int),(∀s∈x2,k<=s/\s<k+cs.length)->x2.Pairwise (λa b=>a<b)->(x2.map λs=>nth cs (s-k)).Sublist cs
 |[],k,x2,h,_=>by
  cases x2 with
  |nil=>exact .slnil
  |cons s x2=>have:=h s aN;simp at this;omega
 |c::cs,k,x2,h,hp=>by
  have sh:∀(x:List Int),(∀s∈x,k+1<=s/\s<k+1+cs.length)->(x.map λs=>nth (c::cs) (s-k))=x.map λs=>nth cs (s-(k+1)):=λx hx=>List.map_congr_left λs hs=>by
   have:=hx s hs
   unfold nth
   rw[show (s-k).toNat=(s-(k+1)).toNat+1 by omega];rfl
  cases x2 with
  |nil=>exact List.nil_sublist _
  |cons s x2=>
   obtain⟨p1,p2⟩:=List.pairwise_cons.1 hp
   have hs:=h s aN
   simp only[aT] at h hs
   have tl:∀z∈x2,k+1<=z/\z<k+1+cs.length:=λz hz=>by
    have a:=h z (aM _ hz);have b:=p1 z hz;omega
   by_cases e:s=k
   ·subst e
    rw[aY,sh x2 tl]
    have:nth (c::cs) (s-s)=c:=by rw[Int.sub_self];rfl
    rw[this]
    exact(UI cs (s+1) x2 tl p2).cons_cons c
   ·have all:∀z∈s::x2,k+1<=z/\z<k+1+cs.length:=λz hz=>by
     rcases bB.1 hz with rfl|hz
     ·omega
     ·exact tl z hz
    rw[sh _ all]
    exact(UI cs (k+1) (s::x2) all hp).cons c
def Pts(f:Fh):Prop:=∃v,v<=4000000000/\f=frB v
theorem div2520{N:Nat}(h1:1<=N)(h2:N<=10):2520 / N*N=2520:=by
 have:N=1\/N=2\/N=3\/N=4\/N=5\/N=6\/N=7\/N=8\/N=9\/N=10:=by omega
 rcases this with rfl|rfl|rfl|rfl|rfl|rfl|rfl|rfl|rfl|rfl<;>rfl
theorem grp_pts{t:Il}(ht:TR t){P g Q:List Fd}{r:ByteArray}(hP:∀o∈P,o.Race≠r)(hQ:∀o∈Q,o.Race≠r)(hr:∀o∈g,o.Race=r)(hne:g≠[])(hg:Gr g)(hm:mixG g=false)(hf:g.any (FU g)=false)(hd:g.Pairwise Dif)(hl:g.length<=15):
 ∃out,BW t g=some out/\out.map (·.x_)=g.filter Gg/\∀row∈out,Mz t (P++(g++Q)) row.x_=some row.points_/\Pts row.points_:=by
 obtain⟨m',x2,q1,q2,q3,q4⟩:=ZA t r g [] [] [] (λy hy=>⟨hr y hy,hg.rr y hy⟩) ⟨(λ_ h=>by cases h),List.Pairwise.nil⟩ aD aB;rw[aZ] at q1 q2;simp only[aZ,List.map_nil] at q3 q4;obtain⟨cs,hcs⟩:∃cs,cs=g.filter Gg:=⟨_,rfl⟩;rw[←hcs] at q1 q2 q3 q4 ⊢;have csg:cs.Sublist g:=by rw[hcs];exact List.filter_sublist
 have hcl:cs.length<=15:=Nat.le_trans csg.length_le hl;have swc:(x2.map (nth cs)).Sublist cs:=by
  have:=UI cs 0 x2 (λs hs=>by have:=q1.1 s hs;omega) q1.2;simpa using this
 have cpos:∀y∈cs,0<y.Rank:=λy hy=>by
  rw[hcs] at hy;have:=(List.mem_filter.1 hy).2;unfold Gg at this;simp only[bQ,aK] at this;exact this.1
 have ranks:(x2.map (nth cs)).Pairwise λa b=>a.Rank<=b.Rank:=by
  have h1:cs.Pairwise λa b=>a.Rank<=b.Rank:=by
   refine(hg.le.sublist csg).imp_of_mem ?_;intro a b ha hb h;rw[MI (hg.rr a (csg.subset ha)) (cpos a ha),MI (hg.rr b (csg.subset hb)) (cpos b hb)] at h;exact h
  exact h1.sublist swc
 have hrel:∀y∈g,y.Relay=(nth g 0).Relay:=λy hy=>by
  have:=List.any_eq_false.1 hm y hy;simpa using this
 have x2l:x2.length<=15:=by omega
 obtain⟨out,e1,e2,e3,e4,e5⟩:=run_l2 ht q1 aA hne (nth g 0).Relay rfl ranks (λx8=>some x8) x2.length (((x2.length:Int)-0).toNat+2) 0 (cs.map mkr) aA aA aB (λs h0 hs=>by
  have:nth (cs.map mkr) s=mkr (nth cs s):=by
   obtain⟨p,rfl⟩:=Int.eq_ofNat_of_zero_le h0;rw[Uu aD,List.getElem_map,Uu aA]
  rw[this];rfl) aB
 have hrace:BW t g=some out:=by
  unfold BW;simp only[Hg];exact(q3 _ 0).trans e1
 have base:∀s:Int,0<=s->s<cs.length->nth (cs.map mkr) s=mkr (nth cs s):=λs h0 hs=>by
  obtain⟨p,rfl⟩:=Int.eq_ofNat_of_zero_le h0;rw[Uu aD,List.getElem_map,Uu aA]
 have mapx:out.map (·.x_)=cs:=by
  apply List.ext_getElem (by simp[e2]);intro i h1 h2;rw[List.getElem_map,←Uu (l:=out) aA,e3 _ aA aA,Uu aA]
 have csd:cs.Pairwise Dif:=hd.sublist csg;have inj:∀(s s':Int),0<=s->s<cs.length->0<=s'->s'<cs.length->nth cs s=nth cs s'->s=s':=by
  intro s s' a1 a2 b1 b2 e;obtain⟨p,rfl⟩:=Int.eq_ofNat_of_zero_le a1;obtain⟨p',rfl⟩:=Int.eq_ofNat_of_zero_le b1;rw[Uu aA,Uu aA] at e;have h:=List.pairwise_iff_getElem.1 csd;rcases Nat.lt_trichotomy p p' with c|c|c
  ·exact(h p p' aA aA c ⟨by rw[e],by rw[e]⟩).elim
  ·omega
  ·exact(h p' p aA aA c ⟨by rw[e],by rw[e]⟩).elim
 refine⟨out,hrace,mapx,λrow hrow=>?_⟩;obtain⟨p,hpl,rfl⟩:=List.getElem_of_mem hrow;have hpc:p<cs.length:=by omega
 have hrow':nth out (p:Int)=out[p]:=Uu hpl;rw[←hrow'];have hx:(nth out (p:Int)).x_=nth cs (p:Int):=e3 _ aA aA;have hmem:nth cs (p:Int)∈cs:=by rw[Uu hpc];exact List.getElem_mem hpc
 have hxr:(nth cs (p:Int)).Race=r:=hr _ (csg.subset hmem);rw[hx];have hshare:Mz t (P++(g++Q)) (nth cs (p:Int))=if(!(Qe (x2.map (nth cs)) (nth cs (p:Int))))=true then some (Fh.mk 0 1) else
  Oe (nth cs (p:Int)) t (fun(x6:Int) (x7:Int)=>if(nth cs (p:Int)).Relay=true then Option.bind (Pw (W (x6*t.Relay)) x7) (λr1=>some r1) else Option.bind (Pw x6 x7) (λr1=>some r1)) (x2.map (nth cs)) 0 0 0:=by
  unfold Mz;simp only[Hg];rw[XH,UH _ _ _ P 0 [] [] (λo ho=>by rw[hxr];exact hP o ho),XH,q4 _ _ 0 hxr,UH _ _ _ Q 0 _ _ (λo ho=>by rw[hxr];exact hQ o ho)]
 rw[hshare,Ajk];rcases Classical.em (∃k:Nat,k<x2.length/\nth x2 (k:Int)=(p:Int)) with ⟨k,hk,hkp⟩|hno
 ·have hin:nth cs (p:Int)∈x2.map (nth cs):=by
   rw[←hkp,Uu hk];exact bD.2 ⟨_,List.getElem_mem hk,rfl⟩
  have hval:=e4 k (Nat.zero_le _) hk;rw[hkp] at hval;obtain⟨sw,hsw⟩:∃sw,sw=x2.map (nth cs):=⟨_,rfl⟩;rw[←hsw] at hin hval swc ⊢;have hswl:sw.length<=15:=by rw[hsw,aV];exact x2l
  have hc1:0<Rp (nth cs (p:Int)).Rank sw:=List.countP_pos_iff.2 ⟨_,hin,by simp⟩;have hc10:Rp (nth cs (p:Int)).Rank sw<=10:=by
   have h1:=(swc.trans csg).countP_le (p:=λs:Fd=>decide (s.Rank=(nth cs (p:Int)).Rank));have h2:=List.any_eq_false.1 hf _ (csg.subset hmem);unfold FU QB at h2;have h3:g.countP (λo=>decide (o.Race=(nth cs (p:Int)).Race) && decide (o.Rank=(nth cs (p:Int)).Rank))=g.countP (λs=>decide (s.Rank=(nth cs (p:Int)).Rank)):=List.countP_congr λo ho=>by
    rw[hr o ho,hxr];simp
   rw[h3] at h2;have h4:=cpos _ hmem;simp only[h4,aJ,bO,aK] at h2;unfold Rp;omega
  obtain⟨a,ha,ha2,hV⟩:=Aei (t:=t) ht (nth g 0).Relay (sw:=sw) aA hc1;have hcn:Rp (nth cs (p:Int)).Rank sw<=sw.length:=List.countP_le_length;have hlow:Nr (a:Int) ((Rp (nth cs (p:Int)).Rank sw:Nat):Int)=some (nth out (p:Int)).points_:=by
   rw[←hval];unfold valR;rw[ha]
  have hsr:=ZB ht (nth cs (p:Int)).Rank sw 0;refine⟨?_,a*(2520 / Rp (nth cs (p:Int)).Rank sw),?_,?_⟩
  ·rw[aH hin,bN,aP aB,WD _ ht _ sw 0 0 0 aA aA aA aA,hrel _ (csg.subset hmem)];rw[Int.zero_add,Int.zero_add,←hlow]
   cases hrl:(nth g 0).Relay with
   |true=>
    rw[hrl] at ha;simp only[aS] at ha ⊢;rw[←ha,Hl aA aA,low_is a _ hc1 aA aA,hlow];rfl
   |false=>
    rw[hrl] at ha;simp only[aO,aR] at ha ⊢;rw[←ha,low_is a _ hc1 aA aA,hlow];rfl
  ·have h1:2520 / Rp (nth cs (p:Int)).Rank sw<=2520:=Nat.div_le_self _ _;have h2:a<=1500000:=by omega
   have:=Nat.mul_le_mul h2 h1;omega
  ·have h1:=Aji (a:=a) (b:=Rp (nth cs (p:Int)).Rank sw) (v:=a*(2520 / Rp (nth cs (p:Int)).Rank sw)) hc1 (by rw[Nat.mul_assoc,div2520 aA hc10]) aA aA;rw[hlow] at h1;exact bH h1
 ·have hnin:nth cs (p:Int)∉x2.map (nth cs):=by
   intro h;obtain⟨s,hs,e⟩:=bD.1 h;obtain⟨k,hk,rfl⟩:=List.getElem_of_mem hs;have:=q1.1 _ hs;have e':=inj _ _ this.1 this.2 aA aA e;exact hno ⟨k,hk,by rw[Uu hk];exact e'⟩
  rw[aI hnin,Bool.not_false,aQ rfl,e5 _ aA aA (λk _ hk e=>hno ⟨k,hk,e⟩),base _ aA aA];exact⟨rfl,0,by omega,by show BV=frB 0;exact WC⟩
structure Right(t:Il)(l:List Fd)(R:List Fl):Prop where
 rows:HH t l=some R
 xs:R.map (·.x_)=l.filter Gg
 pts:∀r∈R,Mz t l r.x_=some r.points_/\Pts r.points_
 len:l.length<=15
theorem Ajl{t:Il}(l:List Fd)(j:List Fl->Option (List Fl)):∀(Gs:List (List Fd)) (i:Nat) (x:List Fl),(∀g∈Gs,∃out,BW t g=some out/\out.map (·.x_)=g.filter Gg/\∀row∈out,Mz t l row.x_=some row.points_/\Pts row.points_)->
 x.length+Gs.flatten.length<=1000->(∀row∈x,Mz t l row.x_=some row.points_/\Pts row.points_)->
 ∃R,Zl t j Gs i x=j R/\R.map (·.x_)=x.map (·.x_)++Gs.flatten.filter Gg/\∀row∈R,Mz t l row.x_=some row.points_/\Pts row.points_
 |[],i,x,_,_,h=>⟨x,rfl,by simp,h⟩
 |g::Gs,i,x,h1,h2,h3=>by
  obtain⟨out,e1,e2,e3⟩:=h1 g aN
  have hol:out.length<=g.length:=by
   have:=congrArg List.length e2;rw[aV] at this;have:=List.length_filter_le Gg g;omega
  rw[List.flatten_cons,aU] at h2;rw[Zl,e1,aG,Fm aD];obtain⟨R,r1,r2,r3⟩:=Ajl l j Gs (i+1) (x++out) (λq hq=>h1 q (aM _ hq)) (by rw[aU];omega) (λrow hr=>by
   rcases bC.1 hr with hr|hr
   ·exact h3 row hr
   ·exact e3 row hr)
  refine⟨R,r1,?_,r3⟩;rw[r2,List.map_append,e2,List.flatten_cons,List.filter_append,List.append_assoc]
theorem Amc{t:Il}(ht:TR t){l:List Fd}(hl:l.length<=15)(h:Kf l=some 0):∃R,Right t l R:=by
 obtain⟨e,h1,h2,h3⟩:=Aeh l aA;rw[h] at h2;obtain⟨Gs,e1,e2,e3,e4,e5⟩:=h3 (bH h2).symm;have hraces:Wh l=some Gs:=by rw[e1];exact Air Gs (λg hg=>(e2 g hg).1) e3 (by rw[←e1];omega)
 obtain⟨R,r1,r2,r3⟩:=Ajl (t:=t) l (λx=>some x) Gs 0 [] (λg hg=>by
  obtain⟨P,Q,rfl⟩:=List.append_of_mem hg;have hg1:=(e2 g hg).1;obtain⟨z,hz⟩:∃z,z∈g:=List.exists_mem_of_ne_nil g hg1.1;rw[bK,List.pairwise_cons] at e3;have sub:g.Sublist l:=by rw[e1];exact List.sublist_flatten_of_mem hg
  have eq:l=P.flatten++(g++Q.flatten):=by rw[e1];simp
  rw[eq];refine grp_pts ht (r:=z.Race) (λo ho=>?_) (λo ho=>?_) (λo ho=>hg1.2 o ho z hz) hg1.1 (e2 g hg).2 (e5 g hg).1 (e5 g hg).2.2 (e4.sublist sub) (Nat.le_trans sub.length_le hl)
  ·obtain⟨g',hg',ho⟩:=List.mem_flatten.1 ho;exact e3.2.2 g' hg' g aB o ho z hz
  ·obtain⟨g',hg',ho⟩:=List.mem_flatten.1 ho;exact λe=>e3.2.1.1 g' hg' z hz o ho e.symm) (by rw[←e1];simp;omega) (λ_ h=>by cases h)
 refine⟨R,?_,?_,r3,hl⟩
 ·unfold HH;rw[hraces,aG];simp only[Hg];exact r1
 ·rw[r2,←e1];simp
def valB(f:Fh):Nat:=(f.Num*2520 / f.Den).toNat
theorem valB_fr(v:Nat):valB (frB v)=v:=by
 obtain⟨n,d,e,d1,d2,n1,p⟩:=OF v;unfold valB;rw[e];simp only;rw[show ((n:Int)*2520)=((v*d:Nat):Int) by rw[←p];simp,Int.natCast_mul,Int.mul_ediv_cancel _ aA];simp
theorem Pts.val{f:Fh}(h:Pts f):f=frB (valB f)/\valB f<=4000000000:=by
 obtain⟨v,hv,rfl⟩:=h;rw[valB_fr];exact⟨rfl,hv⟩
theorem plus_frB{u v:Nat}(hu:u<=1000000000000)(hv:v<=1000000000000):BD (frB u) (frB v)=some (frB (u+v)):=by
 obtain⟨n,d,e1,d1,d2,n1,p1⟩:=OF u;obtain⟨m,e,e2,d3,d4,m1,p2⟩:=OF v;unfold BD;rw[e1,e2];simp only;have b1:=OW (a:=n) (b:=e) aA d4;have b2:=OW (a:=m) (b:=d) aA d2;have b3:=OW (a:=d) (b:=e) aA d4;rw[XG aA d4,XG aA d2,XG aA d4,←Int.natCast_add,Hl aA aA,Ama (Nat.mul_pos d1 d3) (Abp p1 p2) aA aA];rfl
structure QC(p:Ge):Prop where
 table:TR p.Table
 chk:Sq p.Table=some 0
 keys:(p.Races.map (·.Key)).Nodup
 key:∀r∈p.Races,Gh r.Key=some true
 len:p.Races.length<=100
 fin:Te p.Final=0
theorem Ajm{α:Type}(lt:α->α->Bool):∀(l rp:List α),(∀x∈l,∀y∈rp,lt x y=false)->l.Pairwise (λa b=>lt b a=false)->DF lt l rp=l.reverse++rp
 |[],rp,_,_=>rfl
 |x::l,rp,h1,h2=>by
  rw[List.pairwise_cons] at h2
  show DF lt l (AX lt x rp)=_
  have e:AX lt x rp=x::rp:=by
   cases rp with
   |nil=>rfl
   |cons y rp=>unfold AX;rw[h1 x aN y aN];simp
  rw[e,Ajm lt l (x::rp) (λz hz y hy=>by
   rcases bB.1 hy with rfl|hy
   ·exact h2.1 z hz
   ·exact h1 z (aM _ hz) y hy) h2.2]
  simp
theorem Aqy{α:Type}{lt:α->α->Bool}{l:List α}(h:l.Pairwise λa b=>lt b a=false):Si lt l=l:=by
 unfold Si;rw[Ajm lt l [] (λ_ _ _ h=>by cases h) h];simp
theorem Agg{F:List An}(h:FM F)(r:Fp):Gz (Ox r F)=some (Ox r F):=by
 have hl:(Zz r.Key F).length<=12:=by
  have:=(OC r.Key F).length_eq;rw[aV,aV] at this;have:=h.few r.Key;omega
 rw[Aqv _ (by unfold Ox;rw[aV];omega)]
 congr 1
 refine Aqy ?_;unfold Ox;rw[List.pairwise_map];refine List.Pairwise.imp_of_mem (λ{a b} ha hb hab=>?_) (Agb r.Key F);obtain⟨d,_,rfl⟩:=CX h ha;obtain⟨e,_,rfl⟩:=CX h hb;have r1:=MA h r.Key d;have r2:=MA h r.Key e;have hab':(0<Tu r.Key F d/\0<Tu r.Key F e/\(Tu r.Key F d<=Tu r.Key F e/\(Tu r.Key F d=Tu r.Key F e->cB d.Who e.Who<0)))\/(0<Tu r.Key F d/\Tu r.Key F e=0)\/(Tu r.Key F d=0/\Tu r.Key F e=0/\cB d.Who e.Who<0):=by
  rcases hab with ⟨h1,h2,h3,h4,h5,h6⟩|h1|h1
  ·exact .inl ⟨h1,h2,h4,λe=>h6 (h5.1 e)⟩
  ·exact .inr (.inl h1)
  ·exact .inr (.inr h1)
 have hfl:=FR d.Who e.Who;unfold ltRs Zj scS;simp only;generalize hx:Tu r.Key F d=x at*;generalize hy:Tu r.Key F e=y at*;rw[Hl (show -9223372036854775808<=x-y by omega) aA,Hl (show -9223372036854775808<=y-x by omega) aA];have hc:Ic e.Who d.Who=cB e.Who d.Who:=rfl;rw[hc,aL]
 by_cases z1:x=0<;>by_cases z2:y=0
 ·rw[aP (by simp[z1,z2]),aP (by simp[z1,z2])];omega
 ·exfalso;omega
 ·rw[aQ (by simp[z1,z2])];omega
 ·rw[aP (by simp[z1,z2])]
  by_cases z3:x=y
  ·rw[aP (by simp[z3])];omega
  ·rw[aQ (by simpa using λe=>z3 e.symm)];omega
theorem givenM{t:Il}{l:List Fd}{R:List Fl}(h:Right t l R)(hb:Ws t l=some 0)(hs:∀x∈l,x.Race.size<=1000/\x.Who.size<=1000):Yf t l=some (R.map gvS,0):=by
 have hRl:R.length<=15:=by
  have:=congrArg List.length h.xs;rw[aV] at this;have:=List.length_filter_le Gg l;have:=h.len;omega
 have hRs:∀r∈R,r.x_.Race.size<=1000/\r.x_.Who.size<=1000:=λr hr=>by
  have:r.x_∈l.filter Gg:=by rw[←h.xs];exact bJ hr
  exact hs _ (List.mem_filter.1 this).1
 have h20:Gy.size=1:=by decide+kernel
 unfold Yf;rw[hb,aG,aP aB,h.rows,aG];simp only[Hg];have loop:∀(R:List Fl) (i:Nat) (x:List Fx),(∀r∈R,r.x_.Race.size<=1000/\r.x_.Who.size<=1000)->x.length+R.length<=1000->Vt (fun(x1:List Fx)=>some (x1,0)) R i x=some (x++R.map gvS,0):=by
  intro R
  induction R with
  |nil=>intro i x _ _;simp[Vt]
  |cons r R ih=>
   intro i x h1 h2;simp only[aT] at h2;obtain⟨c1,c2⟩:=h1 r aN;rw[Vt,Fm (aH aA),Fm (aH (by rw[ByteArray.size_append];omega)),Fm (by unfold Ja;exact aH aA),ih _ _ (λz hz=>h1 z (aM _ hz)) aD];simp[gvS]
 rw[loop R 0 [] hRs aD,aZ]
theorem Ajn(r:Fp)(F:List An):((Ox r F).map (·.Who)).Nodup:=by
 unfold Ox;rw[List.map_map];exact Agc r.Key F
theorem pts_zero:Pts (Fh.mk 0 1):=⟨0,by omega,WC⟩
theorem ptM{t:Il}{r:Fp}{F:List An}{R:List Fl}(h:Right t (Ox r F) R){x:Fd}(hx:x∈Ox r F):
 Pts (ptS (ofS (R.map gvS) []) ((r.Key++Gy)++x.Who))/\(Gg x=true->Mz t (Ox r F) x=some (ptS (ofS (R.map gvS) []) ((r.Key++Gy)++x.Who)))/\(Gg x=false->ptS (ofS (R.map gvS) []) ((r.Key++Gy)++x.Who)=Fh.mk 0 1):=by
 have hrace:∀y∈Ox r F,y.Race=r.Key:=λy hy=>by
  obtain⟨z,_,rfl⟩:=bD.1 hy;rfl
 have hR:∀y∈R,y.x_∈Ox r F/\Gg y.x_=true:=λy hy=>by
  have:y.x_∈(Ox r F).filter Gg:=by rw[←h.xs];exact bJ hy
  exact List.mem_filter.1 this
 have hkey:∀y∈R,(gvS y).Key=(r.Key++Gy)++y.x_.Who:=λy hy=>by
  unfold gvS;simp only;rw[hrace _ (hR y hy).1]
 have hnd:((R.map gvS).map (·.Key)).Nodup:=by
  have e:(R.map gvS).map (·.Key)=((R.map (·.x_)).map (·.Who)).map λw=>(r.Key++Gy)++w:=by
   rw[List.map_map,List.map_map,List.map_map];exact List.map_congr_left λz hz=>hkey z hz
  rw[e,h.xs];have h1:(((Ox r F).filter Gg).map (·.Who)).Nodup:=(Ajn r F).sublist (List.filter_sublist.map _);exact List.pairwise_map.2 (h1.imp λ{a b} hne e=>hne (Ajc e))
 cases hc:Gg x with
 |true=>
  have hxf:x∈R.map (·.x_):=by rw[h.xs];exact List.mem_filter.2 ⟨hx,hc⟩
  obtain⟨y,hy,rfl⟩:=bD.1 hxf;have hg:=ofS_some (R.map gvS) (gvS y) (bJ hy) hnd [];rw[hkey y hy] at hg;have e:ptS (ofS (R.map gvS) []) ((r.Key++Gy)++y.x_.Who)=y.points_:=by
   unfold ptS Gm;rw[hg];rfl
  rw[e];exact⟨(h.pts y hy).2,λ_=>(h.pts y hy).1,λh=>by cases h⟩
 |false=>
  have hg:=Ajd (R.map gvS) ((r.Key++Gy)++x.Who) [] λg hg e=>by
   obtain⟨y,hy,rfl⟩:=bD.1 hg;rw[hkey y hy] at e;have:=Alq (Ajn r F) (hR y hy).1 hx (Ajc e);rw[←this,(hR y hy).2] at hc
   cases hc
  have e:ptS (ofS (R.map gvS) []) ((r.Key++Gy)++x.Who)=Fh.mk 0 1:=by
   unfold ptS Gm;rw[hg];rfl
  rw[e];exact⟨pts_zero,λh=>absurd h aB,λ_=>rfl⟩
theorem Aov(p:Ge)(r:Fp)(hr:(Ju p.Races r.Key).1=r)(C:List (ByteArray×ByteArray))(j:List Fd->Option (List Fo×Int)):∀(ys:List Fj) (i:Nat) (x:List Fd),x.length+ys.length<=1000->Ok r.Key p j (ys.map (toL C)) i x=j (x++ys.map (scS C r))
 |[],i,x,_=>by simp[Ok]
 |y::ys,i,x,h=>by
  simp only[aT] at h
  rw[aY,Ok,Fm (by unfold Ja;exact aH aA),hr,Aov p r hr C j ys (i+1) _ aD]
  simp[scS,toL]
theorem Aow{p:Ge}{r:Fp}{F:List An}{R:List Fl}(h:Right p.Table (Ox r F) R)(j:List Fo->Option (List Fo×Int)):∀(B A:List Fj),Zz r.Key F=A++B->(Zz r.Key F).length<=1000->
 Lv p (Ox r F) j (B.map (scS (Xr (Oy r.Key F) []) r)) A.length (A.map (TK (Xr (Oy r.Key F) []) (ofS (R.map gvS) []) r)++B.map (toL (Xr (Oy r.Key F) [])))=j ((A++B).map (TK (Xr (Oy r.Key F) []) (ofS (R.map gvS) []) r))
 |[],A,_,_=>by simp[Lv]
 |b::B,A,hAB,hl=>by
  have hx:scS (Xr (Oy r.Key F) []) r b∈Ox r F:=by unfold Ox;rw[hAB];simp
  obtain⟨_,p2,p3⟩:=ptM h hx
  have e1:A++b::B=(A++[b])++B:=by simp
  have ih:=Aow h j B (A++[b]) (by rw[hAB,e1]) hl
  rw[aU,aX,←e1] at ih
  have hg:∀u:List Fo,(A.map (TK (Xr (Oy r.Key F) []) (ofS (R.map gvS) []) r)++toL (Xr (Oy r.Key F) []) b::u)[A.length]? =some (toL (Xr (Oy r.Key F) []) b):=λu=>by rw[List.getElem?_append_right aB];simp
  have hw:(scS (Xr (Oy r.Key F) []) r b).Who=b.Who:=rfl
  rw[hw] at p2 p3
  rw[aY,aY,Lv]
  simp only[Ga]
  cases hc:Gg (scS (Xr (Oy r.Key F) []) r b) with
  |true=>
   rw[aQ rfl,p2 hc]
   simp only[aG]
   rw[Fm (Fy.2 aD),nthL (hg _),←ih,bI,List.set_append_right _ _ aB]
   simp[TK,toL]
  |false=>
   rw[aP aB,←ih]
   have:toL (Xr (Oy r.Key F) []) b=TK (Xr (Oy r.Key F) []) (ofS (R.map gvS) []) r b:=by
    unfold toL TK;rw[p3 hc]
   rw[this];simp
theorem UJ(key:ByteArray)(j:Fp×Bool):∀(l:List Fp) (i:Nat),(l.map (·.Key)).Nodup->∀r∈l,r.Key=key->Ml key j l i=(r,true)
 |[],_,_,_,h,_=>by cases h
 |x::l,i,hn,r,h,hk=>by
  simp only[aY,bT] at hn
  rw[Ml]
  rcases bB.1 h with rfl|h
  ·rw[aQ (aH hk)]
  ·rw[aP (by simpa using λe=>hn.1 (by rw[e,←hk];exact bJ h))]
   exact UJ key j l (i+1) hn.2 r h hk
theorem YC(key:ByteArray)(j:Fp×Bool):∀(l:List Fp) (i:Nat),(∀r∈l,r.Key≠key)->Ml key j l i=j
 |[],_,_=>rfl
 |x::l,i,h=>by
  rw[Ml,aP (by simpa using h x aN)]
  exact YC key j l (i+1) λr hr=>h r (aM _ hr)
theorem HB{p:Ge}(hp:QC p){l:List An}{at_:Int}(hf:OB l)(hs:l.Pairwise λx y=>x.At<=y.At)(h:FM (Gj l at_)){r:Fp}(hr:r∈p.Races):
 ∃L e,Sm p (Gj l at_) r=some (L,e)/\Lq p l r.Key at_=some (L,e)/\(e≠0->L=[])/\(e=0->L.length<=12/\∀y∈L,Pts y.Points/\(∃d∈Zw r.Key (Gj l at_),d.Who=y.Who/\d.Club=y.Club)/\0<=y.Rank/\y.Rank<=13/\0<=y.Time/\y.Time<=360000)/\Kf (Ox r (Gj l at_))=some e:=by
 generalize hF:Gj l at_=F at*;have hlen:(Zz r.Key F).length<=12:=by
  have:=(OC r.Key F).length_eq;rw[aV,aV] at this;have:=h.few r.Key;omega
 have hrl:(Ox r F).length<=12:=by unfold Ox;rw[aV];exact hlen
 have hrace:(Ju p.Races r.Key).1=r:=by
  unfold Ju;rw[Ga,UJ r.Key _ p.Races 0 hp.keys r hr rfl]
 have hk:=KW (hp.key r hr);have hent:∀y∈Zz r.Key F,∃d∈Oy r.Key F,d∈Zw r.Key F/\y.Who=d.Who/\Gm (Xr (Oy r.Key F) []) y.Who Ff=d.Club/\y.Who.size<=40/\(0<=y.Rank/\y.Rank<=13)/\0<=y.Time/\y.Time<=360000:=λy hy=>by
  obtain⟨d,hd,rfl⟩:=CX h hy;obtain⟨d1,_,d3,_⟩:=RV h hd;obtain⟨_,k2,k3⟩:=EC d1;exact⟨d,hd,d1,rfl,OU _ [] d hd (JK r.Key F),KW ((h.ok d k3).who aA).1,MA h r.Key d,d3⟩
 obtain⟨e,c1,c2,_⟩:=Aeh (Ox r F) aA;have hboth:Ws p.Table (Ox r F)=some e:=by
  unfold Ws;rw[hp.chk];simp only[aG,aJ,bN,aO,aR];rw[c1];rfl
 have hpro:Sm p F r=Option.bind (Yf p.Table (Ox r F)) λr3=>if !decide (r3.2=0) then some (([]:List Fo),r3.2) else Uc (λx2=>Sd r (Zz r.Key F,Xr (Oy r.Key F) [],0) x2 (λx3=>some (x3,0)) (Zz r.Key F) 0 []) r3.1 0 []:=by
  unfold Sm;rw[Alt h p r.Key];simp only[aG,aJ,bN,aO,aR,Ga];rw[Abi r _ _ (Zz r.Key F) 0 [] aD,aZ];show Option.bind (Gz (Ox r F)) _=_;rw[Agg h r];rfl
 have href:Lq p l r.Key at_=if !decide (e=0) then some (([]:List Fo),e) else Lv p (Ox r F) (λx2=>some (x2,0)) (Ox r F) 0 (linS r.Key F):=by
  unfold Lq;rw[Aqx hf hs (by rw[hF];exact h),hF];simp only[aG,Ga];have h1:=Aov p r hrace (Xr (Oy r.Key F) []) (λx1=>Option.bind (Kf x1) λr2=>if !decide (r2=0) then some (([]:List Fo),r2) else Lv p x1 (λx2=>some (x2,0)) x1 0 (linS r.Key F)) (Zz r.Key F) 0 [] aD;rw[aZ] at h1;refine Eq.trans h1 ?_;show Option.bind (Kf (Ox r F)) _=_;rw[c2];rfl
 by_cases he:e=0
 ·subst he;obtain⟨R,hR⟩:=Amc hp.table aA c2;have hg:=givenM hR hboth λx hx=>by
   obtain⟨y,hy,rfl⟩:=bD.1 hx;obtain⟨_,_,_,_,_,e5,_⟩:=hent y hy;exact⟨by show r.Key.size<=1000;omega,by show y.Who.size<=1000;omega⟩
  refine⟨(Zz r.Key F).map (TK (Xr (Oy r.Key F) []) (ofS (R.map gvS) []) r),0,?_,?_,λh=>absurd rfl h,λ_=>⟨by rw[aV];exact hlen,λy hy=>?_⟩,c2⟩
  ·rw[hpro,hg];simp only[aG,aJ,bN,aO,aR];rw[Abj,Abk r _ _ _ hk (Zz r.Key F) 0 [] (λy hy=>(hent y hy).elim λd hd=>hd.2.2.2.2.1) aD,aZ]
  ·rw[href];simp only[aJ,bN,aO,aR];have:=Aow hR (λx2=>some (x2,(0:Int))) (Zz r.Key F) [] rfl aA;rw[aW,List.map_nil,aZ,aZ] at this;exact this
  ·obtain⟨z,hz,rfl⟩:=bD.1 hy;obtain⟨d,_,e2,e3,e4,_,e6,e7⟩:=hent z hz;exact⟨(ptM hR (x:=scS (Xr (Oy r.Key F) []) r z) (bJ hz)).1,⟨d,e2,e3.symm,e4.symm⟩,e6.1,e6.2,e7⟩
 ·refine⟨[],e,?_,?_,λ_=>rfl,λh=>absurd h he,c2⟩
  ·have hg:Yf p.Table (Ox r F)=some ([],e):=by
    unfold Yf;rw[hboth];simp only[aG];rw[aQ (by simpa using he)]
   rw[hpro,hg];simp only[aG];rw[aQ (by simpa using he)]
  ·rw[href,aQ (by simpa using he)]
theorem Agh{p:Ge}(hp:QC p){l:List An}{at_:Int}(hf:OB l)(hs:l.Pairwise λx y=>x.At<=y.At)(h:FM (Gj l at_)){r:Fp}(hr:r∈p.Races):
 ∃L e,Sm p (Gj l at_) r=some (L,e)/\Lq p l r.Key at_=some (L,e)/\(e≠0->L=[])/\(e=0->L.length<=12/\∀y∈L,Pts y.Points/\(∃d∈Zw r.Key (Gj l at_),d.Who=y.Who/\d.Club=y.Club)/\0<=y.Rank/\y.Rank<=13/\0<=y.Time/\y.Time<=360000):=by
 obtain⟨L,e,a1,a2,a3,a4,_⟩:=HB hp hf hs h hr;exact⟨L,e,a1,a2,a3,a4⟩
theorem key1_eq(s:ByteArray):∃b,Gh s=some b/\CS s=some b:=by
 by_cases hs:1<=s.size/\s.size<=40
 ·obtain⟨h1,h2⟩:=hs;have hsz:=Zv s;obtain⟨u,r,hl⟩:∃u r,s.data.toList=u::r:=by
   cases h:s.data.toList with
   |nil=>rw[h] at hsz;exact absurd hsz (by show ¬s.size=0;omega)
   |cons u r=>exact⟨u,r,rfl⟩
  have hin:Hd (s.size:Int) 1 40=true:=by unfold Hd;simp;omega
  have hwin:(decide (1<=(s.size:Int)) && decide ((s.size:Int)<=40))=true:=by simp;omega
  have hb0:inB 0 s.size=true:=Fy.2 ⟨by omega,by omega⟩;have hu:LD s 0=(u.toNat:Int):=WX (j:=0) (by rw[hl];rfl);have hix:decide (0<=Gq Js (u.toNat:Int))=(decide (97<=(u.toNat:Int)) && decide ((u.toNat:Int)<=122)):=by
   unfold Gq;rw[Adh,←Adi];have:=VT (l:=Js.data.toList) (c:=u)
   cases hc:Js.data.toList.contains u<;>rw[hc] at this<;>simp at this ⊢<;>omega
  have htrim:Wg s Hx=some ⟨(Lib.trimS s.data.toList Hx.data.toList).toArray⟩:=by
   unfold Wg;rw[Fm aD,Fm (by decide+kernel),Fm Adj]
  refine⟨(decide (97<=(u.toNat:Int)) && decide ((u.toNat:Int)<=122)) && decide ((⟨(Lib.trimS s.data.toList Hx.data.toList).toArray⟩:ByteArray)=Ff),?_,?_⟩
  ·unfold Gh;simp only[Hg,hwin,aS,bO,Fm hb0,hu]
   by_cases g1:97<=(u.toNat:Int)
   ·simp only[g1,aJ,aS,bO]
    by_cases g2:(u.toNat:Int)<=122
    ·simp only[g2,aJ,aS,bO,htrim,aG]
    ·simp only[g2,decide_false,aO,aR,bP]
   ·simp only[g1,decide_false,aO,aR,bP]
  ·unfold CS;simp only[Hg,hin,aS,bO,htrim,aG,Fm hb0,hu,hix]
   cases decide ((⟨(Lib.trimS s.data.toList Hx.data.toList).toArray⟩:ByteArray)=Ff) with
   |true=>simp only[aS,bO,Bool.and_true]
   |false=>simp only[aO,aR,bP,Bool.and_false]
 ·refine⟨false,?_,?_⟩
  ·have hwin:(decide (1<=(s.size:Int)) && decide ((s.size:Int)<=40))=false:=by simp;omega
   unfold Gh;simp only[Hg,hwin,aO,aR,bP]
  ·have hin:Hd (s.size:Int) 1 40=false:=by unfold Hd;simp;omega
   unfold CS;simp only[Hg,hin,aO,aR,bP]
theorem race_eq(r:Fp):∃e,Md r=some e/\Xh r=some e:=by
 unfold Md Xh;obtain⟨b,e1,e2⟩:=key1_eq r.Key;have hw:Fv=Hd:=rfl;rw[e1,e2,hw];simp only[aG,Hg];have hy:(decide (r.Young<0)||decide (r.Old<r.Young))= !(Hd r.Young 0 r.Old):=by
  unfold Hd
  by_cases h1:r.Young<0<;>by_cases h2:r.Old<r.Young
  ·simp[h1,h2]
  ·simp[h1,h2]
  ·simp[h1,h2]
  ·simp only[h1,h2,decide_false,Bool.or_self];rw[show decide (0<=r.Young)=true by simp;omega,show decide (r.Young<=r.Old)=true by simp;omega];rfl
 cases b with
 |false=>exact⟨5,rfl,rfl⟩
 |true=>
  simp only[bN,aO,aR]
  by_cases h1:((!(Hd r.Stroke 1 5))||(!(Hd r.Sex 0 2)))=true
  ·rw[aQ h1,aQ h1];exact⟨4,rfl,rfl⟩
  ·rw[aP h1,aP h1];have hbig:(((((((!decide (r.Course=25)) && (!decide (r.Course=50)))||(!(Hd r.Legs 1 4)))||(!(Hd r.Metres 25 1500)))||(decide (r.Young<0)))||(decide (r.Old<r.Young)))||(decide (120<r.Old)))=
    (((!decide (r.Course=25)) && (!decide (r.Course=50)))||((!(Hd r.Legs 1 4))||((!(Hd r.Metres 25 1500))||((!(Hd r.Young 0 r.Old))||(decide (120<r.Old)))))):=by
    rw[←hy];simp only[Bool.or_assoc]
   rw[hbig]
   by_cases hcr:((!decide (r.Course=25)) && (!decide (r.Course=50)))=true
   ·simp only[hcr,aS,Bool.true_or];exact⟨1,rfl,rfl⟩
   ·have hcr':r.Course=25\/r.Course=50:=by simp at hcr;omega
    have c0:(!decide (r.Course=0))=true:=by rcases hcr' with h|h<;>simp[h]
    have c4:(!decide ((W (4*r.Course))=0))=true:=by rcases hcr' with h|h<;>rw[h]<;>decide+kernel
    rw[Bool.not_eq_true] at hcr;simp only[hcr,Bool.false_or,aO,aR,Fm c0,Fm c4];generalize (!(Hd r.Legs 1 4))=b1;generalize (!(Hd r.Metres 25 1500))=b2;generalize (!(Hd r.Young 0 r.Old))=b3;generalize decide (120<r.Old)=b4;generalize (!decide ((Int.tmod r.Metres r.Course)=0))=b5;generalize (!decide ((Int.tmod r.Metres (W (4*r.Course)))=0))=b6;generalize decide (r.Stroke=5)=b7
    by_cases hl:r.Legs=1
    ·have hl2:decide (1<r.Legs)=false:=by rw[hl];rfl
     simp only[hl2,aH hl]
     cases b1<;>cases b2<;>cases b3<;>cases b4<;>cases b5<;>cases b6<;>cases b7<;>exact⟨_,rfl,rfl⟩
    ·simp only[aI hl];generalize decide (1<r.Legs)=b8;generalize (!decide (r.Legs=4))=b9
     cases b1<;>cases b2<;>cases b3<;>cases b4<;>cases b5<;>cases b7<;>cases b8<;>cases b9<;>exact⟨_,rfl,rfl⟩
theorem tbl_l(t:Il)(hl:t.Points.length<=1000)(e0:Int):∀(ys dn:List Int),t.Points=dn++ys->∃e,Sc t (some e0) ys dn.length=some e/\Qc t (some e0) ys dn.length=some e/\(e=0->e0=0/\∀v∈ys,0<=v/\v<=10000)
 |[],dn,_=>⟨e0,rfl,rfl,λh=>⟨h,λ_ h=>by cases h⟩⟩
 |y::ys,dn,h=>by
  have hw:Ik=Fv:=rfl
  rw[Sc,Qc,hw]
  obtain⟨e,a1,a2,a3⟩:=tbl_l t hl e0 ys (dn++[y]) (by rw[h];simp)
  rw[aU,aX] at a1 a2
  rw[a1,a2]
  simp only[Hg]
  cases hin:Fv y 0 10000 with
  |false=>exact⟨1,rfl,rfl,λh=>by cases h⟩
  |true=>
   have hr:0<=y/\y<=10000:=by unfold Fv at hin;simpa using hin
   have fin:e=0->e0=0/\∀v∈y::ys,0<=v/\v<=10000:=λhe=>⟨(a3 he).1,λv hv=>by
    rcases bB.1 hv with rfl|hv
    ·exact hr
    ·exact(a3 he).2 v hv⟩
   simp only[bN,aO,aR]
   by_cases h0:0<(dn.length:Int)
   ·have hdl:dn.length<=1000:=by rw[h] at hl;simp at hl;omega
    have hc:inB (W ((dn.length:Int)-1)) t.Points.length=true:=by rw[Hl aA aA,Fy,h];simp;omega
    rw[aQ (aH h0),Fm hc]
    split
    ·exact⟨7,rfl,rfl,λh=>by cases h⟩
    ·exact⟨e,rfl,rfl,fin⟩
   ·rw[aP (by simpa using h0),aI h0]
    exact⟨e,rfl,rfl,fin⟩
theorem table_eq(t:Il):∃e,Sq t=some e/\Vz t=some e/\(e=0->TR t):=by
 have hw:Ik=Fv:=rfl;unfold Sq Vz;rw[hw]
 by_cases h:40<(t.Points.length:Int)
 ·rw[aQ (aH h),aQ (aH h)];exact⟨2,rfl,rfl,λh=>by cases h⟩
 ·have hh:decide (40<(t.Points.length:Int))=false:=aI h;simp only[Hg,hh,aO,aR]
  cases hb:((!(Fv t.Relay 1 10))||(!(Fv t.Most 0 10))) with
  |true=>
   simp only[aS];obtain⟨e,a1,a2,a3⟩:=tbl_l t aA 1 t.Points [] rfl;exact⟨e,a1,a2,λhe=>by have:=(a3 he).1;cases this⟩
  |false=>
   simp only[aO,aR];obtain⟨e,a1,a2,a3⟩:=tbl_l t aA 0 t.Points [] rfl;refine⟨e,a1,a2,λhe=>⟨by omega,(a3 he).2,?_⟩⟩;unfold Fv at hb;simp at hb;omega
theorem errs_l(j:Int):∀(l:List Int) (i k:Nat),Qd j l i=Qd j l k
 |[],_,_=>rfl
 |a::l,i,k=>by rw[Qd,Qd,errs_l j l (i+1) (k+1)]
theorem XI(a:Int)(l:List Int):Nz (a::l)=if a≠0 then a else Nz l:=by
 unfold Nz;simp only[Hg,Qd];rw[errs_l 0 l (0+1) 0]
 by_cases h:a=0<;>simp[h]
theorem errs_nil:Nz []=0:=rfl
theorem raceKey{r:Fp}(h:Md r=some 0):Gh r.Key=some true:=by
 obtain⟨b,h1,_⟩:=We r.Key
 cases b with
 |true=>exact h1
 |false=>
  unfold Md at h;rw[h1] at h;simp at h
theorem hasKey(y:Fp):∀(l:List Fp) (i:Nat),decide (0<=Ii y (-1) l i)=l.any λx=>decide (x.Key=y.Key)
 |[],i=>rfl
 |x::l,i=>by
  have hc:BM x y=decide (x.Key=y.Key):=rfl
  rw[Ii,List.any_cons,hc]
  by_cases h:x.Key=y.Key
  ·rw[aQ (aH h),aH h];simp
  ·rw[aP (by simpa using h),hasKey y l (i+1),aI h,Bool.false_or]
theorem Aox(key:ByteArray)(j:Fp):∀(l:List Fp) (i:Nat),(Ml key (j,false) l i).2=l.any λx=>decide (x.Key=key)
 |[],i=>rfl
 |x::l,i=>by
  rw[Ml,List.any_cons]
  by_cases h:x.Key=key
  ·rw[aQ (aH h),aH h];rfl
  ·rw[aP (by simpa using h),Aox key j l (i+1),aI h,Bool.false_or]
theorem Amd(p:Ge)(hl:p.Races.length<=1000)(e0:Int):∀(ys dn:List Fp),p.Races=dn++ys->(dn.map (·.Key)).Nodup->(∀r∈dn,Gh r.Key=some true)->∃e,Vg p (some e0) ys dn.length=some e/\Oj p (some e0) ys dn.length=some e/\(e=0->e0=0/\(p.Races.map (·.Key)).Nodup/\∀r∈p.Races,Gh r.Key=some true)
 |[],dn,h,h1,h2=>⟨e0,rfl,rfl,λhe=>⟨he,by rw[h,List.append_nil];exact h1,by rw[h,List.append_nil];exact h2⟩⟩
 |y::ys,dn,h,h1,h2=>by
  have hlen:p.Races.length=dn.length+(ys.length+1):=by rw[h];simp
  have e:p.Races=(dn++[y])++ys:=by rw[h];simp
  have hcut:cut p.Races 0 (dn.length:Int)=dn:=by unfold cut;rw[h];simp
  have hc:Jk dn y=dn.any λx=>decide (x.Key=y.Key):=by
   unfold Jk Mc;rw[Ga,hasKey]
  have hc2:(Ju dn y.Key).2=dn.any λx=>decide (x.Key=y.Key):=by
   unfold Ju;rw[Ga,Aox]
  obtain⟨f,f1,f2⟩:=race_eq y;rw[Vg,Oj,f1,f2];simp only[aG,Ga]
  by_cases hf:f=0
  ·subst hf;simp only[aJ,bN,aO,aR];rw[Fm (Lc.2 aA),Fm (Lc.2 aA),hcut,hc,hc2]
   cases ha:dn.any λx=>decide (x.Key=y.Key) with
   |true=>exact⟨6,by simp,by simp,λh=>absurd h aC⟩
   |false=>
    rw[List.any_eq_false] at ha;have ih:=Amd p hl e0 ys (dn++[y]) e (by
     rw[List.map_append,List.nodup_append];refine⟨h1,by simp,λa ha' b hb e'=>?_⟩;obtain⟨x,hx,rfl⟩:=bD.1 ha';simp only[aY,List.map_nil,bA] at hb;exact ha x hx (by simp[e',hb])) λr hr=>by
     rcases bC.1 hr with hr|hr
     ·exact h2 r hr
     ·obtain rfl:=bA.1 hr;exact raceKey f1
    rw[aU,aX] at ih;simpa using ih
  ·rw[aQ (by simpa using hf),aQ (by simpa using hf)];exact⟨f,rfl,rfl,λh=>absurd h hf⟩
theorem Aej(p:Ge):∃e,Sr p=some e/\Rv p=some e/\(e=0->QC p):=by
 unfold Sr Rv
 by_cases h:100<(p.Races.length:Int)
 ·rw[aQ (aH h),aQ (aH h)];exact⟨2,rfl,rfl,λh=>absurd h aC⟩
 ·rw[aP (by simpa using h),aP (by simpa using h)];simp only[Ga];obtain⟨e,t1,t2,t3⟩:=table_eq p.Table;have hff:Xx p.Final=Te p.Final:=rfl;rw[t1,t2,hff];simp only[aG]
  by_cases he:e=0
  ·subst he;simp only[aJ,bN,aO,aR];obtain⟨f,a,b,c⟩:=Amd p aA (Te p.Final) p.Races [] rfl aB aB;exact⟨f,a,b,λhf=>⟨t3 rfl,t1,(c hf).2.1,(c hf).2.2,by omega,(c hf).1⟩⟩
  ·rw[aQ (by simpa using he)];obtain⟨f,a,b,c⟩:=Amd p aA e p.Races [] rfl aB aB;exact⟨f,a,b,λhf=>absurd (c hf).1 he⟩
theorem WE(t:Int):CG t=if Hf t=true then 0 else 1:=by
 have hmo:Hf t=Me t:=by
  unfold Hf Me Ik
  by_cases a1:0<=t<;>by_cases a2:t<345686400000<;>simp[a1,a2]<;>omega
 unfold CG TJ;rw[hmo]
 cases Me t<;>rfl
theorem errs2(a b:Int):Nz [a,b]=if a≠0 then a else b:=by
 rw[XI,XI,errs_nil]
 by_cases ha:a=0<;>by_cases hb:b=0<;>simp[ha,hb]
theorem DsG.mom{l:List An}(h:DsG l):l.Pairwise λx y=>x.At<=y.At:=h.adj.up.imp λ{a b} hab=>by have:=(Anz a b).1 hab;omega
theorem SO(p:Ge)(l:List An)(at_:Int):∃e,Oh p l at_=some e/\(e≠0->Zg p l [at_]=some (none,e))/\(e=0->QC p/\DsG l/\Hf at_=true/\Zg p l [at_]=some (some (Jr.mk p (Gj l at_)),0)):=by
 obtain⟨e,p1,p2,p3⟩:=Aej p;obtain⟨f,d1,d2,d3⟩:=TX l;unfold Oh Zg;rw[p1,p2];simp only[aG]
 by_cases he:e=0
 ·subst he;simp only[aJ,bN,aO,aR];rw[d1,d2];simp only[aG,Ga,errs2,WE]
  by_cases hf:f=0
  ·subst hf;have hG:=d3 rfl;simp only[aJ,bN,aO,aR,ne_eq,not_true_eq_false];rw[Yd]
   by_cases hm:Hf at_=true
   ·refine⟨0,by rw[aQ hm],λh=>absurd rfl h,λ_=>⟨p3 rfl,hG,hm,?_⟩⟩;rw[aP (by simp[hm]),Yd,Fm (by rfl)];have hn:nth [at_] (W ((([at_]:List Int).length:Int)-1))=at_:=rfl;rw[hn,Aay p l at_ (by have:=hG.len;omega)];rfl
   ·refine⟨1,by rw[aP hm],λ_=>?_,λh=>absurd h aC⟩;rw[aQ (by simpa using hm)]
  ·refine⟨f,by rw[aQ hf],λ_=>?_,λh=>absurd h hf⟩;rw[aQ (by simpa using hf)]
 ·rw[aQ (by simpa using he)];exact⟨e,rfl,λ_=>by rw[aQ (by simpa using he)],λh=>absurd h he⟩
def R0:Fp:=Fp.mk Ff 0 0 0 0 0 0 0
theorem idxN_l(key:ByteArray):∀(l:List Fp) (i:Nat),(∀r∈l,r.Key≠key)->Hh key (-1) l i= -1
 |[],_,_=>rfl
 |x::l,i,h=>by
  rw[Hh]
  unfold DP
  rw[aP (by simpa using h x aN)]
  exact idxN_l key l (i+1) λr hr=>h r (aM _ hr)
theorem SP{p:Ge}(hp:QC p){l:List An}{at_:Int}(hf:OB l)(hs:l.Pairwise λx y=>x.At<=y.At)(race:ByteArray):∃e,Jn p l race at_=some e/\((e≠0/\BU p (Gj l at_) race=some (R0,e))\/(e=0/\∃r∈p.Races,r.Key=race/\BU p (Gj l at_) race=some (r,0))):=by
 have hFl:(Gj l at_).length<=l.length:=(CF l at_).length_le;have hl:=hf.len;unfold Jn BU
 by_cases hex:∃r∈p.Races,r.Key=race
 ·obtain⟨r,hr,hk⟩:=hex;obtain⟨k,e1,e2⟩:=idxR_l race p.Races 0 hp.keys r hr hk;have hidx:Gt p.Races race=(k:Int):=by
   unfold Gt;rw[Ga,e1];simp
  have hk2:k<p.Races.length:=by
   rcases Nat.lt_or_ge k p.Races.length with h|h
   ·exact h
   ·rw[List.getElem?_eq_none h] at e2;cases e2
  have hnth:nth p.Races (k:Int)=r:=by unfold nth;simp[List.getD,e2]
  have hro:(Ju p.Races race).2=true:=by
   unfold Ju;rw[Ga,UJ race _ p.Races 0 hp.keys r hr hk]
  rw[hro,hidx,aP aB,aP aB,CI l race at_ hf hs,CH p (Gj l at_) race aA];simp only[aG]
  by_cases hc:300<((Zw race (Gj l at_)).length:Int)
  ·rw[aQ (aH hc),aQ (aH hc)];exact⟨2,rfl,.inl ⟨by decide,rfl⟩⟩
  ·rw[aP (by simpa using hc),aP (by simpa using hc),Fm (Fy.2 aA),hnth];exact⟨0,rfl,.inr ⟨rfl,r,hr,hk,rfl⟩⟩
 ·have hno:∀r∈p.Races,r.Key≠race:=λr hr e=>hex ⟨r,hr,e⟩;have hidx:Gt p.Races race= -1:=by
   unfold Gt;rw[Ga,idxN_l race p.Races 0 hno]
  have hro:(Ju p.Races race).2=false:=by
   unfold Ju;rw[Ga,YC race _ p.Races 0 hno]
  rw[hro,hidx];exact⟨8,rfl,.inl ⟨by decide,rfl⟩⟩
theorem RW{p:Ge}(hp:QC p){l:List An}{at_:Int}(hf:OB l)(hs:l.Pairwise λx y=>x.At<=y.At):∃e,Kn p l at_=some e/\GT p (Gj l at_)=some e:=by
 unfold Kn GT;rw[Ga,Ga];have loop:∀(ys:List Fp) (i:Nat),∃e,Pi p l at_ (some 0) ys i=some e/\CR p (Gj l at_) (some 0) ys i=some e:=by
  intro ys
  induction ys with
  |nil=>intro i;exact⟨0,rfl,rfl⟩
  |cons y ys ih=>
   intro i;rw[Pi,CR];obtain⟨e,h1,h2⟩:=SP hp hf hs (at_:=at_) y.Key;rw[h1];simp only[aG];rcases h2 with ⟨h2,h3⟩|⟨h2,r,_,_,h3⟩
   ·rw[h3];simp only[aG];rw[aQ (by simpa using h2),aQ (by simpa using h2)];exact⟨e,rfl,rfl⟩
   ·rw[h3,h2];simpa using ih (i+1)
 exact loop p.Races 0
def misS(F:List An)(r:Fp):List Hu:=((Zw r.Key F).filter λd=>!QF r.Key F d).map λd=>Hu.mk r.Key d.Who
theorem Agi(F:List An)(r:Fp):(misS F r).length<=F.length:=by
 unfold misS;rw[aV];have h1:=List.length_filter_le (λd=>!QF r.Key F d) (Zw r.Key F);have h2:=KU r.Key F;have h3:=HY r.Key F;omega
theorem Ame(p:Ge)(F:List An)(r:Fp)(j:List Hu->Option (List Hu×Int)):∀(ys:List An) (i:Nat) (x:List Hu),x.length+ys.length<=1000000->Uf p F r j ys i x=j (x++(ys.filter λd=>!QF r.Key F d).map λd=>Hu.mk r.Key d.Who)
 |[],i,x,_=>by simp[Uf]
 |y::ys,i,x,h=>by
  simp only[aT] at h
  have hh:QF r.Key F y=(Tw (swM r.Key F) y.Who).isSome:=rfl
  rw[Uf]
  simp only[Ga,Aom]
  cases hc:(Tw (swM r.Key F) y.Who).isSome with
  |true=>
   rw[aP aB,Ame p F r j ys (i+1) x aA,bS (by rw[hh,hc];simp)]
  |false=>
   rw[aQ aB,Fm (by unfold Ja;exact aH aA),Ame p F r j ys (i+1) _ aD,bR (by rw[hh,hc];rfl)]
   simp
theorem Amf(l:List An)(r:Fp)(at_:Int)(hf:OB l)(hs:l.Pairwise λx y=>x.At<=y.At)(j:List Hu->Option (List Hu)):∀(ys:List An) (i:Nat) (x:List Hu),x.length+ys.length<=1000000->Ol l r at_ j ys i x=j (x++(ys.filter λd=>!QF r.Key (Gj l at_) d).map λd=>Hu.mk r.Key d.Who)
 |[],i,x,_=>by simp[Ol]
 |y::ys,i,x,h=>by
  simp only[aT] at h
  rw[Ol]
  simp only[Ga]
  rw[Aix l r.Key y at_ hf hs]
  simp only[aG]
  cases hc:QF r.Key (Gj l at_) y with
  |true=>
   rw[aP aB,Amf l r at_ hf hs j ys (i+1) x aA,bS (by rw[hc];simp)]
  |false=>
   rw[aQ aB,Fm (by unfold Ja;exact aH aA),Amf l r at_ hf hs j ys (i+1) _ aD,bR (by rw[hc];rfl)]
   simp
theorem Agj{p:Ge}(hp:QC p){l:List An}{at_:Int}(hf:OB l)(hs:l.Pairwise λx y=>x.At<=y.At):∃L e,DS p (Gj l at_)=some (L,e)/\Kn p l at_=some e/\(e≠0->L=[])/\(e=0->Ul p l at_=some L/\L=p.Races.flatMap (misS (Gj l at_))):=by
 have hFl:(Gj l at_).length<=l.length:=(CF l at_).length_le;have hl:=hf.len;obtain⟨e,a1,a2⟩:=RW hp hf hs (at_:=at_);unfold DS;rw[a2];simp only[aG,Ga]
 by_cases he:e=0
 ·subst he;simp only[aJ,bN,aO,aR];have hel:∀r:Fp,(Zw r.Key (Gj l at_)).length<=1000:=λr=>by
   have h2:=KU r.Key (Gj l at_);have h3:=HY r.Key (Gj l at_);omega
  have l1:∀(ys:List Fp) (i:Nat) (x:List Hu),x.length+1000*ys.length<=200000->Se p (Gj l at_) (λx1=>some (x1,0)) ys i x=some (x++ys.flatMap (misS (Gj l at_)),0):=by
   intro ys
   induction ys with
   |nil=>intro i x _;simp[Se]
   |cons y ys ih=>
    intro i x hx;simp only[aT] at hx;have h1:=hel y;have h2:=Agi (Gj l at_) y;rw[Se,CH p _ _ aA];simp only[aG,Ga];rw[Ame p _ y _ _ 0 x aA];show Se p (Gj l at_) _ ys (i+1) (x++misS (Gj l at_) y)=_;rw[ih (i+1) _ (by rw[aU];omega),List.flatMap_cons,List.append_assoc]
  have l2:∀(ys:List Fp) (i:Nat) (x:List Hu),x.length+1000*ys.length<=200000->Mq l at_ (λx1=>some x1) ys i x=some (x++ys.flatMap (misS (Gj l at_))):=by
   intro ys
   induction ys with
   |nil=>intro i x _;simp[Mq]
   |cons y ys ih=>
    intro i x hx;simp only[aT] at hx;have h1:=hel y;have h2:=Agi (Gj l at_) y;rw[Mq,CI l y.Key at_ hf hs];simp only[aG,Ga];rw[Amf l y at_ hf hs _ _ 0 x aA];show Mq l at_ _ ys (i+1) (x++misS (Gj l at_) y)=_;rw[ih (i+1) _ (by rw[aU];omega),List.flatMap_cons,List.append_assoc]
  have hpl:=hp.len;refine⟨p.Races.flatMap (misS (Gj l at_)),0,?_,a1,λh=>absurd rfl h,λ_=>⟨?_,rfl⟩⟩
  ·rw[l1 p.Races 0 [] aD,aZ]
  ·unfold Ul;rw[Ga,l2 p.Races 0 [] aD,aZ]
 ·rw[aQ (by simpa using he)];exact⟨[],e,rfl,a1,λ_=>rfl,λh=>absurd h he⟩
theorem sf_l1(l:List Fd)(hl:l.length<=1000)(hk:∀x∈l,Gh x.Race=some true/\Gh x.Who=some true/\(x.Club=Ff\/Gh x.Club=some true))(hr:∀x∈l,RR x)(ho:l.Pairwise λx y=>JJ x y=true)(j:Option Int):
 ∀(ys dn:List Fd),l=dn++ys->Gc l j ys dn.length=j
 |[],dn,_=>rfl
 |y::ys,dn,h=>by
  have hy:y∈l:=by rw[h];simp
  have key:∀s,Gh s=some true->Lu s=some true:=λs hs=>by
   obtain⟨b,p,q⟩:=We s
   rw[hs] at p
   rw[q,←p]
  obtain⟨k1,k2,k3⟩:=hk y hy
  have hin:Ik y.Rank 0 300=true:=by
   obtain⟨a,b⟩:=hr y hy;unfold Ik;simp only[bQ,aK];exact⟨a,b⟩
  have step:Gc l j (y::ys) dn.length=if decide (0<(dn.length:Int)) then Chk (inB (W ((dn.length:Int)-1)) l.length) (if decide (0<=(Ng (nth l (W ((dn.length:Int)-1))) y)) then some 7 else Gc l j ys (dn.length+1)) else Gc l j ys (dn.length+1):=by
   rw[Gc,key _ k1,key _ k2,hin];simp only[aG,Ga];rcases k3 with k3|k3
   ·simp[k3]
   ·rw[key _ k3]
    by_cases hc:y.Club=Ff<;>simp[hc]
  have next:=sf_l1 l hl hk hr ho j ys (dn++[y]) (by rw[h];simp);rw[aU,aX] at next;rw[step];rcases List.eq_nil_or_concat dn with rfl|⟨d,x,rfl⟩
  ·rw[aP aB];exact next
  ·simp only[List.concat_eq_append] at*;have hlen:((d++[x]).length:Int)=(d.length:Int)+1:=by simp
   have hdl:d.length<=1000:=by rw[h] at hl;simp at hl;omega
   have hw:W (((d++[x]).length:Int)-1)=(d.length:Int):=by
    rw[hlen,show (d.length:Int)+1-1=(d.length:Int) by omega,Hl aA aA]
   have hn:nth l (d.length:Int)=x:=by unfold nth;rw[h];simp
   have hinb:inB (d.length:Int) l.length=true:=by rw[Fy,h];simp;omega
   have hx:x∈l:=by rw[h];simp
   have hlt:JJ x y=true:=by
    rw[h,List.append_assoc] at ho;have:=(bK.1 ho).2.1;exact(List.pairwise_cons.1 this).1 y aB
   rw[aQ (by rw[hlen];simp),hw,Fm hinb,hn,(ge_lex (hr x hx) (hr y hy)).2,hlt];exact next
theorem Amg{F:List An}(h:FM F)(race:ByteArray):(Zz race F).Perm ((Oy race F).map λd=>Fj.mk d.Who (Tu race F d) (svS race F d).Time (svS race F d).Fault):=by
 refine(List.perm_ext_iff_of_nodup ?_ ?_).2 λy=>⟨λhy=>?_,λhy=>?_⟩
 ·exact(List.pairwise_map.1 (Agc race F)).imp λ{a b} hab e=>hab (by rw[e])
 ·exact List.pairwise_map.2 ((List.pairwise_map.1 (JK race F)).imp λ{a b} hab e=>hab (congrArg Fj.Who e))
 ·obtain⟨d,hd,rfl⟩:=CX h hy;exact bJ hd
 ·obtain⟨d,hd,rfl⟩:=bD.1 hy;exact Aoq h hd
theorem rnk_lt{F:List An}{race:ByteArray}{d o:An}(ho:o∈Oy race F)(gd:gdS race F d=true):(0<Tu race F o/\Tu race F o<Tu race F d)↔(gdS race F o=true/\(svS race F o).Time<(svS race F d).Time):=by
 unfold Tu;rw[aQ gd]
 by_cases go:gdS race F o=true
 ·rw[aQ go];simp only[go,true_and];constructor
  ·intro h;apply Classical.byContradiction;intro hn;have:=List.countP_mono_left (l:=Oy race F) (p:=λu=>gdS race F u && decide ((svS race F u).Time<(svS race F d).Time)) (q:=λu=>gdS race F u && decide ((svS race F u).Time<(svS race F o).Time)) λu _ hu=>by
    simp only[bQ,aK] at hu ⊢;exact⟨hu.1,by omega⟩
   omega
  ·intro h;refine⟨by omega,?_⟩;have h1:(Oy race F).countP (λu=>gdS race F u && decide ((svS race F u).Time<(svS race F o).Time))<(Oy race F).countP (λu=>gdS race F u && decide ((svS race F u).Time<(svS race F d).Time)):=by
    obtain⟨A,B,e⟩:=List.append_of_mem ho;rw[e,List.countP_append,List.countP_append,List.countP_cons,List.countP_cons];have m:=fun(X:List An)=>List.countP_mono_left (l:=X) (p:=λu=>gdS race F u && decide ((svS race F u).Time<(svS race F o).Time)) (q:=λu=>gdS race F u && decide ((svS race F u).Time<(svS race F d).Time)) λu _ hu=>by
     simp only[bQ,aK] at hu ⊢;exact⟨hu.1,by omega⟩
    have a1:=m A;have a2:=m B;rw[aP aB,aQ (by simp[go,h])];omega
   omega
 ·rw[aP go];constructor
  ·intro h;omega
  ·intro h;exact absurd h.1 go
theorem XJ{F:List An}(h:FM F)(r:Fp)(hk:Gh r.Key=some true):∃e,Kf (Ox r F)=some e/\(e=0\/e=12):=by
 have hlen:(Zz r.Key F).length<=12:=by
  have:=(OC r.Key F).length_eq;rw[aV,aV] at this;have:=h.few r.Key;omega
 have hrl:(Ox r F).length<=12:=by unfold Ox;rw[aV];exact hlen
 have hmem:∀x∈Ox r F,∃d∈Oy r.Key F,x=Fd.mk r.Key d.Who d.Club (Tu r.Key F d) (decide (1<r.Legs)):=λx hx=>by
  obtain⟨y,hy,rfl⟩:=bD.1 hx;obtain⟨d,hd,rfl⟩:=CX h hy;refine⟨d,hd,?_⟩;unfold scS;rw[OU _ [] d hd (JK r.Key F)]
 have hrr:∀x∈Ox r F,RR x:=λx hx=>by
  obtain⟨d,hd,rfl⟩:=hmem x hx;have:=MA h r.Key d;exact⟨this.1,by show Tu r.Key F d<=300;omega⟩
 have hkey:∀x∈Ox r F,Gh x.Race=some true/\Gh x.Who=some true/\(x.Club=Ff\/Gh x.Club=some true):=λx hx=>by
  obtain⟨d,hd,rfl⟩:=hmem x hx;obtain⟨d1,_⟩:=RV h hd;obtain⟨_,k2,k3⟩:=EC d1;have g:=h.ok d k3;exact⟨hk,(g.who aA).1,g.club k2⟩
 have ho:(Ox r F).Pairwise λx y=>JJ x y=true:=by
  unfold Ox;rw[List.pairwise_map];refine List.Pairwise.imp_of_mem (λ{a b} ha hb hab=>?_) (Agb r.Key F);obtain⟨d,_,rfl⟩:=CX h ha;obtain⟨e,_,rfl⟩:=CX h hb;have r1:=MA h r.Key d;have r2:=MA h r.Key e;have hab':(0<Tu r.Key F d/\0<Tu r.Key F e/\(Tu r.Key F d<=Tu r.Key F e/\(Tu r.Key F d=Tu r.Key F e->cB d.Who e.Who<0)))\/(0<Tu r.Key F d/\Tu r.Key F e=0)\/(Tu r.Key F d=0/\Tu r.Key F e=0/\cB d.Who e.Who<0):=by
   rcases hab with ⟨h1,h2,h3,h4,h5,h6⟩|h1|h1
   ·exact .inl ⟨h1,h2,h4,λe=>h6 (h5.1 e)⟩
   ·exact .inr (.inl h1)
   ·exact .inr (.inr h1)
  rw[NY];refine .inr ⟨rfl,?_⟩;unfold kR scS;show _\/_;simp only;rcases hab' with ⟨h1,h2,h3,h4⟩|⟨h1,h2⟩|⟨h1,h2,h3⟩
  ·rw[aP aA,aP aA]
   by_cases e1:Tu r.Key F d=Tu r.Key F e
   ·exact .inr ⟨e1,h4 e1⟩
   ·exact .inl aA
  ·rw[aP aA,aQ h2];exact .inl aA
  ·rw[aQ h1,aQ h2];exact .inr ⟨rfl,h3⟩
 have hd:(Ox r F).Pairwise Dif:=by
  unfold Ox;rw[List.pairwise_map];exact(List.pairwise_map.1 (Agc r.Key F)).imp λ{a b} hab e=>hab e.2
 have hmix:(Ox r F).any (UG (Ox r F))=false:=by
  rw[List.any_eq_false];intro x hx;unfold UG;rw[Bool.not_eq_true,List.any_eq_false];intro o ho;obtain⟨d,_,rfl⟩:=hmem x hx;obtain⟨e,_,rfl⟩:=hmem o ho;simp
 have hwrong:(Ox r F).any (Tc (Ox r F))=false:=by
  rw[List.any_eq_false];intro x hx;rw[Bool.not_eq_true];obtain⟨d,hd,rfl⟩:=hmem x hx;unfold Tc
  by_cases hp:0<Tu r.Key F d
  ·have gd:gdS r.Key F d=true:=by
    apply Classical.byContradiction;intro hn;unfold Tu at hp;rw[aP hn] at hp;omega
   have hb:AP (Ox r F) (Fd.mk r.Key d.Who d.Club (Tu r.Key F d) (decide (1<r.Legs)))=(Oy r.Key F).countP λo=>gdS r.Key F o && decide ((svS r.Key F o).Time<(svS r.Key F d).Time):=by
    unfold AP Ox;rw[List.countP_map,(Amg h r.Key).countP_eq,List.countP_map];refine List.countP_congr λo ho=>?_;have:=rnk_lt ho gd;simp only[Function.comp_apply,scS,aJ,bO,bQ,aK];exact⟨λhh=>this.1 ⟨of_decide_eq_true hh.1,of_decide_eq_true hh.2⟩,λhh=>⟨aH (this.2 hh).1,aH (this.2 hh).2⟩⟩
   rw[hb];have:Tu r.Key F d=1+((Oy r.Key F).countP λo=>gdS r.Key F o && decide ((svS r.Key F o).Time<(svS r.Key F d).Time):Nat):=by
    unfold Tu;rw[aQ gd]
   simp only[this,Bool.and_eq_false_iff,Bool.not_eq_false',aK];exact .inr aA
  ·simp[hp]
 refine⟨if(Ox r F).any (FU (Ox r F)) then 12 else 0,?_,?_⟩
 ·unfold Kf;rw[aP aD];simp only[Ga];have h1:=sf_l1 (Ox r F) aA hkey hrr ho;rw[show (0:Nat)=([]:List Fd).length from rfl,h1 _ (Ox r F) [] rfl];have h2:=Aed (Ox r F) aA;rw[(Abn _).2 hd,hmix,hwrong] at h2;simp only[aO,aR] at h2;exact h2
 ·split
  ·exact .inr rfl
  ·exact .inl rfl
theorem itoaM(n:Int)(h0:0<=n)(h1:n<=1000000000000000):∃s,Jb n=some s/\s.size<=21:=by
 unfold Jb;rw[Fm (by simp only[bQ,aK];omega)];refine⟨_,rfl,?_⟩;have:=Lib.itoa_length_le n aA aA;rw[Zv];exact this
theorem numM(a:Int)(s1:ByteArray)(h1:Jb a=some s1)(hs:s1.size<=21):Ko [a]=some s1:=by
 have e1:=Zv s1;unfold Ko;simp only[Ga,Tf,h1,aG,aW,aZ];rw[Fm aC];have hj:Lib.join ([s1].map (·.data.toList)) Gy.data.toList=s1.data.toList:=by
  rw[show Gy.data.toList=[32] from rfl];simp[Lib.join,List.intercalate]
 unfold FC;rw[hj,Fm aD];rfl
theorem two_fin:∀i:Fin 100,AI (i.val:Int)=some (Ph (i.val:Int))/\(Ph (i.val:Int)).size<=2:=by decide+kernel
theorem Ajo{n:Int}(h0:0<=n)(h1:n<100):AI n=some (Ph n)/\(Ph n).size<=2:=by
 have:=two_fin ⟨n.toNat,by omega⟩;simp only[Int.toNat_of_nonneg h0] at this;exact this
theorem UK{t:Int}(h0:0<=t)(h1:t<=360000):∃s,AE t=some s/\Qx t=some s/\s.size<=100:=by
 unfold AE Qx
 by_cases hz:t=0
 ·rw[aQ (aH hz),aQ (aH hz)];exact⟨_,rfl,rfl,by decide⟩
 rw[aP (by simpa using hz),aP (by simpa using hz)];unfold JD CU;have hi:DR t=true:=by
  unfold DR Fv;simp only[bQ,aK];omega
 have q1:Int.tdiv t 100=t / 100:=Int.tdiv_eq_ediv_of_nonneg h0;have q2:Int.tdiv t 6000=t / 6000:=Int.tdiv_eq_ediv_of_nonneg h0;have w1:W (Int.tdiv t 100)=t / 100:=by rw[q1];exact Hl aA aA
 have w2:W (Int.tdiv t 6000)=t / 6000:=by rw[q2];exact Hl aA aA
 have m1:Int.tmod t 100=t % 100:=Int.tmod_eq_emod_of_nonneg h0;have m2:Int.tmod (W (Int.tdiv t 100)) 60=t / 100 % 60:=by rw[w1];exact Int.tmod_eq_emod_of_nonneg aA
 rw[m2,w1,w2,m1];obtain⟨a1,a2⟩:=Ajo (n:=t % 100) aA aA;obtain⟨b1,b2⟩:=Ajo (n:=t / 100 % 60) aA aA;obtain⟨c,c1,c2⟩:=itoaM (t / 100 % 60) aA aA;obtain⟨d,d1,d2⟩:=itoaM (t / 6000) aA aA;have k1:LJ.size=1:=by decide
 have k2:QU.size=1:=by decide
 rw[hi,a1,b1,c1,d1];simp only[bN,aO,aR,aG,Ga]
 by_cases hs:t<6000
 ·have e:t / 100=t / 100 % 60:=by omega
  rw[aQ (aH hs),aP aD,e,c1];simp only[aG]
  repeat rw[Fm (by simp only[ByteArray.size_append,aK];omega)]
  refine⟨c++(LJ++Ph (t % 100)),rfl,?_,?_⟩
  ·rw[ByteArray.append_assoc];rfl
  ·simp only[ByteArray.size_append];omega
 ·rw[aP (by simpa using hs),aQ aD]
  repeat rw[Fm (by simp only[ByteArray.size_append,aK];omega)]
  refine⟨d++QU++Ph (t / 100 % 60)++(LJ++Ph (t % 100)),rfl,?_,?_⟩
  ·simp only[aG,ByteArray.append_assoc]
  ·simp only[ByteArray.size_append];omega
end Go.Proofs.YthlielagemkjcaaGreatDoor
