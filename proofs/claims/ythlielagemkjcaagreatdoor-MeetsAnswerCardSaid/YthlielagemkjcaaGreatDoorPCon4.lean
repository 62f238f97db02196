/- Each line that may be asked. Conditions: right plans,pools and deeds; a moment. No program stands here but its twins. -/
import Derived.Test.YthlielagemkjcaaGreatDoorPSd2
namespace Go.Proofs.YthlielagemkjcaaGreatDoor
open Go
theorem SR{α:Type}[Inhabited α](l:List α)(i k:Nat)(v:α)(hi:i<l.length):nth (l.set i v) (k:Int)=if k=i then v else nth l (k:Int):=by
 unfold nth;simp only[bI,List.getD_eq_getElem?_getD,List.getElem?_set]
 by_cases e:i=k
 ·subst e;simp[hi]
 ·rw[aP e,aP λh=>e h.symm]
def rmI(Z:List Int)(H:List (List ByteArray)):Nat->Nat->Int
 |_,0=>0
 |k,d+1=>(nth Z (k:Int)-((nth H (k:Int)).length:Int))+rmI Z H (k+1) d
theorem rm_set(Z:List Int)(H:List (List ByteArray))(i:Nat)(w:ByteArray)(hi:i<H.length):∀(d k:Nat),rmI Z (H.set i (nth H (i:Int)++[w])) k d=rmI Z H k d-(if k<=i/\i<k+d then 1 else 0)
 |0,k=>by rw[aP aA];rfl
 |d+1,k=>by
  unfold rmI
  rw[rm_set Z H i w hi d (k+1),SR H i k _ hi]
  by_cases e:k=i
  ·subst e
   rw[aQ rfl,aP aA,aQ aA,aU]
   simp
   omega
  ·rw[aP e]
   by_cases g:k+1<=i/\i<k+1+d
   ·rw[aQ g,aQ aA];omega
   ·rw[aP g,aP aA];omega
theorem rm_pos(Z:List Int)(H:List (List ByteArray)):∀(d k:Nat),0<rmI Z H k d->∃i,k<=i/\i<k+d/\((nth H (i:Int)).length:Int)<nth Z (i:Int)
 |0,k,h=>by unfold rmI at h;omega
 |d+1,k,h=>by
  unfold rmI at h
  by_cases g:((nth H (k:Int)).length:Int)<nth Z (k:Int)
  ·exact⟨k,by omega,by omega,g⟩
  ·obtain⟨i,h1,h2,h3⟩:=rm_pos Z H d (k+1) aA
   exact⟨i,by omega,by omega,h3⟩
theorem Ape(Z:List Int)(H:List (List ByteArray)):∀(d k:Nat),(∀i,k<=i->i<k+d->((nth H (i:Int)).length:Int)<=nth Z (i:Int))->0<=rmI Z H k d/\(rmI Z H k d=0->∀i,k<=i->i<k+d->((nth H (i:Int)).length:Int)=nth Z (i:Int))
 |0,k,h=>⟨Int.le_refl _,λ_ i h1 h2=>by omega⟩
 |d+1,k,h=>by
  obtain⟨g1,g2⟩:=Ape Z H d (k+1) λi h1 h2=>h i aA aA
  have h0:=h k aA aA
  unfold rmI
  refine⟨by omega,λe i h1 h2=>?_⟩
  by_cases ei:i=k
  ·subst ei;omega
  ·exact g2 aA i aA aA
theorem rm_l(Z:List Int)(H:List (List ByteArray))(hZ:Z.length<=60)(hH:H.length=Z.length)(j:Int->Option (List Ft)):∀(d m k:Nat) (a:Int),d<m->k+d=Z.length->0<=a->a<=10*(k:Int)->(∀i,k<=i->i<k+d->0<=nth Z (i:Int)-((nth H (i:Int)).length:Int)/\nth Z (i:Int)-((nth H (i:Int)).length:Int)<=10)->
 Lo Z H j m a (k:Int)=j (a+rmI Z H k d)
 |0,m,k,a,h1,h2,h3,h4,h5=>by
  obtain⟨m,rfl⟩:∃q,m=q+1:=⟨m-1,by omega⟩
  rw[Lo,aP aD]
  unfold rmI
  rw[Int.add_zero]
 |d+1,m,k,a,h1,h2,h3,h4,h5=>by
  obtain⟨m,rfl⟩:∃q,m=q+1:=⟨m-1,by omega⟩
  have g:=h5 k aA aA
  rw[Lo,aQ (aH aA),Mo (Fy.2 aA),Mo (Fy.2 aA),Hl (n:=nth Z (k:Int)-_) aA aA,Hl (n:=a+_) aA aA,Hl (n:=(k:Int)+1) aA aA]
  have ih:=rm_l Z H hZ hH j d m (k+1) (a+(nth Z (k:Int)-((nth H (k:Int)).length:Int))) aA aA aA aA λi k1 k2=>h5 i aA aA
  rw[Int.natCast_add] at ih
  refine ih.trans ?_
  rw[rmI,Int.add_assoc]
structure Cir(p:Gf)(Z:List Int)(c:Int)(first:Nat):Prop where
 few:Z.length<=60
 ten:∀i:Nat,0<=nth Z (i:Int)/\nth Z (i:Int)<=10
 isc:Xp p.Circles (Z.length:Int)=c
 two:2<=c
 first:(first:Int)+c=(Z.length:Int)
structure HeG(Z:List Int)(H:List (List ByteArray)):Prop where
 len:H.length=Z.length
 le:∀i:Nat,i<Z.length->((nth H (i:Int)).length:Int)<=nth Z (i:Int)
theorem HeG.put{Z:List Int}{H:List (List ByteArray)}(h:HeG Z H){i:Nat}(hi:i<Z.length)(hl:((nth H (i:Int)).length:Int)<nth Z (i:Int))(w:ByteArray):HeG Z (H.set i (nth H (i:Int)++[w])):=by
 refine⟨by rw[List.length_set];exact h.len,λk hk=>?_⟩;rw[SR H i k _ (by rw[h.len];exact hi)]
 by_cases e:k=i
 ·subst e;rw[aQ rfl,aU];simp;omega
 ·rw[aP e];exact h.le k hk
section
variable {p:Gf}{Z:List Int}{c:Int}{first:Nat}(hC:Cir p Z c first)(j:List (List ByteArray)->List ByteArray->Option (List Ft))
include hC
theorem cir_go(H:List (List ByteArray))(hH:HeG Z H)(w:ByteArray)(ws:List ByteArray)(hr:0<rmI Z H first (Z.length-first))(m:Nat)(at_:Nat)(x:Int)(h1:first<=at_)(h2:at_<Z.length)(hx:x=at_\/(x=(first:Int)-1/\at_+1=Z.length)):
 Gv p Z j (m+1) H (w::ws) x=if((nth H (at_:Int)).length:Int)<nth Z (at_:Int) then Gv p Z j m (H.set at_ (nth H (at_:Int)++[w])) ws ((at_:Int)-1) else Gv p Z j m H (w::ws) ((at_:Int)-1):=by
 have hz:=hC.few;have hf:=hC.first;have h0:=hC.two;have w1:W ((Z.length:Int)-c)=(first:Int):=by rw[Hl aA aA];omega
 have w2:W ((Z.length:Int)-1)=(Z.length:Int)-1:=Hl aA aA;have w3:W ((at_:Int)-1)=(at_:Int)-1:=Hl aA aA;have hnorm:(if decide (x<(first:Int)) then(Z.length:Int)-1 else x)=(at_:Int):=by
  by_cases g:x<(first:Int)
  ·rw[aQ (aH g)];omega
  ·rw[aP (by simpa using g)];omega
 have hb:inB (at_:Int) H.length=true:=Fy.2 (by rw[hH.len];omega);have hb2:inB (at_:Int) Z.length=true:=Fy.2 aA;have hroom:∀k:Int->Option (List Ft),Lo Z H k (((Z.length:Int)-(first:Int)).toNat+2) 0 (first:Int)=k (rmI Z H first (Z.length-first)):=λk=>by
  rw[rm_l Z H hz hH.len k (Z.length-first) _ first 0 aA aA aA aA λi k1 k2=>?_,Int.zero_add];have:=hH.le i aA;have:=(hC.ten i);omega
 rw[Gv];simp only[Ga];rw[hC.isc,aQ aD,w1,w2,hroom,hroom];have key:∀y:Int,y=(at_:Int)->(if decide (rmI Z H first (Z.length-first)=0)=true then j H (w::ws) else Chk (inB y H.length) (Chk (inB y Z.length) (if decide (((nth H y).length:Int)<nth Z y)=true then Chk (inB y H.length) (Chk (inB 0 (w::ws).length) (Chk (Ja (nth H y).length) (Chk (Tv 1 ((w::ws).length:Int) (w::ws).length) (Gv p Z j m (H.set y.toNat (nth H y++[nth (w::ws) 0])) (cut (w::ws) 1 ((w::ws).length:Int)) (W (y-1)))))) else Gv p Z j m H (w::ws) (W (y-1)))))=if((nth H (at_:Int)).length:Int)<nth Z (at_:Int) then Gv p Z j m (H.set at_ (nth H (at_:Int)++[w])) ws ((at_:Int)-1) else Gv p Z j m H (w::ws) ((at_:Int)-1):=by
  rintro y rfl;have ht:=(hC.ten at_);rw[aP aD,Mo hb,Mo hb2,w3]
  by_cases g:((nth H (at_:Int)).length:Int)<nth Z (at_:Int)
  ·have hcut:cut (w::ws) 1 ((w::ws).length:Int)=ws:=by unfold cut;simp
   have hn:nth (w::ws) 0=w:=rfl;rw[aQ (aH g),aQ g,Mo hb,Mo (Fy.2 (by rw[aT];omega)),Mo (by unfold Ja;exact aH aA),Mo (Lc.2 aD),hcut,hn,bI]
  ·rw[aP (by simpa using g),aP g]
 by_cases g:x<(first:Int)
 ·rw[aQ (aH g)] at hnorm ⊢;exact key _ hnorm
 ·rw[aP (by simpa using g)] at hnorm ⊢;exact key _ hnorm
theorem cir_end(H:List (List ByteArray))(hH:HeG Z H)(ws:List ByteArray)(hr:rmI Z H first (Z.length-first)=0)(m:Nat)(x:Int):Gv p Z j (m+1) H ws x=j H ws:=by
 have hz:=hC.few;have hf:=hC.first;have h0:=hC.two;have w1:W ((Z.length:Int)-c)=(first:Int):=by rw[Hl aA aA];omega
 have hroom:∀k:Int->Option (List Ft),Lo Z H k (((Z.length:Int)-(first:Int)).toNat+2) 0 (first:Int)=k (rmI Z H first (Z.length-first)):=λk=>by
  rw[rm_l Z H hz hH.len k (Z.length-first) _ first 0 aA aA aA aA λi k1 k2=>?_,Int.zero_add];have:=hH.le i aA;have:=(hC.ten i);omega
 rw[Gv];simp only[Ga];rw[hC.isc]
 by_cases hw:0<(ws.length:Int)
 ·rw[aQ (by simp at hw ⊢;omega),w1,hroom,hroom]
  split<;>rw[aQ (aH hr)]
 ·rw[aP (by simp at hw ⊢;simp[hw])]
end
def befN(first h a:Nat):Nat:=if a=first then h-1 else a-1
def dis(first h q a:Nat):Nat:=if q<=a then a-q else a-first+(h-q)
theorem dis_bef{first h q a:Nat}(h1:first<=q)(h2:q<h)(h3:first<=a)(h4:a<h)(e:a≠q):dis first h q (befN first h a)+1=dis first h q a:=by
 unfold dis befN
 by_cases g:a=first
 ·subst g;rw[aQ rfl,aQ aA,aP aA];omega
 ·rw[aP g]
  by_cases k:q<=a
  ·rw[aQ aA,aQ k];omega
  ·rw[aP aA,aP k];omega
section
variable {p:Gf}{Z:List Int}{c:Int}{first:Nat}(hC:Cir p Z c first)
include hC
theorem bef_is(a:Nat)(h1:first<=a)(h2:a<Z.length):Yi (a:Int) (first:Int) (Z.length:Int)=((befN first Z.length a:Nat):Int)/\first<=befN first Z.length a/\befN first Z.length a<Z.length/\((a:Int)-1=((befN first Z.length a:Nat):Int)\/((a:Int)-1=(first:Int)-1/\befN first Z.length a+1=Z.length)):=by
 have hz:=hC.few;have hf:=hC.first;have h0:=hC.two;unfold Yi befN
 by_cases g:a=first
 ·subst g;rw[aQ aB,aQ rfl,Hl aA aA];omega
 ·rw[aP aD,aP g,Hl aA aA];omega
theorem Ajx(H:List (List ByteArray))(hH:HeG Z H)(w:ByteArray)(ws:List ByteArray)(hr:0<rmI Z H first (Z.length-first))(j:List (List ByteArray)->List ByteArray->Option (List Ft))(e2:Int)(x1:Int)(hx1:(Z.length:Int)-x1=(first:Int))(j4:Int->Option (List Ft×Int))(q:Nat)(q1:first<=q)(q2:q<Z.length)(q3:((nth H (q:Int)).length:Int)<nth Z (q:Int)):
 ∀(d a M:Nat) (x:Int),dis first Z.length q a=d->first<=a->a<Z.length->(x=a\/(x=(first:Int)-1/\a+1=Z.length))->d<M->∃a':Nat,first<=a'/\a'<Z.length/\((nth H (a':Int)).length:Int)<nth Z (a':Int)/\Yk H (Z,e2) x1 j4 M (a:Int)=j4 (a':Int)/\
  ∃d',d'<=d/\∀m:Nat,Gv p Z j (m+d'+1) H (w::ws) x=Gv p Z j m (H.set a' (nth H (a':Int)++[w])) ws ((a':Int)-1)
 |d,a,0,x,hd,h1,h2,hx,hM=>by omega
 |d,a,M+1,x,hd,h1,h2,hx,hM=>by
  have hz:=hC.few
  have w1:W ((Z.length:Int)-x1)=(first:Int):=by rw[hx1];exact Hl aA aA
  by_cases g:((nth H (a:Int)).length:Int)<nth Z (a:Int)
  ·refine⟨a,h1,h2,g,?_,0,by omega,λm=>?_⟩
   ·rw[Yk,Mo (Fy.2 (by rw[hH.len];omega)),Mo (Fy.2 (by dsimp only;omega)),if_neg aD]
   ·rw[Nat.add_zero,cir_go hC j H hH w ws hr m a x h1 h2 hx,aQ g]
  ·have hne:a≠q:=λe=>g (by rw[e];exact q3)
   have hd2:=dis_bef q1 q2 h1 h2 hne
   obtain⟨b1,b2,b3,b4⟩:=bef_is hC a h1 h2
   have hle:=hH.le a h2
   match d,hd,hM with
   |0,hd,_=>omega
   |d+1,hd,hM=>
    obtain⟨a',r1,r2,r3,r4,d',r5,r6⟩:=Ajx H hH w ws hr j e2 x1 hx1 j4 q q1 q2 q3 d (befN first Z.length a) M ((a:Int)-1) aA b2 b3 b4 aA
    refine⟨a',r1,r2,r3,?_,d'+1,by omega,λm=>?_⟩
    ·rw[Yk,Mo (Fy.2 (by rw[hH.len];omega)),Mo (Fy.2 (by dsimp only;omega)),if_pos aD]
     dsimp only
     rw[w1,b1]
     exact r4
    ·rw[show m+(d'+1)+1=(m+d'+1)+1 by omega,cir_go hC j H hH w ws hr (m+d'+1) a x h1 h2 hx,aP g]
     exact r6 m
theorem dis_le(q a:Nat)(_:first<=q)(h2:q<Z.length)(h3:first<=a)(h4:a<Z.length):dis first Z.length q a<=120:=by
 have hz:=hC.few;unfold dis
 split<;>omega
theorem circle(j:List (List ByteArray)->List ByteArray->Option (List Ft))(e2:Int)(x1:Int)(hx1:(Z.length:Int)-x1=(first:Int))(j3:List (List ByteArray)->Option (List Ft×Int))(rest:List ByteArray):∀(ys:List Fi) (i2:Nat) (H:List (List ByteArray)) (a m:Nat) (x:Int),HeG Z H->rmI Z H first (Z.length-first)=(ys.length:Int)->first<=a->a<Z.length->(x=a\/(x=(first:Int)-1/\a+1=Z.length))->200*(ys.length:Int)+1<=(m:Int)->(ys.length:Int)<=1000->
 ∃H',HeG Z H'/\rmI Z H' first (Z.length-first)=0/\(∀k:Nat,k<first->nth H' (k:Int)=nth H (k:Int))/\Sw (Z,e2) x1 j3 ys i2 H (a:Int)=j3 H'/\Gv p Z j m H (ys.map (·.Who)++rest) x=j H' rest:=by
 intro ys
 induction ys with
 |nil=>
  intro i2 H a m x hH hr h1 h2 hx hm hs;rw[aW] at hm;obtain⟨m,rfl⟩:∃q,m=q+1:=⟨m-1,by omega⟩;refine⟨H,hH,by simpa using hr,λ_ _=>rfl,?_,?_⟩
  ·rw[Sw]
  ·exact cir_end hC j H hH rest (by simpa using hr) m x
 |cons y ys ih=>
  intro i2 H a m x hH hr h1 h2 hx hm hs;have hz:=hC.few;rw[aT] at hr hm hs;have hr0:0<rmI Z H first (Z.length-first):=by omega
  obtain⟨q,q1,q2,q3⟩:=rm_pos Z H _ _ hr0;have hdl:=dis_le hC q a q1 aA h1 h2;have w1:W ((Z.length:Int)-x1)=(first:Int):=by rw[hx1];exact Hl aA aA
  rw[Sw,Ga];obtain⟨M,hM⟩:∃M:Nat,M=4611686018427387904:=⟨_,rfl⟩;have hM2:200<M:=by omega
  rw[←hM];obtain⟨d,hd⟩:∃d,dis first Z.length q a=d:=⟨_,rfl⟩;obtain⟨a',r1,r2,r3,r4,d',r5,r6⟩:=Ajx hC H hH y.Who (ys.map (·.Who)++rest) hr0 j e2 x1 hx1 (fun(x5:Int)=>Chk (inB x5 H.length) (Chk (Ja (nth H x5).length) (Sw (Z,e2) x1 j3 ys (i2+1) (H.set x5.toNat (nth H x5++[y.Who])) (Yi x5 (W ((Z.length:Int)-x1)) (Z.length:Int))))) q q1 aA q3 d a M x hd h1 h2 hx aA;obtain⟨b1,b2,b3,b4⟩:=bef_is hC a' r1 r2;have hp:=hH.put r2 r3 y.Who;have hrm:=rm_set Z H a' y.Who (by rw[hH.len];exact r2) (Z.length-first) first;rw[aQ aA,hr] at hrm;have hle:=hH.le a' r2;have hten:=hC.ten a';obtain⟨H',s1,s2,s3,s4,s5⟩:=ih (i2+1) (H.set a' (nth H (a':Int)++[y.Who])) (befN first Z.length a') (m-d'-1) ((a':Int)-1) hp (by rw[hrm];omega) b2 b3 b4 aA aA;refine⟨H',s1,s2,λk hk=>?_,?_,?_⟩
  ·rw[s3 k hk,SR H a' k _ (by rw[hH.len];exact r2),aP aA]
  ·rw[r4,Mo (Fy.2 (by rw[hH.len];omega)),Mo (by unfold Ja;exact aH aA),w1,b1,bI];exact s4
  ·have r7:=r6 (m-d'-1);rw[show m-d'-1+d'+1=m by omega] at r7;exact r7.trans s5
end
theorem Agr{α:Type}[Inhabited α](l:List α)(k:Nat)(hk:k<l.length):l.set k (nth l (k:Int))=l:=by
 unfold nth;rw[bI,List.getD_eq_getElem?_getD,List.getElem?_eq_getElem hk,Option.getD_some,List.set_getElem_self]
theorem l5_is(k:Nat)(j:List (List ByteArray)->Option (List Ft×Int)):∀(ys:List Fi) (i:Nat) (H:List (List ByteArray)),k<H.length->(nth H (k:Int)).length+ys.length<=100000->Yl (k:Int) j ys i H=j (H.set k (nth H (k:Int)++ys.map (·.Who)))
 |[],i,H,h,_=>by rw[Yl,List.map_nil,List.append_nil,Agr H k h]
 |y::ys,i,H,h,h2=>by
  rw[aT] at h2
  have e:=SR H k k (nth H (k:Int)++[y.Who]) h
  rw[aQ rfl] at e
  rw[Yl,Mo (Fy.2 aA),Mo (by unfold Ja;exact aH aA),bI,l5_is k j ys (i+1) _ (by rw[List.length_set];exact h) (by rw[e,aU];simp;omega),e,List.set_set,List.append_assoc]
  rfl
theorem r4_is(k:Nat)(Z:List Int)(hk:k<Z.length)(j:List (List ByteArray)->List ByteArray->Option (List Ft))(rest:List ByteArray):∀(ys:List ByteArray) (m:Nat) (H:List (List ByteArray)),ys.length<m->k<H.length->((nth H (k:Int)).length:Int)+(ys.length:Int)=nth Z (k:Int)->(nth H (k:Int)).length+ys.length<=100000->
 Na (k:Int) Z j m H (ys++rest)=j (H.set k (nth H (k:Int)++ys)) rest
 |[],m,H,h1,h2,h3,h4=>by
  obtain⟨m,rfl⟩:∃q,m=q+1:=⟨m-1,by omega⟩
  rw[Na,Mo (Fy.2 aA),Mo (Fy.2 aA),aP (by simp at h3 ⊢;omega),List.append_nil,Agr H k h2,aZ]
 |y::ys,m,H,h1,h2,h3,h4=>by
  obtain⟨m,rfl⟩:∃q,m=q+1:=⟨m-1,by omega⟩
  rw[aT] at h1 h3 h4
  have e:=SR H k k (nth H (k:Int)++[y]) h2
  rw[aQ rfl] at e
  have hcut:cut (y::(ys++rest)) 1 ((y::(ys++rest)).length:Int)=ys++rest:=by unfold cut;rw[bI,List.take_length];rfl
  have hn:nth (y::(ys++rest)) 0=y:=rfl
  rw[List.cons_append,Na,Mo (Fy.2 aA),Mo (Fy.2 aA),aQ (aH aA),Mo (Fy.2 aA),Mo (Fy.2 (by rw[aT];omega)),Mo (by unfold Ja;exact aH aA),Mo (Lc.2 (by rw[aT];omega)),hcut,hn,bI,r4_is k Z hk j rest ys m _ aA (by rw[List.length_set];exact h2) (by rw[e,aU];simp;omega) (by rw[e,aU];simp;omega),e,List.set_set,List.append_assoc]
  rfl
theorem take_sum(Z:List Int)(k:Nat)(hk:k<Z.length):(Z.take (k+1)).sum=(Z.take k).sum+nth Z (k:Int):=by
 unfold nth;rw[bI,List.getD_eq_getElem?_getD,List.getElem?_eq_getElem hk,Option.getD_some,List.take_succ_eq_append_getElem hk,List.sum_append];simp
theorem ZE(Z:List Int)(h:∀z∈Z,0<=z)(k:Nat):0<=(Z.take k).sum:=by
 have key:∀l:List Int,(∀z∈l,0<=z)->0<=l.sum:=by
  intro l
  induction l with
  |nil=>intro _;simp
  |cons z l ih=>
   intro h;have h1:=h z aN;have h2:=ih λx hx=>h x (aM _ hx);rw[List.sum_cons];omega
 exact key _ λz hz=>h z (List.mem_of_mem_take hz)
section
variable {Z:List Int}(hZ:Z.length<=60)(hz:∀z∈Z,0<=z/\z<=10)
include hz
theorem nthZ(i:Nat):0<=nth Z (i:Int)/\nth Z (i:Int)<=10:=by
 by_cases h:i<Z.length
 ·exact hz _ (List.mem_of_getElem? (Gd (Fy.2 ⟨by omega,by omega⟩)).1)
 ·have:nth Z (i:Int)=0:=by unfold nth;rw[bI,List.getD_eq_getElem?_getD,List.getElem?_eq_none aA];rfl
  rw[this];omega
include hZ
theorem Ags(e2:Int)(j5:List (List ByteArray)->Option (List Ft×Int))(j6:List (List ByteArray)->Option (List Ft)):∀(k m2 m3:Nat) (R:List Fi) (H:List (List ByteArray)),k<m2->k<m3->k<=Z.length->H.length=Z.length->(∀t:Nat,t<k->nth H (t:Int)=[])->(Z.take k).sum=(R.length:Int)->
 ∃H',H'.length=Z.length/\(∀t:Nat,((nth H' (t:Int)).length:Int)=if t<k then nth Z (t:Int) else((nth H (t:Int)).length:Int))/\Uq (Z,e2) j5 m2 H R ((k:Int)-1)=j5 H'/\Jo Z j6 m3 H (R.map (·.Who)) ((k:Int)-1)=j6 H'
 |0,m2,m3,R,H,h1,h2,h3,h4,h5,h6=>by
  obtain⟨m2,rfl⟩:∃q,m2=q+1:=⟨m2-1,by omega⟩
  obtain⟨m3,rfl⟩:∃q,m3=q+1:=⟨m3-1,by omega⟩
  refine⟨H,h4,λt=>by rw[aP aA],?_,?_⟩
  ·rw[Uq,aP aB]
  ·rw[Jo,aP aB]
 |k+1,m2,m3,R,H,h1,h2,h3,h4,h5,h6=>by
  obtain⟨m2,rfl⟩:∃q,m2=q+1:=⟨m2-1,by omega⟩
  obtain⟨m3,rfl⟩:∃q,m3=q+1:=⟨m3-1,by omega⟩
  have hk:=nthZ hz k
  have hnn:=ZE Z (λz h=>(hz z h).1) k
  rw[take_sum Z k aA] at h6
  obtain⟨s,hs⟩:∃s:Nat,nth Z (k:Int)=(s:Int):=⟨(nth Z (k:Int)).toNat,by omega⟩
  rw[hs] at h6 hk
  have e:((k+1:Nat):Int)-1=(k:Int):=by omega
  have hrow:=h5 k aA
  have hsp:(R.take s).map (·.Who)++(R.drop s).map (·.Who)=R.map (·.Who):=by rw[←List.map_append,List.take_append_drop]
  have hlen:(R.take s).length=s:=by rw[List.length_take];omega
  have hw:W ((k:Int)-1)=(k:Int)-1:=Hl aA aA
  have hset:∀t:Nat,nth (H.set k ((R.take s).map (·.Who))) (t:Int)=if t=k then(R.take s).map (·.Who) else nth H (t:Int):=λt=>SR H k t _ aA
  obtain⟨H',g1,g2,g3,g4⟩:=Ags e2 j5 j6 k m2 m3 (R.drop s) (H.set k ((R.take s).map (·.Who))) aA aA aA (by rw[List.length_set];exact h4) (λt ht=>by rw[hset,aP aA];exact h5 t aA) (by rw[List.length_drop];omega)
  refine⟨H',g1,λt=>?_,?_,?_⟩
  ·rw[g2 t,hset]
   by_cases c1:t<k
   ·rw[aQ c1,aQ aA]
   ·rw[aP c1]
    by_cases c2:t=k
    ·rw[aQ c2,aQ aA,aV,hlen,c2,hs]
    ·rw[aP c2,aP aA]
  ·rw[e,Uq,aQ (aH aA),Mo (Fy.2 (by dsimp only;omega))]
   dsimp only
   have c1:cut R 0 (s:Int)=R.take s:=by unfold cut;simp
   have c2:cut R (s:Int) (R.length:Int)=R.drop s:=by unfold cut;simp
   rw[hs,Mo (Lc.2 aA),Ga,c1,l5_is k _ _ 0 H aA (by rw[hrow,hlen];simp;omega),Mo (Fy.2 aA),Mo (Lc.2 aA),c2,hw,hrow,aZ]
   exact g3
  ·rw[e,Jo,aQ (aH aA),Ga,←hsp,r4_is k Z aA _ _ _ _ H (by rw[aV,hlen,hrow,hs];simp) aA (by rw[hrow,aV,hlen,hs];simp) (by rw[hrow,aV,hlen];simp;omega),hw,hrow,aZ]
   exact g4
theorem skip3(j6:List (List ByteArray)->Option (List Ft))(H:List (List ByteArray))(hH:H.length=Z.length)(ws:List ByteArray)(first m:Nat):∀d:Nat,first+d<=Z.length->(∀t:Nat,first<=t->t<first+d->((nth H (t:Int)).length:Int)=nth Z (t:Int))->Jo Z j6 (m+d) H ws (((first+d:Nat):Int)-1)=Jo Z j6 m H ws ((first:Int)-1)
 |0,_,_=>rfl
 |d+1,h1,h2=>by
  have h3:=h2 (first+d) aA aA
  have hk:=nthZ hz (first+d)
  have hw:W (((first+d:Nat):Int)-1)=((first+d:Nat):Int)-1:=Hl aA aA
  have r4:=r4_is (first+d) Z aA (λx15 x16=>Jo Z j6 (m+d) x15 x16 (W (((first+d:Nat):Int)-1))) ws [] ((nth Z ((first+d:Nat):Int)-((nth H ((first+d:Nat):Int)).length:Int)).toNat+2) H aB aA (by simp;exact h3) (by rw[aW];omega)
  rw[aZ,List.append_nil,Agr H (first+d) aA] at r4
  rw[show (((first+(d+1):Nat):Int)-1)=((first+d:Nat):Int) by omega,show m+(d+1)=(m+d)+1 by omega,Jo,aQ (aH aA),Ga,r4,hw]
  exact skip3 j6 H hH ws first m d aA λt t1 t2=>h2 t t1 aA
end
theorem rm_rep(Z:List Int)(h:Nat):∀(d k:Nat),k+d=Z.length->rmI Z (List.replicate h []) k d=(Z.drop k).sum
 |0,k,e=>by rw[List.drop_eq_nil_of_le aA];rfl
 |d+1,k,e=>by
  have hn:nth (List.replicate h ([]:List ByteArray)) (k:Int)=[]:=by
   unfold nth;rw[bI,List.getD_eq_getElem?_getD]
   by_cases g:k<h
   ·simp[g]
   ·simp[g];rfl
  have hz:nth Z (k:Int)=Z[k]'(by omega):=by
   unfold nth;rw[bI,List.getD_eq_getElem?_getD,List.getElem?_eq_getElem aA,Option.getD_some]
  rw[rmI,rm_rep Z h d (k+1) aA,hn,hz,List.drop_eq_getElem_cons (by omega:k<Z.length),List.sum_cons];simp
def TL(L:List Int)(i:Nat):List ByteArray->Nat->List Ft
 |[],_=>[]
 |w::ws,k=>Ft.mk w (W ((i:Int)+1)) (nth L (k:Int))::TL L i ws (k+1)
def KX(L:List Int):List (List ByteArray)->Nat->List Ft
 |[],_=>[]
 |r::rs,i=>TL L i r 0++KX L rs (i+1)
theorem XK(L:List Int)(i:Nat):∀(ws:List ByteArray) (k:Nat),(TL L i ws k).length=ws.length
 |[],_=>rfl
 |w::ws,k=>by rw[TL,aT,XK L i ws (k+1),aT]
section
variable (L:List Int)
theorem row_p(i:Nat)(j:List Ft->Option (List Ft)):∀(ws:List ByteArray) (k:Nat) (x:List Ft),k+ws.length<=L.length->x.length+ws.length<=10000->Xe L i j ws k x=j (x++TL L i ws k)/\Nb L i j ws k x=j (x++TL L i ws k)
 |[],k,x,_,_=>by rw[Xe,Nb,TL,List.append_nil];exact⟨rfl,rfl⟩
 |w::ws,k,x,h,h2=>by
  rw[aT] at h h2
  obtain⟨g1,g2⟩:=row_p i j ws (k+1) (x++[Ft.mk w (W ((i:Int)+1)) (nth L (k:Int))]) aA aD
  have hr:Ja x.length=true:=by unfold Ja;exact aH aA
  rw[Xe,Nb,Mo (Fy.2 aA),Mo hr,Mo (Fy.2 aA),Mo hr,g1,g2,TL,List.append_assoc]
  exact⟨rfl,rfl⟩
theorem all_p(hL:L.length<=10)(j:List Ft->Option (List Ft)):∀(rs:List (List ByteArray)) (i:Nat) (x:List Ft),(∀r∈rs,r.length<=L.length)->x.length+10*rs.length<=1000->Xf L j rs i x=j (x++KX L rs i)/\Lp L j rs i x=j (x++KX L rs i)
 |[],i,x,_,_=>by rw[Xf,Lp,KX,List.append_nil];exact⟨rfl,rfl⟩
 |r::rs,i,x,h,h2=>by
  rw[aT] at h2
  have h1:=h r aN
  obtain⟨g1,g2⟩:=all_p hL j rs (i+1) (x++TL L i r 0) (λy hy=>h y (aM _ hy)) (by rw[aU,XK];omega)
  rw[Xf,Lp,Ga,Ga,(row_p L i _ r 0 x aA aA).1,(row_p L i _ r 0 x aA aA).2,g1,g2,KX,List.append_assoc]
  exact⟨rfl,rfl⟩
theorem Apf(i:Nat){s:Ft}:∀(ws:List ByteArray) (k:Nat),s∈TL L i ws k->∃q:Nat,q<ws.length/\s=Ft.mk (nth ws (q:Int)) (W ((i:Int)+1)) (nth L ((k+q:Nat):Int))
 |[],k,h=>by cases h
 |w::ws,k,h=>by
  rcases bB.1 h with rfl|h
  ·exact⟨0,by simp,rfl⟩
  ·obtain⟨q,h1,h2⟩:=Apf i ws (k+1) h
   refine⟨q+1,by simp;omega,?_⟩
   rw[h2,show k+1+q=k+(q+1) by omega]
   rfl
theorem ZF{s:Ft}:∀(rs:List (List ByteArray)) (i:Nat),s∈KX L rs i->∃t q:Nat,t<rs.length/\q<(nth rs (t:Int)).length/\s=Ft.mk (nth (nth rs (t:Int)) (q:Int)) (W (((i+t:Nat):Int)+1)) (nth L (q:Int))
 |[],i,h=>by cases h
 |r::rs,i,h=>by
  rcases bC.1 h with h|h
  ·obtain⟨q,h1,h2⟩:=Apf L i r 0 h
   rw[Nat.zero_add] at h2
   exact⟨0,q,by simp,h1,h2⟩
  ·obtain⟨t,q,h1,h2,h3⟩:=ZF rs (i+1) h
   refine⟨t+1,q,by simp;omega,h2,?_⟩
   rw[h3,show i+1+t=i+(t+1) by omega]
   rfl
theorem cmpI(a b:Int):Jt a b=if a<b then -1 else if b<a then 1 else 0:=by
 unfold Jt Wn;simp
theorem or2_p(a b:Int):Ss [a,b]=if a=0 then b else a:=by
 unfold Ss;rw[Ga,Nw,Nw,Nw]
 by_cases ha:a=0<;>by_cases hb:b=0<;>simp[ha,hb]
theorem cmpS(x y:Ft):Mk x y<0↔x.Heat<y.Heat\/(x.Heat=y.Heat/\x.Lane<y.Lane):=by
 unfold Mk;rw[or2_p,cmpI,cmpI]
 by_cases h1:x.Heat<y.Heat
 ·simp[h1]
 ·by_cases h2:y.Heat<x.Heat
  ·simp[h1,h2];omega
  ·have:x.Heat=y.Heat:=by omega
   by_cases h3:x.Lane<y.Lane
   ·simp[this,h3]
   ·by_cases h4:y.Lane<x.Lane<;>simp[this,h3,h4]
end
theorem byS_eq:Zs=Mk:=rfl
theorem st_good{L:List Int}(hn:L.Nodup){rs:List (List ByteArray)}(hr:∀r∈rs,r.length<=L.length)(hrs:rs.length<=60):HC Mk (KX L rs 0):=by
 refine⟨λx _ h=>?_,λx _ y _ z _ h1 h2=>?_,λx _ y _ z _ h1 h2 h3=>?_,λx hx y hy h1 h2=>?_⟩
 ·rw[cmpS] at h;omega
 ·rw[cmpS] at*;omega
 ·rw[cmpS] at*;omega
 ·obtain⟨t,q,a1,a2,a3⟩:=ZF L rs 0 hx;obtain⟨t',q',b1,b2,b3⟩:=ZF L rs 0 hy;have c1:=hr _ (List.mem_of_getElem? (Gd (Fy.2 ⟨by omega,(by omega:((t:Nat):Int)<(rs.length:Int))⟩)).1);have c2:=hr _ (List.mem_of_getElem? (Gd (Fy.2 ⟨by omega,(by omega:((t':Nat):Int)<(rs.length:Int))⟩)).1);rw[cmpS] at h1 h2;have e1:x.Heat=y.Heat:=by omega
  have e2:x.Lane=y.Lane:=by omega
  rw[a3,b3] at e1 e2;simp only at e1 e2;rw[Hl aA aA,Hl aA aA] at e1;obtain rfl:t=t':=by omega
  have e3:q=q':=by
   unfold nth at e2;rw[bI,bI,List.getD_eq_getElem?_getD,List.getD_eq_getElem?_getD,List.getElem?_eq_getElem aA,List.getElem?_eq_getElem aA,Option.getD_some,Option.getD_some] at e2;have hp:=List.pairwise_iff_getElem.1 hn;rcases Nat.lt_trichotomy q q' with g|g|g
   ·exact absurd e2 (hp q q' aA aA g)
   ·exact g
   ·exact absurd e2.symm (hp q' q aA aA g)
  rw[a3,b3,e3]
theorem Ajy{p:Gf}(h:Aen p){rs:List (List ByteArray)}(hrs:rs.length<=60)(hr:∀r∈rs,(r.length:Int)<=p.High-p.Low+1):∃L D,Qf p=some L/\Wp p rs=some D/\Fq (fun(x17:List Ft)=>Option.bind (Ib x17) (λr4=>some r4)) (λj8=>Lp L j8 rs 0 ([]:List Ft))=some D/\D.length<=600/\∀s∈D,(0<=s.Heat/\s.Heat<=100)/\0<=s.Lane/\s.Lane<=10:=by
 obtain⟨L,l1,l2,l3,l4,l5⟩:=Abs h;have h2:=h.high;have h3:=h.ten;have h4:=h.low;have hL:L.length<=10:=by omega
 have hr':∀r∈rs,r.length<=L.length:=λr hr2=>by have:=hr r hr2;omega
 have hle6:(KX L rs 0).length<=600:=by
  have key:∀(rs:List (List ByteArray)) (i:Nat),(∀r∈rs,r.length<=L.length)->(KX L rs i).length<=10*rs.length:=by
   intro rs
   induction rs with
   |nil=>intro i _;simp[KX]
   |cons r rs ih=>
    intro i g;have g1:=g r aN;have g2:=ih (i+1) λy hy=>g y (aM _ hy);rw[KX,aU,XK,aT];omega
  have:=key rs 0 hr';omega
 have hlen:(KX L rs 0).length<4611686018427387904:=by omega
 have hg:=st_good l4 hr' hrs;have hpm:(Nc Mk (KX L rs 0)).Perm (KX L rs 0):=List.mergeSort_perm _ _;refine⟨L,Nc Mk (KX L rs 0),l2,?_,?_,by rw[hpm.length_eq];exact hle6,λs hs=>?_⟩
 ·unfold Wp DY Lt;rw[l1];simp only[aG];rw[Ga,(all_p L hL _ rs 0 [] hr' aD).1,aZ,aQ ⟨hg,hlen⟩];rfl
 ·unfold Ib;rw[Ga,(all_p L hL _ rs 0 [] hr' aD).2,aZ,byS_eq,aQ ⟨hg,hlen⟩];rfl
 ·obtain⟨t,q,a1,a2,rfl⟩:=ZF L rs 0 (hpm.mem_iff.1 hs);have c1:=hr' _ (List.mem_of_getElem? (Gd (Fy.2 ⟨by omega,(by omega:((t:Nat):Int)<(rs.length:Int))⟩)).1);refine⟨?_,l5 _ (List.mem_of_getElem? (Gd (Fy.2 ⟨by omega,(by omega:((q:Nat):Int)<(L.length:Int))⟩)).1)⟩;show 0<=W _/\W _<=100;rw[Hl aA aA];omega
noncomputable def drT (p:Gf) (Z:List Int) (o:Option (List Fi)) (x1:Int):Option (List Ft×Int):=
 Chk (Tv (W ((Z.length:Int)-x1)) (Z.length:Int) Z.length) (
 Fq (fun(x2:Int)=>
 Option.bind o (λr2=>
 Chk (Tv 0 x2 r2.length) (
 Fq (fun(x3:List (List ByteArray))=>
 Chk (Tv x2 (r2.length:Int) r2.length) (
 Fq (fun(x6:List (List ByteArray))=>
 Option.bind (Wp p x6) (λr3=>
 some (r3,0))) (λj5=>
 Uq (Z,0) j5 (((W ((W ((Z.length:Int)-x1))-1))-0).toNat+2) x3 (cut r2 x2 r2.length) (W ((W ((Z.length:Int)-x1))-1))))) (λj3=>
 Sw (Z,0) x1 j3 (cut r2 0 x2) 0 (List.replicate ((Z.length:Int).toNat) []:List (List ByteArray)) (W ((Z.length:Int)-1)))))) (λj2=>
 Wi j2 (cut Z (W ((Z.length:Int)-x1)) Z.length) 0 0))
theorem Aml(j:Int->Option (List Ft×Int)):∀(ys:List Int) (i:Nat) (a:Int),0<=a->a+ys.sum<=1000->(∀z∈ys,0<=z)->Wi j ys i a=j (a+ys.sum)
 |[],i,a,_,_,_=>by rw[Wi,List.sum_nil,Int.add_zero]
 |y::ys,i,a,h0,h,hz=>by
  have h1:=hz y aN
  have h2:=ZE ys (λz hz2=>hz z (aM _ hz2)) ys.length
  rw[List.take_length] at h2
  rw[List.sum_cons] at h
  rw[Wi,Hl aA aA,Aml j ys (i+1) (a+y) aA aA λz hz2=>hz z (aM _ hz2),List.sum_cons,Int.add_assoc]
noncomputable def J6 (L:List Int) (x12:List (List ByteArray)):Option (List Ft):=
 Fq (fun(x17:List Ft)=>Option.bind (Ib x17) (λr4=>some r4)) (λj8=>Lp L j8 x12 0 ([]:List Ft))
noncomputable def J1 (Z L:List Int) (x1:List (List ByteArray)) (x2:List ByteArray):Option (List Ft):=
 Jo Z (J6 L) (((W ((Z.length:Int)-1))-0).toNat+2) x1 x2 (W ((Z.length:Int)-1))
theorem Agt(h k:Nat):nth (List.replicate h ([]:List ByteArray)) (k:Int)=[]:=by
 unfold nth;rw[bI,List.getD_eq_getElem?_getD]
 by_cases g:k<h
 ·simp[g]
 ·simp[g];rfl
theorem Arb{p:Gf}(h:Aen p){Z:List Int}{n:Int}(hZ:SzG p n Z)(hn:n<=300)(L:List Int)(S:List Fi)(hS:(S.length:Int)=n)(M:Nat)(hM:100000<M):∃H,H.length=Z.length/\(∀t:Nat,t<Z.length->((nth H (t:Int)).length:Int)=nth Z (t:Int))/\
 drT p Z (some S) (if decide (Xp p.Circles (Z.length:Int)<2) then 0 else Xp p.Circles (Z.length:Int))=Option.bind (Wp p H) (λr3=>some (r3,0))/\
 Gv p Z (J1 Z L) M (List.replicate ((Z.length:Int).toNat) []) (S.map (·.Who)) (W ((Z.length:Int)-1))=J6 L H:=by
 have hlen:=hZ.len;have hsum:=hZ.sum;have hz:∀z∈Z,0<=z/\z<=10:=λz hz=>by have:=hZ.each z hz;have:=h.ten;have:=h.low;omega
 have hz0:∀z∈Z,0<=z:=λz g=>(hz z g).1;have hw1:W ((Z.length:Int)-1)=(Z.length:Int)-1:=Hl aA aA;have htn:((Z.length:Int).toNat)=Z.length:=bI _;have hcirc:=h.circ;obtain⟨M,rfl⟩:∃q,M=q+1:=⟨M-1,by omega⟩
 by_cases hc:Xp p.Circles (Z.length:Int)<2
 ·obtain⟨H,g1,g2,g3,g4⟩:=Ags hlen hz 0 (λx6=>Option.bind (Wp p x6) (λr3=>some (r3,0))) (J6 L) Z.length ((((Z.length:Int)-1)-0).toNat+2) ((((Z.length:Int)-1)-0).toNat+2) S (List.replicate Z.length []) aA aA (bU _) aB (λt _=>Agt _ t) (by rw[List.take_length];omega);refine⟨H,g1,λt ht=>by rw[g2 t,aQ ht],?_,?_⟩
  ·have w0:W ((Z.length:Int)-0)=(Z.length:Int):=by rw[Int.sub_zero];exact Hl aA aA
   have c1:cut Z (Z.length:Int) (Z.length:Int)=[]:=by unfold cut;simp
   have c2:cut S 0 0=[]:=by unfold cut;simp
   have c3:cut S 0 (S.length:Int)=S:=by unfold cut;simp
   rw[aQ (aH hc)];unfold drT;rw[w0,Mo (Lc.2 aA),Ga,c1,Aml _ [] 0 0 aA aB aB];simp only[List.sum_nil,Int.add_zero,aG];rw[Mo (Lc.2 aA),Ga,c2,Sw,Mo (Lc.2 aA),Ga,c3,hw1,htn];exact g3
  ·rw[Gv,aP aD];unfold J1;rw[hw1,htn];exact g4
 ·obtain⟨c,hcc⟩:∃c,Xp p.Circles (Z.length:Int)=c:=⟨_,rfl⟩;have hcl:c<=(Z.length:Int):=by rw[←hcc];unfold Xp;split<;>omega
  obtain⟨first,hf⟩:∃first:Nat,(first:Int)+c=(Z.length:Int):=⟨((Z.length:Int)-c).toNat,by omega⟩;rw[hcc] at hc;have hC:Cir p Z c first:=⟨hlen,λi=>nthZ hz i,hcc,by omega,hf⟩;have hsp:(Z.take first).sum+(Z.drop first).sum=n:=by rw[←hsum,←List.sum_append,List.take_append_drop]
  have hn1:=ZE Z hz0 first;have hn2:0<=(Z.drop first).sum:=by have:=ZE (Z.drop first) (λz g=>hz0 z (List.mem_of_mem_drop g)) (Z.drop first).length;rwa [List.take_length] at this
  obtain⟨s,hs⟩:∃s:Nat,(Z.drop first).sum=(s:Int):=⟨(Z.drop first).sum.toNat,by omega⟩;have hlt:(S.take s).length=s:=by rw[List.length_take];omega
  have hld:((S.drop s).length:Int)=(Z.take first).sum:=by rw[List.length_drop];omega
  have hrm:rmI Z (List.replicate Z.length []) first (Z.length-first)=((S.take s).length:Int):=by rw[rm_rep Z Z.length (Z.length-first) first aA,hs,hlt]
  have hHe:HeG Z (List.replicate Z.length []):=⟨by simp,λi hi=>by rw[Agt];have:=nthZ hz i;simp;omega⟩;have hx1:(Z.length:Int)-c=(first:Int):=by omega
  have wf:W ((Z.length:Int)-c)=(first:Int):=by rw[hx1];exact Hl aA aA
  have wf1:W ((first:Int)-1)=(first:Int)-1:=Hl aA aA;have hlast:(Z.length:Int)-1=((Z.length-1:Nat):Int):=by omega
  have hsw:(S.take s).map (·.Who)++(S.drop s).map (·.Who)=S.map (·.Who):=by rw[←List.map_append,List.take_append_drop]
  obtain⟨H1,s1,s2,s3,s4,s5⟩:=circle hC (J1 Z L) 0 c hx1 (fun(x3:List (List ByteArray))=>Chk (Tv (s:Int) (S.length:Int) S.length) (Fq (fun(x6:List (List ByteArray))=>Option.bind (Wp p x6) (λr3=>some (r3,0))) (λj5=>Uq (Z,0) j5 (((W ((first:Int)-1))-0).toNat+2) x3 (cut S (s:Int) S.length) (W ((first:Int)-1))))) ((S.drop s).map (·.Who)) (S.take s) 0 (List.replicate Z.length []) (Z.length-1) (M+1) ((Z.length:Int)-1) hHe hrm aA aA (.inl hlast) aA aA;have hle1:=s1.le;obtain⟨e1,e2⟩:=Ape Z H1 (Z.length-first) first λi i1 i2=>hle1 i aA;have hfull:=e2 s2;obtain⟨H,g1,g2,g3,g4⟩:=Ags hlen hz 0 (λx6=>Option.bind (Wp p x6) (λr3=>some (r3,0))) (J6 L) first ((((first:Int)-1)-0).toNat+2) ((((Z.length:Int)-1)-0).toNat+2-(Z.length-first)) (S.drop s) H1 aA aA aA s1.len (λt ht=>by rw[s3 t ht];exact Agt _ t) hld.symm;have hsk:=skip3 hlen hz (J6 L) H1 s1.len ((S.drop s).map (·.Who)) first ((((Z.length:Int)-1)-0).toNat+2-(Z.length-first)) (Z.length-first) aA λt t1 t2=>hfull t t1 aA;refine⟨H,g1,λt ht=>?_,?_,?_⟩
  ·rw[g2 t]
   by_cases k:t<first
   ·rw[aQ k]
   ·rw[aP k];exact hfull t aA aA
  ·have c1:cut Z (first:Int) (Z.length:Int)=Z.drop first:=by unfold cut;simp
   have c2:cut S 0 (s:Int)=S.take s:=by unfold cut;simp
   have c3:cut S (s:Int) (S.length:Int)=S.drop s:=by unfold cut;simp
   rw[hcc,aP (by simpa using hc)];unfold drT;rw[wf,Mo (Lc.2 aA),Ga,c1,Aml _ _ 0 0 aA aA (λz g=>hz0 z (List.mem_of_mem_drop g)),Int.zero_add,hs,aG,Mo (Lc.2 aA),Ga,c2,hw1,htn,hlast,s4,Mo (Lc.2 aA),Ga,c3,wf1];exact g3
  ·rw[hw1,htn,←hsw,s5];unfold J1;rw[hw1];have a1:(((Z.length:Int)-1)-0).toNat+2-(Z.length-first)+(Z.length-first)=(((Z.length:Int)-1)-0).toNat+2:=by omega
   rw[a1,show first+(Z.length-first)=Z.length by omega] at hsk;exact hsk.trans g4
section
variable {N:List ByteArray}{D:List Ft}
theorem Apg{α:Type}{l:List α}{a b:Int}{w:α}(h:w∈cut l a b):w∈l:=by
 unfold cut at h
 first
  |exact List.mem_of_mem_drop (List.mem_of_mem_take h)
  |exact List.mem_of_mem_take (List.mem_of_mem_drop h)
def AR(N:List ByteArray)(H:List (List ByteArray)):Prop:=∀r∈H,∀w∈r,w∈N
theorem ar_set{H:List (List ByteArray)}(h:AR N H){t:Int}(ht:inB t H.length=true){w:ByteArray}(hw:w∈N):AR N (H.set t.toNat (nth H t++[w])):=λr hr z hz=>by
 rcases List.mem_or_eq_of_mem_set hr with hr|rfl
 ·exact h r hr z hz
 ·rcases bC.1 hz with hz|hz
  ·exact h _ (List.mem_of_getElem? (Gd ht).1) z hz
  ·rw[bA.1 hz];exact hw
theorem drw2(Z:List Int)(H:List (List ByteArray))(j:Int->Option (List Ft)):∀(m:Nat) (a b:Int),Lo Z H j m a b=some D->∃c,j c=some D
 |0,_,_,h=>by cases h
 |m+1,a,b,h=>by
  rw[Lo] at h
  split at h
  ·obtain⟨_,h⟩:=On h
   obtain⟨_,h⟩:=On h
   exact drw2 Z H j m _ _ h
  ·exact⟨_,h⟩
theorem drw4(t:Int)(Z:List Int)(j:List (List ByteArray)->List ByteArray->Option (List Ft)):∀(m:Nat) (H:List (List ByteArray)) (ws:List ByteArray),AR N H->(∀w∈ws,w∈N)->Na t Z j m H ws=some D->∃H' ws',AR N H'/\(∀w∈ws',w∈N)/\j H' ws'=some D
 |0,_,_,_,_,h=>by cases h
 |m+1,H,ws,hH,hw,h=>by
  rw[Na] at h
  obtain⟨c1,h⟩:=On h
  obtain⟨_,h⟩:=On h
  split at h
  ·obtain⟨_,h⟩:=On h
   obtain⟨c2,h⟩:=On h
   obtain⟨_,h⟩:=On h
   obtain⟨_,h⟩:=On h
   exact drw4 t Z j m _ _ (ar_set hH c1 (hw _ (List.mem_of_getElem? (Gd c2).1))) (λw g=>hw w (Apg g)) h
  ·exact⟨H,ws,hH,hw,h⟩
theorem drw3(Z:List Int)(j:List (List ByteArray)->Option (List Ft)):∀(m:Nat) (H:List (List ByteArray)) (ws:List ByteArray) (t:Int),AR N H->(∀w∈ws,w∈N)->Jo Z j m H ws t=some D->∃H',AR N H'/\j H'=some D
 |0,_,_,_,_,_,h=>by cases h
 |m+1,H,ws,t,hH,hw,h=>by
  rw[Jo] at h
  split at h
  ·rw[Ga] at h
   obtain⟨H',ws',g1,g2,g3⟩:=drw4 _ _ _ _ _ _ hH hw h
   exact drw3 Z j m H' ws' _ g1 g2 g3
  ·exact⟨H,hH,h⟩
theorem drw1(p:Gf)(Z:List Int)(j:List (List ByteArray)->List ByteArray->Option (List Ft)):∀(m:Nat) (H:List (List ByteArray)) (ws:List ByteArray) (t:Int),AR N H->(∀w∈ws,w∈N)->Gv p Z j m H ws t=some D->∃H' ws',AR N H'/\(∀w∈ws',w∈N)/\j H' ws'=some D
 |0,_,_,_,_,_,h=>by cases h
 |m+1,H,ws,t,hH,hw,h=>by
  have ih:=drw1 p Z j m
  rw[Gv] at h
  simp only[Ga] at h
  split at h
  ·split at h
   all_goals
    obtain⟨c,h⟩:=drw2 _ _ _ _ _ _ h
    split at h
    ·exact⟨H,ws,hH,hw,h⟩
    ·obtain⟨c1,h⟩:=On h
     obtain⟨_,h⟩:=On h
     split at h
     ·obtain⟨_,h⟩:=On h
      obtain⟨c2,h⟩:=On h
      obtain⟨_,h⟩:=On h
      obtain⟨_,h⟩:=On h
      exact ih _ _ _ (ar_set hH c1 (hw _ (List.mem_of_getElem? (Gd c2).1))) (λw g=>hw w (Apg g)) h
     ·exact ih _ _ _ hH hw h
  ·exact⟨H,ws,hH,hw,h⟩
theorem drw6(L:List Int)(i:Nat)(j:List Ft->Option (List Ft)):∀(ys:List ByteArray) (k:Nat) (x:List Ft),(∀w∈ys,w∈N)->(∀s∈x,s.Who∈N)->Nb L i j ys k x=some D->∃x',(∀s∈x',s.Who∈N)/\j x'=some D
 |[],_,x,_,hx,h=>⟨x,hx,h⟩
 |y::ys,k,x,hy,hx,h=>by
  rw[Nb] at h
  obtain⟨_,h⟩:=On h
  obtain⟨_,h⟩:=On h
  refine drw6 L i j ys (k+1) _ (λw g=>hy w (aM _ g)) (λs g=>?_) h
  rcases bC.1 g with g|g
  ·exact hx s g
  ·rw[bA.1 g];exact hy y aN
theorem drw5(L:List Int)(j:List Ft->Option (List Ft)):∀(H:List (List ByteArray)) (k:Nat) (x:List Ft),AR N H->(∀s∈x,s.Who∈N)->Lp L j H k x=some D->∃x',(∀s∈x',s.Who∈N)/\j x'=some D
 |[],_,x,_,hx,h=>⟨x,hx,h⟩
 |y::ys,k,x,hy,hx,h=>by
  rw[Lp,Ga] at h
  obtain⟨x',g1,g2⟩:=drw6 L k _ y 0 x (hy y aN) hx h
  exact drw5 L j ys (k+1) x' (λr g=>hy r (aM _ g)) g1 g2
theorem drw_mem(p:Gf)(Z L:List Int){m:Nat}{h:Nat}{ws:List ByteArray}{t:Int}(hd:Gv p Z (J1 Z L) m (List.replicate h []) ws t=some D):∀s∈D,s.Who∈ws:=by
 obtain⟨H,ws',g1,g2,g3⟩:=drw1 (N:=ws) p Z _ _ _ _ _ (λr hr w hw=>by rw[List.eq_of_mem_replicate hr] at hw;cases hw) (λ_ h=>h) hd;obtain⟨H',g4,g5⟩:=drw3 Z _ _ _ _ _ g1 g2 g3;unfold J6 at g5;rw[Ga] at g5;obtain⟨x,g6,g7⟩:=drw5 L _ H' 0 [] g4 (λ_ h=>by cases h) g5;unfold Ib at g7
 split at g7
 ·obtain rfl:=bH g7;exact λs hs=>g6 s ((List.mergeSort_perm _ _).mem_iff.1 hs)
 ·cases g7
end
theorem cmpT(x y:Fi)(hx:0<=x.Time)(hy:0<=y.Time):Tj x y=Tg x y:=by
 unfold Tj Yh Tg;rw[cmpI,cmpI]
 by_cases h1:x.Time=0<;>by_cases h2:y.Time=0
 ·simp[h1,h2]
 ·have h3:0<y.Time:=by omega
  simp[h1,h2,h3];omega
 ·have h3:0<x.Time:=by omega
  simp[h1,h2,h3]
 ·simp[h1,h2]
theorem cmpZ(x y:Fi)(hx:x.Time=0)(hy:y.Time=0):Tj x y=0:=by
 unfold Tj Yh;rw[cmpI,hx,hy];simp
theorem Ajz(l:List Fi)(hl:l.length<=1000):Vi l=some l:=by
 unfold Vi;rw[Mo aD,aZ]
theorem Amm{l:List Fi}(hl:l.length<=300)(ht:∀s∈l,0<=s.Time)(ha:l.length<=19\/∀s∈l,s.Time=0):∃S,S.Perm l/\CQ l=some S/\Zr l=some (S.map (·.Who)):=by
 have key:∃S,S.Perm l/\Ie Tj l=some S/\Ie Tg l=some S:=by
  rcases ha with h|h
  ·refine⟨_,TZ _ l,Ajv _ l h,?_⟩;rw[Ajv _ l h]
   congr 1
   exact YB l λx hx y hy=>by rw[cmpT x y (ht x hx) (ht y hy)]
  ·exact⟨l,.refl _,Ajw _ l aA λx hx y hy=>cmpZ x y (h x hx) (h y hy),Ajw _ l aA λx hx y hy=>by rw[←cmpT x y (ht x hx) (ht y hy)];exact cmpZ x y (h x hx) (h y hy)⟩
 obtain⟨S,h1,h2,h3⟩:=key;have h1':=h1.length_eq;refine⟨S,h1,?_,?_⟩
 ·unfold CQ;rw[Ajz l aA,aG,h2];rfl
 ·unfold Zr;rw[Ajz l aA,aG,h3,aG,Ga];have:=app_0 (λ_=>true) (fun(y:Fi)=>y.Who) (λx1=>some x1) (Wa λx1=>some x1) (λ_ _=>rfl) S aA (λy ys i x=>rfl);rw[this,List.filter_eq_self.2 λ_ _=>rfl]
theorem Arc{p:Gf}(h:Aen p){l:List Fi}(hl:l.length<=300)(ht:∀s∈l,0<=s.Time)(ha:l.length<=19\/∀s∈l,s.Time=0):∃D e,GS p l=some (D,e)/\Ya p l=some (D,e)/\(e=0\/e=2)/\D.length<=600/\∀s∈D,s.Who∈l.map (·.Who)/\(0<=s.Heat/\s.Heat<=100)/\0<=s.Lane/\s.Lane<=10:=by
 obtain⟨S,h0,h2,h3⟩:=Amm hl ht ha;have h1:=h0.length_eq;obtain⟨Z,e,z1,z2,z3,z4⟩:=Amk h (l.length:Int) aA aA;unfold Ya;rw[z2,aG]
 by_cases he:e=0
 ·subst he;have hZ:=z4 rfl;have hlen:=hZ.len;obtain⟨M,hM⟩:∃M:Nat,M=4611686018427387904:=⟨_,rfl⟩;obtain⟨L,q1,q2,q3,q4,_⟩:=Abs h;obtain⟨H,g1,g2,g3,g4⟩:=Arb h hZ aA L S aA M aA;have hH:∀r∈H,(r.length:Int)<=p.High-p.Low+1:=λr hr=>by
   obtain⟨k,hk,e⟩:=List.getElem_of_mem hr;have e2:nth H (k:Int)=r:=by unfold nth;rw[bI,List.getD_eq_getElem?_getD,List.getElem?_eq_getElem hk,Option.getD_some,e]
   have e3:=g2 k aA;rw[e2] at e3;have e4:=hZ.each (nth Z (k:Int)) (List.mem_of_getElem? (Gd (Fy.2 ⟨by omega,by omega⟩)).1);omega
  obtain⟨L',D,d1,d2,d3,d4,d5⟩:=Ajy h (rs:=H) aA hH;rw[q2] at d1;obtain rfl:=bH d1;refine⟨D,0,?_,?_,.inl rfl,d4,λs hs=>⟨(h0.map _).mem_iff.1 (drw_mem p Z L (g4.trans d3) s hs),d5 s hs⟩⟩
  ·have hd:GS p l=drT p Z (CQ l) (if decide (Xp p.Circles (Z.length:Int)<2) then 0 else Xp p.Circles (Z.length:Int)):=by
    unfold GS drT;rw[z1,aG,aP aB,Mo aD,Ga]
    by_cases hc:Xp p.Circles (Z.length:Int)<2
    ·rw[aQ (aH hc),aQ (aH hc)]
    ·rw[aP (by simpa using hc),aP (by simpa using hc)]
   rw[hd,h2,g3,d2];rfl
  ·rw[aP aB,h3,aG];have hr:CA p (S.map (·.Who)) Z=some D:=by
    unfold CA;rw[q2,aG,Mo aD,Ga,←hM];exact g4.trans d3
   rw[hr];rfl
 ·refine⟨[],e,?_,?_,.inr (z3 he),by simp,λs hs=>by cases hs⟩
  ·unfold GS;rw[z1,aG,aQ (by simpa using he)]
  ·rw[aQ (by simpa using he)]
structure FinG(f:Mp):Prop where
 size:1<=f.Size/\f.Size<=10
 many:1<=f.Many/\f.Many<=5
 res:0<=f.Reserves/\f.Reserves<=10
def sdS(d:An):Fi:=Fi.mk d.Who d.Time
theorem Amn{p:Ge}{l:List An}{race:ByteArray}{at_:Int}(hf:OB l)(hs:l.Pairwise λx y=>x.At<=y.At):BY p (Gj l at_) race=some ((Zw race (Gj l at_)).map sdS)/\Uj l race at_=some ((Zw race (Gj l at_)).map sdS):=by
 have hl:=hf.len;have hFl:(Gj l at_).length<=l.length:=(CF l at_).length_le;have he1:=KU race (Gj l at_);have he2:=HY race (Gj l at_);constructor
 ·unfold BY;rw[CH p (Gj l at_) race aA,aG,Ga,app_0 (λ_=>true) sdS (λx1=>some x1) (Xd λx1=>some x1) (λ_ _=>rfl) (Zw race (Gj l at_)) aA (λy ys i x=>rfl),List.filter_eq_self.2 λ_ _=>rfl]
 ·unfold Uj;rw[CI l race at_ hf hs,aG,Ga,app_0 (λ_=>true) sdS (λx1=>some x1) (Tq λx1=>some x1) (λ_ _=>rfl) (Zw race (Gj l at_)) aA (λy ys i x=>rfl),List.filter_eq_self.2 λ_ _=>rfl]
theorem Aka{L:List Int}(hL:LY L){a:Int}(h0:0<=a)(h1:a<=100000):Dr a 20 (λ_=>True) (AU L a):=by
 unfold AU;obtain⟨v1,b1,e1,g1,g2,_⟩:=Ow hL h0 aA [0,1,1] aB aB;rw[e1];simp only[aG];obtain⟨v2,b2,e2,g3,g4,_⟩:=Ow hL (a:=b1) aA aA [3,4,8] aB aB;rw[e2];simp only[aG];obtain⟨v3,b3,e3,g5,g6,_⟩:=Ow hL (a:=b2) aA aA [1,2] aB aB;rw[e3];simp only[aG];obtain⟨v4,b4,e4,g7,g8,_⟩:=Ow hL (a:=b3) aA aA [1,2,3] aB aB;rw[e4];simp only[aG];obtain⟨f,b5,e5,g9,g10,_⟩:=HA hL (a:=b4) aA aA 15 aA;rw[e5];simp only[aG,Ga]
 cases f with
 |false=>rw[aP aB];exact⟨_,_,rfl,by omega,by omega,trivial⟩
 |true=>
  rw[aQ rfl];obtain⟨w1,c1,k1,r1,r2,_⟩:=DN hL (a:=b5) aA aA 1 3 aA aA aA;rw[k1];simp only[aG];obtain⟨w2,c2,k2,r3,r4,_⟩:=DN hL (a:=c1) aA aA 1 10 aA aA aA;rw[k2];simp only[aG];obtain⟨w3,c3,k3,r5,r6,_⟩:=DN hL (a:=c2) aA aA 1 3 aA aA aA;rw[k3];simp only[aG];obtain⟨w4,c4,k4,r7,r8,_⟩:=DN hL (a:=c3) aA aA 1 10 aA aA aA;rw[k4];simp only[aG];exact⟨_,_,rfl,by omega,by omega,trivial⟩
theorem Ard{p:Ge}{l:List An}{race:ByteArray}{at_:Int}(hf:OB l)(hs:l.Pairwise λx y=>x.At<=y.At)(h:Jn p l race at_=some 0):(Zw race (Gj l at_)).length<=300:=by
 unfold Jn at h
 split at h
 ·cases h
 ·rw[CI l race at_ hf hs,aG] at h
  split at h
  ·cases h
  ·rename_i g;simp at g;omega
theorem ask_both{p:Ge}{l:List An}(hM:MD l)(race:ByteArray)(at_:Int):∃e0 one,Oh p l at_=some e0/\(e0≠0->one=e0)/\(e0=0->Jn p l race at_=some one)/\(one≠0->∃s r,Ye p l race at_=some (s,r,one))/\
 (one=0->QC p/\DsG l/\∃r,r.Key=race/\Ye p l race at_=some (some (Jr.mk p (Gj l at_)),r,0)/\(Zw race (Gj l at_)).length<=300):=by
 obtain⟨e0,h1,h2,h3⟩:=SO p l at_
 by_cases he:e0=0
 ·obtain⟨hp,hG,hm,ho⟩:=h3 he;have hs:=hG.mom;obtain⟨a,r1,r2⟩:=SP hp hM.few hs race (at_:=at_);refine⟨e0,a,h1,λh=>absurd he h,λ_=>r1,λha=>?_,λha=>?_⟩
  ·rcases r2 with ⟨_,r3⟩|⟨r2,_⟩
   ·refine⟨some (Jr.mk p (Gj l at_)),R0,?_⟩;unfold Ye;rw[ho];simp only[aG,aJ,bN,aO,aR];rw[r3];rfl
   ·exact absurd r2 ha
  ·rcases r2 with ⟨r2,_⟩|⟨_,r,hr,hk,r3⟩
   ·exact absurd ha r2
   ·subst ha;refine⟨hp,hG,r,hk,?_,Ard hM.few hs r1⟩;unfold Ye;rw[ho];simp only[aG,aJ,bN,aO,aR];rw[r3];rfl
 ·refine⟨e0,e0,h1,λ_=>rfl,λh=>absurd h he,λ_=>⟨none,Fp.mk Ff 0 0 0 0 0 0 0,?_⟩,λh=>absurd h he⟩;unfold Ye;rw[h2 he];simp only[aG];rw[aQ (by simpa using he)]
theorem few_sd{l:List An}(hM:MD l)(race:ByteArray)(at_:Int):((Zw race (Gj l at_)).map sdS).length<=19\/∀s∈(Zw race (Gj l at_)).map sdS,s.Time=0:=by
 have hsub:=CF l at_;rcases hM.alike with h|h
 ·left;rw[aV];have hn:(Zw race (Gj l at_)).Nodup:=(VX race _).imp λ{a b} h e=>by rw[e,Aft] at h;cases h
  have h1:=NZ _ ((Gj l at_).filter λd=>decide (d.Kind=1)) hn λd hd=>by
   obtain⟨_,k2,k3⟩:=EC hd;exact List.mem_filter.2 ⟨k3,aH k2⟩
  rw[←List.countP_eq_length_filter] at h1;have:=hsub.countP_le (p:=λd=>decide (d.Kind=1));omega
 ·right;intro s hs;obtain⟨d,hd,rfl⟩:=bD.1 hs;exact h d (hsub.subset (EC hd).2.2)
theorem seedsG{l:List An}(hG:DsG l)(race:ByteArray)(at_:Int):(∀s∈(Zw race (Gj l at_)).map sdS,Gh s.Who=some true/\0<=s.Time/\s.Time<=360000)/\(((Zw race (Gj l at_)).map sdS).map (·.Who)).Nodup:=by
 refine⟨λs hs=>?_,?_⟩
 ·obtain⟨d,hd,rfl⟩:=bD.1 hs;obtain⟨_,k2,k3⟩:=EC hd;have g:=hG.each d ((CF l at_).subset k3);exact⟨(g.who (by rw[k2];decide)).1,g.time (.inl k2)⟩
 ·rw[List.map_map,List.nodup_iff_pairwise_ne,List.pairwise_map];exact(VX race _).imp λ{a b} h e=>by
   have e':a.Who=b.Who:=e;rw[UA,aK,e',Ut] at h;omega
theorem Agu{p:Ge}{l:List An}(hM:MD l)(race:ByteArray)(at_:Int):∃e0 L e,Oh p l at_=some e0/\Yg p l race at_=some (L,e)/\(e0≠0->e=e0/\L=[])/\
 (e0=0->∃a,Jn p l race at_=some a/\(a≠0->e=a/\L=[])/\(a=0->Lq p l race at_=some (L,e))):=by
 obtain⟨e0,h1,h2,h3⟩:=SO p l at_
 by_cases he:e0=0
 ·obtain⟨hp,hG,hm,ho⟩:=h3 he;have hs:=hG.mom;obtain⟨a,r1,r2⟩:=SP hp hM.few hs race (at_:=at_);rcases r2 with ⟨r2,r3⟩|⟨r2,r,hr,hk,r3⟩
  ·refine⟨e0,[],a,h1,?_,λh=>absurd he h,λ_=>⟨a,r1,λ_=>⟨rfl,rfl⟩,λh=>absurd h r2⟩⟩;unfold Yg Ye;rw[ho];simp only[aG,aJ,bN,aO,aR];rw[r3];simp only[aG];rw[aQ (by simpa using r2)]
  ·obtain⟨L,e,s1,s2,_,_⟩:=Agh hp hM.few hs (hM.fm hG at_) hr;rw[hk] at s2;refine⟨e0,L,e,h1,?_,λh=>absurd he h,λ_=>⟨a,r1,λh=>absurd r2 h,λ_=>s2⟩⟩;unfold Yg Ye;rw[ho];simp only[aG,aJ,bN,aO,aR];rw[r3];simp only[aG,aJ,bN,aO,aR];rw[s1];rfl
 ·refine⟨e0,[],e0,h1,?_,λ_=>⟨rfl,rfl⟩,λh=>absurd h he⟩;have ho:=h2 he;unfold Yg Ye;rw[ho];simp only[aG];rw[aQ (by simpa using he)];simp only[aG];rw[aQ (by simpa using he)]
def iT(n:Int):ByteArray:=(Jb n).getD Ff
theorem Aep{n:Int}(h0:0<=n)(h1:n<=1000000000000000):Jb n=some (iT n)/\Ko [n]=some (iT n)/\(iT n).size<=21:=by
 obtain⟨s,s1,s2⟩:=itoaM n h0 h1;unfold iT;rw[numM _ s s1 s2,s1];exact⟨rfl,rfl,s2⟩
def cT(t:Int):ByteArray:=(AE t).getD Ff
theorem cT_ok{t:Int}(h0:0<=t)(h1:t<=360000):AE t=some (cT t)/\Qx t=some (cT t)/\(cT t).size<=100:=by
 obtain⟨s,s1,s2,s3⟩:=UK h0 h1;unfold cT;rw[s1,s2];exact⟨rfl,rfl,s3⟩
def sT(f:Fh):ByteArray:=(BX f).getD Ff
theorem sT_ok{f:Fh}(h:∃v,v<=1000000000000/\f=frB v):BX f=some (sT f)/\Vj f=some (sT f)/\(sT f).size<=50:=by
 obtain⟨v,hv,rfl⟩:=h;obtain⟨a,ha,ha2⟩:∃a:Nat,(frB v).Num=(a:Int)/\a<=1000000000000:=⟨_,rfl,Nat.le_trans (Nat.div_le_self _ _) hv⟩;obtain⟨b,hb,hb2⟩:∃b:Nat,(frB v).Den=(b:Int)/\b<=2520:=⟨_,rfl,Nat.div_le_self _ _⟩;obtain⟨s1,s2,s3⟩:=Aep (n:=(frB v).Num) aA aA;obtain⟨t1,t2,t3⟩:=Aep (n:=(frB v).Den) aA aA;have k1:XT.size=1:=by decide
 have e1:BX (frB v)=some (iT (frB v).Num++XT++iT (frB v).Den):=by
  unfold BX;rw[s1,t1];simp only[aG]
  repeat rw[Fm (by simp only[ByteArray.size_append,aK];omega)]
 unfold sT Vj;simp only[Ga];rw[e1,s2,t2];simp only[aG]
 repeat rw[Fm (by simp only[ByteArray.size_append,aK];omega)]
 exact⟨rfl,rfl,by simp only[Option.getD_some,ByteArray.size_append];omega⟩
theorem numM2(a b:Int)(s t:ByteArray)(h1:Jb a=some s)(h2:Jb b=some t)(hs:s.size<=21)(ht:t.size<=21):Ko [a,b]=some (s++Gy++t):=by
 have e1:=Zv s;have e2:=Zv t;unfold Ko;simp only[Ga,Tf,h1,h2,aG,aW,aZ];rw[Fm aC,Fm (by unfold Ja;simp)];have hj:Lib.join (([s]++[t]).map (·.data.toList)) Gy.data.toList=s.data.toList++(32::t.data.toList):=by
  rw[show Gy.data.toList=[32] from rfl];simp[Lib.join,List.intercalate,List.intersperse]
 unfold FC;rw[hj,Fm aD];simp only[aG]
 congr 1
 apply ByteArray.ext;apply Array.toList_inj.1;simp[ByteArray.data_append,show Gy.data.toList=[32] from rfl]
theorem OY{α β:Type}{k:List ByteArray->Option α}(P:β->Prop)(f:β->ByteArray)(F:List β->Nat->List ByteArray->Option α)(h0:∀i x,F [] i x=k x)(h1:∀y ys i x,P y->Ja x.length=true->F (y::ys) i x=F ys (i+1) (x++[f y])):
 ∀(ys:List β) (i:Nat) (x:List ByteArray),(∀y∈ys,P y)->x.length+ys.length<=20000->F ys i x=k (x++ys.map f)
 |[],i,x,_,_=>by rw[h0,List.map_nil,List.append_nil]
 |y::ys,i,x,hp,hl=>by
  rw[aT] at hl
  rw[h1 y ys i x (hp y aN) (by unfold Ja;exact aH aA),OY P f F h0 h1 ys (i+1) (x++[f y]) (λz hz=>hp z (aM _ hz)) aD,List.append_assoc]
  rfl
def lnS(y:Fo):ByteArray:=((((iT y.Rank++Gy)++y.Who)++Gy)++cT y.Time)++Gy++sT y.Points
structure LnB(y:Fo):Prop where
 rank:0<=y.Rank/\y.Rank<=13
 time:0<=y.Time/\y.Time<=360000
 who:y.Who.size<=40
 pts:∃v,v<=1000000000000/\y.Points=frB v
theorem k20:Gy.size=1:=by decide
theorem ln_l{y:Fo}(h:LnB y):(lnS y).size<=1000/\(∀j ys i x,Ja x.length=true->Qt j (y::ys) i x=Qt j ys (i+1) (x++[lnS y]))/\∀j ys i x,Ja x.length=true->Pn j (y::ys) i x=Pn j ys (i+1) (x++[lnS y]):=by
 obtain⟨a1,a2,a3⟩:=Aep h.rank.1 (by have:=h.rank;omega);obtain⟨b1,b2,b3⟩:=cT_ok h.time.1 h.time.2;obtain⟨c1,c2,c3⟩:=sT_ok h.pts;have hw:=h.who;have:=k20;refine⟨by unfold lnS;simp only[ByteArray.size_append];omega,λj ys i x hx=>?_,λj ys i x hx=>?_⟩
 ·rw[Qt,a1,b1,c1];simp only[aG]
  repeat rw[Fm (by simp only[ByteArray.size_append,aK];omega)]
  rw[Fm hx];rfl
 ·rw[Pn,a2,b2,c2];simp only[aG]
  repeat rw[Fm (by simp only[ByteArray.size_append,aK];omega)]
  rw[Fm hx];rfl
def stS(y:Ft):ByteArray:=iT y.Heat++Gy++iT y.Lane++Gy++y.Who
structure StB(y:Ft):Prop where
 heat:0<=y.Heat/\y.Heat<=100
 lane:0<=y.Lane/\y.Lane<=10
 who:y.Who.size<=40
theorem st_l{y:Ft}(h:StB y):(stS y).size<=1000/\(∀j ys i x,Ja x.length=true->Qu j (y::ys) i x=Qu j ys (i+1) (x++[stS y]))/\∀j ys i x,Ja x.length=true->Po j (y::ys) i x=Po j ys (i+1) (x++[stS y]):=by
 obtain⟨a1,a2,a3⟩:=Aep h.heat.1 (by have:=h.heat;omega);obtain⟨b1,b2,b3⟩:=Aep h.lane.1 (by have:=h.lane;omega);have hw:=h.who;have:=k20;refine⟨by unfold stS;simp only[ByteArray.size_append];omega,λj ys i x hx=>?_,λj ys i x hx=>?_⟩
 ·rw[Qu,a1,b1];simp only[aG]
  repeat rw[Fm (by simp only[ByteArray.size_append,aK];omega)]
  rw[Fm hx];rfl
 ·rw[Po,numM2 _ _ _ _ a1 b1 a3 b3];simp only[aG]
  repeat rw[Fm (by simp only[ByteArray.size_append,aK];omega)]
  rw[Fm hx];rfl
def givS(y:Fx):ByteArray:=y.Key++Gy++sT y.Points
theorem gv_l{y:Fx}(hk:y.Key.size<=40)(hp:∃v,v<=1000000000000/\y.Points=frB v):(givS y).size<=1000/\(∀j ys i x,Ja x.length=true->Qv j (y::ys) i x=Qv j ys (i+1) (x++[givS y]))/\∀j ys i x,Ja x.length=true->Pp j (y::ys) i x=Pp j ys (i+1) (x++[givS y]):=by
 obtain⟨c1,c2,c3⟩:=sT_ok hp;have:=k20;refine⟨by unfold givS;simp only[ByteArray.size_append];omega,λj ys i x hx=>?_,λj ys i x hx=>?_⟩
 ·rw[Qv,c1];simp only[aG]
  repeat rw[Fm (by simp only[ByteArray.size_append,aK];omega)]
  rw[Fm hx];rfl
 ·rw[Pp,c2];simp only[aG]
  repeat rw[Fm (by simp only[ByteArray.size_append,aK];omega)]
  rw[Fm hx];rfl
def prS(y:Hu):ByteArray:=y.Name++Gy++y.Value
theorem pr_l{y:Hu}(hk:y.Name.size<=40)(hv:y.Value.size<=40):(prS y).size<=1000/\(∀j ys i x,Ja x.length=true->Qw j (y::ys) i x=Qw j ys (i+1) (x++[prS y]))/\∀j ys i x,Ja x.length=true->Pq j (y::ys) i x=Pq j ys (i+1) (x++[prS y]):=by
 have:=k20;refine⟨by unfold prS;simp only[ByteArray.size_append];omega,λj ys i x hx=>?_,λj ys i x hx=>?_⟩
 ·rw[Qw]
  repeat rw[Fm (by simp only[ByteArray.size_append,aK];omega)]
  rw[Fm hx];rfl
 ·rw[Pq]
  repeat rw[Fm (by simp only[ByteArray.size_append,aK];omega)]
  rw[Fm hx];rfl
structure AnsB(A:List ByteArray)(e:Int):Prop where
 err:0<=e/\e<=100
 len:A.length<=20000
 each:∀s∈A,s.size<=1000
theorem AnsB.nil{e:Int}(h:0<=e/\e<=100):AnsB [] e:=⟨h,by simp,λ_ h=>by cases h⟩
theorem AnsB.map{β:Type}{L:List β}{f:β->ByteArray}{e:Int}(he:e=0\/e=2\/e=12)(hl:L.length<=20000)(h:∀y∈L,(f y).size<=1000):AnsB (L.map f) e:=⟨by omega,by rw[aV];exact hl,λs hs=>by
 obtain⟨y,hy,rfl⟩:=bD.1 hs
 exact h y hy⟩
theorem Agv{p:Ge}{l:List An}{race:ByteArray}{at_ e:Int}(h:Jn p l race at_=some e):0<=e/\e<=100:=by
 unfold Jn at h
 split at h
 ·obtain rfl:=bH h;decide
 ·obtain⟨r,_,h⟩:=Rw h
  split at h<;>(obtain rfl:=bH h;decide)
theorem Amo{p:Ge}{l:List An}{at_ e:Int}(h:Kn p l at_=some e):0<=e/\e<=100:=by
 unfold Kn at h;rw[Ga] at h;generalize p.Races=R at h;generalize 0=i at h
 induction R generalizing i with
 |nil=>obtain rfl:=bH h;decide
 |cons r R ih=>
  rw[Pi] at h;obtain⟨a,h1,h⟩:=Rw h
  split at h
  ·obtain rfl:=bH h;exact Agv h1
  ·exact ih _ h
structure Con(p:Ge)(q:Gf)(l:List An):Prop where
 hp:QC p
 few:p.Races.length<=6
 chk:Sr p=some 0
 pf:Rv p=some 0
 df:Ql l=some 0
 pool:Mw q=0
 hG:DsG l
 hM:MD l
section
variable {p:Ge}{q:Gf}{l:List An}(C:Con p q l){at_:Int}(hm:Hf at_=true)
include C hm
theorem opn:Oh p l at_=some 0/\Zg p l [at_]=some (some (Jr.mk p (Gj l at_)),0):=by
 obtain⟨e,h1,_,h3⟩:=SO p l at_;have he:Oh p l at_=some 0:=by
  unfold Oh;rw[C.pf,C.df,WE,hm];rfl
 rw[he] at h1;obtain rfl:=bH h1;exact⟨he,(h3 rfl).2.2.2⟩
theorem Amp(race:ByteArray):∃L e a,Yg p l race at_=some (L,e)/\Jn p l race at_=some a/\(a≠0->e=a/\L=[])/\(a=0->Lq p l race at_=some (L,e))/\(0<=e/\e<=100)/\L.length<=12/\∀y∈L,LnB y:=by
 obtain⟨e0,L,e,h1,h2,_,h4⟩:=Agu (p:=p) C.hM race at_;rw[(opn C hm).1] at h1;obtain rfl:=bH h1;obtain⟨a,r1,r2,r3⟩:=h4 rfl;refine⟨L,e,a,h2,r1,r2,r3,?_⟩
 by_cases ha:a=0
 ·have hF:=C.hM.fm C.hG at_;obtain⟨a',s1,s2⟩:=SP C.hp C.hM.few C.hG.mom race (at_:=at_);rw[r1] at s1;obtain rfl:=bH s1;obtain⟨r,hr,rfl,_⟩:=(s2.resolve_left λh=>h.1 ha).2;obtain⟨L',e',_,t2,t3,t4,t5⟩:=HB C.hp C.hM.few C.hG.mom hF hr;rw[r3 ha] at t2
  cases t2
  obtain⟨e',f1,f2⟩:=XJ hF r (C.hp.key r hr);rw[t5] at f1;obtain rfl:=bH f1
  by_cases he:e=0
  ·obtain⟨u1,u2⟩:=t4 he;refine⟨by omega,u1,λy hy=>?_⟩;obtain⟨v1,⟨d,hd,hw,_⟩,v2⟩:=u2 y hy;obtain⟨_,k2,k3⟩:=EC hd;obtain⟨v,hv,hv2⟩:=v1;exact⟨⟨v2.1,v2.2.1⟩,v2.2.2,by rw[←hw];exact KW ((hF.ok d k3).who (by rw[k2];decide)).1,v,by omega,hv2⟩
  ·rw[t3 he];exact⟨by omega,by simp,λ_ h=>by cases h⟩
 ·obtain⟨rfl,rfl⟩:=r2 ha;exact⟨Agv r1,by simp,λ_ h=>by cases h⟩
theorem Are(race:ByteArray):∃B e a,HI p q l race at_=some (B,e)/\Jn p l race at_=some a/\(a≠0->e=a/\B=[])/\(a=0->∃A,Uj l race at_=some A/\Ya q A=some (B,e))/\(0<=e/\e<=100)/\B.length<=600/\∀y∈B,StB y:=by
 obtain⟨e0,a,h1,_,h3,h4,h5⟩:=ask_both (p:=p) C.hM race at_;rw[(opn C hm).1] at h1;obtain rfl:=bH h1;have r1:=h3 rfl;unfold HI;rw[C.chk,aG,aP aB,aP (by simp[C.pool])]
 by_cases ha:a=0
 ·obtain⟨_,hG,r,hk,hask,hfew⟩:=h5 ha;obtain⟨s1,s2⟩:=Amn (p:=p) (race:=race) (at_:=at_) C.hM.few hG.mom;obtain⟨w1,w2⟩:=seedsG hG race at_;have hz:=few_sd C.hM race at_;have hlen:((Zw race (Gj l at_)).map sdS).length<=300:=by rw[aV];exact hfew
  obtain⟨D,e,y1,y2,y3,y4,y5⟩:=Arc ((Aeo q).2 C.pool) hlen (λs hs=>(w1 s hs).2.1) hz;refine⟨D,e,a,?_,r1,λh=>absurd ha h,λ_=>⟨_,s2,y2⟩,by omega,y4,λs hs=>?_⟩
  ·rw[hask,aG,aP aB,aG,s1,aG];unfold SD FA;rw[aP (by simp[C.pool]),Ail hlen w1 w2];simp only[aG];rw[aP aB,y1];rfl
  ·obtain⟨z1,z2,z3⟩:=y5 s hs;obtain⟨d,hd,e⟩:=bD.1 z1;exact⟨z2,z3,by rw[←e];exact KW (w1 d hd).1⟩
 ·obtain⟨s,r,hask⟩:=h4 ha;refine⟨[],a,a,?_,r1,λ_=>⟨rfl,rfl⟩,λh=>absurd h ha,Agv r1,by simp,λ_ h=>by cases h⟩;rw[hask,aG,aQ (by simpa using ha)]
theorem Arf:∃L e a,JU p l at_=some (L,e)/\Kn p l at_=some a/\(a≠0->e=a/\L=[])/\(a=0->Wt p l at_=some (L,e))/\(0<=e/\e<=100)/\L.length<=3/\∀y∈L,y.Key.size<=40/\∃v,v<=1000000000000/\y.Points=frB v:=by
 obtain⟨L,e,a,r1,r2,r3,r4⟩:=Ami C.hp (Nat.le_trans C.few aC) C.hM.few C.hG.mom (C.hM.fm C.hG at_) (C.hM.fc at_);refine⟨L,e,a,?_,r2,r3,λh=>(r4 h).1,?_⟩
 ·unfold JU;rw[(opn C hm).2];simp only[aG,aJ,bN,aO,aR];rw[r1];rfl
 ·by_cases ha:a=0
  ·obtain⟨_,h1,h2,h3⟩:=r4 ha;have hk:∀k∈[Zd,IG,k_A],k.size<=40:=by decide+kernel
   exact⟨by omega,h2,λy hy=>⟨hk _ (h3 y hy).1,(h3 y hy).2⟩⟩
  ·obtain⟨rfl,rfl⟩:=r3 ha;exact⟨Amo r2,by simp,λ_ h=>by cases h⟩
theorem Akb:∃L e,FB p l at_=some (L,e)/\Kn p l at_=some e/\(e≠0->L=[])/\(e=0->Ul p l at_=some L)/\L.length<=10000/\∀y∈L,y.Name.size<=40/\y.Value.size<=40:=by
 have hF:=C.hM.fm C.hG at_;obtain⟨L,e,r1,r2,r3,r4⟩:=Agj C.hp C.hM.few C.hG.mom (at_:=at_);refine⟨L,e,?_,r2,r3,λh=>(r4 h).1,?_⟩
 ·unfold FB;rw[(opn C hm).2];simp only[aG,aJ,bN,aO,aR];rw[r1];rfl
 ·by_cases he:e=0
  ·rw[(r4 he).2];refine⟨?_,λy hy=>?_⟩
   ·have key:∀R:List Fp,(R.flatMap (misS (Gj l at_))).length<=1000*R.length:=by
     intro R
     induction R with
     |nil=>simp
     |cons r R ih=>
      have h1:=Agi (Gj l at_) r;have h2:=hF.len;rw[List.flatMap_cons,aU,aT];omega
    have:=key p.Races;have:=C.few;omega
   ·obtain⟨r,hr,hy⟩:=List.mem_flatMap.1 hy;obtain⟨d,hd,rfl⟩:=bD.1 hy;obtain⟨k1,k2,k3⟩:=EC (List.mem_filter.1 hd).1;exact⟨KW (C.hp.key r hr),KW ((hF.ok d k3).who (by rw[k2];decide)).1⟩
  ·rw[r3 he];exact⟨by simp,λ_ h=>by cases h⟩
theorem ans_who(who:ByteArray):∃L e a,ON p l who at_=some (L,e)/\Kn p l at_=some a/\(a≠0->e=a/\L=[])/\(a=0->∃L' e' b,Vu p l who at_=some (L',e')/\Lu who=some b/\(e'≠0->e=e'/\L=L')/\(e'=0->(b=true->e=0/\L=L')/\(b=false->e=5/\L=[])))/\AnsB L e:=by
 obtain⟨e0,L,e,h1,h2,_,h4⟩:=Of_both (p:=p) C.hM who at_;rw[(opn C hm).1] at h1;obtain rfl:=bH h1;obtain⟨a,r1,r2,r3⟩:=h4 rfl;refine⟨L,e,a,h2,r1,r2,λh=>?_,?_⟩
 ·obtain⟨L',e',b,c1,c2,c3,c4,_⟩:=r3 h;exact⟨L',e',b,c1,c2,c3,c4⟩
 ·by_cases ha:a=0
  ·obtain⟨L',e',b,c1,c2,c3,c4,c5,c6,c7⟩:=r3 ha
   by_cases he:e'=0
   ·cases b with
    |true=>obtain⟨rfl,rfl⟩:=(c4 he).1 rfl;exact⟨by decide,by omega,c7⟩
    |false=>obtain⟨rfl,rfl⟩:=(c4 he).2 rfl;exact .nil aC
   ·obtain⟨rfl,rfl⟩:=c3 he;exact⟨by omega,by omega,c7⟩
  ·obtain⟨rfl,rfl⟩:=r2 ha;exact .nil (Amo r1)
end
def wr:List ByteArray->ByteArray->ByteArray
 |[],x=>x
 |y::ys,x=>wr ys (x++(y++Kw))
theorem k0a:Kw.size=1:=by decide
theorem Agw:∀(ys:List ByteArray) (x:ByteArray),(∀y∈ys,y.size<=1000)->(wr ys x).size<=x.size+1001*ys.length
 |[],x,_=>by simp[wr]
 |y::ys,x,h=>by
  have h1:=h y aN
  have h2:=Agw ys (x++(y++Kw)) λz hz=>h z (aM _ hz)
  have:=k0a
  simp only[ByteArray.size_append] at h2
  rw[wr,aT]
  omega
theorem wr_c(j:ByteArray->Option (ByteArray×Int))(j':ByteArray->Option ByteArray):∀(ys:List ByteArray) (i:Nat) (x:ByteArray),(∀y∈ys,y.size<=1000)->x.size+1001*ys.length<=1000000000->Ru j ys i x=j (wr ys x)/\Mr j' ys i x=j' (wr ys x)
 |[],i,x,_,_=>⟨rfl,rfl⟩
 |y::ys,i,x,h,hl=>by
  have h1:=h y aN
  have:=k0a
  rw[aT] at hl
  have ih:=wr_c j j' ys (i+1) (x++(y++Kw)) (λz hz=>h z (aM _ hz)) (by simp only[ByteArray.size_append];omega)
  rw[Ru,Mr]
  rw[Fm (by simp only[aK];omega),Fm (by simp only[aK,ByteArray.size_append];omega),Fm (by simp only[aK];omega),Fm (by simp only[aK,ByteArray.size_append];omega)]
  exact ih
def tailR(j:Int->ByteArray->Option ByteArray)(x:ByteArray)(a:List ByteArray)(e at2:Int):Option ByteArray:=
 if !decide (e=0) then Option.bind (Ko [e]) λs=>Chk (decide (Sp.size+s.size<1073741824)) (Mr (j at2) [Sp++s] 0 x) else Mr (j at2) a 0 x
def MB(w:List ByteArray)(ok:Bool):Bool:=(ok && (Tw VC (nth w 0)).isSome) && decide ((w.length:Int)=Gm VC (nth w 0) 0)
noncomputable def refA (p:Ge) (q:Gf) (l:List An) (line:ByteArray) (at_:Int):Option (List ByteArray×Int×Int):=
 Option.bind (Jm line Kw) λr0=>Option.bind (Ke r0) λr1=>Chk (inB 0 r1.1.length) (if MB r1.1 r1.2 then
  Chk (inB 0 r1.1.length) (if !decide (nth r1.1 0=YI) then Option.bind (Jz p q l r1.1 at_) λr=>some (r.1,r.2,at_)
  else Chk (inB 1 r1.1.length) (Option.bind (Yb (nth r1.1 1) 15) λr=>if r.2 then(if Me r.1 then some ([k_ok],0,r.1) else some ([k_ok],1,at_)) else some ([],9,at_)))
 else some ([],9,at_))
theorem body_is(p:Ge)(q:Gf)(l:List An)(line:ByteArray)(at_:Int)(x:ByteArray)(j:Int->ByteArray->Option ByteArray):Yn p q l line at_ x j=Option.bind (refA p q l line at_) λr=>tailR j x r.1 r.2.1 r.2.2:=by
 unfold Yn refA MB;simp only[Ga];have chkB:∀{α β:Type} (c:Bool) (o:Option α) (f:α->Option β),Option.bind (Chk c o) f=Chk c (Option.bind o f):=λc o f=>by cases c<;>rfl
 cases Jm line Kw with
 |none=>rfl
 |some r0=>
  simp only[aG]
  cases Ke r0 with
  |none=>rfl
  |some r1=>
   simp only[aG];rw[chkB]
   congr 1
   split
   ·rw[chkB]
    congr 1
    split
    ·cases Jz p q l r1.1 at_<;>rfl
    ·rw[chkB]
     congr 1
     cases Yb (nth r1.1 1) 15 with
     |none=>rfl
     |some r=>
      simp only[aG]
      split
      ·split<;>rfl
      ·rfl
   ·rfl
theorem Arg{A A':List ByteArray}{e:Int}(h:AnsB A e)(hA:e=0->A'=A){x:ByteArray}(hx:x.size<=500000000):∃x2,x2.size<=x.size+30000000/\(∀at2:Int,(Fq (fun(a:List ByteArray)=>Fq (fun(y:ByteArray)=>some (y,at2)) λj2=>Ru j2 a 0 x) λj1=>
 if !decide (e=0) then Option.bind (Jb e) λs=>Chk (decide (Sp.size+s.size<1073741824)) (j1 [Sp++s]) else j1 A)=some (x2,at2))/\∀j at2,tailR j x A' e at2=j at2 x2:=by
 by_cases he:e=0
 ·have hl:=h.len;have hz:=Agw A x h.each;obtain rfl:=hA he;refine⟨wr A' x,by omega,λat2=>?_,λj at2=>?_⟩
  ·simp only[Ga];rw[aP (by simp[he]),(wr_c _ (λ_=>none) A' 0 x h.each aA).1]
  ·unfold tailR;rw[aP (by simp[he]),(wr_c (λ_=>none) _ A' 0 x h.each aA).2]
 ·obtain⟨a1,a2,a3⟩:=Aep h.err.1 (by have:=h.err;omega);have k1:Sp.size=6:=by decide
  have hs:∀y∈[Sp++iT e],y.size<=1000:=λy hy=>by rw[bA.1 hy];simp only[ByteArray.size_append];omega
  have hz:=Agw [Sp++iT e] x hs;refine⟨wr [Sp++iT e] x,by simp only[aX] at hz;omega,λat2=>?_,λj at2=>?_⟩
  ·simp only[Ga];rw[aQ (by simp[he]),a1,aG,Fm (aH aA),(wr_c _ (λ_=>none) [Sp++iT e] 0 x hs aD).1]
  ·unfold tailR;rw[aQ (by simp[he]),a2,aG,Fm (aH aA),(wr_c (λ_=>none) _ [Sp++iT e] 0 x hs aD).2]
theorem n0(a:ByteArray)(b:List ByteArray):nth (a::b) 0=a:=rfl
theorem n1(a b:ByteArray)(c:List ByteArray):nth (a::b::c) 1=b:=rfl
theorem i0(a:ByteArray)(b:List ByteArray):inB 0 (a::b).length=true:=Fy.2 (by rw[aT];omega)
theorem i1(a b:ByteArray)(c:List ByteArray):inB 1 (a::b::c).length=true:=Fy.2 (by rw[aT,aT];omega)
theorem Xl{α:Type}(x:Option α):Chk true x=x:=rfl
theorem kws:(Uw=YI)=False/\(AB=YI)=False/\(Up=YI)=False/\(LK=YI)=False/\(Wr=YI)=False/\(AB=Uw)=False/\(Up=Uw)=False/\(LK=Uw)=False/\(Wr=Uw)=False/\(Up=AB)=False/\(LK=AB)=False/\(Wr=AB)=False/\(LK=Up)=False/\(Wr=Up)=False/\(Wr=LK)=False:=by
 refine⟨?_,?_,?_,?_,?_,?_,?_,?_,?_,?_,?_,?_,?_,?_,?_⟩<;>exact eq_false (by decide+kernel)
section
variable {p:Ge}{q:Gf}{l:List An}(C:Con p q l){at_:Int}(hm:Hf at_=true)
def YE(p:Ge)(q:Gf)(l:List An)(at_:Int)(z:ByteArray):Prop:=∃A e at2 A',Ns p q l at_ z=some (A,e,at2)/\refA p q l (z++Kw) at_=some (A',e,at2)/\AnsB A e/\(e=0->A'=A)/\Hf at2=true
theorem Abt{z:ByteArray}{w:List ByteArray}(h1:Jm (z++Kw) Kw=some z)(h2:Ke z=some (w,true))(h3:inB 0 w.length=true)(h4:MB w true=true)(h5:(nth w 0=YI)=False){A:List ByteArray}{e:Int}(h:Jz p q l w at_=some (A,e)):refA p q l (z++Kw) at_=some (A,e,at_):=by
 unfold refA;rw[h1,aG,h2,aG];simp only[h3,h4,h5,Xl,decide_false,Bool.not_false,aS,h,aG]
include C hm
theorem Agx{z a:ByteArray}(h1:Jm (z++Kw) Kw=some z)(h2:Ke z=some ([Uw,a],true))(h3:Qs z=some ([Uw,a],true))(h4:MB [Uw,a] true=true):YE p q l at_ z:=by
 obtain⟨L,e,r,r1,r2,r3,r4,r5,r6,r7⟩:=Amp C hm a;obtain⟨x,x1,_⟩:=RW C.hp C.hM.few C.hG.mom (at_:=at_);obtain⟨f1,_⟩:=kws;have t1:∀j,Qt j L 0 []=j (L.map lnS):=λj=>OY LnB lnS _ (λ_ _=>rfl) (λy ys i x hy hx=>(ln_l hy).2.1 j ys i x hx) L 0 [] r7 aD;have t2:∀j,Pn j L 0 []=j (L.map lnS):=λj=>OY LnB lnS _ (λ_ _=>rfl) (λy ys i x hy hx=>(ln_l hy).2.2 j ys i x hx) L 0 [] r7 aD;have hr:Jz p q l [Uw,a] at_=some (L.map lnS,e):=by
  unfold Jz;rw[x1];simp only[aG,Ga,n0,n1,i0,i1,Xl,aJ,aS,Bool.or_true,r2]
  by_cases hr:r=0
  ·rw[aP (by simp[hr]),r4 hr,aG,t2]
  ·obtain⟨rfl,rfl⟩:=r3 hr;rw[aQ (by simp[hr])];rfl
 refine⟨L.map lnS,e,at_,_,?_,Abt h1 h2 (i0 _ _) h4 f1 hr,?_,λ_=>rfl,hm⟩
 ·unfold Ns;rw[h3];simp only[aG,n0,n1,f1,decide_false,aJ,bP,bO,bN,aO,aR,aT,aW];unfold EZ;rw[r1];simp only[aG,Ga,t1];rfl
 ·exact⟨r5,by rw[aV];omega,λs hs=>by
   obtain⟨y,hy,rfl⟩:=bD.1 hs;exact(ln_l (r7 y hy)).1⟩
end
section
variable {p:Ge}{q:Gf}{l:List An}(C:Con p q l){at_:Int}(hm:Hf at_=true)
include C hm
theorem Akc{z a:ByteArray}(h1:Jm (z++Kw) Kw=some z)(h2:Ke z=some ([AB,a],true))(h3:Qs z=some ([AB,a],true))(h4:MB [AB,a] true=true):YE p q l at_ z:=by
 obtain⟨L,e,r,r1,r2,r3,r4,r5,r6,r7⟩:=Are C hm a;obtain⟨x,x1,_⟩:=RW C.hp C.hM.few C.hG.mom (at_:=at_);obtain⟨_,f1,_,_,_,f2,_⟩:=kws;have t1:∀j,Qu j L 0 []=j (L.map stS):=λj=>OY StB stS _ (λ_ _=>rfl) (λy ys i x hy hx=>(st_l hy).2.1 j ys i x hx) L 0 [] r7 aD;have t2:∀j,Po j L 0 []=j (L.map stS):=λj=>OY StB stS _ (λ_ _=>rfl) (λy ys i x hy hx=>(st_l hy).2.2 j ys i x hx) L 0 [] r7 aD;have hr:Jz p q l [AB,a] at_=some (L.map stS,e):=by
  unfold Jz;rw[x1];simp only[aG,Ga,n0,n1,i0,i1,Xl,f2,aJ,decide_false,aO,aR,aS,Bool.or_true,r2]
  by_cases hr:r=0
  ·obtain⟨A,s1,s2⟩:=r4 hr;rw[aP (by simp[hr]),s1,aG,s2,aG,t2]
  ·obtain⟨rfl,rfl⟩:=r3 hr;rw[aQ (by simp[hr])];rfl
 refine⟨L.map stS,e,at_,_,?_,Abt h1 h2 (i0 _ _) h4 f1 hr,?_,λ_=>rfl,hm⟩
 ·unfold Ns;rw[h3];simp only[aG,n0,n1,f1,f2,decide_false,aJ,bP,bO,bN,aO,aR,aT,aW,r1,Ga,t1];rfl
 ·exact⟨r5,by rw[aV];omega,λs hs=>by
   obtain⟨y,hy,rfl⟩:=bD.1 hs;exact(st_l (r7 y hy)).1⟩
theorem Akd{z:ByteArray}(h1:Jm (z++Kw) Kw=some z)(h2:Ke z=some ([Up],true))(h3:Qs z=some ([Up],true))(h4:MB [Up] true=true):YE p q l at_ z:=by
 obtain⟨L,e,r,r1,r2,r3,r4,r5,r6,r7⟩:=Arf C hm;obtain⟨_,_,f1,_,_,_,f2,_,_,f3,_⟩:=kws;have t1:∀j,Qv j L 0 []=j (L.map givS):=λj=>OY _ givS _ (λ_ _=>rfl) (λy ys i x hy hx=>(gv_l hy.1 hy.2).2.1 j ys i x hx) L 0 [] r7 aD;have t2:∀j,Pp j L 0 []=j (L.map givS):=λj=>OY _ givS _ (λ_ _=>rfl) (λy ys i x hy hx=>(gv_l hy.1 hy.2).2.2 j ys i x hx) L 0 [] r7 aD;have hr:Jz p q l [Up] at_=some (L.map givS,e):=by
  unfold Jz;rw[r2];simp only[aG,Ga,n0,i0,Xl,f2,f3,aJ,decide_false,aO,aR,aS,Bool.or_false]
  by_cases hr:r=0
  ·rw[aP (by simp[hr]),r4 hr,aG,t2]
  ·obtain⟨rfl,rfl⟩:=r3 hr;rw[aQ (by simp[hr])];rfl
 refine⟨L.map givS,e,at_,_,?_,Abt h1 h2 (i0 _ _) h4 f1 hr,?_,λ_=>rfl,hm⟩
 ·unfold Ns;rw[h3];simp only[aG,n0,f1,f2,f3,decide_false,aJ,bP,bO,bN,aO,aR,aT,aW,r1,Ga,t1];rfl
 ·exact⟨r5,by rw[aV];omega,λs hs=>by
   obtain⟨y,hy,rfl⟩:=bD.1 hs;exact(gv_l (r7 y hy).1 (r7 y hy).2).1⟩
theorem Abw{z:ByteArray}(h1:Jm (z++Kw) Kw=some z)(h2:Ke z=some ([Wr],true))(h3:Qs z=some ([Wr],true))(h4:MB [Wr] true=true):YE p q l at_ z:=by
 obtain⟨L,e,r1,r2,r3,r4,r6,r7⟩:=Akb C hm;obtain⟨_,_,_,_,f1,_,_,_,f2,_,_,f3,_,f4,f5⟩:=kws;have t1:∀j,Qw j L 0 []=j (L.map prS):=λj=>OY _ prS _ (λ_ _=>rfl) (λy ys i x hy hx=>(pr_l hy.1 hy.2).2.1 j ys i x hx) L 0 [] r7 aD;have t2:∀j,Pq j L 0 []=j (L.map prS):=λj=>OY _ prS _ (λ_ _=>rfl) (λy ys i x hy hx=>(pr_l hy.1 hy.2).2.2 j ys i x hx) L 0 [] r7 aD;have hr:Jz p q l [Wr] at_=some (L.map prS,e):=by
  unfold Jz;rw[r2];simp only[aG,Ga,n0,i0,Xl,f2,f3,f4,f5,decide_false,aO,aR,Bool.or_false]
  by_cases hr:e=0
  ·rw[aP (by simp[hr]),r4 hr,aG,t2,hr]
  ·obtain rfl:=r3 hr;rw[aQ (by simp[hr])];rfl
 refine⟨L.map prS,e,at_,_,?_,Abt h1 h2 (i0 _ _) h4 f1 hr,?_,λ_=>rfl,hm⟩
 ·unfold Ns;rw[h3];simp only[aG,n0,f1,f2,f3,f4,f5,decide_false,aJ,bP,bO,bN,aO,aR,aT,aW,r1,Ga,t1];rfl
 ·exact⟨Amo r2,by rw[aV];omega,λs hs=>by
   obtain⟨y,hy,rfl⟩:=bD.1 hs;exact(pr_l (r7 y hy).1 (r7 y hy).2).1⟩
theorem Arh{z a:ByteArray}(h1:Jm (z++Kw) Kw=some z)(h2:Ke z=some ([LK,a],true))(h3:Qs z=some ([LK,a],true))(h4:MB [LK,a] true=true):YE p q l at_ z:=by
 obtain⟨L,e,r,r1,r2,r3,r4,r5⟩:=ans_who C hm a;obtain⟨_,_,_,f1,_,_,_,f2,_,_,f3,_,f4,_⟩:=kws;have hr:∃A',Jz p q l [LK,a] at_=some (A',e)/\(e=0->A'=L):=by
  unfold Jz;rw[r2];simp only[aG,Ga,n0,n1,i0,i1,Xl,f2,f3,f4,aJ,decide_false,aO,aR,aS,Bool.or_false]
  by_cases hr:r=0
  ·rw[aP (by simp[hr])];obtain⟨L',e',b,c1,c2,c3,c4⟩:=r4 hr;rw[c1,aG,c2,aG]
   by_cases he:e'=0
   ·subst he
    cases b with
    |true=>obtain⟨rfl,rfl⟩:=(c4 rfl).1 rfl;exact⟨_,rfl,λ_=>rfl⟩
    |false=>obtain⟨rfl,rfl⟩:=(c4 rfl).2 rfl;exact⟨_,rfl,λh=>absurd h aC⟩
   ·obtain⟨rfl,rfl⟩:=c3 he;exact⟨_,by simp[he],λ_=>rfl⟩
  ·obtain⟨rfl,rfl⟩:=r3 hr;exact⟨[],by simp[hr],λ_=>rfl⟩
 obtain⟨A',hr,hA⟩:=hr;refine⟨L,e,at_,_,?_,Abt h1 h2 (i0 _ _) h4 f1 hr,r5,hA,hm⟩;unfold Ns;rw[h3];simp only[aG,n0,n1,f1,f2,f3,f4,decide_false,aJ,bP,bO,bN,aO,aR,aT,aW,r1];rfl
end
def zL:List ByteArray:=[⟨#[114,101,115,117,108,116,32,114,97]⟩,⟨#[114,101,115,117,108,116,32,114,98]⟩,⟨#[114,101,115,117,108,116,32,122,122]⟩,⟨#[104,101,97,116,115,32,114,97]⟩,⟨#[104,101,97,116,115,32,114,98]⟩,⟨#[99,108,117,98,115]⟩,⟨#[109,105,115,115,105,110,103]⟩,⟨#[119,104,111,32,97,110,110]⟩,⟨#[119,104,111,32,98,101,97]⟩,⟨#[119,104,111,32,65]⟩,⟨#[97,116,32,48]⟩,⟨#[97,116,32,54,48]⟩,⟨#[97,116,32,49,48]⟩,⟨#[97,116,32,45,49]⟩,⟨#[97,116,32,120]⟩,⟨#[104,101,121]⟩,⟨#[114,101,115,117,108,116]⟩,⟨#[99,108,117,98,115,32,110,111,119]⟩,⟨#[]⟩]
theorem z_lines:zL.map (·++Kw)=[MT,MU,MV,PC,PD,Aac,UW,QR,QS,UX,XQ,UY,UZ,QT,XR,Ahp,XS,MW,Kw]:=by decide+kernel
def synZ(z:ByteArray):Bool:=match Qs z,Ke z with
 |some (w,ok),some (v,ok')=>decide (ok=ok') && inB 0 v.length && !MB v ok' && (!ok||(inB 0 w.length && !(decide (nth w 0=YI) && decide ((w.length:Int)=2)) && !(decide (nth w 0=Uw) && decide ((w.length:Int)=2)) && !(decide (nth w 0=AB) && decide ((w.length:Int)=2)) && !(decide (nth w 0=Up) && decide ((w.length:Int)=1)) && !(decide (nth w 0=LK) && decide ((w.length:Int)=2)) && !(decide (nth w 0=Wr) && decide ((w.length:Int)=1))))
 |_,_=>false
def numZ(z:ByteArray):Bool:=match Qs z,Ke z with
 |some ([a,b],true),some (v,true)=>decide (a=YI) && decide (v=[a,b]) && MB v true && match JC b 15,Yb b 15 with
  |some (n,ok),some (m,ok')=>decide (ok=ok') && (!ok||decide (n=m) && decide (Hf n=Me n))
  |_,_=>false
 |_,_=>false
section
variable {p:Ge}{q:Gf}{l:List An}{at_:Int}(hm:Hf at_=true)
include hm
theorem Ari{z:ByteArray}(h1:Jm (z++Kw) Kw=some z)(h:synZ z=true):YE p q l at_ z:=by
 unfold synZ at h
 split at h
 ·rename_i w ok v ok' e1 e2;simp only[bQ,aK,Bool.not_eq_true'] at h;obtain⟨⟨⟨rfl,h2⟩,h3⟩,h4⟩:=h;refine⟨[],9,at_,[],?_,?_,.nil aC,λ_=>rfl,hm⟩
  ·unfold Ns;rw[e1,aG]
   cases ok with
   |false=>rfl
   |true=>
    simp only[bN,Bool.false_or,bQ,Bool.not_eq_true'] at h4;obtain⟨⟨⟨⟨⟨⟨g0,g1⟩,g2⟩,g3⟩,g4⟩,g5⟩,g6⟩:=h4;simp only[g0,g1,g2,g3,g4,g5,g6,Xl,bN,aO,aR]
  ·unfold refA;rw[h1,aG,e2,aG];simp only[h2,h3,Xl,aO,aR]
 ·cases h
theorem Arj{z:ByteArray}(h1:Jm (z++Kw) Kw=some z)(h:numZ z=true):YE p q l at_ z:=by
 unfold numZ at h
 split at h
 ·rename_i a b v e1 e2;simp only[bQ,aK] at h;obtain⟨⟨⟨rfl,rfl⟩,h3⟩,h4⟩:=h
  split at h4
  ·rename_i n ok m ok' g1 g2;simp only[bQ,aK,Bool.or_eq_true,Bool.not_eq_true'] at h4;obtain⟨rfl,h4⟩:=h4;have hc:Ns p q l at_ z=if !ok then some ([],9,at_) else if !(Hf n) then some ([],1,at_) else some ([k_ok],0,n):=by
    unfold Ns;rw[e1];simp only[aG,n0,n1,aJ,bO,bN,aO,aR,aT,aW,g1];rfl
   have hr:refA p q l (z++Kw) at_=if ok then(if Me m then some ([k_ok],0,m) else some ([k_ok],1,at_)) else some ([],9,at_):=by
    unfold refA;rw[h1,aG,e2,aG];simp only[h3,n0,n1,i0,i1,Xl,aJ,bN,aO,aR,aS,g2,aG]
   have hok:k_ok.size<=1000:=by decide
   cases ok with
   |false=>exact⟨[],9,at_,[],hc,hr,.nil aC,λ_=>rfl,hm⟩
   |true=>
    obtain⟨rfl,h5⟩:=h4.resolve_left aC
    cases hn:Hf n with
    |false=>rw[hn] at hc h5;rw[←h5] at hr;exact⟨[],1,at_,_,hc,hr,.nil aC,λh=>absurd h aC,hm⟩
    |true=>rw[hn] at hc h5;rw[←h5] at hr;exact⟨[k_ok],0,n,_,hc,hr,⟨by decide,by simp,λs hs=>by rw[bA.1 hs];exact hok⟩,λ_=>rfl,hn⟩
  ·cases h4
 ·cases h
end
theorem z_trim:∀z∈zL,Jm (z++Kw) Kw=some z:=by decide+kernel
def askZ(c:ByteArray)(z:ByteArray):Bool:=match Qs z,Ke z with
 |some ([a,b],true),some (v,true)=>decide (a=c) && decide (v=[a,b]) && MB v true
 |_,_=>false
def askZ1(c:ByteArray)(z:ByteArray):Bool:=match Qs z,Ke z with
 |some ([a],true),some (v,true)=>decide (a=c) && decide (v=[a]) && MB v true
 |_,_=>false
theorem Agy{c z:ByteArray}(h:askZ c z=true):∃a,Ke z=some ([c,a],true)/\Qs z=some ([c,a],true)/\MB [c,a] true=true:=by
 unfold askZ at h
 split at h
 ·rename_i a b v e1 e2;simp only[bQ,aK] at h;obtain⟨⟨rfl,rfl⟩,h⟩:=h;exact⟨b,e2,e1,h⟩
 ·cases h
theorem Ake{c z:ByteArray}(h:askZ1 c z=true):Ke z=some ([c],true)/\Qs z=some ([c],true)/\MB [c] true=true:=by
 unfold askZ1 at h
 split at h
 ·rename_i a v e1 e2;simp only[bQ,aK] at h;obtain⟨⟨rfl,rfl⟩,h⟩:=h;exact⟨e2,e1,h⟩
 ·cases h
theorem z_all:∀z∈zL,synZ z=true\/numZ z=true\/askZ Uw z=true\/askZ AB z=true\/askZ LK z=true\/askZ1 Up z=true\/askZ1 Wr z=true:=by decide+kernel
theorem alike{p:Ge}{q:Gf}{l:List An}(C:Con p q l){at_:Int}(hm:Hf at_=true){z:ByteArray}(hz:z∈zL):YE p q l at_ z:=by
 have h1:=z_trim z hz;rcases z_all z hz with h|h|h|h|h|h|h
 ·exact Ari hm h1 h
 ·exact Arj hm h1 h
 ·obtain⟨a,g1,g2,g3⟩:=Agy h;exact Agx C hm h1 g1 g2 g3
 ·obtain⟨a,g1,g2,g3⟩:=Agy h;exact Akc C hm h1 g1 g2 g3
 ·obtain⟨a,g1,g2,g3⟩:=Agy h;exact Arh C hm h1 g1 g2 g3
 ·obtain⟨g1,g2,g3⟩:=Ake h;exact Akd C hm h1 g1 g2 g3
 ·obtain⟨g1,g2,g3⟩:=Ake h;exact Abw C hm h1 g1 g2 g3
end Go.Proofs.YthlielagemkjcaaGreatDoor
