/- The plain law of MeetsAnswer. No program stands here but its twins. -/
import Derived.Test.YthlielagemkjcaaGreatDoorPCon4
import Derived.Lib.IndexLaws
namespace Go.Proofs.YthlielagemkjcaaGreatDoor
open Go
theorem Abu{s t:ByteArray}(h:s.data.toList=t.data.toList):s=t:=by
 obtain⟨s⟩:=s;obtain⟨t⟩:=t;simp only at h
 congr
 exact Array.toList_inj.1 h
def txt:List ByteArray->ByteArray->ByteArray
 |[],u=>u
 |z::ls,u=>z++(Kw++txt ls u)
theorem ZG:∀(ls:List ByteArray) (u v:ByteArray),txt ls u++v=txt ls (u++v)
 |[],_,_=>rfl
 |z::ls,u,v=>by rw[txt,txt,ByteArray.append_assoc,ByteArray.append_assoc,ZG ls u v]
theorem Akf:∀(ls:List ByteArray) (z u:ByteArray),txt (ls++[z]) u=txt ls (z++(Kw++u))
 |[],_,_=>rfl
 |y::ls,z,u=>by rw[List.cons_append,txt,txt,Akf ls z u]
theorem Amq:∀z∈zL,z.size<=9/\(10:UInt8)∉z.data.toList:=by decide+kernel
theorem OH:∀(ls:List ByteArray) (u:ByteArray),(∀z∈ls,z∈zL)->(txt ls u).size<=10*ls.length+u.size/\u.size+ls.length<=(txt ls u).size
 |[],u,_=>by simp[txt]
 |z::ls,u,h=>by
  have h1:=(Amq z (h z aN)).1
  have h2:=OH ls u λy hy=>h y (aM _ hy)
  have:=k0a
  simp only[txt,ByteArray.size_append,aT]
  omega
section
variable {L:List Int}(hL:LY L)
include hL
theorem ord_l(r1:Int×Int)(hr:0<=r1.1/\r1.1<=5)(j1:Int->ByteArray->Option (ByteArray×Int)):∀(m:Nat) (a:Int) (ls:List ByteArray) (i:Nat),(r1.1-(i:Int)).toNat<m->(i:Int)<=r1.1->0<=a->a+5<=100000+(i:Int)->(∀z∈ls,z∈zL)->ls.length=i->
 ∃a' ls',Ty r1 L j1 m a (txt ls Ff) (i:Int)=j1 a' (txt ls' Ff)/\a<=a'/\a'<=a+(r1.1-(i:Int))/\(∀z∈ls',z∈zL)/\ls'.length<=5
 |0,_,_,_,h,_,_,_,_,_=>by omega
 |m+1,a,ls,i,h,hi,h0,h1,hz,hl=>by
  rw[Ty]
  by_cases hc:(i:Int)<r1.1
  ·rw[aQ (aH hc),←z_lines]
   obtain⟨v,b,e,g1,g2,g3⟩:=EB hL h0 aA (zL.map (·++Kw)) aC aC
   rw[e,aG]
   obtain⟨z,z1,rfl⟩:=bD.1 g3
   have hs:=(OH ls Ff hz).1
   have h9:=(Amq z z1).1
   have hk:Ff.size=0:=rfl
   have:=k0a
   have e2:txt ls Ff++(z++Kw)=txt (ls++[z]) Ff:=by
    rw[ZG,Akf];exact congrArg _ (Abu (by simp[ByteArray.data_append,Ff]))
   rw[Fm (by simp only[ByteArray.size_append,aK];omega),e2,Hl aA aA];obtain⟨a',ls',q1,q2,q3,q4,q5⟩:=ord_l r1 hr j1 m b (ls++[z]) (i+1) aA aA aA aA (λy hy=>by
    rcases bC.1 hy with hy|hy
    ·exact hz y hy
    ·rw[bA.1 hy];exact z1) aD
   exact⟨a',ls',q1,by omega,by omega,q4,q5⟩
  ·rw[aP (by simpa using hc)];exact⟨a,ls,rfl,Int.le_refl _,by omega,hz,by omega⟩
theorem Ark{a:Int}(h0:0<=a)(h1:a<=50000):Dr a 20 (λt=>∃ls u,(∀z∈ls,z∈zL)/\ls.length<=5/\u∈[Ff,Up,k_x]/\t=txt ls u) (DO L a):=by
 unfold DO;obtain⟨n,b,e,g1,g2,g3⟩:=FT hL h0 aA 0 5 aA aA aA;rw[e];simp only[aG,Ga];have hn:0<=n/\n<=5:=by omega
 obtain⟨c,ls,q1,q2,q3,q4,q5⟩:=ord_l hL (n,b) hn (fun(x1:Int) (x2:ByteArray)=>
  Option.bind (Oc L x1 20) λr3=>if r3.1 then Option.bind (Nd L r3.2 [Up,k_x]) λr4=>Chk (decide (x2.size+r4.1.size<1073741824)) (some ((x2++r4.1),r4.2)) else some (x2,r3.2)) (((n,b).1-0).toNat+2) b [] 0 aB aD aA aD (λ_ h=>by cases h) rfl
 refine(show Dr a 20 _ (Ty (n,b) L _ _ b (txt [] Ff) ((0:Nat):Int)) from ?_);rw[q1];simp only at q3;obtain⟨f,c1,e1,g4,g5,_⟩:=HA hL (a:=c) aA aA 20 aA;rw[e1];simp only[aG]
 cases f with
 |false=>exact⟨_,c1,rfl,by omega,by omega,ls,_,q4,q5,by simp,rfl⟩
 |true=>
  rw[aQ rfl];obtain⟨v,c2,e2,g6,g7,g8⟩:=EB hL (a:=c1) aA aA [Up,k_x] aB aB;rw[e2,aG];have hs:=(OH ls Ff q4).1;have hv:v.size<=5:=(by decide+kernel:∀v∈[Up,k_x],v.size<=5) v g8;have hk:Ff.size=0:=rfl;rw[Fm (aH (show _+v.size<_ by omega))];refine⟨_,c2,rfl,by omega,by omega,ls,v,q4,q5,aM _ g8,?_⟩;rw[ZG];exact congrArg _ (Abu (by simp[ByteArray.data_append,Ff]))
end
theorem suf_is(p v:ByteArray)(hv:v.size=1)(hp:p.size<=1000):Qr (p++v) Kw=some (decide (v=Kw)):=by
 have:=k0a;have hs:(p++v).size=p.size+1:=by rw[ByteArray.size_append,hv]
 have hw:W (((p++v).size:Int)-(Kw.size:Int))=(p.size:Int):=by rw[hs,k0a,Hl aA aA];simp
 unfold Qr Tp;simp only[Ga];rw[hw,aQ (aH aA),Fm (Lc.2 aA),aH aA];have hx:KY (p++v) (p.size:Int) ((p++v).size:Int)=v:=by
  unfold KY;exact ByteArray.extract_append_eq_right aB (by rw[bI,ByteArray.size_append])
 rw[hx];rfl
theorem Aph:∀(ls:List ByteArray),ls≠[]->∃p,txt ls Ff=p++Kw
 |[],h=>absurd rfl h
 |[z],_=>⟨z,Abu (by simp[txt,ByteArray.data_append,Ff])⟩
 |z::y::ls,_=>by
  obtain⟨p,hp⟩:=Aph (y::ls) aB
  exact⟨z++(Kw++p),by rw[txt,hp,ByteArray.append_assoc,ByteArray.append_assoc]⟩
theorem nl0a:Kw.data.toList=[10]:=rfl
theorem ib_nl(r:List UInt8):∀{s:List UInt8},(10:UInt8)∉s->Lib.indexByte (s++10::r) 10=(s.length:Int)
 |[],_=>by simp[Lib.indexByte]
 |b::s,h=>by
  rw[bB,not_or] at h
  have ih:=ib_nl r h.2
  rw[List.cons_append,Lib.indexByte,aP (by simpa using λe=>h.1 e.symm),ih,aP aB,aT]
  omega
theorem line_is(z t:ByteArray)(hz:(10:UInt8)∉z.data.toList)(hl:(z++(Kw++t)).size<=1000):HK (z++(Kw++t)) Kw=some (z,t,true)/\MX (z++(Kw++t))=z++Kw/\FY (z++(Kw++t))=t:=by
 have e:(z++(Kw++t)).data.toList=z.data.toList++10::t.data.toList:=by simp[ByteArray.data_append,Kw]
 have hi:=ib_nl t.data.toList hz;have hsz:=Zv z;have hk:=k0a;have hs:(z++(Kw++t)).size=z.size+(1+t.size):=by rw[ByteArray.size_append,ByteArray.size_append,hk]
 have hib:Gq (z++(Kw++t)) 10=(z.size:Int):=by
  unfold Gq;rw[e,hsz];exact hi
 have hw:W (Gq (z++(Kw++t)) 10+1)=((z.size+1:Nat):Int):=by rw[hib,Hl aA aA];omega
 have hc:(decide (0<=Gq (z++(Kw++t)) 10))=true:=by rw[hib];exact aH aA
 refine⟨?_,?_,?_⟩
 ·unfold HK;rw[Fm (aH aA),e,nl0a];unfold Lib.cut;have h1:Lib.index (z.data.toList++10::t.data.toList) [10]=(z.data.toList.length:Int):=by rw[Lib.index_one];exact hi
  rw[h1,aQ aA];refine congrArg some (Prod.ext (Abu ?_) (Prod.ext (Abu ?_) rfl))
  ·simp
  ·show List.drop (((z.data.toList.length:Nat):Int).toNat+[(10:UInt8)].length) _=_;generalize z.data.toList=l;simp
 ·unfold MX;rw[aQ hc,hw,←ByteArray.append_assoc];unfold KY;exact ByteArray.extract_append_eq_left (by rw[ByteArray.size_append,hk];simp)
 ·unfold FY;rw[aQ hc,hw,←ByteArray.append_assoc];unfold KY;exact ByteArray.extract_append_eq_right (by rw[ByteArray.size_append,hk];simp) (by rw[bI,ByteArray.size_append])
theorem Aeq{p:Ge}{q:Gf}{l:List An}(C:Con p q l):∀(ls:List ByteArray) (m n:Nat) (at_:Int) (x:ByteArray),Hf at_=true->(∀z∈ls,z∈zL)->ls.length<m->ls.length<=n->ls.length<=5->x.size+30000000*ls.length<=500000000->
 ∃y at2,Ux p q l m (txt ls Ff) at_ x=some (y,at2)/\Om p q l (TO n (txt ls Ff)) at_ x=some y
 |[],0,_,_,_,_,_,h,_,_,_=>absurd h aB
 |[],m+1,n,at_,x,_,_,_,_,_,_=>⟨x,at_,rfl,by cases n<;>rfl⟩
 |z::ls,0,_,_,_,_,_,h,_,_,_=>absurd h aB
 |z::ls,m+1,0,_,_,_,_,_,h,_,_=>absurd h aB
 |z::ls,m+1,n+1,at_,x,hm,hz,h1,h2,h3,h4=>by
  simp only[aT] at h1 h2 h3 h4
  have hz1:=hz z aN
  have hz2:=λy hy=>hz y (aM _ hy)
  have hs:=OH (z::ls) Ff hz
  have hk:Ff.size=0:=rfl
  simp only[aT,hk] at hs
  obtain⟨c1,c2,c3⟩:=line_is z (txt ls Ff) (Amq z hz1).2 (by have:=hs.1;rw[txt] at this;omega)
  obtain⟨A,e,at2,A',b1,b2,b3,b4,b5⟩:=alike C hm hz1
  obtain⟨x2,d1,d2,d3⟩:=Arg b3 b4 (x:=x) aA
  obtain⟨y,at3,i1,i2⟩:=Aeq C ls m n at2 x2 b5 hz2 aA aA aA aA
  refine⟨y,at3,?_,?_⟩
  ·have hne:txt (z::ls) Ff≠Ff:=λh=>by rw[h,hk] at hs;omega
   rw[Ux,aQ (by simpa using hne),txt,c1,aG,aP aB]
   unfold DZ
   rw[b1,aG,d2,aG]
   exact i1
  ·rw[TO,aQ (aH aA),txt,c2,c3,Om,body_is,b2,aG,d3]
   exact i2
theorem Agz{p:Ge}{q:Gf}{l:List An}(C:Con p q l){ls:List ByteArray}{u:ByteArray}(hz:∀z∈ls,z∈zL)(hl:ls.length<=5)(hu:u∈[Ff,Up,k_x]):∃r,AF p q l (txt ls u)=some r/\Xj p q l (txt ls u)=some r:=by
 have hus:u.size<=5:=(by decide+kernel:∀v∈[Ff,Up,k_x],v.size<=5) u hu;have hs:=OH ls u hz;obtain⟨ec,c1,c2,_⟩:=TX l;rw[C.df] at c2;obtain rfl:=bH c2;unfold AF Xj;simp only[Ga];rw[C.chk,aG,aP aB,C.pool,aP aB,c1,aG,aP aB];have h2k:decide (2000<((txt ls u).size:Int))=false:=aI aA;simp only[h2k,aO,aR];obtain⟨c,hc,key⟩:∃c:Bool,(c=false->u=Ff)/\∀R:Option (ByteArray×Int),(if(!decide (txt ls u=Ff))=true then Option.bind (Qr (txt ls u) Kw) λr=>if((!decide (txt ls u=Ff)) && !r)=true then some (Ff,9) else R else if((!decide (txt ls u=Ff)) && true)=true then some (Ff,9) else R)=if c=true then some (Ff,9) else R:=by
  have hne:0<(txt ls u).size->¬txt ls u=Ff:=λh e=>by rw[e] at h;exact absurd h aC
  have bad:∀v w:ByteArray,u=v++w->w.size=1->w≠Kw->∃c:Bool,(c=false->u=Ff)/\∀R:Option (ByteArray×Int),(if(!decide (txt ls u=Ff))=true then Option.bind (Qr (txt ls u) Kw) λr=>if((!decide (txt ls u=Ff)) && !r)=true then some (Ff,9) else R else if((!decide (txt ls u=Ff)) && true)=true then some (Ff,9) else R)=if c=true then some (Ff,9) else R:=λv w e h1 h2=>by
   have h3:u.size=v.size+1:=by rw[e,ByteArray.size_append,h1]
   refine⟨true,λh=>absurd h aC,λR=>?_⟩;rw[aI (hne aA),e,←ZG,suf_is _ w h1 (by have:=(OH ls v hz).1;omega),aI h2];rfl
  rcases bB.1 hu with rfl|hu
  ·refine⟨false,λ_=>rfl,λR=>?_⟩
   by_cases hn:ls=[]
   ·subst hn;rfl
   ·obtain⟨v,hv⟩:=Aph ls hn;have h3:=hs.2;have h4:0<ls.length:=List.length_pos_iff.2 hn;have h5:=hs.1;have hk:Ff.size=0:=rfl;rw[aI (hne aA)];rw[hv,ByteArray.size_append] at h5;rw[hv,suf_is v Kw k0a aA,aH rfl];rfl
  ·rcases bB.1 hu with rfl|hu
   ·exact bad ⟨#[99,108,117,98]⟩ ⟨#[115]⟩ (by decide+kernel) aC (by decide+kernel)
   ·rw[bA.1 hu] at bad ⊢;exact bad Ff k_x (by decide+kernel) aC (by decide+kernel)
 rw[key,key]
 cases c with
 |true=>exact⟨_,rfl,rfl⟩
 |false=>
  obtain rfl:=hc rfl;obtain⟨y,at2,h1,h2⟩:=Aeq C ls ((txt ls Ff).size+1) (txt ls Ff).size 0 Ff rfl hz aA aA hl (by have:Ff.size=0:=rfl;omega);rw[aP aB,aP aB,h1,h2];exact⟨_,rfl,rfl⟩
theorem plain_MeetsAnswer(l:List Int)(hl:l.length<=9223372036854775807):Yo l=some true:=by
 have hL:LY l:=by unfold LY;omega
 obtain⟨p,a1,e1,p1,q1,hp⟩:=Ajs hL (a:=0) aA aA;obtain⟨q,a2,e2,p2,q2,_⟩:=Aka hL (a:=a1) aA aA;obtain⟨x,a3,e3,p3,q3,hM⟩:=Ago hL 14 aA aA (a:=a2) aA aA;obtain⟨t,a4,e4,p4,q4,ls,u,hz,hls,hu,rfl⟩:=Ark hL (a:=a3) aA aA;obtain⟨ep,c1,c2,c3⟩:=Aej p;obtain⟨ed,d1,d2,d3⟩:=TX x;obtain⟨u1,u2⟩:=Aeo q;unfold Yo;rw[e1,aG,e2,aG,e3,aG,e4,aG];have hE:∃E,Nz [ep,Nk q,ed]=E/\(E≠0->AF p q x (txt ls u)=some (Ff,E))/\(E=0->Con p q x):=by
  rw[XI,errs2,←u1];unfold AF;rw[c1,aG,d1]
  by_cases h1:ep=0
  ·subst h1;simp only[ne_eq,not_true_eq_false,aR,aJ,bN,aO]
   by_cases h2:Mw q=0
   ·rw[aP (not_not_intro h2),aP (by simp[h2]),aG];refine⟨ed,rfl,λh3=>by rw[aQ (by simpa using h3)],λh3=>?_⟩;subst h3;exact⟨c3 rfl,by omega,c1,c2,d2,h2,d3 rfl,hM⟩
   ·rw[aQ h2,aQ (by simpa using h2)];exact⟨_,rfl,λ_=>rfl,λh=>absurd h h2⟩
  ·rw[aQ h1,aQ (by simpa using h1)];exact⟨_,rfl,λ_=>rfl,λh=>absurd h h1⟩
 obtain⟨E,hE,h1,h2⟩:=hE
 by_cases he:E=0
 ·obtain⟨r,r1,r2⟩:=Agz (h2 he) hz hls hu;rw[r1,aG,c2,aG,d2,aG,hE,aP (by simp[he]),r2,aG,Apa];simp[Ga]
 ·rw[h1 he,aG,c2,aG,d2,aG,hE,aQ (by simpa using he),Apa];simp[Ga]
end Go.Proofs.YthlielagemkjcaaGreatDoor
