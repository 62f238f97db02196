/- Parts of a right list of deeds,and what they are merged to. No program stands here but its twins. -/
import Derived.Test.YthlielagemkjcaaGreatDoorWk
namespace Go.Proofs.YthlielagemkjcaaGreatDoor
open Go
theorem Fm{R:Type}{c:Bool}{k:Option R}(h:c=true):Chk c k=k:=by simp[Chk,h]
theorem Hg{κ R:Type}(K:κ)(f:κ->R):Fq K f=f K:=rfl
theorem XZ{x n:Int}(hn:0<n): -n<Int.tmod x n/\Int.tmod x n<n:=by
 have h1:=Int.tmod_lt_of_pos x hn;have h2:=Int.tmod_lt_of_pos (-x) hn;rw[Int.neg_tmod] at h2;omega
theorem Aar(x n:Int)(hn:n<=4611686018427387904):∃v,Ww x n=some v/\0<=v/\(v<n\/(n<1/\v=0)):=by
 unfold Ww
 by_cases h:n<1
 ·exact⟨0,by simp[h],Int.le_refl _,.inr ⟨h,rfl⟩⟩
 ·have h1:=XZ (x:=x) (n:=n) aA;have h0:¬n=0:=by omega
  simp only[aK,h,aR,Fq];rw[Fm (by simp[h0])]
  by_cases h2:Int.tmod x n<0
  ·rw[aQ h2,Hl aA aA];exact⟨_,rfl,by omega,.inl aA⟩
  ·rw[aP h2];exact⟨_,rfl,by omega,.inl aA⟩
theorem SH(L:List Int)(a n:Int)(ha:0<=a)(ha':a<=4611686018427387904)(hL:(L.length:Int)<=9223372036854775807)(hn:n<=4611686018427387904):
 ∃v,Th L a n=some (v,a+1)/\0<=v/\(v<n\/(n<1/\v=0)):=by
 have w1:W (a+1)=a+1:=Hl aA aA;have w2:W (a+1-1)=a:=by rw[show a+1-1=a by omega];exact Hl aA aA
 unfold Th;rw[w1,w2]
 by_cases h:(L.length:Int)=0
 ·obtain⟨v,h1,h2,h3⟩:=Aar (W ((a+1)*7919)) n hn;exact⟨v,by simp[h,h1],h2,h3⟩
 ·have h0:0<(L.length:Int):=by omega
  have hm:=XZ (x:=a) h0;have hm0:0<=Int.tmod a (L.length:Int):=Int.tmod_nonneg _ ha;have hc:inB (Int.tmod a (L.length:Int)) L.length=true:=Fy.2 ⟨hm0,hm.2⟩;obtain⟨v1,e1,_,_⟩:=Aar (nth L (Int.tmod a (L.length:Int))) 1073741824 aA;simp only[aK,h,aR];rw[Fm aB,Fm aB,Fm hc,e1];simp only[aG];obtain⟨v2,e2,g1,g2⟩:=Aar (W (v1+W (W (Int.tdiv a (L.length:Int))*W (7919+Int.tmod a (L.length:Int))))) n hn;exact⟨v2,by rw[e2];rfl,g1,g2⟩
theorem Anr(L:List Int)(a:Int)(l:List Int)(ha:0<=a)(ha':a<=4611686018427387904)(hL:(L.length:Int)<=9223372036854775807)(hl:0<l.length)(hl':l.length<=1000):
 ∃v,Iz L a l=some (v,a+1)/\v∈l:=by
 obtain⟨v,h1,h2,h3⟩:=SH L a (l.length:Int) ha ha' hL aA;have h4:v<(l.length:Int):=by omega
 have hc:inB v l.length=true:=Fy.2 ⟨h2,h4⟩;unfold Iz;rw[h1];simp only[aG];rw[Fm hc];exact⟨nth l v,rfl,List.mem_of_getElem? (Gd hc).1⟩
theorem Ans(L:List Int)(a n:Int)(ha:0<=a)(ha':a<=4611686018427387904)(hL:(L.length:Int)<=9223372036854775807)(hn:n<=4611686018427387904):∃b,Oc L a n=some (b,a+1):=by
 obtain⟨v,h1,_,_⟩:=SH L a n ha ha' hL hn;unfold Oc;rw[h1];exact⟨_,rfl⟩
theorem VT{l:List UInt8}{c:UInt8}:decide (Lib.indexByte l c<0)= !l.contains c:=by
 have key:∀l:List UInt8,(Lib.indexByte l c= -1/\l.contains c=false)\/(0<=Lib.indexByte l c/\l.contains c=true):=by
  intro l
  induction l with
  |nil=>exact .inl ⟨rfl,rfl⟩
  |cons b l ih=>
   by_cases hb:b=c
   ·subst hb;exact .inr (by simp[Lib.indexByte])
   ·have hb':(b==c)=false:=by simpa using hb
    have hc:(c==b)=false:=by simpa using λh=>hb h.symm
    rcases ih with ⟨h1,h2⟩|⟨h1,h2⟩
    ·refine .inl ⟨by simp[Lib.indexByte,hb',h1],?_⟩;rw[List.contains_cons,hc,h2];rfl
    ·have h3:¬Lib.indexByte l c= -1:=by omega
     refine .inr ⟨by simp[Lib.indexByte,hb',h3];omega,?_⟩;rw[List.contains_cons,hc,h2];rfl
 rcases key l with ⟨h1,h2⟩|⟨h1,h2⟩
 ·rw[h1,h2];rfl
 ·rw[h2];simp;omega
theorem Adh(u:UInt8):((u.toNat:Int)).toNat.toUInt8=u:=by simp
theorem Zv(s:ByteArray):s.size=s.data.toList.length:=by rw[ByteArray.size,Array.length_toList]
theorem WX{s:ByteArray}{j:Nat}{u:UInt8}(h:s.data.toList[j]? =some u):LD s (j:Int)=(u.toNat:Int):=by
 unfold LD;rw[bI];simp[List.getD,h]
theorem Aql(s some_:ByteArray):∀(k:Nat) (m:Nat),k+m=s.size+1->s.size<=4611686018427387904->
 Ug s some_ (some true) (m+1) (k:Int)=some ((s.data.toList.drop k).all λb=>some_.data.toList.contains b):=by
 intro k m
 induction m generalizing k with
 |zero=>
  intro h hs;have h1:¬(k:Int)<(s.size:Int):=by omega
  rw[Ug];rw[aP (by simpa using h1),List.drop_of_length_le (by rw[←Zv];omega)];rfl
 |succ m ih=>
  intro h hs;rw[Ug]
  by_cases h1:(k:Int)<(s.size:Int)
  ·have hk:k<s.data.toList.length:=by rw[←Zv];omega
   have hget:s.data.toList[k]? =some s.data.toList[k]:=List.getElem?_eq_getElem hk;rw[aQ (aH h1),Fm (Fy.2 ⟨by omega,h1⟩),List.drop_eq_getElem_cons hk,List.all_cons];have hb:decide (Gq some_ (LD s (k:Int))<0)= !some_.data.toList.contains s.data.toList[k]:=by
    unfold Gq;rw[WX hget,Adh,VT]
   rw[hb]
   cases hc:some_.data.toList.contains s.data.toList[k] with
   |false=>simp
   |true=>
    simp only[bN,aO,aR,bO];have hw:W ((k:Int)+1)=((k+1:Nat):Int):=by rw[Hl aA aA];omega
    rw[hw];exact ih (k+1) aA hs
  ·rw[aP (by simpa using h1),List.drop_of_length_le (by rw[←Zv];omega)];rfl
theorem Ant(s some_:ByteArray)(hs:s.size<=4611686018427387904):Yu s some_=some (s.data.toList.all λb=>some_.data.toList.contains b):=by
 unfold Yu;rw[Hg];have h:=Aql s some_ 0 (s.size+1) aA hs;have e:((s.size:Int)-0).toNat+2=s.size+1+1:=by omega
 rw[e];exact h
theorem GZ{p:UInt8->Bool}:∀{l:List UInt8},l.dropWhile p=[]↔l.all p=true
 |[]=>by simp
 |a::l=>by
  rw[List.dropWhile_cons,List.all_cons]
  cases h:p a with
  |true=>simpa[h] using GZ (p:=p) (l:=l)
  |false=>simp
theorem trim_nil{l cs:List UInt8}:Lib.trimS l cs=[]↔l.all (λb=>cs.contains b)=true:=by
 unfold Lib.trimS Lib.trimLeftS Lib.trimRightS;rw[GZ,List.all_reverse];constructor
 ·intro h;have h2:l.reverse.dropWhile (λx=>cs.contains x)=[]:=by
   cases hd:l.reverse.dropWhile (λx=>cs.contains x) with
   |nil=>rfl
   |cons a r=>
    have h3:=List.head_dropWhile_not (λx=>cs.contains x) (l:=l.reverse) (by rw[hd];simp);rw[hd] at h;simp only[hd,List.head_cons] at h3;rw[List.all_cons,h3] at h
    cases h
  rw[GZ,List.all_reverse] at h2;exact h2
 ·intro h;have h2:l.reverse.dropWhile (λx=>cs.contains x)=[]:=by rw[GZ,List.all_reverse];exact h
  rw[h2];rfl
theorem Adi(u:UInt8):Js.data.toList.contains u=(decide (97<=(u.toNat:Int)) && decide ((u.toNat:Int)<=122)):=by
 have key:∀n:Fin 256,Js.data.toList.contains (UInt8.ofNat n.val)=(decide (97<=(((UInt8.ofNat n.val).toNat:Nat):Int)) && decide ((((UInt8.ofNat n.val).toNat:Nat):Int)<=122)):=by decide+kernel
 have h:=key ⟨u.toNat,u.toNat_lt⟩;simpa using h
theorem Adj:(Hx.data.toList.all λb=>decide (b.toNat<128))=true:=by decide+kernel
theorem Aqm(l:List UInt8):((⟨l.toArray⟩:ByteArray)=Ff)↔l=[]:=by
 constructor
 ·intro h;have h2:=congrArg (λb:ByteArray=>b.data.toList) h;simpa[Ff] using h2
 ·rintro rfl;rfl
theorem We(s:ByteArray):∃b,Gh s=some b/\Lu s=some b:=by
 by_cases hs:1<=s.size/\s.size<=40
 ·obtain⟨h1,h2⟩:=hs;have hsz:=Zv s;obtain⟨u,r,hl⟩:∃u r,s.data.toList=u::r:=by
   cases h:s.data.toList with
   |nil=>rw[h] at hsz;exact absurd hsz (by show ¬s.size=0;omega)
   |cons u r=>exact⟨u,r,rfl⟩
  have hin:Ik (s.size:Int) 1 40=true:=by unfold Ik;simp;omega
  have hwin:(decide (1<=(s.size:Int)) && decide ((s.size:Int)<=40))=true:=by simp;omega
  have hb0:inB 0 s.size=true:=Fy.2 ⟨by omega,by omega⟩;have hc0:Tv 0 1 s.size=true:=Lc.2 ⟨by omega,by omega,by omega⟩;have hu:LD s 0=(u.toNat:Int):=WX (j:=0) (by rw[hl];rfl);have hcut:(KY s 0 1).data.toList=[u]:=by
   unfold KY;simp[hl]
  have hcsz:(KY s 0 1).size<=4611686018427387904:=by rw[Zv,hcut];simp
  have hall:=Ant s Hx aA;have hone:=Ant (KY s 0 1) Js hcsz;rw[hcut] at hone;simp only[List.all_cons,List.all_nil,Bool.and_true,Adi] at hone;have htrim:Wg s Hx=some ⟨(Lib.trimS s.data.toList Hx.data.toList).toArray⟩:=by
   unfold Wg;rw[Fm aD,Fm (by decide+kernel),Fm Adj]
  have htr:decide ((⟨(Lib.trimS s.data.toList Hx.data.toList).toArray⟩:ByteArray)=Ff)=s.data.toList.all λb=>Hx.data.toList.contains b:=by
   rw[Bool.eq_iff_iff,aK,Aqm,trim_nil]
  refine⟨(decide (97<=(u.toNat:Int)) && decide ((u.toNat:Int)<=122)) && s.data.toList.all λb=>Hx.data.toList.contains b,?_,?_⟩
  ·unfold Gh;simp only[Hg,hwin,aS,bO,Fm hb0,hu]
   by_cases g1:97<=(u.toNat:Int)
   ·simp only[g1,aJ,aS,bO]
    by_cases g2:(u.toNat:Int)<=122
    ·simp only[g2,aJ,aS,bO,htrim,aG,htr]
    ·simp only[g2,decide_false,aO,aR,bP]
   ·simp only[g1,decide_false,aO,aR,bP]
  ·unfold Lu;simp only[Hg,hin,aS,bO,Fm hc0,hone,aG]
   cases hz:(decide (97<=(u.toNat:Int)) && decide ((u.toNat:Int)<=122)) with
   |true=>simp only[aS,hall,aG,bO]
   |false=>simp only[aO,aR,bP]
 ·refine⟨false,?_,?_⟩
  ·have hwin:(decide (1<=(s.size:Int)) && decide ((s.size:Int)<=40))=false:=by simp;omega
   unfold Gh;simp only[Hg,hwin,aO,aR,bP]
  ·have hin:Ik (s.size:Int) 1 40=false:=by unfold Ik;simp;omega
   unfold Lu;simp only[Hg,hin,aO,aR,bP]
theorem NV{κ ν:Type}[DecidableEq κ](k k':κ)(v:ν):∀(m:List (κ×ν)) (i:Nat),(Oo (Iv m k v) k' i).map (·.2)=if k'=k then some v else(Oo m k' i).map (·.2)
 |[],i=>by
  by_cases h:k'=k<;>simp[Iv,Oo,h]
 |(q,u)::m,i=>by
  by_cases h1:k=q
  ·subst h1
   by_cases h2:k'=k<;>simp[Iv,Oo,h2]
  ·by_cases h2:k'=q
   ·subst h2
    simp[Iv,Oo,h1]
    exact λh=>(h1 h.symm).elim
   ·simp only[Iv,h1,aR,Oo,h2]
    exact NV k k' v m (i+1)
theorem CW{κ ν:Type}[DecidableEq κ](m:List (κ×ν))(k k':κ)(v d:ν):Gm (Iv m k v) k' d=if k'=k then v else Gm m k' d:=by
 unfold Gm Tw;rw[NV]
 split<;>simp
theorem Ga{κ R:Type}(K:κ)(f:κ->R):Fq K f=f K:=rfl
theorem Mo{R:Type}{c:Bool}{k:Option R}(h:c=true):Chk c k=k:=by subst h;rfl
section
variable {α R:Type}
variable [Inhabited α]
theorem SI(a:List α)(y:α)(b:List α){e:Int}(he:e=(a.length:Int)):nth (a++y::b) e=y:=by
 subst he;simp[nth]
omit [Inhabited α] in
theorem cut_clr(a b:List α)(z:α):Tv (a.length:Int) ((a++b).length:Int) (a++b).length=true/\Tv 0 (a.length:Int) (clr (a++b) (a.length:Int) ((a++b).length:Int) z).length=true/\cut (clr (a++b) (a.length:Int) ((a++b).length:Int) z) 0 (a.length:Int)=a:=by
 refine⟨Lc.2 aD,Lc.2 ⟨by omega,by omega,by simp[clr];omega⟩,?_⟩;simp[cut,clr]
def AX(lt:α->α->Bool)(x:α):List α->List α
 |[]=>[x]
 |y::r=>if lt x y then y::AX lt x r else x::y::r
def DF(lt:α->α->Bool)(l rp:List α):List α:=l.foldl (λrp x=>AX lt x rp) rp
def Si(lt:α->α->Bool)(l:List α):List α:=(DF lt l []).reverse
omit [Inhabited α] in
theorem RL(lt:α->α->Bool)(x:α):∀l:List α,(AX lt x l).length=l.length+1
 |[]=>rfl
 |y::r=>by
  unfold AX
  split
  ·simp[RL lt x r]
  ·rfl
omit [Inhabited α] in
theorem NW(lt:α->α->Bool)(x z:α):∀l:List α,z∈AX lt x l↔z=x\/z∈l
 |[]=>by simp[AX]
 |y::r=>by
  unfold AX
  split
  ·simp only[bB,NW lt x z r]
   constructor
   ·rintro(h|h|h)
    ·exact .inr (.inl h)
    ·exact .inl h
    ·exact .inr (.inr h)
   ·rintro(h|h|h)
    ·exact .inr (.inl h)
    ·exact .inl h
    ·exact .inr (.inr h)
  ·simp
theorem Adk(C:α->α->(Bool->Option R)->Option R)(lt:α->α->Bool)(j:List α->Option R)(F:Nat->List α->Int->Option R)
 (h:∀m x i,F (m+1) x i=if decide (0<i) then Chk (inB i x.length) (Chk (inB (W (i-1)) x.length) (C (nth x i) (nth x (W (i-1))) (λb=>if b then
  Chk (inB (W (i-1)) x.length) (Chk (inB i x.length) (Chk (inB i x.length) (Chk (inB (W (i-1)) (x.set i.toNat (nth x (W (i-1)))).length) (F m ((x.set i.toNat (nth x (W (i-1)))).set (W (i-1)).toNat (nth x i)) (W (i-1)))))) else j x))) else j x):
 ∀(rp:List α) (x:α) (post:List α) (m:Nat),rp.length<m->rp.length+post.length<1073741824->(∀y∈rp,∀k,C x y k=k (lt x y))->
  F m (rp.reverse++x::post) (rp.length:Int)=j ((AX lt x rp).reverse++post)
 |[],x,post,m,h1,h2,_=>by
  obtain⟨m,rfl⟩:∃q,m=q+1:=⟨m-1,by omega⟩
  rw[h,aP aB]
  rfl
 |y::r,x,post,m,h1,h2,hC=>by
  obtain⟨m,rfl⟩:∃q,m=q+1:=⟨m-1,by omega⟩
  simp only[aT] at h1 h2
  have e0:(y::r).reverse++x::post=r.reverse++y::x::post:=by simp
  have e0':r.reverse++y::x::post=(r.reverse++[y])++x::post:=by simp
  have wi:W ((((y::r).length:Nat):Int)-1)=(r.length:Int):=by rw[Hl (by simp only[aT];omega) (by simp only[aT];omega)];simp
  have n1:nth (r.reverse++y::x::post) (((y::r).length:Nat):Int)=x:=by rw[e0'];exact SI _ _ _ aB
  have n2:nth (r.reverse++y::x::post) (r.length:Int)=y:=SI _ _ _ aB
  have b1:inB (((y::r).length:Nat):Int) (r.reverse++y::x::post).length=true:=Fy.2 ⟨by omega,by simp;omega⟩
  have b2:inB (r.length:Int) (r.reverse++y::x::post).length=true:=Fy.2 aD
  rw[h,e0,aQ (aH (by simp only[aT];omega)),wi,Mo b1,Mo b2,n1,n2,hC y aN]
  unfold AX
  cases hb:lt x y with
  |true=>
   simp only[aS]
   rw[Mo b2,Mo b1,Mo b1,Mo (by rw[List.length_set];exact b2)]
   have e1:((r.reverse++y::x::post).set (((y::r).length:Nat):Int).toNat y).set (r.length:Int).toNat x=r.reverse++x::(y::post):=by
    have e2:(r.reverse++y::x::post).set (((y::r).length:Nat):Int).toNat y=r.reverse++y::y::post:=by
     rw[e0',show (((y::r).length:Nat):Int).toNat=(r.reverse++[y]).length by simp,List.set_append_right _ _ (bU _)];simp
    rw[e2,show (r.length:Int).toNat=r.reverse.length by simp,List.set_append_right _ _ (bU _)];simp
   rw[e1,Adk C lt j F h r x (y::post) m aA aD (λz hz=>hC z (aM _ hz))];simp
  |false=>simp
omit [Inhabited α] in
theorem SJ(lt:α->α->Bool)(j:List α->Option R)(G:(List α->Option R)->List α->Int->Option R)(F:Nat->List α->Int->Option R)(n:Int)
 (h:∀m x i,F (m+1) x i=if decide (i<n) then G (λx=>F m x (W (i+1))) x i else j x)
 (hG:∀k (rp:List α) (x:α) (post:List α),((rp++x::post).length:Int)=n->(∀y,y∈rp\/y=x\/y∈post->y∈(rp++x::post))->G k (rp.reverse++x::post) (rp.length:Int)=k ((AX lt x rp).reverse++post)):
 ∀(rest rp:List α) (m:Nat),rest.length<m->((rp.length+rest.length:Nat):Int)=n->rp.length+rest.length<1073741824->
  F m (rp.reverse++rest) (rp.length:Int)=j (DF lt rest rp).reverse
 |[],rp,m,h1,h2,_=>by
  obtain⟨m,rfl⟩:∃q,m=q+1:=⟨m-1,by omega⟩
  rw[h,aP (by simp at h2;simp;omega)]
  simp[DF]
 |x::r,rp,m,h1,h2,h3=>by
  obtain⟨m,rfl⟩:∃q,m=q+1:=⟨m-1,by omega⟩
  simp only[aT] at h1 h2 h3
  rw[h,aQ aD,hG _ rp x r aD (λy hy=>by simpa using hy),show W ((rp.length:Int)+1)=((AX lt x rp).length:Int) by rw[Hl aA aA,RL];rfl,
   SJ lt j G F n h hG r (AX lt x rp) m aA (by rw[RL];omega) (by rw[RL];omega)]
  rfl
omit [Inhabited α] in
theorem Adl(lt:α->α->Bool)(z:α):∀l rp:List α,z∈DF lt l rp↔z∈l\/z∈rp
 |[],rp=>by simp[DF]
 |x::l,rp=>by
  show z∈DF lt l (AX lt x rp)↔_
  rw[Adl lt z l,NW]
  simp only[bB]
  constructor
  ·rintro(h|h|h)
   ·exact .inl (.inr h)
   ·exact .inl (.inl h)
   ·exact .inr h
  ·rintro((h|h)|h)
   ·exact .inr (.inl h)
   ·exact .inl h
   ·exact .inr (.inr h)
omit [Inhabited α] in
end
section
variable {α β R:Type}
def sel(P:α->Nat->Bool)(f:α->Nat->β):List α->Nat->List β
 |[],_=>[]
 |y::ys,i=>if P y i then f y i::sel P f ys (i+1) else sel P f ys (i+1)
theorem Adm(P:α->Bool)(f:α->β):∀(l:List α) (i:Nat),sel (λy _=>P y) (λy _=>f y) l i=(l.filter P).map f
 |[],_=>rfl
 |y::ys,i=>by
  unfold sel
  rw[Adm P f ys (i+1),List.filter_cons]
  split<;>rfl
theorem app_l(P:α->Nat->Bool)(f:α->Nat->β)(j:List β->Option R)(F:List α->Nat->List β->Option R)(h0:∀i x,F [] i x=j x)(l:List α)(hl:l.length<1073741824)(c0:Nat)(hc0:c0+l.length<1073741824)
 (h1:∀(dn:List α) (y:α) (ys:List α) (x:List β),l=dn++y::ys->x.length<=c0+dn.length->F (y::ys) dn.length x=if P y dn.length then Chk (Ja x.length) (F ys (dn.length+1) (x++[f y dn.length])) else F ys (dn.length+1) x):
 ∀(ys dn:List α) (x:List β),l=dn++ys->x.length<=c0+dn.length->F ys dn.length x=j (x++sel P f ys dn.length)
 |[],dn,x,_,_=>by rw[h0];simp[sel]
 |y::ys,dn,x,h,hx=>by
  have hlen:l.length=dn.length+(ys.length+1):=by rw[h];simp
  have h':l=(dn++[y])++ys:=by rw[h];simp
  have e:(dn++[y]).length=dn.length+1:=by simp
  rw[h1 dn y ys x h hx]
  unfold sel
  cases hp:P y dn.length with
  |true=>
   simp only[aS]
   rw[Mo (by unfold Ja;simp;omega)]
   have ih:=app_l P f j F h0 l hl c0 hc0 h1 ys (dn++[y]) (x++[f y dn.length]) h' (by rw[e];simp;omega)
   rw[e] at ih
   rw[ih]
   simp
  |false=>
   simp only[aO,aR]
   have ih:=app_l P f j F h0 l hl c0 hc0 h1 ys (dn++[y]) x h' (by rw[e];omega)
   rw[e] at ih
   exact ih
theorem app_0(P:α->Bool)(f:α->β)(j:List β->Option R)(F:List α->Nat->List β->Option R)(h0:∀i x,F [] i x=j x)(l:List α)(hl:l.length<1073741824)
 (h1:∀(y:α) (ys:List α) (i:Nat) (x:List β),F (y::ys) i x=if P y then Chk (Ja x.length) (F ys (i+1) (x++[f y])) else F ys (i+1) x):F l 0 []=j ((l.filter P).map f):=by
 have:=app_l (λy _=>P y) (λy _=>f y) j F h0 l hl 0 aA (λdn y ys x _ _=>h1 y ys dn.length x) l [] [] rfl aB;rw[aW,Adm] at this;exact this
variable [DecidableEq α][Inhabited α]
end
section
variable {α R:Type}[Inhabited α]
end
theorem Anu:∀l:List UInt8,Lib.compareBytes l l=0
 |[]=>rfl
 |a::l=>by
  rw[Lib.compareBytes,aP aB,aP aB];exact Anu l
theorem Anv:∀l m:List UInt8,Lib.compareBytes l m=0->l=m
 |[],[],_=>rfl
 |[],_::_,h=>by simp[Lib.compareBytes] at h
 |_::_,[],h=>by simp[Lib.compareBytes] at h
 |a::l,b::m,h=>by
  rw[Lib.compareBytes] at h
  split at h
  ·cases h
  ·split at h
   ·cases h
   ·rename_i h1 h2
    rw[UInt8.lt_iff_toNat_lt] at h1 h2
    rw[Anv l m h,show a=b from UInt8.toNat_inj.1 aA]
theorem cb_rng:∀l m:List UInt8,Lib.compareBytes l m= -1\/Lib.compareBytes l m=0\/Lib.compareBytes l m=1
 |[],[]=>.inr (.inl rfl)
 |[],_::_=>.inl rfl
 |_::_,[]=>.inr (.inr rfl)
 |a::l,b::m=>by
  rw[Lib.compareBytes]
  split
  ·exact .inl rfl
  ·split
   ·exact .inr (.inr rfl)
   ·exact cb_rng l m
theorem Anw:∀l m:List UInt8,Lib.compareBytes m l= -Lib.compareBytes l m
 |[],[]=>rfl
 |[],_::_=>rfl
 |_::_,[]=>rfl
 |a::l,b::m=>by
  rw[Lib.compareBytes,Lib.compareBytes,Anw l m]
  simp only[UInt8.lt_iff_toNat_lt]
  by_cases h1:a.toNat<b.toNat
  ·rw[aP aA,aQ h1,aQ h1];rfl
  ·by_cases h2:b.toNat<a.toNat
   ·rw[aQ h2,aP h1,aQ h2]
   ·rw[aP h2,aP h1,aP h1,aP h2]
theorem Aif:∀l m k:List UInt8,Lib.compareBytes l m<0->Lib.compareBytes m k<0->Lib.compareBytes l k<0
 |l,m,[],_,h=>by cases m<;>simp[Lib.compareBytes] at h
 |[],m,c::k,_,_=>by simp[Lib.compareBytes]
 |a::l,[],c::k,h,_=>by simp[Lib.compareBytes] at h
 |a::l,b::m,c::k,h1,h2=>by
  rw[Lib.compareBytes] at h1 h2 ⊢
  simp only[UInt8.lt_iff_toNat_lt] at h1 h2 ⊢
  by_cases g1:a.toNat<b.toNat
  ·by_cases g2:c.toNat<b.toNat
   ·rw[aP aA,aQ g2] at h2;cases h2
   ·rw[aQ aA];decide
  ·by_cases g1':b.toNat<a.toNat
   ·rw[aP g1,aQ g1'] at h1;cases h1
   ·rw[aP g1,aP g1'] at h1
    by_cases g2:b.toNat<c.toNat
    ·rw[aQ aA];decide
    ·by_cases g3:c.toNat<b.toNat
     ·rw[aP g2,aQ g3] at h2;cases h2
     ·rw[aP g2,aP g3] at h2
      rw[aP aA,aP aA]
      exact Aif l m k h1 h2
def cB(s t:ByteArray):Int:=Lib.compareBytes s.data.toList t.data.toList
theorem Ut(s:ByteArray):cB s s=0:=Anu _
theorem JI{s t:ByteArray}(h:cB s t=0):s=t:=by
 have:=Anv _ _ h
 cases s;cases t
 simpa using this
theorem cB_rng(s t:ByteArray):cB s t= -1\/cB s t=0\/cB s t=1:=cb_rng _ _
theorem FR(s t:ByteArray):cB t s= -cB s t:=Anw _ _
theorem AY{s t u:ByteArray}(h1:cB s t<0)(h2:cB t u<0):cB s u<0:=Aif _ _ _ h1 h2
def leB(s t:ByteArray):Prop:=cB s t<0\/s=t
theorem VU:∀l m:List UInt8,Op.bytesLess l m=decide (Lib.compareBytes l m<0)
 |[],[]=>rfl
 |[],_::_=>rfl
 |_::_,[]=>rfl
 |a::l,b::m=>by
  rw[Op.bytesLess,Lib.compareBytes]
  simp only[UInt8.lt_iff_toNat_lt]
  by_cases h1:a.toNat<b.toNat
  ·simp[h1]
  ·by_cases h2:b.toNat<a.toNat
   ·have:a≠b:=by rintro rfl;omega
    simp[h1,h2,this]
   ·have:a=b:=UInt8.toNat_inj.1 aA
    simp[this,VU l m]
theorem sless_cb(s t:ByteArray):XL s t=decide (cB s t<0):=by
 unfold XL cB;rw[VU,ByteArray.toList_eq,ByteArray.toList_eq]
structure DG(d:An):Prop where
 no:1<=d.No/\d.No<=1000000
 at_:0<=d.At/\d.At<345686400000
 kind:d.Kind=1\/d.Kind=2\/d.Kind=3\/d.Kind=4
 site:Gh d.Site=some true
 who:d.Kind≠4->Gh d.Who=some true/\Gh d.Race=some true
 club:d.Kind=1->d.Club=Ff\/Gh d.Club=some true
 time:d.Kind=1\/d.Kind=3->0<=d.Time/\d.Time<=360000
 fault:d.Kind=3->0<=d.Fault/\d.Fault<=8
 of_:d.Kind=4->Gh d.Of=some true/\1<=d.Other/\d.Other<=1000000
 form:d=if d.Kind=1 then An.mk d.Site d.No d.At d.Kind d.Who d.Club d.Race d.Time 0 Ff 0 else
  if d.Kind=3 then An.mk d.Site d.No d.At d.Kind d.Who Ff d.Race d.Time d.Fault Ff 0 else
  if d.Kind=4 then An.mk d.Site d.No d.At d.Kind Ff Ff Ff 0 0 d.Of d.Other else An.mk d.Site d.No d.At d.Kind d.Who Ff d.Race 0 0 Ff 0
theorem inW{n l h:Int}:Fv n l h=true↔l<=n/\n<=h:=by unfold Fv;simp
theorem Aqn(d:An):∃e,Xa d=some e/\Xi d=some e/\(e=0->DG d):=by
 obtain⟨kS,s1,s2⟩:=We d.Site;obtain⟨kW,w1,w2⟩:=We d.Who;obtain⟨kR,r1,r2⟩:=We d.Race;obtain⟨kC,c1,c2⟩:=We d.Club;obtain⟨kO,o1,o2⟩:=We d.Of;have hw:Ik=Fv:=rfl;have hm:Me d.At=Hf d.At:=by
  unfold Me Ik Hf
  congr 1
  exact decide_eq_decide.2 aA
 unfold Xa Xi;simp only[s1,s2,w1,w2,r1,r2,c1,c2,o1,o2,hw,hm,Hg,aG]
 cases kS with
 |false=>exact⟨5,by simp,by simp,λh=>by cases h⟩
 |true=>
  simp only[bN,aO,aR]
  by_cases hA:(!Fv d.No 1 1000000|| !Hf d.At)=true
  ·rw[aQ hA,aQ hA];exact⟨1,rfl,rfl,λh=>by cases h⟩
  ·rw[aP hA,aP hA];simp only[Bool.or_eq_true,not_or,Bool.not_eq_true,Bool.not_eq_false'] at hA;have hno:=inW.1 hA.1;have hat:0<=d.At/\d.At<345686400000:=by have:=hA.2;unfold Hf at this;simpa using this
   by_cases hK:(!Fv d.Kind 1 4)=true
   ·rw[aQ hK,aQ hK];exact⟨4,rfl,rfl,λh=>by cases h⟩
   ·rw[aP hK,aP hK];have hk4:d.Kind=1\/d.Kind=2\/d.Kind=3\/d.Kind=4:=by
     have:=inW.1 (by simpa using hK:Fv d.Kind 1 4=true);omega
    rcases hk4 with hk|hk|hk|hk
    ·simp only[hk,show decide ((1:Int)=3)=false from rfl,show decide ((1:Int)=4)=false from rfl]
     cases kW<;>cases kR<;>cases kC<;>cases hc:decide (d.Club=Ff)<;>cases ht:Fv d.Time 0 360000<;>cases hf:decide (d=An.mk d.Site d.No d.At 1 d.Who d.Club d.Race d.Time 0 Ff 0)<;>(try simp only[aJ,bN,Bool.not_false,bP,Bool.and_true,Bool.and_false,Bool.or_false,Bool.or_true,Bool.and_self,Bool.or_self,aS,aO,aR])<;>
      first|exact⟨5,rfl,rfl,λh=>by cases h⟩|exact⟨1,rfl,rfl,λh=>by cases h⟩|exact⟨3,rfl,rfl,λh=>by cases h⟩|
       exact⟨0,rfl,rfl,λ_=>⟨hno,hat,by omega,s1,λ_=>⟨w1,r1⟩,λ_=>by first|exact .inl (of_decide_eq_true hc)|exact .inr c1,λ_=>inW.1 ht,λh=>by omega,λh=>by omega,by rw[aQ hk,hk];exact of_decide_eq_true hf⟩⟩
    ·simp only[hk,show decide ((2:Int)=1)=false from rfl,show decide ((2:Int)=3)=false from rfl,show decide ((2:Int)=4)=false from rfl]
     cases kW<;>cases kR<;>cases hf:decide (d=An.mk d.Site d.No d.At 2 d.Who Ff d.Race 0 0 Ff 0)<;>(try simp only[bN,Bool.not_false,bP,Bool.and_true,Bool.and_false,Bool.or_false,Bool.or_true,Bool.and_self,Bool.or_self,aS,aO,aR])<;>
      first|exact⟨5,rfl,rfl,λh=>by cases h⟩|exact⟨1,rfl,rfl,λh=>by cases h⟩|exact⟨3,rfl,rfl,λh=>by cases h⟩|
       exact⟨0,rfl,rfl,λ_=>⟨hno,hat,by omega,s1,λ_=>⟨w1,r1⟩,λh=>by omega,λh=>by omega,λh=>by omega,λh=>by omega,by rw[aP aA,aP aA,aP aA,hk];exact of_decide_eq_true hf⟩⟩
    ·simp only[hk,show decide ((3:Int)=1)=false from rfl,show decide ((3:Int)=4)=false from rfl]
     cases kW<;>cases kR<;>cases ht:Fv d.Time 0 360000<;>cases hu:Fv d.Fault 0 8<;>cases hf:decide (d=An.mk d.Site d.No d.At 3 d.Who Ff d.Race d.Time d.Fault Ff 0)<;>(try simp only[aJ,bN,Bool.not_false,bP,Bool.and_true,Bool.and_false,Bool.or_false,Bool.or_true,Bool.and_self,Bool.or_self,aS,aO,aR])<;>
      first|exact⟨5,rfl,rfl,λh=>by cases h⟩|exact⟨1,rfl,rfl,λh=>by cases h⟩|exact⟨3,rfl,rfl,λh=>by cases h⟩|
       exact⟨0,rfl,rfl,λ_=>⟨hno,hat,by omega,s1,λ_=>⟨w1,r1⟩,λh=>by omega,λ_=>inW.1 ht,λ_=>inW.1 hu,λh=>by omega,by rw[aP aA,aQ hk,hk];exact of_decide_eq_true hf⟩⟩
    ·simp only[hk,show decide ((4:Int)=1)=false from rfl,show decide ((4:Int)=3)=false from rfl]
     cases kO<;>cases ho:Fv d.Other 1 1000000<;>cases hf:decide (d=An.mk d.Site d.No d.At 4 Ff Ff Ff 0 0 d.Of d.Other)<;>(try simp only[aJ,bN,Bool.not_false,bP,Bool.and_true,Bool.and_false,Bool.or_false,Bool.or_true,Bool.and_self,Bool.or_self,aS,aO,aR])<;>
      first|exact⟨5,rfl,rfl,λh=>by cases h⟩|exact⟨1,rfl,rfl,λh=>by cases h⟩|exact⟨3,rfl,rfl,λh=>by cases h⟩|
       exact⟨0,rfl,rfl,λ_=>⟨hno,hat,by omega,s1,λh=>absurd hk h,λh=>by omega,λh=>by omega,λh=>by omega,λ_=>⟨o1,inW.1 ho⟩,by rw[aP aA,aP aA,aQ hk,hk];exact of_decide_eq_true hf⟩⟩
theorem Aas(y:An):∀(l:List An) (i:Nat),decide (0<=Gu y (-1) l i)=decide (Fz y∈l.map Fz)
 |[],i=>by simp[Gu]
 |z::l,i=>by
  have ih:=Aas y l (i+1)
  rw[Gu]
  have hp:Sz z y=decide (Fz y=Fz z):=by
   unfold Sz EA Fz;rw[Bool.eq_iff_iff];simp only[bQ,aK,Fu.mk.injEq];exact⟨λh=>⟨h.1.symm,h.2.symm⟩,λh=>⟨h.1.symm,h.2.symm⟩⟩
  rw[hp]
  by_cases h:Fz y=Fz z
  ·rw[aQ (aH h),aH (show 0<=(i:Int) by omega),aH (by simp[h])]
  ·rw[aP (by simpa using h),ih];exact decide_eq_decide.2 (by simp[h])
theorem Adn(l:List An):∀(ys dn:List An),l=dn++ys->(dn.map Fz).Nodup->Nl l (some 0) ys dn.length=some (if(l.map Fz).Nodup then 0 else 6)
 |[],dn,h,hd=>by
  rw[List.append_nil] at h
  subst h
  rw[aQ hd];rfl
 |y::ys,dn,h,hd=>by
  have hlen:l.length=dn.length+(ys.length+1):=by rw[h];simp
  rw[Nl,Fm (Lc.2 aA)]
  have hc:cut l 0 (dn.length:Int)=dn:=by unfold cut;rw[h];simp
  have hq:Jw dn y=decide (Fz y∈dn.map Fz):=Aas y dn 0
  rw[hc,hq]
  by_cases hm:Fz y∈dn.map Fz
  ·rw[aQ (aH hm),aP]
   intro hn
   rw[h,List.map_append,List.nodup_append] at hn
   exact hn.2.2 _ hm _ aB rfl
  ·rw[aP (by simpa using hm)]
   have ih:=Adn l ys (dn++[y]) (by rw[h];simp) (by
    rw[List.map_append,List.nodup_append]
    refine⟨hd,by simp,?_⟩
    intro a ha b hb
    simp only[aY,List.map_nil,bA] at hb
    subst hb
    exact λe=>hm (e ▸ ha))
   rwa [aU] at ih
theorem cmpID(x y:Int):Jt x y=if x<y then -1 else if y<x then 1 else 0:=by
 unfold Jt Wn;simp
theorem orD3(a b c:Int):Ss [a,b,c]=if a≠0 then a else if b≠0 then b else c:=by
 unfold Ss;simp only[Hg,Nw]
 by_cases h1:a=0
 ·by_cases h2:b=0
  ·by_cases h3:c=0<;>simp[h1,h2,h3]
  ·simp[h1,h2]
 ·simp[h1]
theorem Aig(p q:An):Ri p q=if p.At<q.At then -1 else if q.At<p.At then 1 else if cB p.Site q.Site≠0 then cB p.Site q.Site else if p.No<q.No then -1 else if q.No<p.No then 1 else 0:=by
 unfold Ri;rw[orD3,cmpID,cmpID];have hc:Ic p.Site q.Site=cB p.Site q.Site:=rfl;rw[hc]
 by_cases h1:p.At<q.At
 ·simp[h1]
 ·by_cases h2:q.At<p.At
  ·simp[h1,h2]
  ·simp[h1,h2]
theorem orderD(p q:An)(hp:DG p)(hq:DG q):Rr p q=Ri p q:=by
 rw[Aig];have a1:=hp.no;have a2:=hp.at_;have b1:=hq.no;have b2:=hq.at_;unfold Rr Rf;have hc:Ic p.Site q.Site=cB p.Site q.Site:=rfl;have hW1:W (p.At-q.At)=p.At-q.At:=Hl aA aA;have hW2:W (p.No-q.No)=p.No-q.No:=Hl aA aA;rw[hc,hW1,hW2];simp only[aK,Bool.not_eq_true',aL]
 by_cases h1:p.At=q.At
 ·rw[aP (λh=>h h1),aP (show ¬p.At<q.At by omega),aP (show ¬q.At<p.At by omega)]
  by_cases h2:p.Site=q.Site
  ·simp only[h2,Ut,not_true_eq_false,aR,ne_eq]
   split<;>split<;>(try split)<;>(try split)<;>omega
  ·rw[aQ h2,aQ (λe=>h2 (JI e))]
 ·rw[aQ h1]
  split<;>split<;>(try split)<;>(try split)<;>omega
abbrev DAdj(l:List An):Prop:=∀d x y r,l=d++x::y::r->Ri x y<0
theorem deedsL(l:List An)(hl:l.length<=1000000)(j:List (Fu×Bool)->Bool->Option Int)(j':Option Int):∀(ys dn:List An) (m:List (Fu×Bool)) (t:Bool),l=dn++ys->(∀x∈dn,DG x)->
 (∀e,Gm m e false=decide (e∈dn.map Fz))->t=decide (¬(dn.map Fz).Nodup)->(∀d x y r,dn=d++x::y::r->Ri x y<0)->
 (∃e,e≠0/\Ks l j ys dn.length m t=some e/\Kz l j' ys dn.length=some e)\/
 (∃m',Ks l j ys dn.length m t=j m' (decide (¬(l.map Fz).Nodup))/\Kz l j' ys dn.length=j'/\(∀x∈l,DG x)/\DAdj l)
 |[],dn,m,t,h,hg,hm,ht,ha=>by
  rw[List.append_nil] at h
  subst h
  exact .inr ⟨m,by rw[Ks,ht],rfl,hg,ha⟩
 |y::ys,dn,m,t,h,hg,hm,ht,ha=>by
  have hlen:l.length=dn.length+(ys.length+1):=by rw[h];simp
  obtain⟨e,e1,e2,e3⟩:=Aqn y
  rw[Ks,Kz,e1,e2]
  simp only[aG,Hg]
  by_cases he:e=0
  ·subst he
   have hy:=e3 rfl
   simp only[aJ,bN,aO,aR]
   have go:(∀d x,dn=d++[x]->Ri x y<0)->
    (∃e,e≠0/\Ks l j ys (dn.length+1) (Iv m (Fz y) true) (t||Gm m (Fz y) false)=some e/\Kz l j' ys (dn.length+1)=some e)\/
    (∃m',Ks l j ys (dn.length+1) (Iv m (Fz y) true) (t||Gm m (Fz y) false)=j m' (decide (¬(l.map Fz).Nodup))/\Kz l j' ys (dn.length+1)=j'/\(∀x∈l,DG x)/\DAdj l):=λhadj=>by
    have:=deedsL l hl j j' ys (dn++[y]) (Iv m (Fz y) true) (t||Gm m (Fz y) false) (by rw[h];simp) (λx hx=>by
     rcases bC.1 hx with hx|hx
     ·exact hg x hx
     ·obtain rfl:=bA.1 hx;exact hy) (λe=>by
     rw[CW,hm e]
     by_cases h1:e=Fz y
     ·rw[aQ h1];exact(aH (by simp[h1])).symm
     ·rw[aP h1];exact decide_eq_decide.2 (by simp[h1])) (by
     rw[ht,hm,Bool.eq_iff_iff]
     simp only[Bool.or_eq_true,aK,List.map_append,aY,List.map_nil,List.nodup_append]
     constructor
     ·rintro(h1|h1) h2
      ·exact h1 h2.1
      ·exact h2.2.2 _ h1 _ aB rfl
     ·intro h1
      by_cases h2:(dn.map Fz).Nodup
      ·refine .inr (Classical.byContradiction λh3=>h1 ⟨h2,by simp,λa ha b hb=>?_⟩)
       obtain rfl:=bA.1 hb
       exact λe=>h3 (e ▸ ha)
      ·exact .inl h2) (λd x z r hd=>by
     rcases List.eq_nil_or_concat r with rfl|⟨r',b,rfl⟩
     ·have h1:dn++[y]=(d++[x])++[z]:=by rw[hd];simp
      obtain⟨h2,h3⟩:=List.append_inj' h1 rfl
      obtain rfl:=(List.cons.inj h3).1
      exact hadj d x h2
     ·have h1:dn++[y]=(d++x::z::r')++[b]:=by rw[hd];simp
      exact ha d x z r' (List.append_inj' h1 rfl).1)
    rwa [aU,aX] at this
   by_cases h0:(0:Int)<(dn.length:Int)
   ·obtain⟨d,x,hdx⟩:∃d x,dn=d++[x]:=by
     rcases List.eq_nil_or_concat dn with h1|⟨d,x,h1⟩
     ·rw[h1] at h0;simp at h0
     ·exact⟨d,x,by rw[h1];simp⟩
    have hdl:dn.length=d.length+1:=by rw[hdx];simp
    have hw:W ((dn.length:Int)-1)=(d.length:Int):=by rw[Hl aA aA];omega
    have hn:nth l (d.length:Int)=x:=by rw[h,hdx];unfold nth;simp
    have hx:=hg x (by rw[hdx];simp);simp only[h0,aJ,aS,hw,Fm (show inB (d.length:Int) l.length=true from Fy.2 aA),hn,orderD x y hx hy]
    by_cases hc:0<=Ri x y
    ·rw[aQ (aH hc),aQ (aH hc)];exact .inl ⟨7,by decide,rfl,rfl⟩
    ·rw[aP (by simpa using hc),aP (by simpa using hc)];refine go λd' x' h'=>?_;rw[hdx] at h';obtain⟨_,h3⟩:=List.append_inj' h' rfl;obtain rfl:=(List.cons.inj h3).1;omega
   ·simp only[h0,decide_false,aO,aR];refine go λd' x' h'=>?_;rw[h'] at h0;simp at h0
  ·rw[aQ (by simpa using he),aQ (by simpa using he)];exact .inl ⟨e,he,rfl,rfl⟩
structure DsG(l:List An):Prop where
 len:l.length<=2000
 each:∀x∈l,DG x
 adj:DAdj l
 nodup:(l.map Fz).Nodup
theorem TX(l:List An):∃e,Rj l=some e/\Ql l=some e/\(e=0->DsG l):=by
 unfold Rj Ql
 by_cases h:2000<(l.length:Int)
 ·rw[aQ (aH h),aQ (aH h)];exact⟨2,rfl,rfl,λh=>by cases h⟩
 ·rw[aP (by simpa using h),aP (by simpa using h)];simp only[Hg];have h2:=Adn l l [] rfl List.nodup_nil;rcases deedsL l aA (λx1 x2=>if x2 then some 6 else some 0) (Nl l (some 0) l 0) l [] [] false rfl aB (λe=>by simp[Gm,Tw,Oo]) aB aB with ⟨e,he,q1,q2⟩|⟨m',q1,q2,q3,q4⟩
  ·exact⟨e,q1,q2,λh=>absurd h he⟩
  ·rw[show ([]:List An).length=0 from rfl] at q1 q2 h2;rw[q1,q2,h2]
   by_cases hn:(l.map Fz).Nodup
   ·exact⟨0,by simp[hn],by simp[hn],λ_=>⟨by omega,q3,q4,hn⟩⟩
   ·exact⟨6,by simp[hn],by simp[hn],λh=>by cases h⟩
section
variable {α:Type}
theorem Ado{lt:α->α->Bool}(ht:∀x y z,lt x y=true->lt y z=true->lt x z=true)(x:α):∀rp:List α,rp.Pairwise (λa b=>lt b a=true)->(∀y∈rp,lt x y=false->lt y x=true)->(AX lt x rp).Pairwise λa b=>lt b a=true
 |[],_,_=>by simp[AX]
 |y::r,h,hx=>by
  rw[List.pairwise_cons] at h
  unfold AX
  cases hxy:lt x y with
  |true=>
   rw[aQ rfl]
   refine List.pairwise_cons.2 ⟨λz hz=>?_,Ado ht x r h.2 λz hz=>hx z (aM _ hz)⟩
   rcases(NW lt x z r).1 hz with rfl|hz
   ·exact hxy
   ·exact h.1 z hz
  |false=>
   rw[aP aB]
   have h1:=hx y aB hxy
   refine List.pairwise_cons.2 ⟨λz hz=>?_,List.pairwise_cons.2 h⟩
   rcases bB.1 hz with rfl|hz
   ·exact h1
   ·exact ht z y x (h.1 z hz) h1
theorem Aat{lt:α->α->Bool}(ht:∀x y z,lt x y=true->lt y z=true->lt x z=true):∀l rp:List α,rp.Pairwise (λa b=>lt b a=true)->(∀x∈l,∀y∈rp,lt x y=false->lt y x=true)->l.Pairwise (λa b=>lt b a=false->lt a b=true)->
 (DF lt l rp).Pairwise λa b=>lt b a=true
 |[],rp,h,_,_=>h
 |x::l,rp,h,h1,h2=>by
  rw[List.pairwise_cons] at h2
  show (DF lt l (AX lt x rp)).Pairwise _
  refine Aat ht l _ (Ado ht x rp h (h1 x aB)) (λz hz y hy=>?_) h2.2
  rcases(NW lt x y rp).1 hy with rfl|hy
  ·exact h2.1 z hz
  ·exact h1 z (aM _ hz) y hy
theorem SK{lt:α->α->Bool}(ht:∀x y z,lt x y=true->lt y z=true->lt x z=true)(l:List α)(h:l.Pairwise λa b=>lt b a=false->lt a b=true):(Si lt l).Pairwise λa b=>lt a b=true:=by
 unfold Si;rw[List.pairwise_reverse];exact Aat ht l [] List.Pairwise.nil (λ_ _ _ h=>by cases h) h
theorem JN(lt:α->α->Bool)(l:List α)(z:α):z∈Si lt l↔z∈l:=by
 unfold Si;rw[List.mem_reverse,Adl];simp
theorem Anx{lt:α->α->Bool}(hi:∀x,lt x x=false)(ht:∀x y z,lt x y=true->lt y z=true->lt x z=true):∀A B:List α,A.Pairwise (λa b=>lt a b=true)->B.Pairwise (λa b=>lt a b=true)->(∀x,x∈A↔x∈B)->A=B
 |[],[],_,_,_=>rfl
 |[],b::B,_,_,h=>by have:=(h b).2 aB;cases this
 |a::A,[],_,_,h=>by have:=(h a).1 aB;cases this
 |a::A,b::B,hA,hB,h=>by
  rw[List.pairwise_cons] at hA hB
  have hab:a=b:=by
   rcases bB.1 ((h a).1 aB) with e|h1
   ·exact e
   ·rcases bB.1 ((h b).2 aB) with e|h2
    ·exact e.symm
    ·have:=ht a b a (hA.1 b h2) (hB.1 a h1);rw[hi] at this
     cases this
  subst hab;have:A=B:=Anx hi ht A B hA.2 hB.2 λx=>by
   have hx:=h x;constructor
   ·intro hm;rcases bB.1 (hx.1 (aM _ hm)) with rfl|h3
    ·have:=hA.1 x hm;rw[hi] at this;cases this
    ·exact h3
   ·intro hm;rcases bB.1 (hx.2 (aM _ hm)) with rfl|h3
    ·have:=hB.1 x hm;rw[hi] at this;cases this
    ·exact h3
  rw[this]
theorem Aau(lt:α->α->Bool):∀l rp:List α,(DF lt l rp).length=l.length+rp.length
 |[],rp=>by simp[DF]
 |x::l,rp=>by
  show (DF lt l (AX lt x rp)).length=_
  rw[Aau lt l,RL]
  simp only[aT]
  omega
theorem OS(lt:α->α->Bool)(l:List α):(Si lt l).length=l.length:=by
 unfold Si;rw[List.length_reverse,Aau];simp
theorem RM{lt:α->α->Bool}(hi:∀x,lt x x=false)(ht:∀x y z,lt x y=true->lt y z=true->lt x z=true)(A B:List α)(h:A.Pairwise λa b=>lt b a=false->lt a b=true)(hB:B.Pairwise λa b=>lt a b=true)(hm:∀x,x∈A↔x∈B):Si lt A=B:=
 Anx hi ht _ _ (SK ht A h) hB λx=>by rw[JN,hm]
theorem TY{lt lt':α->α->Bool}(x:α):∀rp:List α,(∀y∈rp,lt x y=lt' x y)->AX lt x rp=AX lt' x rp
 |[],_=>rfl
 |y::r,h=>by
  unfold AX
  rw[h y aB,TY x r λz hz=>h z (aM _ hz)]
theorem YA{lt lt':α->α->Bool}:∀l rp:List α,(∀x∈l,∀y,y∈l\/y∈rp->lt x y=lt' x y)->DF lt l rp=DF lt' l rp
 |[],_,_=>rfl
 |x::l,rp,h=>by
  show DF lt l (AX lt x rp)=DF lt' l (AX lt' x rp)
  rw[TY x rp λy hy=>h x aB y (.inr hy)]
  refine YA l _ λz hz y hy=>h z (aM _ hz) y ?_
  rcases hy with hy|hy
  ·exact .inl (aM _ hy)
  ·rcases(NW lt' x y rp).1 hy with rfl|hy
   ·exact .inl aB
   ·exact .inr hy
theorem YB{lt lt':α->α->Bool}(l:List α)(h:∀x∈l,∀y∈l,lt x y=lt' x y):Si lt l=Si lt' l:=by
 unfold Si;rw[YA l [] λx hx y hy=>h x hx y (by rcases hy with hy|hy;exact hy;cases hy)]
theorem Adp(lt:α->α->Bool)(x:α):∀rp:List α,(AX lt x rp).Perm (x::rp)
 |[]=>List.Perm.refl _
 |y::r=>by
  unfold AX
  split
  ·exact((Adp lt x r).cons y).trans (List.Perm.swap x y r)
  ·exact List.Perm.refl _
theorem Aav(lt:α->α->Bool):∀l rp:List α,(DF lt l rp).Perm (l++rp)
 |[],_=>List.Perm.refl _
 |x::l,rp=>(Aav lt l (AX lt x rp)).trans (((Adp lt x rp).append_left l).trans List.perm_middle)
theorem TZ(lt:α->α->Bool)(l:List α):(Si lt l).Perm l:=by
 have h:=Aav lt l [];rw[List.append_nil] at h;exact(List.reverse_perm _).trans h
def nbF[DecidableEq α](p:α):List α->List α
 |[]=>[]
 |y::r=>if y=p then nbF y r else y::nbF y r
def nb[DecidableEq α]:List α->List α
 |[]=>[]
 |x::r=>x::nbF x r
variable {R:Type}[Inhabited α]
theorem YW{l:List α}{k:Nat}{y:α}(h:l[k]? =some y):nth l (k:Int)=y:=by simp[nth,List.getD,h]
theorem Afr[DecidableEq α](k n:Nat)(j:List α->Int->Option R)(F:Nat->List α->Int->Int->Option R)
 (h:∀m x2 x3 x4,F (m+1) x2 x3 x4=if decide (x4<(((n:Int).toNat-(k:Int).toNat:Nat):Int)) then
  Chk (inB x4 ((n:Int).toNat-(k:Int).toNat)) (Chk (inB (W (x4-1)) ((n:Int).toNat-(k:Int).toNat)) (if !decide ((nth (cut x2 (k:Int) (n:Int)) x4)=(nth (cut x2 (k:Int) (n:Int)) (W (x4-1)))) then
   Chk (inB x4 ((n:Int).toNat-(k:Int).toNat)) (Chk (inB x3 x2.length) (F m (x2.set x3.toNat (nth (cut x2 (k:Int) (n:Int)) x4)) (W (x3+1)) (W (x4+1))))
  else F m x2 x3 (W (x4+1)))) else j x2 x3) (hn:n<1000000000):
 ∀(rest kept mid:List α) (p:α) (m r:Nat),rest.length<m->(kept++mid++p::rest).length=n->1<=r->kept.length+mid.length=k+r-1->
  ∃mid',F m (kept++mid++p::rest) (kept.length:Int) (r:Int)=j (kept++nbF p rest++mid') ((kept++nbF p rest).length:Int)/\(kept++nbF p rest++mid').length=n
 |[],kept,mid,p,m,r,h1,h2,h3,h4=>by
  obtain⟨m,rfl⟩:∃q,m=q+1:=⟨m-1,by omega⟩
  simp only[aU,aT,aW] at h2
  rw[h,aP (by simp only[bI,aK];omega)]
  exact⟨mid++[p],by simp[nbF],by simp[nbF];omega⟩
 |y::rest,kept,mid,p,m,r,h1,h2,h3,h4=>by
  obtain⟨m,rfl⟩:∃q,m=q+1:=⟨m-1,by omega⟩
  have h2':=h2
  simp only[aU,aT] at h1 h2'
  have hk:k<=n:=by omega
  have n1:nth (cut (kept++mid++p::y::rest) (k:Int) (n:Int)) (r:Int)=y:=by
   have:(cut (kept++mid++p::y::rest) (k:Int) (n:Int))[r]? =some y:=by
    unfold cut;simp only[bI];rw[List.take_of_length_le (by rw[h2];omega),List.getElem?_drop,List.getElem?_append_right aD];have:k+r-(kept++mid).length=1:=by simp;omega
    rw[this];rfl
   exact YW this
  have n2:nth (cut (kept++mid++p::y::rest) (k:Int) (n:Int)) (W ((r:Int)-1))=p:=by
   rw[Hl aA aA];have hr:(r:Int)-1=((r-1:Nat):Int):=by omega
   rw[hr];have:(cut (kept++mid++p::y::rest) (k:Int) (n:Int))[r-1]? =some p:=by
    unfold cut;simp only[bI];rw[List.take_of_length_le (by rw[h2];omega),List.getElem?_drop,List.getElem?_append_right aD];have:k+(r-1)-(kept++mid).length=0:=by simp;omega
    rw[this];rfl
   exact YW this
  have w1:W ((r:Int)+1)=((r+1:Nat):Int):=by rw[Hl aA aA];rfl
  have w2:W ((kept.length:Int)+1)=((kept.length+1:Nat):Int):=by rw[Hl aA aA];rfl
  rw[h,aQ (by simp only[bI,aK];omega),Mo (Fy.2 (by simp only[bI];omega)),Mo (Fy.2 (by simp only[bI];rw[Hl aA aA];omega)),n1,n2,w1,w2]
  by_cases hy:y=p
  ·rw[aP (by simp[hy])];obtain⟨mid',e,e'⟩:=Afr k n j F h hn rest kept (mid++[p]) y m (r+1) aA aD aA aD;refine⟨mid',?_,?_⟩
   ·have e1:kept++(mid++[p])++y::rest=kept++mid++p::y::rest:=by simp
    rw[e1] at e;rw[e];simp[nbF,hy]
   ·rw[←e'];simp[nbF,hy]
  ·rw[aQ (by simp[hy]),Mo (Fy.2 (by simp only[bI];omega)),Mo (Fy.2 (by rw[h2];omega))]
   cases mid with
   |nil=>
    obtain⟨mid',e,e'⟩:=Afr k n j F h hn rest (kept++[y]) [] y m (r+1) aA aD aA (by simp at h4 ⊢;omega);refine⟨mid',?_,?_⟩
    ·have e1:(kept++[]++p::y::rest).set (kept.length:Int).toNat y=kept++[y]++[]++y::rest:=by simp
     rw[e1];have e2:((kept.length+1:Nat):Int)=((kept++[y]).length:Int):=by simp
     rw[e2,e];simp[nbF,hy]
    ·rw[←e'];simp[nbF,hy]
   |cons z mid0=>
    obtain⟨mid',e,e'⟩:=Afr k n j F h hn rest (kept++[y]) (mid0++[p]) y m (r+1) aA (by simp at h2' ⊢;omega) aA (by simp at h4 ⊢;omega);refine⟨mid',?_,?_⟩
    ·have e1:(kept++z::mid0++p::y::rest).set (kept.length:Int).toNat y=kept++[y]++(mid0++[p])++y::rest:=by simp
     rw[e1];have e2:((kept.length+1:Nat):Int)=((kept++[y]).length:Int):=by simp
     rw[e2,e];simp[nbF,hy]
    ·rw[←e'];simp[nbF,hy]
end
def Dr{α:Type}(a k:Int)(Q:α->Prop)(o:Option (α×Int)):Prop:=∃v b,o=some (v,b)/\a<=b/\b<=a+k/\Q v
abbrev LY(L:List Int):Prop:=(L.length:Int)<=9223372036854775807
section
variable {L:List Int}(hL:LY L){a:Int}(h0:0<=a)(h1:a<=1000000000000)
include hL h0 h1
theorem Afs(n:Int)(hn:n<=4611686018427387904):Dr a 1 (λv=>0<=v/\(v<n\/(n<1/\v=0))) (Th L a n):=by
 obtain⟨v,e,g⟩:=SH L a n h0 aA hL hn;exact⟨v,a+1,e,by omega,by omega,g⟩
theorem Ow(l:List Int)(hl:0<l.length)(hl':l.length<=1000):Dr a 1 (λv=>v∈l) (Iz L a l):=by
 obtain⟨v,e,g⟩:=Anr L a l h0 aA hL hl hl';exact⟨v,a+1,e,by omega,by omega,g⟩
theorem HA(n:Int)(hn:n<=4611686018427387904):Dr a 1 (λ_=>True) (Oc L a n):=by
 obtain⟨v,e⟩:=Ans L a n h0 aA hL hn;exact⟨v,a+1,e,by omega,by omega,trivial⟩
theorem EB(l:List ByteArray)(hl:0<l.length)(hl':l.length<=1000):Dr a 1 (λv=>v∈l) (Nd L a l):=by
 obtain⟨v,e1,h1,h2⟩:=SH L a (l.length:Int) h0 aA hL aA;have hc:inB v l.length=true:=Fy.2 ⟨h1,by omega⟩;unfold Nd;rw[e1];simp only[aG];rw[Fm hc];exact⟨nth l v,a+1,rfl,by omega,by omega,List.mem_of_getElem? (Gd hc).1⟩
theorem FT(low high:Int)(h2: -1000000000000<=low)(h3:low<=1000000000000)(h4:high<=1000000000000):Dr a 1 (λv=>low<=v/\(v<=high\/v=low)) (Nj L a low high):=by
 unfold Nj
 by_cases h:high<low
 ·exact⟨low,a,by simp[h],by omega,by omega,by omega,.inr rfl⟩
 ·have w1:W (high-low)=high-low:=Hl aA aA;have w2:W (high-low+1)=high-low+1:=Hl aA aA;obtain⟨v,e,g1,g2⟩:=SH L a (high-low+1) h0 aA hL aA;rw[aP (by simpa using h),w1,w2,e];have w3:W (low+v)=low+v:=Hl aA aA;exact⟨_,_,rfl,by show a<=a+1;omega,by show a+1<=a+1;omega,by simp only[w3];omega⟩
theorem DN(low high:Int)(h2: -1000000000000<=low)(h3:low<=1000000000000)(h4:high<=1000000000000):Dr a 2 (λ_=>True) (Mv L a low high):=by
 obtain⟨b,e1⟩:=Ans L a 12 h0 aA hL aA;unfold Mv;rw[e1];simp only[aG]
 cases b with
 |true=>
  obtain⟨v,e,_⟩:=Anr L (a+1) [W (low-1),W (high+1),low,high,(-1099511627776),1099511627776] aA aA hL aB aB;rw[aQ rfl,e];exact⟨_,_,rfl,by show a<=a+1+1;omega,by show a+1+1<=a+2;omega,trivial⟩
 |false=>
  unfold Nj
  by_cases h:high<low
  ·rw[aP aB,aQ (by simpa using h)];exact⟨_,_,rfl,by show a<=a+1;omega,by show a+1<=a+2;omega,trivial⟩
  ·have w1:W (high-low)=high-low:=Hl aA aA;have w2:W (high-low+1)=high-low+1:=Hl aA aA;obtain⟨v,e,g1,g2⟩:=SH L (a+1) (high-low+1) aA aA hL aA;rw[aP aB,aP (by simpa using h),w1,w2,e];exact⟨_,_,rfl,by show a<=a+1+1;omega,by show a+1+1<=a+2;omega,trivial⟩
end
def ltD(x y:An):Bool:=decide (Ri x y<0)
def ltR(x y:An):Bool:=decide (Rr x y<0)
theorem Alm(l:List An)(hl:l.length<=19):Hv l=some (Si ltR l):=by
 have hs:Ha l 0 (l.length:Int)=some (Si ltR l):=by
  unfold Ha;simp only[Ga];have hins:∀(k:List An->Option (List An)) (rp:List An) (x:An) (post:List An),((rp++x::post).length:Int)=(l.length:Int)->(∀y,y∈rp\/y=x\/y∈post->y∈(rp++x::post))->
   Gk 0 k (((rp.length:Int)-0).toNat+2) (rp.reverse++x::post) (rp.length:Int)=k ((AX ltR x rp).reverse++post):=by
   intro k rp x post h1 _;exact Adk (λx y k=>k (ltR x y)) ltR k (Gk 0 k) (λ_ _ _=>rfl) rp x post _ aA (by simp at h1;omega) λy _ k'=>rfl
  cases l with
  |nil=>rfl
  |cons x l=>
   have hw:W (0+1)=(([x]:List An).length:Int):=rfl;rw[hw];exact SJ ltR (λx=>some x) (λk x i=>Gk 0 k ((i-0).toNat+2) x i) (Hp ((x::l).length:Int) 0 λx=>some x) ((x::l).length:Int) (λ_ _ _=>rfl)
    (λk rp x post h1 h2=>hins k rp x post h1 h2) l [x] _ (by simp only[aT,aW];omega) (by simp only[aT,aW];omega) (by simp only[aT,aW] at hl ⊢;omega)
 unfold Hv Kh;simp only[Ga];rw[Ip,aP aD,hs];simp only[aG];rw[Iq,aP aD];rfl
theorem Anz(p q:An):ltD p q=true↔p.At<q.At\/(p.At=q.At/\(cB p.Site q.Site<0\/(p.Site=q.Site/\p.No<q.No))):=by
 unfold ltD;rw[aK,Aig];rcases cB_rng p.Site q.Site with h|h|h
 ·have hne:p.Site≠q.Site:=λe=>by rw[e,Ut] at h;omega
  simp only[h,hne,false_and,or_false]
  split<;>(try split)<;>(try split)<;>omega
 ·have he:p.Site=q.Site:=JI h;simp only[he,Ut,true_and,ne_eq,not_true_eq_false,aR,Int.lt_irrefl,false_or]
  split<;>(try split)<;>(try split)<;>(try split)<;>omega
 ·have hne:p.Site≠q.Site:=λe=>by rw[e,Ut] at h;omega
  simp only[h,hne,false_and,or_false]
  split<;>(try split)<;>(try split)<;>omega
theorem Aqo(p q r:An)(h1:ltD p q=true)(h2:ltD q r=true):ltD p r=true:=by
 rw[Anz] at*;rcases h1 with h1|⟨a1,h1⟩<;>rcases h2 with h2|⟨a2,h2⟩
 ·exact .inl aA
 ·exact .inl aA
 ·exact .inl aA
 ·refine .inr ⟨by omega,?_⟩;rcases h1 with h1|⟨b1,h1⟩<;>rcases h2 with h2|⟨b2,h2⟩
  ·exact .inl (AY h1 h2)
  ·exact .inl (by rw[←b2];exact h1)
  ·exact .inl (by rw[b1];exact h2)
  ·exact .inr ⟨b1.trans b2,by omega⟩
theorem DAdj.up:∀{l:List An},DAdj l->l.Pairwise λa b=>ltD a b=true
 |[],_=>List.Pairwise.nil
 |[x],_=>List.pairwise_singleton _ _
 |x::y::l,h=>by
  have h1:=DAdj.up (l:=y::l) (λd p q r e=>h (x::d) p q r (by rw[e];rfl))
  have h2:ltD x y=true:=aH (h [] x y l rfl)
  refine List.pairwise_cons.2 ⟨λz hz=>?_,h1⟩
  rcases bB.1 hz with rfl|hz
  ·exact h2
  ·exact Aqo _ _ _ h2 ((List.pairwise_cons.1 h1).1 z hz)
theorem up_DAdj{l:List An}(h:l.Pairwise λa b=>ltD a b=true):DAdj l:=by
 intro d x y r e;subst e;have h1:=(bK.1 h).2.1;exact of_decide_eq_true ((List.pairwise_cons.1 h1).1 y aN)
def ltW(x y:An):Bool:=decide (Zh x y<0)
theorem UA(x y:An):ltW x y=decide (cB x.Who y.Who<0):=rfl
theorem Aft(x:An):ltW x x=false:=by rw[UA,Ut];rfl
theorem SL(x y z:An)(h1:ltW x y=true)(h2:ltW y z=true):ltW x z=true:=by
 rw[UA,aK] at*;exact AY h1 h2
theorem YX{l:List An}(h:(l.map (·.Who)).Nodup):l.Pairwise λa b=>ltW b a=false->ltW a b=true:=by
 refine(List.pairwise_map.1 h).imp λ{a b} hne hb=>?_;rw[UA,aL] at hb;rw[UA,aK];have h0:cB a.Who b.Who≠0:=λe=>hne (JI e);have:=FR a.Who b.Who;omega
theorem Aoa(P:List Int)(v:Int)(Q:List Int):nth (P++v::Q) (P.length:Int)=v:=by unfold nth;simp
theorem Aob(P:List Int)(v u:Int)(Q:List Int):(P++v::Q).set P.length u=P++u::Q:=by simp
theorem rev_l(j:List Int->Option (List Int)):∀(k m:Nat) (A M B:List Int),M.length<=k->M.length<m->A.length+M.length+B.length<=1000000->
 Rd j m (A++(M++B)) (A.length:Int) ((A.length:Int)+(M.length:Int)-1)=j (A++(M.reverse++B))
 |k,0,A,M,B,_,h,_=>by omega
 |k,m+1,A,M,B,hk,hm,hl=>by
  rw[Rd]
  match M,hk,hm,hl with
  |[],_,_,_=>rw[aP aD];rfl
  |[z],_,_,_=>rw[aP aB];rfl
  |a::z::M1,hk,hm,hl=>
   obtain⟨M2,b,hM⟩:∃M2 b,z::M1=M2++[b]:=by
    rcases List.eq_nil_or_concat (z::M1) with h|⟨M2,b,h⟩
    ·cases h
    ·exact⟨M2,b,by rw[h];simp⟩
   rw[hM] at hk hm hl ⊢;simp only[aT,aU,aW] at hk hm hl ⊢;have hlen:(A++(a::(M2++[b])++B)).length=A.length+M2.length+2+B.length:=by simp;omega
   have e3:(A.length:Int)+((M2.length+(0+1)+1:Nat):Int)-1=((A.length+M2.length+1:Nat):Int):=by omega
   rw[e3,aQ (aH aA)];have n2:nth (A++(a::(M2++[b])++B)) (A.length:Int)=a:=by rw[List.cons_append];exact Aoa _ _ _
   have h1:A++(a::(M2++[b])++B)=(A++a::M2)++b::B:=by simp
   have h2:(A++a::M2).length=A.length+M2.length+1:=by simp;omega
   have n3:nth (A++(a::(M2++[b])++B)) ((A.length+M2.length+1:Nat):Int)=b:=by
    rw[h1,←h2];exact Aoa _ _ _
   have hs:((A++(a::(M2++[b])++B)).set ((A.length:Int)).toNat b).set (((A.length+M2.length+1:Nat):Int)).toNat a=(A++[b])++(M2++(a::B)):=by
    rw[bI,bI];have q1:(A++(a::(M2++[b])++B)).set A.length b=(A++b::M2)++b::B:=by
     rw[List.cons_append,Aob];simp
    have q2:(A++b::M2).length=A.length+M2.length+1:=by simp;omega
    rw[q1,←q2,Aob];simp
   rw[Fm (Fy.2 aA),Fm (Fy.2 aA),Fm (Fy.2 aA),Fm (Fy.2 (by rw[List.length_set];omega)),n2,n3,hs,Hl aA aA,Hl aA aA];have ih:=rev_l j (k-2) m (A++[b]) M2 (a::B) aA aA aD;have e1:(((A++[b]).length:Nat):Int)=(A.length:Int)+1:=by simp
   rw[e1] at ih;have e2:(A.length:Int)+1+(M2.length:Int)-1=((A.length+M2.length+1:Nat):Int)-1:=by omega
   rw[e2] at ih;rw[ih];simp
theorem UB(l:List Int)(hl:l.length<=1000000):Pd l=some l.reverse:=by
 unfold Pd;rw[Hg,Hl aA aA];have h:=rev_l (λx=>some x) l.length (((l.length:Int)-1-0).toNat+2) [] l [] (bU _) aA aD;simpa using h
theorem Aqp(l:List An):(List.range l.length).map (fun(i:Nat)=>nth l (i:Int))=l:=by
 apply List.ext_getElem
 ·simp
 ·intro i h1 h2;simp[nth,List.getD,List.getElem?_eq_getElem h2]
theorem DG.chk{d:An}(h:DG d):Xa d=some 0:=by
 have hno:=inW.2 h.no;have hat:Hf d.At=true:=by unfold Hf;simpa using h.at_
 have hkd:Fv d.Kind 1 4=true:=inW.2 (by rcases h.kind with h|h|h|h<;>omega);have hf:=h.form;obtain⟨kW,w1,_⟩:=We d.Who;obtain⟨kR,r1,_⟩:=We d.Race;obtain⟨kC,c1,_⟩:=We d.Club;obtain⟨kO,o1,_⟩:=We d.Of;unfold Xa;simp only[h.site,w1,r1,c1,o1,aG,hno,hat,hkd,Hg,bN,Bool.or_self,aO,aR];rcases h.kind with hk|hk|hk|hk
 ·rw[aQ hk,hk] at hf;obtain⟨q1,q2⟩:=h.who aA;obtain rfl:kW=true:=bH (w1.symm.trans q1);obtain rfl:kR=true:=bH (r1.symm.trans q2);have ht:=inW.2 (h.time (.inl hk));have hc:(!decide (d.Club=Ff) && !kC)=false:=by
   rcases h.club hk with hc|hc
   ·rw[hc];rfl
   ·obtain rfl:kC=true:=bH (c1.symm.trans hc);simp
  have hd:=aH hf;simp only[hk,hd,ht,hc,show decide ((1:Int)=3)=false from rfl,show decide ((1:Int)=4)=false from rfl,aJ,bN,Bool.not_false,bO,bP,Bool.and_true,Bool.and_false,Bool.or_false,Bool.or_true,Bool.and_self,Bool.or_self,aS,aO,aR]
  cases decide (d.Club=Ff)<;>simp only[bN,Bool.not_false,aS,aO,aR]
 ·rw[aP aA,aP aA,aP aA,hk] at hf;obtain⟨q1,q2⟩:=h.who aA;obtain rfl:kW=true:=bH (w1.symm.trans q1);obtain rfl:kR=true:=bH (r1.symm.trans q2);have hd:=aH hf;simp only[hk,hd,bN,show decide ((2:Int)=1)=false from rfl,show decide ((2:Int)=3)=false from rfl,show decide ((2:Int)=4)=false from rfl,bN,Bool.not_false,bP,Bool.and_true,Bool.and_false,Bool.or_true,Bool.and_self,Bool.or_self,aS,aO,aR]
 ·rw[aP aA,aQ hk,hk] at hf;obtain⟨q1,q2⟩:=h.who aA;obtain rfl:kW=true:=bH (w1.symm.trans q1);obtain rfl:kR=true:=bH (r1.symm.trans q2);have ht:=inW.2 (h.time (.inr hk));have hu:=inW.2 (h.fault hk);have hd:=aH hf;simp only[hk,hd,ht,hu,show decide ((3:Int)=1)=false from rfl,show decide ((3:Int)=4)=false from rfl,aJ,bN,Bool.not_false,bP,Bool.and_true,Bool.and_false,Bool.or_true,Bool.and_self,Bool.or_self,aS,aO,aR]
 ·rw[aP aA,aP aA,aQ hk,hk] at hf;obtain⟨q1,q2⟩:=h.of_ hk;obtain rfl:kO=true:=bH (o1.symm.trans q1);have hu:=inW.2 q2;have hd:=aH hf;simp only[hk,hd,hu,show decide ((4:Int)=1)=false from rfl,show decide ((4:Int)=3)=false from rfl,aJ,bN,bP,Bool.and_true,Bool.and_false,Bool.or_true,Bool.and_self,Bool.or_self,aS,aO,aR]
theorem DsG.sub{x p:List An}(h:DsG x)(s:p.Sublist x):DsG p:=
 ⟨Nat.le_trans s.length_le h.len,λy hy=>h.each y (s.subset hy),up_DAdj (h.adj.up.sublist s),h.nodup.sublist (s.map _)⟩
theorem chk_l(l:List An)(h:DsG l)(j:List (Fu×Bool)->Bool->Option Int):∀(ys dn:List An) (m:List (Fu×Bool)),l=dn++ys->(∀e,Gm m e false=decide (e∈dn.map Fz))->
 ∃m',Ks l j ys dn.length m false=j m' false
 |[],dn,m,_,_=>⟨m,rfl⟩
 |y::ys,dn,m,hd,hm=>by
  have hl:=h.len
  have hlen:l.length=dn.length+(ys.length+1):=by rw[hd];simp
  have hy:=(h.each y (by rw[hd];simp)).chk
  have hns:Fz y∉dn.map Fz:=λhin=>by
   have hn:=h.nodup
   rw[hd,List.map_append,List.nodup_append] at hn
   exact hn.2.2 _ hin _ aB rfl
  obtain⟨m',e⟩:=chk_l l h j ys (dn++[y]) (Iv m (Fz y) true) (by rw[hd];simp) (λe=>by
   rw[CW,hm e]
   by_cases h1:e=Fz y
   ·rw[aQ h1];exact(aH (by simp[h1])).symm
   ·rw[aP h1];exact decide_eq_decide.2 (by simp[h1]))
  rw[aU,aX] at e
  refine⟨m',?_⟩
  rw[Ks,hy]
  simp only[aG,Hg,aJ,bN,aO,aR,hm,aI hns,Bool.or_self]
  by_cases h0:(0:Int)<(dn.length:Int)
  ·obtain⟨d,x,hdx⟩:∃d x,dn=d++[x]:=by
    rcases List.eq_nil_or_concat dn with h1|⟨d,x,h1⟩
    ·rw[h1] at h0;simp at h0
    ·exact⟨d,x,by rw[h1];simp⟩
   have hdl:dn.length=d.length+1:=by rw[hdx];simp
   have hw:W ((dn.length:Int)-1)=(d.length:Int):=by rw[Hl aA aA];omega
   have hn:nth l (d.length:Int)=x:=by rw[hd,hdx];unfold nth;simp
   have hc:¬0<=Ri x y:=by
    have:=h.adj d x y ys (by rw[hd,hdx];simp);omega
   simp only[h0,aJ,aS,hw,Fm (show inB (d.length:Int) l.length=true from Fy.2 aA),hn,hc,decide_false,aO,aR];exact e
  ·simp only[h0,decide_false,aO,aR];exact e
theorem DsG.chk{l:List An}(h:DsG l):Rj l=some 0:=by
 have hl:=h.len;unfold Rj;rw[aP aD];simp only[Hg];obtain⟨m',e⟩:=chk_l l h (λx1 x2=>if x2 then some 6 else some 0) l [] [] rfl (λe=>by simp[Gm,Tw,Oo]);rw[show ([]:List An).length=0 from rfl] at e;rw[e];rfl
end Go.Proofs.YthlielagemkjcaaGreatDoor
