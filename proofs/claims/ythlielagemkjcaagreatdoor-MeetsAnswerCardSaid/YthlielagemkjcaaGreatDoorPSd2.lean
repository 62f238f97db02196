/- The lanes of a pool and how many swim in each heat: the program's are the reference's. Conditions: a right pool,at most 300 swimmers. No program stands here but its twins. -/
import Derived.Test.YthlielagemkjcaaGreatDoorPMs2
namespace Go.Proofs.YthlielagemkjcaaGreatDoor
open Go
def val(f:Fh):Nat:=(f.Num*60 / f.Den).toNat
def sumM(m:List (ByteArray×Nat)):Nat:=(m.map (·.2)).sum
theorem Aek{ν:Type}(k:ByteArray)(v:ν):∀(m:List (ByteArray×ν)),(m.map (·.1)).Nodup->((Iv m k v).map (·.1)).Nodup/\∀z,z∈(Iv m k v).map (·.1)↔z=k\/z∈m.map (·.1)
 |[],_=>by simp[Iv]
 |(k',v')::m,h=>by
  rw[aY,bT] at h
  simp only[Iv]
  split
  ·rename_i e
   subst e
   refine⟨by rw[aY,bT];exact h,λz=>?_⟩
   simp only[aY,bB]
   constructor
   ·rintro(h|h)
    ·exact .inl h
    ·exact .inr (.inr h)
   ·rintro(h|h|h)
    ·exact .inl h
    ·exact .inl h
    ·exact .inr h
  ·rename_i hne
   obtain⟨h1,h2⟩:=Aek k v m h.2
   rw[aY,bT]
   refine⟨⟨λhm=>?_,h1⟩,λz=>?_⟩
   ·rcases(h2 _).1 hm with e|hm
    ·exact hne e.symm
    ·exact h.1 hm
   ·simp only[aY,bB,h2 z]
    constructor
    ·rintro(h|h|h)
     ·exact .inr (.inl h)
     ·exact .inl h
     ·exact .inr (.inr h)
    ·rintro(h|h|h)
     ·exact .inr (.inl h)
     ·exact .inl h
     ·exact .inr (.inr h)
structure MOk(m:List (ByteArray×Nat))(S:Nat):Prop where
 nodup:(m.map (·.1)).Nodup
 club:∀k∈m.map (·.1),k∈clubP/\k≠Ff
 sum:sumM m=S
def gm(p:ByteArray×Fh):Fx:=Fx.mk p.1 p.2
theorem comp1(s:List ByteArray)(hs:s.length<=1000000):∀(ys dn:List ByteArray) (p:ByteArray) (m:Nat),s=dn++p::ys->ys.length<m->Lg s (some s) m ((dn.length+1:Nat):Int)=some (dn++p::nbF p ys)
 |[],dn,p,m,e,h1=>by
  obtain⟨m,rfl⟩:∃q,m=q+1:=⟨m-1,by omega⟩
  have hlen:s.length=dn.length+1:=by rw[e];simp
  rw[Lg,aP (by simp only[aK];omega)]
  simp[nbF,←e]
 |y::ys,dn,p,m,e,h1=>by
  obtain⟨m,rfl⟩:∃q,m=q+1:=⟨m-1,by omega⟩
  simp only[aT] at h1
  have hlen:s.length=dn.length+(ys.length+1+1):=by rw[e];simp
  have w1:W (((dn.length+1:Nat):Int)-1)=(dn.length:Int):=by rw[Hl aA aA];omega
  have n1:nth s (dn.length:Int)=p:=YW (by rw[e];simp)
  have n2:nth s ((dn.length+1:Nat):Int)=y:=YW (by rw[e,List.getElem?_append_right aA];simp)
  rw[Lg,aQ (by simp only[aK];omega),w1,Mo (Fy.2 aA),Mo (Fy.2 aA),n1,n2]
  by_cases hy:y=p
  ·rw[aQ (aH hy),Mo (Lc.2 aA),Ga]
   obtain⟨mid,e1,e2⟩:=Afr (dn.length+1) s.length _ (Ob s ((dn.length+1:Nat):Int) (fun(x2:List ByteArray) (x3:Int)=>Chk (Tv x3 (x2.length:Int) x2.length) (Chk (Tv 0 x3 (clr x2 x3 (x2.length:Int) Ff).length) (some (cut (clr x2 x3 (x2.length:Int) Ff) (0:Int) x3)))))
    (λ_ _ _ _=>rfl) aA ys (dn++[p]) [] y (((((s.length:Int).toNat-((dn.length+1:Nat):Int).toNat:Nat):Int)-1).toNat+2) 1 (by simp only[bI];omega) aD aA aB
   have e3:dn++[p]++[]++y::ys=s:=by rw[e];simp
   have e4:((dn++[p]).length:Int)=((dn.length+1:Nat):Int):=by simp
   rw[e3,e4] at e1
   refine e1.trans ?_
   obtain⟨c1,c2,c3⟩:=cut_clr (dn++[p]++nbF y ys) mid Ff
   rw[Mo c1,Mo c2,c3]
   simp[nbF,hy]
  ·rw[aP (by simpa using hy)]
   have w2:W (((dn.length+1:Nat):Int)+1)=(((dn++[p]).length+1:Nat):Int):=by rw[Hl aA aA];simp
   rw[w2,comp1 s hs ys (dn++[p]) y m (by rw[e];simp) aA]
   simp[nbF,hy]
theorem Amh(s:List ByteArray)(hs:s.length<=1000000):Tr s=some (nb s):=by
 unfold Tr
 cases s with
 |nil=>rfl
 |cons p ys=>
  by_cases h:((p::ys).length:Int)<2
  ·have:ys=[]:=List.eq_nil_of_length_eq_zero (by simp at h;omega);subst this;rfl
  ·rw[aP (by simpa using h),Ga];have:=comp1 (p::ys) hs ys [] p ((((p::ys).length:Int)-1).toNat+2) rfl aB;simpa[nb] using this
theorem Agk{α:Type}[DecidableEq α]:∀(r:List α) (p x:α),x∈nbF p r->x∈r
 |[],_,_,h=>by cases h
 |y::r,p,x,h=>by
  unfold nbF at h
  split at h
  ·exact aM _ (Agk r y x h)
  ·rcases bB.1 h with rfl|h
   ·simp
   ·exact aM _ (Agk r y x h)
theorem Aoy{α:Type}[DecidableEq α]:∀(r:List α) (p x:α),x∈r->x=p\/x∈nbF p r
 |[],_,_,h=>by cases h
 |y::r,p,x,h=>by
  unfold nbF
  rcases bB.1 h with rfl|h
  ·split
   ·rename_i e;exact .inl e
   ·exact .inr aB
  ·rcases Aoy r y x h with rfl|h2
   ·split
    ·rename_i e;exact .inl e
    ·exact .inr aB
   ·split
    ·exact .inr h2
    ·exact .inr (aM _ h2)
theorem nbF_up:∀(r:List ByteArray) (p:ByteArray),(p::r).Pairwise leB->(p::nbF p r).Pairwise λa b=>cB a b<0
 |[],p,_=>by simp[nbF]
 |y::r,p,h=>by
  rw[List.pairwise_cons] at h
  have hy:=h.1 y aB
  have ih:=nbF_up r y h.2
  unfold nbF
  by_cases e:y=p
  ·rw[aQ e]
   rw[e] at ih ⊢
   exact ih
  ·rw[aP e]
   have h1:cB p y<0:=by
    rcases hy with h|h
    ·exact h
    ·exact absurd h.symm e
   refine List.pairwise_cons.2 ⟨λz hz=>?_,ih⟩;rcases bB.1 hz with rfl|hz
   ·exact h1
   ·rw[List.pairwise_cons] at ih;exact AY h1 (ih.1 z hz)
theorem cb_le:∀(a b:List UInt8),a<=b->Lib.compareBytes a b<=0
 |[],[],_=>by simp[Lib.compareBytes]
 |[],_::_,_=>by simp[Lib.compareBytes]
 |x::a,[],h=>by
  exact absurd h aB
 |x::a,y::b,h=>by
  rw[Lib.compareBytes]
  rw[List.cons_le_cons_iff] at h
  rcases h with h|⟨rfl,h⟩
  ·rw[aQ h];omega
  ·rw[aP (UInt8.lt_irrefl _),aP (UInt8.lt_irrefl _)]
   exact cb_le a b h
theorem WG(l:List ByteArray):(Uz l).Pairwise leB/\∀x,x∈Uz l↔x∈l:=by
 unfold Uz;constructor
 ·rw[List.pairwise_map];refine(List.pairwise_mergeSort (le:=λx y=>decide (x<=y)) (λa b c h1 h2=>by
   rw[aK] at*;exact List.le_trans h1 h2) (λa b=>by
   rcases List.le_total a b with h|h<;>simp[h]) _).imp ?_
  intro a b h;have:=cb_le a b (of_decide_eq_true h);have e:cB (⟨a.toArray⟩:ByteArray) ⟨b.toArray⟩=Lib.compareBytes a b:=rfl;rcases Int.lt_or_eq_of_le this with h1|h1
  ·exact .inl (by rw[e];exact h1)
  ·exact .inr (JI (by rw[e];exact h1))
 ·intro x;rw[bD];constructor
  ·rintro⟨a,ha,rfl⟩;rw[List.mem_mergeSort,bD] at ha;obtain⟨y,hy,rfl⟩:=ha;exact hy
  ·intro hx;exact⟨x.data.toList,by rw[List.mem_mergeSort];exact bD.2 ⟨x,hx,rfl⟩,rfl⟩
def OX(l:List ByteArray):List ByteArray:=nb (Uz l)
theorem Aoz(l:List ByteArray):(OX l).Pairwise (λa b=>cB a b<0):=by
 unfold OX;have h:=(WG l).1
 cases e:Uz l with
 |nil=>exact List.Pairwise.nil
 |cons p r=>rw[e] at h;exact nbF_up r p h
theorem WH(l:List ByteArray)(x:ByteArray):x∈OX l↔x∈l:=by
 rw[←(WG l).2 x];unfold OX
 cases e:Uz l with
 |nil=>exact Iff.rfl
 |cons p r=>
  show x∈p::nbF p r↔x∈p::r;constructor
  ·intro h;rcases bB.1 h with rfl|h
   ·simp
   ·exact aM _ (Agk r p x h)
  ·intro h;rcases bB.1 h with rfl|h
   ·simp
   ·rcases Aoy r p x h with rfl|h
    ·simp
    ·exact aM _ h
theorem Agl{ν:Type}(d:ν):∀(m:List (ByteArray×ν)),(m.map (·.1)).Nodup->∀k v,(k,v)∈m↔k∈m.map (·.1)/\Gm m k d=v
 |[],_,k,v=>by simp
 |p::m,h,k,v=>by
  rw[aY,bT] at h
  have idx:∀(m:List (ByteArray×ν)) (i j:Nat),(Oo m k i).map (·.2)=(Oo m k j).map (·.2):=by
   intro m
   induction m with
   |nil=>intros;rfl
   |cons q m ih=>
    intro i j;obtain⟨a,b⟩:=q;unfold Oo
    split
    ·rfl
    ·exact ih _ _
  obtain⟨a,b⟩:=p;have hg:Gm ((a,b)::m) k d=if k=a then b else Gm m k d:=by
   unfold Gm Tw;rw[Oo]
   split
   ·rfl
   ·rw[idx m (0+1) 0]
  rw[hg];have ih:=Agl d m h.2 k v
  by_cases e:k=a
  ·subst e;rw[aQ rfl];constructor
   ·intro hm;rcases bB.1 hm with hm|hm
    ·injection hm with _ e2;exact⟨by simp,e2.symm⟩
    ·exact(h.1 (bD.2 ⟨_,hm,rfl⟩)).elim
   ·rintro⟨_,rfl⟩;simp
  ·rw[aP e];constructor
   ·intro hm;rcases bB.1 hm with hm|hm
    ·injection hm with e1 _;exact(e e1).elim
    ·exact⟨aM _ (ih.1 hm).1,(ih.1 hm).2⟩
   ·rintro⟨h1,h2⟩;rcases bB.1 h1 with h1|h1
    ·exact(e h1).elim
    ·exact aM _ (ih.2 ⟨h1,h2⟩)
structure MS(m:List (ByteArray×Fh))(K:ByteArray->Prop)(u:ByteArray->Nat):Prop where
 nd:(m.map (·.1)).Nodup
 keys:∀k,k∈m.map (·.1)↔K k
 vals:∀k,K k->Gm m k (Fh.mk 0 0)=frB (u k)
theorem MS.put{m:List (ByteArray×Fh)}{K:ByteArray->Prop}{u:ByteArray->Nat}(h:MS m K u)(k:ByteArray)(v:Nat):MS (Iv m k (frB v)) (λz=>z=k\/K z) (λz=>if z=k then v else u z):=by
 obtain⟨a,b⟩:=Aek k (frB v) m h.nd;refine⟨a,λz=>by rw[b z,h.keys z],λz hz=>?_⟩;rw[CW]
 by_cases e:z=k
 ·rw[aQ e,aQ e]
 ·rw[aP e,aP e];rcases hz with hz|hz
  ·exact(e hz).elim
  ·exact h.vals z hz
theorem MS.congr{m:List (ByteArray×Fh)}{K K':ByteArray->Prop}{u u':ByteArray->Nat}(h:MS m K u)(hk:∀k,K k↔K' k)(hu:∀k,K' k->u k=u' k):MS m K' u':=
 ⟨h.nd,λk=>(h.keys k).trans (hk k),λk hk'=>by rw[h.vals k ((hk k).2 hk'),hu k hk']⟩
theorem add_frC{u v:Nat}(hu:u<=1000000000000)(hv:v<=1000000000000):QV (frB u) (frB v)=some (frB (u+v)):=by
 obtain⟨n,d,e1,d1,d2,n1,p1⟩:=OF u;obtain⟨m,e,e2,d3,d4,m1,p2⟩:=OF v;unfold QV;rw[e1,e2];simp only;have b1:=OW (a:=n) (b:=e) aA d4;have b2:=OW (a:=m) (b:=d) aA d2;have b3:=OW (a:=d) (b:=e) aA d4;rw[XG aA d4,XG aA d2,XG aA d4,←Int.natCast_add,Hl aA aA,Aji (Nat.mul_pos d1 d3) (Abp p1 p2) aA aA];rfl
theorem sortClM{l:List Fx}(h:(l.map (·.Key)).Nodup)(hl:l.length<=1000000):Jp l=some (Si ltCl l):=by
 unfold Jp;rw[aQ ⟨XD (f:=Fx.Key) (λ_ _=>rfl) h,by omega⟩];exact congrArg some (UF (f:=Fx.Key) (λ_ _=>rfl) h)
def OG(k:ByteArray)(ls:List Fo):Nat:=((ls.filter λy=>decide (y.Club=k)).map λy=>valB y.Points).sum
theorem GV(k:ByteArray)(y:Fo)(ls:List Fo):OG k (y::ls)=(if y.Club=k then valB y.Points else 0)+OG k ls:=by
 unfold OG
 by_cases h:y.Club=k
 ·rw[bR (by simpa using h),aQ h,aY,List.sum_cons]
 ·rw[bS (by simpa using h),aP h,Nat.zero_add]
theorem Ajp(k:ByteArray):∀(a b:List Fo),OG k (a++b)=OG k a+OG k b
 |[],b=>by simp[OG]
 |y::a,b=>by rw[List.cons_append,GV,GV,Ajp k a b];omega
theorem Agm(k:ByteArray):∀(ls:List Fo),(∀y∈ls,Pts y.Points)->OG k ls<=4000000000*ls.length
 |[],_=>by simp[OG]
 |y::ls,h=>by
  have h1:=Agm k ls λz hz=>h z (aM _ hz)
  have h2:=(h y aN).val.2
  rw[GV,aT]
  split<;>omega
theorem Ael(k:ByteArray):∀(ls:List Fo),(∀y∈ls,y.Club≠k)->OG k ls=0
 |[],_=>by simp[OG]
 |y::ls,h=>by rw[GV,aP (h y aN),Ael k ls λz hz=>h z (aM _ hz)]
theorem WI(j:List (ByteArray×Fh)->Option (List Fx×Int)):∀(ys:List An) (i:Nat) (m:List (ByteArray×Fh)) (K:ByteArray->Prop) (u:ByteArray->Nat),MS m K u->(∀k,k≠Ff->¬K k->u k=0)->
 ∃m',Zm j ys i m=j m'/\MS m' (λk=>K k\/(k≠Ff/\∃d∈ys,d.Club=k)) u
 |[],i,m,K,u,h,_=>⟨m,rfl,h.congr (λk=>⟨.inl,λh=>h.elim id fun⟨_,d,hd,_⟩=>absurd hd aB⟩) λ_ _=>rfl⟩
 |y::ys,i,m,K,u,h,h0=>by
  rw[Zm]
  simp only[Ga]
  by_cases hc:y.Club=Ff
  ·rw[aP (by simp[hc])]
   obtain⟨m',e,g⟩:=WI j ys (i+1) m K u h h0
   refine⟨m',e,g.congr (λk=>or_congr Iff.rfl ⟨fun⟨a,d,hd,b⟩=>⟨a,d,aM _ hd,b⟩,fun⟨a,d,hd,b⟩=>?_⟩) λ_ _=>rfl⟩
   rcases bB.1 hd with rfl|hd
   ·exact absurd (b.symm.trans hc) a
   ·exact⟨a,d,hd,b⟩
  ·by_cases hk:(Tw m y.Club).isSome=true
   ·rw[aP (by simp[hk])]
    obtain⟨m',e,g⟩:=WI j ys (i+1) m K u h h0
    have hK:K y.Club:=(h.keys _).1 ((Aja _ _).1 hk)
    refine⟨m',e,g.congr (λk=>⟨λhh=>hh.imp id fun⟨a,d,hd,b⟩=>⟨a,d,aM _ hd,b⟩,λhh=>?_⟩) λ_ _=>rfl⟩
    rcases hh with hh|⟨a,d,hd,b⟩
    ·exact .inl hh
    ·rcases bB.1 hd with rfl|hd
     ·exact .inl (by rw[←b];exact hK)
     ·exact .inr ⟨a,d,hd,b⟩
   ·have hk':(Tw m y.Club).isSome=false:=by simpa using hk
    have z0:Fh.mk 0 1=frB 0:=WC
    rw[aQ (by simp[hc,hk']),z0]
    have hK:¬K y.Club:=λhK=>hk ((Aja _ _).2 ((h.keys _).2 hK))
    have h1:=(h.put y.Club 0).congr (K':=λz=>z=y.Club\/K z) (u':=u) (λ_=>Iff.rfl) λk _=>by
     split
     ·rename_i e;rw[e,h0 _ hc hK]
     ·rfl
    obtain⟨m',e,g⟩:=WI j ys (i+1) _ _ u h1 λk hk hn=>h0 k hk λhh=>hn (.inr hh)
    refine⟨m',e,g.congr (λk=>⟨λhh=>?_,λhh=>?_⟩) λ_ _=>rfl⟩
    ·rcases hh with (hh|hh)|⟨a,d,hd,b⟩
     ·exact .inr ⟨by rw[hh];exact hc,y,aN,hh.symm⟩
     ·exact .inl hh
     ·exact .inr ⟨a,d,aM _ hd,b⟩
    ·rcases hh with hh|⟨a,d,hd,b⟩
     ·exact .inl (.inr hh)
     ·rcases bB.1 hd with rfl|hd
      ·exact .inl (.inl b.symm)
      ·exact .inr ⟨a,d,hd,b⟩
theorem Abq(j:List (ByteArray×Fh)->Option (List Fx×Int))(K:ByteArray->Prop)(hKe:¬K Ff):∀(ys:List Fo) (i:Nat) (m:List (ByteArray×Fh)) (u:ByteArray->Nat) (B:Nat),MS m K u->(∀y∈ys,y.Club≠Ff->K y.Club)->(∀y∈ys,Pts y.Points)->(∀k,u k<=B)->B+4000000000*ys.length<=900000000000->
 ∃m',Xg j ys i m=j m'/\MS m' K (λk=>u k+OG k ys)
 |[],i,m,u,B,h,_,_,_,_=>⟨m,rfl,h.congr (λ_=>Iff.rfl) λ_ _=>rfl⟩
 |y::ys,i,m,u,B,h,h1,h2,h3,h4=>by
  simp only[aT] at h4
  obtain⟨e,hv⟩:=(h2 y aN).val
  have h1':∀z∈ys,z.Club≠Ff->K z.Club:=λz hz=>h1 z (aM _ hz)
  have h2':∀z∈ys,Pts z.Points:=λz hz=>h2 z (aM _ hz)
  rw[Xg]
  simp only[Ga]
  by_cases hc:y.Club=Ff
  ·rw[aP (by simp[hc])]
   obtain⟨m',e',g⟩:=Abq j K hKe ys (i+1) m u B h h1' h2' h3 aA
   refine⟨m',e',g.congr (λ_=>Iff.rfl) λk hk=>?_⟩
   rw[GV,aP (λe=>hKe (by rw[←hc,e];exact hk)),Nat.zero_add]
  ·have hK:=h1 y aN hc
   have hu:=h3 y.Club
   generalize hvb:valB y.Points=v at*
   rw[aQ (by simpa using hc),h.vals _ hK,e,add_frC aA aA]
   simp only[aG]
   have h5:=(h.put y.Club (u y.Club+v)).congr (K':=K) (u':=λz=>if z=y.Club then u y.Club+v else u z) (λk=>⟨λhh=>hh.elim (λe=>by rw[e];exact hK) id,.inr⟩) λ_ _=>rfl
   obtain⟨m',e',g⟩:=Abq j K hKe ys (i+1) _ _ (B+4000000000) h5 h1' h2' (λk=>by
    have:=h3 k
    split<;>omega) aA
   refine⟨m',e',g.congr (λ_=>Iff.rfl) λk _=>?_⟩
   rw[GV,hvb]
   by_cases hk:k=y.Club
   ·rw[aQ hk,aQ hk.symm,hk];omega
   ·rw[aP hk,aP (λe=>hk e.symm)];omega
theorem Abr(j:List ByteArray->Option (List Fx×Int)):∀(ys:List An) (i:Nat) (x:List ByteArray),x.length+ys.length<=1000000->Qo j ys i x=j (x++(ys.map (·.Club)).filter λk=>!decide (k=Ff))
 |[],i,x,_=>by simp[Qo]
 |y::ys,i,x,h=>by
  simp only[aT] at h
  rw[Qo]
  simp only[Ga,aY]
  by_cases hc:y.Club=Ff
  ·rw[aP (by simp[hc]),Abr j ys (i+1) x aA,bS (by simp[hc])]
  ·rw[aQ (by simpa using hc),Fm (by unfold Ja;exact aH aA),Abr j ys (i+1) _ aD,bR (by simpa using hc)]
   simp
theorem clubR(name:ByteArray)(lines:List Fo)(h1:∀y∈lines,Pts y.Points)(hl:lines.length<=200):Wb name lines=some (frB (OG name lines)):=by
 have loop:∀(ys:List Fo) (i a:Nat),(∀y∈ys,Pts y.Points)->a+4000000000*ys.length<=900000000000->Np name (λx1 x2=>some (Fh.mk x1 x2)) ys i (frB a).Num (frB a).Den=some (frB (a+OG name ys)):=by
  intro ys
  induction ys with
  |nil=>intro i a _ _;simp[Np,OG]
  |cons y ys ih=>
   intro i a h2 h3;simp only[aT] at h3;obtain⟨e,hv⟩:=(h2 y aN).val;rw[Np,GV];simp only[Ga]
   by_cases hc:y.Club=name
   ·rw[aQ (aH hc),aQ hc];generalize hvb:valB y.Points=v at*;have hp:BD (Fh.mk (frB a).Num (frB a).Den) y.Points=some (frB (a+v)):=by
     rw[e];exact plus_frB aA aA
    rw[hp];simp only[aG];rw[ih (i+1) (a+v) (λz hz=>h2 z (aM _ hz)) aA,Nat.add_assoc]
   ·rw[aP (by simpa using hc),aP hc,ih (i+1) a (λz hz=>h2 z (aM _ hz)) aA,Nat.zero_add]
 unfold Wb;rw[Ga];have h0:=loop lines 0 0 h1 aA;have z0:frB 0=Fh.mk 0 1:=WC.symm;rw[z0,Nat.zero_add] at h0;exact h0
structure CJ(lines:List Fo)(names:List ByteArray)(m:List (ByteArray×Fh)):Prop where
 ms:MS m (λk=>k∈names) (λk=>OG k lines)
 pts:∀y∈lines,Pts y.Points
 club:∀y∈lines,y.Club≠Ff->y.Club∈names
 few:∀k∈names,k∈[Zd,IG,k_A]
def FewC(F:List An):Prop:=∀d∈F,d.Club∈[Zd,IG,Ff,k_A]
theorem YD{p:Ge}(hp:QC p){l:List An}{at_:Int}(hf:OB l)(hs:l.Pairwise λx y=>x.At<=y.At)(h:FM (Gj l at_))(hc:FewC (Gj l at_))(j:List (ByteArray×Fh)->Option (List Fx×Int))(j':List Fo->List ByteArray->Option (List Fx×Int)):
 ∀(ys:List Fp) (i:Nat) (m:List (ByteArray×Fh)) (lines:List Fo) (names:List ByteArray),(∀r∈ys,r∈p.Races)->CJ lines names m->lines.length+12*ys.length<=200->names.length+1000*ys.length<=200000->
 (∃e,e=12/\Sy p (Gj l at_) j ys i m=some ([],e)/\Qp l at_ p j' ys i lines names=some ([],e))\/(∃m' lines' names',Sy p (Gj l at_) j ys i m=j m'/\Qp l at_ p j' ys i lines names=j' lines' names'/\CJ lines' names' m'/\lines'.length<=200/\names'.length<=200000)
 |[],i,m,lines,names,_,hJ,h1,h2=>.inr ⟨m,lines,names,rfl,rfl,hJ,by simpa using h1,by simpa using h2⟩
 |r::ys,i,m,lines,names,hy,hJ,h1,h2=>by
  simp only[aT] at h1 h2
  have hFl:=h.len
  have hel:=KU r.Key (Gj l at_)
  have hml:=HY r.Key (Gj l at_)
  have hEc:∀d∈Zw r.Key (Gj l at_),d.Club∈[Zd,IG,Ff,k_A]:=λd hd=>hc d (EC hd).2.2
  obtain⟨L,e,r1,r2,r3,r4,r6⟩:=HB hp hf hs h (hy r aN)
  have hne:Ff∉names:=λhk=>by
   have:=hJ.few _ hk
   have hn:∀k∈[Zd,IG,k_A],k≠Ff:=by decide+kernel
   exact hn _ this rfl
  rw[Sy,Qp,CH p _ _ aA,CI l r.Key at_ hf hs]
  simp only[aG,Ga]
  rw[Abr _ _ 0 names aA]
  obtain⟨m1,q1,q2⟩:=WI (λx2=>Option.bind (Sm p (Gj l at_) r) λr3=>if !decide (r3.2=0) then some (([]:List Fx),r3.2) else Xg (λx5=>Sy p (Gj l at_) j ys (i+1) x5) r3.1 0 x2) (Zw r.Key (Gj l at_)) 0 m _ _ hJ.ms (λk hk hn=>Ael k lines λy hy e=>hn (by rw[←e];exact hJ.club y hy (by rw[e];exact hk)))
  rw[q1,r1,r2]
  simp only[aG]
  by_cases he:e=0
  ·subst he
   simp only[aJ,bN,aO,aR]
   obtain⟨L1,L2⟩:=r4 rfl
   generalize hN:names++((Zw r.Key (Gj l at_)).map (·.Club)).filter (λk=>!decide (k=Ff))=N
   have hNm:∀k,k∈N↔k∈names\/(k≠Ff/\∃d∈Zw r.Key (Gj l at_),d.Club=k):=λk=>by
    rw[←hN,bC,List.mem_filter,bD]
    simp only[Bool.not_eq_true',aL]
    exact or_congr Iff.rfl And.comm
   have hNf:∀k∈N,k∈[Zd,IG,k_A]:=λk hk=>by
    rcases(hNm k).1 hk with hk|⟨hk,d,hd,rfl⟩
    ·exact hJ.few k hk
    ·have:=hEc d hd
     simp only[bB,bM,or_false] at this ⊢
     rcases this with h|h|h|h
     ·exact .inl h
     ·exact .inr (.inl h)
     ·exact absurd h hk
     ·exact .inr (.inr h)
   have q3:MS m1 (λk=>k∈N) (λk=>OG k lines):=q2.congr (λk=>(hNm k).symm) λ_ _=>rfl
   have hNe:Ff∉N:=λhk=>by
    have:=hNf _ hk
    have hn:∀k∈[Zd,IG,k_A],k≠Ff:=by decide+kernel
    exact hn _ this rfl
   have hLc:∀y∈L,y.Club≠Ff->y.Club∈N:=λy hy hk=>by
    obtain⟨_,⟨d,hd,_,hdc⟩,_⟩:=L2 y hy
    exact(hNm _).2 (.inr ⟨hk,d,hd,hdc⟩)
   obtain⟨m2,s1,s2⟩:=Abq (λx5=>Sy p (Gj l at_) j ys (i+1) x5) (λk=>k∈N) hNe L 0 m1 _ (4000000000*lines.length) q3 hLc (λy hy=>(L2 y hy).1) (λk=>Agm k lines hJ.pts) aA
   rw[s1,Fm (aH aA)]
   have hNl:N.length<=names.length+1000:=by
    rw[←hN,aU];have:=List.length_filter_le (λk=>!decide (k=Ff)) ((Zw r.Key (Gj l at_)).map (·.Club));rw[aV] at this;omega
   refine YD hp hf hs h hc j j' ys (i+1) m2 (lines++L) N (λz hz=>hy z (aM _ hz)) ⟨s2.congr (λ_=>Iff.rfl) λk _=>(Ajp k lines L).symm,λy hy=>?_,λy hy hk=>?_,hNf⟩ (by rw[aU];omega) aA
   ·rcases bC.1 hy with hy|hy
    ·exact hJ.pts y hy
    ·exact(L2 y hy).1
   ·rcases bC.1 hy with hy|hy
    ·exact(hNm _).2 (.inl (hJ.club y hy hk))
    ·exact hLc y hy hk
  ·rw[aQ (by simpa using he),aQ (by simpa using he)];obtain⟨e',f1,f2⟩:=XJ h r (hp.key r (hy r aN));rw[r6] at f1;obtain rfl:=bH f1;exact .inl ⟨e,f2.resolve_left he,rfl,rfl⟩
theorem Ami{p:Ge}(hp:QC p)(hr:p.Races.length<=16){l:List An}{at_:Int}(hf:OB l)(hs:l.Pairwise λx y=>x.At<=y.At)(h:FM (Gj l at_))(hc:FewC (Gj l at_)):
 ∃L e a,HJ p (Gj l at_)=some (L,e)/\Kn p l at_=some a/\(a≠0->e=a/\L=[])/\(a=0->Wt p l at_=some (L,e)/\(e=0\/e=12)/\L.length<=3/\∀y∈L,y.Key∈[Zd,IG,k_A]/\∃v,v<=1000000000000/\y.Points=frB v):=by
 obtain⟨a,a1,a2⟩:=RW hp hf hs (at_:=at_);unfold HJ;rw[a2];simp only[aG,Ga]
 by_cases ha:a=0
 ·subst ha;simp only[aJ,bN,aO,aR];have h0:CJ [] [] []:=⟨⟨by simp,λk=>by simp,λk hk=>absurd hk aB⟩,λy hy=>absurd hy aB,λy hy=>absurd hy aB,λk hk=>absurd hk aB⟩;have key:=YD hp hf hs h hc (λx1=>AllP x1 (λp=>Zn (λx8=>Option.bind (Jp x8) (λr5=>some (r5,0))) p ([]:List Fx))) (λx1 x2=>Option.bind (Mb x2 x1) λr3=>some (r3,0)) p.Races 0 [] [] [] (λ_ h=>h) h0 aD aD;unfold Wt;rw[Ga];rcases key with ⟨e,he,k1,k2⟩|⟨m,lines,names,k1,k2,k3,k4,k5⟩
  ·exact⟨[],e,0,k1,a1,λh=>absurd rfl h,λ_=>⟨k2,.inr he,by simp,λ_ h=>by cases h⟩⟩
  ·have hkl:(OX names).length<=3:=NZ (OX names) [Zd,IG,k_A] (by
    have:=Aoz names;exact this.imp λ{a b} hab e=>by rw[e,Ut] at hab;omega) λk hk=>k3.few k ((WH names k).1 hk)
   refine⟨(OX names).map λk=>Fx.mk k (frB (OG k lines)),0,0,?_,a1,λh=>absurd rfl h,λ_=>⟨?_,.inl rfl,by rw[aV];exact hkl,λy hy=>?_⟩⟩
   ·rw[k1];have hml:m.length<=3:=by
     have:=NZ (m.map (·.1)) [Zd,IG,k_A] k3.ms.nd λk hk=>k3.few k ((k3.ms.keys k).1 hk);rw[aV] at this;exact this
    refine Amr λq hq=>?_;have hql:q.length=m.length:=hq.length_eq;rw[Ajb _ q [] aD,aZ,sortClM (by rw[List.map_map];exact(hq.map (·.1)).nodup_iff.2 k3.ms.nd) (by rw[aV];omega)];simp only[aG];have hk:∀l:List (ByteArray×Fh),(l.map λe=>Fx.mk e.1 e.2).map (·.Key)=l.map (·.1):=λl=>by rw[List.map_map];rfl
    congr 2
    refine RM ltCl_irr Alw _ _ (ltCl_tot (by rw[hk];exact(hq.map (·.1)).nodup_iff.2 k3.ms.nd)) ?_ λx=>?_
    ·rw[List.pairwise_map];exact(Aoz names).imp λh=>by rw[VZ];exact aH h
    ·have hp':(q.map λe=>Fx.mk e.1 e.2).Perm (m.map λe=>Fx.mk e.1 e.2):=hq.map _;rw[hp'.mem_iff,bD,bD];constructor
     ·rintro⟨⟨k,v⟩,hkv,rfl⟩;obtain⟨g1,g2⟩:=(Agl (Fh.mk 0 0) m k3.ms.nd k v).1 hkv;have hkn:=(k3.ms.keys k).1 g1;exact⟨k,(WH names k).2 hkn,by rw[←g2,k3.ms.vals k hkn]⟩
     ·rintro⟨k,hk2,rfl⟩;have hkn:=(WH names k).1 hk2;exact⟨(k,frB (OG k lines)),(Agl (Fh.mk 0 0) m k3.ms.nd k _).2 ⟨(k3.ms.keys k).2 hkn,k3.ms.vals k hkn⟩,rfl⟩
   ·rw[k2];have hsl:(Uz names).length=names.length:=by simp[Uz]
    unfold Mb AJ;rw[Fm (aH aA)];simp only[aG,Ga];rw[Amh _ aA];simp only[aG];have hlist:∀(ys:List ByteArray) (i:Nat) (x:List Fx),x.length+ys.length<=1000->Hs lines (λx1=>some x1) ys i x=some (x++ys.map λk=>Fx.mk k (frB (OG k lines))):=by
     intro ys
     induction ys with
     |nil=>intro i x _;simp[Hs]
     |cons y ys ih=>
      intro i x hx;simp only[aT] at hx;rw[Hs,clubR y lines k3.pts k4];simp only[aG];rw[Fm (by unfold Ja;exact aH aA),ih (i+1) _ aD];simp
    show Option.bind (Hs lines (λx1=>some x1) (OX names) 0 []) _=_;rw[hlist (OX names) 0 [] aD,aZ];rfl
   ·obtain⟨k,hk,rfl⟩:=bD.1 hy;have:=Agm k lines k3.pts;exact⟨k3.few k ((WH names k).1 hk),_,by omega,rfl⟩
 ·rw[aQ (by simpa using ha)];exact⟨[],a,a,rfl,a1,λ_=>⟨rfl,rfl⟩,λh=>absurd h ha⟩
theorem Ajq{L:List Int}(hL:LY L){a:Int}(h0:0<=a)(h1:a<=100000000)(key:ByteArray):Dr a 7 (λ_=>True) (Vp L a key):=by
 unfold Vp;obtain⟨v1,b1,e1,g1,g2,_⟩:=Ow hL h0 aA [50,100,200] aB aB;rw[e1];simp only[aG];obtain⟨v2,b2,e2,g3,g4,_⟩:=Ow hL (a:=b1) aA aA [1,2,3,4] aB aB;rw[e2];simp only[aG];obtain⟨v3,b3,e3,g5,g6,_⟩:=Ow hL (a:=b2) aA aA [25,50] aB aB;rw[e3];simp only[aG];obtain⟨v4,b4,e4,g7,g8,_⟩:=Ow hL (a:=b3) aA aA [1,1,1,4] aB aB;rw[e4];simp only[aG];obtain⟨v5,b5,e5,g9,g10,_⟩:=Ow hL (a:=b4) aA aA [0,1,2] aB aB;rw[e5];simp only[aG];obtain⟨v6,b6,e6,g11,g12,_⟩:=Ow hL (a:=b5) aA aA [0,0,5,10] aB aB;rw[e6];simp only[aG];obtain⟨v7,b7,e7,g13,g14,_⟩:=Ow hL (a:=b6) aA aA [0,5,90] aB aB;rw[e7];simp only[aG];exact⟨_,_,rfl,by omega,by omega,trivial⟩
section
variable {L:List Int}(hL:LY L)
include hL
theorem RX:∀(ys:List ByteArray) (i:Nat) (x1:List Fp) (a:Int),0<=a->a+8*ys.length<=10000000->x1.length+ys.length<=1000->
 ∃x b,Od L (λx a=>some (x,a)) ys i x1 a=some (x,b)/\a<=b/\b<=a+8*ys.length/\x.length<=x1.length+ys.length
 |[],i,x1,a,_,_,_=>⟨x1,a,rfl,Int.le_refl _,by simp,by simp⟩
 |y::ys,i,x1,a,h0,h1,h2=>by
  rw[Od]
  simp only[aT] at h1 h2 ⊢
  obtain⟨f,b,e,g1,g2,_⟩:=HA hL h0 aA 6 aA
  rw[e];simp only[aG,Hg]
  cases f with
  |true=>
   rw[aP aB]
   obtain⟨x,c,e',g3,g4,g5⟩:=RX ys (i+1) x1 b aA aA aA
   exact⟨x,c,e',by omega,by omega,by omega⟩
  |false=>
   rw[aQ aB]
   obtain⟨s,b2,e2,g3,g4,_⟩:=Ajq hL (a:=b) aA aA y
   rw[e2];simp only[aG]
   rw[Fm (by unfold Ja;simp;omega)]
   obtain⟨x,c,e',g7,g8,g9⟩:=RX ys (i+1) (x1++[s]) b2 aA aA aD
   simp only[aU,aX] at g9
   exact⟨x,c,e',by omega,by omega,by omega⟩
variable {a:Int}(h0:0<=a)(h1:a<=1000000)
include h0 h1
theorem Agn:Dr a 24 (λx=>x.length<=3) (Tx L a):=by
 unfold Tx;simp only[Hg];obtain⟨x,c,e',g7,g8,g9⟩:=RX hL [GQ,UV,Aab] 0 [] a h0 aD aB;exact⟨x,c,e',g7,by simp at g8;omega,by simpa using g9⟩
end
theorem Apa:CT=some true:=by
 have h1:Sr (Ge.mk [Fp.mk k_r 50 1 50 1 0 0 0] (Il.mk [] 1 0) (Mp.mk 1 1 0))=some 0:=by decide+kernel
 have h2:Rj [An.mk k_s 1 0 1 k_a Ff k_r 5 0 Ff 0]=some 0:=by decide+kernel
 have h3:Gj [An.mk k_s 1 0 1 k_a Ff k_r 5 0 Ff 0] 0=[An.mk k_s 1 0 1 k_a Ff k_r 5 0 Ff 0]:=by decide+kernel
 have h4:Zw k_r [An.mk k_s 1 0 1 k_a Ff k_r 5 0 Ff 0]=[An.mk k_s 1 0 1 k_a Ff k_r 5 0 Ff 0]:=by decide+kernel
 have h5:=CH (Ge.mk [Fp.mk k_r 50 1 50 1 0 0 0] (Il.mk [] 1 0) (Mp.mk 1 1 0)) [An.mk k_s 1 0 1 k_a Ff k_r 5 0 Ff 0] k_r aB;rw[h4] at h5;have h6:=Aay (Ge.mk [Fp.mk k_r 50 1 50 1 0 0 0] (Il.mk [] 1 0) (Mp.mk 1 1 0)) [An.mk k_s 1 0 1 k_a Ff k_r 5 0 Ff 0] 0 aB;rw[h3] at h6;have h7:Gt [Fp.mk k_r 50 1 50 1 0 0 0] k_r=0:=by decide+kernel
 have h8:Hf 0=true:=by decide
 have h9:nth [(0:Int)] (W ((([(0:Int)].length:Nat):Int)-1))=0:=by decide+kernel
 unfold CT JE Ye Zg;rw[h1];simp only[aG,Ga];rw[aP aB,h2];simp only[aG];rw[aP aB,Yd,aP (by rw[h8];simp),Yd,Fm (by decide+kernel),h9,h6];simp only[aG];unfold BU;rw[aP aB,aP (by rw[h7];simp),h5];simp only[aG];rw[aP aB,Fm (by rw[h7];decide+kernel)];simp only[aG];rw[aP aB];unfold BY;rw[h5];simp only[aG,Ga];rw[Xd,Fm aC,Xd];rfl
theorem swum_k1{F:List An}(race:ByteArray):(Oy race F).length<=F.countP λd=>decide (d.Kind=1):=by
 rw[List.countP_eq_length_filter];refine NZ _ _ ((List.pairwise_map.1 (JK race F)).imp λh e=>h (congrArg (·.Who) e)) λd hd=>?_;obtain⟨h1,_⟩:=List.mem_filter.1 hd;obtain⟨_,k2,k3⟩:=EC h1;exact List.mem_filter.2 ⟨k3,aH k2⟩
theorem swum_k3{F:List An}(race:ByteArray):(Oy race F).length<=F.countP λd=>decide (d.Kind=3):=by
 have hsv:∀d∈Oy race F,svS race F d∈F/\(svS race F d).Kind=3/\(svS race F d).Who=d.Who:=λd hd=>by
  obtain⟨_,h2⟩:=List.mem_filter.1 hd;unfold QF at h2;obtain⟨y,hy⟩:=Option.isSome_iff_exists.1 h2;have e:svS race F d=y:=by unfold svS Gm;rw[hy];rfl
  have g:=Aon hy;rw[e];exact⟨g.1,g.2.1,g.2.2.2⟩
 rw[List.countP_eq_length_filter,←aV (f:=svS race F)];have hn:(((Oy race F).map (svS race F)).map (·.Who)).Nodup:=by
  have e:((Oy race F).map (svS race F)).map (·.Who)=(Oy race F).map (·.Who):=by
   rw[List.map_map];exact List.map_congr_left λd hd=>(hsv d hd).2.2
  rw[e];exact JK race F
 refine NZ _ _ ((List.pairwise_map.1 hn).imp λh e=>h (congrArg (·.Who) e)) λy hy=>?_
 ·obtain⟨d,hd,rfl⟩:=bD.1 hy;obtain⟨h1,h2,_⟩:=hsv d hd;exact List.mem_filter.2 ⟨h1,aH h2⟩
structure MD(l:List An):Prop where
 few:OB l
 club:FewC l
 swms:(l.countP λd=>decide (d.Kind=1))<=12\/(l.countP λd=>decide (d.Kind=3))<=12
 alike:(l.countP λd=>decide (d.Kind=1))<=16\/∀d∈l,d.Time=0
theorem MD.fm{l:List An}(h:MD l)(g:DsG l)(at_:Int):FM (Gj l at_):=by
 have hs:=CF l at_;refine⟨λd hd=>g.each d (hs.subset hd),Nat.le_trans hs.length_le h.few.len,λrace=>?_⟩;rcases h.swms with h1|h1
 ·exact Nat.le_trans (swum_k1 race) (Nat.le_trans (hs.countP_le) h1)
 ·exact Nat.le_trans (swum_k3 race) (Nat.le_trans (hs.countP_le) h1)
theorem MD.fc{l:List An}(h:MD l)(at_:Int):FewC (Gj l at_):=λd hd=>h.club d ((CF l at_).subset hd)
theorem rune_sz:∀i:Fin 26,(Utf8.encode (IntKind.wrap .i32 (W (97+(i.val:Int))))).size<=1000:=by decide+kernel
theorem Ajr{x:Int}(h0:0<=x)(h1:x<26):(Utf8.encode (IntKind.wrap .i32 (W (97+x)))).size<=1000:=by
 have:=rune_sz ⟨x.toNat,by omega⟩;simp only[Int.toNat_of_nonneg h0] at this;exact this
section
variable {L:List Int}(hL:LY L)
theorem tied_l(r1:Int×Int)(hr:r1.1<=12)(j:List An->Option (List An×Int)):∀(m:Nat) (x:List An) (i:Int),0<=i->r1.1-i<(m:Int)->(x.length:Int)<=2*i->i<=13->(∀d∈x,d.Kind≠4/\d.Club∈[Zd,IG,Ff,k_A])->((x.countP λd=>decide (d.Kind=1):Nat):Int)<=i->i<=r1.1->
 ∃x',Td r1 j m x i=j x'/\(x'.length:Int)<=24/\(∀d∈x',d.Kind≠4/\d.Club∈[Zd,IG,Ff,k_A])/\((x'.countP λd=>decide (d.Kind=1):Nat):Int)<=12
 |0,x,i,_,h,_,_,_,_,_=>by omega
 |m+1,x,i,h0,h1,h2,h3,h4,h5,h6=>by
  rw[Td]
  by_cases hc:i<r1.1
  ·have hw:W (i+1)=i+1:=Hl aA aA
   rw[aQ (aH hc),Fm (by unfold Ja;exact aH aA),hw]
   refine tied_l r1 hr j m _ (i+1) aA aA aD aA (λd hd=>?_) ?_ aA
   ·rcases bC.1 hd with hd|hd
    ·exact h4 d hd
    ·rcases bB.1 hd with rfl|hd
     ·exact⟨by simp,by simp⟩
     ·obtain rfl:=bA.1 hd
      exact⟨by simp,by simp⟩
   ·rw[List.countP_append]
    simp
    omega
  ·rw[aP (by simpa using hc)]
   exact⟨x,rfl,by omega,h4,by omega⟩
theorem Apb(r1:Int×Int)(hr:0<=r1.1/\r1.1<=1)(j:List An->Option (List An×Int)):∀(m:Nat) (x:List An) (i:Int),0<=i->300+r1.1-i<(m:Int)->(x.length:Int)<=i->(∀d∈x,d.Kind=1/\d.Club=Ff/\d.Time=0)->i<=300+r1.1->
 ∃x',Sb r1 j m x i=j x'/\(x'.length:Int)<=301/\(∀d∈x',d.Kind=1/\d.Club=Ff/\d.Time=0)
 |0,x,i,_,h,_,_,_=>by omega
 |m+1,x,i,h0,h1,h2,h3,h4=>by
  have hw0:W (300+r1.1)=300+r1.1:=Hl aA aA
  rw[Sb,hw0]
  by_cases hc:i<300+r1.1
  ·have hw:W (i+1)=i+1:=Hl aA aA
   have hd:Int.tdiv i 26=i / 26:=Int.tdiv_eq_ediv_of_nonneg h0
   have hm:Int.tmod i 26=i % 26:=Int.tmod_eq_emod_of_nonneg h0
   have hwd:W (Int.tdiv i 26)=i / 26:=by rw[hd];exact Hl aA aA
   have s1:=Ajr (x:=i / 26) aA aA
   have s2:=Ajr (x:=i % 26) aA aA
   rw[aQ (aH hc),hwd,hm,Fm (aH aA),Fm (by unfold Ja;exact aH aA),hw]
   refine Apb r1 hr j m _ (i+1) aA aA aD (λd hd=>?_) aA
   rcases bC.1 hd with hd|hd
   ·exact h3 d hd
   ·obtain rfl:=bA.1 hd
    exact⟨rfl,rfl,rfl⟩
  ·rw[aP (by simpa using hc)]
   exact⟨x,rfl,by omega,h3⟩
include hL
theorem Ago(many:Int)(h0:0<=many)(hm:many<=16){a:Int}(ha:0<=a)(ha':a<=1000000):Dr a 500 MD (Wz L a many):=by
 unfold Wz;obtain⟨f,b,e,g1,g2,_⟩:=HA hL ha aA 15 aA;rw[e];simp only[aG]
 cases f with
 |true=>
  rw[aQ rfl];unfold CP;obtain⟨v,b1,e1,g3,g4,g5,g6⟩:=FT hL (a:=b) aA aA 9 12 aA aA aA;rw[e1];simp only[aG,Ga];obtain⟨x,q1,q2,q3,q4⟩:=tied_l (v,b1) (by show v<=12;omega) (λx1=>some (x1,b1)) (((v,b1):Int×Int).1-0).toNat.succ.succ [] 0 aA (by show v-0<_;simp;omega) aB aA (λd hd=>absurd hd aB) aB (by show (0:Int)<=v;omega);rw[show (((v-0).toNat+2)=(((v,b1):Int×Int).1-0).toNat.succ.succ) from rfl,q1];have hM:MD x:=⟨.inr ⟨by omega,λd hd=>(q3 d hd).1⟩,λd hd=>(q3 d hd).2,.inl aA,.inl aA⟩;exact⟨_,_,rfl,by omega,by omega,hM⟩
 |false=>
  rw[aP aB];obtain⟨f2,b1,e1,g3,g4,_⟩:=HA hL (a:=b) aA aA 60 aA;rw[e1];simp only[aG]
  cases f2 with
  |true=>
   rw[aQ rfl];unfold BL;obtain⟨v,b2,e2,g5,g6,g7,g8⟩:=FT hL (a:=b1) aA aA 0 1 aA aA aA;rw[e2];simp only[aG,Ga];have hw0:W (300+v)=300+v:=Hl aA aA;obtain⟨x,q1,q2,q3⟩:=Apb (v,b2) ⟨by show 0<=v;omega,by show v<=1;omega⟩ (λx1=>some (x1,b2)) ((W (300+v)-0).toNat+2) [] 0 aA (by show 300+v-0<_;rw[hw0];omega) aB (λd hd=>absurd hd aB) (by show (0:Int)<=300+v;omega);rw[q1];have hk:∀d∈x,d.Kind≠4:=λd hd=>by rw[(q3 d hd).1];decide
   have hc:(x.countP λd=>decide (d.Kind=3))=0:=List.countP_eq_zero.2 λd hd=>by rw[(q3 d hd).1];decide
   have hM:MD x:=⟨.inr ⟨by omega,hk⟩,λd hd=>by rw[(q3 d hd).2.1];simp,.inr aA,.inr λd hd=>(q3 d hd).2.2⟩;exact⟨_,_,rfl,by omega,by omega,hM⟩
  |false=>
   rw[aP aB];obtain⟨v,b2,e2,g5,g6,g7,g8⟩:=FT hL (a:=b1) aA aA 0 many aA aA aA;rw[e2];simp only[aG];obtain⟨x,b3,e3,g9,g10,g11,g12⟩:=Aqs hL v aA aA (a:=b2) aA aA;rw[e3];have hd:∀l:List An,(l.countP λd=>decide (d.Kind=1))+(l.countP λd=>decide (d.Kind=3))<=l.length:=by
    intro l
    induction l with
    |nil=>simp
    |cons y l ih=>
     rw[List.countP_cons,List.countP_cons,aT]
     by_cases k1:y.Kind=1
     ·simp[k1];omega
     ·by_cases k3:y.Kind=3<;>simp[k1,k3]<;>omega
   have:=hd x;have hM:MD x:=⟨.inl aA,λd hd=>(g12 d hd).club,by omega,.inl aA⟩;exact⟨_,_,rfl,by omega,by omega,hM⟩
theorem Amj{a:Int}(h0:0<=a)(h1:a<=100000):Dr a 40 (λx=>x.length<=3) (Wy L a):=by
 unfold Wy;obtain⟨x,b,e,g1,g2,g3⟩:=Agn hL h0 aA;rw[e];simp only[aG,Hg]
 by_cases hx:0<(x.length:Int)
 ·rw[aQ (aH hx)];obtain⟨f,b1,e1,g4,g5,_⟩:=HA hL (a:=b) aA aA 12 aA;rw[e1];simp only[aG]
  cases f with
  |false=>rw[aP aB];exact⟨x,b1,rfl,by omega,by omega,g3⟩
  |true=>
   rw[aQ rfl];obtain⟨i,b2,e2,g6,g7,g8⟩:=Afs hL (a:=b1) aA aA (x.length:Int) aA;rw[e2];simp only[aG];rw[Fm (Fy.2 ⟨g8.1,by omega⟩)];obtain⟨s,b3,e3,g9,g10,_⟩:=EB hL (a:=b2) aA aA [(nth x i).Key,Ff,GQ] aB aB;rw[e3];simp only[aG];obtain⟨t,b4,e4,g11,g12,_⟩:=DN hL (a:=b3) aA aA 1 4 aA aA aA;rw[e4];simp only[aG];obtain⟨u,b5,e5,g13,g14,_⟩:=Ow hL (a:=b4) aA aA [25,50,33] aB aB;rw[e5];simp only[aG];obtain⟨v,b6,e6,g15,g16,_⟩:=Ow hL (a:=b5) aA aA [0,1,2,3] aB aB;rw[e6];simp only[aG];exact⟨_,_,rfl,by omega,by omega,by simp only[List.length_set];exact g3⟩
 ·rw[aP (by simpa using hx),aP aB];exact⟨x,b,rfl,by omega,by omega,g3⟩
theorem Aqz{a:Int}(h0:0<=a)(h1:a<=10000):Dr a 20 (λ_=>True) (EU L a):=by
 unfold EU;obtain⟨t,b,e,g1,g2,g3⟩:=Ais hL (a:=a) h0 aA;rw[e];simp only[aG,Hg];obtain⟨f,b1,e1,g4,g5,_⟩:=HA hL (a:=b) aA aA 12 aA;rw[e1];simp only[aG]
 cases f with
 |false=>rw[aP aB];exact⟨_,_,rfl,by omega,by omega,trivial⟩
 |true=>
  rw[aQ rfl];obtain⟨v1,b2,e2,g6,g7,_⟩:=DN hL (a:=b1) aA aA 1 10 aA aA aA;rw[e2];simp only[aG];obtain⟨v2,b3,e3,g8,g9,_⟩:=DN hL (a:=b2) aA aA 0 10 aA aA aA;rw[e3];simp only[aG];have hlen:=g3.len;have hcl:Zf t.Points=some t.Points:=by
   unfold Zf;rw[Fm aD,aZ]
  rw[hcl];simp only[aG];obtain⟨v3,b4,e4,g10,g11,_⟩:=DN hL (a:=b3) aA aA 0 20 aA aA aA;rw[e4];simp only[aG];rw[Fm (by unfold Ja;simp;omega)];exact⟨_,_,rfl,by omega,by omega,trivial⟩
theorem Ajs{a:Int}(h0:0<=a)(h1:a<=1000):Dr a 200 (λp=>p.Races.length<=6) (AT L a):=by
 unfold AT;obtain⟨p,b,e,g1,g2,g3⟩:=planP_dr hL (a:=a) h0 aA;have hfew:=g3.few;rw[e];simp only[aG,Ga];obtain⟨f,b1,e1,g4,g5,_⟩:=HA hL (a:=b) aA aA 12 aA;rw[e1];simp only[aG]
 cases f with
 |false=>rw[aP aB];exact⟨_,_,rfl,by omega,by omega,by show p.Races.length<=6;omega⟩
 |true=>
  rw[aQ rfl];obtain⟨i,b2,e2,g6,g7,g8⟩:=Afs hL (a:=b1) aA aA 3 aA;rw[e2];simp only[aG]
  by_cases hi0:i=0
  ·rw[aQ (aH hi0)];obtain⟨x,b3,e3,g9,g10,g11⟩:=Amj hL (a:=b2) aA aA;rw[e3];simp only[aG];rw[Fm (aH aA)];exact⟨_,_,rfl,by omega,by omega,by show (p.Races++x).length<=6;rw[aU];omega⟩
  ·rw[aP (by simpa using hi0)]
   by_cases hi1:i=1
   ·rw[aQ (aH hi1)];obtain⟨t,b3,e3,g9,g10,_⟩:=Aqz hL (a:=b2) aA aA;rw[e3];simp only[aG];exact⟨_,_,rfl,by omega,by omega,by show p.Races.length<=6;omega⟩
   ·rw[aP (by simpa using hi1)];obtain⟨v1,b3,e3,g9,g10,_⟩:=DN hL (a:=b2) aA aA 1 10 aA aA aA;rw[e3];simp only[aG];obtain⟨v2,b4,e4,g11,g12,_⟩:=DN hL (a:=b3) aA aA 1 5 aA aA aA;rw[e4];simp only[aG];obtain⟨v3,b5,e5,g13,g14,_⟩:=DN hL (a:=b4) aA aA 0 10 aA aA aA;rw[e5];simp only[aG];exact⟨_,_,rfl,by omega,by omega,by show p.Races.length<=6;omega⟩
end
theorem Apc(who:ByteArray):∀(l:List An) (i:Nat),(∀d∈l,d.Who≠who)->He who (-1) l i= -1
 |[],_,_=>rfl
 |x::l,i,h=>by
  rw[He]
  unfold EF
  rw[aP (by simpa using h x aN)]
  exact Apc who l (i+1) λd hd=>h d (aM _ hd)
theorem Ajt(who:ByteArray)(d:An)(B:List An)(hd:d.Who=who):∀(A:List An) (i:Nat),(∀d∈A,d.Who≠who)->He who (-1) (A++d::B) i=((i+A.length:Nat):Int)
 |[],i,_=>by
  rw[aZ,He]
  unfold EF
  rw[aQ (by simpa using hd)]
  simp
 |x::A,i,h=>by
  rw[List.cons_append,He]
  unfold EF
  rw[aP (by simpa using h x aN)]
  rw[Ajt who d B hd A (i+1) λd hd=>h d (aM _ hd),aT]
  congr 1;omega
theorem Aem(who:ByteArray)(r:Fp)(hk:r.Key.size<=40):∀(ys:List Fo) (i:Nat) (x:ByteArray),x.size<=1000->(∀y∈ys,0<=y.Rank/\y.Rank<=13/\0<=y.Time/\y.Time<=360000)->
 ∃z,(∀j,Zy who r j ys i x=j z)/\(∀j,Pm who r j ys i x=j z)/\z.size<=1000
 |[],i,x,hx,_=>⟨x,λ_=>rfl,λ_=>rfl,hx⟩
 |y::ys,i,x,hx,h=>by
  obtain⟨h1,h2,h3,h4⟩:=h y aN
  have ih:=λz hz=>Aem who r hk ys (i+1) z hz λy hy=>h y (aM _ hy)
  by_cases hw:y.Who=who
  ·obtain⟨c,c1,c2,c3⟩:=UK h3 h4
   have k1:Gy.size=1:=by decide
   have k2:BK.size=1:=by decide
   by_cases hr:0<y.Rank
   ·obtain⟨s,s1,s2⟩:=itoaM y.Rank h1 aA
    obtain⟨z,z1,z2,z3⟩:=ih (r.Key++Gy++s++Gy++c) (by simp only[ByteArray.size_append];omega)
    refine⟨z,λj=>?_,λj=>?_,z3⟩
    ·rw[Zy]
     simp only[Ga]
     rw[aQ (aH hw),aQ (aH hr),s1,c1]
     simp only[aG]
     repeat rw[Fm (by simp only[ByteArray.size_append,aK];omega)]
     exact z1 j
    ·rw[Pm]
     simp only[Ga]
     rw[aP (by simp[hw]),aQ (aH hr),numM _ s s1 s2,c2]
     simp only[aG]
     repeat rw[Fm (by simp only[ByteArray.size_append,aK];omega)]
     exact z2 j
   ·obtain⟨z,z1,z2,z3⟩:=ih (r.Key++Gy++BK++Gy++c) (by simp only[ByteArray.size_append];omega)
    refine⟨z,λj=>?_,λj=>?_,z3⟩
    ·rw[Zy]
     simp only[Ga]
     rw[aQ (aH hw),aP (by simpa using hr),c1]
     simp only[aG]
     repeat rw[Fm (by simp only[ByteArray.size_append,aK];omega)]
     exact z1 j
    ·rw[Pm]
     simp only[Ga]
     rw[aP (by simp[hw]),aP (by simpa using hr),c2]
     simp only[aG]
     repeat rw[Fm (by simp only[ByteArray.size_append,aK];omega)]
     exact z2 j
  ·obtain⟨z,z1,z2,z3⟩:=ih x hx
   refine⟨z,λj=>?_,λj=>?_,z3⟩
   ·rw[Zy]
    simp only[Ga]
    rw[aP (by simpa using hw)]
    exact z1 j
   ·rw[Pm]
    simp only[Ga]
    rw[aQ (by simpa using hw)]
    exact z2 j
theorem Agp(who:ByteArray)(p:Ge)(l:List An)(r:Fp)(at_:Int)(j:List ByteArray->Option (List ByteArray×Int)):∀(ys:List An) (i:Nat) (x:List ByteArray),(∀d∈ys,d.Who≠who)->Mm who p l r at_ j ys i x=j x
 |[],_,_,_=>rfl
 |d::ys,i,x,h=>by
  rw[Mm]
  simp only[Ga]
  rw[aQ (by simpa using h d aN)]
  exact Agp who p l r at_ j ys (i+1) x λd hd=>h d (aM _ hd)
theorem Aju(who:ByteArray)(p:Ge)(l:List An)(r:Fp)(at_:Int)(j:List ByteArray->Option (List ByteArray×Int))(Z:List An):∀(A:List An) (i:Nat) (x:List ByteArray),(∀d∈A,d.Who≠who)->Mm who p l r at_ j (A++Z) i x=Mm who p l r at_ j Z (i+A.length) x
 |[],_,_,_=>rfl
 |d::A,i,x,h=>by
  rw[List.cons_append,Mm]
  simp only[Ga]
  rw[aQ (by simpa using h d aN),Aju who p l r at_ j Z A (i+1) x λd hd=>h d (aM _ hd),aT]
  congr 1;omega
theorem entL_nd(race:ByteArray)(F:List An):(Zw race F).Pairwise λa b=>a.Who≠b.Who:=(VX race F).imp λ{a b} h e=>by
 rw[UA,aK,e,Ut] at h
 omega
theorem Ara(race:ByteArray)(F:List An):(Zw race F).length<=F.length:=by rw[KU];exact HY race F
theorem of_l{p:Ge}(hp:QC p){l:List An}{at_:Int}(hf:OB l)(hs:l.Pairwise λx y=>x.At<=y.At)(h:FM (Gj l at_))(who:ByteArray):∀(ys:List Fp) (i:Nat) (x:List ByteArray),(∀r∈ys,r∈p.Races)->x.length+ys.length<=1000->(∀s∈x,s.size<=1000)->
 ∃L e,EG p (Gj l at_) who (λx1=>some (x1,0)) ys i x=some (L,e)/\Uk l at_ who p (λx1=>some (x1,0)) ys i x=some (L,e)/\(e≠0->L=[])/\(e=0\/e=12)/\L.length<=1000/\∀s∈L,s.size<=1000
 |[],i,x,_,hx,hz=>⟨x,0,rfl,rfl,λh=>absurd rfl h,.inl rfl,by omega,hz⟩
 |r::ys,i,x,hr,hx,hxs=>by
  rw[aT] at hx
  have hr1:=hr r aN
  have hk:=KW (hp.key r hr1)
  have ih:=λz hz=>of_l hp hf hs h who ys (i+1) z (λq hq=>hr q (aM _ hq)) hz
  have hent:=CH p (Gj l at_) r.Key (by have:=h.len;omega)
  have hentR:=CI l r.Key at_ hf hs
  rw[EG,Uk,hent,hentR]
  simp only[aG,Ga]
  generalize hE:Zw r.Key (Gj l at_)=E at*
  by_cases hw:∀d∈E,d.Who≠who
  ·unfold Ji
   rw[Ga,Apc who E 0 hw,aQ aC,Agp who p l r at_ _ E 0 x hw]
   exact ih x aA hxs
  ·obtain⟨d,hd,hdw⟩:∃d∈E,d.Who=who:=by
    apply Classical.byContradiction;intro hn;exact hw λd hd e=>hn ⟨d,hd,e⟩
   obtain⟨A,B,rfl⟩:=List.append_of_mem hd;have nd:=entL_nd r.Key (Gj l at_);rw[hE,bK] at nd;have hA:∀o∈A,o.Who≠who:=λo ho e=>nd.2.2 o ho d aN (by rw[e,hdw]);have hB:∀o∈B,o.Who≠who:=λo ho e=>(List.pairwise_cons.1 nd.2.1).1 o ho (by rw[e,hdw]);have hl:(A++d::B).length<=1000:=by rw[←hE];exact Nat.le_trans (Ara _ _) h.len
   rw[Aju who p l r at_ _ _ A 0 x hA,Mm];unfold Ji;simp only[Ga];simp only[Ajt who d B hdw A 0 hA,Nat.zero_add];rw[aP aB,aP (by simp[hdw])];obtain⟨L,e,r1,r2,r3,r4,r6⟩:=HB hp hf hs h hr1;rw[r1,r2];simp only[aG]
   by_cases he:e=0
   ·subst he;obtain⟨_,r5⟩:=r4 rfl;have hdE:d∈Zw r.Key (Gj l at_):=by rw[hE];exact hd
    obtain⟨_,k2,k3⟩:=EC hdE;have tm:=(h.ok d k3).time (.inl k2);obtain⟨c,c1,c2,c3⟩:=UK tm.1 tm.2;have hn:nth (A++d::B) ((A.length:Nat):Int)=d:=by unfold nth;simp
    have k1:Wm.size=7:=by decide
    have hin:inB ((A.length:Nat):Int) (A++d::B).length=true:=by rw[Fy];simp;omega
    rw[hn,c1,c2];simp only[aJ,bN,aO,aR,aG];rw[Fm (c:=inB _ _) hin]
    repeat rw[Fm (by simp only[ByteArray.size_append,aK];omega)]
    obtain⟨z,z1,z2,z3⟩:=Aem who r hk L 0 (r.Key++Wm++c) (by simp only[ByteArray.size_append];omega) λy hy=>(r5 y hy).2.2;have hroom:Ja x.length=true:=by unfold Ja;simp;omega
    rw[z1,z2,Fm hroom,Fm hroom,Agp who p l r at_ _ B _ _ hB];exact ih (x++[z]) aD λs hs=>by
     rcases bC.1 hs with hs|hs
     ·exact hxs s hs
     ·rw[bA.1 hs];exact z3
   ·obtain⟨e',f1,f2⟩:=XJ h r (hp.key r hr1);rw[r6] at f1;obtain rfl:=bH f1;refine⟨[],e,?_,?_,λ_=>rfl,f2,by simp,λs hs=>by cases hs⟩
    ·rw[aQ (by simpa using he)]
    ·rw[aQ (by simpa using he)]
theorem Of_both{p:Ge}{l:List An}(hM:MD l)(who:ByteArray)(at_:Int):∃e0 L e,Oh p l at_=some e0/\ON p l who at_=some (L,e)/\(e0≠0->e=e0/\L=[])/\
 (e0=0->∃a,Kn p l at_=some a/\(a≠0->e=a/\L=[])/\(a=0->∃L' e' b,Vu p l who at_=some (L',e')/\Lu who=some b/\(e'≠0->e=e'/\L=L')/\(e'=0->(b=true->e=0/\L=L')/\(b=false->e=5/\L=[]))/\(e'=0\/e'=12)/\L'.length<=1000/\∀s∈L',s.size<=1000)):=by
 obtain⟨e0,h1,h2,h3⟩:=SO p l at_
 by_cases he:e0=0
 ·obtain⟨hp,hG,hm,ho⟩:=h3 he;have hs:=hG.mom;obtain⟨a,a1,a2⟩:=RW hp hM.few hs (at_:=at_);unfold ON;rw[ho];simp only[aG,aJ,bN,aO,aR];unfold VB;rw[a2];simp only[aG,Ga]
  by_cases ha:a=0
  ·rw[aP (by simpa using ha)];obtain⟨L,e,c1,c2,c3,c4⟩:=of_l hp hM.few hs (hM.fm hG at_) who p.Races 0 [] (λ_ h=>h) (by have:=hp.len;simp;omega) (λ_ h=>by cases h);rw[c1];simp only[aG];obtain⟨b,b1,b2⟩:=We who;have hto:Vu p l who at_=some (L,e):=by unfold Vu;rw[Ga];exact c2
   by_cases hz:e=0
   ·subst hz;rw[b1];simp only[aJ,bN,aO,aR,aG]
    cases b with
    |true=>exact⟨e0,L,0,h1,rfl,λh=>absurd he h,λ_=>⟨a,a1,λh=>absurd ha h,λ_=>⟨L,0,true,hto,b2,λh=>absurd rfl h,λ_=>⟨λ_=>⟨rfl,rfl⟩,λh=>absurd h aC⟩,c4⟩⟩⟩
    |false=>exact⟨e0,[],5,h1,rfl,λh=>absurd he h,λ_=>⟨a,a1,λh=>absurd ha h,λ_=>⟨L,0,false,hto,b2,λh=>absurd rfl h,λ_=>⟨λh=>absurd h aC,λ_=>⟨rfl,rfl⟩⟩,c4⟩⟩⟩
   ·rw[aQ (by simpa using hz)];exact⟨e0,[],e,h1,rfl,λh=>absurd he h,λ_=>⟨a,a1,λh=>absurd ha h,λ_=>⟨L,e,b,hto,b2,λ_=>⟨rfl,(c3 hz).symm⟩,λh=>absurd h hz,c4⟩⟩⟩
  ·rw[aQ (by simpa using ha)];simp only[aG];rw[aQ (by simpa using ha)];exact⟨e0,[],a,h1,rfl,λh=>absurd he h,λ_=>⟨a,a1,λ_=>⟨rfl,rfl⟩,λh=>absurd h ha⟩⟩
 ·refine⟨e0,[],e0,h1,?_,λ_=>⟨rfl,rfl⟩,λh=>absurd h he⟩;have ho:=h2 he;unfold ON;rw[ho];simp only[aG];rw[aQ (by simpa using he)]
theorem Ajv(c:Fi->Fi->Int)(l:List Fi)(hl:l.length<=19):Ie c l=some (Si (λx y=>decide (c x y<0)) l):=by
 have hs:Hk c l 0 (l.length:Int)=some (Si (λx y=>decide (c x y<0)) l):=by
  unfold Hk;simp only[Ga];have hins:∀(k:List Fi->Option (List Fi)) (rp:List Fi) (x:Fi) (post:List Fi),((rp++x::post).length:Int)=(l.length:Int)->(∀y,y∈rp\/y=x\/y∈post->y∈(rp++x::post))->
   Hn c 0 k (((rp.length:Int)-0).toNat+2) (rp.reverse++x::post) (rp.length:Int)=k ((AX (λx y=>decide (c x y<0)) x rp).reverse++post):=by
   intro k rp x post h1 _;exact Adk (λx y k=>k (decide (c x y<0))) _ k (Hn c 0 k) (λ_ _ _=>rfl) rp x post _ aA (by simp at h1;omega) λy _ k'=>rfl
  cases l with
  |nil=>rfl
  |cons x l=>
   have hw:W (0+1)=(([x]:List Fi).length:Int):=rfl;rw[hw];exact SJ _ (λx=>some x) (λk x i=>Hn c 0 k ((i-0).toNat+2) x i) (Ij c ((x::l).length:Int) 0 λx=>some x) ((x::l).length:Int) (λ_ _ _=>rfl)
    (λk rp x post h1 h2=>hins k rp x post h1 h2) l [x] _ (by simp only[aT,aW];omega) (by simp only[aT,aW];omega) (by simp only[aT,aW] at hl ⊢;omega)
 unfold Ie Ou;simp only[Ga];rw[Jy,aP aD,hs];simp only[aG];rw[Hr,aP aD];rfl
theorem HZ{l:List Fi}{e:Int}(h0:0<=e)(h1:e<l.length):nth l e∈l:=List.mem_of_getElem? (Gd (Fy.2 ⟨h0,h1⟩)).1
theorem midS{l h:Int}(h0:0<=l)(h1:l<=h)(h2:h<=100000):W (Py .u64 (IntKind.wrap .u64 (W (l+h))) 1)=(l+h) / 2:=by
 have e1:W (l+h)=l+h:=Hl aA aA;have e2:IntKind.wrap .u64 (l+h)=l+h:=by
  simp only[IntKind.wrap,IntKind.bits,IntKind.signed];simp;omega
 have e3:Py .u64 (l+h) 1=(l+h) / 2:=by
  unfold Py;have:(min (1:Int).toNat IntKind.u64.bits)=1:=by decide
  rw[this];exact Int.fdiv_eq_ediv_of_nonneg _ aC
 rw[e1,e2,e3,Hl aA aA]
section
variable (c:Fi->Fi->Int)(l:List Fi)(hl:l.length<=1000)(h:∀x∈l,∀y∈l,c x y=0)
include hl h
theorem gins_l(a b:Int)(h0:0<=a)(hb:b<=l.length)(j:List Fi->Option (List Fi)):∀(m:Nat) (i:Int),(b-i).toNat<m->a<i->Ij c b a j m l i=j l
 |0,i,h1,h2=>by omega
 |m+1,i,h1,h2=>by
  rw[Ij]
  by_cases hi:i<b
  ·have w1:W (i-1)=i-1:=Hl aA aA
   have w2:W (i+1)=i+1:=Hl aA aA
   rw[aQ (aH hi),Ga,Hn]
   simp only[Ga]
   rw[aQ (aH h2),Mo (Fy.2 aA),w1,Mo (Fy.2 aA),h _ (HZ aA aA) _ (HZ aA aA),aP aB,w2]
   exact gins_l a b h0 hb j m (i+1) aA aA
  ·rw[aP (by simpa using hi)]
theorem Apd{a b:Int}(h0:0<=a)(ha:a<=l.length)(hb:b<=l.length):Hk c l a b=some l:=by
 unfold Hk;rw[Ga,Hl aA aA];exact gins_l c l hl h a b h0 hb _ _ _ aA aA
theorem gm1(a m:Int)(h0:0<=a)(ha:a<m)(j:Int->Option (List Fi)):∀(f:Nat) (q:Int),q-m<(f:Int)->m<=q->q<=l.length->Kk c l a j f m q=j m
 |0,q,h1,h2,_=>by omega
 |f+1,q,h1,h2,h3=>by
  rw[Kk]
  by_cases hq:m<q
  ·rw[aQ (aH hq),Ga,midS aA h2 aA,Mo (Fy.2 aA),Mo (Fy.2 aA),Ga,h _ (HZ aA aA) _ (HZ aA aA),aP aB]
   exact gm1 a m h0 ha j f _ aA aA aA
  ·rw[aP (by simpa using hq)]
theorem gm3(m:Int)(hm:m<l.length)(j:Int->Option (List Fi)):∀(f:Nat) (p:Int),m-p<(f:Int)->0<=p->p<=m->Kl c m l j f p m=j m
 |0,p,h1,h2,_=>by omega
 |f+1,p,h1,h2,h3=>by
  rw[Kl]
  by_cases hq:p<m
  ·rw[aQ (aH hq),Ga,midS aA h3 aA,Mo (Fy.2 aA),Mo (Fy.2 aA),Ga,h _ (HZ aA aA) _ (HZ aA aA),aQ aB,Hl aA aA]
   exact gm3 m hm j f _ aA aA aA
  ·obtain rfl:p=m:=by omega
   rw[aP aB]
theorem gm5(a b m n q:Int)(h0:0<=a)(hab:a<=b)(hb:b<=l.length)(hn:W ((W (Py .u64 (IntKind.wrap .u64 (W (a+b))) 1))+m)=n)(hn2:n<=5000)(j:Int->Option (List Fi)):∀(f:Nat) (p:Int),q-p<(f:Int)->0<=p->p<=q->q<=l.length->(∀k,p<=k->k<q->0<=n-1-k/\n-1-k<l.length)->Km c a b m l j f p q=j q
 |0,p,h1,h2,_,_,_=>by omega
 |f+1,p,h1,h2,h3,h4,h5=>by
  rw[Km]
  by_cases hq:p<q
  ·have h6:=h5 ((p+q) / 2) aA aA
   rw[aQ (aH hq),Ga,midS h2 h3 aA,hn,Hl (n:=n-1) aA aA,Hl (n:=n-1-(p+q) / 2) aA aA,Mo (Fy.2 h6),Mo (Fy.2 aA),Ga,h _ (HZ h6.1 h6.2) _ (HZ aA aA),aQ aB,Hl aA aA]
   exact gm5 a b m n q h0 hab hb hn hn2 j f _ aA aA aA h4 λk hk=>h5 k aA
  ·obtain rfl:p=q:=by omega
   rw[aP aB]
theorem SQ:∀(f:Nat) (a m b:Int),b-a<=2 ^ f->0<=a->a<m->m<b->b<=l.length->Iu c f l a m b=some l
 |0,a,m,b,h1,h2,h3,h4,h5=>by simp at h1;omega
 |f+1,a,m,b,h1,h2,h3,h4,h5=>by
  have w1:W (m-a)=m-a:=Hl aA aA
  have w2:W (b-m)=b-m:=Hl aA aA
  rw[Iu]
  unfold Pb
  simp only[Ga]
  rw[w1,w2]
  by_cases c1:m-a=1
  ·rw[aQ (aH c1),gm1 c l hl h a m h2 h3 _ _ _ aA aA h5,Mi,Hl aA aA,aP aD]
  ·rw[aP (by simpa using c1)]
   by_cases c2:b-m=1
   ·rw[aQ (aH c2),gm3 c l hl h m aA _ _ _ aA h2 aA,Mj,aP aB]
   ·have hp:∀x:Int,x<=2 ^ (f+1)->(x+1) / 2<=2 ^ f:=λx hx=>by rw[Int.pow_succ] at hx;omega
    have hp1:=hp _ h1
    have hmd:=midS h2 (show a<=b by omega) aA
    have hn:W ((W (Py .u64 (IntKind.wrap .u64 (W (a+b))) 1))+m)=(a+b) / 2+m:=by rw[hmd];exact Hl aA aA
    rw[aP (by simpa using c2),hn,hmd]
    by_cases c3:(a+b) / 2<m
    ·rw[aQ (aH c3),Hl (n:=(a+b) / 2+m-b) aA aA,gm5 c l hl h a b m _ _ h2 aA h5 hn aA _ _ _ aA aA aA aA λk k1 k2=>by omega]
     have e:W ((a+b) / 2+m-(a+b) / 2)=m:=by rw[show (a+b) / 2+m-(a+b) / 2=m by omega];exact Hl aA aA
     rw[e,aP aB,aP aB]
     by_cases c4:(a+b) / 2<m/\m<b
     ·rw[aQ (by simpa using c4),SQ f _ _ _ aA aA aA aA h5]
      rfl
     ·rw[aP (by simpa using c4)]
    ·rw[aP (by simpa using c3),gm5 c l hl h a b m _ _ h2 aA h5 hn aA _ _ _ aA aA aA aA λk k1 k2=>by omega]
     have e:W ((a+b) / 2+m-m)=(a+b) / 2:=by rw[show (a+b) / 2+m-m=(a+b) / 2 by omega];exact Hl aA aA
     rw[e,aP aB]
     by_cases c4:a<m/\m<(a+b) / 2
     ·rw[aQ (by simpa using c4),SQ f _ _ _ aA aA aA aA aA]
      simp only[aG]
      rw[aP aB]
     ·rw[aP (by simpa using c4),aP aB]
theorem gst1(j:List Fi->Int->Option (List Fi)):∀(f:Nat) (a:Int),((l.length:Int)-(a+20)+1).toNat<f->0<=a->a<=l.length->∃a':Int,0<=a'/\a'<=l.length/\Jy c (l.length:Int) j f l a (a+20)=j l a'
 |0,a,h1,h2,h3=>by omega
 |f+1,a,h1,h2,h3=>by
  rw[Jy]
  by_cases hq:a+20<=l.length
  ·rw[aQ (aH hq),Apd c l hl h h2 h3 hq]
   simp only[aG]
   rw[Hl aA aA]
   exact gst1 j f (a+20) aA aA hq
  ·rw[aP (by simpa using hq)]
   exact⟨a,h2,h3,rfl⟩
theorem gst3(s:Int)(hs:0<s)(hs2:s<=1000)(j:List Fi->Int->Option (List Fi)):∀(f:Nat) (a:Int),((l.length:Int)-(a+2*s)+1).toNat<f->0<=a->a<=l.length->∃a':Int,0<=a'/\a'<=l.length/\Lh c (l.length:Int) s j f l a (a+2*s)=j l a'
 |0,a,h1,h2,h3=>by omega
 |f+1,a,h1,h2,h3=>by
  have w1:W (2*s)=2*s:=Hl aA aA
  rw[Lh,w1]
  by_cases hq:a+2*s<=l.length
  ·rw[aQ (aH hq),Hl aA aA,SQ c l hl h 16 _ _ _ aD h2 aA aA hq]
   simp only[aG]
   rw[Hl aA aA]
   exact gst3 s hs hs2 j f (a+2*s) aA aA hq
  ·rw[aP (by simpa using hq)]
   exact⟨a,h2,h3,rfl⟩
theorem gst2(j:List Fi->Option (List Fi)):∀(f:Nat) (s:Int),((l.length:Int)-s).toNat<f->0<s->Hr c (l.length:Int) j f l s=j l
 |0,s,h1,h2=>by omega
 |f+1,s,h1,h2=>by
  rw[Hr]
  by_cases hq:s<l.length
  ·rw[aQ (aH hq)]
   simp only[Ga]
   have w1:W (2*s)=0+2*s:=by rw[Hl aA aA];omega
   have w2:W (s*2)=s*2:=Hl aA aA
   rw[w1,w2]
   have ih:=gst2 j f (s*2) aA aA
   obtain⟨a',g1,g2,e⟩:=gst3 c l hl h s h2 aA (fun(x6:List Fi) (x7:Int)=>if decide (W (x7+s)<(l.length:Int)) then Option.bind (Iu c 16 x6 x7 (W (x7+s)) (l.length:Int)) (λr4=>Hr c (l.length:Int) j f r4 (s*2)) else Hr c (l.length:Int) j f x6 (s*2)) (((l.length:Int)-(0+2*s)).toNat+2) 0 aA aA aA
   refine e.trans ?_
   show (if _ then _ else _)=_
   rw[Hl aA aA]
   by_cases hc:a'+s<l.length
   ·rw[aQ (aH hc),SQ c l hl h 16 _ _ _ aD g1 aA hc aA]
    exact ih
   ·rw[aP (by simpa using hc)]
    exact ih
  ·rw[aP (by simpa using hq)]
theorem Ajw:Ie c l=some l:=by
 unfold Ie Ou;rw[Ga];obtain⟨a',g1,g2,e⟩:=gst1 c l hl h (fun(x1:List Fi) (x2:Int)=>Option.bind (Hk c x1 x2 (l.length:Int)) λr2=>Fq (fun(x4:List Fi)=>some x4) λj2=>Hr c (l.length:Int) j2 (((l.length:Int)-20).toNat+2) r2 20) (((l.length:Int)-20).toNat+2) 0 aA aA aA;rw[show ((0:Int)+20)=20 from rfl] at e;rw[e,Apd c l hl h g1 g2 aA];simp only[aG];rw[Ga,gst2 c l hl h _ _ _ aA aA];rfl
end
structure Aen(p:Gf):Prop where
 low:1<=p.Low
 high:p.Low<=p.High
 ten:p.High<=10
 least:1<=p.Least/\p.Least<=p.High-p.Low+1
 circ:1<=p.Circles/\p.Circles<=10
theorem Aeo(p:Gf):Mw p=Nk p/\(Mw p=0->Aen p):=by
 unfold Mw Nk Fv Hd;refine⟨?_,λh=>?_⟩
 ·congr 1
  simp only[Bool.or_comm,Bool.or_left_comm,Bool.or_assoc]
 ·by_cases hc:(decide (10<p.High)|| !(decide (1<=p.Low) && decide (p.Low<=p.High))|| !(decide (1<=p.Least) && decide (p.Least<=W (W (p.High-p.Low)+1)))|| !(decide (1<=p.Circles) && decide (p.Circles<=10)))=true
  ·rw[aQ hc] at h
   cases h
  ·simp only[Bool.or_eq_true,Bool.not_eq_true',Bool.and_eq_false_iff,aL,aK,not_or,Int.not_le,Int.not_lt] at hc;obtain⟨⟨⟨h1,h2⟩,h3⟩,h4⟩:=hc;have hw:W (W (p.High-p.Low)+1)=p.High-p.Low+1:=by rw[Hl (n:=p.High-p.Low) aA aA,Hl aA aA]
   rw[hw] at h3;exact⟨by omega,by omega,h1,by omega,by omega⟩
theorem lan1(a b c d:Int)(j:List Int->Option (List Int)):∀(m:Nat) (x:List Int) (i:Int),Tk (Gf.mk a b c d) j m x i=Tk (Gf.mk a b 0 0) j m x i
 |0,_,_=>rfl
 |m+1,x,i=>by
  rw[Tk,Tk]
  simp only[Ga,lan1 a b c d j m]
theorem lan2(a b c d:Int)(j:List Int->Option (List Int)):∀(m:Nat) (x:List Int) (i k:Int),Og (Gf.mk a b c d) j m x i k=Og (Gf.mk a b 0 0) j m x i k
 |0,_,_,_=>rfl
 |m+1,x,i,k=>by
  rw[Og,Og]
  simp only[Ga,lan2 a b c d j m]
def lanOk(a b:Nat):Bool:=match Yj (Gf.mk (a:Int) (b:Int) 0 0),Qf (Gf.mk (a:Int) (b:Int) 0 0) with
 |some L,some M=>decide (L=M) && decide ((L.length:Int)=(b:Int)-(a:Int)+1) && decide L.Nodup && L.all λz=>decide (0<=z) && decide (z<=10)
 |_,_=>false
theorem lan_all:∀a:Fin 11,∀b:Fin 11,1<=a.val->a.val<=b.val->lanOk a.val b.val=true:=by decide+kernel
theorem Abs{p:Gf}(h:Aen p):∃L,Yj p=some L/\Qf p=some L/\(L.length:Int)=p.High-p.Low+1/\L.Nodup/\∀z∈L,0<=z/\z<=10:=by
 obtain⟨h1,h2,h3,_,_⟩:=h;obtain⟨lo,hi,c,d⟩:=p;simp only at h1 h2 h3;have e1:Yj (Gf.mk lo hi c d)=Yj (Gf.mk lo hi 0 0):=by
  unfold Yj;simp only[Ga,lan1 lo hi c d]
 have e2:Qf (Gf.mk lo hi c d)=Qf (Gf.mk lo hi 0 0):=by
  unfold Qf;simp only[Ga,lan2 lo hi c d]
 have k:=lan_all ⟨lo.toNat,by omega⟩ ⟨hi.toNat,by omega⟩ aD aD;simp only[lanOk,show ((lo.toNat:Nat):Int)=lo by omega,show ((hi.toNat:Nat):Int)=hi by omega] at k;rw[e1,e2]
 split at k
 ·rename_i L M g1 g2;simp only[bQ,aK] at k;obtain⟨⟨⟨rfl,k2⟩,k3⟩,k4⟩:=k;exact⟨L,g1,g2,k2,k3,λz hz=>by simpa using List.all_eq_true.1 k4 z hz⟩
 ·cases k
theorem hs_l(p:Gf)(n L q:Int)(hL:W (W (p.High-p.Low)+1)=L)(hq:W (Int.tdiv (W (W (n+L)-1)) L)=q)(hq2:q<=1000)(j:List Int->Option (List Int×Int)):∀(m:Nat) (x:List Int) (i:Int),(q-i).toNat<m->1<=i->i<=q->x.length+(q-i)<=1000->
 Wo n p j m x i=j (x++List.replicate (q-i).toNat L)
 |0,x,i,h,_,_,_=>by omega
 |m+1,x,i,h1,h2,h3,h4=>by
  rw[Wo]
  simp only[Ga]
  rw[hL,hq]
  by_cases hc:i<q
  ·rw[aQ (aH hc),aP aD,Mo (by unfold Ja;exact aH aA),Hl aA aA,hs_l p n L q hL hq hq2 j m _ (i+1) aA aA aA aD]
   rw[show (q-i).toNat=(q-(i+1)).toNat+1 by omega,List.replicate_succ,List.append_assoc]
   rfl
  ·rw[aP (by simpa using hc),show (q-i).toNat=0 by omega]
   simp
theorem rs_l(p:Gf)(L r:Int)(hL:W (W (p.High-p.Low)+1)=L)(hL2:1<=L/\L<=10)(hr:1<=r/\r<=L)(j:List Int->Option (List Int×Int)):∀(k m:Nat) (x:List Int),k+1<m->x.length+k<=1000->k<=1000->
 Ms p j m x ((k:Int)*L+r)=j (x++(List.replicate k L++[r]))
 |0,m,x,h1,h2,_=>by
  obtain⟨m,rfl⟩:∃q,m=q+2:=⟨m-2,by omega⟩
  rw[show ((0:Nat):Int)*L+r=r by simp,Ms,hL,aQ (aH aA),Mo (by unfold Ja;exact aH aA),Hl aA aA,Ms,aP aD]
  unfold Xp
  rw[aP aA]
  simp
 |k+1,m,x,h1,h2,h3=>by
  obtain⟨m,rfl⟩:∃q,m=q+1:=⟨m-1,by omega⟩
  have e:((k+1:Nat):Int)*L+r=(k:Int)*L+r+L:=by rw[Int.natCast_add,Int.add_mul];simp;omega
  have h0:0<=(k:Int)*L:=Int.mul_nonneg aA aA
  have h9:(k:Int)*L<=(k:Int)*10:=Int.mul_le_mul_of_nonneg_left aA aA
  rw[e,Ms,hL,aQ (aH aA),Mo (by unfold Ja;exact aH aA),Hl aA aA,show (k:Int)*L+r+L-L=(k:Int)*L+r by omega,rs_l p L r hL hL2 hr j k m _ aA aD aA]
  unfold Xp
  rw[aQ aA,List.replicate_succ,List.append_assoc]
  rfl
theorem rs_2(p:Gf)(hp:1<=p.Least/\p.Least<=10)(j:List Int->Option (List Int×Int))(t:List Int):∀(d m:Nat) (u v:Int),d<m->u<=p.Least->p.Least<=v->0<=u->v<=20->(d:Int)=Xp (p.Least-u) (v-p.Least)->
 Kx p j m (u::v::t)=j ((u+d)::(v-d)::t)
 |0,m,u,v,h1,h2,h3,_,_,h4=>by
  obtain⟨m,rfl⟩:∃q,m=q+1:=⟨m-1,by omega⟩
  have n0:nth (u::v::t) 0=u:=rfl
  have n1:nth (u::v::t) 1=v:=rfl
  have hl:(1:Int)<((u::v::t).length:Int):=by simp;omega
  rw[Kx]
  simp only[Ga]
  rw[aQ (aH hl),Mo (Fy.2 aA),n0,n1]
  unfold Xp at h4
  by_cases hu:u<p.Least
  ·have hv:¬p.Least<v:=by split at h4<;>omega
   rw[aQ (by simp[hu];omega),Mo (Fy.2 aA),aP (by simp[hv])]
   simp
  ·rw[aP (by simp[hu]),aP (by simp[hu])]
   simp
 |d+1,m,u,v,h1,h2,h3,h5,h6,h4=>by
  obtain⟨m,rfl⟩:∃q,m=q+1:=⟨m-1,by omega⟩
  have n0:nth (u::v::t) 0=u:=rfl
  have n1:nth (u::v::t) 1=v:=rfl
  have hl:(1:Int)<((u::v::t).length:Int):=by simp;omega
  have hu:u<p.Least:=by unfold Xp at h4;split at h4<;>omega
  have hv:p.Least<v:=by unfold Xp at h4;split at h4<;>omega
  have hd:(d:Int)=Xp (p.Least-(u+1)) (v-1-p.Least):=by
   unfold Xp at h4 ⊢
   by_cases g:v-p.Least<p.Least-u
   ·rw[aQ g] at h4;rw[aQ aA];omega
   ·rw[aP g] at h4;rw[aP aA];omega
  rw[Kx];simp only[Ga];have hb:inB 0 (u::v::t).length=true:=Fy.2 aA;have hb1:inB 1 (u::v::t).length=true:=Fy.2 aA;rw[aQ (aH hl),Mo hb,n0,n1];have hc:(decide (1<((u::v::t).length:Int)) && decide (u<p.Least))=true:=by rw[aH hl,aH hu];rfl
  have w1:W (u+1)=u+1:=Hl aA aA;have w2:W (v-1)=v-1:=Hl aA aA;have s1:nth ((u::v::t).set ((0:Int).toNat) (u+1)) 1=v:=rfl;have hbs:inB 1 ((u::v::t).set ((0:Int).toNat) (u+1)).length=true:=by rw[List.length_set];exact hb1
  rw[aQ hc,Mo hb1,aQ (by rw[hc,aH hv];rfl),w1,Mo hb,Mo hb,Mo hbs,Mo hbs,s1,w2];have ih:=rs_2 p hp j t d m (u+1) (v-1) aA aA aA aA aA hd;refine Eq.trans ?_ (ih.trans ?_)
  ·rfl
  ·rw[show u+1+(d:Int)=u+((d+1:Nat):Int) by omega,show v-1-(d:Int)=v-((d+1:Nat):Int) by omega]
structure SzG(p:Gf)(n:Int)(Z:List Int):Prop where
 len:Z.length<=60
 sum:Z.sum=n
 each:∀z∈Z,0<=z/\z<=p.High-p.Low+1
theorem Agq(L:Int):∀k:Nat,(List.replicate k L).sum=(k:Int)*L
 |0=>by simp
 |k+1=>by rw[List.replicate_succ,List.sum_cons,Agq L k,Int.natCast_add,Int.add_mul];simp;omega
theorem Amk{p:Gf}(h:Aen p)(n:Int)(h0:0<=n)(h1:n<=300):∃Z e,JT p n=some (Z,e)/\Zq p n=some (Z,e)/\(e≠0->e=2)/\(e=0->SzG p n Z):=by
 obtain⟨p1,p2,p3,p4,p5⟩:=h;obtain⟨L,hLe⟩:∃L,p.High-p.Low+1=L:=⟨_,rfl⟩;have hL:W (W (p.High-p.Low)+1)=L:=by rw[Hl (n:=p.High-p.Low) aA aA,Hl aA aA,hLe]
 have hL2:1<=L/\L<=10:=by omega
 obtain⟨q,hqe⟩:∃q,(n+L-1) / L=q:=⟨_,rfl⟩;have hq:W (Int.tdiv (W (W (n+L)-1)) L)=q:=by
  rw[Hl (n:=n+L) aA aA,Hl (n:=n+L-1) aA aA,Int.tdiv_eq_ediv_of_nonneg aA,hqe];have:0<=(n+L-1) / L:=Int.ediv_nonneg aA aA;have:(n+L-1) / L<=n+L-1:=Int.ediv_le_self _ aA;exact Hl aA aA
 have q1:q*L<=n+L-1:=by rw[←hqe];exact Int.ediv_mul_le _ aA
 have q2:n+L-1<q*L+L:=by have:=Int.lt_ediv_add_one_mul_self (n+L-1) (show 0<L by omega);rw[hqe,Int.add_mul] at this;omega
 have q3:0<=q:=by rw[←hqe];exact Int.ediv_nonneg aA aA
 have q5:q<=n+L-1:=by rw[←hqe];exact Int.ediv_le_self _ aA
 have q4:q<=310:=by omega
 unfold JT Zq;simp only[Ga];rw[hL,hq,Mo aD]
 by_cases hn:n=0
 ·have hz:q=0:=by rcases Int.lt_trichotomy q 0 with g|g|g<;>first|omega|(have:=Int.mul_le_mul_of_nonneg_right (show 1<=q by omega) (show 0<=L by omega);omega)
  subst hn hz;rw[aP aB,Wo,hL,hq,aP aB,aP aB,aP aB,Ms,aP aB,aP aB,UB _ aB];simp only[aG,List.reverse_nil];rw[Kx];simp only[Ga];rw[aP aB,aP aB,aP aB];exact⟨[],0,rfl,rfl,λh=>absurd rfl h,λ_=>⟨by simp,by simp,λz hz=>absurd hz aB⟩⟩
 ·have hq1:1<=q:=by
   rcases Int.lt_or_le q 1 with g|g
   ·have:q=0:=by omega
    subst this;omega
   ·exact g
  obtain⟨k,hk⟩:∃k:Nat,q=(k:Int)+1:=⟨(q-1).toNat,by omega⟩;have hqL:q*L=(k:Int)*L+L:=by rw[hk,Int.add_mul];omega
  obtain⟨r,hr⟩:∃r,n=(k:Int)*L+r:=⟨n-(k:Int)*L,by omega⟩;have hr1:1<=r/\r<=L:=by omega
  have hkL:(k:Int)<=(k:Int)*L:=by have:=Int.mul_le_mul_of_nonneg_left (show 1<=L by omega) (show 0<=(k:Int) by omega);omega
  have href:=rs_l p L r hL hL2 hr1 (fun(x1:List Int)=>if decide (60<(x1.length:Int))=true then some (([]:List Int),(2:Int)) else Option.bind (Pd x1) λr1=>Kx p (λx3=>some (x3,0)) 4611686018427387904 r1) k ((n-0).toNat+2) [] aA aD aA;rw[←hr] at href;rw[href];simp only[aZ];have hlen:(List.replicate k L++[r]).length=k+1:=by simp
  by_cases hs:60<q
  ·rw[aQ (aH hs),aQ (aH aD)];exact⟨[],2,rfl,rfl,λ_=>rfl,λh=>absurd h aC⟩
  ·rw[aP (by simpa using hs),aP aD,UB _ (by rw[hlen];omega)];simp only[aG,List.reverse_append,List.reverse_replicate,List.reverse_cons,List.reverse_nil,aZ,List.singleton_append];have hfirst:W (n-W (L*W (q-1)))=r:=by
    have e1:W (q-1)=(k:Int):=by rw[Hl aA aA];omega
    have e2:L*(k:Int)=(k:Int)*L:=Int.mul_comm _ _;have e3:0<=(k:Int)*L:=Int.mul_nonneg aA aA;rw[e1,e2,Hl (n:=(k:Int)*L) aA aA,Hl aA aA];omega
   rw[Wo];simp only[Ga];rw[hL,hq,aQ (aH aA),aQ aB,Mo (by unfold Ja;simp),hfirst,show W ((0:Int)+1)=1 from rfl,aZ,hs_l p n L q hL hq aA _ _ _ 1 aA aA hq1 aD,List.singleton_append,show (q-1).toNat=k by omega]
   cases k with
   |zero=>
    obtain rfl:q=1:=by omega
    rw[List.replicate_zero,aP aB,aP aB,Kx];simp only[Ga];rw[aP aB,aP aB,aP aB];exact⟨[r],0,rfl,rfl,λh=>absurd rfl h,λ_=>⟨by simp,by simp at hr ⊢;omega,λz hz=>by simp at hz;omega⟩⟩
   |succ k=>
    have hq2:1<q:=by omega
    have n0:nth (r::List.replicate (k+1) L) 0=r:=rfl;have n1:nth (r::List.replicate (k+1) L) 1=L:=rfl;have hb:inB 0 (r::List.replicate (k+1) L).length=true:=Fy.2 aD;have hb1:inB 1 (r::List.replicate (k+1) L).length=true:=Fy.2 aD;rw[aQ (aH hq2),Mo hb,n0,n1,aH hq2,bO]
    by_cases hu:r<p.Least
    ·obtain⟨d,hd⟩:∃d:Nat,(d:Int)=Xp (p.Least-r) (L-p.Least):=⟨(Xp (p.Least-r) (L-p.Least)).toNat,by unfold Xp;split<;>omega⟩;have hd2:(d:Int)<=p.Least-r/\(d:Int)<=L-p.Least:=by unfold Xp at hd;split at hd<;>omega
     have w1:W (p.Least-r)=p.Least-r:=Hl aA aA;have w2:W (L-p.Least)=L-p.Least:=Hl aA aA;have w3:W (r+d)=r+d:=Hl aA aA;have w4:W (L-d)=L-d:=Hl aA aA;have s1:nth ((r::List.replicate (k+1) L).set ((0:Int).toNat) (r+d)) 1=L:=rfl;have hbs:inB 1 ((r::List.replicate (k+1) L).set ((0:Int).toNat) (r+d)).length=true:=by rw[List.length_set];exact hb1
     rw[aQ (aH hu),w1,w2,←hd,w3,Mo hb,Mo hb1,Mo hb,Mo hb,Mo hbs,Mo hbs,s1,w4];rw[List.replicate_succ,rs_2 p ⟨p4.1,by omega⟩ _ _ d _ r L aA aA aA aA aA hd];refine⟨(r+(d:Int))::(L-(d:Int))::List.replicate k L,0,rfl,rfl,λh=>absurd rfl h,λ_=>⟨by simp;omega,?_,λz hz=>?_⟩⟩
     ·rw[List.sum_cons,List.sum_cons,Agq,hr,Int.natCast_add,Int.add_mul];simp;omega
     ·rcases bB.1 hz with rfl|hz
      ·omega
      ·rcases bB.1 hz with rfl|hz
       ·omega
       ·rw[List.eq_of_mem_replicate hz];omega
    ·rw[aP (by simpa using hu),Kx];simp only[Ga];have hl:(1:Int)<((r::List.replicate (k+1) L).length:Int):=by simp;omega
     rw[aQ (aH hl),Mo hb,n0,aP (by simp[hu]),aP (by simp[hu])];refine⟨_,0,rfl,rfl,λh=>absurd rfl h,λ_=>⟨by simp;omega,?_,λz hz=>?_⟩⟩
     ·rw[List.sum_cons,Agq,hr,Int.natCast_add,Int.add_mul];simp;omega
     ·rcases bB.1 hz with rfl|hz
      ·omega
      ·rw[List.eq_of_mem_replicate hz];omega
end Go.Proofs.YthlielagemkjcaaGreatDoor
