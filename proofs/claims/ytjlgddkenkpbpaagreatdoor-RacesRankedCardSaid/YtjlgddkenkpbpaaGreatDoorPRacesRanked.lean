/- The plain law of RacesRanked. No program stands here but its twins. -/
import Derived.Test.YtjlgddkenkpbpaaGreatDoorPPtsSum
import Derived.Test.YtjlgddkenkpbpaaGreatDoorPDeedMerge
import Derived.Test.YtjlgddkenkpbpaaGreatDoorPDeedNames
namespace Go.Proofs.YtjlgddkenkpbpaaGreatDoor
open Go
theorem add_frC{u v:Nat}(hu:u<=1000000000000)(hv:v<=1000000000000):GJ (frB u) (frB v)=some (frB (u+v)):=by
 obtain⟨n,d,e1,d1,d2,n1,p1⟩:=EB u;obtain⟨m,e,e2,d3,d4,m1,p2⟩:=EB v;unfold GJ;rw[e1,e2];simp only;have b1:=FE (a:=n) (b:=e) aA d4;have b2:=FE (a:=m) (b:=d) aA d2;have b3:=FE (a:=d) (b:=e) aA d4;rw[MA aA d4,MA aA d2,MA aA d4,←Int.natCast_add,Ng aA aA,WM (Nat.mul_pos d1 d3) (PW p1 p2) aA aA];rfl
theorem sortClM{l:List Et}(h:(l.map (·.Key)).Nodup)(hl:l.length<=1000000):Kc l=some (Sh WB l):=by
 unfold Kc;rw[aQ ⟨LW (f:=Et.Key) (λ_ _=>rfl) h,by omega⟩];exact congrArg some (JI (f:=Et.Key) (λ_ _=>rfl) h)
def EC(k:ByteArray)(ls:List Ec):Nat:=((ls.filter λy=>decide (y.Club=k)).map λy=>WQ y.Points).sum
theorem AI(k:ByteArray)(y:Ec)(ls:List Ec):EC k (y::ls)=(if y.Club=k then WQ y.Points else 0)+EC k ls:=by
 unfold EC
 by_cases h:y.Club=k
 ·rw[bR (by simpa using h),aQ h,aY,List.sum_cons]
 ·rw[bS (by simpa using h),aP h,Nat.zero_add]
theorem WV(k:ByteArray):∀(a b:List Ec),EC k (a++b)=EC k a+EC k b
 |[],b=>by simp[EC]
 |y::a,b=>by rw[List.cons_append,AI,AI,WV k a b];omega
theorem Abg(k:ByteArray):∀(ls:List Ec),(∀y∈ls,Pts y.Points)->EC k ls<=4000000000*ls.length
 |[],_=>by simp[EC]
 |y::ls,h=>by
  have h1:=Abg k ls λz hz=>h z (aM _ hz)
  have h2:=(h y aN).val.2
  rw[AI,aT]
  split<;>omega
theorem SN(k:ByteArray):∀(ls:List Ec),(∀y∈ls,y.Club≠k)->EC k ls=0
 |[],_=>by simp[EC]
 |y::ls,h=>by rw[AI,aP (h y aN),SN k ls λz hz=>h z (aM _ hz)]
theorem KW(j:List (ByteArray×Eb)->Option (List Et×Int)):∀(ys:List Dy) (i:Nat) (m:List (ByteArray×Eb)) (K:ByteArray->Prop) (u:ByteArray->Nat),MS m K u->(∀k,k≠An->¬K k->u k=0)->
 ∃m',Qx j ys i m=j m'/\MS m' (λk=>K k\/(k≠An/\∃d∈ys,d.Club=k)) u
 |[],i,m,K,u,h,_=>⟨m,Z,h.congr (λk=>⟨.inl,λh=>h.elim id fun⟨_,d,hd,_⟩=>absurd hd aB⟩) λ_ _=>rfl⟩
 |y::ys,i,m,K,u,h,h0=>by
  rw[Qx]
  simp only[Jp]
  by_cases hc:y.Club=An
  ·rw[aP (by simp[hc])]
   obtain⟨m',e,g⟩:=KW j ys (i+1) m K u h h0
   refine⟨m',e,g.congr (λk=>or_congr Iff.rfl ⟨fun⟨a,d,hd,b⟩=>⟨a,d,aM _ hd,b⟩,fun⟨a,d,hd,b⟩=>?_⟩) λ_ _=>rfl⟩
   rcases bB.1 hd with rfl|hd
   ·exact absurd (b.symm.trans hc) a
   ·exact⟨a,d,hd,b⟩
  ·by_cases hk:(Tc m y.Club).isSome=true
   ·rw[aP (by simp[hk])]
    obtain⟨m',e,g⟩:=KW j ys (i+1) m K u h h0
    have hK:K y.Club:=(h.keys _).1 ((WC _ _).1 hk)
    refine⟨m',e,g.congr (λk=>⟨λhh=>hh.imp id fun⟨a,d,hd,b⟩=>⟨a,d,aM _ hd,b⟩,λhh=>?_⟩) λ_ _=>rfl⟩
    rcases hh with hh|⟨a,d,hd,b⟩
    ·exact .inl hh
    ·rcases bB.1 hd with rfl|hd
     ·exact .inl (by rw[←b];exact hK)
     ·exact .inr ⟨a,d,hd,b⟩
   ·have hk':(Tc m y.Club).isSome=false:=by simpa using hk
    have z0:Eb.mk 0 1=frB 0:=KS
    rw[aQ (by simp[hc,hk']),z0]
    have hK:¬K y.Club:=λhK=>hk ((WC _ _).2 ((h.keys _).2 hK))
    have h1:=(h.put y.Club 0).congr (K':=λz=>z=y.Club\/K z) (u':=u) (λ_=>Iff.rfl) λk _=>by
     split
     ·rename_i e;rw[e,h0 _ hc hK]
     ·rfl
    obtain⟨m',e,g⟩:=KW j ys (i+1) _ _ u h1 λk hk hn=>h0 k hk λhh=>hn (.inr hh)
    refine⟨m',e,g.congr (λk=>⟨λhh=>?_,λhh=>?_⟩) λ_ _=>rfl⟩
    ·rcases hh with (hh|hh)|⟨a,d,hd,b⟩
     ·exact .inr ⟨by rw[hh];exact hc,y,aN,hh.symm⟩
     ·exact .inl hh
     ·exact .inr ⟨a,d,aM _ hd,b⟩
    ·rcases hh with hh|⟨a,d,hd,b⟩
     ·exact .inl (.inr hh)
     ·rcases bB.1 hd with rfl|hd
      ·exact .inl (.inl b.symm)
      ·exact .inr ⟨a,d,hd,b⟩
theorem PY(j:List (ByteArray×Eb)->Option (List Et×Int))(K:ByteArray->Prop)(hKe:¬K An):∀(ys:List Ec) (i:Nat) (m:List (ByteArray×Eb)) (u:ByteArray->Nat) (B:Nat),MS m K u->(∀y∈ys,y.Club≠An->K y.Club)->(∀y∈ys,Pts y.Points)->(∀k,u k<=B)->B+4000000000*ys.length<=900000000000->
 ∃m',Pu j ys i m=j m'/\MS m' K (λk=>u k+EC k ys)
 |[],i,m,u,B,h,_,_,_,_=>⟨m,Z,h.congr (λ_=>Iff.rfl) λ_ _=>rfl⟩
 |y::ys,i,m,u,B,h,h1,h2,h3,h4=>by
  simp only[aT] at h4
  obtain⟨e,hv⟩:=(h2 y aN).val
  have h1':∀z∈ys,z.Club≠An->K z.Club:=λz hz=>h1 z (aM _ hz)
  have h2':∀z∈ys,Pts z.Points:=λz hz=>h2 z (aM _ hz)
  rw[Pu]
  simp only[Jp]
  by_cases hc:y.Club=An
  ·rw[aP (by simp[hc])]
   obtain⟨m',e',g⟩:=PY j K hKe ys (i+1) m u B h h1' h2' h3 aA
   refine⟨m',e',g.congr (λ_=>Iff.rfl) λk hk=>?_⟩
   rw[AI,aP (λe=>hKe (by rw[←hc,e];exact hk)),Nat.zero_add]
  ·have hK:=h1 y aN hc
   have hu:=h3 y.Club
   generalize hvb:WQ y.Points=v at*
   rw[aQ (by simpa using hc),h.vals _ hK,e,add_frC aA aA]
   simp only[aG]
   have h5:=(h.put y.Club (u y.Club+v)).congr (K':=K) (u':=λz=>if z=y.Club then u y.Club+v else u z) (λk=>⟨λhh=>hh.elim (λe=>by rw[e];exact hK) id,.inr⟩) λ_ _=>rfl
   obtain⟨m',e',g⟩:=PY j K hKe ys (i+1) _ _ (B+4000000000) h5 h1' h2' (λk=>by
    have:=h3 k
    split<;>omega) aA
   refine⟨m',e',g.congr (λ_=>Iff.rfl) λk _=>?_⟩
   rw[AI,hvb]
   by_cases hk:k=y.Club
   ·rw[aQ hk,aQ hk.symm,hk];omega
   ·rw[aP hk,aP (λe=>hk e.symm)];omega
theorem PZ(j:List ByteArray->Option (List Et×Int)):∀(ys:List Dy) (i:Nat) (x:List ByteArray),x.length+ys.length<=1000000->Lq j ys i x=j (x++(ys.map (·.Club)).filter λk=>!decide (k=An))
 |[],i,x,_=>by simp[Lq]
 |y::ys,i,x,h=>by
  simp only[aT] at h
  rw[Lq]
  simp only[Jp,aY]
  by_cases hc:y.Club=An
  ·rw[aP (by simp[hc]),PZ j ys (i+1) x aA,bS (by simp[hc])]
  ·rw[aQ (by simpa using hc),Ep (by unfold Qi;exact aH aA),PZ j ys (i+1) _ aD,bR (by simpa using hc)]
   simp
theorem clubR(name:ByteArray)(lines:List Ec)(h1:∀y∈lines,Pts y.Points)(hl:lines.length<=200):Tx name lines=some (frB (EC name lines)):=by
 have loop:∀(ys:List Ec) (i a:Nat),(∀y∈ys,Pts y.Points)->a+4000000000*ys.length<=900000000000->Kb name (λx1 x2=>some (Eb.mk x1 x2)) ys i (frB a).Num (frB a).Den=some (frB (a+EC name ys)):=by
  intro ys
  induction ys with
  |nil=>intro i a _ _;simp[Kb,EC]
  |cons y ys ih=>
   intro i a h2 h3;simp only[aT] at h3;obtain⟨e,hv⟩:=(h2 y aN).val;rw[Kb,AI];simp only[Jp]
   by_cases hc:y.Club=name
   ·rw[aQ (aH hc),aQ hc];generalize hvb:WQ y.Points=v at*;have hp:Xh (Eb.mk (frB a).Num (frB a).Den) y.Points=some (frB (a+v)):=by
     rw[e];exact plus_frB aA aA
    rw[hp];simp only[aG];rw[ih (i+1) (a+v) (λz hz=>h2 z (aM _ hz)) aA,Nat.add_assoc]
   ·rw[aP (by simpa using hc),aP hc,ih (i+1) a (λz hz=>h2 z (aM _ hz)) aA,Nat.zero_add]
 unfold Tx;rw[Jp];have h0:=loop lines 0 0 h1 aA;have z0:frB 0=Eb.mk 0 1:=KS.symm;rw[z0,Nat.zero_add] at h0;exact h0
structure CJ(lines:List Ec)(names:List ByteArray)(m:List (ByteArray×Eb)):Prop where
 ms:MS m (λk=>k∈names) (λk=>EC k lines)
 pts:∀y∈lines,Pts y.Points
 club:∀y∈lines,y.Club≠An->y.Club∈names
 few:∀k∈names,k∈[Qr,Zz,k_A]
def FewC(F:List Dy):Prop:=∀d∈F,d.Club∈[Qr,Zz,An,k_A]
theorem MV{p:Ir}(hp:MT p){l:List Dy}{at_:Int}(hf:IF l)(hs:l.Pairwise λx y=>x.At<=y.At)(h:FM (Iw l at_))(hc:FewC (Iw l at_))(j:List (ByteArray×Eb)->Option (List Et×Int))(j':List Ec->List ByteArray->Option (List Et×Int)):
 ∀(ys:List Eh) (i:Nat) (m:List (ByteArray×Eb)) (lines:List Ec) (names:List ByteArray),(∀r∈ys,r∈p.Races)->CJ lines names m->lines.length+12*ys.length<=200->names.length+1000*ys.length<=200000->
 (∃e,e≠0/\Nx p (Iw l at_) j ys i m=some ([],e)/\Lt l at_ p j' ys i lines names=some ([],e))\/(∃m' lines' names',Nx p (Iw l at_) j ys i m=j m'/\Lt l at_ p j' ys i lines names=j' lines' names'/\CJ lines' names' m'/\lines'.length<=200/\names'.length<=200000)
 |[],i,m,lines,names,_,hJ,h1,h2=>.inr ⟨m,lines,names,Z,Z,hJ,by simpa using h1,by simpa using h2⟩
 |r::ys,i,m,lines,names,hy,hJ,h1,h2=>by
  simp only[aT] at h1 h2
  have hFl:=h.len
  have hel:=HA r.Key (Iw l at_)
  have hml:=DW r.Key (Iw l at_)
  have hEc:∀d∈BX r.Key (Iw l at_),d.Club∈[Qr,Zz,An,k_A]:=λd hd=>hc d (KL hd).2.2
  obtain⟨L,e,r1,r2,r3,r4⟩:=KU hp hf hs h (hy r aN)
  have hne:An∉names:=λhk=>by
   have:=hJ.few _ hk
   have hn:∀k∈[Qr,Zz,k_A],k≠An:=by decide+kernel
   exact hn _ this Z
  rw[Nx,Lt,AY p _ _ aA,CV l r.Key at_ hf hs]
  simp only[aG,Jp]
  rw[PZ _ _ 0 names aA]
  obtain⟨m1,q1,q2⟩:=KW (λx2=>Option.bind (Ua p (Iw l at_) r) λr3=>if !decide (r3.2=0) then some (([]:List Et),r3.2) else Pu (λx5=>Nx p (Iw l at_) j ys (i+1) x5) r3.1 0 x2) (BX r.Key (Iw l at_)) 0 m _ _ hJ.ms (λk hk hn=>SN k lines λy hy e=>hn (by rw[←e];exact hJ.club y hy (by rw[e];exact hk)))
  rw[q1,r1,r2]
  simp only[aG]
  by_cases he:e=0
  ·subst he
   simp only[aJ,bN,aO,aR]
   obtain⟨L1,L2⟩:=r4 Z
   generalize hN:names++((BX r.Key (Iw l at_)).map (·.Club)).filter (λk=>!decide (k=An))=N
   have hNm:∀k,k∈N↔k∈names\/(k≠An/\∃d∈BX r.Key (Iw l at_),d.Club=k):=λk=>by
    rw[←hN,bC,List.mem_filter,bD]
    simp only[Bool.not_eq_true',aL]
    exact or_congr Iff.rfl And.comm
   have hNf:∀k∈N,k∈[Qr,Zz,k_A]:=λk hk=>by
    rcases(hNm k).1 hk with hk|⟨hk,d,hd,rfl⟩
    ·exact hJ.few k hk
    ·have:=hEc d hd
     simp only[bB,bM,or_false] at this ⊢
     rcases this with h|h|h|h
     ·exact .inl h
     ·exact .inr (.inl h)
     ·exact absurd h hk
     ·exact .inr (.inr h)
   have q3:MS m1 (λk=>k∈N) (λk=>EC k lines):=q2.congr (λk=>(hNm k).symm) λ_ _=>rfl
   have hNe:An∉N:=λhk=>by
    have:=hNf _ hk
    have hn:∀k∈[Qr,Zz,k_A],k≠An:=by decide+kernel
    exact hn _ this Z
   have hLc:∀y∈L,y.Club≠An->y.Club∈N:=λy hy hk=>by
    obtain⟨_,⟨d,hd,_,hdc⟩,_⟩:=L2 y hy
    exact(hNm _).2 (.inr ⟨hk,d,hd,hdc⟩)
   obtain⟨m2,s1,s2⟩:=PY (λx5=>Nx p (Iw l at_) j ys (i+1) x5) (λk=>k∈N) hNe L 0 m1 _ (4000000000*lines.length) q3 hLc (λy hy=>(L2 y hy).1) (λk=>Abg k lines hJ.pts) aA
   rw[s1,Ep (aH aA)]
   have hNl:N.length<=names.length+1000:=by
    rw[←hN,aU];have:=List.length_filter_le (λk=>!decide (k=An)) ((BX r.Key (Iw l at_)).map (·.Club));rw[aV] at this;omega
   refine MV hp hf hs h hc j j' ys (i+1) m2 (lines++L) N (λz hz=>hy z (aM _ hz)) ⟨s2.congr (λ_=>Iff.rfl) λk _=>(WV k lines L).symm,λy hy=>?_,λy hy hk=>?_,hNf⟩ (by rw[aU];omega) aA
   ·rcases bC.1 hy with hy|hy
    ·exact hJ.pts y hy
    ·exact(L2 y hy).1
   ·rcases bC.1 hy with hy|hy
    ·exact(hNm _).2 (.inl (hJ.club y hy hk))
    ·exact hLc y hy hk
  ·rw[aQ (by simpa using he),aQ (by simpa using he)];exact .inl ⟨e,he,Z,Z⟩
theorem YX{p:Ir}(hp:MT p)(hr:p.Races.length<=16){l:List Dy}{at_:Int}(hf:IF l)(hs:l.Pairwise λx y=>x.At<=y.At)(h:FM (Iw l at_))(hc:FewC (Iw l at_)):
 ∃L e a,AQ p (Iw l at_)=some (L,e)/\Pk p l at_=some a/\(a≠0->e=a/\L=[])/\(a=0->Ud p l at_=some (L,e)):=by
 obtain⟨a,a1,a2⟩:=WT hp hf hs (at_:=at_);unfold AQ;rw[a2];simp only[aG,Jp]
 by_cases ha:a=0
 ·subst ha;simp only[aJ,bN,aO,aR];have h0:CJ [] [] []:=⟨⟨by simp,λk=>by simp,λk hk=>absurd hk aB⟩,λy hy=>absurd hy aB,λy hy=>absurd hy aB,λk hk=>absurd hk aB⟩;have key:=MV hp hf hs h hc (λx1=>XD x1 (λp=>Pv (λx8=>Option.bind (Kc x8) (λr5=>some (r5,0))) p ([]:List Et))) (λx1 x2=>Option.bind (Mq x2 x1) λr3=>some (r3,0)) p.Races 0 [] [] [] (λ_ h=>h) h0 aD aD;unfold Ud;rw[Jp];rcases key with ⟨e,he,k1,k2⟩|⟨m,lines,names,k1,k2,k3,k4,k5⟩
  ·exact⟨[],e,0,k1,a1,λh=>absurd Z h,λ_=>k2⟩
  ·refine⟨(FF names).map λk=>Et.mk k (frB (EC k lines)),0,0,?_,a1,λh=>absurd Z h,λ_=>?_⟩
   ·rw[k1];have hml:m.length<=3:=by
     have:=HF (m.map (·.1)) [Qr,Zz,k_A] k3.ms.nd λk hk=>k3.few k ((k3.ms.keys k).1 hk);rw[aV] at this;exact this
    refine ZA λq hq=>?_;have hql:q.length=m.length:=hq.length_eq;rw[WD _ q [] aD,aZ,sortClM (by rw[List.map_map];exact(hq.map (·.1)).nodup_iff.2 k3.ms.nd) (by rw[aV];omega)];simp only[aG];have hk:∀l:List (ByteArray×Eb),(l.map λe=>Et.mk e.1 e.2).map (·.Key)=l.map (·.1):=λl=>by rw[List.map_map];rfl
    congr 2
    refine GX ltCl_irr YL _ _ (ltCl_tot (by rw[hk];exact(hq.map (·.1)).nodup_iff.2 k3.ms.nd)) ?_ λx=>?_
    ·rw[List.pairwise_map];exact(Abf names).imp λh=>by rw[KP];exact aH h
    ·have hp':(q.map λe=>Et.mk e.1 e.2).Perm (m.map λe=>Et.mk e.1 e.2):=hq.map _;rw[hp'.mem_iff,bD,bD];constructor
     ·rintro⟨⟨k,v⟩,hkv,rfl⟩;obtain⟨g1,g2⟩:=(UF (Eb.mk 0 0) m k3.ms.nd k v).1 hkv;have hkn:=(k3.ms.keys k).1 g1;exact⟨k,(PX names k).2 hkn,by rw[←g2,k3.ms.vals k hkn]⟩
     ·rintro⟨k,hk2,rfl⟩;have hkn:=(PX names k).1 hk2;exact⟨(k,frB (EC k lines)),(UF (Eb.mk 0 0) m k3.ms.nd k _).2 ⟨(k3.ms.keys k).2 hkn,k3.ms.vals k hkn⟩,Z⟩
   ·rw[k2];have hsl:(Ti names).length=names.length:=by simp[Ti]
    unfold Mq Wt;rw[Ep (aH aA)];simp only[aG,Jp];rw[YW _ aA];simp only[aG];have hkl:(FF names).length<=3:=HF (FF names) [Qr,Zz,k_A] (by
     have:=Abf names;exact this.imp λ{a b} hab e=>by rw[e,Tz] at hab;omega) λk hk=>k3.few k ((PX names k).1 hk)
    have hlist:∀(ys:List ByteArray) (i:Nat) (x:List Et),x.length+ys.length<=1000->Gn lines (λx1=>some x1) ys i x=some (x++ys.map λk=>Et.mk k (frB (EC k lines))):=by
     intro ys
     induction ys with
     |nil=>intro i x _;simp[Gn]
     |cons y ys ih=>
      intro i x hx;simp only[aT] at hx;rw[Gn,clubR y lines k3.pts k4];simp only[aG];rw[Ep (by unfold Qi;exact aH aA),ih (i+1) _ aD];simp
    show Option.bind (Gn lines (λx1=>some x1) (FF names) 0 []) _=_;rw[hlist (FF names) 0 [] aD,aZ];rfl
 ·rw[aQ (by simpa using ha)];exact⟨[],a,a,Z,a1,λ_=>⟨Z,Z⟩,λh=>absurd h ha⟩
theorem WW{L:List Int}(hL:FK L){a:Int}(h0:0<=a)(h1:a<=100000000)(key:ByteArray):Dr a 7 (λ_=>True) (Tq L a key):=by
 unfold Tq;obtain⟨v1,b1,e1,g1,g2,_⟩:=Qp hL h0 aA [50,100,200] aB aB;rw[e1];simp only[aG];obtain⟨v2,b2,e2,g3,g4,_⟩:=Qp hL (a:=b1) aA aA [1,2,3,4] aB aB;rw[e2];simp only[aG];obtain⟨v3,b3,e3,g5,g6,_⟩:=Qp hL (a:=b2) aA aA [25,50] aB aB;rw[e3];simp only[aG];obtain⟨v4,b4,e4,g7,g8,_⟩:=Qp hL (a:=b3) aA aA [1,1,1,4] aB aB;rw[e4];simp only[aG];obtain⟨v5,b5,e5,g9,g10,_⟩:=Qp hL (a:=b4) aA aA [0,1,2] aB aB;rw[e5];simp only[aG];obtain⟨v6,b6,e6,g11,g12,_⟩:=Qp hL (a:=b5) aA aA [0,0,5,10] aB aB;rw[e6];simp only[aG];obtain⟨v7,b7,e7,g13,g14,_⟩:=Qp hL (a:=b6) aA aA [0,5,90] aB aB;rw[e7];simp only[aG];exact⟨_,_,Z,by omega,by omega,trivial⟩
section
variable {L:List Int}(hL:FK L)
include hL
theorem HG:∀(ys:List ByteArray) (i:Nat) (x1:List Eh) (a:Int),0<=a->a+8*ys.length<=10000000->x1.length+ys.length<=1000->
 ∃x b,Km L (λx a=>some (x,a)) ys i x1 a=some (x,b)/\a<=b/\b<=a+8*ys.length/\x.length<=x1.length+ys.length
 |[],i,x1,a,_,_,_=>⟨x1,a,Z,Int.le_refl _,by simp,by simp⟩
 |y::ys,i,x1,a,h0,h1,h2=>by
  rw[Km]
  simp only[aT] at h1 h2 ⊢
  obtain⟨f,b,e,g1,g2,_⟩:=CT hL h0 aA 6 aA
  rw[e];simp only[aG,Ie]
  cases f with
  |true=>
   rw[aP aB]
   obtain⟨x,c,e',g3,g4,g5⟩:=HG ys (i+1) x1 b aA aA aA
   exact⟨x,c,e',by omega,by omega,by omega⟩
  |false=>
   rw[aQ aB]
   obtain⟨s,b2,e2,g3,g4,_⟩:=WW hL (a:=b) aA aA y
   rw[e2];simp only[aG]
   rw[Ep (by unfold Qi;simp;omega)]
   obtain⟨x,c,e',g7,g8,g9⟩:=HG ys (i+1) (x1++[s]) b2 aA aA aD
   simp only[aU,aX] at g9
   exact⟨x,c,e',by omega,by omega,by omega⟩
variable {a:Int}(h0:0<=a)(h1:a<=1000000)
include h0 h1
theorem UG:Dr a 24 (λx=>x.length<=3) (Sq L a):=by
 unfold Sq;simp only[Ie];obtain⟨x,c,e',g7,g8,g9⟩:=HG hL [Oc,Xj,BF] 0 [] a h0 aD aB;exact⟨x,c,e',g7,by simp at g8;omega,by simpa using g9⟩
end
theorem KX:Zo=some true:=by
 have h1:Wi (Ir.mk [Eh.mk k_r 50 1 50 1 0 0 0] (Jn.mk [] 1 0) (Qq.mk 1 1 0))=some 0:=by decide+kernel
 have h2:Sk [Dy.mk k_s 1 0 1 k_a An k_r 5 0 An 0]=some 0:=by decide+kernel
 have h3:Iw [Dy.mk k_s 1 0 1 k_a An k_r 5 0 An 0] 0=[Dy.mk k_s 1 0 1 k_a An k_r 5 0 An 0]:=by decide+kernel
 have h4:BX k_r [Dy.mk k_s 1 0 1 k_a An k_r 5 0 An 0]=[Dy.mk k_s 1 0 1 k_a An k_r 5 0 An 0]:=by decide+kernel
 have h5:=AY (Ir.mk [Eh.mk k_r 50 1 50 1 0 0 0] (Jn.mk [] 1 0) (Qq.mk 1 1 0)) [Dy.mk k_s 1 0 1 k_a An k_r 5 0 An 0] k_r aB;rw[h4] at h5;have h6:=PG (Ir.mk [Eh.mk k_r 50 1 50 1 0 0 0] (Jn.mk [] 1 0) (Qq.mk 1 1 0)) [Dy.mk k_s 1 0 1 k_a An k_r 5 0 An 0] 0 aB;rw[h3] at h6;have h7:Gc [Eh.mk k_r 50 1 50 1 0 0 0] k_r=0:=by decide+kernel
 have h8:Kh 0=true:=by decide
 have h9:nth [(0:Int)] (W ((([(0:Int)].length:Nat):Int)-1))=0:=by decide+kernel
 unfold Zo BG AO Yf;rw[h1];simp only[aG,Jp];rw[aP aB,h2];simp only[aG];rw[aP aB,Re,aP (by rw[h8];simp),Re,Ep (by decide+kernel),h9,h6];simp only[aG];unfold Xy;rw[aP aB,aP (by rw[h7];simp),h5];simp only[aG];rw[aP aB,Ep (by rw[h7];decide+kernel)];simp only[aG];rw[aP aB];unfold CN;rw[h5];simp only[aG,Jp];rw[Qz,Ep aC,Qz];rfl
theorem swum_k1{F:List Dy}(race:ByteArray):(Rc race F).length<=F.countP λd=>decide (d.Kind=1):=by
 rw[List.countP_eq_length_filter];refine HF _ _ ((List.pairwise_map.1 (FC race F)).imp λh e=>h (congrArg (·.Who) e)) λd hd=>?_;obtain⟨h1,_⟩:=List.mem_filter.1 hd;obtain⟨_,k2,k3⟩:=KL h1;exact List.mem_filter.2 ⟨k3,aH k2⟩
theorem swum_k3{F:List Dy}(race:ByteArray):(Rc race F).length<=F.countP λd=>decide (d.Kind=3):=by
 have hsv:∀d∈Rc race F,svS race F d∈F/\(svS race F d).Kind=3/\(svS race F d).Who=d.Who:=λd hd=>by
  obtain⟨_,h2⟩:=List.mem_filter.1 hd;unfold GA at h2;obtain⟨y,hy⟩:=Option.isSome_iff_exists.1 h2;have e:svS race F d=y:=by unfold svS Em;rw[hy];rfl
  have g:=Aas hy;rw[e];exact⟨g.1,g.2.1,g.2.2.2⟩
 rw[List.countP_eq_length_filter,←aV (f:=svS race F)];have hn:(((Rc race F).map (svS race F)).map (·.Who)).Nodup:=by
  have e:((Rc race F).map (svS race F)).map (·.Who)=(Rc race F).map (·.Who):=by
   rw[List.map_map];exact List.map_congr_left λd hd=>(hsv d hd).2.2
  rw[e];exact FC race F
 refine HF _ _ ((List.pairwise_map.1 hn).imp λh e=>h (congrArg (·.Who) e)) λy hy=>?_
 ·obtain⟨d,hd,rfl⟩:=bD.1 hy;obtain⟨h1,h2,_⟩:=hsv d hd;exact List.mem_filter.2 ⟨h1,aH h2⟩
structure MD(l:List Dy):Prop where
 few:IF l
 club:FewC l
 swms:(l.countP λd=>decide (d.Kind=1))<=12\/(l.countP λd=>decide (d.Kind=3))<=12
theorem MD.fm{l:List Dy}(h:MD l)(g:DsG l)(at_:Int):FM (Iw l at_):=by
 have hs:=BW l at_;refine⟨λd hd=>g.each d (hs.subset hd),Nat.le_trans hs.length_le h.few.len,λrace=>?_⟩;rcases h.swms with h1|h1
 ·exact Nat.le_trans (swum_k1 race) (Nat.le_trans (hs.countP_le) h1)
 ·exact Nat.le_trans (swum_k3 race) (Nat.le_trans (hs.countP_le) h1)
theorem MD.fc{l:List Dy}(h:MD l)(at_:Int):FewC (Iw l at_):=λd hd=>h.club d ((BW l at_).subset hd)
theorem rune_sz:∀i:Fin 26,(Utf8.encode (IntKind.wrap .i32 (W (97+(i.val:Int))))).size<=1000:=by decide+kernel
theorem WX{x:Int}(h0:0<=x)(h1:x<26):(Utf8.encode (IntKind.wrap .i32 (W (97+x)))).size<=1000:=by
 have:=rune_sz ⟨x.toNat,by omega⟩;simp only[Int.toNat_of_nonneg h0] at this;exact this
section
variable {L:List Int}(hL:FK L)
theorem tied_l(r1:Int×Int)(hr:r1.1<=12)(j:List Dy->Option (List Dy×Int)):∀(m:Nat) (x:List Dy) (i:Int),0<=i->r1.1-i<(m:Int)->(x.length:Int)<=2*i->i<=13->(∀d∈x,d.Kind≠4/\d.Club∈[Qr,Zz,An,k_A])->((x.countP λd=>decide (d.Kind=1):Nat):Int)<=i->i<=r1.1->
 ∃x',Mp r1 j m x i=j x'/\(x'.length:Int)<=24/\(∀d∈x',d.Kind≠4/\d.Club∈[Qr,Zz,An,k_A])/\((x'.countP λd=>decide (d.Kind=1):Nat):Int)<=12
 |0,x,i,_,h,_,_,_,_,_=>by omega
 |m+1,x,i,h0,h1,h2,h3,h4,h5,h6=>by
  rw[Mp]
  by_cases hc:i<r1.1
  ·have hw:W (i+1)=i+1:=Ng aA aA
   rw[aQ (aH hc),Ep (by unfold Qi;exact aH aA),hw]
   refine tied_l r1 hr j m _ (i+1) aA aA aD aA (λd hd=>?_) ?_ aA
   ·rcases bC.1 hd with hd|hd
    ·exact h4 d hd
    ·rcases bB.1 hd with rfl|hd
     ·exact⟨by simp,by simp⟩
     ·obtain rfl:=bA.1 hd
      exact⟨by simp,by simp⟩
   ·rw[List.countP_append]
    simp
    omega
  ·rw[aP (by simpa using hc)]
   exact⟨x,Z,by omega,h4,by omega⟩
theorem Abh(r1:Int×Int)(hr:0<=r1.1/\r1.1<=1)(j:List Dy->Option (List Dy×Int)):∀(m:Nat) (x:List Dy) (i:Int),0<=i->300+r1.1-i<(m:Int)->(x.length:Int)<=i->(∀d∈x,d.Kind=1/\d.Club=An)->i<=300+r1.1->
 ∃x',Lz r1 j m x i=j x'/\(x'.length:Int)<=301/\(∀d∈x',d.Kind=1/\d.Club=An)
 |0,x,i,_,h,_,_,_=>by omega
 |m+1,x,i,h0,h1,h2,h3,h4=>by
  have hw0:W (300+r1.1)=300+r1.1:=Ng aA aA
  rw[Lz,hw0]
  by_cases hc:i<300+r1.1
  ·have hw:W (i+1)=i+1:=Ng aA aA
   have hd:Int.tdiv i 26=i / 26:=Int.tdiv_eq_ediv_of_nonneg h0
   have hm:Int.tmod i 26=i % 26:=Int.tmod_eq_emod_of_nonneg h0
   have hwd:W (Int.tdiv i 26)=i / 26:=by rw[hd];exact Ng aA aA
   have s1:=WX (x:=i / 26) aA aA
   have s2:=WX (x:=i % 26) aA aA
   rw[aQ (aH hc),hwd,hm,Ep (aH aA),Ep (by unfold Qi;exact aH aA),hw]
   refine Abh r1 hr j m _ (i+1) aA aA aD (λd hd=>?_) aA
   rcases bC.1 hd with hd|hd
   ·exact h3 d hd
   ·obtain rfl:=bA.1 hd
    exact⟨Z,Z⟩
  ·rw[aP (by simpa using hc)]
   exact⟨x,Z,by omega,h3⟩
include hL
theorem UH(many:Int)(h0:0<=many)(hm:many<=16){a:Int}(ha:0<=a)(ha':a<=1000000):Dr a 500 MD (Ug L a many):=by
 unfold Ug;obtain⟨f,b,e,g1,g2,_⟩:=CT hL ha aA 15 aA;rw[e];simp only[aG]
 cases f with
 |true=>
  rw[aQ Z];unfold Ye;obtain⟨v,b1,e1,g3,g4,g5,g6⟩:=AX hL (a:=b) aA aA 9 12 aA aA aA;rw[e1];simp only[aG,Jp];obtain⟨x,q1,q2,q3,q4⟩:=tied_l (v,b1) (by show v<=12;omega) (λx1=>some (x1,b1)) (((v,b1):Int×Int).1-0).toNat.succ.succ [] 0 aA (by show v-0<_;simp;omega) aB aA (λd hd=>absurd hd aB) aB (by show (0:Int)<=v;omega);rw[show (((v-0).toNat+2)=(((v,b1):Int×Int).1-0).toNat.succ.succ) from Z,q1];have hM:MD x:=⟨.inr ⟨by omega,λd hd=>(q3 d hd).1⟩,λd hd=>(q3 d hd).2,.inl aA⟩;exact⟨_,_,Z,by omega,by omega,hM⟩
 |false=>
  rw[aP aB];obtain⟨f2,b1,e1,g3,g4,_⟩:=CT hL (a:=b) aA aA 60 aA;rw[e1];simp only[aG]
  cases f2 with
  |true=>
   rw[aQ Z];unfold Xm;obtain⟨v,b2,e2,g5,g6,g7,g8⟩:=AX hL (a:=b1) aA aA 0 1 aA aA aA;rw[e2];simp only[aG,Jp];have hw0:W (300+v)=300+v:=Ng aA aA;obtain⟨x,q1,q2,q3⟩:=Abh (v,b2) ⟨by show 0<=v;omega,by show v<=1;omega⟩ (λx1=>some (x1,b2)) ((W (300+v)-0).toNat+2) [] 0 aA (by show 300+v-0<_;rw[hw0];omega) aB (λd hd=>absurd hd aB) (by show (0:Int)<=300+v;omega);rw[q1];have hk:∀d∈x,d.Kind≠4:=λd hd=>by rw[(q3 d hd).1];decide
   have hc:(x.countP λd=>decide (d.Kind=3))=0:=List.countP_eq_zero.2 λd hd=>by rw[(q3 d hd).1];decide
   have hM:MD x:=⟨.inr ⟨by omega,hk⟩,λd hd=>by rw[(q3 d hd).2];simp,.inr aA⟩;exact⟨_,_,Z,by omega,by omega,hM⟩
  |false=>
   rw[aP aB];obtain⟨v,b2,e2,g5,g6,g7,g8⟩:=AX hL (a:=b1) aA aA 0 many aA aA aA;rw[e2];simp only[aG];obtain⟨x,b3,e3,g9,g10,g11,g12⟩:=Aci hL v aA aA (a:=b2) aA aA;rw[e3];have hd:∀l:List Dy,(l.countP λd=>decide (d.Kind=1))+(l.countP λd=>decide (d.Kind=3))<=l.length:=by
    intro l
    induction l with
    |nil=>simp
    |cons y l ih=>
     rw[List.countP_cons,List.countP_cons,aT]
     by_cases k1:y.Kind=1
     ·simp[k1];omega
     ·by_cases k3:y.Kind=3<;>simp[k1,k3]<;>omega
   have:=hd x;have hM:MD x:=⟨.inl aA,λd hd=>(g12 d hd).club,by omega⟩;exact⟨_,_,Z,by omega,by omega,hM⟩
theorem YY{a:Int}(h0:0<=a)(h1:a<=100000):Dr a 40 (λx=>x.length<=3) (Uf L a):=by
 unfold Uf;obtain⟨x,b,e,g1,g2,g3⟩:=UG hL h0 aA;rw[e];simp only[aG,Ie]
 by_cases hx:0<(x.length:Int)
 ·rw[aQ (aH hx)];obtain⟨f,b1,e1,g4,g5,_⟩:=CT hL (a:=b) aA aA 12 aA;rw[e1];simp only[aG]
  cases f with
  |false=>rw[aP aB];exact⟨x,b1,Z,by omega,by omega,g3⟩
  |true=>
   rw[aQ Z];obtain⟨i,b2,e2,g6,g7,g8⟩:=TN hL (a:=b1) aA aA (x.length:Int) aA;rw[e2];simp only[aG];rw[Ep (Ih.2 ⟨g8.1,by omega⟩)];obtain⟨s,b3,e3,g9,g10,_⟩:=Zv hL (a:=b2) aA aA [(nth x i).Key,An,Oc] aB aB;rw[e3];simp only[aG];obtain⟨t,b4,e4,g11,g12,_⟩:=BA hL (a:=b3) aA aA 1 4 aA aA aA;rw[e4];simp only[aG];obtain⟨u,b5,e5,g13,g14,_⟩:=Qp hL (a:=b4) aA aA [25,50,33] aB aB;rw[e5];simp only[aG];obtain⟨v,b6,e6,g15,g16,_⟩:=Qp hL (a:=b5) aA aA [0,1,2,3] aB aB;rw[e6];simp only[aG];exact⟨_,_,Z,by omega,by omega,by simp only[List.length_set];exact g3⟩
 ·rw[aP (by simpa using hx),aP aB];exact⟨x,b,Z,by omega,by omega,g3⟩
theorem Acr{a:Int}(h0:0<=a)(h1:a<=10000):Dr a 20 (λ_=>True) (Zk L a):=by
 unfold Zk;obtain⟨t,b,e,g1,g2,g3⟩:=VS hL (a:=a) h0 aA;rw[e];simp only[aG,Ie];obtain⟨f,b1,e1,g4,g5,_⟩:=CT hL (a:=b) aA aA 12 aA;rw[e1];simp only[aG]
 cases f with
 |false=>rw[aP aB];exact⟨_,_,Z,by omega,by omega,trivial⟩
 |true=>
  rw[aQ Z];obtain⟨v1,b2,e2,g6,g7,_⟩:=BA hL (a:=b1) aA aA 1 10 aA aA aA;rw[e2];simp only[aG];obtain⟨v2,b3,e3,g8,g9,_⟩:=BA hL (a:=b2) aA aA 0 10 aA aA aA;rw[e3];simp only[aG];have hlen:=g3.len;have hcl:Wh t.Points=some t.Points:=by
   unfold Wh;rw[Ep aD,aZ]
  rw[hcl];simp only[aG];obtain⟨v3,b4,e4,g10,g11,_⟩:=BA hL (a:=b3) aA aA 0 20 aA aA aA;rw[e4];simp only[aG];rw[Ep (by unfold Qi;simp;omega)];exact⟨_,_,Z,by omega,by omega,trivial⟩
theorem WY{a:Int}(h0:0<=a)(h1:a<=1000):Dr a 200 (λp=>p.Races.length<=6) (Wy L a):=by
 unfold Wy;obtain⟨p,b,e,g1,g2,g3⟩:=planP_dr hL (a:=a) h0 aA;have hfew:=g3.few;rw[e];simp only[aG,Jp];obtain⟨f,b1,e1,g4,g5,_⟩:=CT hL (a:=b) aA aA 12 aA;rw[e1];simp only[aG]
 cases f with
 |false=>rw[aP aB];exact⟨_,_,Z,by omega,by omega,by show p.Races.length<=6;omega⟩
 |true=>
  rw[aQ Z];obtain⟨i,b2,e2,g6,g7,g8⟩:=TN hL (a:=b1) aA aA 3 aA;rw[e2];simp only[aG]
  by_cases hi0:i=0
  ·rw[aQ (aH hi0)];obtain⟨x,b3,e3,g9,g10,g11⟩:=YY hL (a:=b2) aA aA;rw[e3];simp only[aG];rw[Ep (aH aA)];exact⟨_,_,Z,by omega,by omega,by show (p.Races++x).length<=6;rw[aU];omega⟩
  ·rw[aP (by simpa using hi0)]
   by_cases hi1:i=1
   ·rw[aQ (aH hi1)];obtain⟨t,b3,e3,g9,g10,_⟩:=Acr hL (a:=b2) aA aA;rw[e3];simp only[aG];exact⟨_,_,Z,by omega,by omega,by show p.Races.length<=6;omega⟩
   ·rw[aP (by simpa using hi1)];obtain⟨v1,b3,e3,g9,g10,_⟩:=BA hL (a:=b2) aA aA 1 10 aA aA aA;rw[e3];simp only[aG];obtain⟨v2,b4,e4,g11,g12,_⟩:=BA hL (a:=b3) aA aA 1 5 aA aA aA;rw[e4];simp only[aG];obtain⟨v3,b5,e5,g13,g14,_⟩:=BA hL (a:=b4) aA aA 0 10 aA aA aA;rw[e5];simp only[aG];exact⟨_,_,Z,by omega,by omega,by show p.Races.length<=6;omega⟩
theorem WZ{a:Int}(h0:0<=a)(h1:a<=1000000):Dr a 1 (λ_=>True) (Wz L a):=by
 unfold Wz;obtain⟨v,b,e,g1,g2,_⟩:=Qp hL h0 aA [0,3,10,20,40,60,60,(-1)] aB aB;rw[e];exact⟨_,_,Z,g1,g2,trivial⟩
end
theorem UI{p:Ir}{l:List Dy}(hM:MD l)(race:ByteArray)(at_:Int):∃e0 L e,Pf p l at_=some e0/\Ws p l race at_=some (L,e)/\(e0≠0->e=e0/\L=[])/\
 (e0=0->∃a,Ri p l race at_=some a/\(a≠0->e=a/\L=[])/\(a=0->Pw p l race at_=some (L,e))):=by
 obtain⟨e0,h1,h2,h3⟩:=MC p l at_
 by_cases he:e0=0
 ·obtain⟨hp,hG,hm,ho⟩:=h3 he;have hs:=hG.mom;obtain⟨a,r1,r2⟩:=SL hp hM.few hs race (at_:=at_);rcases r2 with ⟨r2,r3⟩|⟨r2,r,hr,hk,r3⟩
  ·refine⟨e0,[],a,h1,?_,λh=>absurd he h,λ_=>⟨a,r1,λ_=>⟨Z,Z⟩,λh=>absurd h r2⟩⟩;unfold Ws AO;rw[ho];simp only[aG,aJ,bN,aO,aR];rw[r3];simp only[aG];rw[aQ (by simpa using r2)]
  ·obtain⟨L,e,s1,s2,_,_⟩:=KU hp hM.few hs (hM.fm hG at_) hr;rw[hk] at s2;refine⟨e0,L,e,h1,?_,λh=>absurd he h,λ_=>⟨a,r1,λh=>absurd r2 h,λ_=>s2⟩⟩;unfold Ws AO;rw[ho];simp only[aG,aJ,bN,aO,aR];rw[r3];simp only[aG,aJ,bN,aO,aR];rw[s1];rfl
 ·refine⟨e0,[],e0,h1,?_,λ_=>⟨Z,Z⟩,λh=>absurd h he⟩;have ho:=h2 he;unfold Ws AO;rw[ho];simp only[aG];rw[aQ (by simpa using he)];simp only[aG];rw[aQ (by simpa using he)]
theorem YZ{p:Ir}(hr:p.Races.length<=16){l:List Dy}(hM:MD l)(at_:Int):∃e0 L e,Pf p l at_=some e0/\AG p l at_=some (L,e)/\(e0≠0->e=e0/\L=[])/\
 (e0=0->∃a,Pk p l at_=some a/\(a≠0->e=a/\L=[])/\(a=0->Ud p l at_=some (L,e))):=by
 obtain⟨e0,h1,h2,h3⟩:=MC p l at_
 by_cases he:e0=0
 ·obtain⟨hp,hG,hm,ho⟩:=h3 he;obtain⟨L,e,a,r1,r2,r3,r4⟩:=YX hp hr hM.few hG.mom (hM.fm hG at_) (hM.fc at_);refine⟨e0,L,e,h1,?_,λh=>absurd he h,λ_=>⟨a,r2,r3,r4⟩⟩;unfold AG;rw[ho];simp only[aG,aJ,bN,aO,aR];rw[r1];rfl
 ·refine⟨e0,[],e0,h1,?_,λ_=>⟨Z,Z⟩,λh=>absurd h he⟩;have ho:=h2 he;unfold AG;rw[ho];simp only[aG];rw[aQ (by simpa using he)]
theorem UJ{p:Ir}{l:List Dy}(hM:MD l)(at_:Int):∃e0 L e,Pf p l at_=some e0/\Yg p l at_=some (L,e)/\(e0≠0->e=e0/\L=[])/\
 (e0=0->Pk p l at_=some e/\(e≠0->L=[])/\(e=0->Ss p l at_=some L)):=by
 obtain⟨e0,h1,h2,h3⟩:=MC p l at_
 by_cases he:e0=0
 ·obtain⟨hp,hG,hm,ho⟩:=h3 he;obtain⟨L,e,r1,r2,r3,r4⟩:=UD hp hM.few hG.mom (at_:=at_);refine⟨e0,L,e,h1,?_,λh=>absurd he h,λ_=>⟨r2,r3,λh=>(r4 h).1⟩⟩;unfold Yg;rw[ho];simp only[aG,aJ,bN,aO,aR];rw[r1];rfl
 ·refine⟨e0,[],e0,h1,?_,λ_=>⟨Z,Z⟩,λh=>absurd h he⟩;have ho:=h2 he;unfold Yg;rw[ho];simp only[aG];rw[aQ (by simpa using he)]
theorem XA(l:List Ec):Vj l l=some true:=by
 unfold Vj;rw[aP aB,Jp];exact eq_l l (Nd l (some true)) (λ_=>rfl) (λ_ _ _=>rfl) l [] Z
theorem XB(l:List Et):Um l l=some true:=by
 unfold Um;rw[aP aB,Jp];exact eq_l l (Mm l (some true)) (λ_=>rfl) (λ_ _ _=>rfl) l [] Z
theorem XC(l:List Ig):Vn l l=some true:=by
 unfold Vn;rw[aP aB,Jp];exact eq_l l (Nf l (some true)) (λ_=>rfl) (λ_ _ _=>rfl) l [] Z
theorem plain_RacesRanked(l:List Int)(hl:l.length<=9223372036854775807):Vo l=some true:=by
 have hL:FK l:=by unfold FK;omega
 obtain⟨p,a1,e1,p1,q1,hp⟩:=WY hL (a:=0) aA aA;obtain⟨x,a2,e2,p2,q2,hM⟩:=UH hL 16 aA aA (a:=a1) aA aA;obtain⟨at_,a3,e3,p3,q3,_⟩:=WZ hL (a:=a2) aA aA;obtain⟨race,a4,e4,p4,q4,_⟩:=Zv hL (a:=a3) aA aA [Oc,Oc,Xj,k_zz] aB aB;obtain⟨e0,L,e,h1,h2,h3,h4⟩:=UI (p:=p) hM race at_;obtain⟨e0',C,f,c1,c2,c3,c4⟩:=YZ (p:=p) aA hM at_;obtain⟨e0'',M,g,m1,m2,m3,m4⟩:=UJ (p:=p) hM at_;rw[h1] at c1 m1;obtain rfl:=bH c1;obtain rfl:=bH m1;unfold Vo;rw[e1];simp only[aG];rw[e2];simp only[aG];rw[e3];simp only[aG];rw[e4];simp only[aG];rw[h2];simp only[aG];rw[c2];simp only[aG];rw[m2];simp only[aG];rw[h1];simp only[aG,Jp]
 by_cases he:e0=0
 ·obtain⟨a,r1,r2,r3⟩:=h4 he;obtain⟨b,s1,s2,s3⟩:=c4 he;obtain⟨t1,t2,t3⟩:=m4 he;rw[s1] at t1;obtain rfl:=bH t1;rw[aQ (aH he),r1];simp only[aG];rw[s1];simp only[aG]
  by_cases ha:a=0<;>by_cases hb:b=0
  ·rw[aQ (aH ha),r3 ha];simp only[aG];rw[aQ (aH hb),s3 hb];simp only[aG];rw[aQ (aH hb),t3 hb];simp only[aG,aJ,aS,XA,XB,XC,KX,Bool.and_self]
  ·obtain⟨rfl,rfl⟩:=s2 hb;obtain rfl:=t2 hb;rw[aQ (aH ha),r3 ha];simp only[aG];rw[aP (by simpa using hb),aP (by simpa using hb)];simp only[aG,aJ,aS,XA,XB,XC,KX,Bool.and_self]
  ·obtain⟨rfl,rfl⟩:=r2 ha;rw[aP (by simpa using ha),aQ (aH hb),s3 hb];simp only[aG];rw[aQ (aH hb),t3 hb];simp only[aG,aJ,aS,XA,XB,XC,KX,Bool.and_self]
  ·obtain⟨rfl,rfl⟩:=r2 ha;obtain⟨rfl,rfl⟩:=s2 hb;obtain rfl:=t2 hb;rw[aP (by simpa using ha),aP (by simpa using hb),aP (by simpa using hb)];simp only[aG,aJ,aS,XA,XB,XC,KX,Bool.and_self]
 ·obtain⟨rfl,rfl⟩:=h3 he;obtain⟨rfl,rfl⟩:=c3 he;obtain⟨rfl,rfl⟩:=m3 he;rw[aP (by simpa using he),aP (by simpa using he),aP (by simpa using he),aP (by simpa using he)];simp only[aG,aJ,aS,XA,XB,XC,KX,Bool.and_self]
end Go.Proofs.YtjlgddkenkpbpaaGreatDoor
