/- The rules for a statement whose order of evaluation is open: one walk serves every order. No statement here. -/
import Derived.Test.YthlielagemkjcaaGreatDoorFlow
import Derived.Still
namespace Go.Proofs.YthlielagemkjcaaGreatDoor
open Go
section
variable {P:Program}{ops:Array Oper}{N:Act->World->Prop}{C:Array Bool->World->Prop}{D:World->Prop}
def wpC(P:Program)(ops:Array Oper)(C:Array Bool->World->Prop)(N:Act->World->Prop):Nat->Array Bool->Act->World->Prop
 |0,listed,a,w=>C listed w/\Region.ready .any ops listed=[]/\N a w
 |fuel+1,listed,a,w=>C listed w/\(Region.ready .any ops listed=[]->N a w)/\
  ∀i∈Region.ready .any ops listed,wpOp P ops (QN N) i (wpC P ops C N fuel (listed.setIfInBounds i true)) a w
theorem Amt:∀(fuel:Nat) (listed:Array Bool) (a:Act) (w:World),wpC P ops C N fuel listed a w->wpAny P .any ops (QN N) fuel listed a w
 |0,_,_,_,h=>h.2
 |fuel+1,_,_,_,h=>⟨h.2.1,λi hi=>wpOp_mono (λa w hh=>Amt fuel _ a w hh) (h.2.2 i hi)⟩
theorem Acd{C':Array Bool->World->Prop}(hC:∀l w,C' l w->C l w):∀(fuel:Nat) (listed:Array Bool) (a:Act) (w:World),wpC P ops C' N fuel listed a w->wpC P ops C N fuel listed a w
 |0,_,_,_,h=>⟨hC _ _ h.1,h.2⟩
 |fuel+1,_,_,_,h=>⟨hC _ _ h.1,h.2.1,λi hi=>wpOp_mono (λa w hh=>Acd hC fuel _ a w hh) (h.2.2 i hi)⟩
theorem wpC.c{fuel:Nat}{listed:Array Bool}{a:Act}{w:World}(h:wpC P ops C N fuel listed a w):C listed w:=by
 cases fuel with
 |zero=>exact h.1
 |succ n=>exact h.1
def DW(P:Program)(ops:Array Oper)(D:World->Prop)(o:Oper)(v:Value)(a:Act):Prop:=
 (Region.wanted o (yielded ops a.tmps)=true/\∀w,D w->(execOp a.eval o).run P w= .ok (.value v) w)\/
 (Region.wanted o (yielded ops a.tmps)=false/\v=undef)
theorem DW.wpOp{i:Nat}{o:Oper}{v:Value}{a:Act}(hi:ops[i]? =some o)(hy:DW P ops D o v a)
 {K:Act->World->Prop} {w:World} (hc:D w) (h:K (a.put o.dst v) w):wpOp P ops (QN N) i K a w:=by
 unfold Go.wpOp;simp only[hi];rcases hy with ⟨hw,hv⟩|⟨hw,rfl⟩
 ·simp only[hw,aS,Oper.wp,hv w hc,Oper.upon];exact .inl h
 ·simp only[hw,aO,aR];exact h
theorem DW.of_same{o:Oper}{v:Value}{a a':Act}(hy:DW P ops D o v a)(he:execOp a'.eval o=execOp a.eval o)
 (hw:Region.wanted o (yielded ops a'.tmps)=Region.wanted o (yielded ops a.tmps)):DW P ops D o v a':=by
 unfold DW at*;rw[he,hw];exact hy
theorem wpC_put{j:Nat}{oi oj:Oper}{v:Value}(hj:ops[j]? =some oj)(hap:oi.apart ops oj=true)
 (hsi:∀cs b,oi.op≠.select cs b) (hsj:∀cs b,oj.op≠.select cs b) {K:Act->World->Prop} {a:Act} {w:World}
 (hy:DW P ops D oi v a) (h:wpOp P ops (QN N) j K (a.put oi.dst v) w):
 wpOp P ops (QN N) j (λa' w'=>DW P ops D oi v a'/\K (a'.put oi.dst v) w') a w:=by
 obtain⟨h1,h2,h3⟩:=Oper.apart_spec hap;have keep:∀(a:Act),DW P ops D oi v a->∀u,DW P ops D oi v (a.put oj.dst u):=λa hy u=>
  hy.of_same (execOp_put oi hsi a oj.dst u h3) (wanted_put oi a oj.dst u h3)
 have VV:∀d,DW P ops D oi v {a with defers:=d::a.defers}:=λd=>hy.of_same rfl rfl;unfold wpOp at*;simp only[hj] at*;rw[wanted_put oj a oi.dst v h1] at h
 split
 ·rename_i hw;simp only[hw,aS] at h;rcases h with h|⟨hasks,a',w',hlets⟩
  case inr=>exact hlets.elim
  refine .inl ?_;unfold Oper.wp at*;rw[execOp_put oj hsj a oi.dst v h1] at h;generalize (execOp a.eval oj).run P w=r at*
  cases r with
  |ok n w'=>
   cases n<;>simp only[Oper.upon] at h ⊢
   case value u=>exact⟨keep a hy u,by rw[←Act.put_comm a v u h2];exact h⟩
   case skip=>exact⟨keep a hy _,by rw[←Act.put_comm a v undef h2];exact h⟩
   case defer d=>
    refine⟨keep _ (VV d) _,?_⟩;rw[←Act.put_comm _ v undef h2,←Act.put_defers];exact h
   case enter f args=>
    refine Calls.mono h λe w'' he=>?_
    cases e with
    |returned u=>exact⟨keep a hy u,by rw[←Act.put_comm a v u h2];exact he⟩
    |panicked c=>exact he.elim
    |outgrown=>obtain⟨_,_,he⟩:=he;exact he.elim
   case row row args=>exact Rows.mono h λu w'' he=>⟨keep a hy u,by rw[←Act.put_comm a v u h2];exact he⟩
  |halt x w'=>
   cases x<;>simp only[Oper.upon] at h ⊢
   case panic u=>exact h.elim
 ·rename_i hw;simp only[hw] at h;exact⟨keep a hy _,by rw[←Act.put_comm a v undef h2];exact h⟩
theorem MK{i:Nat}{oi:Oper}{v:Value}{R:Array Bool->Prop}(hi:ops[i]? =some oi)(hsel:∀(j:Nat) (o:Oper) cs b,ops[j]? =some o->o.op≠.select cs b)
 (hA:∀l w,C (l.setIfInBounds i true) w->C l w) (hD:∀l w,R l->C l w->D w) (hR:∀l j,R l->j∈Region.ready .any ops l->j≠i->l.getD i true=false->R (l.setIfInBounds j true)):
 ∀(fuel:Nat) (listed:Array Bool) (a:Act) (w:World),C listed w->R listed->
  (∀j oj,ops[j]? =some oj->j≠i->listed.getD j true=false->(∀e∈oj.after,Region.binds .any e=true->e.on≠i)->oi.apart ops oj=true)->
  i∈Region.ready .any ops listed->DW P ops D oi v a->
  wpC P ops C N fuel (listed.setIfInBounds i true) (a.put oi.dst v) w->wpC P ops C N (fuel+1) listed a w:=by
 intro fuel
 induction fuel with
 |zero=>
  intro listed a w hc hr0 _ hr hy H;refine⟨hc,λh=>(by rw[h] at hr;cases hr),λj hj=>?_⟩
  by_cases hji:j=i
  ·subst hji;exact hy.wpOp hi (hD _ _ hr0 hc) H
  ·have:=ready_mono hj hji;rw[H.2.1] at this
   cases this
 |succ fuel ih=>
  intro listed a w hc hr0 hfree hr hy H;refine⟨hc,λh=>(by rw[h] at hr;cases hr),λj hj=>?_⟩
  by_cases hji:j=i
  ·subst hji;exact hy.wpOp hi (hD _ _ hr0 hc) H
  ·have h1:=H.2.2 j (ready_mono hj hji);obtain⟨hjun,oj,hoj,hall⟩:=mem_ready.1 hj;have hnot:∀e∈oj.after,Region.binds .any e=true->e.on≠i:=λe he hb heq=>by
    have h1:=hall e he hb;have h0:=(mem_ready.1 hr).1;rw[heq] at h1;rcases Nat.lt_or_ge i listed.size with h'|h'
    ·simp[h'] at h0 h1;rw[h0] at h1;cases h1
    ·simp[Array.getElem?_eq_none h'] at h1
   have h2:=wpC_put hoj (hfree j oj hoj hji hjun hnot) (λcs b=>hsel i oi cs b hi) (λcs b=>hsel j oj cs b hoj) hy h1;have hfree':∀k ok,ops[k]? =some ok->k≠i->(listed.setIfInBounds j true).getD k true=false->
    (∀e∈ok.after,Region.binds .any e=true->e.on≠i)->oi.apart ops ok=true:=λk ok hk hki hun hno=>by
    refine hfree k ok hk hki ?_ hno
    by_cases hjk:j=k
    ·subst hjk;exact hjun
    ·rw[getD_set_ne true hjk] at hun;exact hun
   refine wpOp_mono (λa' w' h3=>?_) h2;have h4:=h3.2;rw[Array.setIfInBounds_comm _ _ (Ne.symm hji)] at h4;exact ih (listed.setIfInBounds j true) a' w' (hA _ _ h4.c) (hR _ _ hr0 hj hji (mem_ready.1 hr).1) hfree' (ready_mono hr (Ne.symm hji)) h3.1 h4
end
section
variable {P:Program}{ops:Array Oper}{N:Act->World->Prop}{Y:List Nat}{fuel:Nat}{listed:Array Bool}
variable {w0:World}{X:List Nat}{φ:View}{L:List LEnt}{K:List (Nat×Value)}{n:Nat}{a:Act}{w:World}
variable {d:Nat}{ty:TypeId}{pos:String}{after:Array Edge}
def noB(B:List Nat)(listed:Array Bool):Bool:=B.all λj=>!listed.getD j true
theorem ML{B:List Nat}{l:Array Bool}{i:Nat}(hi:B.contains i=false)(h:noB B l=true):noB B (l.setIfInBounds i true)=true:=by
 unfold noB at*;rw[List.all_eq_true] at h ⊢;intro j hj;rw[getD_set_ne true]
 ·exact h j hj
 ·rintro rfl;rw[List.contains_iff_mem.2 hj] at hi;cases hi
def SU(ops:Array Oper)(B:List Nat)(i:Nat):Bool:=!B.contains i && B.all λj=>match ops[j]? with
 |some o=>o.after.any λe=>Region.binds .any e && e.on==i
 |none=>true
theorem Ace{B:List Nat}{i:Nat}(h:SU ops B i=true):B.contains i=false:=by
 unfold SU at h;rw[bQ] at h;simpa using h.1
theorem ZP{B:List Nat}{i j:Nat}{l:Array Bool}(h:SU ops B i=true)(hl:noB B l=true)(hj:j∈Region.ready .any ops l)(hi:l.getD i true=false):noB B (l.setIfInBounds j true)=true:=by
 refine ML ?_ hl
 cases hc:B.contains j with
 |false=>rfl
 |true=>
  unfold SU at h;rw[bQ,List.all_eq_true] at h;have h1:=h.2 j (List.contains_iff_mem.1 hc);obtain⟨_,oj,hoj,hall⟩:=mem_ready.1 hj;rw[hoj] at h1;simp only[Array.any_eq_true,bQ,beq_iff_eq] at h1;obtain⟨q,hq,hb,he⟩:=h1;have h2:=hall _ (Array.getElem_mem hq) hb;rw[he] at h2;rcases Nat.lt_or_ge i l.size with h'|h'
  ·simp[h'] at hi h2;rw[hi] at h2;cases h2
  ·simp[Array.getElem?_eq_none h'] at h2
def wpD(P:Program)(ops:Array Oper)(B:List Nat)(Y:List Nat)(N:Act->World->Prop)(fuel:Nat)(listed:Array Bool)(a:Act)(w:World):Prop:=
 wpC P ops (λl w'=>noB B l=true->Keep Y w w') N fuel listed a w
theorem Acf{B:List Nat}{j:Nat}{C:Array Bool->World->Prop}{w:World}(hj:B.contains j=true):∀(fuel:Nat) (listed:Array Bool) (a:Act) (w1:World),listed.getD j true=true->wpC P ops C N fuel listed a w1->
 wpC P ops (λl w'=>noB B l=true->Keep Y w w') N fuel listed a w1:=by
 have key:∀l:Array Bool,l.getD j true=true->noB B l=true->False:=λl hl h=>by
  have:=List.all_eq_true.1 h j (List.contains_iff_mem.1 hj);simp only[hl,bN] at this;cases this
 intro fuel
 induction fuel with
 |zero=>intro listed a w1 hp h;exact⟨λh'=>(key _ hp h').elim,h.2⟩
 |succ n ih=>
  intro listed a w1 hp h;refine⟨λh'=>(key _ hp h').elim,h.2.1,λi hi=>wpOp_mono (λa w hh=>ih _ a w ?_ hh) (h.2.2 i hi)⟩
  by_cases hij:i=j
  ·subst hij
   by_cases hi:i<listed.size
   ·simp[hi]
   ·simp only[Array.getD_eq_getD_getElem?];rw[Array.getElem?_eq_none aD];rfl
  ·rw[getD_set_ne true hij];exact hp
theorem Wu{id:Nat}{Q:Exit->Act->World->Prop}{l:List Oper}{nf:Nat}(B Y:List Nat)(hm:P.follows .mixedOrders=true)(S:Sx w0 X φ L K n a w)(hl:l.length=nf)
 (hs:Region.noSelect l.toArray=true) (k:∀w',Keep [] w w'->Region.noSelect l.toArray=true->Sx w0 X φ L K n a w'->wpD P l.toArray B Y (λa w=>Q .normal a w) nf (Array.replicate nf false) a w'):Wq P (Code.region id l.toArray true) Q a w:=by
 subst hl;have h1:=k {w with drawn:=w.drawn+1} ⟨rfl,rfl,rfl,bU _,λ_ _ _=>rfl⟩ hs (S.world rfl rfl rfl rfl);have h2:=Amt _ _ _ _ h1;exact f_any hm (by simpa using h2)
theorem BI(i:Nat){B:List Nat}{op:Op}{v:Value}(S:Sx w0 X φ L K n a w)(hs:Region.noSelect ops=true)(hi:ops[i]? =some {dst:=some d,op,type:=ty,pos,after,guard:=none})
 (hp:SU ops B i=true) (hn:noB B listed=true) (hr:(Region.ready .any ops listed).contains i=true) (hf:Region.free .any ops listed i=true) (hd:Nat.blt d n=true)
 (hy:∀w',Keep Y w w'->Rn P a w' op ty v) (k:∀a',Sx w0 X φ L ((d,v)::K) n a' w->wpD P ops B Y N fuel (listed.setIfInBounds i true) a' w):wpD P ops B Y N (fuel+1) listed a w:=by
 refine MK (D:=Keep Y w) (R:=λl=>noB B l=true) hi (Region.noSelect_spec hs) (λl w' h hb=>h (ML (Ace hp) hb)) (λl w' hl h=>h hl) (λl j hl hj _ hi'=>ZP hp hl hj hi') fuel listed a w (λ_=>Keep.refl Y w) hn (Region.free_spec hi hf) (by simpa using hr) (.inl ⟨rfl,λw' hw'=>hy w' hw' _ _ _ _⟩) ?_;exact k _ (S.put (by simpa using hd))
theorem Pz(i:Nat){B:List Nat}{op:Op}{v:Value}(S:Sx w0 X φ L K n a w)(hs:Region.noSelect ops=true)(hi:ops[i]? =some {dst:=some d,op,type:=ty,pos,after,guard:=none})
 (hp:B.contains i=false) (hr:(Region.ready .any ops listed).contains i=true) (hf:Region.free .any ops listed i=true) (hd:Nat.blt d n=true)
 (hy:∀w',Rn P a w' op ty v) (k:∀a',Sx w0 X φ L ((d,v)::K) n a' w->wpD P ops B Y N fuel (listed.setIfInBounds i true) a' w):wpD P ops B Y N (fuel+1) listed a w:=by
 refine MK (D:=λ_=>True) (R:=λ_=>True) hi (Region.noSelect_spec hs) (λl w' h hb=>h (ML hp hb)) (λ_ _ _ _=>trivial) (λ_ _ _ _ _ _=>trivial) fuel listed a w (λ_=>Keep.refl Y w) trivial (Region.free_spec hi hf) (by simpa using hr) (.inl ⟨rfl,λw' _=>hy w' _ _ _ _⟩) ?_;exact k _ (S.put (by simpa using hd))
theorem Apj(i:Nat){B:List Nat}{op:Op}{v:Value}{j tj:Nat}{b want:Bool}{oj:Oper}(S:Sx w0 X φ L K n a w)(hs:Region.noSelect ops=true)(hi:ops[i]? =some {dst:=some d,op,type:=ty,pos,after,guard:=some (j,want)})
 (hj:ops[j]? =some oj) (ht:oj.dst=some tj) (hv:look K tj=some (.bool b)) (hb:b=want)
 (hp:SU ops B i=true) (hn:noB B listed=true) (hr:(Region.ready .any ops listed).contains i=true) (hf:Region.free .any ops listed i=true) (hd:Nat.blt d n=true)
 (hy:∀w',Keep Y w w'->Rn P a w' op ty v) (k:∀a',Sx w0 X φ L ((d,v)::K) n a' w->wpD P ops B Y N fuel (listed.setIfInBounds i true) a' w):wpD P ops B Y N (fuel+1) listed a w:=by
 have hsl:=S.slots tj _ hv;refine MK (D:=Keep Y w) (R:=λl=>noB B l=true) hi (Region.noSelect_spec hs) (λl w' h hb=>h (ML (Ace hp) hb)) (λl w' hl h=>h hl) (λl j hl hj _ hi'=>ZP hp hl hj hi') fuel listed a w (λ_=>Keep.refl Y w) hn (Region.free_spec hi hf) (by simpa using hr) (.inl ⟨?_,λw' hw'=>hy w' hw' _ _ _ _⟩) ?_
 ·simp[Region.wanted,yielded,hj,ht,hsl,hb]
 ·exact k _ (S.put (by simpa using hd))
theorem d_skip(i:Nat){B:List Nat}{op:Op}{j tj:Nat}{b want:Bool}{oj:Oper}(S:Sx w0 X φ L K n a w)(hs:Region.noSelect ops=true)(hi:ops[i]? =some {dst:=some d,op,type:=ty,pos,after,guard:=some (j,want)})
 (hj:ops[j]? =some oj) (ht:oj.dst=some tj) (hv:look K tj=some (.bool b)) (hb:(b==want)=false)
 (hp:B.contains i=false) (hr:(Region.ready .any ops listed).contains i=true) (hf:Region.free .any ops listed i=true) (hd:Nat.blt d n=true)
 (k:∀a',Sx w0 X φ L ((d,undef)::K) n a' w->wpD P ops B Y N fuel (listed.setIfInBounds i true) a' w):wpD P ops B Y N (fuel+1) listed a w:=by
 have hsl:=S.slots tj _ hv;have hne:¬b=want:=by simpa using hb
 refine MK (v:=undef) (D:=λ_=>True) (R:=λ_=>True) hi (Region.noSelect_spec hs) (λl w' h hb=>h (ML hp hb)) (λ_ _ _ _=>trivial) (λ_ _ _ _ _ _=>trivial) fuel listed a w (λ_=>Keep.refl Y w) trivial (Region.free_spec hi hf) (by simpa using hr) (.inr ⟨?_,rfl⟩) ?_
 ·simp[Region.wanted,yielded,hj,ht,hsl,hne]
 ·exact k _ (S.put (by simpa using hd))
theorem Aew{C:Array Bool->World->Prop}{is:List Nat}(hc:C listed w)(hr:Region.ready .any ops listed=is)(hne:is.isEmpty=false)
 (k:∀i∈is,∃o,ops[i]? =some o/\wpList P ops (QN λa' w'=>wpC P ops C N fuel (listed.setIfInBounds i true) a' w') [o] a w):wpC P ops C N (fuel+1) listed a w:=by
 refine⟨hc,λh=>(by rw[hr] at h;subst h;simp at hne),λi hi=>?_⟩;rw[hr] at hi;obtain⟨o,ho,hk⟩:=k i hi;unfold wpOp;simp only[ho];unfold wpList at hk;have hconv:∀a' w',wpList P ops (QN λa' w'=>wpC P ops C N fuel (listed.setIfInBounds i true) a' w') [] a' w'->
  wpC P ops C N fuel (listed.setIfInBounds i true) a' w':=λa' w' h3=>h3
 have hwp:∀res,o.upon P a (wpList P ops (QN λa' w'=>wpC P ops C N fuel (listed.setIfInBounds i true) a' w') []) (QN λa' w'=>wpC P ops C N fuel (listed.setIfInBounds i true) a' w') res->
  o.upon P a (wpC P ops C N fuel (listed.setIfInBounds i true)) (QN N) res:=by
  intro res hres
  cases res with
  |ok x w1=>
   cases x with
   |value v=>exact hconv _ _ hres
   |skip=>exact hconv _ _ hres
   |defer dd=>exact hconv _ _ hres
   |enter f args=>
    refine Calls.mono (show Calls P f args w1 _ from hres) λe w2 he=>?_
    cases e with
    |returned v=>exact hconv _ _ he
    |panicked c=>exact he.elim
    |outgrown=>obtain⟨_,_,he⟩:=he;exact he.elim
   |row r args=>exact Rows.mono (show Rows P r args w1 _ from hres) λv w2 h=>hconv _ _ h
   |_=>exact hres
  |halt hh w1=>
   cases hh with
   |panic v=>exact(show False from hres).elim
   |_=>exact hres
 split
 ·rename_i hw;rw[aQ hw] at hk;rcases hk with hk|⟨_,_,_,hk⟩
  ·exact .inl (hwp _ hk)
  ·exact hk.elim
 ·rename_i hw;rw[aP hw] at hk;exact hconv _ _ hk
theorem Apk{M M':Act->World->Prop}{G G':Act->World->Prop}{o:Oper}(h:∀a w,G a w->G' a w)(hh:o.wp P a w G (QN M)):o.wp P a w G' (QN M'):=by
 unfold Oper.wp at*;generalize (execOp a.eval o).run P w=r at*
 cases r with
 |ok n w'=>
  cases n<;>simp only[Oper.upon] at hh ⊢
  case value=>exact h _ _ hh
  case skip=>exact h _ _ hh
  case defer=>exact h _ _ hh
  case enter=>
   refine Calls.mono hh (λe w'' he=>?_)
   cases e with
   |returned v=>exact h _ _ he
   |panicked c=>exact(show False from he).elim
   |outgrown=>exact(show LetsOut (QN M) from he).elim λ_ ⟨_,q⟩=>(show False from q).elim
  case row=>exact Rows.mono hh (λ_ _ he=>h _ _ he)
 |halt x w'=>
  cases x<;>simp only[Oper.upon] at hh ⊢
  case panic=>exact(show False from hh).elim
theorem CM{M M':Act->World->Prop}(h:∀a w,M a w->M' a w):∀{l:List Oper} {a:Act} {w:World},wpList P ops (QN M) l a w->wpList P ops (QN M') l a w
 |[],a,w,k=>h a w k
 |o::l,a,w,k=>by
  unfold wpList at k ⊢
  by_cases hw:Region.wanted o (yielded ops a.tmps)=true
  ·rw[aQ hw] at k ⊢
   rcases k with k|⟨_,_,_,q⟩
   ·exact .inl (Apk (λ_ _ hh=>CM h hh) k)
   ·exact(show False from q).elim
  ·rw[aP hw] at k ⊢
   exact CM h k
theorem d_loud{B:List Nat}{is:List Nat}(hr:Region.ready .any ops listed=is)(hne:is.isEmpty=false)
 (k:∀i∈is,∃o,ops[i]? =some o/\wpList P ops (QN λa' w'=>∃Y',Keep Y w w'/\(∀y∈Y',w.heap.size<=y\/y∈Y)/\wpD P ops B Y' N fuel (listed.setIfInBounds i true) a' w') [o] a w):wpD P ops B Y N (fuel+1) listed a w:=
 Aew (λ_=>Keep.refl Y w) hr hne λi hi=>by
  obtain⟨o,ho,hk⟩:=k i hi
  exact⟨o,ho,CM (λa' w' ⟨Y',h1,h2,h3⟩=>Acd (λl w'' h'' hp=>h1.step (h'' hp) h2) _ _ _ _ h3) hk⟩
theorem UN{B:List Nat}(i:Nat)(Y':List Nat){o:Oper}(hi:B.contains i=true)(hr:Region.ready .any ops listed=[i])(ho:ops[i]? =some o)
 (k:wpList P ops (QN λa' w'=>wpD P ops [] Y' N fuel (listed.setIfInBounds i true) a' w') [o] a w):wpD P ops B Y N (fuel+1) listed a w:=
 Aew (λ_=>Keep.refl Y w) hr rfl λj hj=>by
  rw[bA] at hj
  subst hj
  refine⟨o,ho,CM (λa' w' h=>Acf hi _ _ _ _ ?_ h) k⟩
  have hlt:j∈Region.ready .any ops listed:=by rw[hr];exact bA.2 rfl
  have:=(mem_ready.1 hlt).1
  rcases Nat.lt_or_ge j listed.size with h'|h'
  ·simp[h']
  ·simp[Array.getElem?_eq_none h'] at this
theorem ZQ{B:List Nat}(hr:Region.ready .any ops listed=[])(k:N a w):wpD P ops B Y N 0 listed a w:=⟨λ_=>Keep.refl Y w,hr,k⟩
end
end Go.Proofs.YthlielagemkjcaaGreatDoor
