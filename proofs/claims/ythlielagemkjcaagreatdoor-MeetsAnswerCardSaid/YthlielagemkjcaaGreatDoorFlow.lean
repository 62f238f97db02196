/- The rules for control flow,for entering a function and for leaving it. No statement here. -/
import Derived.Test.YthlielagemkjcaaGreatDoorWq
namespace Go.Proofs.YthlielagemkjcaaGreatDoor
open Go
section
variable {P:Program}{ops:Array Oper}{Q:Exit->Act->World->Prop}{rest:List Oper}
variable {w0:World}{X:List Nat}{φ:View}{L:List LEnt}{K:List (Nat×Value)}{n:Nat}{a:Act}{w:World}
variable {d:Nat}{ty:TypeId}{pos:String}{after:Array Edge}
theorem f_cut{l1 l2:List Oper}(J:Act->World->Prop)(h:wpList P ops (Exit.then J Q) l1 a w)(k:∀a w,J a w->wpList P ops Q l2 a w):wpList P ops Q (l1++l2) a w:=by
 induction l1 generalizing a w with
 |nil=>exact k a w h
 |cons o r ih=>
  have hup:∀(next next':Act->World->Prop),(∀a w,next a w->next' a w)->∀res,o.upon P a next (Exit.then J Q) res->o.upon P a next' Q res:=by
   intro next next' hn res hr
   cases res with
   |ok x w1=>
    cases x with
    |value v=>exact hn _ _ hr
    |skip=>exact hn _ _ hr
    |defer dd=>exact hn _ _ hr
    |enter f args=>
     refine Calls.mono (show Calls P f args w1 _ from hr) ?_;intro e w2 he
     cases e with
     |returned v=>exact hn _ _ he
     |panicked c=>exact he
     |outgrown=>exact he
    |row r args=>exact Rows.mono (show Rows P r args w1 _ from hr) λv w2 h=>hn _ _ h
    |_=>exact hr
   |halt hh w1=>
    cases hh with
    |panic v=>exact hr
    |_=>exact hr
  rw[List.cons_append];unfold wpList at h ⊢
  split at h
  ·rename_i hw;rw[aQ hw];rcases h with h|h
   ·exact .inl (hup _ _ (λa w h=>ih h) _ h)
   ·exact .inr h
  ·rename_i hw;rw[aP hw];exact ih h
theorem Akm(m:Nat){l:List Oper}(J:Act->World->Prop)(h:wpList P ops (Exit.then J Q) (l.take m) a w)(k:∀a w,J a w->wpList P ops Q (l.drop m) a w):wpList P ops Q l a w:=by
 have:=f_cut (l1:=l.take m) (l2:=l.drop m) J h k
 rwa [List.take_append_drop] at this
theorem Zc{id:Nat}(h:Q .normal a w):Exit.inBlock id Q (.exit id) a w:=by simpa[Exit.inBlock] using h
theorem Ams{id id':Nat}(hne:Nat.beq id' id=false)(h:Q (.exit id') a w):Exit.inBlock id Q (.exit id') a w:=by
 have:¬id'=id:=by intro e;subst e;simp at hne
 simpa[Exit.inBlock,this] using h
def ZO:Nat->List Value->List (Nat×Value)
 |_,[]=>[]
 |i,v::r=>(i,v)::ZO (i+1) r
theorem Acc:∀(vs:List Value) (i t:Nat) (v:Value),look (ZO i vs) t=some v->i<=t/\vs[t-i]? =some v
 |[],_,_,_,h=>by cases h
 |u::r,i,t,v,h=>by
  unfold ZO look at h
  split at h
  ·rename_i hb
   have:i=t:=Nat.eq_of_beq_eq_true hb
   subst this
   cases h
   simp
  ·obtain⟨h1,h2⟩:=Acc r (i+1) t v h
   refine⟨by omega,?_⟩
   rw[show t-i=(t-(i+1))+1 by omega,List.getElem?_cons_succ]
   exact h2
theorem Sx.init{vs:List Value}{nt:Nat}(X:List Nat)(L:List LEnt)(hL:∀e∈L,e.holds w)(hnd:(fps L).Nodup)(hX:∀b∈fps L,b∈X)(hn:Nat.ble vs.length nt=true):
 Sx w X nov L (ZO 0 vs) nt {tmps:=vs.toArray++Array.replicate (nt-vs.toArray.size) undef,defers:=[]} w:=by
 have hn':vs.length<=nt:=by simpa using hn
 refine⟨Keep.refl X w,(λ_ _ h=>by cases h),(λ_ _ h=>by cases h),hL,hnd,λb hb=>⟨rfl,.inr (hX b hb),?_⟩,rfl,by simp;omega,?_⟩
 ·obtain⟨e,he,hf⟩:=EN hb;exact(hL e he).lt hf
 ·intro t v h;obtain⟨_,h2⟩:=Acc vs 0 t v h;simp only[Nat.sub_zero] at h2;have hlt:t<vs.length:=by
   rcases Nat.lt_or_ge t vs.length with h'|h'
   ·exact h'
   ·rw[List.getElem?_eq_none h'] at h2;cases h2
  rw[Array.getElem?_append_left (by simpa using hlt)];simpa using h2
theorem Ka{f:FuncId}{fn:Func}{c:Code}{vs:List Value}{R:Ending->World->Prop}{nt:Nat}(X:List Nat)(L:List LEnt)
 (hf:P.funcs[f]? =some fn) (hb:fn.body=some c) (hnt:fn.ntmps=nt) (hn:Nat.ble vs.length nt=true)
 (hL:∀e∈L,e.holds w) (hnd:(fps L).Nodup) (hX:∀b∈fps L,b∈X)
 (k:∀a,Sx w X nov L (ZO 0 vs) nt a w->Wq P c (bodyPost P fn R) a w):Calls P f vs.toArray w R:=by
 refine calls_of_wp hf hb (k _ ?_).1;rw[hnt];exact Sx.init X L hL hnd hX hn
theorem BQ{fn:Func}{t:Tmp}{v:Value}{Φ:View->Value->World->Prop}(S:Sx w0 X φ L K n a w)(hr:fn.results= #[.tmp t])(hv:look K t=some v)(h:Φ (newer w0 w) v w):
 bodyPost P fn (Ret w0 X Φ) .ret a w:=by
 have hs:=S.slots t v hv;refine⟨S.nodefer,v,?_,v,rfl,S.keep,h⟩;rw[results_tmp hr];simp[hs]
theorem MC{fn:Func}{t u:Tmp}{v v':Value}{Φ:View->Value->World->Prop}(S:Sx w0 X φ L K n a w)(hr:fn.results= #[.tmp t,.tmp u])(hv:look K t=some v)(hv':look K u=some v')
 (h:Φ (newer w0 w) (.tuple #[v,v']) w):bodyPost P fn (Ret w0 X Φ) .ret a w:=by
 have hs:=S.slots t v hv;have hs':=S.slots u v' hv';refine⟨S.nodefer,_,?_,_,rfl,S.keep,h⟩;rw[results_tmp2 hr];simp[hs,hs']
end
end Go.Proofs.YthlielagemkjcaaGreatDoor
