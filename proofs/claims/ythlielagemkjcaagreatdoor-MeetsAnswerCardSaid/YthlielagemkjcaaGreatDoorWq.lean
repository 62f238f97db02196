/- What a piece of code does,at home and in a round of a range over a function. No statement here. -/
import Derived.RangeFuncNested
import Derived.RangeFuncLeaves
import Derived.RangeFuncCalls
import Derived.OrdersIn
import Derived.OwnWalkIn
import Derived.Sort.LoopGhostIn
import Derived.Test.YthlielagemkjcaaGreatDoorStep
namespace Go.Proofs.YthlielagemkjcaaGreatDoor
open Go
def QN(N:Act->World->Prop):Exit->Act->World->Prop
 | .normal,a,w=>N a w
 |_,_,_=>False
abbrev WF(ro:Option Nat):Fence:={Fence.wide with round:=ro}
def Vd(ds:List Deferred)(a:Act):Act:={a with defers:=a.defers++ds}
theorem EO(ds:List Deferred)(a:Act)(dst:Option Tmp)(v:Value):(Vd ds a).put dst v=Vd ds (a.put dst v):=by cases dst<;>rfl
theorem RY(ds:List Deferred)(a:Act):(Vd ds a).eval=a.eval:=funext λx=>by cases x<;>rfl
def Lift(ds:List Deferred)(Q:Exit->Act->World->Prop):Exit->Act->World->Prop:=λe a w=>∃a0,a=Vd ds a0/\Q e a0 w
section
variable {P:Program}{ops:Array Oper}{Q:Exit->Act->World->Prop}{ro:Option Nat}{n:Nat}{ds:List Deferred}
theorem Akl{f:FuncId}{args:Array Value}{w:World}{R:Ending->World->Prop}(h:Calls P f args w R):CallsIn (WF ro) n P f args w R:=(callsIn_wide (n:=n)).2 h
theorem lift_row{row:String}{args:Array Value}{w:World}{R:Value->World->Prop}(h:Rows P row args w R):RowsIn (WF ro) n P row args w R:=λc cs _=>by
 obtain⟨v,w',r,s⟩:=h c cs
 exact⟨v,w',r,stepsIn_wide.2 s⟩
theorem Api{o:Oper}{a:Act}{next next':Act->World->Prop}{r:Result Next}(h:o.upon P a next Q r)(hn:∀a w,next a w->next' (Vd ds a) w):
 o.uponIn (WF ro) n P (Vd ds a) next' (Lift ds Q) r:=by
 cases r with
 |ok x w'=>
  cases x with
  |value v=>simp only[Oper.upon,Oper.uponIn] at h ⊢;rw[EO];exact hn _ _ h
  |skip=>simp only[Oper.upon,Oper.uponIn] at h ⊢;rw[EO];exact hn _ _ h
  |defer d=>
   simp only[Oper.upon,Oper.uponIn] at h ⊢;have:=hn _ _ h;rw[←EO] at this;exact this
  |enter f args=>
   simp only[Oper.upon,Oper.uponIn] at h ⊢;refine⟨λhd=>(by cases hd),Akl (h.mono λe w'' he=>?_)⟩
   cases e with
   |returned v=>
    have h1:=hn _ _ he;rw[←EO] at h1;exact h1
   |panicked ch=>exact⟨a,rfl,he⟩
   |outgrown=>
    obtain⟨a1,w1,h1⟩:=he;exact⟨Vd ds a1,w1,a1,rfl,h1⟩
  |row row args=>
   simp only[Oper.upon,Oper.uponIn] at h ⊢;refine⟨λhd=>(by cases hd),lift_row (h.mono λv w'' he=>?_)⟩;rw[EO];exact hn _ _ he
  |_=>exact h.elim
 |halt x w'=>
  cases x with
  |panic v=>exact⟨a,rfl,h⟩
  |_=>exact h.elim
def calm(o:Oper):Bool:=match o.op with
 | .defer _=>false
 |_=>true
theorem Aca{o:Oper}{a:Act}{w:World}{next next':Act->World->Prop}(hc:calm o=true)(h:o.wp P a w next Q)(hn:∀a w,next a w->next' (Vd ds a) w):o.wpIn (WF ro) n P (Vd ds a) w next' (Lift ds Q):=by
 refine⟨λ_ _=>trivial,?_⟩;rw[Oper.semAt_eq _ _ _ (λc hd=>by unfold calm at hc;rw[hd] at hc;cases hc),RY];exact Api h hn
theorem WL(hQ:¬LetsOut Q):∀(l:List Oper) (a:Act) (w:World),l.all calm=true->wpList P ops Q l a w->wpListIn (WF ro) n P ops (Lift ds Q) l (Vd ds a) w
 |[],a,w,_,h=>⟨a,rfl,h⟩
 |o::rest,a,w,hc,h=>by
  rw[List.all_cons,bQ] at hc
  have ih:=λa w=>WL hQ rest a w hc.2
  unfold wpList at h
  unfold wpListIn
  by_cases hw:Region.wanted o (yielded ops a.tmps)=true
  ·rw[aQ hw] at h
   have hw':Region.wanted o (yielded ops (Vd ds a).tmps)=true:=hw
   rw[aQ hw']
   exact Aca hc.1 (h.resolve_right λhh=>hQ hh.2) ih
  ·rw[aP hw] at h
   have hw':¬Region.wanted o (yielded ops (Vd ds a).tmps)=true:=hw
   rw[aP hw',EO]
   exact⟨λ_ _=>trivial,ih _ _ h⟩
theorem Ahb(hQ:¬LetsOut Q)(hc:ops.toList.all calm=true):∀(fuel:Nat) (listed:Array Bool) (a:Act) (w:World),wpAny P .any ops Q fuel listed a w->wpAnyIn (WF ro) n P .any ops (Lift ds Q) fuel listed (Vd ds a) w
 |0,listed,a,w,h=>⟨h.1,a,rfl,h.2⟩
 |fuel+1,listed,a,w,h=>by
  refine⟨λhr=>⟨a,rfl,h.1 hr⟩,λi hi=>?_⟩
  have h1:=h.2 i hi
  have ih:=λa w=>Ahb hQ hc fuel (listed.setIfInBounds i true) a w
  unfold wpOp at h1
  unfold wpOpIn
  cases ho:ops[i]? with
  |none=>
   simp only[ho] at h1
   exact ih _ _ h1
  |some o=>
   simp only[ho] at h1
   have hco:calm o=true:=by
    rw[List.all_eq_true] at hc;exact hc o (by
     have:=Array.getElem?_eq_some_iff.1 ho;obtain⟨hlt,e⟩:=this;rw[←e];exact Array.getElem_mem_toList hlt)
   by_cases hw:Region.wanted o (yielded ops a.tmps)=true
   ·rw[aQ hw] at h1;have hw':Region.wanted o (yielded ops (Vd ds a).tmps)=true:=hw;simp only[hw',aS];exact Aca hco (h1.resolve_right λhh=>hQ hh.2) ih
   ·rw[aP hw] at h1;have hw':¬Region.wanted o (yielded ops (Vd ds a).tmps)=true:=hw;simp only[hw'];rw[EO];exact⟨λ_ _=>trivial,ih _ _ h1⟩
theorem Re(a:Act):Vd [] a=a:=by unfold Vd;rw[List.append_nil]
end
def MJ:Code->Bool
 | .region _ ops _=>ops.toList.all calm
 | .seq x y=>MJ x && MJ y
 | .cond _ x y=>MJ x && MJ y
 | .block _ x=>MJ x
 | .loop x=>MJ x
 | .scope _=>false
 | .rangeFunc _ _ _ _=>false
 |_=>true
def Wq(P:Program)(c:Code)(Q:Exit->Act->World->Prop)(a:Act)(w:World):Prop:=
 c.wp P Q a w/\∀ro n,MJ c=true->(∀a w,¬Q .outgrown a w)->c.wpIn (WF ro) n P Q a w
section
variable {P:Program}{ops:Array Oper}{Q:Exit->Act->World->Prop}{a:Act}{w:World}
theorem wp_mono{c:Code}{Q':Exit->Act->World->Prop}(h:Wq P c Q a w)(hq:∀e a w,Q e a w->Q' e a w):Wq P c Q' a w:=
 ⟨Go.wp_mono h.1 hq,λro n hc h0=>wpIn_mono (h.2 ro n hc λa w h1=>h0 a w (hq _ _ _ h1)) hq⟩
theorem Mf(h:Q .normal a w):Wq P .skip Q a w:=⟨Go.wp_skip h,λ_ _ _ _=>wpIn_skip h⟩
theorem Xm{id:Nat}(h:Q (.exit id) a w):Wq P (.exit id) Q a w:=⟨Go.wp_exit h,λ_ _ _ _=>wpIn_exit h⟩
theorem Tl(h:Q .ret a w):Wq P .ret Q a w:=⟨Go.wp_ret h,λ_ _ _ _=>wpIn_ret h⟩
theorem Ia{id:Nat}{c:Code}(h:Wq P c (Exit.inBlock id Q) a w):Wq P (.block id c) Q a w:=⟨Go.wp_block h.1,λro n hc h0=>wpIn_block (h.2 ro n hc h0)⟩
theorem Fs{x y:Code}(h:Wq P x (Exit.then (Wq P y Q) Q) a w):Wq P (.seq x y) Q a w:=
 ⟨wp_seq (Go.wp_mono h.1 λe a w q=>by cases e<;>first|exact q.1|exact q),λro n hc h0=>by
  rw[MJ,bQ] at hc
  exact wpIn_seq (wpIn_mono (h.2 ro n hc.1 h0) λe a w q=>by cases e<;>first|exact q.2 ro n hc.2 h0|exact q)⟩
theorem ZN{c:Operand}{x y:Code}{b:Bool}(hc:a.eval c= .bool b)(ht:b=true->Wq P x Q a w)(hf:b=false->Wq P y Q a w):Wq P (.cond c x y) Q a w:=
 ⟨wp_cond_split hc (λe=>(ht e).1) λe=>(hf e).1,λro n hk h0=>by
  rw[MJ,bQ] at hk
  exact wpIn_cond_split hc (λe=>(ht e).2 ro n hk.1 h0) λe=>(hf e).2 ro n hk.2 h0⟩
theorem IX{c:Operand}{x y:Code}(hc:a.eval c= .bool true)(h:Wq P x Q a w):Wq P (.cond c x y) Q a w:=ZN hc (λ_=>h) λe=>by cases e
theorem GW{c:Operand}{x y:Code}(hc:a.eval c= .bool false)(h:Wq P y Q a w):Wq P (.cond c x y) Q a w:=ZN hc (λe=>by cases e) λ_=>h
theorem Fg{id:Nat}{l:List Oper}(h:wpList P l.toArray Q l a w):Wq P (.region id l.toArray false) Q a w:=⟨wp_region_lit h,λro n hc h0=>by
 have h1:=wpIn_region_lit (id:=id) (WL (ro:=ro) (n:=n) (ds:=[]) (fun⟨_,_,h⟩=>h0 _ _ h) l a w (by simpa[MJ] using hc) h)
 rw[Re] at h1
 exact wpIn_mono h1 (by rintro e a' w' ⟨a0,rfl,hq⟩;rw[Re];exact hq)⟩
theorem f_any{id:Nat}{l:List Oper}(hm:P.follows .mixedOrders=true)(h:wpAny P .any l.toArray (QN λa w=>Q .normal a w) l.toArray.size (Array.replicate l.toArray.size false) a {w with drawn:=w.drawn+1}):Wq P (.region id l.toArray true) Q a w:=by
 have hq:∀e a w,QN (λa w=>Q .normal a w) e a w->Q e a w:=λe a w q=>by cases e<;>first|exact q|exact q.elim
 refine⟨Go.wp_mono (wp_region_any hm h) hq,λro n hc _=>?_⟩;have h1:=wpIn_region_any (id:=id) hm (Ahb (ro:=ro) (n:=n) (ds:=[]) (fun⟨_,_,h⟩=>h.elim) hc _ _ a _ h);rw[Re] at h1;exact wpIn_mono h1 (by rintro e a' w' ⟨a0,rfl,q⟩;rw[Re];exact hq _ _ _ q)
theorem Sn{ι:Type}{c:Code}(I:ι->Act->World->Prop)(μ:ι->Nat)(x0:ι)(h0:I x0 a w)
 (round:∀x a w,I x a w->Wq P c (Exit.then (λa' w'=>∃x',I x' a' w'/\μ x'<μ x) Q) a w):Wq P (.loop c) Q a w:=by
 have key:∀{m:Nat} {e:Exit} {a':Act} {w':World} {x:ι},μ x=m->Exit.then (λa' w'=>∃x',I x' a' w'/\μ x'<μ x) Q e a' w'->Exit.then (λa' w'=>∃m',m'<m/\∃x,μ x=m'/\I x a' w') Q e a' w':=by
  rintro m e a' w' x rfl q
  cases e<;>first|exact q|(obtain⟨x',h1,h2⟩:=q;exact⟨_,h2,x',rfl,h1⟩)
 refine⟨(wpIn_wide (n:=0)).1 (wpIn_loop_ghost (λm a w=>∃x,μ x=m/\I x a w) (μ x0) ⟨x0,rfl,h0⟩ ?_),λro n hc hQ=>wpIn_loop_ghost (λm a w=>∃x,μ x=m/\I x a w) (μ x0) ⟨x0,rfl,h0⟩ ?_⟩
 ·rintro m a w ⟨x,hx,hI⟩;exact wpIn_wide.2 (Go.wp_mono (round x a w hI).1 λe a w q=>key hx q)
 ·rintro m a w ⟨x,hx,hI⟩;exact wpIn_mono ((round x a w hI).2 ro n hc hQ) λe a w q=>key hx q
theorem Acb{c:Code}{ro:Option Nat}{n:Nat}(hc:MJ c=true)(h0:∀a w,¬Q .outgrown a w)(h:Wq P c Q a w):c.wpIn (WF ro) n P Q a w:=h.2 ro n hc h0
end
end Go.Proofs.YthlielagemkjcaaGreatDoor
