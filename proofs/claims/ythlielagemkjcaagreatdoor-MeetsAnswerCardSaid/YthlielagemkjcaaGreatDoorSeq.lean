/- Ranges over functions: what holds of a list of operations holds of it in a round too,and beside deferred calls. No statement here. -/
import Derived.RangeFuncNested
import Derived.RangeFuncLeaves
import Derived.RangeFuncCalls
import Derived.OrdersIn
import Derived.OwnWalkIn
import Derived.Sort.LoopGhostIn
import Derived.Test.YthlielagemkjcaaGreatDoorLaw
import Derived.Test.YthlielagemkjcaaGreatDoorArena
namespace Go.Proofs.YthlielagemkjcaaGreatDoor
open Go
theorem revI_at{m k:Nat}(h:k<m):(FW m)[k]? =some (m-1-k):=by
 unfold FW;rw[List.getElem?_eq_some_iff];exact⟨by simpa using h,by simp⟩
theorem nth_q{α:Type}[Inhabited α]{l:List α}{j:Nat}(h:j<l.length):l[j]? =some (nth l (j:Int)):=by
 unfold nth;simp[List.getD,List.getElem?_eq_getElem h]
section
variable {P:Program}{ops:Array Oper}{Q:Exit->Act->World->Prop}{ro:Option Nat}{n:Nat}{ds:List Deferred}
abbrev Dn(ds:List Deferred)(Q:Exit->Act->World->Prop):Exit->Act->World->Prop:=λe a w=>Q e (Vd ds a) w
theorem Yp{id:Nat}{l:List Oper}{a:Act}{w:World}(hQ:∀a w,¬Q .outgrown a w)(hc:l.all calm=true)(h:wpList P l.toArray (Dn ds Q) l a w):(Code.region id l.toArray false).wpIn (WF ro) n P Q (Vd ds a) w:=by
 refine wpIn_mono (wpIn_region_lit (WL (Q:=Dn ds Q) (fun⟨_,_,h⟩=>hQ _ _ h) l a w hc h)) ?_;rintro e a' w' ⟨a0,rfl,hq⟩;exact hq
theorem JV{x y:Code}{a:Act}{w:World}(h:x.wpIn (WF ro) n P (Exit.then (y.wpIn (WF ro) n P Q) Q) a w):(Code.seq x y).wpIn (WF ro) n P Q a w:=wpIn_seq h
theorem TQ{c:Operand}{x y:Code}{b:Bool}{a:Act}{w:World}(hc:a.eval c= .bool b)(ht:b=true->x.wpIn (WF ro) n P Q (Vd ds a) w)(hf:b=false->y.wpIn (WF ro) n P Q (Vd ds a) w):(Code.cond c x y).wpIn (WF ro) n P Q (Vd ds a) w:=
 wpIn_cond_split (by rw[RY];exact hc) ht hf
section
variable {w0:World}{X:List Nat}{φ:View}{L:List LEnt}{K:List (Nat×Value)}{nt:Nat}{a:Act}{w:World}
end
end
section
variable {P:Program}{Q:Exit->Act->World->Prop}{n:Nat}{w0:World}{X:List Nat}{φ:View}{L:List LEnt}{K:List (Nat×Value)}{nt:Nat}{a:Act}{w:World}
theorem keep_put{W:World}{l:Nat}(o:Obj):Keep [l] W (W.putObj l o):=by
 have h:=grownBy_putObj' W l o;exact⟨h.os,h.tape,h.output,h.size,λk hk hn=>h.block k hk (λe=>hn (by cases e;simp))⟩
theorem Sx.obj_at{i l:Nat}{o:Obj}(S:Sx w0 X φ L K nt a w)(hi:L[i]? =some (.obj l o)):w.heap[l]? =some o:=S.holds _ (List.mem_of_getElem? hi)
theorem Sx.obj_put{i l:Nat}{o:Obj}(o':Obj)(S:Sx w0 X φ L K nt a w)(hi:L[i]? =some (.obj l o)):Sx w0 X φ (L.set i (.obj l o')) K nt a (w.putObj l o'):=
 S.change hi (keep_put o') (λy hy=>by rw[bA.1 hy];rfl) (World.putObj_heap_same (heap_lt (S.obj_at hi))) (λb hb=>.inl hb)
def RQR(w0:World)(X:List Nat)(φ:View)(K:List (Nat×Value))(nt:Nat)(a:Act)(l D:Nat)(rec:LoopState->Loop)(J Jx:List LEnt->Prop):Exit->Act->World->Prop
 | .normal,_,W=>∃L',J L'/\Sx w0 X φ (.obj l (.loop (rec .busy)):: .obj D (.deferred (some []))::L') K nt a W
 | .ret,_,W=>∃L',Jx L'/\Sx w0 X φ (.obj l (.loop (rec .busy)):: .obj D (.deferred (some []))::L') K nt a W
 |_,_,_=>False
theorem Ahr{ι β:Type}{g:Operand}{ps:Array Tmp}{assign body:Code}{gf:Nat}{lb:Array Value}(encs:β->Array Value)
 (S:Sx w0 X φ L K nt a w) (hg:a.eval g= .func (.func gf) #[] lb) (eg:∀args w,(callFunc gf args).run P w= .ok (.enter gf args) w) (hps:∀x,(encs x).size=ps.size)
 (I:ι->List LEnt->Prop) (Ix:List LEnt->Prop) (St:ι->β->ι->Prop) (En:ι->Prop) (i0:ι) (h0:I i0 L)
 (hcl:∀(l:Nat) (e1 e2:LEnt) (J:ι->World->Prop) (Jx:World->Prop) (W:World),(∀i W,J i W↔∃L',I i L'/\Sx w0 X φ (e1::e2::L') K nt a W)->J i0 W->
  (∀i x i' W1,St i x i'->J i W1->YieldAt (WF none) (n-1-1) P l (encs x) W1 λe W'=>(e= .returned (.bool true)/\J i' W')\/(e= .returned (.bool false)/\Jx W'))->
  CallsIn (WF none) (n-1) P gf (#[.func (.yield l) #[] #[]]++lb) W λe W'=>(∃v,e= .returned v)/\((∃i,En i/\J i W')\/Jx W'))
 (hround:∀(l D:Nat) (rec:LoopState->Loop) (i:ι) (x:β) (i':ι) (L':List LEnt) (W:World),(∀st,(rec st).state=st)->(∀st st',{rec st with state:=st'}=rec st')->St i x i'->I i L'->
  Sx w0 X φ (.obj l (.loop (rec .ready)):: .obj D (.deferred (some []))::L') K nt a W->
  assign.wpIn (WF (some l)) (n-1-1) P (Exit.then (λa1 W1=>∃W2,(Instr.beginRound l).run P W1= .ok () W2/\body.wpIn (WF (some l)) (n-1-1) P (RQR w0 X φ K nt a l D rec (I i') Ix) a1 W2) (λ_ _ _=>False))
   {tmps:=(ps.zip (encs x)).foldl (λt (p,v)=>t.setIfInBounds p v) a.tmps,defers:=[]} W)
 (hdone:∀(D l:Nat) (o:Obj) (i:ι) (L':List LEnt) (W:World),En i->I i L'->Sx w0 X φ (.obj l o:: .obj D (.deferred (some []))::L') K nt a W->Q .normal (Vd [{target:=.collected D,args:=#[]}] a) W)
 (hret:∀(D l:Nat) (o:Obj) (L':List LEnt) (W:World),Ix L'->Sx w0 X φ (.obj l o:: .obj D (.deferred (some []))::L') K nt a W->Q .ret (Vd [{target:=.collected D,args:=#[]}] a) W):
 (Code.rangeFunc g ps assign body).wpIn (WF none) n P Q a w:=by
 refine wpIn_rangeFunc λfn hfn=>?_;obtain⟨rec,hrec⟩:∃rec:LoopState->Loop,rec=λst=>{state:=st,pending:=none,fn,tmps:=a.tmps,params:=ps,assign,body,defers:=w.heap.size}:=⟨_,rfl⟩;obtain⟨l,hl⟩:∃l,l=w.heap.size+1:=⟨_,rfl⟩;obtain⟨D,hD⟩:∃D,D=w.heap.size:=⟨_,rfl⟩;obtain⟨W1,hW1⟩:∃W1,(w.alloc (.deferred (some []))).alloc (.loop (rec .ready))=W1:=⟨_,rfl⟩;have hk:∀(W:World) (o:Obj),Keep [] W (W.alloc o):=λW o=>by
  have h:=World.grownBy_alloc W o none;exact⟨h.os,h.tape,h.output,h.size,λk hk _=>h.block k hk aB⟩
 have S1:Sx w0 X φ (.obj l (.loop (rec .ready)):: .obj D (.deferred (some []))::L) K nt a W1:=by
  have h1:=S.more (e:=.obj D (.deferred (some []))) (hk w (.deferred (some []))) (by rw[hD];exact World.alloc_heap_new w _) (λb hb=>by cases hb;omega);have h2:=h1.more (e:=.obj l (.loop (rec .ready))) (hk _ (.loop (rec .ready))) (by
   have:=World.alloc_heap_new (w.alloc (.deferred (some []))) (.loop (rec .ready));rw[World.size_alloc] at this;rw[hl];exact this) (λb hb=>by cases hb;rw[World.size_alloc];omega)
  rw[hW1] at h2;exact h2
 have hst:∀st,(rec st).state=st:=λst=>by rw[hrec]
 have hss:∀st st',{rec st with state:=st'}=rec st':=λst st'=>by rw[hrec]
 have ha:({a with defers:=[{target:=.collected D,args:=#[]}]++a.defers}:Act)=Vd [{target:=.collected D,args:=#[]}] a:=by
  unfold Vd;rw[S.nodefer];rfl
 refine⟨l,[{target:=.collected D,args:=#[]}],W1,{target:=.fn (.func gf) lb,args:=#[.func (.yield l) #[] #[]]},W1,gf,#[.func (.yield l) #[] #[]]++lb,W1,?_,?_,λ_ _=>trivial,?_,λhd=>(by cases hd),?_⟩
 ·rw[←hW1,hrec,hl,hD];exact run_enterLoop_outer _ _ _ _ _
 ·simp only[resolve,hg];simp[go_sem]
 ·simp[invoke,go_sem,eg]
 ·refine(hcl l (.obj l (.loop (rec .ready))) (.obj D (.deferred (some []))) (λk W=>∃L',I k L'/\Sx w0 X φ (.obj l (.loop (rec .ready)):: .obj D (.deferred (some []))::L') K nt a W) (λW=>∃L',Ix L'/\Sx w0 X φ (.obj l (.loop {rec .done with pending:=some .ret}):: .obj D (.deferred (some []))::L') K nt a W) W1 (λ_ _=>Iff.rfl) ⟨L,h0,S1⟩ ?_).mono ?_
  ·rintro k x k' W hx ⟨L',hi,S2⟩;have hy:=run_yield (P:=P) (args:=encs x) (S2.obj_at (i:=0) rfl) (by rw[hrec];exact hps x);refine⟨_,_,_,_,hy,roundIn_of_wpIn trivial ?_⟩;have hr:=hround l D rec k x k' L' W hst hss hx hi S2;rw[show (rec .ready).assign=assign by rw[hrec],show (rec .ready).body=body by rw[hrec],show (rec .ready).params=ps by rw[hrec],show (rec .ready).tmps=a.tmps by rw[hrec]];refine wpIn_mono hr ?_;intro e a1 w1 q
   cases e with
   |normal=>
    obtain⟨W2,hb,hbody⟩:=q;refine⟨W2,hb,wpIn_mono hbody ?_⟩;intro e a2 w2 q2
    cases e with
    |normal=>
     obtain⟨L'',hi2,S3⟩:=q2;have he:=run_endRound (P:=P) none (S3.obj_at (i:=0) rfl);refine⟨_,_,he,.inl ⟨rfl,L'',hi2,?_⟩⟩;have S4:=S3.obj_put (i:=0) (.loop (rec .ready)) rfl;have e1:({rec .busy with state:=if(none:Option Code).isNone then LoopState.ready else LoopState.done,pending:=none}:Loop)=rec .ready:=by rw[hrec];rfl
     rw[e1];exact S4
    |ret=>
     obtain⟨L'',hi2,S3⟩:=q2;have he:=run_endRound (P:=P) (some .ret) (S3.obj_at (i:=0) rfl);refine⟨_,_,he,.inr ⟨rfl,L'',hi2,?_⟩⟩;have S4:=S3.obj_put (i:=0) (.loop {rec .done with pending:=some .ret}) rfl;have e1:({rec .busy with state:=if(some Code.ret:Option Code).isNone then LoopState.ready else LoopState.done,pending:=some .ret}:Loop)={rec .done with pending:=some .ret}:=by rw[hrec];rfl
     rw[e1];exact S4
    |_=>exact q2.elim
   |_=>exact q.elim
  ·rintro e W2 ⟨⟨v,rfl⟩,⟨i,hen,L',hi,S2⟩|⟨L',hi,S2⟩⟩
   ·have he:=run_endLoop (P:=P) (S2.obj_at (i:=0) rfl) (by rw[hst];decide);refine⟨_,_,he,?_⟩;have hpend:(rec .ready).pending=none:=by rw[hrec]
    rw[hpend];show Q .normal _ _;rw[ha];exact hdone D l _ i L' _ hen hi (S2.obj_put (i:=0) _ rfl)
   ·have he:=run_endLoop (P:=P) (S2.obj_at (i:=0) rfl) (by show (rec .done).state≠_;rw[hst];decide);refine⟨_,_,he,?_⟩;show (Code.ret).wpIn (WF none) n P Q _ _;refine wpIn_ret ?_;rw[ha];exact hret D l _ L' _ hi (S2.obj_put (i:=0) _ rfl)
theorem Ahs{β:Type}{g:Operand}{ps:Array Tmp}{assign body:Code}{gf:Nat}{lb:Array Value}(revs:List β)(encs:β->Array Value)
 (S:Sx w0 X φ L K nt a w) (hg:a.eval g= .func (.func gf) #[] lb) (eg:∀args w,(callFunc gf args).run P w= .ok (.enter gf args) w) (hps:∀x,(encs x).size=ps.size)
 (hcl:∀(l:Nat) (J:Nat->World->Prop) (Jx:World->Prop) (W:World),(∀k W,J k W->Emb φ W/\Emb (view w0 X) W)->J 0 W->
  (∀k x W1,revs[k]? =some x->J k W1->YieldAt (WF none) (n-1-1) P l (encs x) W1 λe W'=>(e= .returned (.bool true)/\J (k+1) W')\/(e= .returned (.bool false)/\Jx W'))->
  CallsIn (WF none) (n-1) P gf (#[.func (.yield l) #[] #[]]++lb) W λe W'=>(∃v,e= .returned v)/\(J revs.length W'\/Jx W'))
 (I:Nat->List LEnt->Prop) (Ix:List LEnt->Prop) (h0:I 0 L)
 (hround:∀(l D:Nat) (rec:LoopState->Loop) (k:Nat) (x:β) (L':List LEnt) (W:World),(∀st,(rec st).state=st)->(∀st st',{rec st with state:=st'}=rec st')->revs[k]? =some x->I k L'->
  Sx w0 X φ (.obj l (.loop (rec .ready)):: .obj D (.deferred (some []))::L') K nt a W->
  assign.wpIn (WF (some l)) (n-1-1) P (Exit.then (λa1 W1=>∃W2,(Instr.beginRound l).run P W1= .ok () W2/\body.wpIn (WF (some l)) (n-1-1) P (RQR w0 X φ K nt a l D rec (I (k+1)) Ix) a1 W2) (λ_ _ _=>False))
   {tmps:=(ps.zip (encs x)).foldl (λt (p,v)=>t.setIfInBounds p v) a.tmps,defers:=[]} W)
 (hdone:∀(D l:Nat) (o:Obj) (L':List LEnt) (W:World),I revs.length L'->Sx w0 X φ (.obj l o:: .obj D (.deferred (some []))::L') K nt a W->Q .normal (Vd [{target:=.collected D,args:=#[]}] a) W)
 (hret:∀(D l:Nat) (o:Obj) (L':List LEnt) (W:World),Ix L'->Sx w0 X φ (.obj l o:: .obj D (.deferred (some []))::L') K nt a W->Q .ret (Vd [{target:=.collected D,args:=#[]}] a) W):
 (Code.rangeFunc g ps assign body).wpIn (WF none) n P Q a w:=
 Ahr encs S hg eg hps I Ix (λk x k'=>revs[k]? =some x/\k'=k+1) (λk=>k=revs.length) 0 h0
  (λl e1 e2 J Jx W hJ j0 hy=>(hcl l J Jx W (λk W h=>have⟨_,_,h⟩:=(hJ k W).1 h;⟨h.emb,h.emb0⟩) j0 λk x W1 hx hj=>hy k x (k+1) W1 ⟨hx,rfl⟩ hj).mono λe W' h=>⟨h.1,h.2.imp (λh=>⟨_,rfl,h⟩) id⟩)
  (λl D rec k x k' L' W h1 h2 hx hi S=>by obtain⟨hx,rfl⟩:=hx;exact hround l D rec k x L' W h1 h2 hx hi S)
  (λD l o k L' W hk hi S=>by subst hk;exact hdone D l o L' W hi S) hret
theorem Afk{fn:Func}{rs:List ResultVar}{vs:List Value}{v:Value}{Φ:View->Value->World->Prop}{i D:Nat}(S:Sx w0 X φ L K nt a w)(hi:L[i]? =some (.obj D (.deferred (some []))))(hr:fn.results=rs.toArray)
 (hv:(if h:vs.toArray.size=1 then vs.toArray[0] else Value.tuple vs.toArray)=v)
 (h:∀w',Sx w0 X φ (L.set i (.obj D (.deferred none))) K nt a w'->YH P a.tmps w' rs vs/\Φ (newer w0 w') v w'):
 bodyPostM (WF none) n P fn (Ret w0 X Φ) .ret (Vd [{target:=.collected D,args:=#[]}] a) w:=by
 have S2:=S.obj_put (.deferred none) hi;have hd:(Vd [{target:=.collected D,args:=#[]}] a).defers=[{target:=.collected D,args:=#[]}]:=by unfold Vd;rw[S.nodefer];rfl
 show LeavesInM (WF none) n P fn (Vd [{target:=.collected D,args:=#[]}] a).tmps (Ret w0 X Φ) (Vd [{target:=.collected D,args:=#[]}] a).defers .returning w;rw[hd];obtain⟨h0,hΦ⟩:=h _ S2;refine⟨by simp,.inl ⟨D,_,rfl,run_takeDeferred (S.obj_at hi),v,?_,v,rfl,S2.keep,hΦ⟩⟩;subst hv;exact Ahc hr h0
theorem Afl{i l:Nat}{r:Loop}{body:Code}{ds:List Deferred}(S:Sx w0 X φ L K nt a w)(hi:L[i]? =some (.obj l (.loop r)))(hr:r.state= .ready)
 (k:∀w',Sx w0 X φ (L.set i (.obj l (.loop {r with state:=.busy}))) K nt a w'->body.wpIn (WF (some l)) n P Q (Vd ds a) w'):
 ∃W2,(Instr.beginRound l).run P w= .ok () W2/\body.wpIn (WF (some l)) n P Q (Vd ds a) W2:=
 ⟨_,run_beginRound (S.obj_at hi) hr,k _ (S.obj_put _ hi)⟩
theorem Sx.back{L':List LEnt}{K':List (Nat×Value)}{a':Act}{w':World}(S:Sx w0 X φ L K nt a w)(S':Sx w0 X φ L' K' nt a' w'):Sx w0 X φ L' K nt a w':=
 {S' with nodefer:=S.nodefer,size:=S.size,slots:=S.slots}
theorem i_mid{ro:Option Nat}{x y:Code}(J:Act->World->Prop)(h:x.wpIn (WF ro) n P (Exit.then J Q) a w)(k:∀a w,J a w->y.wpIn (WF ro) n P Q a w):(Code.seq x y).wpIn (WF ro) n P Q a w:=
 wpIn_seq (wpIn_mono h λe a w q=>by cases e<;>first|exact k a w q|exact q)
theorem blk_ret{i b T:Nat}{cells:List Value}(S:Sx w0 X φ L K nt a w)(hi:L[i]? =some (.blk b cells T))(hX:X=[]):newer w0 w b=some (.cells cells.toArray T (0,0)):=by
 have h1:=S.blk_at hi;have h2:=(S.sep b (List.mem_filterMap.2 ⟨_,List.mem_of_getElem? hi,rfl⟩)).2.1;unfold newer;rw[aQ (h2.resolve_right (by rw[hX];simp))];exact h1
theorem Sx.rebase{w':World}(S:Sx w0 X φ L K nt a w):Sx w' [] nov [] K nt a w':=by
 have h1:∀b o,nov b=some o->False:=λb o h=>by cases h
 exact {keep:=Keep.refl _ _,emb:=(λb o h=>(h1 b o h).elim),fresh:=(λb o h=>(h1 b o h).elim),holds:=(λe he=>absurd he bM),nodup:=List.nodup_nil,sep:=(λb hb=>absurd hb bM),nodefer:=S.nodefer,size:=S.size,slots:=S.slots}
variable {ro:Option Nat}{ops:Array Oper}{rest:List Oper}{ds:List Deferred}{d:Nat}{ty:TypeId}{pos:String}{after:Array Edge}
theorem Anh{f:FuncId}{fn:Func}{c:Code}{vs:List Value}{R:Ending->World->Prop}(hf:P.funcs[f]? =some fn)(hb:fn.body=some c)(hnt:fn.ntmps=nt)(hn:Nat.ble vs.length nt=true)
 (k:∀a,Sx w [] nov [] (ZO 0 vs) nt a w->c.wpIn (WF none) n P (bodyPost P fn R) (Vd [] a) w):CallsIn (WF none) n P f vs.toArray w R:=by
 refine callsIn_of_wp hf hb trivial ?_ rfl;rw[hnt];have h:=k _ (Sx.init [] [] aB (by simp[fps]) (by simp[fps]) hn);rw[Re] at h;exact h
theorem i_loop{c:Code}(I:Nat->Act->World->Prop)(n0:Nat)(h0:I n0 a w)
 (round:∀m a w,I m a w->c.wpIn (WF ro) n P (Exit.then (λb w'=>∃m' a',m'<m/\b=Vd ds a'/\I m' a' w') Q) (Vd ds a) w):(Code.loop c).wpIn (WF ro) n P Q (Vd ds a) w:=by
 refine wpIn_loop_ghost (λm b w=>∃a',b=Vd ds a'/\I m a' w) n0 ⟨a,rfl,h0⟩ ?_;rintro m b w ⟨a',rfl,h⟩;refine wpIn_mono (round m a' w h) ?_;intro e b' w' q
 cases e with
 |normal=>
  obtain⟨m',a2,hlt,rfl,h2⟩:=q;exact⟨m',hlt,a2,rfl,h2⟩
 |_=>exact q
theorem YJ{op:Op}{v:Value}(S:Sx w0 X φ L K nt a w)(h:Rn P a w op ty v)(hc:∀c,op≠.defer c)(hd:Nat.blt d nt=true)
 (k:∀a',Sx w0 X φ L ((d,v)::K) nt a' w->wpListIn (WF ro) n P ops Q rest (Vd ds a') w):
 wpListIn (WF ro) n P ops Q ({dst:=some d,op,type:=ty,pos,after,guard:=none}::rest) (Vd ds a) w:=by
 refine wpListIn_plain rfl λK' hK=>?_;refine⟨λ_ _=>trivial,?_⟩;rw[Oper.semAt_eq _ _ _ hc,RY,h (some d) pos after none];show K' ((Vd ds a).put (some d) v) w;rw[EO];exact hK _ _ (k _ (S.put (by simpa using hd)))
theorem Ani{x:Operand}{args:Array Operand}{tys:Array TypeId}{l:Nat}{vs:Array Value}{R:Ending->World->Prop}(S:Sx w0 X φ L K nt a w)(hx:a.eval x= .func (.yield l) #[] #[])(ha:args.map a.eval=vs)(hd:Nat.blt d nt=true)
 (hy:YieldAt (WF ro) (n-1) P l vs w R) (k:∀v w' a',R (.returned v) w'->Sx w' [] nov [] ((d,v)::K) nt a' w'->wpListIn (WF ro) n P ops Q rest (Vd ds a') w')
 (hR:∀e w',R e w'->∃v,e= .returned v):
 wpListIn (WF ro) n P ops Q ({dst:=some d,op:=.call {callee:=.value x,args,argTypes:=tys},type:=ty,pos,after,guard:=none}::rest) (Vd ds a) w:=by
 obtain⟨fn,tmps,assign,body,hrun,hround⟩:=hy;refine wpListIn_plain rfl λK' hK=>?_;refine⟨λ_ _=>trivial,?_⟩;rw[Oper.semAt_eq _ _ _ (λc e=>by cases e),RY];have he:(execOp a.eval {dst:=some d,op:=.call {callee:=.value x,args,argTypes:=tys},type:=ty,pos,after,guard:=none}).run P w= .ok (.round l fn tmps assign body) w:=by
  simp[execOp,resolve,hx,Deferred.ofValue,invoke,ha,hrun]
 rw[he];refine⟨λhd=>(by cases hd),RoundIn.mono hround ?_⟩;intro e w' hr;obtain⟨v,rfl⟩:=hR _ _ hr;show K' ((Vd ds a).put (some d) v) w';rw[EO];exact hK _ _ (k v w' _ hr ((S.put (by simpa using hd)).rebase))
theorem Aad{f:FuncId}{fn:Func}{c:Code}{vs:List Value}{R:Ending->World->Prop}(n:Nat)(hf:P.funcs[f]? =some fn)(hb:fn.body=some c)(hnt:fn.ntmps=nt)(hn:Nat.ble vs.length nt=true)
 (k:∀a,Sx w [] nov [] (ZO 0 vs) nt a w->c.wpIn (WF none) n P (bodyPostM (WF none) n P fn R) (Vd [] a) w):Calls P f vs.toArray w R:=by
 refine(callsIn_wide (n:=n)).1 (callsIn_of_wp_marks hf hb trivial ?_ rfl);rw[hnt];have h:=k _ (Sx.init [] [] aB (by simp[fps]) (by simp[fps]) hn);rw[Re] at h;exact h
theorem prms2(a:Act)(p q:Tmp)(u v:Value)(h:a.defers=[]):({tmps:=((#[p,q]:Array Tmp).zip #[u,v]).foldl (λt (p,v)=>t.setIfInBounds p v) a.tmps,defers:=[]}:Act)=Vd [] ((a.put (some p) u).put (some q) v):=by
 rw[Re]
 cases a
 simp only at h;subst h;simp[Act.put]
theorem Afm(k:Q .normal (Vd ds a) w):wpListIn (WF ro) n P ops Q [] (Vd ds a) w:=k
end
end Go.Proofs.YthlielagemkjcaaGreatDoor
