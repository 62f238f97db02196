/- More rules: tests for nil, slices that are made empty. No statement here. -/
import Derived.Test.YthlielagemkjcaaGreatDoorMap
namespace Go.Proofs.YthlielagemkjcaaGreatDoor
open Go
def nilB:Value->Bool
 | .slice none _ _=>true
 |_=>false
theorem Ahh {α:Type} {enc:α->List Value} {ψ:View} {k:Nat} {v:Value} {xs:List α} (h:Slc ψ k v (xs.map enc)) (hb:nilB v=true):xs=[]:=by
 obtain⟨ao,cap,rfl,h2,_,h4,_⟩:=h
 cases ao with
 |none=>
  have h5:=h4 rfl;rw[aV] at h2;exact List.eq_nil_of_length_eq_zero aA
 |some ad=>cases hb
section
variable {P:Program} {ops:Array Oper} {Q:Exit->Act->World->Prop} {rest:List Oper}
variable {w0:World} {X:List Nat} {φ:View} {L:List LEnt} {K:List (Nat×Value)} {n:Nat} {a:Act} {w:World}
variable {d:Nat} {ty:TypeId} {pos:String} {after:Array Edge}
theorem Apu {t el:TypeId} (ht:P.underlying t=some (.slice el)) (ao:Option Addr) (m c:Nat) (w:World):(Op.equal t (.slice ao m c) (.slice none 0 0)).run P w= .ok (nilB (.slice ao m c)) w:=by
 unfold Op.equal;rw[show Op.maxDepth=9999+1 from rfl,Op.equalIn];simp only[Sem.run_bind,run_underlying ht,Result.andThen_ok]
 cases ao<;>rfl
theorem Ahi {t u el:TypeId} {x y:Operand} {v:Value} {m:Nat} (ht:P.underlying t=some (.slice el)) (hv:Jc v m) (hx:a.eval x=v) (hy:a.eval y= .slice none 0 0):Rn P a w (.binOp .eql t x y u) ty (.bool (nilB v)):=by
 obtain⟨ao,c,rfl⟩:=hv;intro d p e g;simp[execOp,hx,hy,binOp,eqGuard,Apu ht]
theorem SW {T el sz:TypeId} (S:Sx w0 X φ L K n a w) (hT:P.underlying T=some (.slice el)) (hs:∀w,(sizeOf el).run P w= .ok sz w) (hd:Nat.blt d n=true)
 (k:∀a' w' b,b=w.heap.size->Keep [] w w'->Sx w0 X φ (.blk b [] el::L) ((d,.slice (some ⟨b,0,none⟩) 0 0)::K) n a' w'->wpList P ops Q rest a' w'):
 wpList P ops Q ({dst:=some d,op:= .buildSlice T 0 #[],type:=ty,pos,after,guard:=none}::rest) a w:=by
 have hb:(Instr.buildSlice T 0 #[]).run P w= .ok (.slice (some ⟨w.heap.size,0,none⟩) 0 0) (w.alloc (.cells #[] el)):=by
  unfold Instr.buildSlice;simp only[Sem.run_bind,run_underlying hT,hs,Result.andThen_ok,Nat.zero_mul,gt_iff_lt,Nat.not_lt_zero,aR,aS,Sem.run_pure,newRow,run_newObj,Instr.fill];simp[show Array.range 0= #[] from rfl]
 refine QK (v:= .slice (some ⟨w.heap.size,0,none⟩) 0 0) (w':=w.alloc (.cells #[] el)) ?_ ?_
 ·have he:execOp a.eval {dst:=some d,op:= .buildSlice T 0 #[],type:=ty,pos,after,guard:=none}=(do pure (.value (←Instr.buildSlice T 0 ((#[]:Array (Nat×Operand)).map fun(i,x)=>(i,a.eval x))))):=rfl;rw[he,Array.map_empty,Sem.run_bind,hb];rfl
 ·refine k _ _ w.heap.size rfl (Rq w _) (((S.more (e:= .blk w.heap.size [] el) (Rq w _) ?_ ?_)).put (by simpa using hd))
  ·show (w.alloc _).heap[w.heap.size]? =_;rw[heap_alloc_new]
  ·intro b hb;cases hb;exact bU _
end
theorem Afe {P:Program} {w:World} {em:Bool} {n t:Nat} {v:Value} (h:P.underlying t=some .string):(Instr.checkKey em (n+1) t v).run P w= .ok () w:=by
 rw[Instr.checkKey];simp[Sem.run_bind,run_underlying h]
theorem chk_int {P:Program} {w:World} {em:Bool} {n t:Nat} {v:Value} {k:IntKind} (h:P.underlying t=some (.int k)):(Instr.checkKey em (n+1) t v).run P w= .ok () w:=by
 rw[Instr.checkKey];simp[Sem.run_bind,run_underlying h]
def chkAll (P:Program) (em:Bool) (n:Nat) (xs:Array Value) (fs:List Field):Prop:=∀f∈fs,f.name≠ "_" ->∃v,(∀w,(part f.type xs f.offset).run P w= .ok v w)/\∀w,(Instr.checkKey em n f.type v).run P w= .ok () w
theorem Ahj {P:Program} {w:World} {em:Bool} {n:Nat} {xs:Array Value}:∀{fs:List Field},chkAll P em n xs fs->
 (do for f in fs do if f.name≠ "_" then Instr.checkKey em n f.type (←part f.type xs f.offset):Sem Unit).run P w= .ok () w
 |[],_=>by simp
 |f::fs,h=>by
  have ih:=Ahj (w:=w) (fs:=fs) (λg hg=>h g (aM _ hg))
  by_cases hn:f.name= "_"
  ·simp[List.forIn_cons,hn] at ih ⊢;exact ih
  ·obtain⟨v,h1,h2⟩:=h f aN hn
   simp[List.forIn_cons,Sem.run_bind,hn,h1,h2] at ih ⊢;exact ih
theorem Amx {P:Program} {w:World} {em:Bool} {n t:Nat} {xs:Array Value} {fs:Array Field} (hS:P.underlying t=some (.struct fs)) (h:chkAll P em n xs fs.toList):
 (Instr.checkKey em (n+1) t (.agg xs)).run P w= .ok () w:=by
 rw[Instr.checkKey];simp only[Sem.run_bind,run_underlying hS,Result.andThen_ok];have:=Ahj (P:=P) (w:=w) (em:=em) (n:=n) (xs:=xs) (fs:=fs.toList) h;simp at this ⊢;rw[this];rfl
section
variable {P:Program} {κ ν:Type} [DecidableEq κ]
omit [DecidableEq κ] in
theorem Ahk (xs:κ->Array Value) (vv:ν->Value) (fs:Array Field) (x:κ):∀(m:List (κ×ν)) (i:Nat),m≠[]->Instr.findNow (.struct fs) (.agg (xs x)) (Kd (λx=> .agg (xs x)) vv m i) i=none
 |[],_,h=>(h rfl).elim
 |(k,v)::m,i,_=>by simp[Kd,Instr.findNow,Instr.sameNow]
theorem QP {kt:Nat} {kv:κ->Value} {w:World} (he:∀x y w,(Op.equal kt (kv x) (kv y)).run P w= .ok (decide (x=y)) w) (vv:ν->Value) (x:κ):∀(m:List (κ×ν)) (i:Nat),
 (Instr.findAsking kt (kv x) (Kd kv vv m i) i).run P w= .ok ((Oo m x i).map λp=>(p.1,vv p.2)) w
 |[],i=>by simp[Kd,Instr.findAsking,Oo]
 |(k,v)::m,i=>by
  simp only[Kd,Instr.findAsking,Oo,Sem.run_bind,he,Result.andThen_ok]
  by_cases h:x=k
  ·simp[h]
  ·simp[h,QP he vv x m (i+1)]
theorem Ahl {kt:Nat} {fs:Array Field} {enc:κ->List Value} (D:Nat) (hD:Nat.ble D 10000=true) (hS:P.underlying kt=some (.struct fs)) (hc:∀em x w,(Instr.checkKey em 10000 kt (.agg (enc x).toArray)).run P w= .ok () w)
 (he:∀dd x y w,(Op.equalIn (dd+D) kt (.agg (enc x).toArray) (.agg (enc y).toArray)).run P w= .ok (decide (x=y)) w) (hs:∀x,Instr.sameBits 10000 (.agg (enc x).toArray) (.agg (enc x).toArray)=true):
 UR P kt (λx=> .agg (enc x).toArray) where
 chk:=hc
 find vv x m w:=by
  have hD':10000-D+D=10000:=Nat.sub_add_cancel (by simpa using hD);unfold Instr.findKey;simp only[Sem.run_bind,run_underlying hS,Result.andThen_ok]
  cases m with
  |nil=>simp[Kd,Instr.findNow,Oo]
  |cons p m=>
   rw[Ahk (λx=>(enc x).toArray) vv fs x (p::m) 0 aB];exact QP (kv:=λx=> .agg (enc x).toArray) (λx y w=>by have:=he (10000-D) x y w;rw[hD'] at this;exact this) vv x (p::m) 0
 same:=hs
end
theorem Acq (s:ByteArray):(s==s)=true:=by rw[beq_toListBytes,JL];simp
def IF (ops:Array Oper):List Nat->List Oper
 |[]=>[]
 |i::is=>match ops[i]? with
  |some o=>o::IF ops is
  |none=>IF ops is
def Acr (ops:Array Oper):List Nat->Array Bool->Bool
 |[],listed=>(Region.ready .any ops listed).isEmpty
 |i::is,listed=>(Region.ready .any ops listed).contains i && Region.free .any ops listed i && (ops[i]?).isSome && Acr ops is (listed.setIfInBounds i true)
def CO (P:Program) (ops:Array Oper) (N:Act->World->Prop) (l:List Oper) (a:Act) (w:World):Prop:=wpStill P ops w (λa'=>N a' w) l a
section
variable {P:Program} {ops:Array Oper} {N:Act->World->Prop} {rest:List Oper}
variable {w0:World} {X:List Nat} {φ:View} {L:List LEnt} {K:List (Nat×Value)} {n:Nat} {a:Act} {w:World}
variable {d:Nat} {ty:TypeId} {pos:String} {after:Array Edge}
theorem Acs {Q:Act->Prop} (hs:Region.noSelect ops=true):∀(is:List Nat) (listed:Array Bool) (a:Act),
 Acr ops is listed=true->wpStill P ops w Q (IF ops is) a->wpAnyS P .any ops w Q is.length listed a
 |[],_,_,hB,h=>⟨by simpa[Acr] using hB,h⟩
 |i::is,listed,a,hB,h=>by
  simp only[Acr,bQ] at hB
  obtain⟨⟨⟨hr,hf⟩,ho⟩,hB'⟩:=hB
  cases h0:ops[i]? with
  |none=>rw[h0] at ho;cases ho
  |some o=>
   have h':wpStill P ops w Q (o::IF ops is) a:=by simpa[IF,h0] using h
   have hst:stOp P ops w i (wpStill P ops w Q (IF ops is)) a:=by unfold stOp;simp only[h0];exact h'
   obtain⟨v,hy,hK⟩:=yieldsAt_of_stOp h0 hst
   exact wpAnyS_first h0 (Region.noSelect_spec hs) is.length listed a (Region.free_spec h0 hf) (by simpa using hr) hy (Acs hs is _ _ hB' hK)
theorem UT {C:Array Bool->World->Prop} {Q:Act->Prop} (hC:∀l,C l w) (hQ:∀a,Q a->N a w):∀(fuel:Nat) (listed:Array Bool) (a:Act),wpAnyS P .any ops w Q fuel listed a->wpC P ops C N fuel listed a w
 |0,_,_,h=>⟨hC _,h.1,hQ _ h.2⟩
 |fuel+1,_,_,h=>⟨hC _,λh0=>hQ _ (h.1 h0),λi hi=>wpOp_of_stOp (λa'=>UT hC hQ fuel _ a') (h.2 i hi)⟩
theorem OL {B Y:List Nat} {fuel:Nat} {listed:Array Bool} (is:List Nat) (hs:Region.noSelect ops=true) (hB:Acr ops is listed=true) (hf:is.length=fuel) (h:CO P ops N (IF ops is) a w):wpD P ops B Y N fuel listed a w:=by
 subst hf;exact UT (λ_ _=>Keep.refl Y w) (λ_ h=>h) _ _ _ (Acs hs is listed a hB h)
theorem XO (o:Oper) (h:o.guard=none) (y:Nat->Option Bool):Region.wanted o y=true:=by simp[Region.wanted,h]
theorem Aks {i:Nat} {o:Oper} {is:List Nat} (h:ops[i]? =some o):IF ops (i::is)=o::IF ops is:=by simp only[IF,h]
theorem Acu {op:Op} {v:Value} (S:Sx w0 X φ L K n a w) (h:Rn P a w op ty v) (hd:Nat.blt d n=true)
 (k:∀a',Sx w0 X φ L ((d,v)::K) n a' w->CO P ops N rest a' w):
 CO P ops N ({dst:=some d,op,type:=ty,pos,after,guard:=none}::rest) a w:=by
 unfold CO wpStill;rw[aQ (XO _ rfl _)];unfold Oper.still;rw[h (some d) pos after none];exact⟨rfl,k _ (S.put (by simpa using hd))⟩
variable {i:Nat} {is:List Nat}
theorem Rz {op:Op} {v:Value} (S:Sx w0 X φ L K n a w) (ho:ops[i]? =some {dst:=some d,op,type:=ty,pos,after,guard:=none}) (h:Rn P a w op ty v) (hd:Nat.blt d n=true)
 (k:∀a',Sx w0 X φ L ((d,v)::K) n a' w->CO P ops N (IF ops is) a' w):CO P ops N (IF ops (i::is)) a w:=by
 rw[Aks ho];exact Acu S h hd k
theorem QQ (k:N a w):CO P ops N (IF ops []) a w:=k
end
section
variable {κ ν:Type} [DecidableEq κ]
end
section
variable {P:Program} {ops:Array Oper} {Q:Exit->Act->World->Prop} {rest:List Oper}
variable {w0:World} {X:List Nat} {φ:View} {L:List LEnt} {K:List (Nat×Value)} {n:Nat} {a:Act} {w:World}
variable {d:Nat} {ty:TypeId} {pos:String} {after:Array Edge}
variable {κ ν:Type} [DecidableEq κ] {kv:κ->Value} {vv:ν->Value}
end
end Go.Proofs.YthlielagemkjcaaGreatDoor
