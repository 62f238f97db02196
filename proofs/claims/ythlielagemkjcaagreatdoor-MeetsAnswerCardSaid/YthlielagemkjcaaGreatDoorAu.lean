/- Walks that show by themselves. No statement here. -/
import Derived.Test.YthlielagemkjcaaGreatDoorTab
import Derived.Test.YthlielagemkjcaaGreatDoorText
namespace Go.Proofs.YthlielagemkjcaaGreatDoor
universe u
open Go
class SzI(P:Program)(T:TypeId)(k:outParam Nat):Prop where
 out:∀w,(sizeOf T).run P w= .ok k w
class AgT(P:Program)(T:TypeId):Prop where
 out:∀w,(isAgg T).run P w= .ok true w
class ZvI(P:Program)(T:TypeId)(z:outParam Value):Prop where
 out:∀w,(zeroValue T).run P w= .ok z w
class UnI(P:Program)(T:TypeId)(u:outParam TypeDesc):Prop where
 out:P.underlying T=some u
class FnB(P:Program)(f:FuncId)(vs:List Value){R:outParam Type}(tw:outParam (Option R))(V:outParam (R->Value)):Prop where
 call:∀args w,(callFunc f args).run P w= .ok (.enter f args) w
 out:∀w r,tw=some r->Calls P f vs.toArray w (Ret w [] λ_ v' _=>v'=V r)
abbrev VH(P:Program)(f:FuncId):Prop:=∀args w,(callFunc f args).run P w= .ok (.enter f args) w
class FnT(P:Program)(f:FuncId)(vs:List Value)(T:outParam Prop):Prop where
 call:VH P f
 out:T
class DecI(P:Program)(T:TypeId){α:outParam Type}(k:outParam Nat)(enc:outParam (α->List Value))(dec:outParam (List Value->Option α)):Prop where
 agg:∀w,(isAgg T).run P w= .ok true w
 size:∀w,(sizeOf T).run P w= .ok k w
 len:∀x,(enc x).length=k
 out:∀cs x,dec cs=some x->enc x=cs
class MixI(P:Program):Prop where
 out:P.follows .mixedOrders=true
class EncI{α:Type}(k:outParam Nat)(enc:α->List Value):Prop where
 out:Enc k enc
instance:EncI 1 eInt:=⟨Xn⟩
instance:EncI 1 Io:=⟨Tm⟩
instance:EncI 1 RS.enc:=⟨RS.enc_ok⟩
structure Nx(i p:Nat):Prop where
abbrev Wl(P:Program)(ops:Array Oper)(Q:Exit->Act->World->Prop)(dst:Option Nat)(op:Op)(ty:TypeId)(pos:String)(after:Array Edge)(rest:List Oper)(a:Act)(w:World):Prop:=wpList P ops Q ({dst,op,type:=ty,pos,after,guard:=none}::rest) a w
theorem joinX{κ R:Type}{K:κ}{f:κ->R}{r:R}{G:Prop}(h:Fq K f=r)(q:f K=r->G):G:=q h
theorem chkX{R:Type}{c:Bool}{k:Option R}{r:R}{G:Prop}(h:Chk c k=some r)(q:c=true->k=some r->G):G:=q (On h).1 (On h).2
theorem bindX{α β:Type}{o:Option α}{f:α->Option β}{r:β}{G:Prop}(h:Option.bind o f=some r)(q:∀x,o=some x->f x=some r->G):G:=by
 obtain⟨x,e,h⟩:=Rw h;exact q x e h
abbrev ST:=View->List LEnt->List (Nat×Value)->Act->World->Prop
theorem andT{a b:Bool}(h:a=true)(k:b=true):(a && b)=true:=by rw[h,k];rfl
theorem andF1{a b:Bool}(h:a=false):(a && b)=false:=by rw[h];rfl
theorem andF2{a b:Bool}(h:b=false):(a && b)=false:=by rw[h];cases a<;>rfl
theorem orT1{a b:Bool}(h:a=true):(a||b)=true:=by rw[h];rfl
theorem orT2{a b:Bool}(h:b=true):(a||b)=true:=by rw[h];cases a<;>rfl
theorem orF{a b:Bool}(h:a=false)(k:b=false):(a||b)=false:=by rw[h,k];rfl
theorem iteTC{R:Type}{A B r:R}{b:Bool}{G:Prop}(h:(if b=true then A else B)=r)(hb:b=true)(q:A=r->G):G:=q (ZH h hb)
theorem iteFC{R:Type}{A B r:R}{b:Bool}{G:Prop}(h:(if b=true then A else B)=r)(hb:b=false)(q:B=r->G):G:=q (ZI h hb)
abbrev VI{α:Sort u}(h:Inhabited α):Inhabited α:=h
theorem slc_maxE{α β:Type}{enc:β->List Value}{R:α->β->Prop}{ψ:View}{k:Nat}{v:Value}{xs:List α}{rs:List β}(hr:Mu R xs rs)(h:Slc ψ k v (rs.map enc)):xs.length<=9223372036854775807:=slc_maxD h hr
theorem rngStep{α:Type}{xs dn ys:List α}{y:α}{i:Nat}(h:xs=dn++y::ys)(k:dn.length=i):∃dn',xs=dn'++ys/\dn'.length=i+1:=⟨_,h.trans (bE _ _ _),by simp[k]⟩
def VJ:Op->Bool
 | .move _| .assign _| .load _ _| .fieldAddr _ _ _| .binOp _ _ _ _ _| .unOp _ _ _| .pick _ _ _| .extract _ _| .indexAddr _ _ _| .index _ _ _| .nilCheck _| .convert _ _ _=>true
 | .call c=>match c.callee with
  | .builtin .len| .builtin .max| .builtin .min=>true
  |_=>false
 |_=>false
def quietL:List Oper->Bool
 |[]=>true
 |o::l=>match VJ o.op with
  |true=>quietL l
  |false=>false
def VK(t:Nat):List Oper->Option (Nat×Nat)
 |[]=>none
 |o::l=>match o.op,o.dst with
  | .pick (.tmp t') _ _,some d=>match Nat.beq t t' with
   |true=>some (1,d)
   |false=>match VK t l with
    |some (m,e)=>some (m+1,e)
    |none=>none
  |_,_=>match VK t l with
   |some (m,e)=>some (m+1,e)
   |none=>none
theorem Aae:∀(l pre:List Oper),IF (pre++l).toArray (List.range' pre.length l.length)=l
 |[],_=>rfl
 |o::l,pre=>by
  have h:=Aae l (pre++[o])
  rw[List.append_assoc,List.singleton_append,aU,aX] at h
  rw[aT,List.range'_succ,IF]
  have h1:((pre++o::l).toArray)[pre.length]? =some o:=by simp
  simp only[h1]
  exact congrArg (o::·) h
theorem Aqc(l:List Oper):IF l.toArray (List.range l.length)=l:=by
 have h:=Aae l []
 rwa [aZ,aW,←List.range_eq_range'] at h
section
variable {P:Program}{ops:Array Oper}{Q:Exit->Act->World->Prop}{rest:List Oper}
variable {w0:World}{X:List Nat}{φ:View}{L:List LEnt}{K:List (Nat×Value)}{n:Nat}{a:Act}{w:World}
variable {d:Nat}{ty:TypeId}{pos:String}{after:Array Edge}
theorem Sx.lit{t:Nat}{b c:Bool}(S:Sx w0 X φ L K n a w)(h:look K t=some (.bool b))(e:b=c):Sx w0 X φ L ((t,.bool c)::K) n a w:=by
 subst e;refine {S with slots:=λu v hu=>?_};unfold look at hu
 split at hu
 ·rename_i hb;have:t=u:=Nat.eq_of_beq_eq_true hb;subst this;exact S.slots _ _ (h.trans hu)
 ·exact S.slots _ _ hu
theorem gsplit{j tj:Nat}{o oj:Oper}{b want:Bool}(S:Sx w0 X φ L K n a w)(_:o.guard=some (j,want))(_:ops[j]? =some oj)(_:oj.dst=some tj)(hv:look K tj=some (.bool b))
 (k1:b=true->Sx w0 X φ L ((tj,.bool true)::K) n a w->wpList P ops Q (o::rest) a w) (k2:b=false->Sx w0 X φ L ((tj,.bool false)::K) n a w->wpList P ops Q (o::rest) a w):wpList P ops Q (o::rest) a w:=by
 cases b with
 |true=>exact k1 rfl (S.lit hv rfl)
 |false=>exact k2 rfl (S.lit hv rfl)
theorem gskip{op:Op}{j:Nat}{b want:Bool}{oj:Oper}{tj:Nat}(S:Sx w0 X φ L K n a w)(hj:ops[j]? =some oj)(ht:oj.dst=some tj)(hv:look K tj=some (.bool b))(hb:(b==want)=false)(hd:Nat.blt d n=true)
 (k:∀a',Sx w0 X φ L ((d,undef)::K) n a' w->wpList P ops Q rest a' w):wpList P ops Q ({dst:=some d,op,type:=ty,pos,after,guard:=some (j,want)}::rest) a w:=JP S hj ht hv hb hd k rfl
theorem csplit{t:Nat}{x y:Code}{b:Bool}(S:Sx w0 X φ L K n a w)(hv:look K t=some (.bool b))
 (k1:b=true->Sx w0 X φ L ((t,.bool true)::K) n a w->Wq P x Q a w) (k2:b=false->Sx w0 X φ L ((t,.bool false)::K) n a w->Wq P y Q a w):Wq P (Code.cond (.tmp t) x y) Q a w:=by
 cases b with
 |true=>exact IX (S.tm hv) (k1 rfl (S.lit hv rfl))
 |false=>exact GW (S.tm hv) (k2 rfl (S.lit hv rfl))
theorem evc{v:Value}:a.eval (.const v)=v:=rfl
theorem evf{f:FuncId}:a.eval (.func f)= .func (.func f) #[] #[]:=rfl
theorem pickT{c x y:Operand}{b:Bool}{v:Value}(hc:a.eval c= .bool b)(h:b=true)(hx:a.eval x=v):Rn P a w (.pick c x y) ty v:=Ach h hc hx
theorem pickF{c x y:Operand}{b:Bool}{v:Value}(hc:a.eval c= .bool b)(h:b=false)(hy:a.eval y=v):Rn P a w (.pick c x y) ty v:=Aci h hc hy
theorem condT{t:Nat}{x y:Code}{b:Bool}(S:Sx w0 X φ L K n a w)(hv:look K t=some (.bool b))(h:b=true)(k:Wq P x Q a w):Wq P (Code.cond (.tmp t) x y) Q a w:=S.wt h hv k
theorem condF{t:Nat}{x y:Code}{b:Bool}(S:Sx w0 X φ L K n a w)(hv:look K t=some (.bool b))(h:b=false)(k:Wq P y Q a w):Wq P (Code.cond (.tmp t) x y) Q a w:=S.wf h hv k
theorem idL{l:List Oper}(h:wpList P ops Q l a w):wpList P ops Q l a w:=h
theorem idC{c:Code}(h:Wq P c Q a w):Wq P c Q a w:=h
theorem idB{op:BinOp}{x y:Operand}{t u:TypeId}{v:Value}(h:Rn P a w (.binOp op t x y u) ty v):Rn P a w (.binOp op t x y u) ty v:=h
theorem idD{x:Operand}{t:TypeId}{v:Value}(h:Rn P a w (.load t x) ty v):Rn P a w (.load t x) ty v:=h
theorem idX{e:Exit}{J:Act->World->Prop}(h:Exit.then J Q e a w):Exit.then J Q e a w:=h
theorem idR{fn:Func}{R:Ending->World->Prop}{e:Exit}(h:bodyPost P fn R e a w):bodyPost P fn R e a w:=h
theorem idE{α:Type}{x y:α}(h:x=y):x=y:=h
theorem idV(h:Sx w0 X φ L K n a w):Sx w0 X φ L K n a w:=h
theorem idK{Y:List Nat}{w':World}(h:Keep Y w w'):Keep Y w w':=h
theorem scJ{m e tj j:Nat}{b want:Bool}{o oj:Oper}{R:Type}{r:R}{KJ:Bool->R}{A B:(Bool->R)->R}(S:Sx w0 X φ L K n a w)(_:o.guard=some (j,want))(_:ops[j]? =some oj)(_:oj.dst=some tj)(hv:look K tj=some (.bool b))(h:Fq KJ (λj=>if b=true then A j else B j)=r)(_:VK tj (o::rest)=some (m,e))
 (h1:∀j,b=true->A j=r->Sx w0 X φ L ((tj,.bool true)::K) n a w->wpList P ops (Exit.then (λa w'=>∃c,j c=r/\Keep [] w w'/\Sx w0 X φ L ((e,.bool c)::K) n a w') Q) ((o::rest).take m) a w)
 (h2:∀j,b=false->B j=r->Sx w0 X φ L ((tj,.bool false)::K) n a w->wpList P ops (Exit.then (λa w'=>∃c,j c=r/\Keep [] w w'/\Sx w0 X φ L ((e,.bool c)::K) n a w') Q) ((o::rest).take m) a w)
 (k:∀c a w',KJ c=r->Keep [] w w'->Sx w0 X φ L ((e,.bool c)::K) n a w'->wpList P ops Q ((o::rest).drop m) a w'):wpList P ops Q (o::rest) a w:=by
 refine f_ctj m h (λc a w'=>Sx w0 X φ L ((e,.bool c)::K) n a w') (λj hj=>?_) k
 cases b with
 |true=>exact h1 j rfl hj (S.lit hv rfl)
 |false=>exact h2 j rfl (by simpa using hj) (S.lit hv rfl)
theorem scA{m e tj j:Nat}{o oj:Oper}{b u:Bool}(S:Sx w0 X φ L K n a w)(_:o.guard=some (j,true))(_:ops[j]? =some oj)(_:oj.dst=some tj)(hv:look K tj=some (.bool b))(_:VK tj (o::rest)=some (m,e))
 (h1:b=true->Sx w0 X φ L ((tj,.bool true)::K) n a w->wpList P ops (Exit.then (λa w'=>Keep [] w w'/\Sx w0 X φ L ((e,.bool u)::K) n a w') Q) ((o::rest).take m) a w)
 (h2:b=false->Sx w0 X φ L ((tj,.bool false)::K) n a w->wpList P ops (Exit.then (λa w'=>Keep [] w w'/\Sx w0 X φ L ((e,.bool false)::K) n a w') Q) ((o::rest).take m) a w)
 (k:∀a w',Keep [] w w'->Sx w0 X φ L ((e,.bool (b && u))::K) n a w'->wpList P ops Q ((o::rest).drop m) a w'):wpList P ops Q (o::rest) a w:=by
 refine f_ct m (Sx w0 X φ L ((e,.bool (b && u))::K) n) ?_ k
 cases b with
 |true=>exact h1 rfl (S.lit hv rfl)
 |false=>exact h2 rfl (S.lit hv rfl)
theorem scO{m e tj j:Nat}{o oj:Oper}{b u:Bool}(S:Sx w0 X φ L K n a w)(_:o.guard=some (j,false))(_:ops[j]? =some oj)(_:oj.dst=some tj)(hv:look K tj=some (.bool b))(_:VK tj (o::rest)=some (m,e))
 (h1:b=false->Sx w0 X φ L ((tj,.bool false)::K) n a w->wpList P ops (Exit.then (λa w'=>Keep [] w w'/\Sx w0 X φ L ((e,.bool u)::K) n a w') Q) ((o::rest).take m) a w)
 (h2:b=true->Sx w0 X φ L ((tj,.bool true)::K) n a w->wpList P ops (Exit.then (λa w'=>Keep [] w w'/\Sx w0 X φ L ((e,.bool true)::K) n a w') Q) ((o::rest).take m) a w)
 (k:∀a w',Keep [] w w'->Sx w0 X φ L ((e,.bool (b||u))::K) n a w'->wpList P ops Q ((o::rest).drop m) a w'):wpList P ops Q (o::rest) a w:=by
 refine f_ct m (Sx w0 X φ L ((e,.bool (b||u))::K) n) ?_ k
 cases b with
 |true=>exact h2 rfl (S.lit hv rfl)
 |false=>exact h1 rfl (S.lit hv rfl)
theorem litAt{b x:Bool}(h:b=true):some (Value.bool x)=some (Value.bool (b && x)):=by rw[h];rfl
theorem litAf{b x:Bool}(h:b=false):some (Value.bool false)=some (Value.bool (b && x)):=by rw[h];rfl
theorem litOt{b x:Bool}(h:b=true):some (Value.bool true)=some (Value.bool (b||x)):=by rw[h];rfl
theorem litOf{b x:Bool}(h:b=false):some (Value.bool x)=some (Value.bool (b||x)):=by rw[h];rfl
theorem litB{b c:Bool}(h:b=c):some (Value.bool c)=some (Value.bool b):=by rw[h]
theorem gsI{j tj:Nat}{o oj:Oper}{b want:Bool}{R:Type}{A B r:R}(S:Sx w0 X φ L K n a w)(_:o.guard=some (j,want))(_:ops[j]? =some oj)(_:oj.dst=some tj)(hv:look K tj=some (.bool b))(h:(if b=true then A else B)=r)
 (k1:b=true->A=r->Sx w0 X φ L ((tj,.bool true)::K) n a w->wpList P ops Q (o::rest) a w) (k2:b=false->B=r->Sx w0 X φ L ((tj,.bool false)::K) n a w->wpList P ops Q (o::rest) a w):wpList P ops Q (o::rest) a w:=by
 cases b with
 |true=>exact k1 rfl h (S.lit hv rfl)
 |false=>exact k2 rfl (by simpa using h) (S.lit hv rfl)
theorem csI{t:Nat}{x y:Code}{b:Bool}{R:Type}{A B r:R}(S:Sx w0 X φ L K n a w)(hv:look K t=some (.bool b))(h:(if b=true then A else B)=r)
 (k1:b=true->A=r->Sx w0 X φ L ((t,.bool true)::K) n a w->Wq P x Q a w) (k2:b=false->B=r->Sx w0 X φ L ((t,.bool false)::K) n a w->Wq P y Q a w):Wq P (Code.cond (.tmp t) x y) Q a w:=by
 cases b with
 |true=>exact IX (S.tm hv) (k1 rfl h (S.lit hv rfl))
 |false=>exact GW (S.tm hv) (k2 rfl (by simpa using h) (S.lit hv rfl))
theorem lenLt{α:Type}{x:α}{l:List α}:l.length<(x::l).length:=bF _
theorem idLp{i:Nat}{c:Code}(h:Wq P (Code.block i (.loop c)) Q a w):Wq P (Code.block i (.loop c)) Q a w:=h
theorem Fe2{q:Prop}{f:FuncId}{fn:Func}{c:Code}{vs:List Value}{R:Ending->World->Prop}{nt:Nat}(h:q)(hf:P.funcs[f]? =some fn)(hb:fn.body=some c)(hnt:fn.ntmps=nt)(hn:Nat.ble vs.length nt=true)
 (k:∀a,q->Sx w [] nov [] (ZO 0 vs) nt a w->Wq P c (bodyPost P fn R) a w):Calls P f vs.toArray w R:=Fe hf hb hnt hn λa S=>k a h S
theorem WR{α:Type}{x:Option α}{r:α}(h:x=some r):x=some r:=h
theorem idEq{α:Type}{x r:α}(h:x=r):x=r:=h
theorem seeO{wo:World}{v:Value}{T k m:Nat}{cs:List Value}{G:Prop}(S:Sx w0 X φ L K n a w)(hn:New wo φ L)(hz:w0.heap.size<=wo.heap.size)(ho:Kr (newer wo w) T k v m cs)(g:∀φ',View.le φ φ'->Kr φ' T k v m cs->Sx w0 X φ' L K n a w->G):G:=by
 obtain⟨φ',h1,h2,S'⟩:=S.see' hn hz;exact g φ' h1 (ho.mono h2) S'
theorem seeO1{t:Nat}{wo:World}{V:Value}{T k m:Nat}{cs:List Value}{G:Prop}{f:Value->Value}(S:Sx w0 X φ L ((t,V)::K) n a w)(hn:New wo φ L)(hz:w0.heap.size<=wo.heap.size)(ho:∃u,V=f u/\Kr (newer wo w) T k u m cs)(g:∀u φ',View.le φ φ'->Kr φ' T k u m cs->Sx w0 X φ' L ((t,f u)::K) n a w->G):G:=by
 obtain⟨u,rfl,ho⟩:=ho;obtain⟨φ',h1,h2,S'⟩:=S.see' hn hz;exact g u φ' h1 (ho.mono h2) S'
theorem ldBE{α:Type}{enc:α->List Value}{y:α}{b k:Nat}{T T':TypeId}{x:Operand}{dec:List Value->Option α}(S:Sx w0 X φ L K n a w){i:Nat}(D:DecI P T k enc dec)(hx:a.eval x= .pointer (some ⟨b,0,none⟩))(hi:L[i]? =some (.blk b (enc y) T')):Rn P a w (.load T x) ty (.agg (enc y).toArray):=
 Wv D.agg D.size (off:=0) (o:=0) (by rw[List.drop_zero,List.take_of_length_le (Nat.le_of_eq (D.len y))]) (D.len y) hx (S.cellsAt hi)
theorem ldBD{α:Type}{enc:α->List Value}{y:α}{b off k:Nat}{T T':TypeId}{x:Operand}{cells:List Value}{dec:List Value->Option α}(S:Sx w0 X φ L K n a w){i:Nat}(D:DecI P T k enc dec)(hx:a.eval x= .pointer (some ⟨b,off,none⟩))(hi:L[i]? =some (.blk b cells T'))(hy:dec ((cells.drop off).take k)=some y):Rn P a w (.load T x) ty (.agg (enc y).toArray):=
 Wv D.agg D.size (off:=0) (o:=off) (D.out _ _ hy).symm (D.len y) (by rw[Nat.zero_add];exact hx) (S.cellsAt hi)
theorem ldME{ψ:View}{α:Type}{enc:α->List Value}{y:α}{b off k:Nat}{T:TypeId}{x:Operand}{dec:List Value->Option α}(D:DecI P T k enc dec)(hx:a.eval x= .pointer (some ⟨b,off,none⟩))(hm:Mem ψ b off (enc y))(he:Emb ψ w):Rn P a w (.load T x) ty (.agg (enc y).toArray):=
 Wv D.agg D.size (o:=0) (by rw[List.drop_zero,List.take_of_length_le (Nat.le_of_eq (D.len y))]) (D.len y) hx (hm.at he)
theorem l_storeW{T:TypeId}{x y:Operand}{b kk:Nat}{cells vs:List Value}{TB:TypeId}(S:Sx w0 X φ L K n a w){i:Nat}(Z:SzI P T kk)(hx:a.eval x= .pointer (some ⟨b,0,none⟩))(hi:L[i]? =some (.blk b cells TB))(hy:a.eval y= .agg vs.toArray)
 (hc:cells.length=kk) (hl:vs.length=kk) (h1:vs.all (·.oneCell')=true)
 (k:∀w',Keep [b] w w'->Sx w0 X φ (L.set i (.blk b vs TB)) K n a w'->wpList P ops Q rest a w'):
 Wl P ops Q none (.store T x y) ty pos after rest a w:=
 Qq S hx hy hi Z.out (by simp[Value.cells]) hl (by simp[hc,hl]) h1 λw' hk S=>k w' hk (by
  have:lay cells 0 vs=vs:=by
   unfold lay;rw[List.take_zero,aZ,Nat.zero_add,List.drop_of_length_le (by rw[hc,hl];exact bU _),List.append_nil]
  rw[this] at S;exact S)
theorem rnMc{v:Value}:Rn P a w (.move (.const v)) ty v:=Rm rfl
theorem rnAc{v:Value}:Rn P a w (.assign (.const v)) ty v:=Ra rfl
theorem rnAf{f:FuncId}:Rn P a w (.assign (.func f)) ty (.func (.func f) #[] #[]):=Ra rfl
theorem l_idxI{ψ:View}{α:Type}{enc:α->List Value}{T el k by_ t u:Nat}{v:Value}{xs:List α}{z:Int}{kk:IntKind}(S:Sx w0 X φ L K n a w)(A:SlI P T el k by_)(hx:look K t=some v)(hy:look K u=some (.int kk z))(hs:Slc ψ k v (xs.map enc))(I:Inhabited α)(hj:inB z xs.length=true)(hd:Nat.blt d n=true)
 (kont:∀a' b off,Mem ψ b off (enc (nth xs z))->Sx w0 X φ L ((d,.pointer (some ⟨b,off,none⟩))::K) n a' w->wpList P ops Q rest a' w):
 Wl P ops Q (some d) (.indexAddr T (.tmp t) (.tmp u)) ty pos after rest a w:=l_idx S A.out hs hj hx hy hd kont
theorem l_idxC{ψ:View}{α:Type}{enc:α->List Value}{T el k by_ t:Nat}{v:Value}{xs:List α}{z:Int}{kk:IntKind}(S:Sx w0 X φ L K n a w)(A:SlI P T el k by_)(hx:look K t=some v)(hs:Slc ψ k v (xs.map enc))(I:Inhabited α)(hj:inB z xs.length=true)(hd:Nat.blt d n=true)
 (kont:∀a' b off,Mem ψ b off (enc (nth xs z))->Sx w0 X φ L ((d,.pointer (some ⟨b,off,none⟩))::K) n a' w->wpList P ops Q rest a' w):
 Wl P ops Q (some d) (.indexAddr T (.tmp t) (.const (.int kk z))) ty pos after rest a w:=by
 obtain⟨b,off,hm,hr⟩:=Rx (a:=a) (x:=.tmp t) (y:=.const (.int kk z)) (ty:=ty) A.out hs (Gd hj).1 (Gd hj).2 (S.tm hx) rfl;exact lv S (hr w) hd λa' S'=>kont a' b off hm S'
theorem l_idxG{ψ:View}{α:Type}{enc:α->List Value}{T el k by_ t u j:Nat}{v:Value}{xs dn ys:List α}{e:α}{kk:IntKind}(S:Sx w0 X φ L K n a w)(A:SlI P T el k by_)(hx:look K t=some v)(hy:look K u=some (.int kk (j:Int)))(hs:Slc ψ k v (xs.map enc))(hj:xs=dn++e::ys)(hi:dn.length=j)(hd:Nat.blt d n=true)
 (kont:∀a' b off,Mem ψ b off (enc e)->Sx w0 X φ L ((d,.pointer (some ⟨b,off,none⟩))::K) n a' w->wpList P ops Q rest a' w):
 Wl P ops Q (some d) (.indexAddr T (.tmp t) (.tmp u)) ty pos after rest a w:=Aaa S A.out hs (CK hj hi) rfl hx hy hd kont
theorem ldM{ψ:View}{T:TypeId}{x:Operand}{b off o:Nat}{cs:List Value}{v:Value}(A:AgF P T)(hx:a.eval x= .pointer (some ⟨b,off+o,none⟩))(hm:Mem ψ b off cs)(he:Emb ψ w)(hv:cs[o]? =some v):Rn P a w (.load T x) ty v:=To A.out hx (hm.at he) hv
theorem ldM0{ψ:View}{T:TypeId}{x:Operand}{b off:Nat}{cs:List Value}{v:Value}(A:AgF P T)(hx:a.eval x= .pointer (some ⟨b,off,none⟩))(hm:Mem ψ b off cs)(he:Emb ψ w)(hv:cs[0]? =some v):Rn P a w (.load T x) ty v:=To (o:=0) A.out hx (hm.at he) hv
theorem lenI{T E k' by_ q:Nat}{x:Operand}{v:Value}(A:SlI P T E k' by_)(hx:a.eval x=v)(hv:Jc v q):Rn P a w (.call {callee:=.builtin .len,args:=#[x],argTypes:=#[T]}) ty (.int .i64 q):=Uo A.out hx hv
theorem sixI{T:TypeId}{x y:Operand}{s:ByteArray}{z:Int}{kk:IntKind}(U:UnI P T .string)(hx:a.eval x= .string s)(hy:a.eval y= .int kk z)(hc:inB z s.size=true):Rn P a w (.index T x y) ty (.int .u8 (LD s z)):=Akp U.out hx hy hc
theorem f_drw{id:Nat}{l:List Oper}[M:MixI P](S:Sx w0 X φ L K n a w)(_:quietL l=true)(hs:Region.noSelect l.toArray=true)(ho:Acr l.toArray (List.range l.length) (Array.replicate l.length false)=true)
 (k:∀w',Sx w0 X φ L K n a w'->CO P l.toArray (λa w=>Q .normal a w) l a w'):Wq P (Code.region id l.toArray true) Q a w:=
 Wu [] [] M.out S rfl hs λw' _ hsel S=>OL (List.range l.length) hsel ho aB (by rw[Aqc];exact k w' S)
section
variable {N:Act->World->Prop}
theorem idS{l:List Oper}(h:CO P ops N l a w):CO P ops N l a w:=h
theorem s_done0(k:N a w):CO P ops N [] a w:=k
theorem s_want0{op:Op}{j:Nat}{b want:Bool}{oj:Oper}{tj:Nat}{dst:Option Nat}(S:Sx w0 X φ L K n a w)(hj:ops[j]? =some oj)(ht:oj.dst=some tj)(hv:look K tj=some (.bool b))(hb:b=want)
 (k:CO P ops N ({dst,op,type:=ty,pos,after,guard:=none}::rest) a w):CO P ops N ({dst,op,type:=ty,pos,after,guard:=some (j,want)}::rest) a w:=by
 have hs:=S.slots tj _ hv;have h1:Region.wanted {dst,op,type:=ty,pos,after,guard:=some (j,want)} (yielded ops a.tmps)=true:=by
  simp[Region.wanted,yielded,hj,ht,hs,hb]
 unfold CO wpStill at k ⊢;rw[aQ h1];rw[aQ (XO _ rfl _)] at k;exact k
theorem s_skip0{op:Op}{j:Nat}{b want:Bool}{oj:Oper}{tj:Nat}(S:Sx w0 X φ L K n a w)(hj:ops[j]? =some oj)(ht:oj.dst=some tj)(hv:look K tj=some (.bool b))(hb:(b==want)=false)(hd:Nat.blt d n=true)
 (k:∀a',Sx w0 X φ L ((d,undef)::K) n a' w->CO P ops N rest a' w):CO P ops N ({dst:=some d,op,type:=ty,pos,after,guard:=some (j,want)}::rest) a w:=by
 have hs:=S.slots tj _ hv;have hne:¬b=want:=by simpa using hb
 unfold CO wpStill;rw[aP (by simp[Region.wanted,yielded,hj,ht,hs,hne])];exact k _ (S.put (by simpa using hd))
theorem s_skU0{op:Op}{j:Nat}{want:Bool}{oj:Oper}{tj:Nat}(S:Sx w0 X φ L K n a w)(hj:ops[j]? =some oj)(ht:oj.dst=some tj)(hv:look K tj=some undef)(hd:Nat.blt d n=true)
 (k:∀a',Sx w0 X φ L ((d,undef)::K) n a' w->CO P ops N rest a' w):CO P ops N ({dst:=some d,op,type:=ty,pos,after,guard:=some (j,want)}::rest) a w:=by
 have hs:=S.slots tj _ hv;unfold CO wpStill;rw[aP (by simp[Region.wanted,yielded,hj,ht,hs,undef])];exact k _ (S.put (by simpa using hd))
theorem s_gsI{j tj:Nat}{o oj:Oper}{b want:Bool}{R:Type}{A B r:R}(S:Sx w0 X φ L K n a w)(_:o.guard=some (j,want))(_:ops[j]? =some oj)(_:oj.dst=some tj)(hv:look K tj=some (.bool b))(h:(if b=true then A else B)=r)
 (k1:b=true->A=r->Sx w0 X φ L ((tj,.bool true)::K) n a w->CO P ops N (o::rest) a w) (k2:b=false->B=r->Sx w0 X φ L ((tj,.bool false)::K) n a w->CO P ops N (o::rest) a w):CO P ops N (o::rest) a w:=by
 cases b with
 |true=>exact k1 rfl h (S.lit hv rfl)
 |false=>exact k2 rfl (by simpa using h) (S.lit hv rfl)
theorem s_split{j tj:Nat}{o oj:Oper}{b want:Bool}(S:Sx w0 X φ L K n a w)(_:o.guard=some (j,want))(_:ops[j]? =some oj)(_:oj.dst=some tj)(hv:look K tj=some (.bool b))
 (k1:b=true->Sx w0 X φ L ((tj,.bool true)::K) n a w->CO P ops N (o::rest) a w) (k2:b=false->Sx w0 X φ L ((tj,.bool false)::K) n a w->CO P ops N (o::rest) a w):CO P ops N (o::rest) a w:=by
 cases b with
 |true=>exact k1 rfl (S.lit hv rfl)
 |false=>exact k2 rfl (S.lit hv rfl)
end
theorem ldB{b off:Nat}{T T':TypeId}{x:Operand}{cells:List Value}{v:Value}(S:Sx w0 X φ L K n a w){i:Nat}(A:AgF P T)(hx:a.eval x= .pointer (some ⟨b,off,none⟩))(hi:L[i]? =some (.blk b cells T'))(hv:cells[off]? =some v):Rn P a w (.load T x) ty v:=OI A.out hx (S.cell hi hv)
theorem fldR{s i o b off:Nat}{x:Operand}(F:FldI P s i o)(hx:a.eval x= .pointer (some ⟨b,off,none⟩)):Rn P a w (.fieldAddr s x i) ty (.pointer (some ⟨b,off+o,none⟩)):=ME F.out hx
theorem lenS{t:TypeId}{x:Operand}{s:ByteArray}(U:UnI P t .string)(hx:a.eval x= .string s):Rn P a w (.call {callee:=.builtin .len,args:=#[x],argTypes:=#[t]}) ty (.int .i64 (s.size:Int)):=Akk U.out hx
theorem l_boxA{T:TypeId}{x:Operand}{cs:List Value}(S:Sx w0 X φ L K n a w)(hx:a.eval x= .agg cs.toArray)(hd:Nat.blt d n=true)
 (k:∀a' w' b,Keep [] w w'->Sx w0 X φ (.blk b cs T::L) ((d,.pointer (some ⟨b,0,none⟩))::K) n a' w'->wpList P ops Q rest a' w'):
 Wl P ops Q (some d) (.box T x) ty pos after rest a w:=ZM S hx (by simp[Value.cells]) hd λa' w' b _ hk S=>k a' w' b hk S
theorem l_boxV{T:TypeId}{x:Operand}{v:Value}(S:Sx w0 X φ L K n a w)(hx:a.eval x=v)(h1:v.cells.toList=[v])(hd:Nat.blt d n=true)
 (k:∀a' w' b,Keep [] w w'->Sx w0 X φ (.blk b [v] T::L) ((d,.pointer (some ⟨b,0,none⟩))::K) n a' w'->wpList P ops Q rest a' w'):
 Wl P ops Q (some d) (.box T x) ty pos after rest a w:=ZM S hx h1 hd λa' w' b _ hk S=>k a' w' b hk S
theorem l_storeV{T:TypeId}{x y:Operand}{b off:Nat}{cells:List Value}{TB:TypeId}{v:Value}(S:Sx w0 X φ L K n a w){i:Nat}(Z:SzI P T 1)(hx:a.eval x= .pointer (some ⟨b,off,none⟩))(hi:L[i]? =some (.blk b cells TB))(hy:a.eval y=v)(hvs:v.cells.toList=[v])
 (hfit:Nat.ble (off+1) cells.length=true) (h1:v.oneCell'=true)
 (k:∀w',Keep [b] w w'->Sx w0 X φ (L.set i (.blk b (lay cells off [v]) TB)) K n a w'->wpList P ops Q rest a w'):
 Wl P ops Q none (.store T x y) ty pos after rest a w:=Qq S hx hy hi Z.out hvs rfl hfit (by simp[h1]) k
theorem l_allocI{T:TypeId}{z:Value}{cs:List Value}(S:Sx w0 X φ L K n a w)(Z:ZvI P T z)(hcs:z.cells.toList=cs)(hd:Nat.blt d n=true)
 (k:∀a' w' b,Sx w0 X φ (.blk b cs T::L) ((d,.pointer (some ⟨b,0,none⟩))::K) n a' w'->wpList P ops Q rest a' w'):
 Wl P ops Q (some d) (.alloc T) ty pos after rest a w:=AA S Z.out hcs hd λa' w' b _ _ S=>k a' w' b S
end
def IH(K:List (Nat×Value)):List Nat->Option (List (Nat×Value))
 |[]=>some []
 |t::ts=>match look K t,IH K ts with
  |some v,some r=>some ((t,v)::r)
  |_,_=>none
section
variable {P:Program}{ops:Array Oper}{Q:Exit->Act->World->Prop}{rest:List Oper}
variable {w0:World}{X:List Nat}{φ:View}{L L':List LEnt}{K K':List (Nat×Value)}{n:Nat}{a:Act}{w:World}
end
section
structure Im{α:Sort u}(x:α):Prop where
structure QE:Prop where
def nilL:List (Nat×Nat)->List LEnt->List LEnt
 |[],L=>L
 |(T,k)::ns,L=>.own (.slice none 0 0) T k 0 []::nilL ns L
def rB(i:Nat)(f:Nat->LEnt)(L:List LEnt):List LEnt:=match L[i]? with
 |some (.blk b _ _)=>L.set i (f b)
 |_=>L
def rM(i:Nat)(f:Nat->LEnt)(L:List LEnt):List LEnt:=match L[i]? with
 |some (.map b _ _)=>L.set i (f b)
 |_=>L
def rO(i:Nat)(f:Value->LEnt)(L:List LEnt):List LEnt:=match L[i]? with
 |some (.own v _ _ _ _)=>L.set i (f v)
 |some (.ownF v _ _ _)=>L.set i (f v)
 |some (.blk b _ _)=>L.set i (f (.slice (some ⟨b,0,none⟩) 1 1))
 |_=>L
def setC:List (Nat×Value)->List Value->List Value
 |[],cs=>cs
 |(i,v)::r,cs=>setC r (cs.set i v)
def evC:List Value->Option (List Value)
 |[]=>some []
 |v::l=>match evC l with
  |some r=>some (v::r)
  |none=>none
def rC(i:Nat)(u:List (Nat×Value))(L:List LEnt):List LEnt:=match L[i]? with
 |some (.blk b cs T)=>match evC (setC u cs) with
  |some l=>L.set i (.blk b l T)
  |none=>L
 |_=>L
structure Kp(p:Prop):Prop where
 out:p
structure FkH(t:Nat):Prop where
theorem JW{G:Prop}(_:QE)(k:G):G:=k
structure StH(f:Nat):Prop where
theorem stX{P:Program}{ops:Array Oper}{Q:Exit->Act->World->Prop}{rest:List Oper}{a:Act}{w:World}{f d:Nat}{args:Array Operand}{ats:Array TypeId}{ty:TypeId}{pos:String}{after:Array Edge}(_:StH f)(h:Wl P ops Q (some d) (.call {callee:=.value (.func f),args,argTypes:=ats}) ty pos after rest a w):Wl P ops Q (some d) (.call {callee:=.value (.func f),args,argTypes:=ats}) ty pos after rest a w:=h
structure Cut(n:Nat):Prop where
theorem Cut.dec{n:Nat}(_:Cut (n+1)):Cut n:=⟨⟩
theorem idN{P:Program}{Q:Exit->Act->World->Prop}{a:Act}{w:World}{c:Code}(_:Cut 0)(h:Wq P c Q a w):Wq P c Q a w:=h
theorem idCo{P:Program}{Q:Exit->Act->World->Prop}{a:Act}{w:World}{x y:Code}{t:Operand}(h:Wq P (Code.cond t x y) Q a w):Wq P (Code.cond t x y) Q a w:=h
theorem idBl{P:Program}{Q:Exit->Act->World->Prop}{a:Act}{w:World}{i:Nat}{x:Code}(h:Wq P (Code.block i x) Q a w):Wq P (Code.block i x) Q a w:=h
theorem idRg{P:Program}{Q:Exit->Act->World->Prop}{a:Act}{w:World}{i:Nat}{x:Array Oper}(h:Wq P (Code.region i x true) Q a w):Wq P (Code.region i x true) Q a w:=h
theorem FZ{α:Sort u}{p:α->Prop}{G:Prop}(h:∃x,p x)(k:∀x,p x->G):G:=h.elim k
theorem GA{p q G:Prop}(h:p/\q)(k:p->q->G):G:=k h.1 h.2
theorem isIf{R:Type}{A B r:R}{b:Bool}{G:Prop}(_:(if b=true then A else B)=r)(k:G):G:=k
theorem isJo{κ R:Type}{K:κ}{f:κ->R}{r:R}{G:Prop}(_:Fq K f=r)(k:G):G:=k
variable {P:Program}{ops:Array Oper}{Q:Exit->Act->World->Prop}{rest:List Oper}
variable {w0:World}{X:List Nat}{φ:View}{L L':List LEnt}{K K':List (Nat×Value)}{n:Nat}{a:Act}{w:World}{R:Type}{r:R}{c:Code}
theorem csF{t:Nat}{x y:Code}{b:Bool}{A B:R}(_:FkH t)(S:Sx w0 X φ L K n a w)(hv:look K t=some (.bool b))(h:(if b=true then A else B)=r)
 (k1:b=true->A=r->Sx w0 X φ L ((t,.bool true)::K) n a w->Wq P x Q a w) (k2:b=false->B=r->Sx w0 X φ L ((t,.bool false)::K) n a w->Wq P y Q a w):Wq P (Code.cond (.tmp t) x y) Q a w:=csI S hv h k1 k2
abbrev FnL:List Type->Type->Type
 |[],R=>R
 |a::l,R=>a->FnL l R
def exJ(r:R)(σ:ST)(φ:View)(L:List LEnt)(K:List (Nat×Value))(a:Act)(w:World):(l:List Type)->FnL l R->FnL l (ST->ST)->Prop
 |[],k,G=>k=r/\(G:ST->ST) σ φ L K a w
 |_::l,k,G=>∃x,exJ r σ φ L K a w l (k x) (G x)
section
variable {σ:ST}{b:Type}{l:List Type}{k:FnL (b::l) R}{G:FnL (b::l) (ST->ST)}{k0:R}{G0:ST->ST}{q:Prop}
theorem exC{x:b}(h:exJ r σ φ L K a w l (k x) (G x)):exJ r σ φ L K a w (b::l) k G:=⟨x,h⟩
theorem exN(h:k0=r/\G0 σ φ L K a w):exJ r σ φ L K a w [] k0 G0:=h
theorem exCe(h:exJ r σ φ L K a w (b::l) k G)(c:∀x,exJ r σ φ L K a w l (k x) (G x)->q):q:=h.elim c
theorem exNe(h:exJ r σ φ L K a w [] k0 G0)(c:k0=r->G0 σ φ L K a w->q):q:=c h.1 h.2
end
abbrev SV(w0:World)(X:List Nat)(n:Nat):ST:=λφ L K=>Sx w0 X φ L K n
theorem nilS:∀{ns:List (Nat×Nat)} (_:Im ns) (_:Sx w0 X φ L K n a w),Sx w0 X φ (nilL ns L) K n a w
 |[],_,S=>S
 |(T,k)::_,_,S=>(nilS ⟨⟩ S).nil T k
theorem jn{l:List Type}{KJ:FnL l R}{f:FnL l R->R}{ts:List Nat}{m:List Bool}{G:FnL l (ST->ST)}(_:Im l)(_:Im ts)(_:Im m)(_:Im G)(_:Sx w0 X φ L K n a w)(h:Fq KJ f=r)(_:IH K ts=some K')(_:CY m L=L')
 (h1:∀j,f j=r->Wq P c (Exit.then (λa w'=>exJ r (SV w0 X n) φ L' K' a w' l j G) Q) a w) (h2:∀a w',exJ r (SV w0 X n) φ L' K' a w' l KJ G->Q .normal a w'):Wq P c Q a w:=
 Qk (λa w'=>exJ r (SV w0 X n) φ L' K' a w' l KJ G) (h1 KJ h) h2
theorem lr0_0{α:Type}{xs:List α}{bid:Nat}{KJ:(R)}{F:(R)->List α->Nat->R}{ts:List Nat}{m:List Bool}{I:Nat->ST->ST}{J:ST->ST}(_:Im ts)(_:Im m)(_:Im I)(_:Im J)(_:Sx w0 X φ L K n a w)(h:Fq KJ (λj=>F j xs 0)=r)(_:IH K ts=some K')(_:CY m L=L')
 (h0:∀j,F j xs 0=r->(F j xs 0=r/\I 0 (SV w0 X n) φ L' K' a w))
 (hb:∀j ys i dn a' w',xs=dn++ys->dn.length=i->(F j ys i=r/\I i (SV w0 X n) φ L' K' a' w')->Wq P c (Exit.then (λa' w'=>∃ys',(∃i',(∃dn,xs=dn++ys'/\dn.length=i')/\(F j ys' i'=r/\I i' (SV w0 X n) φ L' K' a' w'))/\ys'.length<ys.length) (Exit.inBlock bid (Exit.then (λa w'=>j=r/\J (SV w0 X n) φ L' K' a w') Q))) a' w')
 (k:∀a w',(KJ=r/\J (SV w0 X n) φ L' K' a w')->Q .normal a w'):Wq P (Code.block bid (Code.loop c)) Q a w:=by
 refine Qk (λa w'=>KJ=r/\J (SV w0 X n) φ L' K' a w') ?_ k;refine Ia (Sn (λys a' w'=>∃i,(∃dn,xs=dn++ys/\dn.length=i)/\(F KJ ys i=r/\I i (SV w0 X n) φ L' K' a' w')) List.length xs ⟨0,⟨[],rfl,rfl⟩,h0 KJ h⟩ ?_);rintro ys a' w' ⟨i,⟨dn,hd,hi⟩,hI⟩;exact hb KJ ys i dn a' w' hd hi hI
theorem lr1_1{β0:Type}{γ0:Type}{α:Type}{xs:List α}{bid:Nat}{KJ:(γ0->R)}{F:(γ0->R)->List α->Nat->β0->R}{e0:β0}{ts:List Nat}{m:List Bool}{I:Nat->β0->ST->ST}{J:γ0->ST->ST}(_:Im ts)(_:Im m)(_:Im I)(_:Im J)(_:Sx w0 X φ L K n a w)(h:Fq KJ (λj=>F j xs 0 e0)=r)(_:IH K ts=some K')(_:CY m L=L')
 (h0:∀j,F j xs 0 e0=r->(∃x0,F j xs 0 x0=r/\I 0 x0 (SV w0 X n) φ L' K' a w))
 (hb:∀j ys i dn a' w',xs=dn++ys->dn.length=i->(∃x0,F j ys i x0=r/\I i x0 (SV w0 X n) φ L' K' a' w')->Wq P c (Exit.then (λa' w'=>∃ys',(∃i',(∃dn,xs=dn++ys'/\dn.length=i')/\(∃x0,F j ys' i' x0=r/\I i' x0 (SV w0 X n) φ L' K' a' w'))/\ys'.length<ys.length) (Exit.inBlock bid (Exit.then (λa w'=>∃y0,j y0=r/\J y0 (SV w0 X n) φ L' K' a w') Q))) a' w')
 (k:∀a w',(∃y0,KJ y0=r/\J y0 (SV w0 X n) φ L' K' a w')->Q .normal a w'):Wq P (Code.block bid (Code.loop c)) Q a w:=by
 refine Qk (λa w'=>∃y0,KJ y0=r/\J y0 (SV w0 X n) φ L' K' a w') ?_ k;refine Ia (Sn (λys a' w'=>∃i,(∃dn,xs=dn++ys/\dn.length=i)/\(∃x0,F KJ ys i x0=r/\I i x0 (SV w0 X n) φ L' K' a' w')) List.length xs ⟨0,⟨[],rfl,rfl⟩,h0 KJ h⟩ ?_);rintro ys a' w' ⟨i,⟨dn,hd,hi⟩,hI⟩;exact hb KJ ys i dn a' w' hd hi hI
theorem lr2_2{β0:Type}{β1:Type}{γ0:Type}{γ1:Type}{α:Type}{xs:List α}{bid:Nat}{KJ:(γ0->γ1->R)}{F:(γ0->γ1->R)->List α->Nat->β0->β1->R}{e0:β0}{e1:β1}{ts:List Nat}{m:List Bool}{I:Nat->β0->β1->ST->ST}{J:γ0->γ1->ST->ST}(_:Im ts)(_:Im m)(_:Im I)(_:Im J)(_:Sx w0 X φ L K n a w)(h:Fq KJ (λj=>F j xs 0 e0 e1)=r)(_:IH K ts=some K')(_:CY m L=L')
 (h0:∀j,F j xs 0 e0 e1=r->(∃x0 x1,F j xs 0 x0 x1=r/\I 0 x0 x1 (SV w0 X n) φ L' K' a w))
 (hb:∀j ys i dn a' w',xs=dn++ys->dn.length=i->(∃x0 x1,F j ys i x0 x1=r/\I i x0 x1 (SV w0 X n) φ L' K' a' w')->Wq P c (Exit.then (λa' w'=>∃ys',(∃i',(∃dn,xs=dn++ys'/\dn.length=i')/\(∃x0 x1,F j ys' i' x0 x1=r/\I i' x0 x1 (SV w0 X n) φ L' K' a' w'))/\ys'.length<ys.length) (Exit.inBlock bid (Exit.then (λa w'=>∃y0 y1,j y0 y1=r/\J y0 y1 (SV w0 X n) φ L' K' a w') Q))) a' w')
 (k:∀a w',(∃y0 y1,KJ y0 y1=r/\J y0 y1 (SV w0 X n) φ L' K' a w')->Q .normal a w'):Wq P (Code.block bid (Code.loop c)) Q a w:=by
 refine Qk (λa w'=>∃y0 y1,KJ y0 y1=r/\J y0 y1 (SV w0 X n) φ L' K' a w') ?_ k;refine Ia (Sn (λys a' w'=>∃i,(∃dn,xs=dn++ys/\dn.length=i)/\(∃x0 x1,F KJ ys i x0 x1=r/\I i x0 x1 (SV w0 X n) φ L' K' a' w')) List.length xs ⟨0,⟨[],rfl,rfl⟩,h0 KJ h⟩ ?_);rintro ys a' w' ⟨i,⟨dn,hd,hi⟩,hI⟩;exact hb KJ ys i dn a' w' hd hi hI
theorem lr3_3{β0:Type}{β1:Type}{β2:Type}{γ0:Type}{γ1:Type}{γ2:Type}{α:Type}{xs:List α}{bid:Nat}{KJ:(γ0->γ1->γ2->R)}{F:(γ0->γ1->γ2->R)->List α->Nat->β0->β1->β2->R}{e0:β0}{e1:β1}{e2:β2}{ts:List Nat}{m:List Bool}{I:Nat->β0->β1->β2->ST->ST}{J:γ0->γ1->γ2->ST->ST}(_:Im ts)(_:Im m)(_:Im I)(_:Im J)(_:Sx w0 X φ L K n a w)(h:Fq KJ (λj=>F j xs 0 e0 e1 e2)=r)(_:IH K ts=some K')(_:CY m L=L')
 (h0:∀j,F j xs 0 e0 e1 e2=r->(∃x0 x1 x2,F j xs 0 x0 x1 x2=r/\I 0 x0 x1 x2 (SV w0 X n) φ L' K' a w))
 (hb:∀j ys i dn a' w',xs=dn++ys->dn.length=i->(∃x0 x1 x2,F j ys i x0 x1 x2=r/\I i x0 x1 x2 (SV w0 X n) φ L' K' a' w')->Wq P c (Exit.then (λa' w'=>∃ys',(∃i',(∃dn,xs=dn++ys'/\dn.length=i')/\(∃x0 x1 x2,F j ys' i' x0 x1 x2=r/\I i' x0 x1 x2 (SV w0 X n) φ L' K' a' w'))/\ys'.length<ys.length) (Exit.inBlock bid (Exit.then (λa w'=>∃y0 y1 y2,j y0 y1 y2=r/\J y0 y1 y2 (SV w0 X n) φ L' K' a w') Q))) a' w')
 (k:∀a w',(∃y0 y1 y2,KJ y0 y1 y2=r/\J y0 y1 y2 (SV w0 X n) φ L' K' a w')->Q .normal a w'):Wq P (Code.block bid (Code.loop c)) Q a w:=by
 refine Qk (λa w'=>∃y0 y1 y2,KJ y0 y1 y2=r/\J y0 y1 y2 (SV w0 X n) φ L' K' a w') ?_ k;refine Ia (Sn (λys a' w'=>∃i,(∃dn,xs=dn++ys/\dn.length=i)/\(∃x0 x1 x2,F KJ ys i x0 x1 x2=r/\I i x0 x1 x2 (SV w0 X n) φ L' K' a' w')) List.length xs ⟨0,⟨[],rfl,rfl⟩,h0 KJ h⟩ ?_);rintro ys a' w' ⟨i,⟨dn,hd,hi⟩,hI⟩;exact hb KJ ys i dn a' w' hd hi hI
theorem lr4_4{β0:Type}{β1:Type}{β2:Type}{β3:Type}{γ0:Type}{γ1:Type}{γ2:Type}{γ3:Type}{α:Type}{xs:List α}{bid:Nat}{KJ:(γ0->γ1->γ2->γ3->R)}{F:(γ0->γ1->γ2->γ3->R)->List α->Nat->β0->β1->β2->β3->R}{e0:β0}{e1:β1}{e2:β2}{e3:β3}{ts:List Nat}{m:List Bool}{I:Nat->β0->β1->β2->β3->ST->ST}{J:γ0->γ1->γ2->γ3->ST->ST}(_:Im ts)(_:Im m)(_:Im I)(_:Im J)(_:Sx w0 X φ L K n a w)(h:Fq KJ (λj=>F j xs 0 e0 e1 e2 e3)=r)(_:IH K ts=some K')(_:CY m L=L')
 (h0:∀j,F j xs 0 e0 e1 e2 e3=r->(∃x0 x1 x2 x3,F j xs 0 x0 x1 x2 x3=r/\I 0 x0 x1 x2 x3 (SV w0 X n) φ L' K' a w))
 (hb:∀j ys i dn a' w',xs=dn++ys->dn.length=i->(∃x0 x1 x2 x3,F j ys i x0 x1 x2 x3=r/\I i x0 x1 x2 x3 (SV w0 X n) φ L' K' a' w')->Wq P c (Exit.then (λa' w'=>∃ys',(∃i',(∃dn,xs=dn++ys'/\dn.length=i')/\(∃x0 x1 x2 x3,F j ys' i' x0 x1 x2 x3=r/\I i' x0 x1 x2 x3 (SV w0 X n) φ L' K' a' w'))/\ys'.length<ys.length) (Exit.inBlock bid (Exit.then (λa w'=>∃y0 y1 y2 y3,j y0 y1 y2 y3=r/\J y0 y1 y2 y3 (SV w0 X n) φ L' K' a w') Q))) a' w')
 (k:∀a w',(∃y0 y1 y2 y3,KJ y0 y1 y2 y3=r/\J y0 y1 y2 y3 (SV w0 X n) φ L' K' a w')->Q .normal a w'):Wq P (Code.block bid (Code.loop c)) Q a w:=by
 refine Qk (λa w'=>∃y0 y1 y2 y3,KJ y0 y1 y2 y3=r/\J y0 y1 y2 y3 (SV w0 X n) φ L' K' a w') ?_ k;refine Ia (Sn (λys a' w'=>∃i,(∃dn,xs=dn++ys/\dn.length=i)/\(∃x0 x1 x2 x3,F KJ ys i x0 x1 x2 x3=r/\I i x0 x1 x2 x3 (SV w0 X n) φ L' K' a' w')) List.length xs ⟨0,⟨[],rfl,rfl⟩,h0 KJ h⟩ ?_);rintro ys a' w' ⟨i,⟨dn,hd,hi⟩,hI⟩;exact hb KJ ys i dn a' w' hd hi hI
theorem lc1_0{β0:Type}{m0:Nat}{bid:Nat}{KJ:(R)}{F:(R)->Nat->β0->R}{e0:β0}{ts:List Nat}{m:List Bool}{I:β0->ST->ST}{J:ST->ST}(_:Im ts)(_:Im m)(_:Im I)(_:Im J)(_:Sx w0 X φ L K n a w)(h:Fq KJ (λj=>F j m0 e0)=r)(_:IH K ts=some K')(_:CY m L=L')
 (h0:∀j,F j m0 e0=r->(∃x0,F j m0 x0=r/\I x0 (SV w0 X n) φ L' K' a w))
 (hb:∀j m1 a' w',(∃x0,F j m1 x0=r/\I x0 (SV w0 X n) φ L' K' a' w')->Wq P c (Exit.then (λa' w'=>∃m',(∃x0,F j m' x0=r/\I x0 (SV w0 X n) φ L' K' a' w')/\m'<m1) (Exit.inBlock bid (Exit.then (λa w'=>j=r/\J (SV w0 X n) φ L' K' a w') Q))) a' w')
 (k:∀a w',(KJ=r/\J (SV w0 X n) φ L' K' a w')->Q .normal a w'):Wq P (Code.block bid (Code.loop c)) Q a w:=by
 refine Qk (λa w'=>KJ=r/\J (SV w0 X n) φ L' K' a w') ?_ k;refine Ia (Sn (λm1 a' w'=>(∃x0,F KJ m1 x0=r/\I x0 (SV w0 X n) φ L' K' a' w')) _root_.id m0 (h0 KJ h) ?_);intro m1 a' w' hI;exact hb KJ m1 a' w' hI
theorem lc1_1{β0:Type}{γ0:Type}{m0:Nat}{bid:Nat}{KJ:(γ0->R)}{F:(γ0->R)->Nat->β0->R}{e0:β0}{ts:List Nat}{m:List Bool}{I:β0->ST->ST}{J:γ0->ST->ST}(_:Im ts)(_:Im m)(_:Im I)(_:Im J)(_:Sx w0 X φ L K n a w)(h:Fq KJ (λj=>F j m0 e0)=r)(_:IH K ts=some K')(_:CY m L=L')
 (h0:∀j,F j m0 e0=r->(∃x0,F j m0 x0=r/\I x0 (SV w0 X n) φ L' K' a w))
 (hb:∀j m1 a' w',(∃x0,F j m1 x0=r/\I x0 (SV w0 X n) φ L' K' a' w')->Wq P c (Exit.then (λa' w'=>∃m',(∃x0,F j m' x0=r/\I x0 (SV w0 X n) φ L' K' a' w')/\m'<m1) (Exit.inBlock bid (Exit.then (λa w'=>∃y0,j y0=r/\J y0 (SV w0 X n) φ L' K' a w') Q))) a' w')
 (k:∀a w',(∃y0,KJ y0=r/\J y0 (SV w0 X n) φ L' K' a w')->Q .normal a w'):Wq P (Code.block bid (Code.loop c)) Q a w:=by
 refine Qk (λa w'=>∃y0,KJ y0=r/\J y0 (SV w0 X n) φ L' K' a w') ?_ k;refine Ia (Sn (λm1 a' w'=>(∃x0,F KJ m1 x0=r/\I x0 (SV w0 X n) φ L' K' a' w')) _root_.id m0 (h0 KJ h) ?_);intro m1 a' w' hI;exact hb KJ m1 a' w' hI
theorem lc2_1{β0:Type}{β1:Type}{γ0:Type}{m0:Nat}{bid:Nat}{KJ:(γ0->R)}{F:(γ0->R)->Nat->β0->β1->R}{e0:β0}{e1:β1}{ts:List Nat}{m:List Bool}{I:β0->β1->ST->ST}{J:γ0->ST->ST}(_:Im ts)(_:Im m)(_:Im I)(_:Im J)(_:Sx w0 X φ L K n a w)(h:Fq KJ (λj=>F j m0 e0 e1)=r)(_:IH K ts=some K')(_:CY m L=L')
 (h0:∀j,F j m0 e0 e1=r->(∃x0 x1,F j m0 x0 x1=r/\I x0 x1 (SV w0 X n) φ L' K' a w))
 (hb:∀j m1 a' w',(∃x0 x1,F j m1 x0 x1=r/\I x0 x1 (SV w0 X n) φ L' K' a' w')->Wq P c (Exit.then (λa' w'=>∃m',(∃x0 x1,F j m' x0 x1=r/\I x0 x1 (SV w0 X n) φ L' K' a' w')/\m'<m1) (Exit.inBlock bid (Exit.then (λa w'=>∃y0,j y0=r/\J y0 (SV w0 X n) φ L' K' a w') Q))) a' w')
 (k:∀a w',(∃y0,KJ y0=r/\J y0 (SV w0 X n) φ L' K' a w')->Q .normal a w'):Wq P (Code.block bid (Code.loop c)) Q a w:=by
 refine Qk (λa w'=>∃y0,KJ y0=r/\J y0 (SV w0 X n) φ L' K' a w') ?_ k;refine Ia (Sn (λm1 a' w'=>(∃x0 x1,F KJ m1 x0 x1=r/\I x0 x1 (SV w0 X n) φ L' K' a' w')) _root_.id m0 (h0 KJ h) ?_);intro m1 a' w' hI;exact hb KJ m1 a' w' hI
theorem lc2_2{β0:Type}{β1:Type}{γ0:Type}{γ1:Type}{m0:Nat}{bid:Nat}{KJ:(γ0->γ1->R)}{F:(γ0->γ1->R)->Nat->β0->β1->R}{e0:β0}{e1:β1}{ts:List Nat}{m:List Bool}{I:β0->β1->ST->ST}{J:γ0->γ1->ST->ST}(_:Im ts)(_:Im m)(_:Im I)(_:Im J)(_:Sx w0 X φ L K n a w)(h:Fq KJ (λj=>F j m0 e0 e1)=r)(_:IH K ts=some K')(_:CY m L=L')
 (h0:∀j,F j m0 e0 e1=r->(∃x0 x1,F j m0 x0 x1=r/\I x0 x1 (SV w0 X n) φ L' K' a w))
 (hb:∀j m1 a' w',(∃x0 x1,F j m1 x0 x1=r/\I x0 x1 (SV w0 X n) φ L' K' a' w')->Wq P c (Exit.then (λa' w'=>∃m',(∃x0 x1,F j m' x0 x1=r/\I x0 x1 (SV w0 X n) φ L' K' a' w')/\m'<m1) (Exit.inBlock bid (Exit.then (λa w'=>∃y0 y1,j y0 y1=r/\J y0 y1 (SV w0 X n) φ L' K' a w') Q))) a' w')
 (k:∀a w',(∃y0 y1,KJ y0 y1=r/\J y0 y1 (SV w0 X n) φ L' K' a w')->Q .normal a w'):Wq P (Code.block bid (Code.loop c)) Q a w:=by
 refine Qk (λa w'=>∃y0 y1,KJ y0 y1=r/\J y0 y1 (SV w0 X n) φ L' K' a w') ?_ k;refine Ia (Sn (λm1 a' w'=>(∃x0 x1,F KJ m1 x0 x1=r/\I x0 x1 (SV w0 X n) φ L' K' a' w')) _root_.id m0 (h0 KJ h) ?_);intro m1 a' w' hI;exact hb KJ m1 a' w' hI
theorem lc3_1{β0:Type}{β1:Type}{β2:Type}{γ0:Type}{m0:Nat}{bid:Nat}{KJ:(γ0->R)}{F:(γ0->R)->Nat->β0->β1->β2->R}{e0:β0}{e1:β1}{e2:β2}{ts:List Nat}{m:List Bool}{I:β0->β1->β2->ST->ST}{J:γ0->ST->ST}(_:Im ts)(_:Im m)(_:Im I)(_:Im J)(_:Sx w0 X φ L K n a w)(h:Fq KJ (λj=>F j m0 e0 e1 e2)=r)(_:IH K ts=some K')(_:CY m L=L')
 (h0:∀j,F j m0 e0 e1 e2=r->(∃x0 x1 x2,F j m0 x0 x1 x2=r/\I x0 x1 x2 (SV w0 X n) φ L' K' a w))
 (hb:∀j m1 a' w',(∃x0 x1 x2,F j m1 x0 x1 x2=r/\I x0 x1 x2 (SV w0 X n) φ L' K' a' w')->Wq P c (Exit.then (λa' w'=>∃m',(∃x0 x1 x2,F j m' x0 x1 x2=r/\I x0 x1 x2 (SV w0 X n) φ L' K' a' w')/\m'<m1) (Exit.inBlock bid (Exit.then (λa w'=>∃y0,j y0=r/\J y0 (SV w0 X n) φ L' K' a w') Q))) a' w')
 (k:∀a w',(∃y0,KJ y0=r/\J y0 (SV w0 X n) φ L' K' a w')->Q .normal a w'):Wq P (Code.block bid (Code.loop c)) Q a w:=by
 refine Qk (λa w'=>∃y0,KJ y0=r/\J y0 (SV w0 X n) φ L' K' a w') ?_ k;refine Ia (Sn (λm1 a' w'=>(∃x0 x1 x2,F KJ m1 x0 x1 x2=r/\I x0 x1 x2 (SV w0 X n) φ L' K' a' w')) _root_.id m0 (h0 KJ h) ?_);intro m1 a' w' hI;exact hb KJ m1 a' w' hI
theorem lc3_2{β0:Type}{β1:Type}{β2:Type}{γ0:Type}{γ1:Type}{m0:Nat}{bid:Nat}{KJ:(γ0->γ1->R)}{F:(γ0->γ1->R)->Nat->β0->β1->β2->R}{e0:β0}{e1:β1}{e2:β2}{ts:List Nat}{m:List Bool}{I:β0->β1->β2->ST->ST}{J:γ0->γ1->ST->ST}(_:Im ts)(_:Im m)(_:Im I)(_:Im J)(_:Sx w0 X φ L K n a w)(h:Fq KJ (λj=>F j m0 e0 e1 e2)=r)(_:IH K ts=some K')(_:CY m L=L')
 (h0:∀j,F j m0 e0 e1 e2=r->(∃x0 x1 x2,F j m0 x0 x1 x2=r/\I x0 x1 x2 (SV w0 X n) φ L' K' a w))
 (hb:∀j m1 a' w',(∃x0 x1 x2,F j m1 x0 x1 x2=r/\I x0 x1 x2 (SV w0 X n) φ L' K' a' w')->Wq P c (Exit.then (λa' w'=>∃m',(∃x0 x1 x2,F j m' x0 x1 x2=r/\I x0 x1 x2 (SV w0 X n) φ L' K' a' w')/\m'<m1) (Exit.inBlock bid (Exit.then (λa w'=>∃y0 y1,j y0 y1=r/\J y0 y1 (SV w0 X n) φ L' K' a w') Q))) a' w')
 (k:∀a w',(∃y0 y1,KJ y0 y1=r/\J y0 y1 (SV w0 X n) φ L' K' a w')->Q .normal a w'):Wq P (Code.block bid (Code.loop c)) Q a w:=by
 refine Qk (λa w'=>∃y0 y1,KJ y0 y1=r/\J y0 y1 (SV w0 X n) φ L' K' a w') ?_ k;refine Ia (Sn (λm1 a' w'=>(∃x0 x1 x2,F KJ m1 x0 x1 x2=r/\I x0 x1 x2 (SV w0 X n) φ L' K' a' w')) _root_.id m0 (h0 KJ h) ?_);intro m1 a' w' hI;exact hb KJ m1 a' w' hI
theorem lc4_2{β0:Type}{β1:Type}{β2:Type}{β3:Type}{γ0:Type}{γ1:Type}{m0:Nat}{bid:Nat}{KJ:(γ0->γ1->R)}{F:(γ0->γ1->R)->Nat->β0->β1->β2->β3->R}{e0:β0}{e1:β1}{e2:β2}{e3:β3}{ts:List Nat}{m:List Bool}{I:β0->β1->β2->β3->ST->ST}{J:γ0->γ1->ST->ST}(_:Im ts)(_:Im m)(_:Im I)(_:Im J)(_:Sx w0 X φ L K n a w)(h:Fq KJ (λj=>F j m0 e0 e1 e2 e3)=r)(_:IH K ts=some K')(_:CY m L=L')
 (h0:∀j,F j m0 e0 e1 e2 e3=r->(∃x0 x1 x2 x3,F j m0 x0 x1 x2 x3=r/\I x0 x1 x2 x3 (SV w0 X n) φ L' K' a w))
 (hb:∀j m1 a' w',(∃x0 x1 x2 x3,F j m1 x0 x1 x2 x3=r/\I x0 x1 x2 x3 (SV w0 X n) φ L' K' a' w')->Wq P c (Exit.then (λa' w'=>∃m',(∃x0 x1 x2 x3,F j m' x0 x1 x2 x3=r/\I x0 x1 x2 x3 (SV w0 X n) φ L' K' a' w')/\m'<m1) (Exit.inBlock bid (Exit.then (λa w'=>∃y0 y1,j y0 y1=r/\J y0 y1 (SV w0 X n) φ L' K' a w') Q))) a' w')
 (k:∀a w',(∃y0 y1,KJ y0 y1=r/\J y0 y1 (SV w0 X n) φ L' K' a w')->Q .normal a w'):Wq P (Code.block bid (Code.loop c)) Q a w:=by
 refine Qk (λa w'=>∃y0 y1,KJ y0 y1=r/\J y0 y1 (SV w0 X n) φ L' K' a w') ?_ k;refine Ia (Sn (λm1 a' w'=>(∃x0 x1 x2 x3,F KJ m1 x0 x1 x2 x3=r/\I x0 x1 x2 x3 (SV w0 X n) φ L' K' a' w')) _root_.id m0 (h0 KJ h) ?_);intro m1 a' w' hI;exact hb KJ m1 a' w' hI
theorem lc5_3{β0:Type}{β1:Type}{β2:Type}{β3:Type}{β4:Type}{γ0:Type}{γ1:Type}{γ2:Type}{m0:Nat}{bid:Nat}{KJ:(γ0->γ1->γ2->R)}{F:(γ0->γ1->γ2->R)->Nat->β0->β1->β2->β3->β4->R}{e0:β0}{e1:β1}{e2:β2}{e3:β3}{e4:β4}{ts:List Nat}{m:List Bool}{I:β0->β1->β2->β3->β4->ST->ST}{J:γ0->γ1->γ2->ST->ST}(_:Im ts)(_:Im m)(_:Im I)(_:Im J)(_:Sx w0 X φ L K n a w)(h:Fq KJ (λj=>F j m0 e0 e1 e2 e3 e4)=r)(_:IH K ts=some K')(_:CY m L=L')
 (h0:∀j,F j m0 e0 e1 e2 e3 e4=r->(∃x0 x1 x2 x3 x4,F j m0 x0 x1 x2 x3 x4=r/\I x0 x1 x2 x3 x4 (SV w0 X n) φ L' K' a w))
 (hb:∀j m1 a' w',(∃x0 x1 x2 x3 x4,F j m1 x0 x1 x2 x3 x4=r/\I x0 x1 x2 x3 x4 (SV w0 X n) φ L' K' a' w')->Wq P c (Exit.then (λa' w'=>∃m',(∃x0 x1 x2 x3 x4,F j m' x0 x1 x2 x3 x4=r/\I x0 x1 x2 x3 x4 (SV w0 X n) φ L' K' a' w')/\m'<m1) (Exit.inBlock bid (Exit.then (λa w'=>∃y0 y1 y2,j y0 y1 y2=r/\J y0 y1 y2 (SV w0 X n) φ L' K' a w') Q))) a' w')
 (k:∀a w',(∃y0 y1 y2,KJ y0 y1 y2=r/\J y0 y1 y2 (SV w0 X n) φ L' K' a w')->Q .normal a w'):Wq P (Code.block bid (Code.loop c)) Q a w:=by
 refine Qk (λa w'=>∃y0 y1 y2,KJ y0 y1 y2=r/\J y0 y1 y2 (SV w0 X n) φ L' K' a w') ?_ k;refine Ia (Sn (λm1 a' w'=>(∃x0 x1 x2 x3 x4,F KJ m1 x0 x1 x2 x3 x4=r/\I x0 x1 x2 x3 x4 (SV w0 X n) φ L' K' a' w')) _root_.id m0 (h0 KJ h) ?_);intro m1 a' w' hI;exact hb KJ m1 a' w' hI
end
section
def Yx(n:Nat):List Nat->Array Bool
 |[]=>Array.replicate n false
 |i::dn=>(Yx n dn).setIfInBounds i true
def memN(i:Nat):List Nat->Bool
 |[]=>false
 |j::l=>match Nat.beq i j with
  |true=>true
  |false=>memN i l
def WS(dn:List Nat):List Edge->Bool
 |[]=>true
 |e::l=>match memN e.on dn with
  |true=>WS dn l
  |false=>match Region.binds .any e with
   |true=>false
   |false=>WS dn l
def places:List Nat:=[0,1,2,3,4,5,6,7,8,9,10,11,12,13,14,15,16,17,18,19,20,21,22,23,24,25,26,27,28,29,30,31,32,33,34,35,36,37,38,39,40,41,42,43,44,45]
def ND(quiet:Bool)(dn:List Nat):List Nat->List Oper->Option (Nat×Oper)
 |i::is,o::l=>match memN i dn with
  |true=>ND quiet dn is l
  |false=>match quiet && !VJ o.op with
   |true=>ND quiet dn is l
   |false=>match WS dn o.after.toList with
    |true=>some (i,o)
    |false=>ND quiet dn is l
 |_,_=>none
def wpE(P:Program)(l:List Oper)(N:Act->World->Prop)(rem:List Oper)(dn:List Nat)(a:Act)(w:World):Prop:=wpD P l.toArray [] [] N rem.length (Yx l.length dn) a w
variable {P:Program}{l:List Oper}{Q:Exit->Act->World->Prop}{N:Act->World->Prop}{x0:Oper}{rem:List Oper}{dn:List Nat}
variable {w0:World}{X:List Nat}{φ:View}{L:List LEnt}{K:List (Nat×Value)}{n:Nat}{a:Act}{w:World}
variable {d:Nat}{ty:TypeId}{pos:String}{after:Array Edge}
theorem idE'(h:wpE P l N rem dn a w):wpE P l N rem dn a w:=h
theorem f_drE{id:Nat}[M:MixI P](S:Sx w0 X φ L K n a w)(hs:Region.noSelect l.toArray=true)
 (k:∀w',Region.noSelect l.toArray=true->Sx w0 X φ L K n a w'->wpE P l (λa w=>Q .normal a w) l [] a w'):Wq P (Code.region id l.toArray true) Q a w:=
 Wu [] [] M.out S rfl hs λw' _ hs S=>k w' hs S
theorem Afo{i:Nat}{op:Op}{v:Value}(S:Sx w0 X φ L K n a w)(hs:Region.noSelect l.toArray=true){pp:Nat×Oper}(_:ND true dn places l=some pp)(_:pp=(i,{dst:=some d,op,type:=ty,pos,after,guard:=none}))(hi:l.toArray[i]? =some {dst:=some d,op,type:=ty,pos,after,guard:=none})
 (hr:(Region.ready .any l.toArray (Yx l.length dn)).contains i=true) (hf:Region.free .any l.toArray (Yx l.length dn) i=true) (hd:Nat.blt d n=true)
 (hy:∀w',Sx w0 X φ L K n a w'->Rn P a w' op ty v) (k:∀a',Sx w0 X φ L ((d,v)::K) n a' w->wpE P l N rem (i::dn) a' w):wpE P l N (x0::rem) dn a w:=
 BI i S hs hi rfl rfl hr hf hd (λw' hw=>hy w' (S.keepNone hw)) k
theorem Aaf{i j tj:Nat}{op:Op}{v:Value}{b want:Bool}{oj:Oper}(S:Sx w0 X φ L K n a w)(hs:Region.noSelect l.toArray=true){pp:Nat×Oper}(_:ND true dn places l=some pp)(_:pp=(i,{dst:=some d,op,type:=ty,pos,after,guard:=some (j,want)}))(hi:l.toArray[i]? =some {dst:=some d,op,type:=ty,pos,after,guard:=some (j,want)})
 (hj:l.toArray[j]? =some oj) (ht:oj.dst=some tj) (hv:look K tj=some (.bool b)) (hb:b=want)
 (hr:(Region.ready .any l.toArray (Yx l.length dn)).contains i=true) (hf:Region.free .any l.toArray (Yx l.length dn) i=true) (hd:Nat.blt d n=true)
 (hy:∀w',Sx w0 X φ L K n a w'->Rn P a w' op ty v) (k:∀a',Sx w0 X φ L ((d,v)::K) n a' w->wpE P l N rem (i::dn) a' w):wpE P l N (x0::rem) dn a w:=
 Apj i S hs hi hj ht hv hb rfl rfl hr hf hd (λw' hw=>hy w' (S.keepNone hw)) k
theorem e_skip{q:Bool}{i j tj:Nat}{op:Op}{b want:Bool}{oj:Oper}(S:Sx w0 X φ L K n a w)(hs:Region.noSelect l.toArray=true){pp:Nat×Oper}(_:ND q dn places l=some pp)(_:pp=(i,{dst:=some d,op,type:=ty,pos,after,guard:=some (j,want)}))(hi:l.toArray[i]? =some {dst:=some d,op,type:=ty,pos,after,guard:=some (j,want)})
 (hj:l.toArray[j]? =some oj) (ht:oj.dst=some tj) (hv:look K tj=some (.bool b)) (hb:(b==want)=false)
 (hr:(Region.ready .any l.toArray (Yx l.length dn)).contains i=true) (hf:Region.free .any l.toArray (Yx l.length dn) i=true) (hd:Nat.blt d n=true)
 (k:∀a',Sx w0 X φ L ((d,undef)::K) n a' w->wpE P l N rem (i::dn) a' w):wpE P l N (x0::rem) dn a w:=
 d_skip i S hs hi hj ht hv hb rfl hr hf hd k
theorem Anj{q:Bool}{i j tj:Nat}{op:Op}{want:Bool}{oj:Oper}(S:Sx w0 X φ L K n a w)(hs:Region.noSelect l.toArray=true){pp:Nat×Oper}(_:ND q dn places l=some pp)(_:pp=(i,{dst:=some d,op,type:=ty,pos,after,guard:=some (j,want)}))(hi:l.toArray[i]? =some {dst:=some d,op,type:=ty,pos,after,guard:=some (j,want)})
 (hj:l.toArray[j]? =some oj) (ht:oj.dst=some tj) (hv:look K tj=some undef)
 (hr:(Region.ready .any l.toArray (Yx l.length dn)).contains i=true) (hf:Region.free .any l.toArray (Yx l.length dn) i=true) (hd:Nat.blt d n=true)
 (k:∀a',Sx w0 X φ L ((d,undef)::K) n a' w->wpE P l N rem (i::dn) a' w):wpE P l N (x0::rem) dn a w:=
 d_skipU i S hs hi hj ht hv rfl hr hf hd k
theorem e_gsI{q:Bool}{i j tj:Nat}{o oj:Oper}{b want:Bool}{R:Type}{A B r:R}(S:Sx w0 X φ L K n a w)(_:ND q dn places l=some (i,o))(_:o.guard=some (j,want))(_:l.toArray[j]? =some oj)(_:oj.dst=some tj)(hv:look K tj=some (.bool b))(h:(if b=true then A else B)=r)
 (k1:b=true->A=r->Sx w0 X φ L ((tj,.bool true)::K) n a w->wpE P l N rem dn a w) (k2:b=false->B=r->Sx w0 X φ L ((tj,.bool false)::K) n a w->wpE P l N rem dn a w):wpE P l N rem dn a w:=by
 cases b with
 |true=>exact k1 rfl h (S.lit hv rfl)
 |false=>exact k2 rfl (by simpa using h) (S.lit hv rfl)
def NL(_:Bool):Prop:=True
theorem nlT:NL true:=trivial
theorem nlF:NL false:=trivial
theorem nlA{b:Bool}:NL b:=trivial
theorem Ank{q:Bool}{i j tj:Nat}{o oj:Oper}{b want:Bool}(S:Sx w0 X φ L K n a w)(_:ND q dn places l=some (i,o))(_:o.guard=some (j,want))(_:l.toArray[j]? =some oj)(_:oj.dst=some tj)(hv:look K tj=some (.bool b))
 (_:NL b) (k1:b=true->Sx w0 X φ L ((tj,.bool true)::K) n a w->wpE P l N rem dn a w) (k2:b=false->Sx w0 X φ L ((tj,.bool false)::K) n a w->wpE P l N rem dn a w):wpE P l N rem dn a w:=by
 cases b with
 |true=>exact k1 rfl (S.lit hv rfl)
 |false=>exact k2 rfl (S.lit hv rfl)
theorem e_next{a':Act}{w':World}(h1:Keep [] w w')(h2:wpE P l N rem dn a' w'):QN (λa' w'=>Keep [] w w'/\wpE P l N rem dn a' w') .normal a' w':=⟨h1,h2⟩
theorem e_end(hr:Region.ready .any l.toArray (Yx l.length dn)=[])(k:N a w):wpE P l N [] dn a w:=ZQ hr k
section
variable {ψ:View}{α:Type}{enc:α->List Value}{T el k by_ t u:Nat}{v:Value}{xs:List α}{z:Int}{kk:IntKind}
theorem e_idx{i:Nat}{y:Operand}(S:Sx w0 X φ L K n a w)(hs:Region.noSelect l.toArray=true){pp:Nat×Oper}(hn:ND true dn places l=some pp)(hp':pp=(i,{dst:=some d,op:=.indexAddr T (.tmp t) y,type:=ty,pos,after,guard:=none}))(hi:l.toArray[i]? =some {dst:=some d,op:=.indexAddr T (.tmp t) y,type:=ty,pos,after,guard:=none})
 (hr:(Region.ready .any l.toArray (Yx l.length dn)).contains i=true) (hf:Region.free .any l.toArray (Yx l.length dn) i=true) (hd:Nat.blt d n=true)
 (A:SlI P T el k by_) (hx:look K t=some v) (hy:a.eval y= .int kk z) (hsl:Slc ψ k v (xs.map enc)) (I:Inhabited α) (hc:inB z xs.length=true) (kont:∀a' b off,Mem ψ b off (enc (nth xs z))->Sx w0 X φ L ((d,.pointer (some ⟨b,off,none⟩))::K) n a' w->wpE P l N rem (i::dn) a' w):wpE P l N (x0::rem) dn a w:=by
 obtain⟨b,off,hm,hR⟩:=Rx (a:=a) (x:=.tmp t) (y:=y) (ty:=ty) A.out hsl (Gd hc).1 (Gd hc).2 (S.tm hx) hy;exact Afo S hs hn hp' hi hr hf hd (λw' _=>hR w') λa' S'=>kont a' b off hm S'
theorem e_idxg{i j tj:Nat}{b want:Bool}{oj:Oper}{y:Operand}(S:Sx w0 X φ L K n a w)(hs:Region.noSelect l.toArray=true){pp:Nat×Oper}(hn:ND true dn places l=some pp)(hp':pp=(i,{dst:=some d,op:=.indexAddr T (.tmp t) y,type:=ty,pos,after,guard:=some (j,want)}))(hi:l.toArray[i]? =some {dst:=some d,op:=.indexAddr T (.tmp t) y,type:=ty,pos,after,guard:=some (j,want)})
 (hj:l.toArray[j]? =some oj) (ht:oj.dst=some tj) (hv:look K tj=some (.bool b)) (hb:b=want)
 (hr:(Region.ready .any l.toArray (Yx l.length dn)).contains i=true) (hf:Region.free .any l.toArray (Yx l.length dn) i=true) (hd:Nat.blt d n=true)
 (A:SlI P T el k by_) (hx:look K t=some v) (hy:a.eval y= .int kk z) (hsl:Slc ψ k v (xs.map enc)) (I:Inhabited α) (hc:inB z xs.length=true) (kont:∀a' b off,Mem ψ b off (enc (nth xs z))->Sx w0 X φ L ((d,.pointer (some ⟨b,off,none⟩))::K) n a' w->wpE P l N rem (i::dn) a' w):wpE P l N (x0::rem) dn a w:=by
 obtain⟨b,off,hm,hR⟩:=Rx (a:=a) (x:=.tmp t) (y:=y) (ty:=ty) A.out hsl (Gd hc).1 (Gd hc).2 (S.tm hx) hy;exact Aaf S hs hn hp' hi hj ht hv hb hr hf hd (λw' _=>hR w') λa' S'=>kont a' b off hm S'
end
end
section
class BldI(P:Program)(T:Nat)(z:outParam Value)(places:outParam (List (Nat×Nat))):Prop where
 out:IY P T z places
class EqI(P:Program)(T:Nat){α:outParam Type}(deq:outParam (DecidableEq α))(enc:outParam (α->List Value)):Prop where
 eql:∀{a:Act} {w:World} {x y:Operand} {u ty:TypeId} {m n:α},a.eval x= .agg (enc m).toArray->a.eval y= .agg (enc n).toArray->Rn P a w (.binOp .eql T x y u) ty (.bool (decide (m=n)))
 neq:∀{a:Act} {w:World} {x y:Operand} {u ty:TypeId} {m n:α},a.eval x= .agg (enc m).toArray->a.eval y= .agg (enc n).toArray->Rn P a w (.binOp .neq T x y u) ty (.bool (!decide (m=n)))
class MapI(P:Program)(T:Nat){κ ν:outParam Type}(deq:outParam (DecidableEq κ))(kt el:outParam Nat)(kv:outParam (κ->Value))(vv:outParam (ν->Value))(z:outParam ν):Prop where
 und:P.underlying T=some (.map kt el)
 key:UR P kt kv
 zero:∀w,(zeroValue el).run P w= .ok (vv z) w
def Aag:Value->List Value
 | .agg xs=>xs.toList
 |v=>[v]
def Aah:List Value->Nat->List Value->Option (List Value)
 |[],0,[]=>some []
 |c::cs,0,[]=>some (c::cs)
 |_::cs,0,v::vs=>match Aah cs 0 vs with
  |some r=>some (v::r)
  |none=>none
 |c::cs,n+1,vs=>match Aah cs n vs with
  |some r=>some (c::r)
  |none=>none
 |_,_,_=>none
def Ahy(fs:List (Nat×Nat)):List Value->List (Nat×Value)->Option (List Value)
 |cs,[]=>some cs
 |cs,(i,v)::r=>match fs[i]? with
  |some (o,_)=>match Aah cs o (Aag v) with
   |some c=>Ahy fs c r
   |none=>none
  |none=>none
def plcL(sz:Nat):Nat->Nat->List (Nat×Nat)
 |_,0=>[]
 |o,n+1=>(o,sz)::plcL sz (o+sz) n
def repL(cs:List Value):Nat->List Value
 |0=>[]
 |n+1=>cs++repL cs n
variable {P:Program}{ops:Array Oper}{Q:Exit->Act->World->Prop}{rest:List Oper}
variable {w0:World}{X:List Nat}{φ:View}{L:List LEnt}{K:List (Nat×Value)}{n:Nat}{a:Act}{w:World}
variable {d:Nat}{ty:TypeId}{pos:String}{after:Array Edge}
theorem evpN:EvP a [] []:=trivial
theorem evpC{i:Nat}{x:Operand}{v:Value}{r:List (Nat×Operand)}{s:List (Nat×Value)}(h:a.eval x=v)(k:EvP a r s):EvP a ((i,x)::r) ((i,v)::s):=⟨rfl,h,k⟩
theorem l_bsI{T el k by_ len sz:Nat}{z:Value}{ps:List (Nat×Operand)}{pv:List (Nat×Value)}{cs:List Value}(S:Sx w0 X φ L K n a w)(A:SlI P T el k by_)(Z:SzI P el sz)(V:ZvI P el z)
 (hlim:Nat.ble (len*sz) 16777216=true) (h0:(len*sz==0)=false) (hev:EvP a ps pv) (_:Ahy (plcL sz 0 len) (repL (Aag z) len) pv=some cs)
 (hf:Instr.fill (λi=>some (i*sz,sz)) ((Array.range (len*sz)).map (z.cells[· % z.cells.size]!)) pv=some cs.toArray) (hd:Nat.blt d n=true)
 (kont:∀a' w' b,Keep [] w w'->Sx w0 X φ (.blk b cs el::L) ((d,.slice (some ⟨b,0,none⟩) len len)::K) n a' w'->wpList P ops Q rest a' w'):
 Wl P ops Q (some d) (.buildSlice T len ps.toArray) ty pos after rest a w:=
 Ni S A.out.under Z.out V.out hlim h0 hev hf hd λa' w' b _ hk S=>kont a' w' b hk S
theorem l_mkI{T kt el:Nat}{κ ν:Type}{deq:DecidableEq κ}{kv:κ->Value}{vv:ν->Value}{z:ν}(S:Sx w0 X φ L K n a w)(_:MapI P T deq kt el kv vv z)(hd:Nat.blt d n=true)
 (k:∀a' w' b,Keep [] w w'->Sx w0 X φ (.map b (Ht kv vv ([]:List (κ×ν))) ([]:List (κ×ν)).length::L) ((d,.map (some b))::K) n a' w'->wpList P ops Q rest a' w'):
 Wl P ops Q (some d) (.makeMap T none) ty pos after rest a w:=App S hd kv vv λa' w' b _ hk S=>k a' w' b hk S
theorem lkI{T kt el b clk:Nat}{κ ν:Type}{deq:DecidableEq κ}{kv:κ->Value}{vv:ν->Value}{z:ν}{x y:Operand}{m:List (κ×ν)}{key:κ}(S:Sx w0 X φ L K n a w){i:Nat}(M:MapI P T deq kt el kv vv z)
 (hx:a.eval x= .map (some b)) (hi:L[i]? =some (.map b (Ht kv vv m) clk)) (hy:a.eval y=kv key):Rn P a w (.lookup T x y false) ty (vv (Gm m key z)):=Acj (S.map_at hi) M.und M.key M.zero hx hy
theorem lkI2{T kt el b clk:Nat}{κ ν:Type}{deq:DecidableEq κ}{kv:κ->Value}{vv:ν->Value}{z:ν}{x y:Operand}{m:List (κ×ν)}{key:κ}(S:Sx w0 X φ L K n a w){i:Nat}(M:MapI P T deq kt el kv vv z)
 (hx:a.eval x= .map (some b)) (hi:L[i]? =some (.map b (Ht kv vv m) clk)) (hy:a.eval y=kv key):Rn P a w (.lookup T x y true) ty (.tuple #[vv (Gm m key z),.bool (Tw m key).isSome]):=ZR (S.map_at hi) M.und M.key M.zero hx hy
theorem l_muI{T kt el b:Nat}{κ ν:Type}{deq:DecidableEq κ}{kv:κ->Value}{vv:ν->Value}{z:ν}{x y u:Operand}{m:List (κ×ν)}{key:κ}{val:ν}(S:Sx w0 X φ L K n a w){i:Nat}(M:MapI P T deq kt el kv vv z)
 (hx:a.eval x= .map (some b)) (hi:L[i]? =some (.map b (Ht kv vv m) m.length)) (hy:a.eval y=kv key) (hu:a.eval u=vv val)
 (k:∀w',Keep [b] w w'->Sx w0 X φ (L.set i (.map b (Ht kv vv (Iv m key val)) (Iv m key val).length)) K n a w'->wpList P ops Q rest a w'):
 Wl P ops Q none (.mapUpdate T x y u) ty pos after rest a w:=Ahf S hi M.und M.key hx hy hu k
theorem saddI{t u:TypeId}{x y:Operand}{m n:ByteArray}(hx:a.eval x= .string m)(hy:a.eval y= .string n)(h:Ja (m.size+n.size)=true):Rn P a w (.binOp .add t x y u) ty (.string (m++n)):=
 rn_sadd hx hy (by have:=CL h;omega)
theorem bneqI{t u:TypeId}{x y:Operand}{m n:Bool}(U:UnI P t .bool)(hx:a.eval x= .bool m)(hy:a.eval y= .bool n):Rn P a w (.binOp .neq t x y u) ty (.bool (!decide (m=n))):=rn_bneq U.out hx hy
theorem seqlI{T:Nat}{α:Type}{deq:DecidableEq α}{enc:α->List Value}{x y:Operand}{u:TypeId}{m n:α}(E:EqI P T deq enc)(hx:a.eval x= .agg (enc m).toArray)(hy:a.eval y= .agg (enc n).toArray):Rn P a w (.binOp .eql T x y u) ty (.bool (decide (m=n))):=E.eql hx hy
theorem sneqI{T:Nat}{α:Type}{deq:DecidableEq α}{enc:α->List Value}{x y:Operand}{u:TypeId}{m n:α}(E:EqI P T deq enc)(hx:a.eval x= .agg (enc m).toArray)(hy:a.eval y= .agg (enc n).toArray):Rn P a w (.binOp .neq T x y u) ty (.bool (!decide (m=n))):=E.neq hx hy
theorem convI{s t:TypeId}{x:Operand}{k k':IntKind}{n:Int}{ds:TypeDesc}(U:UnI P s ds)(V:UnI P t (.int k))(hx:a.eval x= .int k' n):Rn P a w (.convert s t x) ty (.int k (k.wrap n)):=rn_conv U.out V.out hx
theorem runeI{s t:TypeId}{x:Operand}{k:IntKind}{n:Int}{ds:TypeDesc}(U:UnI P s ds)(V:UnI P t .string)(hx:a.eval x= .int k n):Rn P a w (.convert s t x) ty (.string (Utf8.encode n)):=Akj U.out V.out hx
theorem resLN:YH P a.tmps w [] []:=trivial
theorem resLT{t:Nat}{v:Value}{rs:List ResultVar}{vs:List Value}(S:Sx w0 X φ L K n a w)(h:look K t=some v)(k:YH P a.tmps w rs vs):YH P a.tmps w (.tmp t::rs) (v::vs):=⟨YR S h,k⟩
theorem resLC{t T T' b kk:Nat}{cs:List Value}{rs:List ResultVar}{vs:List Value}(S:Sx w0 X φ L K n a w){i:Nat}(A:AgT P T)(Z:SzI P T kk)(h:look K t=some (.pointer (some ⟨b,0,none⟩)))(hi:L[i]? =some (.blk b cs T'))(hl:cs.length=kk)(k:YH P a.tmps w rs vs):YH P a.tmps w (.cell t T::rs) (.agg cs.toArray::vs):=⟨MQ (off:=0) S h A.out Z.out hl (S.cellsAt hi),k⟩
theorem resLO{t T T' b:Nat}{v:Value}{cs:List Value}{rs:List ResultVar}{vs:List Value}(S:Sx w0 X φ L K n a w){i:Nat}(A:AgF P T)(h:look K t=some (.pointer (some ⟨b,0,none⟩)))(hi:L[i]? =some (.blk b cs T'))(hv:cs[0]? =some v)(k:YH P a.tmps w rs vs):YH P a.tmps w (.cell t T::rs) (v::vs):=⟨WM S h A.out (S.cellsAt hi) hv,k⟩
theorem andLe{φ ψ:View}{q:Prop}(h:q)(k:View.le φ ψ):View.le φ ψ/\q:=⟨k,h⟩
theorem andOw{φ:View}{T k m:Nat}{v:Value}{cs:List Value}{q:Prop}(h:q)(g:Kr φ T k v m cs):Kr φ T k v m cs/\q:=⟨g,h⟩
theorem andSl{φ:View}{k:Nat}{v:Value}{cs:List (List Value)}{q:Prop}(h:q)(g:Slc φ k v cs):Slc φ k v cs/\q:=⟨g,h⟩
theorem idLe{φ ψ:View}(h:View.le φ ψ):View.le φ ψ:=h
theorem idSl{φ:View}{k:Nat}{v:Value}{cs:List (List Value)}(g:Slc φ k v cs):Slc φ k v cs:=g
end
section
variable {P:Program}{ops:Array Oper}{Q:Exit->Act->World->Prop}{rest:List Oper}
variable {w0:World}{X:List Nat}{φ:View}{L:List LEnt}{K:List (Nat×Value)}{n:Nat}{a:Act}{w:World}
variable {d:Nat}{ty:TypeId}{pos:String}{after:Array Edge}
variable {α:Type}{enc:α->List Value}{T TE el k by_ t u:Nat}{v:Value}{xs:List α}{z:Int}{kk:IntKind}
theorem l_idxO{y:Operand}(S:Sx w0 X φ L K n a w){i:Nat}(A:SlI P T el k by_)(hx:look K t=some v)(hi:L[i]? =some (.own v TE k xs.length (xs.flatMap enc)))(E:EncI k enc)(I:Inhabited α)(hy:a.eval y= .int kk z)(hj:inB z xs.length=true)(hd:Nat.blt d n=true)
 (kont:∀a' g,v.ownBlock=some g->Sx w0 X φ L ((d,.pointer (some ⟨g,z.toNat*k,none⟩))::K) n a' w->wpList P ops Q rest a' w):
 Wl P ops Q (some d) (.indexAddr T (.tmp t) y) ty pos after rest a w:=by
 obtain⟨g,hg,hr⟩:=Mt (a:=a) (x:=.tmp t) (y:=y) (ty:=ty) A.out E.out S hi (Gd hj).1 (Gd hj).2 (S.tm hx) hy;exact lv S (hr w) hd λa' S'=>kont a' g hg S'
theorem ldOA{x:Operand}{g:Nat}{u:Value}{dec:List Value->Option α}(S:Sx w0 X φ L K n a w){i:Nat}(D:DecI P T k enc dec)(hx:a.eval x= .pointer (some ⟨g,z.toNat*k,none⟩))(hg:v.ownBlock=some g)(hi:L[i]? =some (.own v TE k xs.length (xs.flatMap enc)))(E:EncI k enc)(I:Inhabited α)
 (hj:inB z xs.length=true) (hu:Value.agg (enc (nth xs z)).toArray=u):Rn P a w (.load T x) ty u:=by
 subst hu;exact ldME D hx (ER (Y:=[]) E.out S hi hg (Gd hj).1 IB) (emb_view w [])
theorem ldO{x:Operand}{g o:Nat}{u:Value}(S:Sx w0 X φ L K n a w){i:Nat}(A:AgF P T)(hx:a.eval x= .pointer (some ⟨g,z.toNat*k+o,none⟩))(hg:v.ownBlock=some g)(hi:L[i]? =some (.own v TE k xs.length (xs.flatMap enc)))(E:EncI k enc)(I:Inhabited α)
 (hj:inB z xs.length=true) (hv:(enc (nth xs z))[o]? =some u):Rn P a w (.load T x) ty u:=
 ldM A hx (ER (Y:=[]) E.out S hi hg (Gd hj).1 IB) (emb_view w []) hv
theorem ldO0{x:Operand}{g:Nat}{u:Value}(S:Sx w0 X φ L K n a w){i:Nat}(A:AgF P T)(hx:a.eval x= .pointer (some ⟨g,z.toNat*k,none⟩))(hg:v.ownBlock=some g)(hi:L[i]? =some (.own v TE k xs.length (xs.flatMap enc)))(E:EncI k enc)(I:Inhabited α)
 (hj:inB z xs.length=true) (hv:(enc (nth xs z))[0]? =some u):Rn P a w (.load T x) ty u:=
 ldM0 A hx (ER (Y:=[]) E.out S hi hg (Gd hj).1 IB) (emb_view w []) hv
theorem e_idxO{l:List Oper}{N:Act->World->Prop}{x0:Oper}{rem:List Oper}{dn:List Nat}{p:Nat}{y:Operand}(S:Sx w0 X φ L K n a w)(hs:Region.noSelect l.toArray=true){i:Nat}{pp:Nat×Oper}(hn:ND true dn places l=some pp)(hp':pp=(p,{dst:=some d,op:=.indexAddr T (.tmp t) y,type:=ty,pos,after,guard:=none}))(hi':l.toArray[p]? =some {dst:=some d,op:=.indexAddr T (.tmp t) y,type:=ty,pos,after,guard:=none})
 (hr:(Region.ready .any l.toArray (Yx l.length dn)).contains p=true) (hf:Region.free .any l.toArray (Yx l.length dn) p=true) (hd:Nat.blt d n=true)
 (A:SlI P T el k by_) (hx:look K t=some v) (hi:L[i]? =some (.own v TE k xs.length (xs.flatMap enc))) (E:EncI k enc) (I:Inhabited α) (hy:a.eval y= .int kk z) (hj:inB z xs.length=true) (kont:∀a' g,v.ownBlock=some g->Sx w0 X φ L ((d,.pointer (some ⟨g,z.toNat*k,none⟩))::K) n a' w->wpE P l N rem (p::dn) a' w):wpE P l N (x0::rem) dn a w:=by
 obtain⟨g,hg,hR⟩:=Mt (a:=a) (x:=.tmp t) (y:=y) (ty:=ty) A.out E.out S hi (Gd hj).1 (Gd hj).2 (S.tm hx) hy;exact Afo S hs hn hp' hi' hr hf hd (λw' _=>hR w') λa' S'=>kont a' g hg S'
end
section
theorem atI{L:List LEnt}{e:LEnt}(i:Nat)(h:L[i]? =some e):L[i]? =some e:=h
def evL:List LEnt->Option (List LEnt)
 |[]=>some []
 |e::l=>match e,evL l with
  | .blk b c T,some r=>some (.blk b c T::r)
  | .map b es c,some r=>some (.map b es c::r)
  | .iter b m s x y,some r=>some (.iter b m s x y::r)
  | .own v T k n cs,some r=>some (.own v T k n cs::r)
  | .ownF v T n cs,some r=>some (.ownF v T n cs::r)
  | .obj b o,some r=>some (.obj b o::r)
  |_,none=>none
theorem Ali:∀{l r:List LEnt},evL l=some r->r=l
 |[],r,h=>by cases h;rfl
 |e::l,r,h=>by
  unfold evL at h
  split at h<;>first|(cases h;rename_i h2;rw[Ali h2])|cases h
inductive JX:List LEnt->List LEnt->Prop where
 |nil (L:List LEnt):JX [] L
 |keep {e:LEnt} {M' M:List LEnt} (h:JX M' M):JX (e::M') (e::M)
 |drop {e:LEnt} {M' M:List LEnt} (h:JX M' M):JX M' (e::M)
 |new {T k:Nat} {M' M:List LEnt} (h:JX M' M):JX (.own (.slice none 0 0) T k 0 []::M') M
 |lit {α:Type} {enc:α->List Value} {b T k:Nat} {xs:List α} {M' M:List LEnt} (E:Enc k enc) (hb:xs.length<=4096) (h:JX M' M):JX (.own (.slice (some ⟨b,0,none⟩) xs.length xs.length) T k xs.length (xs.flatMap enc)::M') (.blk b (xs.flatMap enc) T::M)
theorem Aqd{α:Type}{enc:α->List Value}{b T k:Nat}{xs:List α}{w:World}(hE:Enc k enc)(hb:xs.length<=4096)(h:(LEnt.blk b (xs.flatMap enc) T).holds w):(LEnt.own (.slice (some ⟨b,0,none⟩) xs.length xs.length) T k xs.length (xs.flatMap enc)).holds w:=by
 refine⟨hE.flat xs,.inr ⟨b,xs.length,(xs.flatMap enc).toArray,rfl,Nat.zero_le _,h,bU _,by simp[maxLen];omega,by simpa using hE.flat xs,?_⟩⟩;rw[←hE.flat xs];exact List.take_of_length_le (bU _)
variable {w0:World}{X:List Nat}{φ:View}{L L':List LEnt}{K K':List (Nat×Value)}{n:Nat}{a:Act}{w:World}
theorem nrm(S:Sx w0 X φ L K n a w)(h:evL L=some L'):Sx w0 X φ L' K n a w:=by rw[Ali h];exact S
theorem JX.fps(h:JX L' L):List.Sublist (fps L') (fps L):=by
 induction h with
 |nil L=>exact List.nil_sublist _
 | @keep e M' M h ih=>
  rw[Vv,Vv];exact List.Sublist.append (List.Sublist.refl _) ih
 |drop h ih=>rw[Vv];exact List.Sublist.trans ih (List.sublist_append_right _ _)
 |new h ih=>rw[Vv];exact ih
 |lit E hb h ih=>
  rw[Vv,Vv];exact List.Sublist.append (List.Sublist.refl _) ih
theorem JX.mem(h:JX L' L):∀e∈L',∀w:World,(∀e∈L,e.holds w)->e.holds w:=by
 induction h with
 |nil L=>intro e he;cases he
 |keep h ih=>
  intro e he w hw;rcases bB.1 he with rfl|he
  ·exact hw _ aN
  ·exact ih e he w λx hx=>hw x (aM _ hx)
 |drop h ih=>exact λe he w hw=>ih e he w λx hx=>hw x (aM _ hx)
 |new h ih=>
  intro e he w hw;rcases bB.1 he with rfl|he
  ·exact World.ownsRow_nil w 0 _ _
  ·exact ih e he w hw
 |lit E hb h ih=>
  intro e he w hw;rcases bB.1 he with rfl|he
  ·exact Aqd E hb (hw _ aN)
  ·exact ih e he w λx hx=>hw x (aM _ hx)
def memT(i:Nat):List Nat->Bool
 |[]=>false
 |j::l=>match Nat.beq i j with
  |true=>true
  |false=>memT i l
def subX(K:List (Nat×Value)):List Nat->List (Nat×Value)->Prop
 |_,[]=>True
 |sn,(t,v)::r=>(memT t sn=true\/look K t=some v)/\subX K (t::sn) r
theorem Adc:∀{sn:List Nat} {K':List (Nat×Value)} {t:Nat} {v:Value},subX K sn K'->memT t sn=false->look K' t=some v->look K t=some v
 |sn,[],t,v,_,_,h=>by cases h
 |sn,(i,u)::r,t,v,hs,hm,h=>by
  unfold look at h
  cases hb:Nat.beq i t with
  |true=>
   rw[hb] at h
   have:=Nat.eq_of_beq_eq_true hb
   subst this
   cases h
   rcases hs.1 with h1|h1
   ·rw[hm] at h1;cases h1
   ·exact h1
  |false=>
   rw[hb] at h
   refine Adc hs.2 ?_ h
   unfold memT
   have:Nat.beq t i=false:=by
    cases hc:Nat.beq t i with
    |true=>have:=Nat.eq_of_beq_eq_true hc;subst this;rw[hc] at hb;cases hb
    |false=>rfl
   rw[this];exact hm
theorem sxN{sn:List Nat}{K':List (Nat×Value)}(h:K'=[]):subX K sn K':=by subst h;trivial
theorem sxS{sn:List Nat}{t:Nat}{v:Value}{r:List (Nat×Value)}(h:look K t=some v)(k:subX K (t::sn) r):subX K sn ((t,v)::r):=⟨.inr h,k⟩
theorem sxM{sn:List Nat}{t:Nat}{v:Value}{r:List (Nat×Value)}(h:memT t sn=true)(k:subX K (t::sn) r):subX K sn ((t,v)::r):=⟨.inl h,k⟩
theorem nfC(S:Sx w0 X φ L K n a w)(hK:subX K [] K')(h:JX L' L):Sx w0 X φ L' K' n a w:=by
 refine⟨?_,S.emb,S.fresh,?_,?_,?_,S.nodefer,S.size,λt v ht=>S.slots t v (Adc hK rfl ht)⟩
 ·exact S.keep
 ·exact λe he=>h.mem e he w S.holds
 ·exact S.nodup.sublist h.fps
 ·exact λb hb=>S.sep b (h.fps.subset hb)
theorem snE(h:L'=[]):JX L' L:=by subst h;exact .nil _
theorem snK{e:LEnt}{M M':List LEnt}(h1:L=e::M)(h2:L'=e::M')(k:JX M' M):JX L' L:=by subst h1 h2;exact .keep k
theorem snN{T k:Nat}{M':List LEnt}(h2:L'= .own (.slice none 0 0) T k 0 []::M')(q:JX M' L):JX L' L:=by subst h2;exact .new q
theorem snD{e:LEnt}{M:List LEnt}(h1:L=e::M)(k:JX L' M):JX L' L:=by subst h1;exact .drop k
theorem snL{α:Type}{enc:α->List Value}{b T k q:Nat}{xs:List α}{cells:List Value}{M M':List LEnt}(h1:L= .blk b cells T::M)(h2:L'= .own (.slice (some ⟨b,0,none⟩) q q) T k xs.length (xs.flatMap enc)::M')(E:EncI k enc)(hx:xs.flatMap enc=cells)(hq:xs.length=q)(hb:Nat.ble q 4096=true)(r:JX M' M):JX L' L:=by subst h1 h2 hx hq;exact .lit E.out (by simpa using hb) r
theorem noneX{α:Type}{r:α}{G:Prop}(h:(none:Option α)=some r):G:=by cases h
theorem keep_l1{x y:Nat}{w w':World}(h:Keep [x] w w'):Keep [x,y] w w':=h.sub (by intro z hz;simp at hz ⊢;simp[hz])
theorem keep_l2{x y:Nat}{w w':World}(h:Keep [y] w w'):Keep [x,y] w w':=h.sub (by intro z hz;simp at hz ⊢;simp[hz])
theorem hdX{e:LEnt}{i:Nat}(S:Sx w0 X φ L K n a w)(h:L[i]? =some e):e.holds w:=S.hd i h
theorem slc_la{Y:List Nat}{k:Nat}{v:Value}{cs:List (List Value)}(h:Slc (view w0 X) k v cs)(S:Sx w0 X φ L K n a w)(q:∃i:Nat,∃e:LEnt,L[i]? =some e/\e.fp.toList=Y):Slc (view w Y) k v cs:=by
 obtain⟨i,e,h1,rfl⟩:=q;exact h.mono (S.la i h1)
theorem la_le{Y:List Nat}(S:Sx w0 X φ L K n a w)(q:∃i:Nat,∃e:LEnt,L[i]? =some e/\e.fp.toList=Y):View.le (view w0 X) (view w Y):=by
 obtain⟨i,e,h1,rfl⟩:=q;exact S.la i h1
theorem la_at{Y:List Nat}{b:Nat}{o:Obj}(S:Sx w0 X φ L K n a w)(q:∃i:Nat,∃e:LEnt,L[i]? =some e/\e.fp.toList=Y)(h:view w0 X b=some o):view w Y b=some o:=by
 obtain⟨i,e,h1,rfl⟩:=q;exact S.la i h1 _ _ h
variable {P:Program}{ops:Array Oper}{Q:Exit->Act->World->Prop}{rest:List Oper}
variable {d:Nat}{ty:TypeId}{pos:String}{after:Array Edge}
class SubI{α:Type}{β:outParam Type}(enc:α->List Value)(o:Nat)(k:Nat)(enc':outParam (β->List Value))(f:outParam (α->β)):Prop where
 out:∀x,((enc x).drop o).take k=enc' (f x)
 len:∀y,(enc' y).length=k
class DcI{α:Type}(enc:α->List Value)(dec:outParam (List Value->Option α)):Prop where
 out:∀cs x,dec cs=some x->enc x=cs
def Afp:List Value->Option Int
 |[.int .i64 x]=>some x
 |_=>none
def Alj:List Value->Option ByteArray
 |[.string x]=>some x
 |_=>none
instance:DcI eInt Afp:=⟨λcs x h=>by
 unfold Afp at h
 split at h
 ·cases h;rfl
 ·cases h⟩
instance:DcI Io Alj:=⟨λcs x h=>by
 unfold Alj at h
 split at h
 ·cases h;rfl
 ·cases h⟩
theorem ldBW{i b k:Nat}{T T':TypeId}{x:Operand}{cells:List Value}(S:Sx w0 X φ L K n a w)(A:AgT P T)(Z:SzI P T k)(hx:a.eval x= .pointer (some ⟨b,0,none⟩))(hi:L[i]? =some (.blk b cells T'))(hl:cells.length=k):Rn P a w (.load T x) ty (.agg cells.toArray):=
 Wv A.out Z.out (off:=0) (o:=0) (by rw[List.drop_zero,List.take_of_length_le (Nat.le_of_eq hl)]) hl hx (S.cellsAt hi)
theorem ldBS{α β:Type}{enc:α->List Value}{enc':β->List Value}{f:α->β}{y:α}{i b off k:Nat}{T T':TypeId}{x:Operand}(S:Sx w0 X φ L K n a w)(A:AgT P T)(Z:SzI P T k)(hx:a.eval x= .pointer (some ⟨b,off,none⟩))(hi:L[i]? =some (.blk b (enc y) T'))(D:SubI enc off k enc' f):Rn P a w (.load T x) ty (.agg (enc' (f y)).toArray):=
 Wv A.out Z.out (off:=0) (o:=off) (D.out y) (D.len _) (by rw[Nat.zero_add];exact hx) (S.cellsAt hi)
theorem ldMW{ψ:View}{T:TypeId}{x:Operand}{b off k:Nat}{cs:List Value}(A:AgT P T)(Z:SzI P T k)(hx:a.eval x= .pointer (some ⟨b,off,none⟩))(hm:Mem ψ b off cs)(he:Emb ψ w)(hl:cs.length=k):Rn P a w (.load T x) ty (.agg cs.toArray):=
 Wv (o:=0) A.out Z.out (by rw[List.drop_zero,List.take_of_length_le (Nat.le_of_eq hl)]) hl hx (hm.at he)
theorem idSl'{T:TypeId}{x:Operand}{p q u:Option Operand}{v:Value}(h:Rn P a w (.slice T x p q u) ty v):Rn P a w (.slice T x p q u) ty v:=h
theorem mkfI{f:Fn}{xs:List Operand}{vs:List Value}(h:EvL a xs vs):Rn P a w (.makeFunc f #[] xs.toArray) ty (.func f #[] vs.toArray):=QI aB (evA h)
theorem minI{k k':IntKind}{ts:Array TypeId}{x y:Operand}{m n:Int}(hx:a.eval x= .int k m)(hy:a.eval y= .int k' n):Rn P a w (.call {callee:=.builtin .min,args:=#[x,y],argTypes:=ts}) ty (.int k (Xp m n)):=Aev hx hy
theorem maxI{k k':IntKind}{ts:Array TypeId}{x y:Operand}{m n:Int}(hx:a.eval x= .int k m)(hy:a.eval y= .int k' n):Rn P a w (.call {callee:=.builtin .max,args:=#[x,y],argTypes:=ts}) ty (.int k (YF m n)):=rn_max2 hx hy
section
variable {ψ:View}{α:Type}{enc:α->List Value}{T TE el k by_ t u:Nat}{v:Value}{xs ys:List α}{z zl zh:Int}{kk k1 k2 k3:IntKind}{x y y' y2:Operand}{i:Nat}
theorem scutL{s:ByteArray}(U:UnI P T .string)(hx:a.eval x= .string s)(hy:a.eval y= .int k1 zl)(hc:Tv zl (s.size:Int) s.size=true):Rn P a w (.slice T x (some y) none none) ty (.string (KY s zl s.size)):=Apn U.out hx hy hc
theorem scutH{s:ByteArray}(U:UnI P T .string)(hx:a.eval x= .string s)(hy:a.eval y= .int k1 zh)(hc:Tv 0 zh s.size=true):Rn P a w (.slice T x none (some y) none) ty (.string (KY s 0 zh)):=Apo U.out hx hy hc
theorem scut2{s:ByteArray}(U:UnI P T .string)(hx:a.eval x= .string s)(hy:a.eval y= .int k1 zl)(hy':a.eval y'= .int k2 zh)(hc:Tv zl zh s.size=true):Rn P a w (.slice T x (some y) (some y') none) ty (.string (KY s zl zh)):=Apm U.out hx hy hy' hc
theorem l_cutL(S:Sx w0 X φ L K n a w)(A:SlI P T el k by_)(hx:look K t=some v)(hs:Slc ψ k v (xs.map enc))(hy:a.eval y= .int k1 zl)(hc:Tv zl (xs.length:Int) xs.length=true)(hd:Nat.blt d n=true)
 (kont:∀a' v',Slc ψ k v' ((cut xs zl xs.length).map enc)->Sx w0 X φ L ((d,v')::K) n a' w->wpList P ops Q rest a' w):
 Wl P ops Q (some d) (.slice T (.tmp t) (some y) none none) ty pos after rest a w:=by
 obtain⟨v',h1,h2⟩:=MO (ty:=ty) A.out hs (S.tm hx) hy hc;exact lv S (h2 w) hd λa' S'=>kont a' v' h1 S'
theorem l_cutH(S:Sx w0 X φ L K n a w)(A:SlI P T el k by_)(hx:look K t=some v)(hs:Slc ψ k v (xs.map enc))(hy:a.eval y= .int k1 zh)(hc:Tv 0 zh xs.length=true)(hd:Nat.blt d n=true)
 (kont:∀a' v',Slc ψ k v' ((cut xs 0 zh).map enc)->Sx w0 X φ L ((d,v')::K) n a' w->wpList P ops Q rest a' w):
 Wl P ops Q (some d) (.slice T (.tmp t) none (some y) none) ty pos after rest a w:=by
 obtain⟨v',h1,h2⟩:=UP (ty:=ty) A.out hs (S.tm hx) hy hc;exact lv S (h2 w) hd λa' S'=>kont a' v' h1 S'
theorem l_cut3(S:Sx w0 X φ L K n a w)(A:SlI P T el k by_)(hx:look K t=some v)(hs:Slc ψ k v (xs.map enc))(hy:a.eval y= .int k1 zl)(hy':a.eval y'= .int k2 zh)(hy2:a.eval y2= .int k3 zh)(hc:Tv zl zh xs.length=true)(hd:Nat.blt d n=true)
 (kont:∀a' v',Slc ψ k v' ((cut xs zl zh).map enc)->Sx w0 X φ L ((d,v')::K) n a' w->wpList P ops Q rest a' w):
 Wl P ops Q (some d) (.slice T (.tmp t) (some y) (some y') (some y2)) ty pos after rest a w:=by
 obtain⟨v',h1,h2⟩:=rn_cutT3 (ty:=ty) A.out hs (S.tm hx) hy hy' hy2 hc;exact lv S (h2 w) hd λa' S'=>kont a' v' h1 S'
theorem l_sub2(S:Sx w0 X φ L K n a w)(A:SlI P T el k by_)(hx:look K t=some v)(hi:L[i]? =some (.own v TE k xs.length (xs.flatMap enc)))(hy:a.eval y= .int k1 zl)(hy':a.eval y'= .int k2 zh)(hc:Tv zl zh xs.length=true)(hd:Nat.blt d n=true)
 (kont:∀a' v',SS k v zl.toNat zh.toNat v'->Sx w0 X φ L ((d,v')::K) n a' w->wpList P ops Q rest a' w):
 Wl P ops Q (some d) (.slice T (.tmp t) (some y) (some y') none) ty pos after rest a w:=by
 obtain⟨v',h1,h2⟩:=rn_sub2 (ty:=ty) A.out S hi (S.tm hx) hy hy' hc;exact lv S (h2 w) hd λa' S'=>kont a' v' h1 S'
theorem room1{m:Nat}(hb:Nat.ble by_ 65536=true)(h:Ja m=true):(m+1)*by_<=140737488355328:=by
 have h1:=CL h;have h2:by_<=65536:=by simpa using hb
 calc (m+1)*by_<=1073741825*65536:=Nat.mul_le_mul aA h2
  _<=_:=by decide
theorem room2{m q:Nat}(hb:Nat.ble by_ 65536=true)(h:decide (m+q<1073741824)=true):(m+q)*by_<=140737488355328:=by
 have h1:=CL h;have h2:by_<=65536:=by simpa using hb
 calc (m+q)*by_<=1073741825*65536:=Nat.mul_le_mul aA h2
  _<=_:=by decide
theorem l_app1{j b TB:Nat}{e:α}{dec:List Value->Option α}{news:List Value}(S:Sx w0 X φ L K n a w)(A:SlI P T el k by_)(hx:look K t=some v)(hu:look K u=some (.slice (some ⟨b,0,none⟩) 1 1))(hi:L[i]? =some (.own v el k xs.length (xs.flatMap enc)))(hj:L[j]? =some (.blk b news TB))(E:EncI k enc)(D:DcI enc dec)(hn:dec news=some e)
 (hk0:Nat.blt 0 k=true) (hb0:Nat.blt 0 by_=true) (hb:Nat.ble by_ 65536=true) (hr:Ja xs.length=true) (hd:Nat.blt d n=true)
 (kont:∀v' a' w',Keep v.ownBlock.toList w w'->Sx w0 X φ (L.set i (.own v' el k (xs++[e]).length ((xs++[e]).flatMap enc))) ((d,v')::K) n a' w'->wpList P ops Q rest a' w'):
 Wl P ops Q (some d) (.call {callee:=.builtin .append,args:=#[.tmp t,.tmp u],argTypes:=#[T,T]}) ty pos after rest a w:=
 CN (ys:=[e]) A.out E.out S (S.tm hx) hi (S.tm hu) hj rfl (by simp[D.out _ _ hn]) hk0 hb0 (room1 hb hr) hd kont
theorem l_appSv{Y:List Nat}{u':Value}(S:Sx w0 X φ L K n a w)(A:SlI P T el k by_)(hx:look K t=some v)(hu:look K u=some u')(hi:L[i]? =some (.own v el k xs.length (xs.flatMap enc)))(hs:Slc (view w Y) k u' (ys.map enc))(E:EncI k enc)
 (hk0:Nat.blt 0 k=true) (hb0:Nat.blt 0 by_=true) (hb:Nat.ble by_ 65536=true) (hr:decide (xs.length+ys.length<1073741824)=true) (hd:Nat.blt d n=true)
 (kont:∀v' a' w',Keep v.ownBlock.toList w w'->Sx w0 X φ (L.set i (.own v' el k (xs++ys).length ((xs++ys).flatMap enc))) ((d,v')::K) n a' w'->wpList P ops Q rest a' w'):
 Wl P ops Q (some d) (.call {callee:=.builtin .append,args:=#[.tmp t,.tmp u],argTypes:=#[T,T]}) ty pos after rest a w:=
 RZ A.out E.out S (S.tm hx) hi (S.tm hu) hs hk0 hb0 (room2 hb hr) hd kont
theorem l_stoO{j kk' g:Nat}{T':TypeId}{e':α}{vs:List Value}{dec:List Value->Option α}{z:Int}(S:Sx w0 X φ L K n a w)(Z:SzI P T' kk')(hx:a.eval x= .pointer (some ⟨g,z.toNat*k+j,none⟩))(hg:v.ownBlock=some g)(hi:L[i]? =some (.own v TE k xs.length (xs.flatMap enc)))(I:Inhabited α)(hz:inB z xs.length=true)(E:EncI k enc)(D:DcI enc dec)
 (hy:a.eval y= .agg vs.toArray) (hl:vs.length=kk') (hc:Nat.ble (j+kk') k=true) (h1:vs.all (·.oneCell')=true) (hn:dec (lay (enc (nth xs z)) j vs)=some e')
 (kont:∀w',Keep v.ownBlock.toList w w'->Sx w0 X φ (L.set i (.own v TE k (xs.set z.toNat e').length ((xs.set z.toNat e').flatMap enc))) K n a w'->wpList P ops Q rest a w'):
 Wl P ops Q none (.store T' x y) ty pos after rest a w:=
 BS (j:=z.toNat) e' E.out S hx hy hi hg (Gd hz).1 Z.out (by simp[Value.cells]) hl hc h1 (D.out _ _ hn).symm kont
theorem Anl{j g:Nat}{T':TypeId}{e':α}{u':Value}{dec:List Value->Option α}{z:Int}(S:Sx w0 X φ L K n a w)(Z:SzI P T' 1)(hx:a.eval x= .pointer (some ⟨g,z.toNat*k+j,none⟩))(hg:v.ownBlock=some g)(hi:L[i]? =some (.own v TE k xs.length (xs.flatMap enc)))(I:Inhabited α)(hz:inB z xs.length=true)(E:EncI k enc)(D:DcI enc dec)
 (hy:a.eval y=u') (hv:u'.cells.toList=[u']) (hc:Nat.ble (j+1) k=true) (h1:u'.oneCell'=true) (hn:dec (lay (enc (nth xs z)) j [u'])=some e')
 (kont:∀w',Keep v.ownBlock.toList w w'->Sx w0 X φ (L.set i (.own v TE k (xs.set z.toNat e').length ((xs.set z.toNat e').flatMap enc))) K n a w'->wpList P ops Q rest a w'):
 Wl P ops Q none (.store T' x y) ty pos after rest a w:=
 BS (j:=z.toNat) e' E.out S hx hy hi hg (Gd hz).1 Z.out hv rfl hc (by simp[h1]) (D.out _ _ hn).symm kont
end
end
section
variable {P:Program}{ops:Array Oper}{Q:Exit->Act->World->Prop}{rest:List Oper}
variable {w0:World}{X:List Nat}{φ:View}{L L':List LEnt}{K K':List (Nat×Value)}{n:Nat}{a:Act}{w:World}
variable {d:Nat}{ty:TypeId}{pos:String}{after:Array Edge}
def appO:List Value->List Value->Option (List Value)
 |[],c=>some c
 |v::vs,c=>match appO vs c with
  |some r=>some (v::r)
  |none=>none
theorem Anm:∀{vs c r:List Value},appO vs c=some r->vs++c=r
 |[],c,r,h=>by cases h;rfl
 |v::vs,c,r,h=>by
  unfold appO at h
  split at h
  ·cases h;rename_i h2;rw[List.cons_append,Anm h2]
  ·cases h
theorem l_c0{f:FuncId}{xs:List Operand}{vs:List Value}{ats:Array TypeId}{T:Prop}{R:Ending->World->Prop}(_:Sx w0 X φ L K n a w)(hev:EvL a xs vs)(F:FnT P f vs T)(c:T->Calls P f vs.toArray w R)
 (k:EvL a xs vs->VH P f->Calls P f vs.toArray w R->Wl P ops Q (some d) (.call {callee:=.value (.func f),args:=xs.toArray,argTypes:=ats}) ty pos after rest a w):
 Wl P ops Q (some d) (.call {callee:=.value (.func f),args:=xs.toArray,argTypes:=ats}) ty pos after rest a w:=k hev F.call (c F.out)
theorem l_clT{f:FuncId}{xs:List Operand}{vs:List Value}{ats:Array TypeId}{Φ:View->Value->World->Prop}(S:Sx w0 X φ L K n a w)(hev:EvL a xs vs)(C:VH P f)
 (c:Calls P f vs.toArray w (Ret w [] Φ)) (hd:Nat.blt d n=true) (k:w0.heap.size<=w.heap.size->∀v a' w',Φ (newer w w') v w'->Keep [] w w'->New w φ L->Sx w0 X φ L ((d,v)::K) n a' w'->wpList P ops Q rest a' w'):
 Wl P ops Q (some d) (.call {callee:=.value (.func f),args:=xs.toArray,argTypes:=ats}) ty pos after rest a w:=l_cl S hev C (c) hd (k S.keep.size)
theorem l_clF{f:FuncId}{t:Nat}{xs:List Operand}{vs cap us:List Value}{ats:Array TypeId}{T:Prop}{Φ:View->Value->World->Prop}(S:Sx w0 X φ L K n a w)(hx:look K t=some (.func (.func f) #[] cap.toArray))(hev:EvL a xs vs)(hu:appO vs cap=some us)(F:FnT P f us T)
 (c:T->Calls P f us.toArray w (Ret w [] Φ)) (hd:Nat.blt d n=true) (k:w0.heap.size<=w.heap.size->∀v a' w',Φ (newer w w') v w'->Keep [] w w'->New w φ L->Sx w0 X φ L ((d,v)::K) n a' w'->wpList P ops Q rest a' w'):
 Wl P ops Q (some d) (.call {callee:=.value (.tmp t),args:=xs.toArray,argTypes:=ats}) ty pos after rest a w:=
 YN S (λdst=>by
  have h:=Abz (ty:=ty) (pos:=pos) (after:=after) (ats:=ats) (dst:=dst) (P:=P) (w:=w) (S.tm hx) hev F.call
  rw[Anm hu] at h
  exact h) (c F.out) hd (k S.keep.size)
theorem l_clO{f:FuncId}{xs:List Operand}{vs:List Value}{ats:Array TypeId}{e e2:LEnt}{V:Value}{X':List Nat}(S:Sx w0 X φ L K n a w){i:Nat}(hev:EvL a xs vs)(C:VH P f)
 (c:Calls P f vs.toArray w (Ret w X' λ_ v w'=>e2.holds w'/\v=V)) (hi:L[i]? =some e) (hX:e.fp.toList=X') (he:e2.fp=e.fp) (hd:Nat.blt d n=true)
 (k:∀a' w',Keep X' w w'->Sx w0 X φ (L.set i e2) ((d,V)::K) n a' w'->wpList P ops Q rest a' w'):
 Wl P ops Q (some d) (.call {callee:=.value (.func f),args:=xs.toArray,argTypes:=ats}) ty pos after rest a w:=by
 subst hX;refine ET i S hi (λ_=>e2) (λ_=>Oq hev C) (c) hd (λ_ _ _ h=>⟨h.1,λc hc=>he ▸ hc⟩) λv a' w' hv hk _ S=>?_;obtain⟨_,rfl⟩:=hv;exact k a' w' hk S
theorem l_clV{f:FuncId}{xs:List Operand}{vs:List Value}{ats:Array TypeId}{e e2:LEnt}{T' k' m:Nat}{cs:List Value}{X':List Nat}(S:Sx w0 X φ L K n a w){i:Nat}(hev:EvL a xs vs)(C:VH P f)
 (c:Calls P f vs.toArray w (Ret w X' λτ v w'=>e2.holds w'/\Kr τ T' k' v m cs)) (hi:L[i]? =some e) (hX:e.fp.toList=X') (he:e2.fp=e.fp) (hd:Nat.blt d n=true)
 (k:∀v a' w' φ',View.le φ φ'->Kr φ' T' k' v m cs->Keep X' w w'->Sx w0 X φ' (L.set i e2) ((d,v)::K) n a' w'->wpList P ops Q rest a' w'):
 Wl P ops Q (some d) (.call {callee:=.value (.func f),args:=xs.toArray,argTypes:=ats}) ty pos after rest a w:=by
 subst hX;have hz:=S.keep.size;have hN:New w φ (L.set i e2):=λb hb=>⟨(S.new b hb).1,λhm=>by
  obtain⟨y,hy,hc⟩:=EN hm;rcases List.mem_or_eq_of_mem_set hy with h|rfl
  ·exact(S.new b hb).2 (List.mem_filterMap.2 ⟨y,h,hc⟩)
  ·exact(S.new b hb).2 (List.mem_filterMap.2 ⟨e,List.mem_of_getElem? hi,he ▸ hc⟩)⟩
 refine ET i S hi (λ_=>e2) (λ_=>Oq hev C) (c) hd (λ_ _ _ h=>⟨h.1,λc hc=>he ▸ hc⟩) λv a' w' hv hk _ S=>?_;obtain⟨φ',h1,h2,S'⟩:=S.see' hN hz;exact k v a' w' φ' h1 (hv.2.mono h2) hk S'
theorem seeX{wo:World}{G:Prop}(S:Sx w0 X φ L K n a w)(hn:New wo φ L)(hz:w0.heap.size<=wo.heap.size)(g:∀φ',View.le φ φ'->View.le (newer wo w) φ'->Sx w0 X φ' L K n a w->G):G:=by
 obtain⟨φ',h1,h2,S'⟩:=S.see' hn hz;exact g φ' h1 h2 S'
theorem lkV{ψ:View}{T kt el b clk:Nat}{κ ν:Type}{deq:DecidableEq κ}{kv:κ->Value}{vv:ν->Value}{z:ν}{x y:Operand}{m:List (κ×ν)}{key:κ}(M:MapI P T deq kt el kv vv z)
 (hx:a.eval x= .map (some b)) (hm:ψ b=some (.map (Ht kv vv m) clk)) (he:Emb ψ w) (hy:a.eval y=kv key):Rn P a w (.lookup T x y false) ty (vv (Gm m key z)):=Acj (he _ _ hm) M.und M.key M.zero hx hy
theorem lkV2{ψ:View}{T kt el b clk:Nat}{κ ν:Type}{deq:DecidableEq κ}{kv:κ->Value}{vv:ν->Value}{z:ν}{x y:Operand}{m:List (κ×ν)}{key:κ}(M:MapI P T deq kt el kv vv z)
 (hx:a.eval x= .map (some b)) (hm:ψ b=some (.map (Ht kv vv m) clk)) (he:Emb ψ w) (hy:a.eval y=kv key):Rn P a w (.lookup T x y true) ty (.tuple #[vv (Gm m key z),.bool (Tw m key).isSome]):=ZR (he _ _ hm) M.und M.key M.zero hx hy
section
variable {ψ:View}{α:Type}{enc:α->List Value}{T TE el k by_ t u:Nat}{v:Value}{xs ys dn:List α}{z zl zh:Int}{kk k1 k2 k3:IntKind}{x y y' y2:Operand}{i j:Nat}
def decN(k:Nat)(dec:List Value->Option α):Nat->List Value->Option (List α)
 |0,[]=>some []
 |0,_::_=>none
 |n+1,cs=>match dec (cs.take k),decN k dec n (cs.drop k) with
  |some x,some r=>some (x::r)
  |_,_=>none
theorem OQ{dec:List Value->Option α}(D:DcI enc dec):∀{n:Nat} {cs:List Value} {xs:List α},decN k dec n cs=some xs->xs.flatMap enc=cs/\xs.length=n
 |0,[],xs,h=>by cases h;exact⟨rfl,rfl⟩
 |0,_::_,xs,h=>by cases h
 |n+1,cs,xs,h=>by
  unfold decN at h
  split at h
  ·rename_i x r h1 h2
   cases h
   obtain⟨h3,h4⟩:=OQ D h2
   exact⟨by rw[List.flatMap_cons,h3,D.out _ _ h1,List.take_append_drop],by simp[h4]⟩
  ·cases h
theorem litS{Y:List Nat}{b T q:Nat}{cells:List Value}{dec:List Value->Option α}(S:Sx w0 X φ L K n a w)(E:EncI k enc)(D:DcI enc dec)(hi:L[i]? =some (.blk b cells T))(hx:decN k dec q cells=some xs)(hb:Nat.ble q 4096=true)(hY:b∉Y):Slc (view w Y) k (.slice (some ⟨b,0,none⟩) q q) (xs.map enc):=
 QL E.out S hi (OQ D hx).1 (OQ D hx).2 hb hY
section
variable {N:Act->World->Prop}
theorem s_idxI(S:Sx w0 X φ L K n a w)(A:SlI P T el k by_)(hx:look K t=some v)(hy:a.eval y= .int kk z)(hs:Slc ψ k v (xs.map enc))(I:Inhabited α)(hj:inB z xs.length=true)(hd:Nat.blt d n=true)
 (kont:∀a' b off,Mem ψ b off (enc (nth xs z))->Sx w0 X φ L ((d,.pointer (some ⟨b,off,none⟩))::K) n a' w->CO P ops N rest a' w):
 CO P ops N ({dst:=some d,op:=.indexAddr T (.tmp t) y,type:=ty,pos,after,guard:=none}::rest) a w:=by
 obtain⟨b,off,hm,hr⟩:=Rx (a:=a) (x:=.tmp t) (y:=y) (ty:=ty) A.out hs (Gd hj).1 (Gd hj).2 (S.tm hx) hy;exact Acu S (hr w) hd λa' S'=>kont a' b off hm S'
theorem s_idxG{e:α}(S:Sx w0 X φ L K n a w)(A:SlI P T el k by_)(hx:look K t=some v)(hy:look K u=some (.int kk (j:Int)))(hs:Slc ψ k v (xs.map enc))(hj:xs=dn++e::ys)(hi:dn.length=j)(hd:Nat.blt d n=true)
 (kont:∀a' b off,Mem ψ b off (enc e)->Sx w0 X φ L ((d,.pointer (some ⟨b,off,none⟩))::K) n a' w->CO P ops N rest a' w):
 CO P ops N ({dst:=some d,op:=.indexAddr T (.tmp t) (.tmp u),type:=ty,pos,after,guard:=none}::rest) a w:=by
 obtain⟨b,off,hm,hr⟩:=Rx (a:=a) (x:=.tmp t) (y:=.tmp u) (ty:=ty) A.out hs (CK hj hi) rfl (S.tm hx) (S.tm hy);exact Acu S (hr w) hd λa' S'=>kont a' b off hm S'
theorem s_idxO(S:Sx w0 X φ L K n a w)(A:SlI P T el k by_)(hx:look K t=some v)(hi:L[i]? =some (.own v TE k xs.length (xs.flatMap enc)))(E:EncI k enc)(I:Inhabited α)(hy:a.eval y= .int kk z)(hj:inB z xs.length=true)(hd:Nat.blt d n=true)
 (kont:∀a' g,v.ownBlock=some g->Sx w0 X φ L ((d,.pointer (some ⟨g,z.toNat*k,none⟩))::K) n a' w->CO P ops N rest a' w):
 CO P ops N ({dst:=some d,op:=.indexAddr T (.tmp t) y,type:=ty,pos,after,guard:=none}::rest) a w:=by
 obtain⟨g,hg,hr⟩:=Mt (a:=a) (x:=.tmp t) (y:=y) (ty:=ty) A.out E.out S hi (Gd hj).1 (Gd hj).2 (S.tm hx) hy;exact Acu S (hr w) hd λa' S'=>kont a' g hg S'
end
theorem e_idxOg{l:List Oper}{N:Act->World->Prop}{x0:Oper}{rem:List Oper}{dn:List Nat}{p tj:Nat}{b want:Bool}{oj:Oper}(S:Sx w0 X φ L K n a w)(hs:Region.noSelect l.toArray=true){pp:Nat×Oper}(hn:ND true dn places l=some pp)(hp':pp=(p,{dst:=some d,op:=.indexAddr T (.tmp t) y,type:=ty,pos,after,guard:=some (j,want)}))(hi':l.toArray[p]? =some {dst:=some d,op:=.indexAddr T (.tmp t) y,type:=ty,pos,after,guard:=some (j,want)})
 (hj':l.toArray[j]? =some oj) (ht:oj.dst=some tj) (hv:look K tj=some (.bool b)) (hb:b=want)
 (hr:(Region.ready .any l.toArray (Yx l.length dn)).contains p=true) (hf:Region.free .any l.toArray (Yx l.length dn) p=true) (hd:Nat.blt d n=true)
 (A:SlI P T el k by_) (hx:look K t=some v) (hi:L[i]? =some (.own v TE k xs.length (xs.flatMap enc))) (E:EncI k enc) (I:Inhabited α) (hy:a.eval y= .int kk z) (hj:inB z xs.length=true) (kont:∀a' g,v.ownBlock=some g->Sx w0 X φ L ((d,.pointer (some ⟨g,z.toNat*k,none⟩))::K) n a' w->wpE P l N rem (p::dn) a' w):wpE P l N (x0::rem) dn a w:=by
 obtain⟨g,hg,hR⟩:=Mt (a:=a) (x:=.tmp t) (y:=y) (ty:=ty) A.out E.out S hi (Gd hj).1 (Gd hj).2 (S.tm hx) hy;exact Aaf S hs hn hp' hi' hj' ht hv hb hr hf hd (λw' _=>hR w') λa' S'=>kont a' g hg S'
end
theorem blkV{i b T:Nat}{cs:List Value}(S:Sx w0 X φ L K n a w)(hi:L[i]? =some (.blk b cs T))(_:cs=cs):(view w []) b=some (.cells cs.toArray T (0,0)):=S.blk_view hi (IB (e':=.blk b cs T) _ rfl)
structure ED(id:Nat)(B Ps Ts Os:List Nat):Prop where
def ysP(K:List (Nat×Value)):List Nat->Option (List Nat)
 |[]=>some []
 |t::ts=>match look K t,ysP K ts with
  |some (.pointer (some p)),some r=>some (p.block::r)
  |_,_=>none
def ysK(K:List (Nat×Value))(Ps:List Nat):List Nat->Option (List Nat)
 |[]=>ysP K Ps
 |[t]=>match look K t,Ps with
  |some v,[]=>some v.ownBlock.toList
  |some v,ps=>match ysP K ps with
   |some r=>some (r++v.ownBlock.toList)
   |none=>none
  |none,_=>none
 |t::ts=>match look K t,ysK K Ps ts with
  |some v,some r=>some (r++v.ownBlock.toList)
  |_,_=>none
def ownO(T:Nat):List LEnt->Option (List Nat)
 |[]=>none
 | .own v T' _ _ _::l=>match Nat.beq T T' with
  |true=>some v.ownBlock.toList
  |false=>ownO T l
 |_::l=>ownO T l
def ysA(K:List (Nat×Value))(L:List LEnt)(Ps Ts:List Nat):List Nat->Option (List Nat)
 |[]=>ysK K Ps Ts
 |T::_=>match Ps,Ts with
  |[],[]=>ownO T L
  |_,_=>none
def TS(dn:List Nat):List Nat->List Oper->List (Nat×Oper)
 |i::is,o::l=>match memN i dn with
  |true=>TS dn is l
  |false=>match WS dn o.after.toList with
   |true=>(i,o)::TS dn is l
   |false=>TS dn is l
 |_,_=>[]
def only1:List (Nat×Oper)->Option (Nat×Oper)
 |[x]=>some x
 |_=>none
def only2:List (Nat×Oper)->Option ((Nat×Oper)×(Nat×Oper))
 |[x,y]=>some (x,y)
 |_=>none
def wpB(P:Program)(l:List Oper)(B Y:List Nat)(N:Act->World->Prop)(rem:List Oper)(dn:List Nat)(a:Act)(w:World):Prop:=wpD P l.toArray B Y N rem.length (Yx l.length dn) a w
def pureOp:Op->Bool
 | .move _| .assign _| .fieldAddr _ _ _| .binOp _ _ _ _ _| .unOp _ _ _| .pick _ _ _| .extract _ _| .indexAddr _ _ _| .index _ _ _| .nilCheck _| .convert _ _ _| .makeFunc _ _ _| .build _ _| .slice _ _ _ _ _=>true
 | .call c=>match c.callee with
  | .builtin .len| .builtin .max| .builtin .min=>true
  |_=>false
 |_=>false
def Add(dn:List Nat):List Nat->List Oper->Option (Nat×Oper)
 |i::is,o::l=>match memN i dn with
  |true=>Add dn is l
  |false=>match pureOp o.op with
   |false=>Add dn is l
   |true=>match WS dn o.after.toList with
    |true=>some (i,o)
    |false=>Add dn is l
 |_,_=>none
def Ade(i:Nat):List Nat->Bool
 |[]=>true
 |j::l=>match Nat.blt i j with
  |true=>Ade i l
  |false=>false
def loadOp:Op->Bool
 | .load _ _| .lookup _ _ _ _=>true
 |_=>false
def Adf(B dn:List Nat):List Nat->List Oper->Option (Nat×Oper)
 |i::is,o::l=>match memN i dn with
  |true=>Adf B dn is l
  |false=>match loadOp o.op && Ade i B with
   |false=>Adf B dn is l
   |true=>match WS dn o.after.toList with
    |true=>some (i,o)
    |false=>Adf B dn is l
 |_,_=>none
variable {l:List Oper}{N:Act->World->Prop}{x0:Oper}{rem:List Oper}{dn B Y:List Nat}
theorem idW(h:wpB P l B Y N rem dn a w):wpB P l B Y N rem dn a w:=h
theorem f_drB{id:Nat}{Ps Ts Os:List Nat}[M:MixI P](_:ED id B Ps Ts Os)(S:Sx w0 X φ L K n a w)(_:ysA K L Ps Ts Os=some Y)(hs:Region.noSelect l.toArray=true)
 (k:∀w',Region.noSelect l.toArray=true->Sx w0 X φ L K n a w'->wpB P l B Y (λa w=>Q .normal a w) l [] a w'):Wq P (Code.region id l.toArray true) Q a w:=
 Wu B Y M.out S rfl hs λw' _ hs S=>k w' hs S
theorem Alk{i:Nat}{op:Op}{v:Value}(S:Sx w0 X φ L K n a w)(hs:Region.noSelect l.toArray=true){pp:Nat×Oper}(_:Add dn places l=some pp)(_:pp=(i,{dst:=some d,op,type:=ty,pos,after,guard:=none}))(hi:l.toArray[i]? =some {dst:=some d,op,type:=ty,pos,after,guard:=none})
 (hp:B.contains i=false) (hr:(Region.ready .any l.toArray (Yx l.length dn)).contains i=true) (hf:Region.free .any l.toArray (Yx l.length dn) i=true) (hd:Nat.blt d n=true)
 (hy:∀w',Rn P a w' op ty v) (k:∀a',Sx w0 X φ L ((d,v)::K) n a' w->wpB P l B Y N rem (i::dn) a' w):wpB P l B Y N (x0::rem) dn a w:=
 Pz i S hs hi hp hr hf hd hy k
theorem b_idxO{α:Type}{enc:α->List Value}{T TE el k by_ t i p:Nat}{v:Value}{xs:List α}{z:Int}{kk:IntKind}{y:Operand}(S:Sx w0 X φ L K n a w)(hs:Region.noSelect l.toArray=true){pp:Nat×Oper}(hn:Add dn places l=some pp)(hp':pp=(p,{dst:=some d,op:=.indexAddr T (.tmp t) y,type:=ty,pos,after,guard:=none}))(hi':l.toArray[p]? =some {dst:=some d,op:=.indexAddr T (.tmp t) y,type:=ty,pos,after,guard:=none})
 (hp:B.contains p=false) (hr:(Region.ready .any l.toArray (Yx l.length dn)).contains p=true) (hf:Region.free .any l.toArray (Yx l.length dn) p=true) (hd:Nat.blt d n=true)
 (A:SlI P T el k by_) (hx:look K t=some v) (hi:L[i]? =some (.own v TE k xs.length (xs.flatMap enc))) (E:EncI k enc) (I:Inhabited α) (hy:a.eval y= .int kk z) (hj:inB z xs.length=true) (kont:∀a' g,v.ownBlock=some g->Sx w0 X φ L ((d,.pointer (some ⟨g,z.toNat*k,none⟩))::K) n a' w->wpB P l B Y N rem (p::dn) a' w):wpB P l B Y N (x0::rem) dn a w:=by
 obtain⟨g,hg,hR⟩:=Mt (a:=a) (x:=.tmp t) (y:=y) (ty:=ty) A.out E.out S hi (Gd hj).1 (Gd hj).2 (S.tm hx) hy;exact Alk S hs hn hp' hi' hp hr hf hd (λw'=>hR w') λa' S'=>kont a' g hg S'
theorem b_idx{ψ:View}{α:Type}{enc:α->List Value}{T el k by_ t p:Nat}{v:Value}{xs:List α}{z:Int}{kk:IntKind}{y:Operand}(S:Sx w0 X φ L K n a w)(hs:Region.noSelect l.toArray=true){pp:Nat×Oper}(hn:Add dn places l=some pp)(hp':pp=(p,{dst:=some d,op:=.indexAddr T (.tmp t) y,type:=ty,pos,after,guard:=none}))(hi':l.toArray[p]? =some {dst:=some d,op:=.indexAddr T (.tmp t) y,type:=ty,pos,after,guard:=none})
 (hp:B.contains p=false) (hr:(Region.ready .any l.toArray (Yx l.length dn)).contains p=true) (hf:Region.free .any l.toArray (Yx l.length dn) p=true) (hd:Nat.blt d n=true)
 (A:SlI P T el k by_) (hx:look K t=some v) (hy:a.eval y= .int kk z) (hsl:Slc ψ k v (xs.map enc)) (I:Inhabited α) (hc:inB z xs.length=true) (kont:∀a' b off,Mem ψ b off (enc (nth xs z))->Sx w0 X φ L ((d,.pointer (some ⟨b,off,none⟩))::K) n a' w->wpB P l B Y N rem (p::dn) a' w):wpB P l B Y N (x0::rem) dn a w:=by
 obtain⟨b,off,hm,hR⟩:=Rx (a:=a) (x:=.tmp t) (y:=y) (ty:=ty) A.out hsl (Gd hc).1 (Gd hc).2 (S.tm hx) hy;exact Alk S hs hn hp' hi' hp hr hf hd (λw'=>hR w') λa' S'=>kont a' b off hm S'
theorem b_ld0{i:Nat}{op:Op}{v:Value}(S:Sx w0 X φ L K n a w)(hs:Region.noSelect l.toArray=true){pp:Nat×Oper}(_:Adf B dn places l=some pp)(_:pp=(i,{dst:=some d,op,type:=ty,pos,after,guard:=none}))(hi:l.toArray[i]? =some {dst:=some d,op,type:=ty,pos,after,guard:=none})
 (hp:SU l.toArray B i=true) (hb:noB B (Yx l.length dn)=true) (hr:(Region.ready .any l.toArray (Yx l.length dn)).contains i=true) (hf:Region.free .any l.toArray (Yx l.length dn) i=true) (hd:Nat.blt d n=true)
 (hy:∀w',Sx w0 X φ L K n a w'->Rn P a w' op ty v) (k:∀a',Sx w0 X φ L ((d,v)::K) n a' w->wpB P l B [] N rem (i::dn) a' w):wpB P l B [] N (x0::rem) dn a w:=
 BI i S hs hi hp hb hr hf hd (λw' hw=>hy w' (S.keepNone hw)) k
theorem b_ld1{i j:Nat}{e:LEnt}{op:Op}{v:Value}(S:Sx w0 X φ L K n a w)(hs:Region.noSelect l.toArray=true){pp:Nat×Oper}(_:Adf B dn places l=some pp)(_:pp=(i,{dst:=some d,op,type:=ty,pos,after,guard:=none}))(hi:l.toArray[i]? =some {dst:=some d,op,type:=ty,pos,after,guard:=none})
 (hp:SU l.toArray B i=true) (hb:noB B (Yx l.length dn)=true) (hr:(Region.ready .any l.toArray (Yx l.length dn)).contains i=true) (hf:Region.free .any l.toArray (Yx l.length dn) i=true) (hd:Nat.blt d n=true)
 (hj:L[j]? =some e) (hY:e.fp.toList=Y)
 (hy:∀w',Sx w0 X φ (L.set j (.own (.slice none 0 0) 0 0 0 [])) K n a w'->Rn P a w' op ty v) (k:∀a',Sx w0 X φ L ((d,v)::K) n a' w->wpB P l B Y N rem (i::dn) a' w):wpB P l B Y N (x0::rem) dn a w:=by
 subst hY;exact BI i S hs hi hp hb hr hf hd (λw' hw=>hy w' (S.change hj hw (λy hy=>by simpa using hy) (World.ownsRow_nil w' 0 0 0) (λb hb=>by cases hb))) k
theorem b_late{i:Nat}{o:Oper}(hn:only1 (TS dn places l)=some (i,o))(hB:B.contains i=true)(hr:Region.ready .any l.toArray (Yx l.length dn)=[i])(ho:l.toArray[i]? =some o)
 (k:wpList P l.toArray (QN λa' w'=>∃Y',Keep Y' w w'/\wpB P l [] Y' N rem (i::dn) a' w') [o] a w):wpB P l B Y N (x0::rem) dn a w:=by
 unfold wpB wpD;refine Aew (C:=λl w'=>noB B l=true->Keep Y w w') (λ_=>Keep.refl Y w) hr rfl λj hj=>?_;rw[bA] at hj;subst hj;refine⟨o,ho,CM (λa' w' ⟨Y',_,h⟩=>Acf (Y:=Y) hB _ _ _ _ ?_ h) k⟩
 ·have hlt:j∈Region.ready .any l.toArray (Yx l.length dn):=by rw[hr];exact bA.2 rfl
  have:=(mem_ready.1 hlt).1;rcases Nat.lt_or_ge j (Yx l.length dn).size with h'|h'
  ·simp[h']
  ·simp[Array.getElem?_eq_none h'] at this
theorem b_nextB{Y':List Nat}{a':Act}{w':World}(h1:Keep Y' w w')(h2:wpB P l [] Y' N rem dn a' w'):QN (λa' w'=>∃Y',Keep Y' w w'/\wpB P l [] Y' N rem dn a' w') .normal a' w':=⟨Y',h1,h2⟩
theorem b_loud{i:Nat}{o:Oper}(_:only1 (TS dn places l)=some (i,o))(hr:Region.ready .any l.toArray (Yx l.length dn)=[i])(ho:l.toArray[i]? =some o)
 (k:wpList P l.toArray (QN λa' w'=>Keep Y w w'/\wpB P l B Y N rem (i::dn) a' w') [o] a w):wpB P l B Y N (x0::rem) dn a w:=
 Yy i hr ho (CM (λ_ _ ⟨h1,h2⟩=>⟨Y,h1,λ_ h=>.inr h,h2⟩) k)
theorem b_next{a':Act}{w':World}(h1:Keep Y w w')(h2:wpB P l B Y N rem dn a' w'):QN (λa' w'=>Keep Y w w'/\wpB P l B Y N rem dn a' w') .normal a' w':=⟨h1,h2⟩
theorem b_end(hr:Region.ready .any l.toArray (Yx l.length dn)=[])(k:N a w):wpB P l B Y N [] dn a w:=ZQ hr k
end
section
variable {P:Program}{ops:Array Oper}{Q:Exit->Act->World->Prop}{rest:List Oper}
variable {w0:World}{X:List Nat}{φ:View}{L L':List LEnt}{K K':List (Nat×Value)}{n:Nat}{a:Act}{w:World}
variable {d:Nat}{ty:TypeId}{pos:String}{after:Array Edge}
structure Take(f:Nat):Prop where
theorem l_ctk{f:FuncId}{xs:List Operand}{vs:List Value}{ats:Array TypeId}{T' k' m:Nat}{cs:List Value}(S:Sx w0 X φ L K n a w)(_:Take f)(hev:EvL a xs vs)(C:VH P f)
 (c:Calls P f vs.toArray w (Ret w [] λτ v _=>Kr τ T' k' v m cs)) (hd:Nat.blt d n=true) (k:∀v a' w',Keep [] w w'->Sx w0 X φ (.own v T' k' m cs::L) ((d,v)::K) n a' w'->wpList P ops Q rest a' w'):
 Wl P ops Q (some d) (.call {callee:=.value (.func f),args:=xs.toArray,argTypes:=ats}) ty pos after rest a w:=
 l_cl S hev C (c) hd λv a' w' hv hk hn S'=>k v a' w' hk (S'.take hn S.keep.size hv)
theorem ext02{x:Operand}{u v:Value}(hx:a.eval x= .tuple #[u,v]):Rn P a w (.extract x 0) ty u:=Qj hx rfl
theorem ext12{x:Operand}{u v:Value}(hx:a.eval x= .tuple #[u,v]):Rn P a w (.extract x 1) ty v:=Qj hx rfl
theorem ext03{x:Operand}{u v z:Value}(hx:a.eval x= .tuple #[u,v,z]):Rn P a w (.extract x 0) ty u:=Qj hx rfl
theorem ext13{x:Operand}{u v z:Value}(hx:a.eval x= .tuple #[u,v,z]):Rn P a w (.extract x 1) ty v:=Qj hx rfl
theorem ext23{x:Operand}{u v z:Value}(hx:a.eval x= .tuple #[u,v,z]):Rn P a w (.extract x 2) ty z:=Qj hx rfl
theorem ne0_f{b:Int}(h:decide (b=0)=false):b≠0:=by simpa using h
theorem ifnI{t u:TypeId}{x:Operand}{ms:Array (String×TypeId)}(U:UnI P t (.interface ms))(hx:a.eval x= .nilIface):Rn P a w (.binOp .eql t x (.const .nilIface) u) ty (.bool true):=Ahw U.out hx
theorem ifnN{t u:TypeId}{x:Operand}{ms:Array (String×TypeId)}(U:UnI P t (.interface ms))(hx:a.eval x= .nilIface):Rn P a w (.binOp .neq t x (.const .nilIface) u) ty (.bool false):=Ahx U.out hx
theorem fldR0{s i o b:Nat}{x:Operand}(F:FldI P s i o)(hx:a.eval x= .pointer (some ⟨b,0,none⟩)):Rn P a w (.fieldAddr s x i) ty (.pointer (some ⟨b,o,none⟩)):=by
 have h:=ME (P:=P) (a:=a) (w:=w) (ty:=ty) (x:=x) (off:=0) F.out hx;rw[Nat.zero_add] at h;exact h
theorem ldMAp{ψ:View}{α β:Type}{enc:α->List Value}{enc':β->List Value}{f:α->β}{y:α}{vs:List Value}{b off o k:Nat}{T:TypeId}{x:Operand}(A:AgT P T)(Z:SzI P T k)(hx:a.eval x= .pointer (some ⟨b,off+o,none⟩))(hm:Mem ψ b off (enc y++vs))(he:Emb ψ w)(D:SubI enc o k enc' f)(hk:Nat.ble (o+k) (enc y).length=true):Rn P a w (.load T x) ty (.agg (enc' (f y)).toArray):=
 Wv A.out Z.out (by
  have h:=D.out y
  have hl:o+k<=(enc y).length:=by simpa using hk
  rw[List.drop_append_of_le_length aA,List.take_append_of_le_length (by rw[List.length_drop];omega)]
  exact h) (D.len _) hx (hm.at he)
theorem ldMA0{ψ:View}{α β:Type}{enc:α->List Value}{enc':β->List Value}{f:α->β}{y:α}{vs:List Value}{b o k:Nat}{T:TypeId}{x:Operand}(A:AgT P T)(Z:SzI P T k)(hx:a.eval x= .pointer (some ⟨b,o,none⟩))(hm:Mem ψ b 0 (enc y++vs))(he:Emb ψ w)(D:SubI enc o k enc' f)(hk:Nat.ble (o+k) (enc y).length=true):Rn P a w (.load T x) ty (.agg (enc' (f y)).toArray):=ldMAp (off:=0) A Z (by rw[Nat.zero_add];exact hx) hm he D hk
theorem ldM00{ψ:View}{T:TypeId}{x:Operand}{b o:Nat}{cs:List Value}{v:Value}(A:AgF P T)(hx:a.eval x= .pointer (some ⟨b,o,none⟩))(hm:Mem ψ b 0 cs)(he:Emb ψ w)(hv:cs[o]? =some v):Rn P a w (.load T x) ty v:=ldM (off:=0) A (by rw[Nat.zero_add];exact hx) hm he hv
section
variable {ψ:View}{α:Type}{enc:α->List Value}{T TE el k by_ t u:Nat}{v:Value}{xs ys dn:List α}{e:α}{z:Int}{kk:IntKind}{x y:Operand}{i j:Nat}
theorem l_idxOG(S:Sx w0 X φ L K n a w)(A:SlI P T el k by_)(hx:look K t=some v)(hy:look K u=some (.int kk (j:Int)))(hi:L[i]? =some (.own v TE k xs.length (xs.flatMap enc)))(E:EncI k enc)(hj:xs=dn++e::ys)(hl:dn.length=j)(hd:Nat.blt d n=true)
 (kont:∀a' g,v.ownBlock=some g->Sx w0 X φ L ((d,.pointer (some ⟨g,j*k,none⟩))::K) n a' w->wpList P ops Q rest a' w):
 Wl P ops Q (some d) (.indexAddr T (.tmp t) (.tmp u)) ty pos after rest a w:=by
 obtain⟨g,hg,hr⟩:=Mt (a:=a) (x:=.tmp t) (y:=.tmp u) (ty:=ty) A.out E.out S hi (CK hj hl) rfl (S.tm hx) (S.tm hy);exact lv S (hr w) hd λa' S'=>kont a' g hg S'
theorem ldOGA{g:Nat}{dec:List Value->Option α}(S:Sx w0 X φ L K n a w)(D:DecI P T k enc dec)(hx:a.eval x= .pointer (some ⟨g,j*k,none⟩))(hg:v.ownBlock=some g)(hi:L[i]? =some (.own v TE k xs.length (xs.flatMap enc)))(E:EncI k enc)
 (hj:xs=dn++e::ys) (hl:dn.length=j):Rn P a w (.load T x) ty (.agg (enc e).toArray):=
 ldME D hx (ER (Y:=[]) E.out S hi hg (CK hj hl) IB) (emb_view w [])
theorem ldOG{g o:Nat}{u:Value}(S:Sx w0 X φ L K n a w)(A:AgF P T)(hx:a.eval x= .pointer (some ⟨g,j*k+o,none⟩))(hg:v.ownBlock=some g)(hi:L[i]? =some (.own v TE k xs.length (xs.flatMap enc)))(E:EncI k enc)
 (hj:xs=dn++e::ys) (hl:dn.length=j) (hv:(enc e)[o]? =some u):Rn P a w (.load T x) ty u:=
 ldM A hx (ER (Y:=[]) E.out S hi hg (CK hj hl) IB) (emb_view w []) hv
theorem ldOG0{g:Nat}{u:Value}(S:Sx w0 X φ L K n a w)(A:AgF P T)(hx:a.eval x= .pointer (some ⟨g,j*k,none⟩))(hg:v.ownBlock=some g)(hi:L[i]? =some (.own v TE k xs.length (xs.flatMap enc)))(E:EncI k enc)
 (hj:xs=dn++e::ys) (hl:dn.length=j) (hv:(enc e)[0]? =some u):Rn P a w (.load T x) ty u:=
 ldM0 A hx (ER (Y:=[]) E.out S hi hg (CK hj hl) IB) (emb_view w []) hv
theorem l_stoZ{kk' g:Nat}{T':TypeId}{e':α}{vs:List Value}{dec:List Value->Option α}(S:Sx w0 X φ L K n a w)(Z:SzI P T' kk')(hx:a.eval x= .pointer (some ⟨g,z.toNat*k,none⟩))(hg:v.ownBlock=some g)(hi:L[i]? =some (.own v TE k xs.length (xs.flatMap enc)))(I:Inhabited α)(hz:inB z xs.length=true)(E:EncI k enc)(D:DcI enc dec)
 (hy:a.eval y= .agg vs.toArray) (hl:vs.length=kk') (hc:Nat.ble (0+kk') k=true) (h1:vs.all (·.oneCell')=true) (hn:dec (lay (enc (nth xs z)) 0 vs)=some e')
 (kont:∀w',Keep v.ownBlock.toList w w'->Sx w0 X φ (L.set i (.own v TE k (xs.set z.toNat e').length ((xs.set z.toNat e').flatMap enc))) K n a w'->wpList P ops Q rest a w'):
 Wl P ops Q none (.store T' x y) ty pos after rest a w:=l_stoO (j:=0) S Z (by rw[Nat.add_zero];exact hx) hg hi I hz E D hy hl hc h1 hn kont
theorem l_stoZ1{g:Nat}{T':TypeId}{e':α}{u':Value}{dec:List Value->Option α}(S:Sx w0 X φ L K n a w)(Z:SzI P T' 1)(hx:a.eval x= .pointer (some ⟨g,z.toNat*k,none⟩))(hg:v.ownBlock=some g)(hi:L[i]? =some (.own v TE k xs.length (xs.flatMap enc)))(I:Inhabited α)(hz:inB z xs.length=true)(E:EncI k enc)(D:DcI enc dec)
 (hy:a.eval y=u') (hv:u'.cells.toList=[u']) (hc:Nat.ble (0+1) k=true) (h1:u'.oneCell'=true) (hn:dec (lay (enc (nth xs z)) 0 [u'])=some e')
 (kont:∀w',Keep v.ownBlock.toList w w'->Sx w0 X φ (L.set i (.own v TE k (xs.set z.toNat e').length ((xs.set z.toNat e').flatMap enc))) K n a w'->wpList P ops Q rest a w'):
 Wl P ops Q none (.store T' x y) ty pos after rest a w:=Anl (j:=0) S Z (by rw[Nat.add_zero];exact hx) hg hi I hz E D hy hv hc h1 hn kont
end
variable {l:List Oper}{N:Act->World->Prop}{x0:Oper}{rem:List Oper}{dn B Y:List Nat}
theorem e_loud1{i:Nat}{o:Oper}(_:only1 (TS dn places l)=some (i,o))(_:VJ o.op=false)(hr:Region.ready .any l.toArray (Yx l.length dn)=[i])(ho:l.toArray[i]? =some o)
 (k:wpList P l.toArray (QN λa' w'=>Keep [] w w'/\wpE P l N rem (i::dn) a' w') [o] a w):wpE P l N (x0::rem) dn a w:=by
 refine Yy i hr ho (CM (λa' w' ⟨h1,h2⟩=>⟨[],h1,λ_ h=>.inr h,h2⟩) k)
theorem e_loud2{i i':Nat}{o o':Oper}(_:only2 (TS dn places l)=some ((i,o),(i',o')))(_:VJ o.op=false)(_:VJ o'.op=false)(hr:Region.ready .any l.toArray (Yx l.length dn)=[i,i'])(ho:l.toArray[i]? =some o)(ho':l.toArray[i']? =some o')
 (k:wpList P l.toArray (QN λa' w'=>Keep [] w w'/\wpE P l N rem (i::dn) a' w') [o] a w) (k':wpList P l.toArray (QN λa' w'=>Keep [] w w'/\wpE P l N rem (i'::dn) a' w') [o'] a w):wpE P l N (x0::rem) dn a w:=
 Amv i i' hr ho ho' (CM (λ_ _ ⟨h1,h2⟩=>⟨[],h1,λ_ h=>.inr h,h2⟩) k) (CM (λ_ _ ⟨h1,h2⟩=>⟨[],h1,λ_ h=>.inr h,h2⟩) k')
end
section
variable {P:Program}{ops:Array Oper}{Q:Exit->Act->World->Prop}{rest:List Oper}
variable {w0:World}{X:List Nat}{φ:View}{L L':List LEnt}{K K':List (Nat×Value)}{n:Nat}{a:Act}{w:World}
variable {d:Nat}{ty:TypeId}{pos:String}{after:Array Edge}
theorem bldD{T k:Nat}{z:Value}{α:Type}{enc:α->List Value}{dec:List Value->Option α}{y:α}{ps:List (Nat×Operand)}{pv:List (Nat×Value)}{places:List (Nat×Nat)}{cs:List Value}(D:DecI P T k enc dec)(B:BldI P T z places)(hev:EvP a ps pv)(_:Ahy places (Aag z) pv=some cs)(hy:dec cs=some y)
 (hf:Instr.fill (places.toArray[·]?) z.cells pv=some cs.toArray):Rn P a w (.build T ps.toArray) ty (.agg (enc y).toArray):=by
 have h:=IA (ty:=ty) (w:=w) B.out hev hf;rw[←D.out _ _ hy] at h;exact h
section
variable {ψ:View}{α β:Type}{enc:β->List Value}{R:α->β->Prop}{T el k by_ t u j:Nat}{v:Value}{xs dn ys:List α}{rs:List β}{e:α}{z:Int}{kk:IntKind}{y:Operand}
theorem l_idxDG(S:Sx w0 X φ L K n a w)(A:SlI P T el k by_)(hx:look K t=some v)(hy:look K u=some (.int kk (j:Int)))(hs:Slc ψ k v (rs.map enc))(hr:Mu R xs rs)(hj:xs=dn++e::ys)(hi:dn.length=j)(hd:Nat.blt d n=true)
 (kont:∀a' b off r,R e r->Mem ψ b off (enc r)->Sx w0 X φ L ((d,.pointer (some ⟨b,off,none⟩))::K) n a' w->wpList P ops Q rest a' w):
 Wl P ops Q (some d) (.indexAddr T (.tmp t) (.tmp u)) ty pos after rest a w:=by
 obtain⟨r,h1,h2⟩:=hr.at (CK hj hi);exact Aaa S A.out hs h1 rfl hx hy hd λa' b off hm S'=>kont a' b off r h2 hm S'
end
end
section
variable {P:Program}{ops:Array Oper}{Q:Exit->Act->World->Prop}{rest:List Oper}
variable {w0:World}{X:List Nat}{φ:View}{L L':List LEnt}{K K':List (Nat×Value)}{n:Nat}{a:Act}{w:World}
variable {d:Nat}{ty:TypeId}{pos:String}{after:Array Edge}
theorem evl0:EvL a [] []:=trivial
theorem encAll{α:Type}{enc:α->List Value}{k:Nat}{x:α}(E:Enc k enc):(enc x).all (·.oneCell')=true:=List.all_eq_true.2 λu hu=>E.one x u hu
theorem litSB{α:Type}{enc:α->List Value}{k i j b b' T T' q:Nat}{cells cs':List Value}{xs:List α}{dec:List Value->Option α}(S:Sx w0 X φ L K n a w)(E:EncI k enc)(D:DcI enc dec)(hi:L[i]? =some (.blk b cells T))(hx:decN k dec q cells=some xs)(hb:Nat.ble q 4096=true)(hj:L[j]? =some (.blk b' cs' T'))(hij:(i==j)=false):Slc (view w [b']) k (.slice (some ⟨b,0,none⟩) q q) (xs.map enc):=
 litS S E D hi hx hb λhm=>by
  rw[bA] at hm
  subst hm
  exact IW S hi rfl hj hij rfl
def decU8:List Value->Option (List Int)
 |[]=>some []
 | .int .u8 x::l=>match decU8 l with
  |some r=>some (x::r)
  |none=>none
 |_=>none
theorem Ahz:∀{cs:List Value} {xs:List Int},decU8 cs=some xs->xs.map (Value.int .u8)=cs
 |[],xs,h=>by cases h;rfl
 |c::l,xs,h=>by
  unfold decU8 at h
  split at h
  ·rename_i he;cases he
  ·rename_i x l' he
   cases he
   split at h
   ·rename_i r hr;cases h;rw[aY,Ahz hr]
   ·cases h
  ·cases h
theorem bytI{t e dd:TypeId}{i b T q:Nat}{x:Operand}{cs:List Value}{xs:List Int}(S:Sx w0 X φ L K n a w)(Us:UnI P t (.slice e))(Ue:UnI P e (.int .u8))(Ud:UnI P dd .string)(hx:a.eval x= .slice (some ⟨b,0,none⟩) q q)(hi:L[i]? =some (.blk b cs T))(hc:decU8 cs=some xs)(hq:xs.length=q):Rn P a w (.convert t dd x) dd (.string (strOfNums xs)):=
 Alh xs Us.out Ue.out Ud.out S hi (Ahz hc) hq hx
theorem l_bsU{T el len sz:Nat}{z:Value}{ps:List (Nat×Operand)}{pv:List (Nat×Value)}{cs:List Value}(S:Sx w0 X φ L K n a w)(A:UnI P T (.slice el))(Z:SzI P el sz)(V:ZvI P el z)
 (hlim:Nat.ble (len*sz) 16777216=true) (h0:(len*sz==0)=false) (hev:EvP a ps pv) (_:Ahy (plcL sz 0 len) (repL (Aag z) len) pv=some cs)
 (hf:Instr.fill (λi=>some (i*sz,sz)) ((Array.range (len*sz)).map (z.cells[· % z.cells.size]!)) pv=some cs.toArray) (hd:Nat.blt d n=true)
 (kont:∀a' w' b,Keep [] w w'->Sx w0 X φ (.blk b cs el::L) ((d,.slice (some ⟨b,0,none⟩) len len)::K) n a' w'->wpList P ops Q rest a' w'):
 Wl P ops Q (some d) (.buildSlice T len ps.toArray) ty pos after rest a w:=
 Ni S A.out Z.out V.out hlim h0 hev hf hd λa' w' b _ hk S=>kont a' w' b hk S
end
section
variable {P:Program}{ops:Array Oper}{Q:Exit->Act->World->Prop}{rest:List Oper}
variable {w0:World}{X:List Nat}{φ:View}{L L':List LEnt}{K K':List (Nat×Value)}{n:Nat}{a:Act}{w:World}
variable {d:Nat}{ty:TypeId}{pos:String}{after:Array Edge}
theorem blkVO{i j b T T' k m:Nat}{cs cs':List Value}{v:Value}(S:Sx w0 X φ L K n a w)(hi:L[i]? =some (.blk b cs T))(hj:L[j]? =some (.own v T' k m cs'))(hij:(i==j)=false):(view w v.ownBlock.toList) b=some (.cells cs.toArray T (0,0)):=
 S.blk_view hi λhm=>IW S hi rfl hj hij (by simpa[LEnt.fp] using hm)
theorem Aia{α:Type}{enc:α->List Value}{i j T T' k k' m:Nat}{cs':List Value}{v u:Value}{xs:List α}(S:Sx w0 X φ L K n a w)(E:EncI k enc)(hi:L[i]? =some (.own u T k xs.length (xs.flatMap enc)))(hj:L[j]? =some (.own v T' k' m cs'))(hij:(j==i)=false):Slc (view w v.ownBlock.toList) k u (xs.map enc):=
 EP E.out S hi λc hc=>by
  have:=MP S hj hi hij c (by simpa[LEnt.fp] using hc)
  simpa[LEnt.fp] using this
theorem roomN{m q by_:Nat}(hb:Nat.ble by_ 65536=true)(hq:Nat.ble q 4096=true)(h:Ja m=true):(m+q)*by_<=140737488355328:=by
 have h1:=CL h;have h2:by_<=65536:=by simpa using hb
 have h3:q<=4096:=by simpa using hq
 calc (m+q)*by_<=1073745920*65536:=Nat.mul_le_mul aA h2
  _<=_:=by decide
theorem l_appN{α:Type}{enc:α->List Value}{T el k by_ t u i j b q TB:Nat}{v:Value}{xs ys:List α}{dec:List Value->Option α}{news:List Value}(S:Sx w0 X φ L K n a w)(A:SlI P T el k by_)(hx:look K t=some v)(hu:look K u=some (.slice (some ⟨b,0,none⟩) q q))(hi:L[i]? =some (.own v el k xs.length (xs.flatMap enc)))(hj:L[j]? =some (.blk b news TB))(E:EncI k enc)(D:DcI enc dec)(hn:decN k dec q news=some ys)
 (hk0:Nat.blt 0 k=true) (hb0:Nat.blt 0 by_=true) (hb:Nat.ble by_ 65536=true) (hq:Nat.ble q 4096=true) (hr:Ja xs.length=true) (hd:Nat.blt d n=true)
 (kont:∀v' a' w',Keep v.ownBlock.toList w w'->Sx w0 X φ (L.set i (.own v' el k (xs++ys).length ((xs++ys).flatMap enc))) ((d,v')::K) n a' w'->wpList P ops Q rest a' w'):
 Wl P ops Q (some d) (.call {callee:=.builtin .append,args:=#[.tmp t,.tmp u],argTypes:=#[T,T]}) ty pos after rest a w:=
 CN (ys:=ys) A.out E.out S (S.tm hx) hi (S.tm hu) hj (OQ D hn).2 (OQ D hn).1 hk0 hb0 (roomN hb hq hr) hd kont
theorem s_idxDI{N:Act->World->Prop}{ψ:View}{α β:Type}{enc:β->List Value}{R:α->β->Prop}{T el k by_ t:Nat}{v:Value}{xs:List α}{rs:List β}{z:Int}{kk:IntKind}{y:Operand}(S:Sx w0 X φ L K n a w)(A:SlI P T el k by_)(hx:look K t=some v)(hy:a.eval y= .int kk z)(hs:Slc ψ k v (rs.map enc))(hr:Mu R xs rs)(I:Inhabited α)(hc:inB z xs.length=true)(hd:Nat.blt d n=true)
 (kont:∀a' b off r,R (nth xs z) r->Mem ψ b off (enc r)->Sx w0 X φ L ((d,.pointer (some ⟨b,off,none⟩))::K) n a' w->CO P ops N rest a' w):
 CO P ops N ({dst:=some d,op:=.indexAddr T (.tmp t) y,type:=ty,pos,after,guard:=none}::rest) a w:=by
 obtain⟨r,h1,h2⟩:=all2_get hr hc;obtain⟨b,off,hm,hR⟩:=Rx (a:=a) (x:=.tmp t) (y:=y) (ty:=ty) A.out hs h1 (Gd hc).2 (S.tm hx) hy;exact Acu S (hR w) hd λa' S'=>kont a' b off r h2 hm S'
end
section
variable {P:Program}{ops:Array Oper}{Q:Exit->Act->World->Prop}{rest:List Oper}
variable {w0:World}{X:List Nat}{φ:View}{L L':List LEnt}{K K':List (Nat×Value)}{n:Nat}{a:Act}{w:World}
variable {d:Nat}{ty:TypeId}{pos:String}{after:Array Edge}
class EncT(α:Type)(enc:outParam (α->List Value)):Prop where
instance:EncT Int eInt:=⟨⟩
instance:EncT ByteArray Io:=⟨⟩
end
section
variable {P:Program}{ops:Array Oper}{Q:Exit->Act->World->Prop}{rest:List Oper}
variable {w0:World}{X:List Nat}{φ:View}{L L':List LEnt}{K K':List (Nat×Value)}{n:Nat}{a:Act}{w:World}
variable {d:Nat}{ty:TypeId}{pos:String}{after:Array Edge}
theorem l_clK{f:FuncId}{xs:List Operand}{vs:List Value}{ats:Array TypeId}{e:LEnt}{u:Value}{T' k' m:Nat}{cs:List Value}{X':List Nat}(S:Sx w0 X φ L K n a w){i:Nat}(hev:EvL a xs vs)(C:VH P f)
 (c:Calls P f vs.toArray w (Ret w X' λ_ v w'=>(LEnt.own v T' k' m cs).holds w'/\v.ownBlock=u.ownBlock)) (hi:L[i]? =some e) (hX:e.fp.toList=X') (he:e.fp=u.ownBlock) (hd:Nat.blt d n=true)
 (k:∀v a' w',v.ownBlock=u.ownBlock->Keep X' w w'->Sx w0 X φ (L.set i (.own v T' k' m cs)) ((d,v)::K) n a' w'->wpList P ops Q rest a' w'):
 Wl P ops Q (some d) (.call {callee:=.value (.func f),args:=xs.toArray,argTypes:=ats}) ty pos after rest a w:=by
 subst hX;exact ET i S hi (λv=>.own v T' k' m cs) (λ_=>Oq hev C) (c) hd (λ_ _ _ h=>⟨h.1,λc hc=>by rw[he,←h.2];exact hc⟩) λv a' w' hv hk _ S=>k v a' w' hv.2 hk S
theorem l_clG{f:FuncId}{xs:List Operand}{vs:List Value}{ats:Array TypeId}{e:LEnt}{T' k' m:Nat}{cs:List Value}{X':List Nat}(S:Sx w0 X φ L K n a w){i:Nat}(hev:EvL a xs vs)(C:VH P f)
 (c:Calls P f vs.toArray w (Ret w X' λτ v _=>Kr τ T' k' v m cs)) (hi:L[i]? =some e) (hX:e.fp.toList=X') (hd:Nat.blt d n=true)
 (k:∀v a' w' φ',View.le φ φ'->Kr φ' T' k' v m cs->Keep X' w w'->Sx w0 X φ' (L.set i (.own (.slice none 0 0) 0 0 0 [])) ((d,v)::K) n a' w'->wpList P ops Q rest a' w'):
 Wl P ops Q (some d) (.call {callee:=.value (.func f),args:=xs.toArray,argTypes:=ats}) ty pos after rest a w:=by
 subst hX;have hz:=S.keep.size;have hN:New w φ (L.set i (.own (.slice none 0 0) 0 0 0 [])):=λb hb=>⟨(S.new b hb).1,λhm=>by
  obtain⟨y,hy,hc⟩:=EN hm;rcases List.mem_or_eq_of_mem_set hy with h|rfl
  ·exact(S.new b hb).2 (List.mem_filterMap.2 ⟨y,h,hc⟩)
  ·cases hc⟩
 refine ET i S hi (λ_=>.own (.slice none 0 0) 0 0 0 []) (λ_=>Oq hev C) (c) hd (λ_ _ w' _=>⟨World.ownsRow_nil w' 0 0 0,λc hc=>by cases hc⟩) λv a' w' hv hk _ S=>?_;obtain⟨φ',h1,h2,S'⟩:=S.see' hN hz;exact k v a' w' φ' h1 (hv.mono h2) hk S'
end
section
variable {α:Type}{enc:α->List Value}{i j T k T' k' m:Nat}{v u u':Value}{xs:List α}{cs:List Value}{w0:World}{φ:View}{L:List LEnt}{K:List (Nat×Value)}{n:Nat}{a:Act}{w:World}
theorem VL(S:Sx w0 u.ownBlock.toList φ L K n a w)(hi:L[i]? =some (.own v T k xs.length (xs.flatMap enc)))(hj:L[j]? =some (.own u' T' k' m cs))(hij:(j==i)=false)(hu:u'.ownBlock=u.ownBlock):Kr (newer w0 w) T k v xs.length (xs.flatMap enc):=
 UO S hi λc hc hh=>MP S hj hi hij c hh (by rw[←hu] at hc;exact hc)
theorem Aai(S:Sx w0 u.ownBlock.toList φ L K n a w)(hi:L[i]? =some (.own v T k xs.length (xs.flatMap enc)))(hj:L[j]? =some (.own u T' k' m cs))(hij:(j==i)=false):Kr (newer w0 w) T k v xs.length (xs.flatMap enc):=VL S hi hj hij rfl
end
section
variable {P:Program}{ops:Array Oper}{Q:Exit->Act->World->Prop}{rest:List Oper}
variable {w0:World}{X:List Nat}{φ:View}{L L':List LEnt}{K K':List (Nat×Value)}{n:Nat}{a:Act}{w:World}
variable {d:Nat}{ty:TypeId}{pos:String}{after:Array Edge}
variable {α:Type}{enc:α->List Value}{T TE el k by_ t u' i:Nat}{v u:Value}{xs:List α}{z zl zh:Int}{kk:IntKind}{x y:Operand}
theorem l_idxSub(S:Sx w0 X φ L K n a w)(A:SlI P T el k by_)(hx:look K t=some u)(hu:SS k v zl.toNat zh.toNat u)(hi:L[i]? =some (.own v TE k xs.length (xs.flatMap enc)))(E:EncI k enc)(hy:a.eval y= .int kk z)(hc:inB z (zh.toNat-zl.toNat)=true)(hd:Nat.blt d n=true)
 (kont:∀a' g,v.ownBlock=some g->Sx w0 X φ L ((d,.pointer (some ⟨g,(zl.toNat+z.toNat)*k,none⟩))::K) n a' w->wpList P ops Q rest a' w):
 Wl P ops Q (some d) (.indexAddr T (.tmp t) y) ty pos after rest a w:=by
 obtain⟨g,hg,hr⟩:=LI (a:=a) (x:=.tmp t) (y:=y) (ty:=ty) A.out E.out S hi hu hc (S.tm hx) hy;exact lv S (hr w) hd λa' S'=>kont a' g hg S'
theorem ldSub0{g:Nat}{q:Value}(S:Sx w0 X φ L K n a w)(A:AgF P T)(hx:a.eval x= .pointer (some ⟨g,(zl.toNat+z.toNat)*k,none⟩))(hg:v.ownBlock=some g)(hu:SS k v zl.toNat zh.toNat u)(hi:L[i]? =some (.own v TE k xs.length (xs.flatMap enc)))(E:EncI k enc)(I:Inhabited α)(hc:inB z (zh.toNat-zl.toNat)=true)(hv:(enc (nth (cut xs zl zh) z))[0]? =some q):Rn P a w (.load T x) ty q:=
 ldM0 A hx (ER (Y:=[]) E.out S hi hg (YS (ZU S hi hu) hc).1 IB) (emb_view w []) hv
end
section
variable {P:Program}{ops:Array Oper}{Q:Exit->Act->World->Prop}{rest:List Oper}
variable {w0:World}{X:List Nat}{φ:View}{L L':List LEnt}{K K':List (Nat×Value)}{n:Nat}{a:Act}{w:World}
variable {d:Nat}{ty:TypeId}{pos:String}{after:Array Edge}
structure Opn:Prop where
structure Frz(d:Nat):Prop where
class LtI(el:TypeId){α:outParam Type}(k:outParam Nat)(enc:outParam (α->List Value))(dec:outParam (List Value->Option α)):Prop where
 E:EncI k enc
 D:DcI enc dec
theorem inXY(q:∃i:Nat,∃e:LEnt,L[i]? =some e/\e.fp.toList=X):∀c∈X,c∈fps L:=by
 obtain⟨i,e,h1,rfl⟩:=q;exact Aez h1
theorem l_bsF{T el k len sz:Nat}{α:Type}{enc:α->List Value}{dec:List Value->Option α}{xs:List α}{z:Value}{ps:List (Nat×Operand)}{pv:List (Nat×Value)}{cs:List Value}(S:Sx w0 X φ L K n a w)(_:Frz d)(A:P.underlying T=some (.slice el))(Z:SzI P el sz)(V:ZvI P el z)
 (hlim:Nat.ble (len*sz) 16777216=true) (h0:(len*sz==0)=false) (hev:EvP a ps pv) (_:Ahy (plcL sz 0 len) (repL (Aag z) len) pv=some cs)
 (hf:Instr.fill (λi=>some (i*sz,sz)) ((Array.range (len*sz)).map (z.cells[· % z.cells.size]!)) pv=some cs.toArray) (M:LtI el k enc dec) (hx:decN k dec len cs=some xs) (hq:Nat.ble len 4096=true) (hX:∀c∈X,c∈fps L) (hd:Nat.blt d n=true)
 (kont:∀a' w' b φ',Keep [] w w'->View.le φ φ'->Kr φ' el k (.slice (some ⟨b,0,none⟩) len len) xs.length (xs.flatMap enc)->Sx w0 X φ' L ((d,.slice (some ⟨b,0,none⟩) len len)::K) n a' w'->wpList P ops Q rest a' w'):
 Wl P ops Q (some d) (.buildSlice T len ps.toArray) ty pos after rest a w:=
 Ni S A Z.out V.out hlim h0 hev hf hd λa' w' b hb hk S'=>by
  have h1:=OQ M.D hx
  obtain⟨φ',hl,ho,S2⟩:=(S'.litOwn (i:=0) rfl M.E.out h1.1 h1.2 hq).freezeT (i:=0) rfl (λc hc h=>by
   have h2:b=c:=by simpa[Value.ownBlock] using h
   have h3:=(S.sep c (hX c hc)).2.2
   omega)
  exact kont a' w' b φ' hk hl ho S2
class RelM{α β:Type}(R:View->α->β->Prop):Prop where
 out:∀{φ ψ:View},View.le φ ψ->∀x r,R φ x r->R ψ x r
theorem All{α β:Type}{ψ:View}{T:Nat}{enc:β->List Value}{rel:View->α->β->Prop}{v:Value}{o:Option α}{x:α}{G:Prop}(e:o=some x)(h:JS ψ T enc rel v o)
 (k:∀b q,v= .pointer (some ⟨b,0,none⟩)->rel ψ x q->ψ b=some (.cells (enc q).toArray T (0,0))->G):G:=by
 subst e;obtain⟨b,q,h1,h2,h3⟩:=h;exact k b q h1 h2 h3
theorem l_clE{f:FuncId}{xs:List Operand}{vs:List Value}{ats:Array TypeId}{e e2:LEnt}{Ψ:View->Value->Prop}{X':List Nat}(S:Sx w0 X φ L K n a w){i:Nat}(hev:EvL a xs vs)(C:VH P f)
 (c:Calls P f vs.toArray w (Ret w X' λτ v w'=>e2.holds w'/\Ψ τ v)) (hi:L[i]? =some e) (hX:e.fp.toList=X') (he:e2.fp=e.fp) (hd:Nat.blt d n=true)
 (k:∀v a' w' φ',View.le φ φ'->View.le (newer w w') φ'->Ψ (newer w w') v->Keep X' w w'->Sx w0 X φ' (L.set i e2) ((d,v)::K) n a' w'->wpList P ops Q rest a' w'):
 Wl P ops Q (some d) (.call {callee:=.value (.func f),args:=xs.toArray,argTypes:=ats}) ty pos after rest a w:=by
 subst hX;have hz:=S.keep.size;have hN:New w φ (L.set i e2):=λb hb=>⟨(S.new b hb).1,λhm=>by
  obtain⟨y,hy,hc⟩:=EN hm;rcases List.mem_or_eq_of_mem_set hy with h|rfl
  ·exact(S.new b hb).2 (List.mem_filterMap.2 ⟨y,h,hc⟩)
  ·exact(S.new b hb).2 (List.mem_filterMap.2 ⟨e,List.mem_of_getElem? hi,he ▸ hc⟩)⟩
 refine ET i S hi (λ_=>e2) (λ_=>Oq hev C) (c) hd (λ_ _ _ h=>⟨h.1,λc hc=>he ▸ hc⟩) λv a' w' hv hk _ S=>?_;obtain⟨φ',h1,h2,S'⟩:=S.see' hN hz;exact k v a' w' φ' h1 h2 hv.2 hk S'
theorem VM{ψ:View}(hψ:View.le ψ (view w0 X)):View.le (newer w0 w) (join ψ (newer w0 w)):=by
 refine le_join_right λb o h=>?_;have h1:=hψ b o h;unfold view at h1;unfold newer;rw[aP];intro hz
 split at h1
 ·cases h1
 ·rw[Array.getElem?_eq_none hz] at h1;cases h1
theorem QX{i b T:Nat}{cs:List Value}(S:Sx w0 X φ L K n a w)(hi:L[i]? =some (.blk b cs T))(hX:X=[]):(newer w0 w) b=some (.cells cs.toArray T (0,0)):=by
 subst hX;obtain⟨φ',_,hb,S'⟩:=S.freezeB hi aB;exact S'.le_newer _ _ hb
theorem VN{α:Type}{enc:α->List Value}{i T k:Nat}{v:Value}{xs:List α}(S:Sx w0 X φ L K n a w)(hi:L[i]? =some (.own v T k xs.length (xs.flatMap enc)))(q:∃j:Nat,∃e:LEnt,L[j]? =some e/\e.fp.toList=X/\(i==j)=false):Kr (newer w0 w) T k v xs.length (xs.flatMap enc):=by
 obtain⟨j,e,h1,rfl,h2⟩:=q;refine UO S hi λc hc h=>?_;have h3:e.fp=some c:=by simpa using hc
 exact IW S hi h h1 h2 h3
theorem Sx.blank{Y:List Nat}{L1:List LEnt}{w':World}(S:Sx w0 X φ L K n a w)(k:Keep Y w w')(hs:List.Sublist L1 L)(hd:∀y∈Y,y∈fps L/\y∉fps L1):Sx w0 X φ L1 K n a w':=
 have S1:=S.drop hs
 ⟨S.keep.step k (λy hy=>(S.sep y (hd y hy).1).2.1),S.emb.keep k (λy hy=>(S.sep y (hd y hy).1).1),S.fresh,
  λe he=>(S1.holds e he).keep k (λb hb hy=>(hd b hy).2 (List.mem_filterMap.2 ⟨e,he,hb⟩)),
  S1.nodup,λb hb=>⟨(S1.sep b hb).1,(S1.sep b hb).2.1,Nat.lt_of_lt_of_le (S1.sep b hb).2.2 k.size⟩,S.nodefer,S.size,S.slots⟩
theorem fps_er{j:Nat}{e:LEnt}(S:Sx w0 X φ L K n a w)(hj:L[j]? =some e):∀y∈e.fp.toList,y∈fps L/\y∉fps (L.eraseIdx j):=λy hy=>by
 have hy':e.fp=some y:=by simpa using hy
 refine⟨Sx.fp_mem hj hy',λhm=>?_⟩
 obtain⟨x,hx,hb⟩:=EN hm
 obtain⟨i,hi,he⟩:=List.mem_eraseIdx_iff_getElem?.1 hx
 exact IW S hj hy' he (by simpa using λh=>hi h.symm) hb
variable {l:List Oper}{N:Act->World->Prop}{x0:Oper}{rem:List Oper}{dn B Y:List Nat}
theorem b_ld2{i:Nat}{L1:List LEnt}{op:Op}{v:Value}(S:Sx w0 X φ L K n a w)(hs:Region.noSelect l.toArray=true){pp:Nat×Oper}(_:Adf B dn places l=some pp)(_:pp=(i,{dst:=some d,op,type:=ty,pos,after,guard:=none}))(hi:l.toArray[i]? =some {dst:=some d,op,type:=ty,pos,after,guard:=none})
 (hp:SU l.toArray B i=true) (hb:noB B (Yx l.length dn)=true) (hr:(Region.ready .any l.toArray (Yx l.length dn)).contains i=true) (hf:Region.free .any l.toArray (Yx l.length dn) i=true) (hd:Nat.blt d n=true)
 (q:∃j j':Nat,∃e e':LEnt,L[j]? =some e/\(L.eraseIdx j)[j']? =some e'/\e.fp.toList++e'.fp.toList=Y/\evL ((L.eraseIdx j).eraseIdx j')=some L1)
 (hy:∀w',Sx w0 X φ L1 K n a w'->Rn P a w' op ty v) (k:∀a',Sx w0 X φ L ((d,v)::K) n a' w->wpB P l B Y N rem (i::dn) a' w):wpB P l B Y N (x0::rem) dn a w:=by
 obtain⟨j,j',e,e',h1,h2,rfl,h3⟩:=q;refine BI i S hs hi hp hb hr hf hd (λw' hw=>hy w' ?_) k;rw[Ali h3];have s1:List.Sublist (L.eraseIdx j) L:=List.eraseIdx_sublist _ _;refine S.blank hw ((List.eraseIdx_sublist _ _).trans s1) λy hy=>?_;rcases bC.1 hy with h|h
 ·have:=fps_er S h1 y h;exact⟨this.1,λhm=>this.2 (((List.eraseIdx_sublist _ _).filterMap _).subset hm)⟩
 ·have:=fps_er (S.drop s1) h2 y h;exact⟨(s1.filterMap _).subset this.1,this.2⟩
theorem l_app1R{α β:Type}{enc:β->List Value}{R:α->β->Prop}{T el k by_ t u i j b TB:Nat}{v:Value}{xs:List α}{rs:List β}{x:α}{news:List Value}(S:Sx w0 X φ L K n a w)(A:SlI P T el k by_)(hx:look K t=some v)(hu:look K u=some (.slice (some ⟨b,0,none⟩) 1 1))(hi:L[i]? =some (.own v el k rs.length (rs.flatMap enc)))(hr:Mu R xs rs)(hj:L[j]? =some (.blk b news TB))(hn:∃r,enc r=news/\R x r)(E:EncI k enc)
 (hk0:Nat.blt 0 k=true) (hb0:Nat.blt 0 by_=true) (hb:Nat.ble by_ 65536=true) (hc:Ja xs.length=true) (hd:Nat.blt d n=true)
 (kont:∀v' a' w' rs',Keep v.ownBlock.toList w w'->Mu R (xs++[x]) rs'->Sx w0 X φ (L.set i (.own v' el k rs'.length (rs'.flatMap enc))) ((d,v')::K) n a' w'->wpList P ops Q rest a' w'):
 Wl P ops Q (some d) (.call {callee:=.builtin .append,args:=#[.tmp t,.tmp u],argTypes:=#[T,T]}) ty pos after rest a w:=by
 obtain⟨r,h1,h2⟩:=hn;exact CN (ys:=[r]) A.out E.out S (S.tm hx) hi (S.tm hu) hj rfl (by simp[h1]) hk0 hb0 (room1 hb (by rw[←hr.len];exact hc)) hd λv' a' w' hk S'=>kont v' a' w' _ hk (Mu.app hr (Mu.cons h2 Mu.nil)) S'
theorem idA{α β:Type}{R:α->β->Prop}{xs:List α}{rs:List β}(h:Mu R xs rs):Mu R xs rs:=h
theorem l_bs1{T el m:Nat}{x:Operand}{v:Value}(S:Sx w0 X φ L K n a w)(A:P.underlying T=some (.slice el))(Z:SzI P el 1)(V:ZvI P el (.slice none 0 0))(hx:a.eval x=v)(hv:Jc v m)(hd:Nat.blt d n=true)
 (kont:∀a' w' b,Keep [] w w'->Sx w0 X φ (.blk b [v] el::L) ((d,.slice (some ⟨b,0,none⟩) 1 1)::K) n a' w'->wpList P ops Q rest a' w'):
 Wl P ops Q (some d) (.buildSlice T 1 #[(0,x)]) ty pos after rest a w:=
 Ni (ps:=[(0,x)]) (pv:=[(0,v)]) (cs:=[v]) S A Z.out V.out rfl rfl ⟨rfl,hx,trivial⟩ (by
  obtain⟨ao,c,rfl⟩:=hv
  kernel_rfl) hd λa' w' b _ hk S'=>kont a' w' b hk S'
theorem slcD_ret{α β:Type}{ψ:View}{k:Nat}{enc:β->List Value}{R:View->α->β->Prop}{v:Value}{xs:List α}{rs:List β}(h:Slc ψ k v (rs.map enc))(g:Mu (R ψ) xs rs):SlcD ψ k enc R v xs:=⟨rs,h,g⟩
theorem Aaj{α:Type}{enc:α->List Value}{dec:List Value->Option α}{i b T k q:Nat}{cells:List Value}{xs:List α}(S:Sx w0 X φ L K n a w)(hi:L[i]? =some (.blk b cells T))(E:EncI k enc)(D:DcI enc dec)(hx:decN k dec q cells=some xs)(hb:Nat.ble q 4096=true)(p:∃j:Nat,∃e:LEnt,L[j]? =some e/\e.fp.toList=X/\(i==j)=false):Kr (newer w0 w) T k (.slice (some ⟨b,0,none⟩) q q) xs.length (xs.flatMap enc):=by
 obtain⟨j,e,h1,h2,h3⟩:=p;have h4:=OQ D hx;have hlt:i<L.length:=(List.getElem?_eq_some_iff.1 hi).1;refine VN (S.litOwn hi E.out h4.1 h4.2 hb) (i:=i) (by rw[List.getElem?_set_self hlt]) ⟨j,e,?_,h2,h3⟩;rw[List.getElem?_set_ne (by simpa using h3)];exact h1
class RelT(T:TypeId){α β:outParam Type}(k:outParam Nat)(R:outParam (View->α->β->Prop))(enc:outParam (β->List Value)):Prop where
 E:EncI k enc
theorem ldBQ{α β:Type}{R:View->α->β->Prop}{enc:β->List Value}{ψ:View}{x:α}{q:β}{i b off k:Nat}{T T':TypeId}{o:Operand}{cells:List Value}(S:Sx w0 X φ L K n a w)(M:RelT T k R enc)(A:AgT P T)(Z:SzI P T k)(hx:a.eval o= .pointer (some ⟨b,off,none⟩))(hi:L[i]? =some (.blk b cells T'))(_:R ψ x q)(hp:(cells.drop off).take k=enc q):Rn P a w (.load T o) ty (.agg (enc q).toArray):=
 Wv A.out Z.out (off:=0) (o:=off) hp (M.E.out.len q) (by rw[Nat.zero_add];exact hx) (S.cellsAt hi)
theorem evl5{x0 x1 x2 x3 x4:Operand}{v0 v1 v2 v3 v4:Value}(h0:a.eval x0=v0)(h1:a.eval x1=v1)(h2:a.eval x2=v2)(h3:a.eval x3=v3)(h4:a.eval x4=v4):EvL a [x0,x1,x2,x3,x4] [v0,v1,v2,v3,v4]:=⟨h0,h1,h2,h3,h4,trivial⟩
end
section
variable {P:Program}{ops:Array Oper}{Q:Exit->Act->World->Prop}{rest:List Oper}
variable {W:World}{X:List Nat}{φ:View}{L L' L2:List LEnt}{K K':List (Nat×Value)}{n:Nat}{a:Act}{w:World}
variable {d:Nat}{ty:TypeId}{pos:String}{after:Array Edge}
def Wx(W:World)(L:List LEnt)(w:World):Prop:=Keep [] W w/\(∀e∈L,e.holds w)/\(fps L).Nodup/\∀b∈fps L,W.heap.size<=b/\b<w.heap.size
theorem Sx.wx(S:Sx W [] φ L K n a w):Wx W L w:=⟨S.keep,S.holds,S.nodup,λb hb=>⟨(S.sep b hb).2.1.resolve_right (λh=>by cases h),(S.sep b hb).2.2⟩⟩
theorem Wx.sx{w1:World}{b:View}{L1:List LEnt}(h:Wx W L w)(S:Sx w1 X b L1 K n a w):Sx W [] nov L K n a w:=
 ⟨h.1,(λ_ _ e=>by cases e),(λ_ _ e=>by cases e),h.2.1,h.2.2.1,λb hb=>⟨rfl,.inl (h.2.2.2 b hb).1,(h.2.2.2 b hb).2⟩,S.nodefer,S.size,S.slots⟩
theorem Aak{f:FuncId}{fn:Func}{c:Code}{vs:List Value}{R:Ending->World->Prop}{nt:Nat}(hx:Wx W L w)(hf:P.funcs[f]? =some fn)(hb:fn.body=some c)(hnt:fn.ntmps=nt)(hn:Nat.ble vs.length nt=true)
 (k:∀a,Sx W [] nov L (ZO 0 vs) nt a w->Wq P c (bodyPost P fn R) a w):Calls P f vs.toArray w R:=by
 refine calls_of_wp hf hb (k _ ?_).1;rw[hnt];exact hx.sx (Sx.init (w:=w) [] [] aB (by simp[fps]) (by simp[fps]) hn)
abbrev RetW{α:Type}(W:World)(g:α->Value)(L:α->List LEnt):Ending->World->Prop:=λe w'=>∃x,e= .returned (g x)/\Wx W (L x) w'
theorem f_retW{α:Type}{ℒ:α->List LEnt}{g:α->Value}(x:α){fn:Func}{t:Nat}(S:Sx W [] φ (ℒ x) K n a w)(hr:fn.results= #[.tmp t])(hv:look K t=some (g x)):bodyPost P fn (RetW W g ℒ) .ret a w:=by
 have hs:=S.slots t _ hv;refine⟨S.nodefer,g x,?_,x,rfl,S.wx⟩;rw[results_tmp hr];simp[hs]
theorem Ann{α:Type}{ℒ:α->List LEnt}{g:α->Value}(x:α){fn:Func}{t u:Nat}{v v':Value}(S:Sx W [] φ (ℒ x) K n a w)(hr:fn.results= #[.tmp t,.tmp u])(hv:look K t=some v)(hv':look K u=some v')(hg: .tuple #[v,v']=g x):bodyPost P fn (RetW W g ℒ) .ret a w:=by
 obtain⟨h1,_,h2,h3⟩:=MC (P:=P) (Φ:=λ_ x _=>x= .tuple #[v,v']) S hr hv hv' rfl;obtain⟨y,h4,_,h5⟩:=h3
 cases h4;subst h5
 exact⟨h1,_,h2,x,congrArg _ hg,S.wx⟩
theorem l_clW{α:Type}{ℒ:α->List LEnt}{g:α->Value}{op:Op}{f:FuncId}{vs:Array Value}(S:Sx W [] φ L K n a w)(hr:∀dst,(execOp a.eval {dst,op,type:=ty,pos,after,guard:=none}).run P w= .ok (.enter f vs) w)
 (c:Calls P f vs w (RetW W g ℒ)) (hd:Nat.blt d n=true) (k:∀x a' w',Sx W [] nov (ℒ x) ((d,g x)::K) n a' w'->wpList P ops Q rest a' w'):
 wpList P ops Q ({dst:=some d,op,type:=ty,pos,after,guard:=none}::rest) a w:=by
 refine wpList_plain rfl λK' hK=>?_;unfold Oper.wp;rw[hr,Oper.upon_enter];refine c.mono ?_;rintro e w' ⟨x,rfl,hx⟩;exact hK _ _ (k x _ w' (Sx.put ⟨hx.1,(λ_ _ e=>by cases e),(λ_ _ e=>by cases e),hx.2.1,hx.2.2.1,λb hb=>⟨rfl,.inl (hx.2.2.2 b hb).1,(hx.2.2.2 b hb).2⟩,S.nodefer,S.size,S.slots⟩ (by simpa using hd)))
theorem l_clTk{f:FuncId}{xs:List Operand}{vs:List Value}{ats:Array TypeId}{e e2:LEnt}{g:Value->Value}{T' k' m:Nat}{cs:List Value}{X':List Nat}{w0:World}(S:Sx w0 X φ L K n a w)(_:Take f){i:Nat}(hev:EvL a xs vs)(C:VH P f)
 (c:Calls P f vs.toArray w (Ret w X' λτ v w'=>e2.holds w'/\(∃u,v=g u/\Kr τ T' k' u m cs))) (q:L[i]? =some e/\e.fp.toList=X'/\e2.fp=e.fp) (hd:Nat.blt d n=true)
 (k:∀u a' w',Keep X' w w'->Sx w0 X φ (.own u T' k' m cs::L.set i e2) ((d,g u)::K) n a' w'->wpList P ops Q rest a' w'):
 Wl P ops Q (some d) (.call {callee:=.value (.func f),args:=xs.toArray,argTypes:=ats}) ty pos after rest a w:=by
 obtain⟨hi,rfl,he⟩:=q;have hz:=S.keep.size;refine ET i S hi (λ_=>e2) (λ_=>Oq hev C) (c) hd (λ_ _ _ h=>⟨h.1,λc hc=>he ▸ hc⟩) λv a' w' hv hk hn S'=>?_;obtain⟨_,u,rfl,ho⟩:=hv;have hN:New w φ (L.set i e2):=λb hb=>⟨(hn b hb).1,λhm=>by
  obtain⟨y,hy,hc⟩:=EN hm;rcases List.mem_or_eq_of_mem_set hy with h|rfl
  ·exact(hn b hb).2 (List.mem_filterMap.2 ⟨y,h,hc⟩)
  ·exact(hn b hb).2 (List.mem_filterMap.2 ⟨e,List.mem_of_getElem? hi,he ▸ hc⟩)⟩
 exact k u a' w' hk (S'.take hN hz ho)
structure Bw(P:Program)(f T E:Nat)(is js is2 js2:List Nat):Prop where
 out:∃ρ:Go.Shelf.Ren,Lays.n166 P ρ/\Builder.Extra P ρ/\ρ.f 166=f/\ρ.t 72=T/\ρ.t 5=E/\VH P f
theorem l_bwX{f T E b:Nat}{is js is2 js2:List Nat}{dd:Bool}{v:Value}{x s:ByteArray}{Lr:List LEnt}{xs:List Operand}{ats:Array TypeId}{w0:World}(S:Sx w0 [] nov L K n a w)(B:Bw P f T E is js is2 js2)(hev:EvL a xs [.pointer (some ⟨b,0,none⟩),.string s])
 (hp:(is++js).isPerm (List.range L.length)=true) (hA:is.filterMap (L[·]?)=[.blk b [QW b dd,v] T,.ownF v E x.size (Lib.strCells x)]) (hB:js.filterMap (L[·]?)=Lr) (hn:Lr.all (SX E)=true) (hq:(is2++js2).isPerm (List.range (Lr.length+1+1))=true) (hd:Nat.blt d n=true) (hl:decide (x.size+s.size<=140737488355328)=true)
 (k:∀v' a' w',Sx w0 [] nov (is2.filterMap ((.blk b [QW b true,v'] T:: .ownF v' E (x++s).size (Lib.strCells (x++s))::Lr)[·]?)++js2.filterMap ((.blk b [QW b true,v'] T:: .ownF v' E (x++s).size (Lib.strCells (x++s))::Lr)[·]?)) ((d,.tuple #[.int .i64 s.size,.nilIface])::K) n a' w'->wpList P ops Q rest a' w'):
 Wl P ops Q (some d) (.call {callee:=.value (.func f),args:=xs.toArray,argTypes:=ats}) ty pos after rest a w:=by
 obtain⟨ρ,h1,h2,h3,rfl,rfl,h6⟩:=B.out;exact l_bwrite h1 h2 is js S hp hA hB hn h3 (λ_=>Oq hev h6) hd hl λv' a' w' S=>k v' a' w' (S.pk is2 js2 hq rfl rfl)
end
section
variable {P:Program}{a:Act}{w:World}{ty:TypeId}
theorem Aib:∀{cs:List Value} {o:Nat} {x:Value} {c cs':List Value},Aah cs o (x::c)=some cs'->o<cs.length/\Aah (cs.set o x) (o+1) c=some cs'
 |[],0,x,c,cs',h=>by cases h
 |[],o+1,x,c,cs',h=>by cases h
 |y::cs,0,x,c,cs',h=>⟨Nat.succ_pos _,h⟩
 |y::cs,o+1,x,c,cs',h=>by
  rw[Aah] at h
  split at h
  ·rename_i r hr
   obtain⟨h1,h2⟩:=Aib hr
   refine⟨Nat.succ_lt_succ h1,?_⟩
   rw[List.set_cons_succ,Aah,h2]
   exact h
  ·cases h
theorem Ano:∀{cs:List Value} {o:Nat} {cs':List Value},Aah cs o []=some cs'->o<=cs.length/\cs=cs'
 |[],0,cs',h=>⟨bU _,bH h⟩
 |[],o+1,cs',h=>by cases h
 |y::cs,0,cs',h=>⟨Nat.zero_le _,bH h⟩
 |y::cs,o+1,cs',h=>by
  rw[Aah] at h
  split at h
  ·rename_i r hr
   obtain⟨h1,h2⟩:=Ano hr
   exact⟨Nat.succ_le_succ h1,by rw[h2];exact bH h⟩
  ·cases h
theorem Aic(o:Nat):∀(c:List Value) (k:Nat) (cs cs':List Value),Aah cs (o+k) c=some cs'->(c.zipIdx k).foldl (fun(a:Array Value) p=>a.setIfInBounds (o+p.2) p.1) cs.toArray=cs'.toArray/\o+k+c.length<=cs.length
 |[],k,cs,cs',h=>by
  obtain⟨h1,rfl⟩:=Ano h
  exact⟨rfl,h1⟩
 |x::c,k,cs,cs',h=>by
  obtain⟨h1,h2⟩:=Aib h
  obtain⟨h3,h4⟩:=Aic o c (k+1) _ cs' h2
  rw[List.length_set] at h4
  refine⟨?_,by rw[aT];omega⟩
  rw[List.zipIdx_cons,List.foldl_cons,←h3]
  congr 1
  simp
def Adg:List (Nat×Value)->List (Nat×List Value)->Prop
 |[],[]=>True
 |(i,v)::r,(j,c)::s=>i=j/\v.cells.toList=c/\Adg r s
 |_,_=>False
def fillC(fs:List (Nat×Nat)):List Value->List (Nat×List Value)->Option (List Value)
 |cs,[]=>some cs
 |cs,(i,c)::r=>match fs[i]? with
  |some (o,k)=>if c.length==k then(match Aah cs o c with
   |some x=>fillC fs x r
   |none=>none) else none
  |none=>none
theorem Aid(fs:List (Nat×Nat)):∀(pv:List (Nat×Value)) (pc:List (Nat×List Value)) (cs cs':List Value),Adg pv pc->fillC fs cs pc=some cs'->Instr.fill (fs.toArray[·]?) cs.toArray pv=some cs'.toArray
 |[],[],cs,cs',_,h=>by rw[Instr.fill];exact congrArg _ (congrArg _ (bH h))
 |(i,v)::r,(_,c)::s,cs,cs',⟨rfl,hv,hr⟩,h=>by
  rw[fillC] at h
  split at h
  ·rename_i o k hf
   split at h
   ·rename_i hk
    split at h
    ·rename_i x hx
     have hk:=eq_of_beq hk
     obtain⟨h3,h4⟩:=Aic o c 0 cs x hx
     have e:fs.toArray[i]? =some (o,k):=by simpa using hf
     rw[Instr.fill,e]
     simp only
     rw[show v.cells=c.toArray by rw[←hv,Array.toArray_toList],aP aD]
     have h5:Array.foldl (fun(cs:Array Value) (p:Value×Nat)=>cs.setIfInBounds (o+p.2) p.1) cs.toArray c.toArray.zipIdx=x.toArray:=by
      rw[←h3];simp
     exact(congrArg (λq=>Instr.fill (fs.toArray[·]?) q r) h5).trans (Aid fs r s x cs' hr h)
    ·cases h
   ·cases h
  ·cases h
 |[],_::_,_,_,h,_=>h.elim
 |_::_,[],_,_,h,_=>h.elim
theorem Aqe{v:Value}(h:v.oneCell'=true):v.cells.toList=[v]:=by cases v<;>first|rfl|cases h
theorem crN:Adg [] []:=trivial
theorem crC{i:Nat}{v:Value}{c:List Value}{r:List (Nat×Value)}{s:List (Nat×List Value)}(h:v.cells.toList=c)(k:Adg r s):Adg ((i,v)::r) ((i,c)::s):=⟨rfl,h,k⟩
theorem bldG{T:TypeId}{z:Array Value}{ps:List (Nat×Operand)}{pv:List (Nat×Value)}{pc:List (Nat×List Value)}{places:List (Nat×Nat)}{cs:List Value}(B:BldI P T (.agg z) places)(hev:EvP a ps pv)(hc:Adg pv pc)
 (hf:fillC places z.toList pc=some cs):Rn P a w (.build T ps.toArray) ty (.agg cs.toArray):=IA B.out hev (by
 have:=Aid places pv pc z.toList cs hc hf
 rwa [Array.toArray_toList] at this)
end
section
variable {P:Program}{Q:Exit->Act->World->Prop}{ro:Option Nat}{m:Nat}{a:Act}{w:World}{x y:Code}
theorem m_ret{fn:Func}{R:Ending->World->Prop}(h:bodyPost P fn R .ret a w):bodyPostM (WF none) m P fn R .ret a w:=by
 obtain⟨h1,h2⟩:=h;show LeavesInM _ _ _ _ _ _ a.defers _ _;rw[h1];exact h2
theorem iw_all(hc:MJ x=true)(h0:∀a w,¬Q .outgrown a w)(h:Wq P x Q a w):x.wpIn (WF ro) m P Q a w:=Acb hc h0 h
theorem iw_one(hc:MJ x=true)(h0:∀a w,¬Q .outgrown a w)(h:Wq P x (Exit.then (y.wpIn (WF ro) m P Q) Q) a w):(Code.seq x y).wpIn (WF ro) m P Q a w:=wpIn_seq (Acb hc h0 h)
theorem iw_seq(h:x.wpIn (WF ro) m P (Exit.then (y.wpIn (WF ro) m P Q) Q) a w):(Code.seq x y).wpIn (WF ro) m P Q a w:=wpIn_seq h
structure StR:Prop where
theorem stR{i:Nat}{g:Operand}{ps:Array Tmp}(_:StR)(h:(Code.block i (.rangeFunc g ps x y)).wpIn (WF ro) m P Q a w):(Code.block i (.rangeFunc g ps x y)).wpIn (WF ro) m P Q a w:=h
end
section
variable {P:Program}{ops:Array Oper}{Q:Exit->Act->World->Prop}{rest:List Oper}{w0:World}{X:List Nat}{φ:View}{L:List LEnt}{K:List (Nat×Value)}{n:Nat}{a:Act}{w:World}{ty:TypeId}{pos:String}{after:Array Edge}
theorem l_ctkE{d:Tmp}{f:FuncId}{xs:List Operand}{vs:List Value}{ats:Array TypeId}{T' k' m:Nat}{cs:List Value}{g:Value->Value}(S:Sx w0 X φ L K n a w)(_:Take f)(hev:EvL a xs vs)(C:VH P f)
 (c:Calls P f vs.toArray w (Ret w [] λτ v _=>∃u,v=g u/\Kr τ T' k' u m cs)) (hd:Nat.blt d n=true) (k:∀u a' w',Keep [] w w'->Sx w0 X φ (.own u T' k' m cs::L) ((d,g u)::K) n a' w'->wpList P ops Q rest a' w'):
 Wl P ops Q (some d) (.call {callee:=.value (.func f),args:=xs.toArray,argTypes:=ats}) ty pos after rest a w:=
 l_cl S hev C c hd λv a' w' hv hk hn S'=>by
  obtain⟨u,rfl,hv⟩:=hv
  exact k u a' w' hk (S'.take hn S.keep.size hv)
theorem l_inI{T kt el b:Nat}{κ ν:Type}{deq:DecidableEq κ}{kv:κ->Value}{vv:ν->Value}{z:ν}{x y u:Operand}{m:List (κ×ν)}{key:κ}{val:ν}(S:Sx w0 X φ L K n a w){i:Nat}(M:MapI P T deq kt el kv vv z)
 (hx:a.eval x= .map (some b)) (hi:L[i]? =some (.map b (Ht kv vv m) m.length)) (hy:a.eval y=kv key) (hu:a.eval u=vv val)
 (k:∀w',Keep [b] w w'->Sx w0 X φ (L.set i (.map b (Ht kv vv (Iv m key val)) (Iv m key val).length)) K n a w'->wpList P ops Q rest a w'):
 Wl P ops Q none (.insert T x y u) ty pos after rest a w:=l_insert S hi M.und M.key hx hy hu k
end
def rI(i:Nat)(sn:Array Nat)(L:List LEnt):List LEnt:=match L[i]? with
 |some (.iter b m c _ k)=>L.set i (.iter b m c sn k)
 |_=>L
def rD(i:Nat)(L:List LEnt):List LEnt:=L.eraseIdx i
def lmP{κ ν β R:Type}(left:Array Nat->List (κ×ν))(F:List (κ×ν)->β->Option R)(r:R)(I:Array Nat->β->Act->World->Prop)(n:Nat)(a:Act)(w:World):Prop:=
 ∃i:Array Nat×β,((∀p:List (κ×ν),p.Perm (left i.1)->F p i.2=some r)/\I i.1 i.2 a w)/\(left i.1).length<n
section
variable {P:Program}{ops:Array Oper}{Q:Exit->Act->World->Prop}{rest:List Oper}
variable {w0:World}{X:List Nat}{φ:View}{L L':List LEnt}{K K':List (Nat×Value)}{n:Nat}{a:Act}{w:World}
variable {d:Nat}{ty:TypeId}{pos:String}{after:Array Edge}
theorem idBo{n clk:Nat}{bs:List Nat}(h:Xq n bs clk):Xq n bs clk:=h
theorem lmI{κ ν β R:Type}{left:Array Nat->List (κ×ν)}{F:List (κ×ν)->β->Option R}{r:R}{I:Array Nat->β->Act->World->Prop}{m:Nat}{sn:Array Nat}{x:β}(h1:∀p:List (κ×ν),p.Perm (left sn)->F p x=some r)(h2:(left sn).length<m)(h3:I sn x a w):lmP left F r I m a w:=⟨(sn,x),⟨h1,h3⟩,h2⟩
theorem lm{κ ν β γ R:Type}{r:R}{c:Code}{bid:Nat}{KJ:γ->Option R}{m:List (κ×ν)}{left:Array Nat->List (κ×ν)}{F:(γ->Option R)->List (κ×ν)->β->Option R}{e0:β}{ts:List Nat}{mk:List Bool}{I:Array Nat->β->ST->ST}{J:γ->ST->ST}(_:Im ts)(_:Im mk)(_:Im I)(_:Im J)(_:Sx w0 X φ L K n a w)
 (h:Fq KJ (λj=>AllP m (λp=>F j p e0))=some r) (_:IH K ts=some K') (_:CY mk L=L') (h00:left #[]=m) (h0:I #[] e0 (SV w0 X n) φ L' K' a w)
 (hb:∀j sn x a' w',(∀p:List (κ×ν),p.Perm (left sn)->F j p x=some r)->I sn x (SV w0 X n) φ L' K' a' w'->
  Wq P c (Exit.then (lmP left (F j) r (λsn x a w=>I sn x (SV w0 X n) φ L' K' a w) (left sn).length) (Exit.inBlock bid (Exit.then (λa w'=>∃y,j y=some r/\J y (SV w0 X n) φ L' K' a w') Q))) a' w')
 (k:∀a w',(∃y,KJ y=some r/\J y (SV w0 X n) φ L' K' a w')->Q .normal a w'):Wq P (Code.block bid (Code.loop c)) Q a w:=by
 refine Qk (λa w'=>∃y,KJ y=some r/\J y (SV w0 X n) φ L' K' a w') ?_ k;refine Ia (Sn (fun(i:Array Nat×β) a w'=>(∀p:List (κ×ν),p.Perm (left i.1)->F KJ p i.2=some r)/\I i.1 i.2 (SV w0 X n) φ L' K' a w') (λi=>(left i.1).length) (#[],e0) ⟨λp hp=>?_,h0⟩ ?_)
 ·rw[h00] at hp;exact allE (h:AllP m (λp=>F KJ p e0)=some r) p hp
 ·rintro⟨sn,x⟩ a' w' ⟨hP,hI⟩;exact hb KJ sn x a' w' hP hI
section
variable {κ ν R σ:Type}{kv:κ->Value}{vv:ν->Value}{r:R}{F:List (κ×ν)->Option R}{B:κ×ν->Option σ}{G:κ×ν->List (κ×ν)->σ->Option R}{i i' t b bm clk:Nat}{m:List (κ×ν)}{bs:List Nat}{sn:Array Nat}
theorem l_rgI{T kt el:Nat}{deq:DecidableEq κ}{z:ν}{es:Array MapEntry}{x:Operand}(S:Sx w0 X φ L K n a w)(M:MapI P T deq kt el kv vv z)(hx:a.eval x= .map (some bm))(hi:L[i]? =some (.map bm es clk))(hd:Nat.blt d n=true)
 (kont:∀a' w' b,Keep [] w w'->Sx w0 X φ (.iter b bm clk #[] clk::L) ((d,.pointer (some ⟨b,0,none⟩))::K) n a' w'->wpList P ops Q rest a' w'):
 Wl P ops Q (some d) (.range T x) ty pos after rest a w:=l_range S (S.map_at hi) M.und hx hd λa' w' b _ hk S'=>kont a' w' b hk S'
theorem l_nxI(S:Sx w0 X φ L K n a w)(hP:∀p:List (κ×ν),p.Perm (OZ m sn)->F p=some r)(hx:look K t=some (.pointer (some ⟨b,0,none⟩)))(hi:L[i]? =some (.iter b bm m.length sn m.length))(hm:L[i']? =some (.map bm (Ht kv vv m) m.length))
 (he:∀y ys,F (y::ys)=Option.bind (B y) (G y ys)) (hd:Nat.blt d n=true) (k0:F []=some r->∀a',Sx w0 X φ L ((d,.tuple #[.bool false])::K) n a' w->wpList P ops Q rest a' w)
 (k1:∀y sn' s a' w',B y=some s->(∀ys:List (κ×ν),ys.Perm (OZ m sn')->G y ys s=some r)->(OZ m sn').length<(OZ m sn).length->(∃j,sn'.back? =some j/\m[j]? =some y)->Keep [b] w w'->Sx w0 X φ (L.set i (.iter b bm m.length sn' m.length)) ((d,.tuple #[.bool true,kv y.1,vv y.2])::K) n a' w'->wpList P ops Q rest a' w'):
 Wl P ops Q (some d) (.next (.tmp t) false) ty pos after rest a w:=
 l_next S hi (S.map_at hm) (S.tm hx) hd (λh0 a' S'=>k0 (Aha hP h0) a' S') λy sn' a' w' hp hl hk S'=>by
  obtain⟨s,h1,h2⟩:=Abx hP hp (he y)
  exact k1 y sn' s a' w' h1 h2 (by rw[hp.length_eq];exact bF _) hl hk S'
theorem l_nxB(S:Sx w0 X φ L K n a w)(hP:∀p:List (κ×ν),p.Perm (PB m bs sn)->F p=some r)(hx:look K t=some (.pointer (some ⟨b,0,none⟩)))(hi:L[i]? =some (.iter b bm clk sn clk))(hm:L[i']? =some (.map bm (Kv kv vv m bs) clk))(hB:Xq m.length bs clk)
 (he:∀y ys,F (y::ys)=Option.bind (B y) (G y ys)) (hd:Nat.blt d n=true) (k0:F []=some r->∀a',Sx w0 X φ L ((d,.tuple #[.bool false])::K) n a' w->wpList P ops Q rest a' w)
 (k1:∀y sn' s a' w',B y=some s->(∀ys:List (κ×ν),ys.Perm (PB m bs sn')->G y ys s=some r)->(PB m bs sn').length<(PB m bs sn).length->(∃j,sn'.back? =some j/\(y,j)∈m.zip bs)->Keep [b] w w'->Sx w0 X φ (L.set i (.iter b bm clk sn' clk)) ((d,.tuple #[.bool true,kv y.1,vv y.2])::K) n a' w'->wpList P ops Q rest a' w'):
 Wl P ops Q (some d) (.next (.tmp t) false) ty pos after rest a w:=
 l_nextB S hi (S.map_at hm) hB (S.tm hx) hd (λh0 a' S'=>k0 (Aha hP h0) a' S') λy sn' a' w' hp hl hk S'=>by
  obtain⟨s,h1,h2⟩:=Abx hP hp (he y)
  exact k1 y sn' s a' w' h1 h2 (by rw[hp.length_eq];exact bF _) hl hk S'
theorem l_muB{T kt el:Nat}{deq:DecidableEq κ}{z:ν}{x y u:Operand}{key:κ}{val:ν}(S:Sx w0 X φ L K n a w)(M:MapI P T deq kt el kv vv z)(hx:a.eval x= .map (some b))(hi:L[i]? =some (.map b (Kv kv vv m bs) clk))(hB:Xq m.length bs clk)(hy:a.eval y=kv key)(hu:a.eval u=vv val)
 (k:∀w' bs' clk',Xq (Iv m key val).length bs' clk'->Keep [b] w w'->Sx w0 X φ (L.set i (.map b (Kv kv vv (Iv m key val) bs') clk')) K n a w'->wpList P ops Q rest a w'):
 Wl P ops Q none (.mapUpdate T x y u) ty pos after rest a w:=Afd S hi hB M.und M.key hx hy hu k
theorem l_dlB{T T' kt el:Nat}{deq:DecidableEq κ}{z:ν}{x y:Operand}{key:κ}(S:Sx w0 X φ L K n a w)(M:MapI P T deq kt el kv vv z)(hx:a.eval x= .map (some b))(hi:L[i]? =some (.map b (Kv kv vv m bs) clk))(hB:Xq m.length bs clk)(hy:a.eval y=kv key)
 (k:∀w' bs' clk',Xq (KZ m key).length bs' clk'->Keep [b] w w'->Sx w0 X φ (L.set i (.map b (Kv kv vv (KZ m key) bs') clk')) K n a w'->wpList P ops Q rest a w'):
 Wl P ops Q none (.call {callee:=.builtin .delete,args:=#[x,y],argTypes:=#[T,T']}) ty pos after rest a w:=Aps S hi hB rfl M.und M.key hx hy k
theorem entI{x:Operand}{e:κ×ν}(S:Sx w0 X φ L K n a w)(hx:a.eval x= .pointer (some ⟨b,0,none⟩))(hi:L[i]? =some (.iter b bm m.length sn m.length))(hm:L[i']? =some (.map bm (Ht kv vv m) m.length))(hl:∃j,sn.back? =some j/\m[j]? =some e):Rn P a w (.entry x) ty (.tuple #[kv e.1,vv e.2]):=
 rn_entry (S.hd i hi) (S.map_at hm) hl hx
theorem entB{x:Operand}{e:κ×ν}(S:Sx w0 X φ L K n a w)(hx:a.eval x= .pointer (some ⟨b,0,none⟩))(hi:L[i]? =some (.iter b bm clk sn clk))(hm:L[i']? =some (.map bm (Kv kv vv m bs) clk))(hB:Xq m.length bs clk)(hl:∃j,sn.back? =some j/\(e,j)∈m.zip bs):Rn P a w (.entry x) ty (.tuple #[kv e.1,vv e.2]):=
 Apt (S.hd i hi) (S.map_at hm) hB hl hx
end
end
theorem AuT{g:Prop}(t:g:=by
 first|((repeat' (first|(with_reducible rfl)|assumption|(with_reducible apply andT)));done)|((with_reducible apply orT1);(first|(with_reducible rfl)|assumption))|((with_reducible apply orT2);(first|(with_reducible rfl)|assumption))):g:=t
theorem AuF{g:Prop}(t:g:=by
 first|(first|(with_reducible rfl)|assumption)|((with_reducible apply andF2);(first|(with_reducible rfl)|assumption))|((with_reducible apply andF1);(first|(first|(with_reducible rfl)|assumption)|((with_reducible apply andF2);(first|(with_reducible rfl)|assumption))|((with_reducible apply andF1);(first|(first|(with_reducible rfl)|assumption)|((with_reducible apply andF2);(first|(with_reducible rfl)|assumption))|((with_reducible apply andF1);(first|(with_reducible rfl)|assumption))))))|((with_reducible apply orF);(first|(with_reducible rfl)|assumption);(first|(with_reducible rfl)|assumption))):g:=t
theorem AuK{g:Prop}(t:g:=by
 ((repeat (first|assumption|exact Keep.refl _ _|exact Keep.none (by assumption)|exact keep_l1 (by assumption)|exact keep_l2 (by assumption)|(refine Keep.trans ?_ (by assumption))|(refine Keep.trans ?_ (Keep.none (by assumption)))));done)):g:=t
set_option maxRecDepth 100000
theorem AuZ{g:Prop}(t:g:=by
 (first|exact⟨0,0,_,_,rfl,rfl,rfl,rfl⟩|exact⟨0,1,_,_,rfl,rfl,rfl,rfl⟩|exact⟨0,2,_,_,rfl,rfl,rfl,rfl⟩|exact⟨0,3,_,_,rfl,rfl,rfl,rfl⟩|exact⟨0,4,_,_,rfl,rfl,rfl,rfl⟩|exact⟨0,5,_,_,rfl,rfl,rfl,rfl⟩|exact⟨0,6,_,_,rfl,rfl,rfl,rfl⟩|exact⟨1,0,_,_,rfl,rfl,rfl,rfl⟩|exact⟨1,1,_,_,rfl,rfl,rfl,rfl⟩|exact⟨1,2,_,_,rfl,rfl,rfl,rfl⟩|exact⟨1,3,_,_,rfl,rfl,rfl,rfl⟩|exact⟨1,4,_,_,rfl,rfl,rfl,rfl⟩|exact⟨1,5,_,_,rfl,rfl,rfl,rfl⟩|exact⟨1,6,_,_,rfl,rfl,rfl,rfl⟩|exact⟨2,0,_,_,rfl,rfl,rfl,rfl⟩|exact⟨2,1,_,_,rfl,rfl,rfl,rfl⟩|exact⟨2,2,_,_,rfl,rfl,rfl,rfl⟩|exact⟨2,3,_,_,rfl,rfl,rfl,rfl⟩|exact⟨2,4,_,_,rfl,rfl,rfl,rfl⟩|exact⟨2,5,_,_,rfl,rfl,rfl,rfl⟩|exact⟨2,6,_,_,rfl,rfl,rfl,rfl⟩|exact⟨3,0,_,_,rfl,rfl,rfl,rfl⟩|exact⟨3,1,_,_,rfl,rfl,rfl,rfl⟩|exact⟨3,2,_,_,rfl,rfl,rfl,rfl⟩|exact⟨3,3,_,_,rfl,rfl,rfl,rfl⟩|exact⟨3,4,_,_,rfl,rfl,rfl,rfl⟩|exact⟨3,5,_,_,rfl,rfl,rfl,rfl⟩|exact⟨3,6,_,_,rfl,rfl,rfl,rfl⟩|exact⟨4,0,_,_,rfl,rfl,rfl,rfl⟩|exact⟨4,1,_,_,rfl,rfl,rfl,rfl⟩|exact⟨4,2,_,_,rfl,rfl,rfl,rfl⟩|exact⟨4,3,_,_,rfl,rfl,rfl,rfl⟩|exact⟨4,4,_,_,rfl,rfl,rfl,rfl⟩|exact⟨4,5,_,_,rfl,rfl,rfl,rfl⟩|exact⟨4,6,_,_,rfl,rfl,rfl,rfl⟩|exact⟨5,0,_,_,rfl,rfl,rfl,rfl⟩|exact⟨5,1,_,_,rfl,rfl,rfl,rfl⟩|exact⟨5,2,_,_,rfl,rfl,rfl,rfl⟩|exact⟨5,3,_,_,rfl,rfl,rfl,rfl⟩|exact⟨5,4,_,_,rfl,rfl,rfl,rfl⟩|exact⟨5,5,_,_,rfl,rfl,rfl,rfl⟩|exact⟨5,6,_,_,rfl,rfl,rfl,rfl⟩|exact⟨6,0,_,_,rfl,rfl,rfl,rfl⟩|exact⟨6,1,_,_,rfl,rfl,rfl,rfl⟩|exact⟨6,2,_,_,rfl,rfl,rfl,rfl⟩|exact⟨6,3,_,_,rfl,rfl,rfl,rfl⟩|exact⟨6,4,_,_,rfl,rfl,rfl,rfl⟩|exact⟨6,5,_,_,rfl,rfl,rfl,rfl⟩|exact⟨6,6,_,_,rfl,rfl,rfl,rfl⟩|exact⟨7,0,_,_,rfl,rfl,rfl,rfl⟩|exact⟨7,1,_,_,rfl,rfl,rfl,rfl⟩|exact⟨7,2,_,_,rfl,rfl,rfl,rfl⟩|exact⟨7,3,_,_,rfl,rfl,rfl,rfl⟩|exact⟨7,4,_,_,rfl,rfl,rfl,rfl⟩|exact⟨7,5,_,_,rfl,rfl,rfl,rfl⟩|exact⟨7,6,_,_,rfl,rfl,rfl,rfl⟩)):g:=t
theorem AuB{g:Prop}(t:g:=by
 (first|apply rfl|exact encAll EncI.out|((repeat (first|apply rfl|((apply Yc);(first|apply rfl|exact Jc.one (by(exact AuQ))))));done))):g:=t
theorem AuD{g:Prop}(t:g:=by
 (first|(refine Slc.mono (by assumption) (So (S.le_arg Gb) (S.le_new Gb)))|(refine Slc.mono (by assumption) (View.le_trans (ZY (by assumption)) (So (S.le_arg Gb) (S.le_new Gb))))|(refine Slc.mono (by assumption) (le_join_left _ _))|(refine Slc.mono (Iw EncI.out (by assumption)) (S.all_right (View.le_refl _)))|(refine Slc.mono (Iw EncI.out (by assumption)) (S.all_right hψ))|(refine Slc.mono (by assumption) (S.le_arg Gb))|(refine Slc.mono (by assumption) (View.le_trans hψ (S.le_arg Gb)))|(refine Slc.mono (by assumption) (So (View.le_trans hψ (S.le_arg Gb)) (S.le_new Gb)))|(refine Slc.mono (Iw EncI.out (by assumption)) (S.le_new Gb))|(refine Slc.mono (by assumption) (S.le_new Gb))|(refine Slc.mono (Iw EncI.out (by assumption)) (View.le_trans ?_ (S.le_new Gb));assumption)|(refine Slc.mono (by assumption) (View.le_trans ?_ (S.le_new Gb));assumption)|exact LE _ _|(refine slc_la (by assumption) S (by first|exact⟨0,_,rfl,rfl⟩|exact⟨1,_,rfl,rfl⟩|exact⟨2,_,rfl,rfl⟩|exact⟨3,_,rfl,rfl⟩|exact⟨4,_,rfl,rfl⟩|exact⟨5,_,rfl,rfl⟩|exact⟨6,_,rfl,rfl⟩|exact⟨7,_,rfl,rfl⟩|exact⟨8,_,rfl,rfl⟩|exact⟨9,_,rfl,rfl⟩|exact⟨10,_,rfl,rfl⟩|exact⟨11,_,rfl,rfl⟩|exact⟨12,_,rfl,rfl⟩))|(first|exact EP EncI.out S (i:=0) rfl (λ_ _ h=>by cases h)|exact EP EncI.out S (i:=1) rfl (λ_ _ h=>by cases h)|exact EP EncI.out S (i:=2) rfl (λ_ _ h=>by cases h)|exact EP EncI.out S (i:=3) rfl (λ_ _ h=>by cases h))|(first|((with_reducible apply litS S);exact inferInstance;exact inferInstance;(exact AuX);apply rfl;apply rfl;exact bM)|((with_reducible apply litSB S);exact inferInstance;exact inferInstance;(exact AuX);apply rfl;apply rfl;(exact AuX);apply rfl)))):g:=t
theorem AuQ{g:Prop}(t:g:=by
 (first|exact Ku (by assumption)|exact ZV (by assumption) (by assumption)|exact Ku (Iw EncI.out (by assumption))|exact Li (S.own_at (i:=0) rfl)|exact Li (S.own_at (i:=1) rfl)|exact Li (S.own_at (i:=2) rfl)|exact Li (S.own_at (i:=3) rfl)|exact Li (S.own_at (i:=4) rfl)|exact Li (S.own_at (i:=5) rfl))):g:=t
theorem AuL{g:Prop}(t:g:=by
 (repeat (first|(with_reducible apply resLN)|((with_reducible apply resLT S);apply rfl)|((with_reducible apply resLC S);exact inferInstance;exact inferInstance;apply rfl;(exact AuX);apply rfl)|((with_reducible apply resLO S);exact inferInstance;apply rfl;(exact AuX);apply rfl)))):g:=t
theorem AuW{g:Prop}(t:g:=by
 ((try dsimp only);(repeat (first|apply rfl|(first|exact VL S (i:=0) (j:=1) rfl rfl rfl (by assumption)|exact Aai S (i:=0) (j:=1) rfl rfl rfl|((apply VN S);(exact AuX);(first|exact⟨0,_,rfl,rfl,rfl⟩|exact⟨1,_,rfl,rfl,rfl⟩|exact⟨2,_,rfl,rfl,rfl⟩|exact⟨3,_,rfl,rfl,rfl⟩|exact⟨4,_,rfl,rfl,rfl⟩|exact⟨5,_,rfl,rfl,rfl⟩|exact⟨6,_,rfl,rfl,rfl⟩|exact⟨7,_,rfl,rfl,rfl⟩))|((apply Aaj S);(exact AuX);exact inferInstance;exact inferInstance;apply rfl;apply rfl;(first|exact⟨0,_,rfl,rfl,rfl⟩|exact⟨1,_,rfl,rfl,rfl⟩|exact⟨2,_,rfl,rfl,rfl⟩|exact⟨3,_,rfl,rfl,rfl⟩|exact⟨4,_,rfl,rfl,rfl⟩|exact⟨5,_,rfl,rfl,rfl⟩|exact⟨6,_,rfl,rfl,rfl⟩|exact⟨7,_,rfl,rfl,rfl⟩))|exact Ot S (i:=0) rfl rfl|exact Ot S (i:=1) rfl rfl|exact Ot S (i:=2) rfl rfl|exact Ot S (i:=3) rfl rfl|exact HE _ _ _|exact Kr.mono (by assumption) S.le_newer|exact Kr.mono (Kr.mono (by assumption) (by assumption)) S.le_newer|((with_reducible apply hdX S);(exact AuX))|exact S.map_ret (i:=0) rfl rfl|exact S.map_ret (i:=1) rfl rfl|exact S.map_ret (i:=2) rfl rfl|exact S.map_ret (i:=3) rfl rfl)|((with_reducible apply idSl);(first|exact Slc.mono (by assumption) (by first|exact S.le_newer|exact UU hψ S.le_newer|exact View.le_trans (by assumption) S.le_newer)|exact Slc.mono (by assumption) (le_join_left _ _)|((apply Iw EncI.out);(first|exact VL S (i:=0) (j:=1) rfl rfl rfl (by assumption)|exact Aai S (i:=0) (j:=1) rfl rfl rfl|((apply VN S);(exact AuX);(first|exact⟨0,_,rfl,rfl,rfl⟩|exact⟨1,_,rfl,rfl,rfl⟩|exact⟨2,_,rfl,rfl,rfl⟩|exact⟨3,_,rfl,rfl,rfl⟩|exact⟨4,_,rfl,rfl,rfl⟩|exact⟨5,_,rfl,rfl,rfl⟩|exact⟨6,_,rfl,rfl,rfl⟩|exact⟨7,_,rfl,rfl,rfl⟩))|((apply Aaj S);(exact AuX);exact inferInstance;exact inferInstance;apply rfl;apply rfl;(first|exact⟨0,_,rfl,rfl,rfl⟩|exact⟨1,_,rfl,rfl,rfl⟩|exact⟨2,_,rfl,rfl,rfl⟩|exact⟨3,_,rfl,rfl,rfl⟩|exact⟨4,_,rfl,rfl,rfl⟩|exact⟨5,_,rfl,rfl,rfl⟩|exact⟨6,_,rfl,rfl,rfl⟩|exact⟨7,_,rfl,rfl,rfl⟩))|exact Ot S (i:=0) rfl rfl|exact Ot S (i:=1) rfl rfl|exact Ot S (i:=2) rfl rfl|exact Ot S (i:=3) rfl rfl|exact HE _ _ _|exact Kr.mono (by assumption) S.le_newer|exact Kr.mono (Kr.mono (by assumption) (by assumption)) S.le_newer|((with_reducible apply hdX S);(exact AuX))|exact S.map_ret (i:=0) rfl rfl|exact S.map_ret (i:=1) rfl rfl|exact S.map_ret (i:=2) rfl rfl|exact S.map_ret (i:=3) rfl rfl))|((apply λh=>Slc.mono (Iw EncI.out h) (VM hψ));(first|exact VL S (i:=0) (j:=1) rfl rfl rfl (by assumption)|exact Aai S (i:=0) (j:=1) rfl rfl rfl|((apply VN S);(exact AuX);(first|exact⟨0,_,rfl,rfl,rfl⟩|exact⟨1,_,rfl,rfl,rfl⟩|exact⟨2,_,rfl,rfl,rfl⟩|exact⟨3,_,rfl,rfl,rfl⟩|exact⟨4,_,rfl,rfl,rfl⟩|exact⟨5,_,rfl,rfl,rfl⟩|exact⟨6,_,rfl,rfl,rfl⟩|exact⟨7,_,rfl,rfl,rfl⟩))|((apply Aaj S);(exact AuX);exact inferInstance;exact inferInstance;apply rfl;apply rfl;(first|exact⟨0,_,rfl,rfl,rfl⟩|exact⟨1,_,rfl,rfl,rfl⟩|exact⟨2,_,rfl,rfl,rfl⟩|exact⟨3,_,rfl,rfl,rfl⟩|exact⟨4,_,rfl,rfl,rfl⟩|exact⟨5,_,rfl,rfl,rfl⟩|exact⟨6,_,rfl,rfl,rfl⟩|exact⟨7,_,rfl,rfl,rfl⟩))|exact Ot S (i:=0) rfl rfl|exact Ot S (i:=1) rfl rfl|exact Ot S (i:=2) rfl rfl|exact Ot S (i:=3) rfl rfl|exact HE _ _ _|exact Kr.mono (by assumption) S.le_newer|exact Kr.mono (Kr.mono (by assumption) (by assumption)) S.le_newer|((with_reducible apply hdX S);(exact AuX))|exact S.map_ret (i:=0) rfl rfl|exact S.map_ret (i:=1) rfl rfl|exact S.map_ret (i:=2) rfl rfl|exact S.map_ret (i:=3) rfl rfl))|exact LE _ _))|(first|exact Jc.one (by(exact AuQ))|exact Subtype.property _|exact JS.mono (RelM.out (by first|exact S.le_newer|exact UU hψ S.le_newer|exact View.le_trans (by assumption) S.le_newer)) (by first|exact S.le_newer|exact UU hψ S.le_newer|exact View.le_trans (by assumption) S.le_newer) (by assumption))|((with_reducible apply JS.mk);rotate_left;(first|exact S.le_newer _ _ (by assumption)|exact UU hψ S.le_newer _ _ (by assumption)))|(with_reducible apply rel_28_i)|(with_reducible apply rel_32_i)|(with_reducible apply Aqf)|(with_reducible apply Aqh)|((apply ptr_28_i);(first|((with_reducible apply QX S);(exact AuX);apply rfl)|((refine VM hψ _ _ ?_);(with_reducible apply QX S);(exact AuX);apply rfl)))|((apply ptr_32_i);(first|((with_reducible apply QX S);(exact AuX);apply rfl)|((refine VM hψ _ _ ?_);(with_reducible apply QX S);(exact AuX);apply rfl)))|((apply Aqg);(first|((with_reducible apply QX S);(exact AuX);apply rfl)|((refine VM hψ _ _ ?_);(with_reducible apply QX S);(exact AuX);apply rfl)))|((apply Aqi);(first|((with_reducible apply QX S);(exact AuX);apply rfl)|((refine VM hψ _ _ ?_);(with_reducible apply QX S);(exact AuX);apply rfl)))|(with_reducible apply WT)|(with_reducible apply WU)|(with_reducible apply TT)|(with_reducible apply TU)|(with_reducible apply slcD_ret)|exact Mu.chg (RelM.out (by first|exact S.le_newer|exact UU hψ S.le_newer|exact View.le_trans (by assumption) S.le_newer)) (by assumption)|with_reducible apply And.intro|with_reducible apply Exists.intro)))):g:=t
theorem AuP{g:Prop}(t:g:=by
 (repeat (first|(with_reducible apply evpN)|((with_reducible apply evpC);((exact AuO)))))):g:=t
theorem AuV{g:Prop}(t:g:=by
 (first|(with_reducible apply evl0)|((with_reducible apply S.c1);apply rfl)|((with_reducible apply S.c2);apply rfl)|((with_reducible apply S.c3);apply rfl)|((with_reducible apply S.c4);apply rfl)|((with_reducible apply evl1)<;>(exact AuO))|((with_reducible apply evl2)<;>(exact AuO))|((with_reducible apply ZZ)<;>(exact AuO))|((with_reducible apply evl4)<;>(exact AuO))|((with_reducible apply evl5)<;>(exact AuO)))):g:=t
theorem AuC{g:Prop}(t:g:=by
 (first|assumption|exact Iw EncI.out (by assumption))):g:=t
theorem AuS{g:Prop}(t:g:=by
 (repeat (first|(with_reducible apply sxN (K':=[]) rfl)|((apply sxS);(first|apply rfl|exact litB (by assumption)|exact litAt (by assumption)|exact litAf (by assumption)|exact litOt (by assumption)|exact litOf (by assumption)|exact congrArg (λz=>some (Value.int .i64 z)) (JR (by assumption) (by assumption) (by first|assumption|exact Nat.le_of_ble_eq_true rfl|exact GX (by assumption)|exact slc_maxE (by assumption) (by assumption)|exact GX (Iw EncI.out (by assumption))|exact Wf (S.own_at (i:=0) rfl)|exact Wf (S.own_at (i:=1) rfl)|exact Wf (S.own_at (i:=2) rfl)|exact Wf (S.own_at (i:=3) rfl)|exact Wf (S.own_at (i:=4) rfl)|exact Wf (S.own_at (i:=5) rfl)))))|((apply sxM);apply rfl)|((apply sxN);apply rfl)))):g:=t
theorem AuE{g:Prop}(t:g:=by
 (first|exact ZX hψ S.emb0|exact ZW (ZX hψ S.emb0) S.emb|exact emb_view _ _|exact ZW S.emb0 S.emb|exact ZX (ZY (by assumption)) (ZW S.emb0 S.emb)|with_reducible apply S.emb0|with_reducible apply S.emb|exact ZX (by assumption) S.emb|exact ZX (View.le_trans (by assumption) (by assumption)) S.emb)):g:=t
theorem AuN{g:Prop}(t:g:=by
 (repeat' (first|((with_reducible apply snE);apply rfl)|((with_reducible apply snK);apply rfl;apply rfl)|((with_reducible apply snL);apply rfl;apply rfl;exact inferInstance;apply rfl;apply rfl;apply rfl)|((with_reducible apply snN);apply rfl)|((with_reducible apply snD);apply rfl)))):g:=t
theorem AuX{g:Prop}(t:g:=by
 (first|exact atI 0 rfl|exact atI 1 rfl|exact atI 2 rfl|exact atI 3 rfl|exact atI 4 rfl|exact atI 5 rfl|exact atI 6 rfl|exact atI 7 rfl|exact atI 8 rfl|exact atI 9 rfl|exact atI 10 rfl|exact atI 11 rfl|exact atI 12 rfl)):g:=t
theorem AuO{g:Prop}(t:g:=by
 first|((with_reducible apply S.tm);apply rfl)|with_reducible apply evc|with_reducible apply evf):g:=t
theorem AuM{g:Prop}(t:g:=by
 ((with_reducible apply S.tm);apply rfl)):g:=t
theorem AuR{g:Prop}(t:g:=by
 (first
  |((with_reducible apply idD);first
   |((with_reducible apply ldB S);exact inferInstance;(exact AuM);(exact AuX);apply rfl)
   |((with_reducible apply ldM);exact inferInstance;(exact AuM);(first|assumption|exact IZ (by assumption));(exact AuE);apply rfl)
   |((with_reducible apply ldM0);exact inferInstance;(exact AuM);(first|assumption|exact IZ (by assumption));(exact AuE);apply rfl)
   |((with_reducible apply ldME);exact inferInstance;(exact AuM);(first|assumption|exact IZ (by assumption));(exact AuE))
   |((with_reducible apply ldBE S);exact inferInstance;(exact AuM);(exact AuX))
   |((with_reducible apply ldBS S);exact inferInstance;exact inferInstance;(exact AuM);(exact AuX);exact inferInstance)
   |((with_reducible apply ldBD S);exact inferInstance;(exact AuM);(exact AuX);apply rfl)
   |((with_reducible apply ldBQ S);exact inferInstance;exact inferInstance;exact inferInstance;(exact AuM);(exact AuX);assumption;apply rfl)
   |((with_reducible apply ldBW S);exact inferInstance;exact inferInstance;(exact AuM);(exact AuX);apply rfl)
   |((with_reducible apply ldSub0 S);exact inferInstance;(exact AuM);assumption;assumption;(exact AuX);exact inferInstance;(try ((with_reducible apply VI);exact inferInstance));assumption;(try any_goals ((with_reducible apply VI);exact inferInstance));apply rfl)
   |((with_reducible apply ldOA S);exact inferInstance;(exact AuM);assumption;(exact AuX);exact inferInstance;(try ((with_reducible apply VI);exact inferInstance));assumption;(try any_goals ((with_reducible apply VI);exact inferInstance));apply rfl)
   |((with_reducible apply ldO S);exact inferInstance;(exact AuM);assumption;(exact AuX);exact inferInstance;(try ((with_reducible apply VI);exact inferInstance));assumption;(try any_goals ((with_reducible apply VI);exact inferInstance));apply rfl)
   |((with_reducible apply ldO0 S);exact inferInstance;(exact AuM);assumption;(exact AuX);exact inferInstance;(try ((with_reducible apply VI);exact inferInstance));assumption;(try any_goals ((with_reducible apply VI);exact inferInstance));apply rfl)
   |((with_reducible apply ldMA0);exact inferInstance;exact inferInstance;(exact AuM);(first|assumption|exact IZ (by assumption));(exact AuE);exact inferInstance;apply rfl)
   |((with_reducible apply ldMAp);exact inferInstance;exact inferInstance;(exact AuM);(first|assumption|exact IZ (by assumption));(exact AuE);exact inferInstance;apply rfl)
   |((with_reducible apply ldM00);exact inferInstance;(exact AuM);(first|assumption|exact IZ (by assumption));(exact AuE);apply rfl)
   |((with_reducible apply ldOGA S);exact inferInstance;(exact AuM);assumption;(exact AuX);exact inferInstance;assumption;assumption)
   |((with_reducible apply ldOG S);exact inferInstance;(exact AuM);assumption;(exact AuX);exact inferInstance;assumption;assumption;apply rfl)
   |((with_reducible apply ldOG0 S);exact inferInstance;(exact AuM);assumption;(exact AuX);exact inferInstance;assumption;assumption;apply rfl)
   |((with_reducible apply ldMW);exact inferInstance;exact inferInstance;(exact AuM);(first|assumption|exact IZ (by assumption));(exact AuE);apply rfl))
  |((with_reducible apply fldR0);exact inferInstance;(exact AuM))
  |((with_reducible apply fldR);exact inferInstance;(exact AuM))
  |((with_reducible apply idB);first
   |((with_reducible apply QH)<;>(exact AuO))
   |((with_reducible apply JO)<;>(exact AuO))
   |((with_reducible apply BE)<;>(exact AuO))
   |((with_reducible apply Akg)<;>(exact AuO))
   |((with_reducible apply Akh)<;>(exact AuO))
   |((with_reducible apply Aes)<;>(exact AuO))
   |((with_reducible apply YM)<;>(exact AuO))
   |((with_reducible apply Aki)<;>(exact AuO))
   |((with_reducible apply Aer)<;>(exact AuO))
   |((with_reducible apply rn_leq)<;>(exact AuO))
   |((with_reducible apply rn_mul)<;>(exact AuO))
   |((first|(with_reducible apply rn_quo)|(with_reducible apply rn_rem))<;>first|(exact AuO)|exact ne0_of (by assumption)|exact ne0_f (by assumption)|decide)
   |((with_reducible apply rn_shr)<;>first|(exact AuO)|decide)
   |((with_reducible apply rn_slss)<;>(exact AuO))
   |((with_reducible apply rn_sleq)<;>(exact AuO))
   |((with_reducible apply seqlI);exact inferInstance;((exact AuO));((exact AuO)))
   |((with_reducible apply sneqI);exact inferInstance;((exact AuO));((exact AuO)))
   |((first|(with_reducible apply ifnI)|(with_reducible apply ifnN));exact inferInstance;(exact AuM))
   |((with_reducible apply bneqI);exact inferInstance;((exact AuO));((exact AuO)))
   |((with_reducible apply saddI);((exact AuO));((exact AuO));assumption))
  |((with_reducible apply bldD);exact inferInstance;exact inferInstance;(exact AuP);apply rfl;apply rfl;kernel_rfl)
  |((with_reducible apply bldG);exact inferInstance;(exact AuP);(repeat (first|(with_reducible apply crN)|((with_reducible apply crC);(first|exact Jc.cells (by(exact AuQ))|exact Aqe (Subtype.property _)|apply rfl))));apply rfl)
  |((with_reducible apply lkI S);exact inferInstance;(exact AuM);(exact AuX);((exact AuO)))
  |((with_reducible apply lkI2 S);exact inferInstance;(exact AuM);(exact AuX);((exact AuO)))
  |((first|(with_reducible apply lkV)|(with_reducible apply lkV2));exact inferInstance;(exact AuM);assumption;(exact AuE);((exact AuO)))
  |((with_reducible apply bytI S);exact inferInstance;exact inferInstance;exact inferInstance;(exact AuM);(exact AuX);apply rfl;apply rfl)
  |((with_reducible apply convI);exact inferInstance;exact inferInstance;((exact AuO)))
  |((with_reducible apply runeI);exact inferInstance;exact inferInstance;((exact AuO)))
  |((with_reducible apply pickT);(exact AuM);(first|apply rfl|assumption);((exact AuO)))
  |((with_reducible apply pickF);(exact AuM);(first|apply rfl|assumption);((exact AuO)))
  |((with_reducible apply mkfI);(exact AuV))
  |((with_reducible apply entI S);(exact AuM);(exact AuX);(exact AuX);assumption)
  |((with_reducible apply entB S);(exact AuM);(exact AuX);(exact AuX);assumption;assumption)
  |((first|(with_reducible apply minI)|(with_reducible apply maxI))<;>(exact AuO))
  |((with_reducible apply idSl');first|((with_reducible apply scutH);exact inferInstance;(exact AuM);((exact AuO));assumption)|((with_reducible apply scutL);exact inferInstance;(exact AuM);((exact AuO));assumption)|((with_reducible apply scut2);exact inferInstance;(exact AuM);((exact AuO));((exact AuO));assumption))
  |(with_reducible apply rnMc)
  |(with_reducible apply rnAc)
  |((with_reducible apply Rm);(exact AuM))
  |((with_reducible apply Ra);(exact AuM))
  |((with_reducible apply QG);(exact AuM))
  |(first|((with_reducible apply ext02);(exact AuM))|((with_reducible apply ext12);(exact AuM))|((with_reducible apply ext03);(exact AuM))|((with_reducible apply ext13);(exact AuM))|((with_reducible apply ext23);(exact AuM)))
  |((with_reducible apply Qj);(exact AuM);apply rfl)
  |((with_reducible apply lenI);exact inferInstance;(exact AuM);(first|exact ZV (by assumption) (by assumption)|exact Ku (by assumption)|exact Ku (Iw EncI.out (by assumption))|exact ZV (by assumption) (by assumption)|exact Li (S.own_at (i:=0) rfl)|exact Li (S.own_at (i:=1) rfl)|exact Li (S.own_at (i:=2) rfl)|exact Li (S.own_at (i:=3) rfl)|exact Li (S.own_at (i:=4) rfl)|exact subLen (by assumption)|exact⟨_,_,rfl⟩))
  |((with_reducible apply lenS);exact inferInstance;(exact AuM))
  |((with_reducible apply sixI);exact inferInstance;(exact AuM);((exact AuO));assumption)
  |((with_reducible apply XM);(exact AuM))
  |((with_reducible apply rn_neg);(exact AuM))
  |(with_reducible apply rnAf))):g:=t
theorem Au{g:Prop}(t:g:=by
 (intros;rename_i h S)
 repeat' (first
  |((have hq:=zo);clear hq;(first|((with_reducible apply FZ hv);clear hv;intro uq hv)|((with_reducible apply GA hv);clear hv;intro hv hv2;((first|subst hv|(with_reducible replace hv:=Kr.mono hv hm)|(with_reducible replace hv:=Slc.mono hv hm)|((with_reducible replace hv:=SlcD.mono (RelM.out hm) hm hv);obtain⟨rq,hs,hr⟩:=hv)|((with_reducible have hv5:=RelM.out hm _ _ hv);clear hv)|(with_reducible replace hv:=JS.mono (RelM.out hm) hm hv)|(with_reducible replace hv:=hm _ _ hv)|(with_reducible replace hv:=Slc.mono hv (AS hl hm))|((with_reducible replace hv:=SlcD.mono (RelM.out (AS hl hm)) (AS hl hm) hv);obtain⟨rq,hs,hr⟩:=hv)|((with_reducible have hv5:=RelM.out (AS hl hm) _ _ hv);clear hv)|(with_reducible replace hv:=JS.mono (RelM.out (AS hl hm)) (AS hl hm) hv)|skip);(try ((with_reducible refine All (by assumption) hv ?_);clear hv;intro bq qq hv1 hv5 hb;subst hv1));(try (first|((with_reducible apply Aan hv5);clear hv5;intro uq hv5 hf;subst hv5)|((with_reducible apply Aao hv5);clear hv5;intro uq uq hv5 hf hf;subst hv5)|((with_reducible apply WV hv5);clear hv5;intro uq uq uq hv5 hf hf hf;subst hv5)|((with_reducible apply WW hv5);clear hv5;intro uq hv5 hf;subst hv5))));(have hv:=hv2);clear hv2)|(clear zo;((first|subst hv|(with_reducible replace hv:=Kr.mono hv hm)|(with_reducible replace hv:=Slc.mono hv hm)|((with_reducible replace hv:=SlcD.mono (RelM.out hm) hm hv);obtain⟨rq,hs,hr⟩:=hv)|((with_reducible have hv5:=RelM.out hm _ _ hv);clear hv)|(with_reducible replace hv:=JS.mono (RelM.out hm) hm hv)|(with_reducible replace hv:=hm _ _ hv)|(with_reducible replace hv:=Slc.mono hv (AS hl hm))|((with_reducible replace hv:=SlcD.mono (RelM.out (AS hl hm)) (AS hl hm) hv);obtain⟨rq,hs,hr⟩:=hv)|((with_reducible have hv5:=RelM.out (AS hl hm) _ _ hv);clear hv)|(with_reducible replace hv:=JS.mono (RelM.out (AS hl hm)) (AS hl hm) hv)|skip);(try ((with_reducible refine All (by assumption) hv ?_);clear hv;intro bq qq hv1 hv5 hb;subst hv1));(try (first|((with_reducible apply Aan hv5);clear hv5;intro uq hv5 hf;subst hv5)|((with_reducible apply Aao hv5);clear hv5;intro uq uq hv5 hf hf;subst hv5)|((with_reducible apply WV hv5);clear hv5;intro uq uq uq hv5 hf hf hf;subst hv5)|((with_reducible apply WW hv5);clear hv5;intro uq hv5 hf;subst hv5)))))))
  |((with_reducible apply chkX);(with_reducible apply h);clear h;intro hc h)|((with_reducible apply bindX);(with_reducible apply h);clear h;intro rb hr h;(try ((with_reducible refine All hr (by assumption) ?_);intro bq qq hv1 hv5 hb;subst hv1;(try (first|((with_reducible apply Aan hv5);clear hv5;intro uq hv5 hf;subst hv5)|((with_reducible apply Aao hv5);clear hv5;intro uq uq hv5 hf hf;subst hv5)|((with_reducible apply WV hv5);clear hv5;intro uq uq uq hv5 hf hf hf;subst hv5)|((with_reducible apply WW hv5);clear hv5;intro uq hv5 hf;subst hv5))))))|((with_reducible apply iteTC);(with_reducible apply h);(exact AuT);clear h;intro h)|((with_reducible apply iteFC);(with_reducible apply h);(exact AuF);clear h;intro h)
  |((with_reducible apply idL);first
   |((with_reducible apply Tmov S);apply rfl;apply rfl;clear S;(try clear aq);intro aq S)
   |(with_reducible apply Ld)
   |((with_reducible apply Tasg S);apply rfl;apply rfl;clear S;(try clear aq);intro aq S)
   |((with_reducible apply lv S);(exact AuR);apply rfl;clear S;(try clear aq);intro aq S)
   |((with_reducible apply TM S);apply rfl;apply rfl;apply rfl;first|apply rfl|assumption)
   |((with_reducible apply gskip S);apply rfl;apply rfl;apply rfl;(first|apply rfl|exact UL (by assumption)|exact neq_t (by assumption));apply rfl;clear S;(try clear aq);intro aq S)
   |((with_reducible apply l_skipU S);apply rfl;apply rfl;apply rfl;apply rfl;clear S;(try clear aq);intro aq S)
   |((with_reducible apply isJo);(with_reducible apply h);(with_reducible apply scJ S);apply rfl;apply rfl;apply rfl;apply rfl;(apply h);apply rfl;(clear S h;intro jj hb h S;(dsimp only[List.take,List.drop]);(try rw[hb] at h));rotate_left;(clear S h;intro jj hb h S;(dsimp only[List.take,List.drop]);(try rw[hb] at h));rotate_left;(clear S h;(try clear aq);intro cc aq wq h hk S;(dsimp only[List.take,List.drop]));rotate_right;rotate_right)
   |((with_reducible apply isIf);(with_reducible apply h);(with_reducible apply gsI S);apply rfl;apply rfl;apply rfl;apply rfl;(apply h);(all_goals (clear S h;intro hb h S;(try rw[hb] at h))))
   |((with_reducible apply scA S);apply rfl;apply rfl;apply rfl;apply rfl;apply rfl;(intro hb S;(dsimp only[List.take,List.drop]));rotate_left;(intro hb S;(dsimp only[List.take,List.drop]));rotate_left;(intro aq wq hk S;(dsimp only[List.take,List.drop]));rotate_right;rotate_right)
   |((with_reducible apply scO S);apply rfl;apply rfl;apply rfl;apply rfl;apply rfl;(intro hb S;(dsimp only[List.take,List.drop]));rotate_left;(intro hb S;(dsimp only[List.take,List.drop]));rotate_left;(intro aq wq hk S;(dsimp only[List.take,List.drop]));rotate_right;rotate_right)
   |((with_reducible apply gsplit S);apply rfl;apply rfl;apply rfl;apply rfl;(all_goals (clear S;intro hb S;(first|(replace h:=ZH h hb)|(replace h:=ZI h hb)|skip);(try rw[hb] at h))))
   |((with_reducible apply stX zc);(revert S;revert h;(repeat (first|revert rq|revert hq|revert hs|revert hv|revert hsel|revert hl|revert pq|revert uq|revert vq|revert hc|revert hb|revert hr|revert hm|revert hk|revert hf|revert hd|revert hi|revert rb|revert bq|revert oq|revert cc|revert jj|revert xq|revert hn|revert hlt|revert hM0|revert hM1|revert hM2|revert hM3|revert dq|revert iq|revert yq|revert ysq|revert mq|revert aq|revert wq));(repeat (rename_i xq;(fail_if_success ((with_reducible apply JW);(with_reducible apply xq)));revert xq)));exact k1.out)
   |((with_reducible apply l_c0 S);(exact AuV);(first|exact⟨egs,hself⟩|exact inferInstance|exact⟨eg,hpc⟩);(intro F;(((with_reducible apply F)<;>(try (first|((with_reducible apply hdX S);(exact AuX))|((with_reducible apply blkV S);(first|(exact atI 0 rfl;apply rfl)|(exact atI 1 rfl;apply rfl)|(exact atI 2 rfl;apply rfl)|(exact atI 3 rfl;apply rfl)|(exact atI 4 rfl;apply rfl)|(exact atI 5 rfl;apply rfl)|(exact atI 6 rfl;apply rfl)|(exact atI 7 rfl;apply rfl)|(exact atI 8 rfl;apply rfl)|(exact atI 9 rfl;apply rfl)|(exact atI 10 rfl;apply rfl)|(exact atI 11 rfl;apply rfl)|(exact atI 12 rfl;apply rfl)))|exact S.le_new Gb _ _ (by assumption)|exact So (S.le_arg Gb) (S.le_new Gb) _ _ (by assumption)|exact View.le_trans hψ (S.le_arg Gb) _ _ (by assumption)|exact So (View.le_trans hψ (S.le_arg Gb)) (S.le_new Gb) _ _ (by assumption))))<;>(try (repeat' (first|((with_reducible apply idEq);(fail_if_success (with_reducible apply WR));apply rfl)|((fail_if_success (with_reducible apply WR));assumption)|((with_reducible apply idSl);(exact AuD))|((with_reducible apply hdX S);(exact AuX))|exact S.le_arg Gb _ _ (by assumption)|exact la_at S (by first|exact⟨0,_,rfl,rfl⟩|exact⟨1,_,rfl,rfl⟩|exact⟨2,_,rfl,rfl⟩|exact⟨3,_,rfl,rfl⟩|exact⟨4,_,rfl,rfl⟩|exact⟨5,_,rfl,rfl⟩|exact⟨6,_,rfl,rfl⟩|exact⟨7,_,rfl,rfl⟩|exact⟨8,_,rfl,rfl⟩|exact⟨9,_,rfl,rfl⟩|exact⟨10,_,rfl,rfl⟩|exact⟨11,_,rfl,rfl⟩|exact⟨12,_,rfl,rfl⟩) (by assumption)|exact FnT.call (vs:=[])|((with_reducible apply idLe);(first|exact So (View.le_trans hψ (S.le_arg Gb)) (S.le_new Gb)|exact So (S.le_arg Gb) (S.le_new Gb)))|exact SE (S.le_arg Gb) (by assumption)|exact SE (So (S.le_arg Gb) (S.le_new Gb)) (by assumption)|exact SE (S.le_new Gb) (by assumption)|exact SF (S.le_arg Gb) (by assumption)|exact SF (So (S.le_arg Gb) (S.le_new Gb)) (by assumption)|exact SF (S.le_new Gb) (by assumption)|exact OP (S.le_arg Gb) (by assumption)|exact OP (So (S.le_arg Gb) (S.le_new Gb)) (by assumption)|exact OP (S.le_new Gb) (by assumption)|exact NA (S.le_arg Gb) (by assumption)|exact NA (So (S.le_arg Gb) (S.le_new Gb)) (by assumption)|exact NA (S.le_new Gb) (by assumption)|exact MY (S.le_arg Gb) (by assumption)|exact MY (So (S.le_arg Gb) (S.le_new Gb)) (by assumption)|exact MY (S.le_new Gb) (by assumption)|exact MZ (S.le_arg Gb) (by assumption)|exact MZ (So (S.le_arg Gb) (S.le_new Gb)) (by assumption)|exact MZ (S.le_new Gb) (by assumption)|(refine DJ.mono (by assumption) (S.le_arg Gb))|(refine CZ.mono (by assumption) (S.le_arg Gb))|(refine DJ.mono (by assumption) (la_le S (by first|exact⟨0,_,rfl,rfl⟩|exact⟨1,_,rfl,rfl⟩|exact⟨2,_,rfl,rfl⟩|exact⟨3,_,rfl,rfl⟩|exact⟨4,_,rfl,rfl⟩|exact⟨5,_,rfl,rfl⟩|exact⟨6,_,rfl,rfl⟩|exact⟨7,_,rfl,rfl⟩|exact⟨8,_,rfl,rfl⟩|exact⟨9,_,rfl,rfl⟩|exact⟨10,_,rfl,rfl⟩|exact⟨11,_,rfl,rfl⟩|exact⟨12,_,rfl,rfl⟩)))|(refine CZ.mono (by assumption) (la_le S (by first|exact⟨0,_,rfl,rfl⟩|exact⟨1,_,rfl,rfl⟩|exact⟨2,_,rfl,rfl⟩|exact⟨3,_,rfl,rfl⟩|exact⟨4,_,rfl,rfl⟩|exact⟨5,_,rfl,rfl⟩|exact⟨6,_,rfl,rfl⟩|exact⟨7,_,rfl,rfl⟩|exact⟨8,_,rfl,rfl⟩|exact⟨9,_,rfl,rfl⟩|exact⟨10,_,rfl,rfl⟩|exact⟨11,_,rfl,rfl⟩|exact⟨12,_,rfl,rfl⟩)))|((with_reducible apply blkVO S);(first|(exact atI 0 rfl;exact atI 1 rfl;apply rfl)|(exact atI 0 rfl;exact atI 2 rfl;apply rfl)|(exact atI 0 rfl;exact atI 3 rfl;apply rfl)|(exact atI 0 rfl;exact atI 4 rfl;apply rfl)|(exact atI 1 rfl;exact atI 0 rfl;apply rfl)|(exact atI 1 rfl;exact atI 2 rfl;apply rfl)|(exact atI 1 rfl;exact atI 3 rfl;apply rfl)|(exact atI 1 rfl;exact atI 4 rfl;apply rfl)|(exact atI 2 rfl;exact atI 0 rfl;apply rfl)|(exact atI 2 rfl;exact atI 1 rfl;apply rfl)|(exact atI 2 rfl;exact atI 3 rfl;apply rfl)|(exact atI 2 rfl;exact atI 4 rfl;apply rfl)|(exact atI 3 rfl;exact atI 0 rfl;apply rfl)|(exact atI 3 rfl;exact atI 1 rfl;apply rfl)|(exact atI 3 rfl;exact atI 2 rfl;apply rfl)|(exact atI 3 rfl;exact atI 4 rfl;apply rfl)|(exact atI 4 rfl;exact atI 0 rfl;apply rfl)|(exact atI 4 rfl;exact atI 1 rfl;apply rfl)|(exact atI 4 rfl;exact atI 2 rfl;apply rfl)|(exact atI 4 rfl;exact atI 3 rfl;apply rfl)))|((with_reducible apply blkV S);(first|(exact atI 0 rfl;apply rfl)|(exact atI 1 rfl;apply rfl)|(exact atI 2 rfl;apply rfl)|(exact atI 3 rfl;apply rfl)|(exact atI 4 rfl;apply rfl)|(exact atI 5 rfl;apply rfl)|(exact atI 6 rfl;apply rfl)|(exact atI 7 rfl;apply rfl)|(exact atI 8 rfl;apply rfl)|(exact atI 9 rfl;apply rfl)|(exact atI 10 rfl;apply rfl)|(exact atI 11 rfl;apply rfl)|(exact atI 12 rfl;apply rfl)))|((with_reducible apply Aia S);exact inferInstance;(first|(exact atI 0 rfl;exact atI 1 rfl;apply rfl)|(exact atI 0 rfl;exact atI 2 rfl;apply rfl)|(exact atI 0 rfl;exact atI 3 rfl;apply rfl)|(exact atI 0 rfl;exact atI 4 rfl;apply rfl)|(exact atI 1 rfl;exact atI 0 rfl;apply rfl)|(exact atI 1 rfl;exact atI 2 rfl;apply rfl)|(exact atI 1 rfl;exact atI 3 rfl;apply rfl)|(exact atI 1 rfl;exact atI 4 rfl;apply rfl)|(exact atI 2 rfl;exact atI 0 rfl;apply rfl)|(exact atI 2 rfl;exact atI 1 rfl;apply rfl)|(exact atI 2 rfl;exact atI 3 rfl;apply rfl)|(exact atI 2 rfl;exact atI 4 rfl;apply rfl)|(exact atI 3 rfl;exact atI 0 rfl;apply rfl)|(exact atI 3 rfl;exact atI 1 rfl;apply rfl)|(exact atI 3 rfl;exact atI 2 rfl;apply rfl)|(exact atI 3 rfl;exact atI 4 rfl;apply rfl)|(exact atI 4 rfl;exact atI 0 rfl;apply rfl)|(exact atI 4 rfl;exact atI 1 rfl;apply rfl)|(exact atI 4 rfl;exact atI 2 rfl;apply rfl)|(exact atI 4 rfl;exact atI 3 rfl;apply rfl)))|(with_reducible apply WT)|(with_reducible apply WU)|(with_reducible apply TT)|(with_reducible apply TU)|exact AL|exact Wk))))<;>((with_reducible apply WR);assumption));intro he hF hC;(first|((with_reducible apply l_ctk S);assumption;exact he;exact hF;exact hC;apply rfl;clear he hF hC;clear S;(try clear aq);intro vq aq wq hk S)|((with_reducible apply l_ctkE S);assumption;exact he;exact hF;exact hC;apply rfl;clear he hF hC;clear S;(try clear aq);intro vq aq wq hk S)|((with_reducible apply l_clT S);exact he;exact hF;exact hC;apply rfl;clear he hF hC;clear S;(try clear aq);intro hz vq aq wq hv hk hn S;(first|(subst hv;clear hz hn)|((with_reducible apply seeO S hn hz hv);clear S hn hz hv;intro pq hl hf S)|((with_reducible apply seeO1 S hn hz);(apply hv);clear S hn hz hv;intro uq pq hl hf S)|((with_reducible apply seeX S hn hz);clear S hn hz;intro pq hl hm S;(have zo:Opn:=⟨⟩))))|((with_reducible apply l_clO S);exact he;exact hF;exact hC;(first|(exact atI 0 rfl;apply rfl;apply rfl)|(exact atI 1 rfl;apply rfl;apply rfl)|(exact atI 2 rfl;apply rfl;apply rfl)|(exact atI 3 rfl;apply rfl;apply rfl)|(exact atI 4 rfl;apply rfl;apply rfl)|(exact atI 5 rfl;apply rfl;apply rfl)|(exact atI 6 rfl;apply rfl;apply rfl)|(exact atI 7 rfl;apply rfl;apply rfl)|(exact atI 8 rfl;apply rfl;apply rfl)|(exact atI 9 rfl;apply rfl;apply rfl)|(exact atI 10 rfl;apply rfl;apply rfl)|(exact atI 11 rfl;apply rfl;apply rfl)|(exact atI 12 rfl;apply rfl;apply rfl));apply rfl;clear he hF hC;clear S;(try clear aq);intro aq wq hk S;(replace S:=nrm S rfl))|((with_reducible apply l_clV S);exact he;exact hF;exact hC;(first|(exact atI 0 rfl;apply rfl;apply rfl)|(exact atI 1 rfl;apply rfl;apply rfl)|(exact atI 2 rfl;apply rfl;apply rfl)|(exact atI 3 rfl;apply rfl;apply rfl)|(exact atI 4 rfl;apply rfl;apply rfl)|(exact atI 5 rfl;apply rfl;apply rfl)|(exact atI 6 rfl;apply rfl;apply rfl)|(exact atI 7 rfl;apply rfl;apply rfl)|(exact atI 8 rfl;apply rfl;apply rfl)|(exact atI 9 rfl;apply rfl;apply rfl)|(exact atI 10 rfl;apply rfl;apply rfl)|(exact atI 11 rfl;apply rfl;apply rfl)|(exact atI 12 rfl;apply rfl;apply rfl));apply rfl;clear he hF hC;clear S;(try clear aq);intro vq aq wq pq hl hf hk S;(replace S:=nrm S rfl))|((with_reducible apply l_clTk S);assumption;exact he;exact hF;exact hC;(first|exact⟨atI 0 rfl,rfl,rfl⟩|exact⟨atI 1 rfl,rfl,rfl⟩|exact⟨atI 2 rfl,rfl,rfl⟩|exact⟨atI 3 rfl,rfl,rfl⟩|exact⟨atI 4 rfl,rfl,rfl⟩|exact⟨atI 5 rfl,rfl,rfl⟩|exact⟨atI 6 rfl,rfl,rfl⟩|exact⟨atI 7 rfl,rfl,rfl⟩);apply rfl;clear he hF hC;clear S;(try clear aq);intro vq aq wq hk S;(replace S:=nrm S rfl))|((with_reducible apply l_clE S);exact he;exact hF;exact hC;(first|(exact atI 0 rfl;apply rfl;apply rfl)|(exact atI 1 rfl;apply rfl;apply rfl)|(exact atI 2 rfl;apply rfl;apply rfl)|(exact atI 3 rfl;apply rfl;apply rfl)|(exact atI 4 rfl;apply rfl;apply rfl)|(exact atI 5 rfl;apply rfl;apply rfl)|(exact atI 6 rfl;apply rfl;apply rfl)|(exact atI 7 rfl;apply rfl;apply rfl)|(exact atI 8 rfl;apply rfl;apply rfl)|(exact atI 9 rfl;apply rfl;apply rfl)|(exact atI 10 rfl;apply rfl;apply rfl)|(exact atI 11 rfl;apply rfl;apply rfl)|(exact atI 12 rfl;apply rfl;apply rfl));apply rfl;clear he hF hC;clear S;(try clear aq);intro vq aq wq pq hl hm hv hk S;(replace S:=nrm S rfl);(have zo:Opn:=⟨⟩))|((with_reducible apply l_clK S);exact he;exact hF;exact hC;(first|(exact atI 0 rfl;apply rfl;apply rfl)|(exact atI 1 rfl;apply rfl;apply rfl)|(exact atI 2 rfl;apply rfl;apply rfl)|(exact atI 3 rfl;apply rfl;apply rfl)|(exact atI 4 rfl;apply rfl;apply rfl)|(exact atI 5 rfl;apply rfl;apply rfl)|(exact atI 6 rfl;apply rfl;apply rfl)|(exact atI 7 rfl;apply rfl;apply rfl)|(exact atI 8 rfl;apply rfl;apply rfl)|(exact atI 9 rfl;apply rfl;apply rfl)|(exact atI 10 rfl;apply rfl;apply rfl)|(exact atI 11 rfl;apply rfl;apply rfl)|(exact atI 12 rfl;apply rfl;apply rfl));apply rfl;clear he hF hC;clear S;(try clear aq);intro vq aq wq hv hk S;(replace S:=nrm S rfl))|((with_reducible apply l_clG S);exact he;exact hF;exact hC;(first|(exact atI 0 rfl;apply rfl)|(exact atI 1 rfl;apply rfl)|(exact atI 2 rfl;apply rfl)|(exact atI 3 rfl;apply rfl)|(exact atI 4 rfl;apply rfl)|(exact atI 5 rfl;apply rfl)|(exact atI 6 rfl;apply rfl)|(exact atI 7 rfl;apply rfl)|(exact atI 8 rfl;apply rfl)|(exact atI 9 rfl;apply rfl)|(exact atI 10 rfl;apply rfl)|(exact atI 11 rfl;apply rfl)|(exact atI 12 rfl;apply rfl));apply rfl;clear he hF hC;clear S;(try clear aq);intro vq aq wq pq hl hf hk S;(replace S:=nrm S rfl))))
   |((with_reducible apply l_bwX S);assumption;(exact AuV);apply rfl;apply rfl;apply rfl;apply rfl;apply rfl;apply rfl;assumption;clear S;(try clear aq);intro vq aq wq S;(replace S:=nrm S rfl))
   |((with_reducible apply l_idxG S);exact inferInstance;apply rfl;apply rfl;(exact AuC);assumption;assumption;apply rfl;clear S;(try clear aq);intro aq bq oq hm S)
   |((with_reducible apply l_idxDG S);exact inferInstance;apply rfl;apply rfl;assumption;assumption;assumption;assumption;apply rfl;clear S;(try clear aq);intro aq bq oq rq hq hm S;(try (obtain⟨uq,hq1,hq⟩:=hq;subst hq1)))
   |((with_reducible apply l_idxI S);exact inferInstance;apply rfl;apply rfl;(exact AuC);assumption;apply rfl;rotate_left;exact inferInstance;clear S;(try clear aq);intro aq bq oq hm S)
   |((with_reducible apply l_idxC S);exact inferInstance;apply rfl;(exact AuC);assumption;apply rfl;rotate_left;exact inferInstance;clear S;(try clear aq);intro aq bq oq hm S)
   |((with_reducible apply l_idxOG S);exact inferInstance;apply rfl;apply rfl;(exact AuX);exact inferInstance;assumption;assumption;apply rfl;clear S;(try clear aq);intro aq bq oq S)
   |((with_reducible apply l_idxSub S);exact inferInstance;apply rfl;assumption;(exact AuX);exact inferInstance;((exact AuO));assumption;apply rfl;clear S;(try clear aq);intro aq bq oq S)
   |((with_reducible apply l_idxO S);exact inferInstance;apply rfl;(exact AuX);exact inferInstance;exact inferInstance;((exact AuO));assumption;apply rfl;clear S;(try clear aq);intro aq bq oq S)
   |((with_reducible apply l_boxA S);(exact AuM);apply rfl;clear S;(try clear aq);intro aq wq bq hk S)
   |((with_reducible apply l_boxV S);(exact AuM);(first|apply rfl|exact Jc.cells (by(exact AuQ)));apply rfl;clear S;(try clear aq);intro aq wq bq hk S)
   |((with_reducible apply l_allocI S);exact inferInstance;apply rfl;apply rfl;clear S;intro aq wq bq S)
   |((with_reducible apply l_bs1 S);(first|exact SlT.under SlI.out|exact UnI.out);exact inferInstance;exact inferInstance;(exact AuM);((exact AuQ));apply rfl;clear S;(try clear aq);intro aq wq bq hk S)
   |((with_reducible apply l_bsF S);assumption;(first|exact SlT.under SlI.out|exact UnI.out);exact inferInstance;exact inferInstance;apply rfl;apply rfl;(exact AuP);apply rfl;kernel_rfl;exact inferInstance;apply rfl;apply rfl;(first|exact inXY (by first|exact⟨0,_,rfl,rfl⟩|exact⟨1,_,rfl,rfl⟩|exact⟨2,_,rfl,rfl⟩|exact⟨3,_,rfl,rfl⟩|exact⟨4,_,rfl,rfl⟩|exact⟨5,_,rfl,rfl⟩|exact⟨6,_,rfl,rfl⟩|exact⟨7,_,rfl,rfl⟩|exact⟨8,_,rfl,rfl⟩|exact⟨9,_,rfl,rfl⟩|exact⟨10,_,rfl,rfl⟩|exact⟨11,_,rfl,rfl⟩|exact⟨12,_,rfl,rfl⟩)|exact(λ_ h=>absurd h bM));apply rfl;clear S;(try clear aq);intro aq wq bq pq hk hl hf S)
   |((with_reducible apply l_bsI S);exact inferInstance;exact inferInstance;exact inferInstance;apply rfl;apply rfl;(exact AuP);apply rfl;kernel_rfl;apply rfl;clear S;(try clear aq);intro aq wq bq hk S)
   |((with_reducible apply l_bsU S);exact inferInstance;exact inferInstance;exact inferInstance;apply rfl;apply rfl;(exact AuP);apply rfl;kernel_rfl;apply rfl;clear S;(try clear aq);intro aq wq bq hk S)
   |((with_reducible apply l_mkI S);exact inferInstance;apply rfl;clear S;(try clear aq);intro aq wq bq hk S)
   |((with_reducible apply l_muB S);exact inferInstance;(exact AuM);(exact AuX);assumption;((exact AuO));((exact AuO));clear S;intro wq uq uq hf hk S;(replace S:=nrm S rfl))
   |((with_reducible apply l_dlB S);exact inferInstance;(exact AuM);(exact AuX);assumption;((exact AuO));clear S;intro wq uq uq hf hk S;(replace S:=nrm S rfl))
   |((with_reducible apply l_muI S);exact inferInstance;(exact AuM);(exact AuX);((exact AuO));((exact AuO));clear S;intro wq hk S;(replace S:=nrm S rfl))
   |((with_reducible apply l_inI S);exact inferInstance;(exact AuM);(exact AuX);((exact AuO));((exact AuO));clear S;intro wq hk S;(replace S:=nrm S rfl))
   |((with_reducible apply l_app1R S);exact inferInstance;apply rfl;apply rfl;(exact AuX);assumption;(exact AuX);(first|apply row_28|apply row_68|apply row_179|apply row_296);apply rfl;(first|apply rfl|exact Jc.one (by(exact AuQ)));(first|exact slc_nilT _ _|exact Slc.mono (by assumption) (le_join_left _ _)|assumption);exact inferInstance;apply rfl;apply rfl;apply rfl;(first|assumption|apply rfl);apply rfl;clear S;(try clear aq);intro vq aq wq rq hk hr S;(replace S:=nrm S rfl))
   |((with_reducible apply l_app1 S);exact inferInstance;apply rfl;apply rfl;(exact AuX);(exact AuX);exact inferInstance;exact inferInstance;apply rfl;apply rfl;apply rfl;apply rfl;(first|assumption|apply rfl);apply rfl;clear S;(try clear aq);intro vq aq wq hk S;(replace S:=nrm S rfl))
   |((with_reducible apply l_appN S);exact inferInstance;apply rfl;apply rfl;(exact AuX);(exact AuX);exact inferInstance;exact inferInstance;apply rfl;apply rfl;apply rfl;apply rfl;apply rfl;(first|assumption|apply rfl);apply rfl;clear S;(try clear aq);intro vq aq wq hk S;(replace S:=nrm S rfl))
   |((with_reducible apply l_appSv (Y:=[]) S);exact inferInstance;apply rfl;apply rfl;(exact AuX);(first|exact EP EncI.out S (i:=0) rfl (λ_ _ h=>by cases h)|exact EP EncI.out S (i:=1) rfl (λ_ _ h=>by cases h)|exact EP EncI.out S (i:=2) rfl (λ_ _ h=>by cases h)|refine Slc.mono (by assumption) (S.le_arg Gb)|refine Slc.mono (by assumption) (S.le_new Gb)|refine Slc.mono (Iw EncI.out (by assumption)) (S.le_new Gb));exact inferInstance;apply rfl;apply rfl;apply rfl;(first|assumption|apply rfl);apply rfl;clear S;(try clear aq);intro vq aq wq hk S;(replace S:=nrm S rfl))
   |((with_reducible apply l_cutH S);exact inferInstance;apply rfl;(exact AuC);((exact AuO));assumption;apply rfl;clear S;(try clear aq);intro aq vq hs S)
   |((with_reducible apply l_cutL S);exact inferInstance;apply rfl;(exact AuC);((exact AuO));assumption;apply rfl;clear S;(try clear aq);intro aq vq hs S)
   |((with_reducible apply l_cut3 S);exact inferInstance;apply rfl;(exact AuC);((exact AuO));((exact AuO));((exact AuO));assumption;apply rfl;clear S;(try clear aq);intro aq vq hs S)
   |((with_reducible apply l_sub2 S);exact inferInstance;apply rfl;(exact AuX);((exact AuO));((exact AuO));assumption;apply rfl;clear S;(try clear aq);intro aq vq hs S)
   |((with_reducible apply l_stoO S);exact inferInstance;(exact AuM);assumption;(exact AuX);assumption;exact inferInstance;exact inferInstance;((exact AuO));apply rfl;apply rfl;apply rfl;apply rfl;rotate_left;exact inferInstance;clear S;intro wq hk S;(replace S:=nrm S rfl))
   |((with_reducible apply l_stoZ S);exact inferInstance;(exact AuM);assumption;(exact AuX);assumption;exact inferInstance;exact inferInstance;((exact AuO));apply rfl;apply rfl;apply rfl;apply rfl;rotate_left;exact inferInstance;clear S;intro wq hk S;(replace S:=nrm S rfl))
   |((with_reducible apply Anl S);exact inferInstance;(exact AuM);assumption;(exact AuX);assumption;exact inferInstance;exact inferInstance;((exact AuO));apply rfl;apply rfl;apply rfl;apply rfl;rotate_left;exact inferInstance;clear S;intro wq hk S;(replace S:=nrm S rfl))
   |((with_reducible apply l_stoZ1 S);exact inferInstance;(exact AuM);assumption;(exact AuX);assumption;exact inferInstance;exact inferInstance;((exact AuO));apply rfl;apply rfl;apply rfl;apply rfl;rotate_left;exact inferInstance;clear S;intro wq hk S;(replace S:=nrm S rfl))
   |((with_reducible apply l_rgI S);exact inferInstance;(exact AuM);(exact AuX);apply rfl;clear S;(try clear aq);intro aq wq bq hk S)
   |((first|((with_reducible apply l_nxI S);(exact h);apply rfl;(exact AuX);(exact AuX))|((with_reducible apply l_nxB S);(exact h);apply rfl;(exact AuX);(exact AuX);assumption));(intro _ _;exact rfl);apply rfl;(clear S h;(try clear aq);intro h aq S;(conv at h=>lhs;whnf));rotate_left;(clear S h;(try clear aq);intro yq ysq rq aq wq h hn hlt hl hk S;(replace S:=nrm S rfl)))
   |((with_reducible apply l_clF S);apply rfl;(exact AuV);apply rfl;(first|exact⟨egs,hself⟩|exact inferInstance|exact⟨eg,hpc⟩);(intro F;(((with_reducible apply F)<;>(try (first|((with_reducible apply hdX S);(exact AuX))|((with_reducible apply blkV S);(first|(exact atI 0 rfl;apply rfl)|(exact atI 1 rfl;apply rfl)|(exact atI 2 rfl;apply rfl)|(exact atI 3 rfl;apply rfl)|(exact atI 4 rfl;apply rfl)|(exact atI 5 rfl;apply rfl)|(exact atI 6 rfl;apply rfl)|(exact atI 7 rfl;apply rfl)|(exact atI 8 rfl;apply rfl)|(exact atI 9 rfl;apply rfl)|(exact atI 10 rfl;apply rfl)|(exact atI 11 rfl;apply rfl)|(exact atI 12 rfl;apply rfl)))|exact S.le_new Gb _ _ (by assumption)|exact So (S.le_arg Gb) (S.le_new Gb) _ _ (by assumption)|exact View.le_trans hψ (S.le_arg Gb) _ _ (by assumption)|exact So (View.le_trans hψ (S.le_arg Gb)) (S.le_new Gb) _ _ (by assumption))))<;>(try (repeat' (first|((with_reducible apply idEq);(fail_if_success (with_reducible apply WR));apply rfl)|((fail_if_success (with_reducible apply WR));assumption)|((with_reducible apply idSl);(exact AuD))|((with_reducible apply hdX S);(exact AuX))|exact S.le_arg Gb _ _ (by assumption)|exact la_at S (by first|exact⟨0,_,rfl,rfl⟩|exact⟨1,_,rfl,rfl⟩|exact⟨2,_,rfl,rfl⟩|exact⟨3,_,rfl,rfl⟩|exact⟨4,_,rfl,rfl⟩|exact⟨5,_,rfl,rfl⟩|exact⟨6,_,rfl,rfl⟩|exact⟨7,_,rfl,rfl⟩|exact⟨8,_,rfl,rfl⟩|exact⟨9,_,rfl,rfl⟩|exact⟨10,_,rfl,rfl⟩|exact⟨11,_,rfl,rfl⟩|exact⟨12,_,rfl,rfl⟩) (by assumption)|exact FnT.call (vs:=[])|((with_reducible apply idLe);(first|exact So (View.le_trans hψ (S.le_arg Gb)) (S.le_new Gb)|exact So (S.le_arg Gb) (S.le_new Gb)))|exact SE (S.le_arg Gb) (by assumption)|exact SE (So (S.le_arg Gb) (S.le_new Gb)) (by assumption)|exact SE (S.le_new Gb) (by assumption)|exact SF (S.le_arg Gb) (by assumption)|exact SF (So (S.le_arg Gb) (S.le_new Gb)) (by assumption)|exact SF (S.le_new Gb) (by assumption)|exact OP (S.le_arg Gb) (by assumption)|exact OP (So (S.le_arg Gb) (S.le_new Gb)) (by assumption)|exact OP (S.le_new Gb) (by assumption)|exact NA (S.le_arg Gb) (by assumption)|exact NA (So (S.le_arg Gb) (S.le_new Gb)) (by assumption)|exact NA (S.le_new Gb) (by assumption)|exact MY (S.le_arg Gb) (by assumption)|exact MY (So (S.le_arg Gb) (S.le_new Gb)) (by assumption)|exact MY (S.le_new Gb) (by assumption)|exact MZ (S.le_arg Gb) (by assumption)|exact MZ (So (S.le_arg Gb) (S.le_new Gb)) (by assumption)|exact MZ (S.le_new Gb) (by assumption)|(refine DJ.mono (by assumption) (S.le_arg Gb))|(refine CZ.mono (by assumption) (S.le_arg Gb))|(refine DJ.mono (by assumption) (la_le S (by first|exact⟨0,_,rfl,rfl⟩|exact⟨1,_,rfl,rfl⟩|exact⟨2,_,rfl,rfl⟩|exact⟨3,_,rfl,rfl⟩|exact⟨4,_,rfl,rfl⟩|exact⟨5,_,rfl,rfl⟩|exact⟨6,_,rfl,rfl⟩|exact⟨7,_,rfl,rfl⟩|exact⟨8,_,rfl,rfl⟩|exact⟨9,_,rfl,rfl⟩|exact⟨10,_,rfl,rfl⟩|exact⟨11,_,rfl,rfl⟩|exact⟨12,_,rfl,rfl⟩)))|(refine CZ.mono (by assumption) (la_le S (by first|exact⟨0,_,rfl,rfl⟩|exact⟨1,_,rfl,rfl⟩|exact⟨2,_,rfl,rfl⟩|exact⟨3,_,rfl,rfl⟩|exact⟨4,_,rfl,rfl⟩|exact⟨5,_,rfl,rfl⟩|exact⟨6,_,rfl,rfl⟩|exact⟨7,_,rfl,rfl⟩|exact⟨8,_,rfl,rfl⟩|exact⟨9,_,rfl,rfl⟩|exact⟨10,_,rfl,rfl⟩|exact⟨11,_,rfl,rfl⟩|exact⟨12,_,rfl,rfl⟩)))|((with_reducible apply blkVO S);(first|(exact atI 0 rfl;exact atI 1 rfl;apply rfl)|(exact atI 0 rfl;exact atI 2 rfl;apply rfl)|(exact atI 0 rfl;exact atI 3 rfl;apply rfl)|(exact atI 0 rfl;exact atI 4 rfl;apply rfl)|(exact atI 1 rfl;exact atI 0 rfl;apply rfl)|(exact atI 1 rfl;exact atI 2 rfl;apply rfl)|(exact atI 1 rfl;exact atI 3 rfl;apply rfl)|(exact atI 1 rfl;exact atI 4 rfl;apply rfl)|(exact atI 2 rfl;exact atI 0 rfl;apply rfl)|(exact atI 2 rfl;exact atI 1 rfl;apply rfl)|(exact atI 2 rfl;exact atI 3 rfl;apply rfl)|(exact atI 2 rfl;exact atI 4 rfl;apply rfl)|(exact atI 3 rfl;exact atI 0 rfl;apply rfl)|(exact atI 3 rfl;exact atI 1 rfl;apply rfl)|(exact atI 3 rfl;exact atI 2 rfl;apply rfl)|(exact atI 3 rfl;exact atI 4 rfl;apply rfl)|(exact atI 4 rfl;exact atI 0 rfl;apply rfl)|(exact atI 4 rfl;exact atI 1 rfl;apply rfl)|(exact atI 4 rfl;exact atI 2 rfl;apply rfl)|(exact atI 4 rfl;exact atI 3 rfl;apply rfl)))|((with_reducible apply blkV S);(first|(exact atI 0 rfl;apply rfl)|(exact atI 1 rfl;apply rfl)|(exact atI 2 rfl;apply rfl)|(exact atI 3 rfl;apply rfl)|(exact atI 4 rfl;apply rfl)|(exact atI 5 rfl;apply rfl)|(exact atI 6 rfl;apply rfl)|(exact atI 7 rfl;apply rfl)|(exact atI 8 rfl;apply rfl)|(exact atI 9 rfl;apply rfl)|(exact atI 10 rfl;apply rfl)|(exact atI 11 rfl;apply rfl)|(exact atI 12 rfl;apply rfl)))|((with_reducible apply Aia S);exact inferInstance;(first|(exact atI 0 rfl;exact atI 1 rfl;apply rfl)|(exact atI 0 rfl;exact atI 2 rfl;apply rfl)|(exact atI 0 rfl;exact atI 3 rfl;apply rfl)|(exact atI 0 rfl;exact atI 4 rfl;apply rfl)|(exact atI 1 rfl;exact atI 0 rfl;apply rfl)|(exact atI 1 rfl;exact atI 2 rfl;apply rfl)|(exact atI 1 rfl;exact atI 3 rfl;apply rfl)|(exact atI 1 rfl;exact atI 4 rfl;apply rfl)|(exact atI 2 rfl;exact atI 0 rfl;apply rfl)|(exact atI 2 rfl;exact atI 1 rfl;apply rfl)|(exact atI 2 rfl;exact atI 3 rfl;apply rfl)|(exact atI 2 rfl;exact atI 4 rfl;apply rfl)|(exact atI 3 rfl;exact atI 0 rfl;apply rfl)|(exact atI 3 rfl;exact atI 1 rfl;apply rfl)|(exact atI 3 rfl;exact atI 2 rfl;apply rfl)|(exact atI 3 rfl;exact atI 4 rfl;apply rfl)|(exact atI 4 rfl;exact atI 0 rfl;apply rfl)|(exact atI 4 rfl;exact atI 1 rfl;apply rfl)|(exact atI 4 rfl;exact atI 2 rfl;apply rfl)|(exact atI 4 rfl;exact atI 3 rfl;apply rfl)))|(with_reducible apply WT)|(with_reducible apply WU)|(with_reducible apply TT)|(with_reducible apply TU)|exact AL|exact Wk))))<;>((with_reducible apply WR);assumption));apply rfl;clear S;(try clear aq);intro hz vq aq wq hv hk hn S;(first|(subst hv;clear hz hn)|((with_reducible apply seeO S hn hz hv);clear S hn hz hv;intro pq hl hf S)|((with_reducible apply seeO1 S hn hz);(apply hv);clear S hn hz hv;intro uq pq hl hf S)|((with_reducible apply seeX S hn hz);clear S hn hz;intro pq hl hm S;(have zo:Opn:=⟨⟩))))
   |((with_reducible apply l_storeW S);exact inferInstance;(exact AuM);(exact AuX);(exact AuM);apply rfl;apply rfl;(exact AuB);clear S;intro wq hk S;(replace S:=nrm S rfl))
   |((with_reducible apply l_storeV S);exact inferInstance;(exact AuM);(exact AuX);((exact AuO));(first|apply rfl|exact Jc.cells (by(exact AuQ)));apply rfl;(first|apply rfl|exact Jc.one (by(exact AuQ)));clear S;intro wq hk S;(replace S:=nrm S rfl))
   |((with_reducible apply joinX);(with_reducible apply h);clear h;intro h))
  |((with_reducible apply idC);first
   |((have hq:=zG);clear hq;(first|(with_reducible apply idBl)|(with_reducible apply idRg));(with_reducible apply idN zn);(with_reducible apply isJo);(with_reducible apply h);(replace S:=nrm (nilS zl S) rfl);(with_reducible apply jn zq zts zm zG S);(exact h);apply rfl;apply rfl;(clear h;intro jj h;(revert S;revert h;(repeat (first|revert rq|revert hq|revert hs|revert hv|revert hsel|revert hl|revert pq|revert uq|revert vq|revert hc|revert hb|revert hr|revert hm|revert hk|revert hf|revert hd|revert hi|revert rb|revert bq|revert oq|revert cc|revert jj|revert xq|revert hn|revert hlt|revert hM0|revert hM1|revert hM2|revert hM3|revert dq|revert iq|revert yq|revert ysq|revert mq|revert aq|revert wq));(repeat (rename_i xq;(fail_if_success ((with_reducible apply JW);(with_reducible apply xq)));revert xq)));exact k1.out);(clear S h;intro aq wq hJ;((repeat (first|((with_reducible apply exCe hJ);clear hJ;intro xq hJ)|((with_reducible apply FZ);(with_reducible apply hJ);clear hJ;intro xq hJ)));(first|(with_reducible apply exNe hJ)|((with_reducible apply GA);(with_reducible apply hJ)));clear hJ;intro h hJ;(repeat (first|((with_reducible apply FZ);(with_reducible apply hJ);clear hJ;intro xq hJ)|((with_reducible apply GA);(with_reducible apply hJ);clear hJ;intro hf hJ)));have S:=nrm hJ rfl;clear hJ);(revert S;revert h;(repeat (first|revert rq|revert hq|revert hs|revert hv|revert hsel|revert hl|revert pq|revert uq|revert vq|revert hc|revert hb|revert hr|revert hm|revert hk|revert hf|revert hd|revert hi|revert rb|revert bq|revert oq|revert cc|revert jj|revert xq|revert hn|revert hlt|revert hM0|revert hM1|revert hM2|revert hM3|revert dq|revert iq|revert yq|revert ysq|revert mq|revert aq|revert wq));(repeat (rename_i xq;(fail_if_success ((with_reducible apply JW);(with_reducible apply xq)));revert xq)));exact k2.out))
   |((have hq:=zI);clear hq;(with_reducible apply idLp);(replace S:=nrm (nilS zl S) rfl);(try have hM0:=Wf (S.own_at (i:=0) rfl));(try have hM1:=Wf (S.own_at (i:=1) rfl));(try have hM2:=Wf (S.own_at (i:=2) rfl));(try have hM3:=Wf (S.own_at (i:=3) rfl));(first|(with_reducible apply lr0_0 zts zm zI zJ S)|(with_reducible apply lr1_1 zts zm zI zJ S)|(with_reducible apply lr2_2 zts zm zI zJ S)|(with_reducible apply lr3_3 zts zm zI zJ S)|(with_reducible apply lr4_4 zts zm zI zJ S));(with_reducible apply h);apply rfl;apply rfl;(clear h;intro jj h);rotate_left;(clear S h;intro jj ysq iq dq aq wq hd hi hJ;((repeat (first|((with_reducible apply exCe hJ);clear hJ;intro xq hJ)|((with_reducible apply FZ);(with_reducible apply hJ);clear hJ;intro xq hJ)));(first|(with_reducible apply exNe hJ)|((with_reducible apply GA);(with_reducible apply hJ)));clear hJ;intro h hJ;(repeat (first|((with_reducible apply FZ);(with_reducible apply hJ);clear hJ;intro xq hJ)|((with_reducible apply GA);(with_reducible apply hJ);clear hJ;intro hf hJ)));have S:=nrm hJ rfl;clear hJ);rcases ysq with _|⟨yq,ysq⟩;(rw[e1] at h);rotate_left;(rw[e2] at h;(revert S;revert h;(repeat (first|revert rq|revert hq|revert hs|revert hv|revert hsel|revert hl|revert pq|revert uq|revert vq|revert hc|revert hb|revert hr|revert hm|revert hk|revert hf|revert hd|revert hi|revert rb|revert bq|revert oq|revert cc|revert jj|revert xq|revert hn|revert hlt|revert hM0|revert hM1|revert hM2|revert hM3|revert dq|revert iq|revert yq|revert ysq|revert mq|revert aq|revert wq));(repeat (rename_i xq;(fail_if_success ((with_reducible apply JW);(with_reducible apply xq)));revert xq)));exact k1.out));(clear S h;intro aq wq hJ;((repeat (first|((with_reducible apply exCe hJ);clear hJ;intro xq hJ)|((with_reducible apply FZ);(with_reducible apply hJ);clear hJ;intro xq hJ)));(first|(with_reducible apply exNe hJ)|((with_reducible apply GA);(with_reducible apply hJ)));clear hJ;intro h hJ;(repeat (first|((with_reducible apply FZ);(with_reducible apply hJ);clear hJ;intro xq hJ)|((with_reducible apply GA);(with_reducible apply hJ);clear hJ;intro hf hJ)));have S:=nrm hJ rfl;clear hJ);(revert S;revert h;(repeat (first|revert rq|revert hq|revert hs|revert hv|revert hsel|revert hl|revert pq|revert uq|revert vq|revert hc|revert hb|revert hr|revert hm|revert hk|revert hf|revert hd|revert hi|revert rb|revert bq|revert oq|revert cc|revert jj|revert xq|revert hn|revert hlt|revert hM0|revert hM1|revert hM2|revert hM3|revert dq|revert iq|revert yq|revert ysq|revert mq|revert aq|revert wq));(repeat (rename_i xq;(fail_if_success ((with_reducible apply JW);(with_reducible apply xq)));revert xq)));exact k2.out))
   |((have hq:=zM);clear hq;(with_reducible apply idLp);(replace S:=nrm (nilS zl S) rfl);(with_reducible apply lm zts zm zI zM S);(exact h);apply rfl;apply rfl;(first|exact leftB_0 (by assumption)|exact leftL_0 _);rotate_left;(clear S h;intro jj ysq xq aq wq h hJ;(repeat (first|((with_reducible apply FZ);(with_reducible apply hJ);clear hJ;intro xq hJ)|((with_reducible apply GA);(with_reducible apply hJ);clear hJ;intro hf hJ)));have S:=nrm hJ rfl;clear hJ;(revert S;revert h;(repeat (first|revert rq|revert hq|revert hs|revert hv|revert hsel|revert hl|revert pq|revert uq|revert vq|revert hc|revert hb|revert hr|revert hm|revert hk|revert hf|revert hd|revert hi|revert rb|revert bq|revert oq|revert cc|revert jj|revert xq|revert hn|revert hlt|revert hM0|revert hM1|revert hM2|revert hM3|revert dq|revert iq|revert yq|revert ysq|revert mq|revert aq|revert wq));(repeat (rename_i xq;(fail_if_success ((with_reducible apply JW);(with_reducible apply xq)));revert xq)));exact k1.out);(clear S h;intro aq wq hJ;((repeat (first|((with_reducible apply exCe hJ);clear hJ;intro xq hJ)|((with_reducible apply FZ);(with_reducible apply hJ);clear hJ;intro xq hJ)));(first|(with_reducible apply exNe hJ)|((with_reducible apply GA);(with_reducible apply hJ)));clear hJ;intro h hJ;(repeat (first|((with_reducible apply FZ);(with_reducible apply hJ);clear hJ;intro xq hJ)|((with_reducible apply GA);(with_reducible apply hJ);clear hJ;intro hf hJ)));have S:=nrm hJ rfl;clear hJ);(revert S;revert h;(repeat (first|revert rq|revert hq|revert hs|revert hv|revert hsel|revert hl|revert pq|revert uq|revert vq|revert hc|revert hb|revert hr|revert hm|revert hk|revert hf|revert hd|revert hi|revert rb|revert bq|revert oq|revert cc|revert jj|revert xq|revert hn|revert hlt|revert hM0|revert hM1|revert hM2|revert hM3|revert dq|revert iq|revert yq|revert ysq|revert mq|revert aq|revert wq));(repeat (rename_i xq;(fail_if_success ((with_reducible apply JW);(with_reducible apply xq)));revert xq)));exact k2.out))
   |((have hq:=zI);clear hq;(with_reducible apply idLp);(replace S:=nrm (nilS zl S) rfl);(try have hM0:=Wf (S.own_at (i:=0) rfl));(try have hM1:=Wf (S.own_at (i:=1) rfl));(try have hM2:=Wf (S.own_at (i:=2) rfl));(try have hM3:=Wf (S.own_at (i:=3) rfl));(first|(with_reducible apply lc1_0 zts zm zI zJ S)|(with_reducible apply lc1_1 zts zm zI zJ S)|(with_reducible apply lc2_1 zts zm zI zJ S)|(with_reducible apply lc2_2 zts zm zI zJ S)|(with_reducible apply lc3_1 zts zm zI zJ S)|(with_reducible apply lc3_2 zts zm zI zJ S)|(with_reducible apply lc4_2 zts zm zI zJ S)|(with_reducible apply lc5_3 zts zm zI zJ S));(with_reducible apply h);apply rfl;apply rfl;(clear h;intro jj h);rotate_left;(clear S h;intro jj mq aq wq hJ;((repeat (first|((with_reducible apply exCe hJ);clear hJ;intro xq hJ)|((with_reducible apply FZ);(with_reducible apply hJ);clear hJ;intro xq hJ)));(first|(with_reducible apply exNe hJ)|((with_reducible apply GA);(with_reducible apply hJ)));clear hJ;intro h hJ;(repeat (first|((with_reducible apply FZ);(with_reducible apply hJ);clear hJ;intro xq hJ)|((with_reducible apply GA);(with_reducible apply hJ);clear hJ;intro hf hJ)));have S:=nrm hJ rfl;clear hJ);rcases mq with _|mq;(rw[e1] at h;cases h);(rw[e2] at h;(revert S;revert h;(repeat (first|revert rq|revert hq|revert hs|revert hv|revert hsel|revert hl|revert pq|revert uq|revert vq|revert hc|revert hb|revert hr|revert hm|revert hk|revert hf|revert hd|revert hi|revert rb|revert bq|revert oq|revert cc|revert jj|revert xq|revert hn|revert hlt|revert hM0|revert hM1|revert hM2|revert hM3|revert dq|revert iq|revert yq|revert ysq|revert mq|revert aq|revert wq));(repeat (rename_i xq;(fail_if_success ((with_reducible apply JW);(with_reducible apply xq)));revert xq)));exact k1.out));(clear S h;intro aq wq hJ;((repeat (first|((with_reducible apply exCe hJ);clear hJ;intro xq hJ)|((with_reducible apply FZ);(with_reducible apply hJ);clear hJ;intro xq hJ)));(first|(with_reducible apply exNe hJ)|((with_reducible apply GA);(with_reducible apply hJ)));clear hJ;intro h hJ;(repeat (first|((with_reducible apply FZ);(with_reducible apply hJ);clear hJ;intro xq hJ)|((with_reducible apply GA);(with_reducible apply hJ);clear hJ;intro hf hJ)));have S:=nrm hJ rfl;clear hJ);(revert S;revert h;(repeat (first|revert rq|revert hq|revert hs|revert hv|revert hsel|revert hl|revert pq|revert uq|revert vq|revert hc|revert hb|revert hr|revert hm|revert hk|revert hf|revert hd|revert hi|revert rb|revert bq|revert oq|revert cc|revert jj|revert xq|revert hn|revert hlt|revert hM0|revert hM1|revert hM2|revert hM3|revert dq|revert iq|revert yq|revert ysq|revert mq|revert aq|revert wq));(repeat (rename_i xq;(fail_if_success ((with_reducible apply JW);(with_reducible apply xq)));revert xq)));exact k2.out))
   |((have hq:=zI);clear hq;(with_reducible apply idLp);(replace S:=nrm (nilS zl S) rfl);(try have hM0:=Wf (S.own_at (i:=0) rfl));(try have hM1:=Wf (S.own_at (i:=1) rfl));(try have hM2:=Wf (S.own_at (i:=2) rfl));(try have hM3:=Wf (S.own_at (i:=3) rfl));(first|fail);(with_reducible apply h);apply rfl;apply rfl;(clear h;intro h);rotate_left;(clear S h;intro mq aq wq hJ;((repeat (first|((with_reducible apply exCe hJ);clear hJ;intro xq hJ)|((with_reducible apply FZ);(with_reducible apply hJ);clear hJ;intro xq hJ)));(first|(with_reducible apply exNe hJ)|((with_reducible apply GA);(with_reducible apply hJ)));clear hJ;intro h hJ;(repeat (first|((with_reducible apply FZ);(with_reducible apply hJ);clear hJ;intro xq hJ)|((with_reducible apply GA);(with_reducible apply hJ);clear hJ;intro hf hJ)));have S:=nrm hJ rfl;clear hJ);rcases mq with _|mq;(rw[e1] at h;cases h);(rw[e2] at h;(revert S;revert h;(repeat (first|revert rq|revert hq|revert hs|revert hv|revert hsel|revert hl|revert pq|revert uq|revert vq|revert hc|revert hb|revert hr|revert hm|revert hk|revert hf|revert hd|revert hi|revert rb|revert bq|revert oq|revert cc|revert jj|revert xq|revert hn|revert hlt|revert hM0|revert hM1|revert hM2|revert hM3|revert dq|revert iq|revert yq|revert ysq|revert mq|revert aq|revert wq));(repeat (rename_i xq;(fail_if_success ((with_reducible apply JW);(with_reducible apply xq)));revert xq)));exact k1.out)))
   |(with_reducible apply Fs)
   |(with_reducible apply Fg)
   |(with_reducible apply Tl)
   |(with_reducible apply Mf)
   |((fail_if_success (with_reducible apply idLp));(with_reducible apply Ia);(try replace zn:=zn.dec))
   |(with_reducible apply Xm)
   |((with_reducible apply csF zf S);apply rfl;(apply h);(clear S h zf;intro hb h S;(try rw[hb] at h);(revert S;revert h;(repeat (first|revert rq|revert hq|revert hs|revert hv|revert hsel|revert hl|revert pq|revert uq|revert vq|revert hc|revert hb|revert hr|revert hm|revert hk|revert hf|revert hd|revert hi|revert rb|revert bq|revert oq|revert cc|revert jj|revert xq|revert hn|revert hlt|revert hM0|revert hM1|revert hM2|revert hM3|revert dq|revert iq|revert yq|revert ysq|revert mq|revert aq|revert wq));(repeat (rename_i xq;(fail_if_success ((with_reducible apply JW);(with_reducible apply xq)));revert xq)));exact k1.out);(clear S h zf;intro hb h S;(try rw[hb] at h);(revert S;revert h;(repeat (first|revert rq|revert hq|revert hs|revert hv|revert hsel|revert hl|revert pq|revert uq|revert vq|revert hc|revert hb|revert hr|revert hm|revert hk|revert hf|revert hd|revert hi|revert rb|revert bq|revert oq|revert cc|revert jj|revert xq|revert hn|revert hlt|revert hM0|revert hM1|revert hM2|revert hM3|revert dq|revert iq|revert yq|revert ysq|revert mq|revert aq|revert wq));(repeat (rename_i xq;(fail_if_success ((with_reducible apply JW);(with_reducible apply xq)));revert xq)));exact k2.out))
   |((with_reducible apply condT S);apply rfl;(first|apply rfl|assumption|exact JQ (by assumption) (by assumption));(first|replace h:=ZH h rfl|replace h:=ZH h (by assumption)|skip))
   |((with_reducible apply condF S);apply rfl;(first|apply rfl|assumption|exact OJ (by assumption) (by assumption));(first|replace h:=ZI h rfl|replace h:=ZI h (by assumption)|skip))
   |((have hq:=zG);clear hq;(with_reducible apply idCo);(with_reducible apply isJo);(with_reducible apply h);(replace S:=nrm (nilS zl S) rfl);(with_reducible apply jn zq zts zm zG S);(exact h);apply rfl;apply rfl;(clear h;intro jj h;(revert S;revert h;(repeat (first|revert rq|revert hq|revert hs|revert hv|revert hsel|revert hl|revert pq|revert uq|revert vq|revert hc|revert hb|revert hr|revert hm|revert hk|revert hf|revert hd|revert hi|revert rb|revert bq|revert oq|revert cc|revert jj|revert xq|revert hn|revert hlt|revert hM0|revert hM1|revert hM2|revert hM3|revert dq|revert iq|revert yq|revert ysq|revert mq|revert aq|revert wq));(repeat (rename_i xq;(fail_if_success ((with_reducible apply JW);(with_reducible apply xq)));revert xq)));exact k1.out);(clear S h;intro aq wq hJ;((repeat (first|((with_reducible apply exCe hJ);clear hJ;intro xq hJ)|((with_reducible apply FZ);(with_reducible apply hJ);clear hJ;intro xq hJ)));(first|(with_reducible apply exNe hJ)|((with_reducible apply GA);(with_reducible apply hJ)));clear hJ;intro h hJ;(repeat (first|((with_reducible apply FZ);(with_reducible apply hJ);clear hJ;intro xq hJ)|((with_reducible apply GA);(with_reducible apply hJ);clear hJ;intro hf hJ)));have S:=nrm hJ rfl;clear hJ);(revert S;revert h;(repeat (first|revert rq|revert hq|revert hs|revert hv|revert hsel|revert hl|revert pq|revert uq|revert vq|revert hc|revert hb|revert hr|revert hm|revert hk|revert hf|revert hd|revert hi|revert rb|revert bq|revert oq|revert cc|revert jj|revert xq|revert hn|revert hlt|revert hM0|revert hM1|revert hM2|revert hM3|revert dq|revert iq|revert yq|revert ysq|revert mq|revert aq|revert wq));(repeat (rename_i xq;(fail_if_success ((with_reducible apply JW);(with_reducible apply xq)));revert xq)));exact k2.out))
   |((with_reducible apply isIf);(with_reducible apply h);(with_reducible apply csI S);apply rfl;(apply h);(all_goals (clear S h;intro hb h S;(try rw[hb] at h))))
   |((with_reducible apply csplit S);apply rfl;(all_goals (clear S;intro hb S;(first|(replace h:=ZH h hb)|(replace h:=ZI h hb)|skip);(try rw[hb] at h))))
   |((with_reducible apply f_drB);assumption;(have S':=S;exact S');apply rfl;kernel_rfl;clear S;intro wq hsel S;(try replace zn:=zn.dec))
   |((with_reducible apply f_drw S);apply rfl;kernel_rfl;kernel_rfl;clear S;intro wq S;(try replace zn:=zn.dec))
   |((with_reducible apply f_drE S);kernel_rfl;clear S;intro wq hsel S;(try replace zn:=zn.dec))
   |((with_reducible apply joinX);(with_reducible apply h);clear h;intro h))
  |((with_reducible apply idX);first|(with_reducible apply Tn)|(with_reducible apply Vo)|(with_reducible apply Nq))
  |((with_reducible apply idS);first
   |((with_reducible apply Acu S);(exact AuR);apply rfl;clear S;(try clear aq);intro aq S)
   |(with_reducible apply s_done0)
   |((with_reducible apply s_idxG S);exact inferInstance;apply rfl;apply rfl;(exact AuC);assumption;assumption;apply rfl;clear S;(try clear aq);intro aq bq oq hm S)
   |((with_reducible apply s_idxI S);exact inferInstance;apply rfl;((exact AuO));(exact AuC);assumption;apply rfl;rotate_left;exact inferInstance;clear S;(try clear aq);intro aq bq oq hm S)
   |((with_reducible apply s_idxDI S);exact inferInstance;apply rfl;((exact AuO));assumption;assumption;assumption;apply rfl;(try any_goals ((with_reducible apply VI);exact inferInstance));clear S;(try clear aq);intro aq bq oq rq hq hm S;(try (obtain⟨uq,hq1,hq⟩:=hq;subst hq1)))
   |((with_reducible apply s_idxO S);exact inferInstance;apply rfl;(exact AuX);exact inferInstance;exact inferInstance;((exact AuO));assumption;apply rfl;clear S;(try clear aq);intro aq bq oq S)
   |((with_reducible apply s_want0 S);apply rfl;apply rfl;apply rfl;first|apply rfl|assumption)
   |((with_reducible apply s_skip0 S);apply rfl;apply rfl;apply rfl;(first|apply rfl|exact UL (by assumption)|exact neq_t (by assumption));apply rfl;clear S;(try clear aq);intro aq S)
   |((with_reducible apply s_skU0 S);apply rfl;apply rfl;apply rfl;apply rfl;clear S;(try clear aq);intro aq S)
   |((with_reducible apply isIf);(with_reducible apply h);(with_reducible apply s_gsI S);apply rfl;apply rfl;apply rfl;apply rfl;(apply h);(all_goals (clear S h;intro hb h S;(try rw[hb] at h))))
   |((with_reducible apply s_split S);apply rfl;apply rfl;apply rfl;apply rfl;(all_goals (clear S;intro hb S;(first|(replace h:=ZH h hb)|(replace h:=ZI h hb)|skip);(try rw[hb] at h)))))
  |((with_reducible apply idE');first
   |((with_reducible apply Afo S hsel);apply rfl;apply rfl;apply rfl;kernel_rfl;kernel_rfl;apply rfl;(intro wz S;(exact AuR));clear S;(try clear aq);intro aq S)
   |((with_reducible apply Aaf S hsel);apply rfl;apply rfl;apply rfl;apply rfl;apply rfl;apply rfl;(first|apply rfl|assumption);kernel_rfl;kernel_rfl;apply rfl;(intro wz S;(exact AuR));clear S;(try clear aq);intro aq S)
   |((first|(with_reducible apply e_skip (q:=true) S hsel)|(with_reducible apply e_skip (q:=false) S hsel));apply rfl;apply rfl;apply rfl;apply rfl;apply rfl;apply rfl;(first|apply rfl|exact UL (by assumption)|exact neq_t (by assumption));kernel_rfl;kernel_rfl;apply rfl;clear S;(try clear aq);intro aq S)
   |((first|(with_reducible apply Anj (q:=true) S hsel)|(with_reducible apply Anj (q:=false) S hsel));apply rfl;apply rfl;apply rfl;apply rfl;apply rfl;apply rfl;kernel_rfl;kernel_rfl;apply rfl;clear S;(try clear aq);intro aq S)
   |((with_reducible apply e_idx S hsel);apply rfl;apply rfl;apply rfl;kernel_rfl;kernel_rfl;apply rfl;exact inferInstance;apply rfl;((exact AuO));(exact AuC);assumption;rotate_left;exact inferInstance;clear S;(try clear aq);intro aq bq oq hm S)
   |((with_reducible apply e_idxO S hsel);apply rfl;apply rfl;apply rfl;kernel_rfl;kernel_rfl;apply rfl;exact inferInstance;apply rfl;(exact AuX);exact inferInstance;exact inferInstance;((exact AuO));assumption;clear S;(try clear aq);intro aq bq oq S)
   |((with_reducible apply e_idxOg S hsel);apply rfl;apply rfl;apply rfl;apply rfl;apply rfl;apply rfl;(first|apply rfl|assumption);kernel_rfl;kernel_rfl;apply rfl;exact inferInstance;apply rfl;(exact AuX);exact inferInstance;exact inferInstance;((exact AuO));assumption;clear S;(try clear aq);intro aq bq oq S)
   |((with_reducible apply e_idxg S hsel);apply rfl;apply rfl;apply rfl;apply rfl;apply rfl;apply rfl;(first|apply rfl|assumption);kernel_rfl;kernel_rfl;apply rfl;exact inferInstance;apply rfl;((exact AuO));(exact AuC);assumption;rotate_left;exact inferInstance;clear S;(try clear aq);intro aq bq oq hm S)
   |((with_reducible apply isIf);(with_reducible apply h);(with_reducible apply e_gsI (q:=true) S);apply rfl;apply rfl;apply rfl;apply rfl;apply rfl;(apply h);(all_goals (clear S h;intro hb h S;(try rw[hb] at h))))
   |((with_reducible apply isIf);(with_reducible apply h);(with_reducible apply e_gsI (q:=false) S);apply rfl;apply rfl;apply rfl;apply rfl;apply rfl;(apply h);(all_goals (clear S h;intro hb h S;(try rw[hb] at h))))
   |((with_reducible apply Ank (q:=true) S);apply rfl;apply rfl;apply rfl;apply rfl;apply rfl;(fail_if_success apply nlT);(fail_if_success apply nlF);(with_reducible apply nlA);(all_goals (clear S;intro hb S;(first|(replace h:=ZH h hb)|(replace h:=ZI h hb)|skip);(try rw[hb] at h))))
   |((with_reducible apply Ank (q:=false) S);apply rfl;apply rfl;apply rfl;apply rfl;apply rfl;(fail_if_success apply nlT);(fail_if_success apply nlF);(with_reducible apply nlA);(all_goals (clear S;intro hb S;(first|(replace h:=ZH h hb)|(replace h:=ZI h hb)|skip);(try rw[hb] at h))))
   |((with_reducible apply e_loud1);apply rfl;apply rfl;kernel_rfl;apply rfl)
   |((with_reducible apply e_loud2);apply rfl;apply rfl;apply rfl;kernel_rfl;apply rfl;apply rfl)
   |((with_reducible apply e_end);kernel_rfl))
  |((with_reducible apply idW);first
   |((with_reducible apply b_idxO S hsel);apply rfl;apply rfl;apply rfl;apply rfl;kernel_rfl;kernel_rfl;apply rfl;exact inferInstance;apply rfl;(exact AuX);exact inferInstance;exact inferInstance;((exact AuO));assumption;clear S;(try clear aq);intro aq bq oq S)
   |((with_reducible apply b_idx S hsel);apply rfl;apply rfl;apply rfl;apply rfl;kernel_rfl;kernel_rfl;apply rfl;exact inferInstance;apply rfl;((exact AuO));(exact AuC);assumption;rotate_left;exact inferInstance;clear S;(try clear aq);intro aq bq oq hm S)
   |((with_reducible apply Alk S hsel);apply rfl;apply rfl;apply rfl;apply rfl;kernel_rfl;kernel_rfl;apply rfl;(intro wz;(exact AuR));clear S;(try clear aq);intro aq S)
   |((with_reducible apply b_ld0 S hsel);apply rfl;apply rfl;apply rfl;kernel_rfl;kernel_rfl;kernel_rfl;kernel_rfl;apply rfl;(intro wz S;(exact AuR));clear S;(try clear aq);intro aq S)
   |((with_reducible apply b_ld1 S hsel);apply rfl;apply rfl;apply rfl;kernel_rfl;kernel_rfl;kernel_rfl;kernel_rfl;apply rfl;(first|(exact atI 0 rfl;apply rfl)|(exact atI 1 rfl;apply rfl)|(exact atI 2 rfl;apply rfl)|(exact atI 3 rfl;apply rfl)|(exact atI 4 rfl;apply rfl)|(exact atI 5 rfl;apply rfl)|(exact atI 6 rfl;apply rfl)|(exact atI 7 rfl;apply rfl)|(exact atI 8 rfl;apply rfl)|(exact atI 9 rfl;apply rfl)|(exact atI 10 rfl;apply rfl)|(exact atI 11 rfl;apply rfl)|(exact atI 12 rfl;apply rfl));(intro wz S;(exact AuR));clear S;(try clear aq);intro aq S)
   |((with_reducible apply b_ld2 S hsel);apply rfl;apply rfl;apply rfl;kernel_rfl;kernel_rfl;kernel_rfl;kernel_rfl;apply rfl;(exact AuZ);(intro wz S;(exact AuR));clear S;(try clear aq);intro aq S)
   |((with_reducible apply b_late);apply rfl;apply rfl;kernel_rfl;apply rfl)
   |((with_reducible apply b_loud);apply rfl;kernel_rfl;apply rfl)
   |((with_reducible apply b_end);kernel_rfl))
  |((with_reducible apply iw_all);apply rfl;exact λa w h=>zQ a w h)
  |((with_reducible apply iw_one);apply rfl;exact λa w h=>zQ a w h)
  |(with_reducible apply iw_seq)
  |((with_reducible apply stR zc);(revert S;revert h;(repeat (first|revert rq|revert hq|revert hs|revert hv|revert hsel|revert hl|revert pq|revert uq|revert vq|revert hc|revert hb|revert hr|revert hm|revert hk|revert hf|revert hd|revert hi|revert rb|revert bq|revert oq|revert cc|revert jj|revert xq|revert hn|revert hlt|revert hM0|revert hM1|revert hM2|revert hM3|revert dq|revert iq|revert yq|revert ysq|revert mq|revert aq|revert wq));(repeat (rename_i xq;(fail_if_success ((with_reducible apply JW);(with_reducible apply xq)));revert xq)));exact k1.out)
  |(with_reducible apply m_ret)
  |((with_reducible apply b_next);(exact AuK))
  |((with_reducible apply b_nextB);assumption)
  |((with_reducible apply e_next);(exact AuK))
  |(with_reducible apply AQ)
  |(with_reducible apply LH)
  |(with_reducible apply Zc)
  |((with_reducible apply Ams);apply rfl)
  |((with_reducible apply idR);(first|subst h|obtain rfl:=BT h);first
   |exact BQ S rfl rfl rfl
   |exact MC S rfl rfl rfl rfl
   |exact f_ret0 S rfl rfl
   |exact BQ S rfl rfl (Ot S (i:=0) rfl rfl)
   |exact MC S rfl rfl rfl ⟨_,rfl,Ot S (i:=0) rfl rfl⟩
   |exact BQ S rfl rfl (Ot S (i:=1) rfl rfl)
   |exact MC S rfl rfl rfl ⟨_,rfl,Ot S (i:=1) rfl rfl⟩
   |exact BQ S rfl rfl (Ot S (i:=2) rfl rfl)
   |exact MC S rfl rfl rfl ⟨_,rfl,Ot S (i:=2) rfl rfl⟩
   |exact BQ S rfl rfl (Ot S (i:=3) rfl rfl)
   |exact MC S rfl rfl rfl ⟨_,rfl,Ot S (i:=3) rfl rfl⟩
   |exact BQ S rfl rfl ⟨S.hd 0 rfl,rfl⟩
   |exact f_ret0 S rfl ⟨S.hd 0 rfl,rfl⟩
   |exact MC S rfl rfl rfl ⟨_,rfl,HE _ _ _⟩
   |exact BQ S rfl rfl (HE _ _ _)
   |((with_reducible apply Afb S);apply rfl;(exact AuL);apply rfl;(exact AuW)))
  |((with_reducible apply rngStep);assumption;assumption)
  |(with_reducible apply Exists.intro)
  |((with_reducible apply lmI);(obtain rfl:=BT h);assumption;assumption)
  |(with_reducible apply exC)
  |(with_reducible apply exN)
  |(with_reducible apply andLe)
  |(with_reducible apply andOw)
  |(with_reducible apply andSl)
  |(with_reducible apply And.intro)
  |((with_reducible apply idLe);(first|exact View.le_refl _|assumption|exact View.le_trans (by assumption) (by assumption)|exact View.le_trans (View.le_trans (by assumption) (by assumption)) (by assumption)))
  |((with_reducible apply idSl);(first|assumption|exact Slc.mono (by assumption) (by assumption)|exact LE _ _))
  |((with_reducible apply idE);(first|(with_reducible apply h)|assumption))
  |((with_reducible apply idK);(exact AuK))
  |((with_reducible apply idV);(with_reducible apply nfC S);(exact AuS);(exact AuN))
  |((with_reducible apply idA);(first|assumption|exact Mu.nil|exact Mu.chg (RelM.out (by assumption)) (by assumption)))
  |((with_reducible apply idBo);(first|assumption|exact Apr (κ:=Unit) (ν:=Unit)))
  |(with_reducible apply bF)
  |(with_reducible apply lenLt)
  |((with_reducible apply noneX);(with_reducible apply h)))):g:=t
theorem J(l:List Type){p1 p2 g:Prop}(nb:Nat)(ns:List (Nat×Nat))(ts:List Nat)(m:List Bool)(G:FnL l (ST->ST))(k1:p1)(k2:p2)(t:Cut nb->Im l->Im ns->Im ts->Im m->Im G->Kp p1->Kp p2->QE->g:=by
 intro zn zq zl zts zm zG k1 k2 _;exact Au):g:=t ⟨⟩ ⟨⟩ ⟨⟩ ⟨⟩ ⟨⟩ ⟨⟩ ⟨k1⟩ ⟨k2⟩ ⟨⟩
theorem Yv{p1 p2 g E1 E2:Prop}(nb:Nat)(e1:E1)(e2:E2)(ns:List (Nat×Nat))(ts:List Nat)(m:List Bool)(I:Nat->ST->ST)(J:ST->ST)(k1:p1)(k2:p2)(t:Cut nb->E1->E2->Im ns->Im ts->Im m->Im I->Im J->Kp p1->Kp p2->QE->g:=by
 intro zn e1 e2 zl zts zm zI zJ k1 k2 _;exact Au):g:=t ⟨⟩ e1 e2 ⟨⟩ ⟨⟩ ⟨⟩ ⟨⟩ ⟨⟩ ⟨k1⟩ ⟨k2⟩ ⟨⟩
theorem Ov{β0:Type}{γ0:Type}{p1 p2 g E1 E2:Prop}(nb:Nat)(e1:E1)(e2:E2)(ns:List (Nat×Nat))(ts:List Nat)(m:List Bool)(I:Nat->β0->ST->ST)(J:γ0->ST->ST)(k1:p1)(k2:p2)(t:Cut nb->E1->E2->Im ns->Im ts->Im m->Im I->Im J->Kp p1->Kp p2->QE->g:=by
 intro zn e1 e2 zl zts zm zI zJ k1 k2 _;exact Au):g:=t ⟨⟩ e1 e2 ⟨⟩ ⟨⟩ ⟨⟩ ⟨⟩ ⟨⟩ ⟨k1⟩ ⟨k2⟩ ⟨⟩
theorem XV{β0:Type}{β1:Type}{γ0:Type}{γ1:Type}{p1 p2 g E1 E2:Prop}(nb:Nat)(e1:E1)(e2:E2)(ns:List (Nat×Nat))(ts:List Nat)(m:List Bool)(I:Nat->β0->β1->ST->ST)(J:γ0->γ1->ST->ST)(k1:p1)(k2:p2)(t:Cut nb->E1->E2->Im ns->Im ts->Im m->Im I->Im J->Kp p1->Kp p2->QE->g:=by
 intro zn e1 e2 zl zts zm zI zJ k1 k2 _;exact Au):g:=t ⟨⟩ e1 e2 ⟨⟩ ⟨⟩ ⟨⟩ ⟨⟩ ⟨⟩ ⟨k1⟩ ⟨k2⟩ ⟨⟩
theorem Lr3_3{β0:Type}{β1:Type}{β2:Type}{γ0:Type}{γ1:Type}{γ2:Type}{p1 p2 g E1 E2:Prop}(nb:Nat)(e1:E1)(e2:E2)(ns:List (Nat×Nat))(ts:List Nat)(m:List Bool)(I:Nat->β0->β1->β2->ST->ST)(J:γ0->γ1->γ2->ST->ST)(k1:p1)(k2:p2)(t:Cut nb->E1->E2->Im ns->Im ts->Im m->Im I->Im J->Kp p1->Kp p2->QE->g:=by
 intro zn e1 e2 zl zts zm zI zJ k1 k2 _;exact Au):g:=t ⟨⟩ e1 e2 ⟨⟩ ⟨⟩ ⟨⟩ ⟨⟩ ⟨⟩ ⟨k1⟩ ⟨k2⟩ ⟨⟩
theorem Lr4_4{β0:Type}{β1:Type}{β2:Type}{β3:Type}{γ0:Type}{γ1:Type}{γ2:Type}{γ3:Type}{p1 p2 g E1 E2:Prop}(nb:Nat)(e1:E1)(e2:E2)(ns:List (Nat×Nat))(ts:List Nat)(m:List Bool)(I:Nat->β0->β1->β2->β3->ST->ST)(J:γ0->γ1->γ2->γ3->ST->ST)(k1:p1)(k2:p2)(t:Cut nb->E1->E2->Im ns->Im ts->Im m->Im I->Im J->Kp p1->Kp p2->QE->g:=by
 intro zn e1 e2 zl zts zm zI zJ k1 k2 _;exact Au):g:=t ⟨⟩ e1 e2 ⟨⟩ ⟨⟩ ⟨⟩ ⟨⟩ ⟨⟩ ⟨k1⟩ ⟨k2⟩ ⟨⟩
theorem Aal{β0:Type}{p1 p2 g E1 E2:Prop}(nb:Nat)(e1:E1)(e2:E2)(ns:List (Nat×Nat))(ts:List Nat)(m:List Bool)(I:β0->ST->ST)(J:ST->ST)(k1:p1)(k2:p2)(t:Cut nb->E1->E2->Im ns->Im ts->Im m->Im I->Im J->Kp p1->Kp p2->QE->g:=by
 intro zn e1 e2 zl zts zm zI zJ k1 k2 _;exact Au):g:=t ⟨⟩ e1 e2 ⟨⟩ ⟨⟩ ⟨⟩ ⟨⟩ ⟨⟩ ⟨k1⟩ ⟨k2⟩ ⟨⟩
theorem Lc1_1{β0:Type}{γ0:Type}{p1 p2 g E1 E2:Prop}(nb:Nat)(e1:E1)(e2:E2)(ns:List (Nat×Nat))(ts:List Nat)(m:List Bool)(I:β0->ST->ST)(J:γ0->ST->ST)(k1:p1)(k2:p2)(t:Cut nb->E1->E2->Im ns->Im ts->Im m->Im I->Im J->Kp p1->Kp p2->QE->g:=by
 intro zn e1 e2 zl zts zm zI zJ k1 k2 _;exact Au):g:=t ⟨⟩ e1 e2 ⟨⟩ ⟨⟩ ⟨⟩ ⟨⟩ ⟨⟩ ⟨k1⟩ ⟨k2⟩ ⟨⟩
theorem Xk{β0:Type}{β1:Type}{γ0:Type}{p1 p2 g E1 E2:Prop}(nb:Nat)(e1:E1)(e2:E2)(ns:List (Nat×Nat))(ts:List Nat)(m:List Bool)(I:β0->β1->ST->ST)(J:γ0->ST->ST)(k1:p1)(k2:p2)(t:Cut nb->E1->E2->Im ns->Im ts->Im m->Im I->Im J->Kp p1->Kp p2->QE->g:=by
 intro zn e1 e2 zl zts zm zI zJ k1 k2 _;exact Au):g:=t ⟨⟩ e1 e2 ⟨⟩ ⟨⟩ ⟨⟩ ⟨⟩ ⟨⟩ ⟨k1⟩ ⟨k2⟩ ⟨⟩
theorem Lc2_2{β0:Type}{β1:Type}{γ0:Type}{γ1:Type}{p1 p2 g E1 E2:Prop}(nb:Nat)(e1:E1)(e2:E2)(ns:List (Nat×Nat))(ts:List Nat)(m:List Bool)(I:β0->β1->ST->ST)(J:γ0->γ1->ST->ST)(k1:p1)(k2:p2)(t:Cut nb->E1->E2->Im ns->Im ts->Im m->Im I->Im J->Kp p1->Kp p2->QE->g:=by
 intro zn e1 e2 zl zts zm zI zJ k1 k2 _;exact Au):g:=t ⟨⟩ e1 e2 ⟨⟩ ⟨⟩ ⟨⟩ ⟨⟩ ⟨⟩ ⟨k1⟩ ⟨k2⟩ ⟨⟩
theorem Lc3_1{β0:Type}{β1:Type}{β2:Type}{γ0:Type}{p1 p2 g E1 E2:Prop}(nb:Nat)(e1:E1)(e2:E2)(ns:List (Nat×Nat))(ts:List Nat)(m:List Bool)(I:β0->β1->β2->ST->ST)(J:γ0->ST->ST)(k1:p1)(k2:p2)(t:Cut nb->E1->E2->Im ns->Im ts->Im m->Im I->Im J->Kp p1->Kp p2->QE->g:=by
 intro zn e1 e2 zl zts zm zI zJ k1 k2 _;exact Au):g:=t ⟨⟩ e1 e2 ⟨⟩ ⟨⟩ ⟨⟩ ⟨⟩ ⟨⟩ ⟨k1⟩ ⟨k2⟩ ⟨⟩
theorem Aam{β0:Type}{β1:Type}{β2:Type}{γ0:Type}{γ1:Type}{p1 p2 g E1 E2:Prop}(nb:Nat)(e1:E1)(e2:E2)(ns:List (Nat×Nat))(ts:List Nat)(m:List Bool)(I:β0->β1->β2->ST->ST)(J:γ0->γ1->ST->ST)(k1:p1)(k2:p2)(t:Cut nb->E1->E2->Im ns->Im ts->Im m->Im I->Im J->Kp p1->Kp p2->QE->g:=by
 intro zn e1 e2 zl zts zm zI zJ k1 k2 _;exact Au):g:=t ⟨⟩ e1 e2 ⟨⟩ ⟨⟩ ⟨⟩ ⟨⟩ ⟨⟩ ⟨k1⟩ ⟨k2⟩ ⟨⟩
theorem Lc4_2{β0:Type}{β1:Type}{β2:Type}{β3:Type}{γ0:Type}{γ1:Type}{p1 p2 g E1 E2:Prop}(nb:Nat)(e1:E1)(e2:E2)(ns:List (Nat×Nat))(ts:List Nat)(m:List Bool)(I:β0->β1->β2->β3->ST->ST)(J:γ0->γ1->ST->ST)(k1:p1)(k2:p2)(t:Cut nb->E1->E2->Im ns->Im ts->Im m->Im I->Im J->Kp p1->Kp p2->QE->g:=by
 intro zn e1 e2 zl zts zm zI zJ k1 k2 _;exact Au):g:=t ⟨⟩ e1 e2 ⟨⟩ ⟨⟩ ⟨⟩ ⟨⟩ ⟨⟩ ⟨k1⟩ ⟨k2⟩ ⟨⟩
theorem Lc5_3{β0:Type}{β1:Type}{β2:Type}{β3:Type}{β4:Type}{γ0:Type}{γ1:Type}{γ2:Type}{p1 p2 g E1 E2:Prop}(nb:Nat)(e1:E1)(e2:E2)(ns:List (Nat×Nat))(ts:List Nat)(m:List Bool)(I:β0->β1->β2->β3->β4->ST->ST)(J:γ0->γ1->γ2->ST->ST)(k1:p1)(k2:p2)(t:Cut nb->E1->E2->Im ns->Im ts->Im m->Im I->Im J->Kp p1->Kp p2->QE->g:=by
 intro zn e1 e2 zl zts zm zI zJ k1 k2 _;exact Au):g:=t ⟨⟩ e1 e2 ⟨⟩ ⟨⟩ ⟨⟩ ⟨⟩ ⟨⟩ ⟨k1⟩ ⟨k2⟩ ⟨⟩
theorem St{p1 g:Prop}(f:Nat)(k1:p1)(t:StH f->Kp p1->QE->g:=by
 intro zc k1 _;exact Au):g:=t ⟨⟩ ⟨k1⟩ ⟨⟩
theorem Fk{p1 p2 g:Prop}(tm:Nat)(k1:p1)(k2:p2)(t:FkH tm->Kp p1->Kp p2->QE->g:=by
 intro zf k1 k2 _;exact Au):g:=t ⟨⟩ ⟨k1⟩ ⟨k2⟩ ⟨⟩
theorem Lm{β γ:Type}{p1 p2 g:Prop}(nb:Nat)(ns:List (Nat×Nat))(ts:List Nat)(m:List Bool)(I:Array Nat->β->ST->ST)(J:γ->ST->ST)(k1:p1)(k2:p2)(t:Cut nb->Im ns->Im ts->Im m->Im I->Im J->Kp p1->Kp p2->QE->g:=by
 intro zn zl zts zm zI zM k1 k2 _;exact Au):g:=t ⟨⟩ ⟨⟩ ⟨⟩ ⟨⟩ ⟨⟩ ⟨⟩ ⟨k1⟩ ⟨k2⟩ ⟨⟩
end Go.Proofs.YthlielagemkjcaaGreatDoor
