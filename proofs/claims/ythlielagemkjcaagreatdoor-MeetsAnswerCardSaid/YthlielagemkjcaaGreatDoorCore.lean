/- The program logic that all proofs of this seat use: what is known of the frame,of the blocks that a call owns,and of memory that only is read. No statement of the seat is proved here. -/
import Derived.Test.YthlielagemkjcaaGreatDoorBase
import Derived.Tactics2
import Derived.Laws.AppendOwn
import Derived.Laws.OwnMore
import Derived.Laws.MakeOwn
import Derived.Laws.Strings
import Derived.Laws.Strings2
import Derived.KernelRfl
import Derived.Lib.FrozenHead
namespace Go.Proofs.YthlielagemkjcaaGreatDoor
open Go
abbrev View:=Nat->Option Obj
def View.le(φ ψ:View):Prop:=∀b o,φ b=some o->ψ b=some o
theorem View.le_refl(φ:View):View.le φ φ:=λ_ _ h=>h
theorem View.le_trans{a b c:View}(h:View.le a b)(k:View.le b c):View.le a c:=λx o e=>k x o (h x o e)
def Emb(φ:View)(w:World):Prop:=∀b o,φ b=some o->w.heap[b]? =some o
structure Keep(X:List Nat)(w w':World):Prop where
 os:w'.os=w.os
 tape:w'.tape=w.tape
 output:w'.output=w.output
 size:w.heap.size<=w'.heap.size
 block:∀k,k<w.heap.size->k∉X->w'.heap[k]? =w.heap[k]?
theorem Keep.refl(X:List Nat)(w:World):Keep X w w:=⟨rfl,rfl,rfl,bU _,λ_ _ _=>rfl⟩
theorem Keep.trans{X:List Nat}{a b c:World}(h:Keep X a b)(k:Keep X b c):Keep X a c:=
 ⟨k.os.trans h.os,k.tape.trans h.tape,k.output.trans h.output,Nat.le_trans h.size k.size,
  λi hi hx=>(k.block i (Nat.lt_of_lt_of_le hi h.size) hx).trans (h.block i hi hx)⟩
theorem Keep.step{X Y:List Nat}{a b c:World}(h:Keep X a b)(k:Keep Y b c)(hY:∀y∈Y,a.heap.size<=y\/y∈X):Keep X a c:=
 ⟨k.os.trans h.os,k.tape.trans h.tape,k.output.trans h.output,Nat.le_trans h.size k.size,
  λi hi hx=>(k.block i (Nat.lt_of_lt_of_le hi h.size) (λhy=>by
   rcases hY i hy with h1|h1
   ·omega
   ·exact hx h1)).trans (h.block i hi hx)⟩
def view(w:World)(X:List Nat):View:=λb=>if b∈X then none else w.heap[b]?
def newer(w w':World):View:=λb=>if w.heap.size<=b then w'.heap[b]? else none
def nov:View:=λ_=>none
def join(φ ψ:View):View:=λb=>(φ b).or (ψ b)
theorem heap_lt{w:World}{b:Nat}{o:Obj}(h:w.heap[b]? =some o):b<w.heap.size:=by
 have:=Array.getElem?_eq_some_iff.1 h;exact this.1
theorem Emb.keep{φ:View}{w w':World}{X:List Nat}(h:Emb φ w)(k:Keep X w w')(hX:∀b∈X,φ b=none):Emb φ w':=by
 intro b o e;have h1:=h b o e;rw[k.block b (heap_lt h1) (λhx=>by rw[hX b hx] at e;cases e)];exact h1
theorem emb_newer(w w':World):Emb (newer w w') w':=by
 intro b o e;unfold newer at e
 split at e
 ·exact e
 ·cases e
theorem emb_view(w:World)(X:List Nat):Emb (view w X) w:=by
 intro b o e;unfold view at e
 split at e
 ·cases e
 ·exact e
theorem le_join_left(φ ψ:View):View.le φ (join φ ψ):=by
 intro b o e;simp[join,e]
theorem le_join_right{φ ψ:View}(h:∀b o,φ b=some o->ψ b=none):View.le ψ (join φ ψ):=by
 intro b o e;unfold join
 cases hφ:φ b with
 |none=>simpa using e
 |some o'=>rw[h b o' hφ] at e;cases e
theorem view_le_of{w:World}{φ:View}{X:List Nat}(h:Emb φ w)(hX:∀b∈X,φ b=none):View.le φ (view w X):=by
 intro b o e;unfold view;rw[aP (λhx=>by rw[hX b hx] at e;cases e)];exact h b o e
inductive LEnt where
 |blk (b:Nat) (cells:List Value) (T:TypeId)
 |map (b:Nat) (es:Array MapEntry) (clk:Nat)
 |iter (b m since:Nat) (seen:Array Nat) (last:Nat)
 |own (v:Value) (T:TypeId) (k n:Nat) (cs:List Value)
 |ownF (v:Value) (T:TypeId) (n:Nat) (cs:List Value)
 |obj (b:Nat) (o:Obj)
def LEnt.fp:LEnt->Option Nat
 | .blk b _ _| .map b _ _| .iter b _ _ _ _| .obj b _=>some b
 | .own v ..=>v.ownBlock
 | .ownF v ..=>v.ownBlock
def LEnt.holds(w:World):LEnt->Prop
 | .blk b c T=>w.heap[b]? =some (.cells c.toArray T (0,0))
 | .map b es clk=>w.heap[b]? =some (.map es clk)
 | .iter b m s e l=>w.heap[b]? =some (.mapIter (some m) s e l)
 | .own v T k n cs=>w.ownsRow 0 T k v n cs
 | .ownF v T n cs=>w.ownsRowF 0 T 1 v n cs
 | .obj b o=>w.heap[b]? =some o
def fps(L:List LEnt):List Nat:=L.filterMap LEnt.fp
def look:List (Nat×Value)->Nat->Option Value
 |[],_=>none
 |(i,v)::r,t=>match Nat.beq i t with
  |true=>some v
  |false=>look r t
theorem look_mem{K:List (Nat×Value)}{t:Nat}{v:Value}(h:look K t=some v):(t,v)∈K:=by
 induction K with
 |nil=>cases h
 |cons x r ih=>
  obtain⟨i,u⟩:=x;unfold look at h
  split at h
  ·rename_i hb;have:i=t:=Nat.eq_of_beq_eq_true hb;subst this
   cases h
   exact aN
  ·exact aM _ (ih h)
structure Sx(w0:World)(X:List Nat)(φ:View)(L:List LEnt)(K:List (Nat×Value))(n:Nat)(a:Act)(w:World):Prop where
 keep:Keep X w0 w
 emb:Emb φ w
 fresh:∀b o,φ b=some o->w0.heap.size<=b
 holds:∀e∈L,e.holds w
 nodup:(fps L).Nodup
 sep:∀b∈fps L,φ b=none/\(w0.heap.size<=b\/b∈X)/\b<w.heap.size
 nodefer:a.defers=[]
 size:a.tmps.size=n
 slots:∀t v,look K t=some v->a.tmps[t]? =some v
section
variable {w0:World}{X:List Nat}{φ:View}{L:List LEnt}{K:List (Nat×Value)}{n:Nat}{a:Act}{w:World}
theorem Sx.tm{t:Nat}{v:Value}(S:Sx w0 X φ L K n a w)(h:look K t=some v):a.eval (.tmp t)=v:=by
 have:=S.slots t v h;simp[Act.eval,this]
theorem Sx.put{d:Nat}{v:Value}(S:Sx w0 X φ L K n a w)(hd:d<n):Sx w0 X φ L ((d,v)::K) n (a.put (some d) v) w:=by
 obtain⟨h1,h2,h3,h4,h5,h6,h7,h8,h9⟩:=S;refine⟨h1,h2,h3,h4,h5,h6,h7,by simpa[Act.put] using h8,?_⟩;intro t u hu;unfold look at hu;simp only[Act.put,Array.getElem?_setIfInBounds]
 split at hu
 ·rename_i hb;have:d=t:=Nat.eq_of_beq_eq_true hb;subst this
  cases hu
  simp[h8,hd]
 ·rename_i hb;have:¬d=t:=by
   intro e;subst e;simp at hb
  rw[aP this];exact h9 t u hu
theorem Sx.putNone{v:Value}(S:Sx w0 X φ L K n a w):Sx w0 X φ L K n (a.put none v) w:=S
def subK(K:List (Nat×Value)):List (Nat×Value)->Prop
 |[]=>True
 |(t,v)::r=>look K t=some v/\subK K r
theorem subR{K:List (Nat×Value)}:∀{K':List (Nat×Value)},K'.map (λp=>look K p.1)=K'.map (λp=>some p.2)->subK K K'
 |[],_=>trivial
 |(_,_)::_,h=>by
  simp only[aY,bL] at h
  exact⟨h.1,subR h.2⟩
abbrev iV(x:Int):Value:=.int .i64 x
abbrev bV(x:Bool):Value:=.bool x
abbrev sV(x:ByteArray):Value:=.string x
theorem subK_look{K K':List (Nat×Value)}(h:subK K K'):∀t v,look K' t=some v->look K t=some v:=by
 induction K' with
 |nil=>intro t v e;cases e
 |cons x r ih=>
  obtain⟨i,u⟩:=x;intro t v e;unfold look at e
  split at e
  ·rename_i hb;have:i=t:=Nat.eq_of_beq_eq_true hb;subst this
   cases e
   exact h.1
  ·exact ih h.2 t v e
theorem Sx.sub{K':List (Nat×Value)}(S:Sx w0 X φ L K n a w)(h:subK K K'):Sx w0 X φ L K' n a w:=
 {S with slots:=λt v e=>S.slots t v (subK_look h t v e)}
theorem Sx.drop{L':List LEnt}(S:Sx w0 X φ L K n a w)(h:List.Sublist L' L):Sx w0 X φ L' K n a w:=
 {S with
  holds:=λe he=>S.holds e (h.subset he)
  nodup:=S.nodup.sublist (h.filterMap _)
  sep:=λb hb=>S.sep b ((h.filterMap _).subset hb)}
theorem Sx.world{w':World}(S:Sx w0 X φ L K n a w)(h1:w'.os=w.os)(h2:w'.tape=w.tape)(h3:w'.output=w.output)(h4:w'.heap=w.heap):Sx w0 X φ L K n a w':=by
 obtain⟨k,e,f,ho,nd,sp,df,sz,sl⟩:=S;refine⟨⟨h1.trans k.os,h2.trans k.tape,h3.trans k.output,by rw[h4];exact k.size,by rw[h4];exact k.block⟩,by unfold Emb;rw[h4];exact e,f,?_,nd,by rw[h4];exact sp,df,sz,sl⟩;intro x hx;have:=ho x hx
 cases x with
 |blk b c T=>simpa[LEnt.holds,h4] using this
 |map b es clk=>simpa[LEnt.holds,h4] using this
 |iter b m s e l=>simpa[LEnt.holds,h4] using this
 |own v T k n cs=>simpa[LEnt.holds,World.ownsRow,h4] using this
 |ownF v T n cs=>simpa[LEnt.holds,World.ownsRowF,h4] using this
 |obj b o=>simpa[LEnt.holds,h4] using this
end
end Go.Proofs.YthlielagemkjcaaGreatDoor
