/- Comparisons once more,with a frame that also says that draws only go on: what the shelf's sort asks of them. -/
import Derived.Test.YtgfjjiheamdgbaaGreatDoorTw
import Derived.Test.YtgfjjiheamdgbaaGreatDoorLay
import Derived.Tactics2
import Derived.Laws.AppendOwn
import Derived.Laws.OwnMore
import Derived.Laws.MakeOwn
import Derived.Laws.Strings
import Derived.Laws.Strings2
import Derived.KernelRfl
import Derived.Lib.FrozenHead
import Derived.Still
import Derived.OwnWalk
import Derived.Laws.StructEq
import Derived.Below
import Derived.Sort.Grow
import Derived.Deep.Draws
namespace Go.Proofs.YtgfjjiheamdgbaaGreatDoor.D
open Go


abbrev View:=Nat → Option Obj

def View.le (φ ψ : View) : Prop:=∀ b o,φ b = some o → ψ b = some o
theorem View.le_refl (φ : View) : View.le φ φ:=fun _ _ h=>h
theorem View.le_trans {a b c : View} (h : View.le a b) (k : View.le b c) : View.le a c:=fun x o e=>k x o (h x o e)

def Emb (φ : View) (w : World) : Prop:=∀ b o,φ b = some o → w.heap[b]? = some o

structure Keep (X : List Nat) (w w' : World) : Prop where
  os : w'.os = w.os
  tape : w'.tape = w.tape
  output : w'.output = w.output
  drawn : w.drawn ≤ w'.drawn
  size : w.heap.size ≤ w'.heap.size
  block : ∀ k,k < w.heap.size → k ∉ X → w'.heap[k]? = w.heap[k]?

theorem Keep.refl (X : List Nat) (w : World) : Keep X w w:=⟨rfl,rfl,rfl,(by first | exact Nat.le_refl _ | exact Nat.le_succ _),Nat.le_refl _,fun _ _ _=>rfl⟩
theorem Keep.trans {X : List Nat} {a b c : World} (h : Keep X a b) (k : Keep X b c) : Keep X a c :=
  ⟨k.os.trans h.os,k.tape.trans h.tape,k.output.trans h.output,Nat.le_trans h.drawn k.drawn,Nat.le_trans h.size k.size,
    fun i hi hx=>(k.block i (Nat.lt_of_lt_of_le hi h.size) hx).trans (h.block i hi hx)⟩
theorem Keep.step {X Y : List Nat} {a b c : World} (h : Keep X a b) (k : Keep Y b c) (hY : ∀ y ∈ Y,a.heap.size ≤ y ∨ y ∈ X) : Keep X a c :=
  ⟨k.os.trans h.os,k.tape.trans h.tape,k.output.trans h.output,Nat.le_trans h.drawn k.drawn,Nat.le_trans h.size k.size,
    fun i hi hx=>(k.block i (Nat.lt_of_lt_of_le hi h.size) (fun hy=>by
      rcases hY i hy with h1 | h1
      · omega
      · exact hx h1)).trans (h.block i hi hx)⟩

def view (w : World) (X : List Nat) : View:=fun b=>if b ∈ X then none else w.heap[b]?
def newer (w w' : World) : View:=fun b=>if w.heap.size ≤ b then w'.heap[b]? else none
def nov : View:=fun _=>none
theorem heap_lt {w : World} {b : Nat} {o : Obj} (h : w.heap[b]? = some o) : b < w.heap.size:=by
  have:=Array.getElem?_eq_some_iff.1 h
  exact this.1

theorem Emb.keep {φ : View} {w w' : World} {X : List Nat} (h : Emb φ w) (k : Keep X w w') (hX : ∀ b ∈ X,φ b = none) : Emb φ w':=by
  intro b o e
  have h1:=h b o e
  rw [k.block b (heap_lt h1) (fun hx=>by rw [hX b hx] at e; cases e)]
  exact h1
theorem emb_newer (w w' : World) : Emb (newer w w') w':=by
  intro b o e
  unfold newer at e
  split at e
  · exact e
  · cases e
theorem emb_view (w : World) (X : List Nat) : Emb (view w X) w:=by
  intro b o e
  unfold view at e
  split at e
  · cases e
  · exact e

inductive LEnt where
  /-- a block of cells -/
  | blk (b : Nat) (cells : List Value) (T : TypeId)
  /-- a map -/
  | map (b : Nat) (es : Array MapEntry) (clk : Nat)
  /-- an iterator over a map -/
  | iter (b m since : Nat) (seen : Array Nat) (last : Nat)
  /-- a slice from the head of a row of its own,or nil: its cells are cs -/
  | own (v : Value) (T : TypeId) (k n : Nat) (cs : List Value)
  /-- the same,its head may be frozen (the bytes of a builder) -/
  | ownF (v : Value) (T : TypeId) (n : Nat) (cs : List Value)
  /-- some other object -/
  | obj (b : Nat) (o : Obj)

def LEnt.fp : LEnt → Option Nat
  | .blk b _ _ | .map b _ _ | .iter b _ _ _ _ | .obj b _=>some b
  | .own v ..=>v.ownBlock
  | .ownF v ..=>v.ownBlock

def LEnt.holds (w : World) : LEnt → Prop
  | .blk b c T=>w.heap[b]? = some (.cells c.toArray T (0,0))
  | .map b es clk=>w.heap[b]? = some (.map es clk)
  | .iter b m s e l=>w.heap[b]? = some (.mapIter (some m) s e l)
  | .own v T k n cs=>w.ownsRow 0 T k v n cs
  | .ownF v T n cs=>w.ownsRowF 0 T 1 v n cs
  | .obj b o=>w.heap[b]? = some o

def fps (L : List LEnt) : List Nat:=L.filterMap LEnt.fp

def look : List (Nat × Value) → Nat → Option Value
  | [],_=>none
  | (i,v) :: r,t=>match Nat.beq i t with
    | true=>some v
    | false=>look r t

structure Sx (w0 : World) (X : List Nat) (φ : View) (L : List LEnt) (K : List (Nat × Value)) (n : Nat) (a : Act) (w : World) : Prop where
  keep : Keep X w0 w
  emb : Emb φ w
  fresh : ∀ b o,φ b = some o → w0.heap.size ≤ b
  holds : ∀ e ∈ L,e.holds w
  nodup : (fps L).Nodup
  sep : ∀ b ∈ fps L,φ b = none ∧ (w0.heap.size ≤ b ∨ b ∈ X) ∧ b < w.heap.size
  nodefer : a.defers = []
  size : a.tmps.size = n
  slots : ∀ t v,look K t = some v → a.tmps[t]? = some v

section
variable {w0 : World} {X : List Nat} {φ : View} {L : List LEnt} {K : List (Nat × Value)} {n : Nat} {a : Act} {w : World}

theorem Sx.tm {t : Nat} {v : Value} (S : Sx w0 X φ L K n a w) (h : look K t = some v) : a.eval (.tmp t) = v:=by
  have:=S.slots t v h
  simp [Act.eval,this]

theorem Sx.put {d : Nat} {v : Value} (S : Sx w0 X φ L K n a w) (hd : d < n) : Sx w0 X φ L ((d,v) :: K) n (a.put (some d) v) w:=by
  obtain ⟨h1,h2,h3,h4,h5,h6,h7,h8,h9⟩:=S
  refine ⟨h1,h2,h3,h4,h5,h6,h7,by simpa [Act.put] using h8,?_⟩
  intro t u hu
  unfold look at hu
  simp only [Act.put,Array.getElem?_setIfInBounds]
  split at hu
  · rename_i hb
    have : d = t:=Nat.eq_of_beq_eq_true hb
    subst this
    cases hu
    simp [h8,hd]
  · rename_i hb
    have : ¬ d = t:=by
      intro e
      subst e
      simp at hb
    rw [if_neg this]
    exact h9 t u hu

def subK (K : List (Nat × Value)) : List (Nat × Value) → Prop
  | []=>True
  | (t,v) :: r=>look K t = some v ∧ subK K r

theorem subR {K : List (Nat × Value)} : ∀ {K' : List (Nat × Value)},K'.map (fun p=>look K p.1) = K'.map (fun p=>some p.2) → subK K K'
  | [],_=>trivial
  | (_,_) :: _,h=>by
    simp only [List.map_cons,List.cons.injEq] at h
    exact ⟨h.1,subR h.2⟩
abbrev iV (x : Int) : Value:=.int .i64 x
abbrev bV (x : Bool) : Value:=.bool x
abbrev sV (x : ByteArray) : Value:=.string x
theorem subK_look {K K' : List (Nat × Value)} (h : subK K K') : ∀ t v,look K' t = some v → look K t = some v:=by
  induction K' with
  | nil=>intro t v e; cases e
  | cons x r ih =>
    obtain ⟨i,u⟩:=x
    intro t v e
    unfold look at e
    split at e
    · rename_i hb
      have : i = t:=Nat.eq_of_beq_eq_true hb
      subst this
      cases e
      exact h.1
    · exact ih h.2 t v e

theorem Sx.sub {K' : List (Nat × Value)} (S : Sx w0 X φ L K n a w) (h : subK K K') : Sx w0 X φ L K' n a w :=
  { S with slots:=fun t v e=>S.slots t v (subK_look h t v e) }

theorem Sx.drop {L' : List LEnt} (S : Sx w0 X φ L K n a w) (h : List.Sublist L' L) : Sx w0 X φ L' K n a w :=
  { S with
    holds:=fun e he=>S.holds e (h.subset he)
    nodup:=S.nodup.sublist (h.filterMap _)
    sep:=fun b hb=>S.sep b ((h.filterMap _).subset hb) }

theorem Sx.world {w' : World} (S : Sx w0 X φ L K n a w) (h1 : w'.os = w.os) (h2 : w'.tape = w.tape) (h3 : w'.output = w.output) (h5 : w.drawn ≤ w'.drawn) (h4 : w'.heap = w.heap) : Sx w0 X φ L K n a w':=by
  obtain ⟨k,e,f,ho,nd,sp,df,sz,sl⟩:=S
  refine ⟨⟨h1.trans k.os,h2.trans k.tape,h3.trans k.output,Nat.le_trans k.drawn h5,by rw [h4]; exact k.size,by rw [h4]; exact k.block⟩,by unfold Emb; rw [h4]; exact e,f,?_,nd,by rw [h4]; exact sp,df,sz,sl⟩
  intro x hx
  have:=ho x hx
  cases x with
  | blk b c T=>simpa [LEnt.holds,h4] using this
  | map b es clk=>simpa [LEnt.holds,h4] using this
  | iter b m s e l=>simpa [LEnt.holds,h4] using this
  | own v T k n cs=>simpa [LEnt.holds,World.ownsRow,h4] using this
  | ownF v T n cs=>simpa [LEnt.holds,World.ownsRowF,h4] using this
  | obj b o=>simpa [LEnt.holds,h4] using this

end
end Go.Proofs.YtgfjjiheamdgbaaGreatDoor.D

namespace Go.Proofs.YtgfjjiheamdgbaaGreatDoor.D
open Go

def Rn (P : Program) (a : Act) (w : World) (op : Op) (ty : TypeId) (v : Value) : Prop :=
  ∀ (dst : Option Tmp) (pos : String) (after : Array Edge) (guard : Option (Nat × Bool)),(execOp a.eval { dst,op,type:=ty,pos,after,guard }).run P w = .ok (.value v) w

section pure
variable {P : Program} {a : Act} {w : World} {ty : TypeId}

theorem Rm {x : Operand} {v : Value} (h : a.eval x = v) : Rn P a w (.move x) ty v:=by
  intro d p e g; simp [execOp,h]
theorem Ra {x : Operand} {v : Value} (h : a.eval x = v) : Rn P a w (.assign x) ty v:=by
  intro d p e g; simp [execOp,h]
section ints
variable {t u : TypeId} {x y : Operand} {m n : Int} (hx : a.eval x = .int .i64 m) (hy : a.eval y = .int .i64 n)
include hx hy
theorem Ew : Rn P a w (.binOp .add t x y u) ty (.int .i64 (W (m + n))):=by
  intro d p e g; simp [execOp,hx,hy,binOp,eqGuard,Op.intArith,W]
end ints
section intsk
variable {k : IntKind} {t u : TypeId} {x y : Operand} {m n : Int} (hx : a.eval x = .int k m) (hy : a.eval y = .int k n)
include hx hy
theorem Kg : Rn P a w (.binOp .neq t x y u) ty (.bool (!decide (m = n))):=by
  intro d p e g; simp [execOp,hx,hy,binOp,eqGuard,Op.intCmp]; rfl
theorem Ee : Rn P a w (.binOp .lss t x y u) ty (.bool (decide (m < n))):=by
  intro d p e g; simp [execOp,hx,hy,binOp,eqGuard,Op.intCmp]
theorem Ix : Rn P a w (.binOp .gtr t x y u) ty (.bool (decide (n < m))):=by
  intro d p e g; simp [execOp,hx,hy,binOp,eqGuard,Op.intCmp]
end intsk
section shifts
variable {k k' : IntKind} {t u : TypeId} {x y : Operand} {m n : Int} (hx : a.eval x = .int k m) (hy : a.eval y = .int k' n) (h0 : 0 ≤ n)
include hx hy h0
end shifts

section strs
variable {t u : TypeId} {x y : Operand} {m n : ByteArray} (hx : a.eval x = .string m) (hy : a.eval y = .string n)
include hx hy
end strs
theorem Qv {s : TypeId} {x : Operand} {i : Nat} {fs : Array Field} {f : Field} {b off o : Nat} {sz : Nat} (hs : P.underlying s = some (.struct fs)) (hf : fs[i]? = some f)
    (hz : ∀ w,(sizeOf f.type).run P w = .ok sz w) (hsz : (sz == 0) = false) (ho : f.offset = o) (hx : a.eval x = .pointer (some ⟨b,off,none⟩)) :
    Rn P a w (.fieldAddr s x i) ty (.pointer (some ⟨b,off + o,none⟩)):=by
  intro d p e g
  have hsz' : ¬ sz = 0:=by simpa using hsz
  have hadd : (⟨b,off,none⟩ : Addr).add o = ⟨b,off + o,none⟩:=by unfold Addr.add; split <;> simp_all
  simp [execOp,hx,Instr.fieldAt,run_underlying hs,hf,Instr.sureAddr,fieldPlace,hz,hsz',ho,hadd]

theorem Qw {t : TypeId} {x : Operand} {ao : Option Addr} {n c : Nat} {el : TypeId} (ht : P.underlying t = some (.slice el)) (hx : a.eval x = .slice ao n c) :
    Rn P a w (.call { callee:=.builtin .len,args:=#[x],argTypes:=#[t] }) ty (.int .i64 n):=by
  intro d p e g
  simp [execOp,resolve,invoke,builtin,hx,Builtin.len_,run_underlying ht,goInt]
end pure
end Go.Proofs.YtgfjjiheamdgbaaGreatDoor.D

namespace Go.Proofs.YtgfjjiheamdgbaaGreatDoor.D
open Go

theorem LEnt.holds.keep {e : LEnt} {w w' : World} {Y : List Nat} (h : e.holds w) (k : Keep Y w w') (hY : ∀ b,e.fp = some b → b ∉ Y) : e.holds w':=by
  cases e with
  | blk b c T =>
    have h' : w.heap[b]? = some (.cells c.toArray T (0,0)):=h
    show w'.heap[b]? = _
    rw [k.block b (heap_lt h') (hY b rfl)]; exact h'
  | map b es clk =>
    have h' : w.heap[b]? = some (.map es clk):=h
    show w'.heap[b]? = _
    rw [k.block b (heap_lt h') (hY b rfl)]; exact h'
  | iter b m s e l =>
    have h' : w.heap[b]? = some (.mapIter (some m) s e l):=h
    show w'.heap[b]? = _
    rw [k.block b (heap_lt h') (hY b rfl)]; exact h'
  | obj b o =>
    have h' : w.heap[b]? = some o:=h
    show w'.heap[b]? = _
    rw [k.block b (heap_lt h') (hY b rfl)]; exact h'
  | own v T kk n cs =>
    have h' : w.ownsRow 0 T kk v n cs:=h
    refine ⟨h'.1,?_⟩
    rcases h'.2 with hn | ⟨g,cap,cur,rfl,hb,hg,rest⟩
    · exact .inl hn
    · exact .inr ⟨g,cap,cur,rfl,hb,by rw [k.block g (heap_lt hg) (hY g rfl)]; exact hg,rest⟩
  | ownF v T n cs =>
    have h' : w.ownsRowF 0 T 1 v n cs:=h
    refine ⟨h'.1,?_⟩
    rcases h'.2 with hn | ⟨g,cap,cur,fz,rfl,hb,hg,rest⟩
    · exact .inl hn
    · exact .inr ⟨g,cap,cur,fz,rfl,hb,by rw [k.block g (heap_lt hg) (hY g rfl)]; exact hg,rest⟩

theorem LEnt.holds.lt {e : LEnt} {w : World} (h : e.holds w) {b : Nat} (hb : e.fp = some b) : b < w.heap.size:=by
  cases e with
  | blk b' c T=>cases hb; exact heap_lt (show w.heap[b]? = _ from h)
  | map b' es clk=>cases hb; exact heap_lt (show w.heap[b]? = _ from h)
  | iter b' m s e l=>cases hb; exact heap_lt (show w.heap[b]? = _ from h)
  | obj b' o=>cases hb; exact heap_lt (show w.heap[b]? = _ from h)
  | own v T kk n cs =>
    have h' : w.ownsRow 0 T kk v n cs:=h
    exact (h'.lt b hb).2
  | ownF v T n cs =>
    have h' : w.ownsRowF 0 T 1 v n cs:=h
    rcases h'.2 with ⟨rfl,_⟩ | ⟨g,cap,cur,fz,rfl,_,hg,_⟩
    · cases hb
    · cases hb; exact heap_lt hg

theorem Qd {α : Type} {L : List α} {i : Nat} {e : α} (h : L[i]? = some e) : ∃ l1 l2,L = l1 ++ e :: l2 ∧ l1.length = i:=by
  have hi : i < L.length:=by
    rcases Nat.lt_or_ge i L.length with h' | h'
    · exact h'
    · rw [List.getElem?_eq_none h'] at h; cases h
  refine ⟨L.take i,L.drop (i + 1),?_,by simp; omega⟩
  rw [List.getElem?_eq_getElem hi] at h
  cases h
  simp

section
variable {w0 : World} {X : List Nat} {φ : View} {L : List LEnt} {K : List (Nat × Value)} {n : Nat} {a : Act} {w : World}

theorem Sx.fp_mem {i : Nat} {e : LEnt} {b : Nat} (hi : L[i]? = some e) (hb : e.fp = some b) : b ∈ fps L :=
  List.mem_filterMap.2 ⟨e,List.mem_of_getElem? hi,hb⟩

theorem Na {b : Nat} : b ∈ fps L → ∃ e ∈ L,e.fp = some b:=fun h=>by
  obtain ⟨e,he,hb⟩:=List.mem_filterMap.1 h
  exact ⟨e,he,hb⟩

theorem Sx.change {i : Nat} {e e' : LEnt} {w' : World} {Y : List Nat} (S : Sx w0 X φ L K n a w) (hi : L[i]? = some e) (k : Keep Y w w') (hY : ∀ y ∈ Y,e.fp = some y)
    (hh : e'.holds w') (hf : ∀ b,e'.fp = some b → e.fp = some b ∨ w.heap.size ≤ b) : Sx w0 X φ (L.set i e') K n a w':=by
  obtain ⟨l1,l2,rfl,hl⟩:=Qd hi
  have hset : (l1 ++ e :: l2).set i e' = l1 ++ e' :: l2:=by subst hl; simp
  rw [hset]
  have hnd:=S.nodup
  have hfe : fps (l1 ++ e :: l2) = fps l1 ++ (e.fp.toList ++ fps l2):=by
    simp [fps,List.filterMap_append,List.filterMap_cons]; cases e.fp <;> simp
  have hfe' : fps (l1 ++ e' :: l2) = fps l1 ++ (e'.fp.toList ++ fps l2):=by
    simp [fps,List.filterMap_append,List.filterMap_cons]; cases e'.fp <;> simp
  have hnot : ∀ x ∈ l1 ++ l2,∀ b,x.fp = some b → b ∉ Y:=by
    intro x hx b hb hby
    have h1:=hY b hby
    rw [hfe,h1] at hnd
    have hb' : b ∈ fps l1 ∨ b ∈ fps l2:=by
      rcases List.mem_append.1 hx with h | h
      · exact .inl (List.mem_filterMap.2 ⟨x,h,hb⟩)
      · exact .inr (List.mem_filterMap.2 ⟨x,h,hb⟩)
    simp only [Option.toList_some,List.nodup_append,List.nodup_cons,List.singleton_append] at hnd
    rcases hb' with h | h
    · exact hnd.2.2 b h b (List.mem_cons_self) rfl
    · exact hnd.2.1.1 h
  have hsepY : ∀ y ∈ Y,φ y = none ∧ (w0.heap.size ≤ y ∨ y ∈ X):=fun y hy=>by
    have:=S.sep y (Sx.fp_mem hi (hY y hy))
    exact ⟨this.1,this.2.1⟩
  refine ⟨S.keep.step k fun y hy=>(hsepY y hy).2,S.emb.keep k fun y hy=>(hsepY y hy).1,S.fresh,?_,?_,?_,S.nodefer,S.size,S.slots⟩
  · intro x hx
    rcases List.mem_append.1 hx with h | h
    · exact (S.holds x (List.mem_append.2 (.inl h))).keep k (hnot x (List.mem_append.2 (.inl h)))
    · rcases List.mem_cons.1 h with rfl | h
      · exact hh
      · exact (S.holds x (List.mem_append.2 (.inr (List.mem_cons_of_mem _ h)))).keep k (hnot x (List.mem_append.2 (.inr h)))
  · rw [hfe']
    rw [hfe] at hnd
    cases hb : e'.fp with
    | none =>
      refine hnd.sublist ?_
      simp only [Option.toList_none,List.nil_append]
      exact (List.Sublist.refl _).append (List.sublist_append_right _ _)
    | some b =>
      rcases hf b hb with h | h
      · rw [h] at hnd; exact hnd
      · have hold : ∀ x ∈ l1 ++ l2,∀ c,x.fp = some c → c ≠ b:=by
          intro x hx c hc hcb
          have hx' : x ∈ l1 ++ e :: l2:=by
            rcases List.mem_append.1 hx with h | h
            · exact List.mem_append.2 (.inl h)
            · exact List.mem_append.2 (.inr (List.mem_cons_of_mem _ h))
          have:=(S.holds x hx').lt hc
          omega
        have hn1 : b ∉ fps l1:=fun hm=>by
          obtain ⟨x,hx,hc⟩:=Na hm
          exact hold x (List.mem_append.2 (.inl hx)) b hc rfl
        have hn2 : b ∉ fps l2:=fun hm=>by
          obtain ⟨x,hx,hc⟩:=Na hm
          exact hold x (List.mem_append.2 (.inr hx)) b hc rfl
        have hsub : (fps l1 ++ fps l2).Nodup:=hnd.sublist ((List.Sublist.refl _).append (List.sublist_append_right _ _))
        simp only [List.nodup_append,Option.toList_some,List.singleton_append,List.nodup_cons,List.mem_cons] at hsub ⊢
        refine ⟨hsub.1,⟨hn2,hsub.2.1⟩,?_⟩
        intro x hx y hy hxy
        rcases hy with rfl | hy
        · exact hn1 (hxy ▸ hx)
        · exact hsub.2.2 x hx y hy hxy
  · intro b hb
    obtain ⟨x,hx,hc⟩:=Na hb
    rcases List.mem_append.1 hx with h | h
    · have:=S.sep b (List.mem_filterMap.2 ⟨x,List.mem_append.2 (.inl h),hc⟩)
      exact ⟨this.1,this.2.1,Nat.lt_of_lt_of_le this.2.2 k.size⟩
    · rcases List.mem_cons.1 h with rfl | h
      · rcases hf b hc with h1 | h1
        · have:=S.sep b (Sx.fp_mem hi h1)
          exact ⟨this.1,this.2.1,Nat.lt_of_lt_of_le this.2.2 k.size⟩
        · refine ⟨?_,.inl (Nat.le_trans S.keep.size h1),hh.lt hc⟩
          cases hφ : φ b with
          | none=>rfl
          | some o=>have:=heap_lt (S.emb b o hφ); omega
      · have:=S.sep b (List.mem_filterMap.2 ⟨x,List.mem_append.2 (.inr (List.mem_cons_of_mem _ h)),hc⟩)
        exact ⟨this.1,this.2.1,Nat.lt_of_lt_of_le this.2.2 k.size⟩

theorem Sx.more {e : LEnt} {w' : World} (S : Sx w0 X φ L K n a w) (k : Keep [] w w') (hh : e.holds w') (hf : ∀ b,e.fp = some b → w.heap.size ≤ b) : Sx w0 X φ (e :: L) K n a w':=by
  have h0 : Sx w0 X φ (.own (.slice none 0 0) 0 0 0 [] :: L) K n a w:=by
    refine { S with holds:=?_,nodup:=S.nodup,sep:=S.sep }
    intro x hx
    rcases List.mem_cons.1 hx with rfl | h
    · exact World.ownsRow_nil w 0 0 0
    · exact S.holds x h
  exact h0.change (i:=0) (e:=.own (.slice none 0 0) 0 0 0 []) rfl k (by simp) hh (fun b hb=>.inr (hf b hb))

theorem Sx.nil (T k : Nat) (S : Sx w0 X φ L K n a w) : Sx w0 X φ (.own (.slice none 0 0) T k 0 [] :: L) K n a w:=by
  refine { S with holds:=?_,nodup:=S.nodup,sep:=S.sep }
  intro x hx
  rcases List.mem_cons.1 hx with rfl | h
  · exact World.ownsRow_nil w 0 T k
  · exact S.holds x h

theorem Jb (w : World) (o : Obj) : Keep [] w (w.alloc o) :=
  ⟨rfl,rfl,rfl,(by first | exact Nat.le_refl _ | exact Nat.le_succ _),by simp,fun k hk _=>heap_alloc_old w o hk⟩
theorem Sx.blk_at {i b : Nat} {cells : List Value} {T : TypeId} (S : Sx w0 X φ L K n a w) (hi : L[i]? = some (.blk b cells T)) : w.heap[b]? = some (.cells cells.toArray T (0,0)) :=
  S.holds _ (List.mem_of_getElem? hi)

end


def Mem (φ : View) (b off : Nat) (cs : List Value) : Prop :=
  ∃ c T fr,φ b = some (.cells c T fr) ∧ ∀ j v,cs[j]? = some v → c[off + j]? = some v

theorem Mem.mono {φ ψ : View} {b off : Nat} {cs : List Value} (h : Mem φ b off cs) (k : View.le φ ψ) : Mem ψ b off cs:=by
  obtain ⟨c,T,fr,h1,h2⟩:=h
  exact ⟨c,T,fr,k _ _ h1,h2⟩

theorem Mem.cell {φ : View} {b off : Nat} {cs : List Value} {w : World} (h : Mem φ b off cs) (e : Emb φ w) : ∀ j v,cs[j]? = some v → w.cell? ⟨b,off + j,none⟩ = some v:=by
  obtain ⟨c,T,fr,h1,h2⟩:=h
  intro j v hv
  rw [cell_of_row w b (off + j) c T fr (e _ _ h1)]
  exact h2 j v hv

theorem Lk (b off j : Nat) : (⟨b,off,none⟩ : Addr).add j = ⟨b,off + j,none⟩:=by unfold Addr.add; split <;> simp_all

def Slc (φ : View) (k : Nat) (v : Value) (rows : List (List Value)) : Prop :=
  ∃ ao cap,v = .slice ao rows.length cap ∧ rows.length ≤ cap ∧ cap ≤ maxLen ∧ (ao = none → cap = 0) ∧
    ∀ ad,ao = some ad → ad.spot = none ∧ ∀ i cs,rows[i]? = some cs → cs.length = k ∧ Mem φ ad.block (ad.off + i * k) cs

theorem Slc.mono {φ ψ : View} {k : Nat} {v : Value} {rows : List (List Value)} (h : Slc φ k v rows) (l : View.le φ ψ) : Slc ψ k v rows:=by
  obtain ⟨ao,cap,h1,h2,h3,h4,h5⟩:=h
  exact ⟨ao,cap,h1,h2,h3,h4,fun ad e=>⟨(h5 ad e).1,fun i cs hc=>⟨((h5 ad e).2 i cs hc).1,((h5 ad e).2 i cs hc).2.mono l⟩⟩⟩

theorem Tv (φ : View) (k : Nat) : Slc φ k (.slice none 0 0) [] :=
  ⟨none,0,rfl,by simp,by simp,fun _=>rfl,fun ad h=>by cases h⟩

def Le (φ : View) (T k : Nat) (v : Value) (m : Nat) (cs : List Value) : Prop :=
  cs.length = m * k ∧ ((v = .slice none 0 0 ∧ m = 0) ∨
   ∃ g cap cur,v = .slice (some ⟨g,0,none⟩) m cap ∧ φ g = some (.cells cur T (0,0)) ∧ m ≤ cap ∧ cap ≤ maxLen ∧ cur.size = cap * k ∧ cur.toList.take (m * k) = cs)

theorem Le.mono {φ ψ : View} {T k m : Nat} {v : Value} {cs : List Value} (h : Le φ T k v m cs) (l : View.le φ ψ) : Le ψ T k v m cs:=by
  refine ⟨h.1,?_⟩
  rcases h.2 with h | ⟨g,cap,cur,h1,h2,h3⟩
  · exact .inl h
  · exact .inr ⟨g,cap,cur,h1,l _ _ h2,h3⟩

theorem Ni {k : Nat} {rows : List (List Value)} (hk : ∀ r ∈ rows,r.length = k) {i : Nat} {cs : List Value} (hi : rows[i]? = some cs) {j : Nat} {v : Value} (hj : cs[j]? = some v) :
    rows.flatten[i * k + j]? = some v:=by
  induction rows generalizing i with
  | nil=>cases hi
  | cons r rs ih =>
    have hr : r.length = k:=hk r List.mem_cons_self
    cases i with
    | zero =>
      simp at hi
      subst hi
      have hjl : j < r.length:=by
        rcases Nat.lt_or_ge j r.length with h | h
        · exact h
        · rw [List.getElem?_eq_none h] at hj; cases hj
      simp only [List.flatten_cons,Nat.zero_mul,Nat.zero_add]
      rw [List.getElem?_append_left hjl]; exact hj
    | succ i =>
      simp only [List.getElem?_cons_succ] at hi
      have:=ih (fun r' h'=>hk r' (List.mem_cons_of_mem _ h')) hi
      simp only [List.flatten_cons]
      rw [List.getElem?_append_right (by rw [hr,Nat.succ_mul]; omega)]
      rw [hr,show (i + 1) * k + j - k = i * k + j by rw [Nat.succ_mul]; omega]
      exact this

theorem Le.slc {φ : View} {T k m : Nat} {v : Value} {cs : List Value} (h : Le φ T k v m cs) {rows : List (List Value)} (hr : rows.flatten = cs) (hk : ∀ r ∈ rows,r.length = k) (hm : rows.length = m) :
    Slc φ k v rows:=by
  subst hm
  rcases h.2 with ⟨rfl,h0⟩ | ⟨g,cap,cur,rfl,h2,h3,h4,h5,h6⟩
  · have : rows = []:=List.eq_nil_of_length_eq_zero h0
    subst this
    exact Tv φ k
  · refine ⟨_,cap,rfl,h3,h4,(fun h=>by cases h),fun ad e=>?_⟩
    cases e
    refine ⟨rfl,fun i cs' hi=>⟨hk _ (List.mem_of_getElem? hi),cur,T,(0,0),h2,fun j v hj=>?_⟩⟩
    have h7:=Ni hk hi hj
    rw [hr,← h6,List.getElem?_take] at h7
    split at h7
    · simpa [Nat.add_comm] using h7
    · cases h7
end Go.Proofs.YtgfjjiheamdgbaaGreatDoor.D

namespace Go.Proofs.YtgfjjiheamdgbaaGreatDoor.D
open Go

def EvL (a : Act) : List Operand → List Value → Prop
  | [],[]=>True
  | x :: r,v :: s=>a.eval x = v ∧ EvL a r s
  | _,_=>False
def EvP (a : Act) : List (Nat × Operand) → List (Nat × Value) → Prop
  | [],[]=>True
  | (i,x) :: r,(j,v) :: s=>i = j ∧ a.eval x = v ∧ EvP a r s
  | _,_=>False
theorem EvL.map {a : Act} : ∀ {l : List Operand} {vs : List Value},EvL a l vs → l.map a.eval = vs
  | [],[],_=>rfl
  | _ :: _,_ :: _,h=>by rw [List.map_cons,h.1,EvL.map h.2]
theorem EvP.map {a : Act} : ∀ {l : List (Nat × Operand)} {vs : List (Nat × Value)},EvP a l vs → l.map (fun p=>(p.1,a.eval p.2)) = vs
  | [],[],_=>rfl
  | (i,x) :: _,(j,v) :: _,h=>by
    obtain ⟨rfl,h1,h2⟩:=h
    rw [List.map_cons,h1,EvP.map h2]

def Ret (w : World) (X : List Nat) (Φ : View → Value → World → Prop) : Ending → World → Prop:=fun e w' =>
  ∃ v,e = .returned v ∧ Keep X w w' ∧ Φ (newer w w') v w'

section
variable {P : Program} {ops : Array Oper} {Q : Exit → Act → World → Prop} {rest : List Oper}
variable {w0 : World} {X : List Nat} {φ : View} {L : List LEnt} {K : List (Nat × Value)} {n : Nat} {a : Act} {w : World}
variable {d : Nat} {ty : TypeId} {pos : String} {after : Array Edge}

theorem Sx.emb0 (S : Sx w0 X φ L K n a w) : Emb (view w0 X) w:=by
  intro b o h
  unfold view at h
  split at h
  · cases h
  · rename_i hx
    rw [S.keep.block b (heap_lt h) hx]; exact h
theorem lv {op : Op} {v : Value} (S : Sx w0 X φ L K n a w) (h : Rn P a w op ty v) (hd : Nat.blt d n = true)
    (k : ∀ a',Sx w0 X φ L ((d,v) :: K) n a' w → wpList P ops Q rest a' w) :
    wpList P ops Q ({ dst:=some d,op,type:=ty,pos,after,guard:=none } :: rest) a w:=by
  refine wpList_plain rfl fun K' hK=>?_
  unfold Oper.wp
  rw [h (some d) pos after none]
  exact hK _ _ (k _ (S.put (by simpa using hd)))

theorem Ld (k : Q .normal a w) : wpList P ops Q [] a w:=k

theorem Vn {op : Op} {v : Value} {dst : Option Nat} {w' : World} (h : (execOp a.eval { dst,op,type:=ty,pos,after,guard:=none }).run P w = .ok (.value v) w')
    (k : wpList P ops Q rest (a.put dst v) w') : wpList P ops Q ({ dst,op,type:=ty,pos,after,guard:=none } :: rest) a w:=by
  refine wpList_plain rfl fun K' hK=>?_
  unfold Oper.wp
  rw [h]
  exact hK _ _ k
theorem Mn {T : TypeId} {x : Operand} {b off : Nat} {v : Value} (hT : ∀ w,(isAgg T).run P w = .ok false w) (hx : a.eval x = .pointer (some ⟨b,off,none⟩)) (hc : w.cell? ⟨b,off,none⟩ = some v) :
    Rn P a w (.load T x) ty v:=by
  intro d p e g
  simp [execOp,hx,Instr.loadAt,Instr.sureAddr,loadVar,hT,run_load,hc]
theorem Sx.cell {i b off : Nat} {cells : List Value} {T : TypeId} {v : Value} (S : Sx w0 X φ L K n a w) (hi : L[i]? = some (.blk b cells T)) (hv : cells[off]? = some v) : w.cell? ⟨b,off,none⟩ = some v:=by
  rw [cell_of_row w b off cells.toArray T (0,0) (S.blk_at hi)]
  simpa using hv
theorem Sx.cells {i b off kk : Nat} {cells cs : List Value} {T : TypeId} (S : Sx w0 X φ L K n a w) (hi : L[i]? = some (.blk b cells T)) (hcs : (cells.drop off).take kk = cs) :
    ∀ j v,cs[j]? = some v → w.cell? ⟨b,off + j,none⟩ = some v:=by
  intro j v hv
  refine S.cell hi ?_
  subst hcs
  rw [List.getElem?_take] at hv
  split at hv
  · simpa using hv
  · cases hv

theorem Oh {T : TypeId} {x : Operand} {v : Value} {cs : List Value} (S : Sx w0 X φ L K n a w) (hx : a.eval x = v) (hcs : v.cells.toList = cs) (hd : Nat.blt d n = true)
    (k : ∀ a' w' b,b = w.heap.size → Keep [] w w' → Sx w0 X φ (.blk b cs T :: L) ((d,.pointer (some ⟨b,0,none⟩)) :: K) n a' w' → wpList P ops Q rest a' w') :
    wpList P ops Q ({ dst:=some d,op:=.box T x,type:=ty,pos,after,guard:=none } :: rest) a w:=by
  refine Vn (v:=.pointer (some ⟨w.heap.size,0,none⟩)) (w':=w.alloc (.cells v.cells T)) (by simp [execOp,Instr.box,hx,newVar,newRow]) ?_
  refine k _ _ w.heap.size rfl (Jb w _) (((S.more (e:=.blk w.heap.size cs T) (Jb w _) ?_ ?_)).put (by simpa using hd))
  · show (w.alloc _).heap[w.heap.size]? = _
    rw [heap_alloc_new,← hcs]
  · intro b hb; cases hb; exact Nat.le_refl _

theorem De {T el : TypeId} {len sz : Nat} {z : Value} {ps : List (Nat × Operand)} {pv : List (Nat × Value)} {cs : List Value} (S : Sx w0 X φ L K n a w) (hT : P.underlying T = some (.slice el)) (hs : ∀ w,(sizeOf el).run P w = .ok sz w) (hz : ∀ w,(zeroValue el).run P w = .ok z w)
    (hlim : Nat.ble (len * sz) 16777216 = true) (h0 : (len * sz == 0) = false) (hev : EvP a ps pv)
    (hf : Instr.fill (fun i=>some (i * sz,sz)) ((Array.range (len * sz)).map (z.cells[· % z.cells.size]!)) pv = some cs.toArray) (hd : Nat.blt d n = true)
    (k : ∀ a' w' b,b = w.heap.size → Keep [] w w' → Sx w0 X φ (.blk b cs el :: L) ((d,.slice (some ⟨b,0,none⟩) len len) :: K) n a' w' → wpList P ops Q rest a' w') :
    wpList P ops Q ({ dst:=some d,op:=.buildSlice T len ps.toArray,type:=ty,pos,after,guard:=none } :: rest) a w:=by
  have hm:=hev.map
  have hlim' : ¬ (16777216 < len * sz):=by simpa using hlim
  have h0' : ¬ len * sz = 0:=by simpa using h0
  have hb : (Instr.buildSlice T len pv.toArray).run P w = .ok (.slice (some ⟨w.heap.size,0,none⟩) len len) (w.alloc (.cells cs.toArray el)):=by
    unfold Instr.buildSlice
    simp only [Sem.run_bind,run_underlying hT,hs,Result.andThen_ok,gt_iff_lt,if_neg hlim',if_neg h0',hz,Sem.run_pure,hf,newRow,run_newObj]
    rfl
  refine Vn (v:=.slice (some ⟨w.heap.size,0,none⟩) len len) (w':=w.alloc (.cells cs.toArray el)) ?_ ?_
  · have he : execOp a.eval { dst:=some d,op:=.buildSlice T len ps.toArray,type:=ty,pos,after,guard:=none } = (do pure (.value (← Instr.buildSlice T len (ps.toArray.map fun (i,x)=>(i,a.eval x))))):=rfl
    rw [he,List.map_toArray,show ps.map (fun (i,x)=>(i,a.eval x)) = pv from hm,Sem.run_bind,hb]
    rfl
  · refine k _ _ w.heap.size rfl (Jb w _) (((S.more (e:=.blk w.heap.size cs el) (Jb w _) ?_ ?_)).put (by simpa using hd))
    · show (w.alloc _).heap[w.heap.size]? = _
      rw [heap_alloc_new]
    · intro b hb; cases hb; exact Nat.le_refl _

def New (w : World) (φ : View) (L : List LEnt) : Prop:=∀ b,w.heap.size ≤ b → φ b = none ∧ b ∉ fps L
theorem Sx.new (S : Sx w0 X φ L K n a w) : New w φ L:=fun b hb=>⟨by
    cases h : φ b with
    | none=>rfl
    | some o=>have:=heap_lt (S.emb b o h); omega,fun hm=>by have:=(S.sep b hm).2.2; omega⟩

theorem Sx.keepNone {w' : World} (S : Sx w0 X φ L K n a w) (hk : Keep [] w w') : Sx w0 X φ L K n a w':=by
  have S' : Sx w0 X φ (.own (.slice none 0 0) 0 0 0 [] :: L) K n a w:=S.nil 0 0
  have S'':=S'.change (i:=0) (e':=.own (.slice none 0 0) 0 0 0 []) rfl hk (by simp) (World.ownsRow_nil w' 0 0 0) (fun b hb=>by cases hb)
  exact S''.drop (.cons _ (List.Sublist.refl _))

theorem Sx.take {wo : World} {T k m : Nat} {v : Value} {cs : List Value} (S : Sx w0 X φ L K n a w) (hn : New wo φ L) (hs : w0.heap.size ≤ wo.heap.size) (ho : Le (newer wo w) T k v m cs) :
    Sx w0 X φ (.own v T k m cs :: L) K n a w:=by
  have hrow : w.ownsRow 0 T k v m cs:=by
    refine ⟨ho.1,?_⟩
    rcases ho.2 with h | ⟨g,cap,cur,h1,h2,h3⟩
    · exact .inl h
    · exact .inr ⟨g,cap,cur,h1,Nat.zero_le _,emb_newer wo w g _ h2,h3⟩
  have hblk : ∀ b,v.ownBlock = some b → wo.heap.size ≤ b:=by
    intro b hb
    rcases ho.2 with ⟨rfl,_⟩ | ⟨g,cap,cur,rfl,h2,h3⟩
    · cases hb
    · cases hb
      unfold newer at h2
      split at h2
      · rename_i h; exact h
      · cases h2
  refine { S with holds:=?_,nodup:=?_,sep:=?_ }
  · intro x hx
    rcases List.mem_cons.1 hx with rfl | h
    · exact hrow
    · exact S.holds x h
  · cases hb : v.ownBlock with
    | none=>simpa [fps,List.filterMap_cons,LEnt.fp,hb] using S.nodup
    | some b =>
      have h1 : fps (LEnt.own v T k m cs :: L) = b :: fps L:=by simp [fps,LEnt.fp,hb]
      rw [h1,List.nodup_cons]
      exact ⟨(hn b (hblk b hb)).2,S.nodup⟩
  · intro b hb
    obtain ⟨x,hx,hc⟩:=Na hb
    rcases List.mem_cons.1 hx with rfl | h
    · have h1:=hblk b hc
      exact ⟨(hn b h1).1,.inl (Nat.le_trans hs h1),(show w.ownsRow 0 T k v m cs from hrow).lt b hc |>.2⟩
    · exact S.sep b (List.mem_filterMap.2 ⟨x,h,hc⟩)

theorem Ck {f : FuncId} {dst : Option Nat} {xs : List Operand} {vs : List Value} {ats : Array TypeId} (hev : EvL a xs vs) (hcf : ∀ args w,(callFunc f args).run P w = .ok (.enter f args) w) :
    (execOp a.eval { dst,op:=.call { callee:=.value (.func f),args:=xs.toArray,argTypes:=ats },type:=ty,pos,after,guard:=none }).run P w = .ok (.enter f vs.toArray) w:=by
  have hm:=hev.map
  simp [execOp,resolve,Act.eval,Deferred.ofValue,invoke,hcf]
  exact hm
theorem Cy {op : Op} {f : FuncId} {vs : Array Value} {Φ : View → Value → World → Prop} (S : Sx w0 X φ L K n a w)
    (hr : ∀ dst,(execOp a.eval { dst,op,type:=ty,pos,after,guard:=none }).run P w = .ok (.enter f vs) w) (hc : Calls P f vs w (Ret w [] Φ)) (hd : Nat.blt d n = true)
    (k : ∀ v a' w',Φ (newer w w') v w' → Keep [] w w' → New w φ L → Sx w0 X φ L ((d,v) :: K) n a' w' → wpList P ops Q rest a' w') :
    wpList P ops Q ({ dst:=some d,op,type:=ty,pos,after,guard:=none } :: rest) a w:=by
  refine wpList_plain rfl fun K' hK=>?_
  unfold Oper.wp
  rw [hr,Oper.upon_enter]
  refine hc.mono ?_
  rintro e w' ⟨v,rfl,hk,hΦ⟩
  exact hK _ _ (k v _ w' hΦ hk S.new ((S.keepNone hk).put (by simpa using hd)))

end
end Go.Proofs.YtgfjjiheamdgbaaGreatDoor.D

namespace Go.Proofs.YtgfjjiheamdgbaaGreatDoor.D
open Go

section
variable {P : Program} {ops : Array Oper} {Q : Exit → Act → World → Prop} {rest : List Oper}
variable {w0 : World} {X : List Nat} {φ : View} {L : List LEnt} {K : List (Nat × Value)} {n : Nat} {a : Act} {w : World}
variable {d : Nat} {ty : TypeId} {pos : String} {after : Array Edge}

theorem Fg {id : Nat} {l : List Oper} (h : wpList P l.toArray Q l a w) : (Code.region id l.toArray false).wp P Q a w:=wp_region_lit h
theorem Fs {x y : Code} (h : x.wp P (Exit.then (y.wp P Q) Q) a w) : (Code.seq x y).wp P Q a w:=wp_seq h
theorem Wi {c : Operand} {x y : Code} {b : Bool} (hc : a.eval c = .bool b) (ht : b = true → x.wp P Q a w) (hf : b = false → y.wp P Q a w) : (Code.cond c x y).wp P Q a w :=
  wp_cond_split hc ht hf
theorem Gt {ι : Type} {c : Code} (I : ι → Act → World → Prop) (μ : ι → Nat) (x0 : ι) (h0 : I x0 a w)
    (round : ∀ x a w,I x a w → c.wp P (Exit.then (fun a' w'=>∃ x',I x' a' w' ∧ μ x' < μ x) Q) a w) : (Code.loop c).wp P Q a w:=by
  refine wp_loop (fun a w=>∃ x,I x a w) (fun a w=>Classical.epsilon fun m=>∃ x,I x a w ∧ μ x = m ∧ ∀ y,I y a w → m ≤ μ y) ⟨x0,h0⟩ ?_
  intro a w hx
  have hmin : ∃ m,∃ x,I x a w ∧ μ x = m ∧ ∀ y,I y a w → m ≤ μ y:=by
    obtain ⟨x,hx⟩:=hx
    generalize hm : μ x = m
    induction m using Nat.strongRecOn generalizing x with
    | _ m ih =>
      by_cases hy : ∃ y,I y a w ∧ μ y < m
      · obtain ⟨y,hy,hl⟩:=hy
        exact ih _ hl y hy rfl
      · exact ⟨m,x,hx,hm,fun y h=>by
          rcases Nat.lt_or_ge (μ y) m with h' | h'
          · exact absurd ⟨y,h,h'⟩ hy
          · exact h'⟩
  obtain ⟨x,hIx,hxm,hmn⟩:=Classical.epsilon_spec hmin
  refine wp_mono (round x a w hIx) ?_
  intro e a' w' hq
  cases e with
  | normal =>
    obtain ⟨x',hx',hl⟩:=hq
    refine ⟨⟨x',hx'⟩,?_⟩
    have hmin' : ∃ m,∃ x,I x a' w' ∧ μ x = m ∧ ∀ y,I y a' w' → m ≤ μ y:=by
      generalize hm : μ x' = m
      clear hl
      induction m using Nat.strongRecOn generalizing x' with
      | _ m ih =>
        by_cases hy : ∃ y,I y a' w' ∧ μ y < m
        · obtain ⟨y,hy,hl⟩:=hy
          exact ih _ hl y hy rfl
        · exact ⟨m,x',hx',hm,fun y h=>by
            rcases Nat.lt_or_ge (μ y) m with h' | h'
            · exact absurd ⟨y,h,h'⟩ hy
            · exact h'⟩
    obtain ⟨z,hIz,hzm,hzn⟩:=Classical.epsilon_spec hmin'
    have h1:=hzn x' hx'
    omega
  | exit id=>exact hq
  | goto l=>exact hq
  | ret=>exact hq
  | panic c=>exact hq
  | outgrown=>exact hq

theorem Gj {id : Nat} (h : Q .normal a w) : Exit.inBlock id Q (.exit id) a w:=by simpa [Exit.inBlock] using h
def Up : Nat → List Value → List (Nat × Value)
  | _,[]=>[]
  | i,v :: r=>(i,v) :: Up (i + 1) r
theorem Qe : ∀ (vs : List Value) (i t : Nat) (v : Value),look (Up i vs) t = some v → i ≤ t ∧ vs[t - i]? = some v
  | [],_,_,_,h=>by cases h
  | u :: r,i,t,v,h=>by
    unfold Up look at h
    split at h
    · rename_i hb
      have : i = t:=Nat.eq_of_beq_eq_true hb
      subst this
      cases h
      simp
    · obtain ⟨h1,h2⟩:=Qe r (i + 1) t v h
      refine ⟨by omega,?_⟩
      rw [show t - i = (t - (i + 1)) + 1 by omega,List.getElem?_cons_succ]
      exact h2

theorem Sx.init {vs : List Value} {nt : Nat} (X : List Nat) (L : List LEnt) (hL : ∀ e ∈ L,e.holds w) (hnd : (fps L).Nodup) (hX : ∀ b ∈ fps L,b ∈ X) (hn : Nat.ble vs.length nt = true) :
    Sx w X nov L (Up 0 vs) nt { tmps:=vs.toArray ++ Array.replicate (nt - vs.toArray.size) undef,defers:=[] } w:=by
  have hn' : vs.length ≤ nt:=by simpa using hn
  refine ⟨Keep.refl X w,(fun _ _ h=>by cases h),(fun _ _ h=>by cases h),hL,hnd,fun b hb=>⟨rfl,.inr (hX b hb),?_⟩,rfl,by simp; omega,?_⟩
  · obtain ⟨e,he,hf⟩:=Na hb
    exact (hL e he).lt hf
  · intro t v h
    obtain ⟨_,h2⟩:=Qe vs 0 t v h
    simp only [Nat.sub_zero] at h2
    have hlt : t < vs.length:=by
      rcases Nat.lt_or_ge t vs.length with h' | h'
      · exact h'
      · rw [List.getElem?_eq_none h'] at h2; cases h2
    rw [Array.getElem?_append_left (by simpa using hlt)]
    simpa using h2

theorem Ju {f : FuncId} {fn : Func} {c : Code} {vs : List Value} {R : Ending → World → Prop} {nt : Nat} (X : List Nat) (L : List LEnt)
    (hf : P.funcs[f]? = some fn) (hb : fn.body = some c) (hnt : fn.ntmps = nt) (hn : Nat.ble vs.length nt = true)
    (hL : ∀ e ∈ L,e.holds w) (hnd : (fps L).Nodup) (hX : ∀ b ∈ fps L,b ∈ X)
    (k : ∀ a,Sx w X nov L (Up 0 vs) nt a w → c.wp P (bodyPost P fn R) a w) : Calls P f vs.toArray w R:=by
  refine calls_of_wp hf hb (k _ ?_)
  rw [hnt]
  exact Sx.init X L hL hnd hX hn

theorem Dx {fn : Func} {t : Tmp} {v : Value} {Φ : View → Value → World → Prop} (S : Sx w0 X φ L K n a w) (hr : fn.results = #[.tmp t]) (hv : look K t = some v) (h : Φ (newer w0 w) v w) :
    bodyPost P fn (Ret w0 X Φ) .ret a w:=by
  have hs:=S.slots t v hv
  refine ⟨S.nodefer,v,?_,v,rfl,S.keep,h⟩
  rw [results_tmp hr]
  simp [hs]
end
end Go.Proofs.YtgfjjiheamdgbaaGreatDoor.D

namespace Go.Proofs.YtgfjjiheamdgbaaGreatDoor.D
open Go

def QN (N : Act → World → Prop) : Exit → Act → World → Prop
  | .normal,a,w=>N a w
  | _,_,_=>False

section
variable {P : Program} {ops : Array Oper} {N : Act → World → Prop} {C : Array Bool → World → Prop} {D : World → Prop}

def wpC (P : Program) (ops : Array Oper) (C : Array Bool → World → Prop) (N : Act → World → Prop) : Nat → Array Bool → Act → World → Prop
  | 0,listed,a,w=>C listed w ∧ Region.ready .any ops listed = [] ∧ N a w
  | fuel + 1,listed,a,w=>C listed w ∧ (Region.ready .any ops listed = [] → N a w) ∧
      ∀ i ∈ Region.ready .any ops listed,wpOp P ops (QN N) i (wpC P ops C N fuel (listed.setIfInBounds i true)) a w

theorem Tx : ∀ (fuel : Nat) (listed : Array Bool) (a : Act) (w : World),wpC P ops C N fuel listed a w → wpAny P .any ops (QN N) fuel listed a w
  | 0,_,_,_,h=>h.2
  | fuel + 1,_,_,_,h=>⟨h.2.1,fun i hi=>wpOp_mono (fun a w hh=>Tx fuel _ a w hh) (h.2.2 i hi)⟩

theorem Qf {C' : Array Bool → World → Prop} (hC : ∀ l w,C' l w → C l w) : ∀ (fuel : Nat) (listed : Array Bool) (a : Act) (w : World),wpC P ops C' N fuel listed a w → wpC P ops C N fuel listed a w
  | 0,_,_,_,h=>⟨hC _ _ h.1,h.2⟩
  | fuel + 1,_,_,_,h=>⟨hC _ _ h.1,h.2.1,fun i hi=>wpOp_mono (fun a w hh=>Qf hC fuel _ a w hh) (h.2.2 i hi)⟩

theorem wpC.c {fuel : Nat} {listed : Array Bool} {a : Act} {w : World} (h : wpC P ops C N fuel listed a w) : C listed w:=by
  cases fuel with
  | zero=>exact h.1
  | succ n=>exact h.1

def Iz (P : Program) (ops : Array Oper) (D : World → Prop) (o : Oper) (v : Value) (a : Act) : Prop :=
  (Region.wanted o (yielded ops a.tmps) = true ∧ ∀ w,D w → (execOp a.eval o).run P w = .ok (.value v) w) ∨
  (Region.wanted o (yielded ops a.tmps) = false ∧ v = undef)

theorem Iz.wpOp {i : Nat} {o : Oper} {v : Value} {a : Act} (hi : ops[i]? = some o) (hy : Iz P ops D o v a)
    {K : Act → World → Prop} {w : World} (hc : D w) (h : K (a.put o.dst v) w) : wpOp P ops (QN N) i K a w:=by
  unfold Go.wpOp
  simp only [hi]
  rcases hy with ⟨hw,hv⟩ | ⟨hw,rfl⟩
  · simp only [hw,if_true,Oper.wp,hv w hc,Oper.upon]; exact .inl h
  · simp only [hw,Bool.false_eq_true,if_false]; exact h
theorem Iz.of_same {o : Oper} {v : Value} {a a' : Act} (hy : Iz P ops D o v a) (he : execOp a'.eval o = execOp a.eval o)
    (hw : Region.wanted o (yielded ops a'.tmps) = Region.wanted o (yielded ops a.tmps)) : Iz P ops D o v a':=by
  unfold Iz at *
  rw [he,hw]
  exact hy

theorem Yo {j : Nat} {oi oj : Oper} {v : Value} (hj : ops[j]? = some oj) (hap : oi.apart ops oj = true)
    (hsi : ∀ cs b,oi.op ≠ .select cs b) (hsj : ∀ cs b,oj.op ≠ .select cs b) {K : Act → World → Prop} {a : Act} {w : World}
    (hy : Iz P ops D oi v a) (h : wpOp P ops (QN N) j K (a.put oi.dst v) w) :
    wpOp P ops (QN N) j (fun a' w'=>Iz P ops D oi v a' ∧ K (a'.put oi.dst v) w') a w:=by
  obtain ⟨h1,h2,h3⟩:=Oper.apart_spec hap
  have keep : ∀ (a : Act),Iz P ops D oi v a → ∀ u,Iz P ops D oi v (a.put oj.dst u):=fun a hy u =>
    hy.of_same (execOp_put oi hsi a oj.dst u h3) (wanted_put oi a oj.dst u h3)
  have keepD : ∀ d,Iz P ops D oi v { a with defers:=d :: a.defers }:=fun d=>hy.of_same rfl rfl
  unfold wpOp at *
  simp only [hj] at *
  rw [wanted_put oj a oi.dst v h1] at h
  split
  · rename_i hw
    simp only [hw,if_true] at h
    rcases h with h | ⟨hasks,a',w',hlets⟩
    case inr=>exact hlets.elim
    refine .inl ?_
    unfold Oper.wp at *
    rw [execOp_put oj hsj a oi.dst v h1] at h
    generalize (execOp a.eval oj).run P w = r at *
    cases r with
    | ok n w' =>
      cases n <;> simp only [Oper.upon] at h ⊢
      case value u=>exact ⟨keep a hy u,by rw [← Act.put_comm a v u h2]; exact h⟩
      case skip=>exact ⟨keep a hy _,by rw [← Act.put_comm a v undef h2]; exact h⟩
      case defer d =>
        refine ⟨keep _ (keepD d) _,?_⟩
        rw [← Act.put_comm _ v undef h2,← Act.put_defers]
        exact h
      case enter f args =>
        refine Calls.mono h fun e w'' he=>?_
        cases e with
        | returned u=>exact ⟨keep a hy u,by rw [← Act.put_comm a v u h2]; exact he⟩
        | panicked c=>exact he.elim
        | outgrown=>obtain ⟨_,_,he⟩:=he; exact he.elim
      case row row args=>exact Rows.mono h fun u w'' he=>⟨keep a hy u,by rw [← Act.put_comm a v u h2]; exact he⟩
    | halt x w' =>
      cases x <;> simp only [Oper.upon] at h ⊢
      case panic u=>exact h.elim
  · rename_i hw
    simp only [hw] at h
    exact ⟨keep a hy _,by rw [← Act.put_comm a v undef h2]; exact h⟩

theorem Qg {i : Nat} {oi : Oper} {v : Value} {R : Array Bool → Prop} (hi : ops[i]? = some oi) (hsel : ∀ (j : Nat) (o : Oper) cs b,ops[j]? = some o → o.op ≠ .select cs b)
    (hA : ∀ l w,C (l.setIfInBounds i true) w → C l w) (hD : ∀ l w,R l → C l w → D w) (hR : ∀ l j,R l → j ∈ Region.ready .any ops l → j ≠ i → l.getD i true = false → R (l.setIfInBounds j true)) :
    ∀ (fuel : Nat) (listed : Array Bool) (a : Act) (w : World),C listed w → R listed →
      (∀ j oj,ops[j]? = some oj → j ≠ i → listed.getD j true = false → (∀ e ∈ oj.after,Region.binds .any e = true → e.on ≠ i) → oi.apart ops oj = true) →
      i ∈ Region.ready .any ops listed → Iz P ops D oi v a →
      wpC P ops C N fuel (listed.setIfInBounds i true) (a.put oi.dst v) w → wpC P ops C N (fuel + 1) listed a w:=by
  intro fuel
  induction fuel with
  | zero =>
    intro listed a w hc hr0 _ hr hy H
    refine ⟨hc,fun h=>(by rw [h] at hr; cases hr),fun j hj=>?_⟩
    by_cases hji : j = i
    · subst hji; exact hy.wpOp hi (hD _ _ hr0 hc) H
    · have:=ready_mono hj hji
      rw [H.2.1] at this
      cases this
  | succ fuel ih =>
    intro listed a w hc hr0 hfree hr hy H
    refine ⟨hc,fun h=>(by rw [h] at hr; cases hr),fun j hj=>?_⟩
    by_cases hji : j = i
    · subst hji; exact hy.wpOp hi (hD _ _ hr0 hc) H
    · have h1:=H.2.2 j (ready_mono hj hji)
      obtain ⟨hjun,oj,hoj,hall⟩:=mem_ready.1 hj
      have hnot : ∀ e ∈ oj.after,Region.binds .any e = true → e.on ≠ i:=fun e he hb heq=>by
        have h1:=hall e he hb
        have h0:=(mem_ready.1 hr).1
        rw [heq] at h1
        rcases Nat.lt_or_ge i listed.size with h' | h'
        · simp [h'] at h0 h1; rw [h0] at h1; cases h1
        · simp [Array.getElem?_eq_none h'] at h1
      have h2:=Yo hoj (hfree j oj hoj hji hjun hnot) (fun cs b=>hsel i oi cs b hi) (fun cs b=>hsel j oj cs b hoj) hy h1
      have hfree' : ∀ k ok,ops[k]? = some ok → k ≠ i → (listed.setIfInBounds j true).getD k true = false →
          (∀ e ∈ ok.after,Region.binds .any e = true → e.on ≠ i) → oi.apart ops ok = true:=fun k ok hk hki hun hno=>by
        refine hfree k ok hk hki ?_ hno
        by_cases hjk : j = k
        · subst hjk; exact hjun
        · rw [getD_set_ne true hjk] at hun; exact hun
      refine wpOp_mono (fun a' w' h3=>?_) h2
      have h4:=h3.2
      rw [Array.setIfInBounds_comm _ _ (Ne.symm hji)] at h4
      exact ih (listed.setIfInBounds j true) a' w' (hA _ _ h4.c) (hR _ _ hr0 hj hji (mem_ready.1 hr).1) hfree' (ready_mono hr (Ne.symm hji)) h3.1 h4
end

section
variable {P : Program} {ops : Array Oper} {N : Act → World → Prop} {Y : List Nat} {fuel : Nat} {listed : Array Bool}
variable {w0 : World} {X : List Nat} {φ : View} {L : List LEnt} {K : List (Nat × Value)} {n : Nat} {a : Act} {w : World}
variable {d : Nat} {ty : TypeId} {pos : String} {after : Array Edge}

def noB (B : List Nat) (listed : Array Bool) : Bool:=B.all fun j=>!listed.getD j true
theorem Pi {B : List Nat} {l : Array Bool} {i : Nat} (hi : B.contains i = false) (h : noB B l = true) : noB B (l.setIfInBounds i true) = true:=by
  unfold noB at *
  rw [List.all_eq_true] at h ⊢
  intro j hj
  rw [getD_set_ne true]
  · exact h j hj
  · rintro rfl; rw [List.contains_iff_mem.2 hj] at hi; cases hi
def Rw (ops : Array Oper) (B : List Nat) (i : Nat) : Bool:=!B.contains i && B.all fun j=>match ops[j]? with
  | some o=>o.after.any fun e=>Region.binds .any e && e.on == i
  | none=>true
theorem Sp {B : List Nat} {i : Nat} (h : Rw ops B i = true) : B.contains i = false:=by
  unfold Rw at h; rw [Bool.and_eq_true] at h; simpa using h.1
theorem Qy {B : List Nat} {i j : Nat} {l : Array Bool} (h : Rw ops B i = true) (hl : noB B l = true) (hj : j ∈ Region.ready .any ops l) (hi : l.getD i true = false) : noB B (l.setIfInBounds j true) = true:=by
  refine Pi ?_ hl
  cases hc : B.contains j with
  | false=>rfl
  | true =>
    unfold Rw at h
    rw [Bool.and_eq_true,List.all_eq_true] at h
    have h1:=h.2 j (List.contains_iff_mem.1 hc)
    obtain ⟨_,oj,hoj,hall⟩:=mem_ready.1 hj
    rw [hoj] at h1
    simp only [Array.any_eq_true,Bool.and_eq_true,beq_iff_eq] at h1
    obtain ⟨q,hq,hb,he⟩:=h1
    have h2:=hall _ (Array.getElem_mem hq) hb
    rw [he] at h2
    rcases Nat.lt_or_ge i l.size with h' | h'
    · simp [h'] at hi h2; rw [hi] at h2; cases h2
    · simp [Array.getElem?_eq_none h'] at h2

def wpD (P : Program) (ops : Array Oper) (B : List Nat) (Y : List Nat) (N : Act → World → Prop) (fuel : Nat) (listed : Array Bool) (a : Act) (w : World) : Prop :=
  wpC P ops (fun l w'=>noB B l = true → Keep Y w w') N fuel listed a w

theorem Fi {id : Nat} {Q : Exit → Act → World → Prop} {l : List Oper} {nf : Nat} (B Y : List Nat) (hm : P.follows .mixedOrders = true) (S : Sx w0 X φ L K n a w) (hl : l.length = nf)
    (hs : Region.noSelect l.toArray = true) (k : ∀ w',Keep [] w w' → Region.noSelect l.toArray = true → Sx w0 X φ L K n a w' → wpD P l.toArray B Y (fun a w=>Q .normal a w) nf (Array.replicate nf false) a w') : (Code.region id l.toArray true).wp P Q a w:=by
  subst hl
  have h1:=k { w with drawn:=w.drawn + 1 } ⟨rfl,rfl,rfl,(by first | exact Nat.le_refl _ | exact Nat.le_succ _),Nat.le_refl _,fun _ _ _=>rfl⟩ hs (S.world rfl rfl rfl (by first | exact Nat.le_refl _ | exact Nat.le_succ _) rfl)
  have h2:=Tx _ _ _ _ h1
  refine wp_mono (Q:=QN fun a w=>Q .normal a w) (wp_region_any hm (by simpa using h2)) ?_
  intro e a w hq
  cases e with
  | normal=>exact hq
  | _=>exact hq.elim

theorem Co (i : Nat) {B : List Nat} {op : Op} {v : Value} (S : Sx w0 X φ L K n a w) (hs : Region.noSelect ops = true) (hi : ops[i]? = some { dst:=some d,op,type:=ty,pos,after,guard:=none })
    (hp : Rw ops B i = true) (hn : noB B listed = true) (hr : (Region.ready .any ops listed).contains i = true) (hf : Region.free .any ops listed i = true) (hd : Nat.blt d n = true)
    (hy : ∀ w',Keep Y w w' → Rn P a w' op ty v) (k : ∀ a',Sx w0 X φ L ((d,v) :: K) n a' w → wpD P ops B Y N fuel (listed.setIfInBounds i true) a' w) : wpD P ops B Y N (fuel + 1) listed a w:=by
  refine Qg (D:=Keep Y w) (R:=fun l=>noB B l = true) hi (Region.noSelect_spec hs) (fun l w' h hb=>h (Pi (Sp hp) hb)) (fun l w' hl h=>h hl) (fun l j hl hj _ hi'=>Qy hp hl hj hi') fuel listed a w (fun _=>Keep.refl Y w) hn (Region.free_spec hi hf) (by simpa using hr) (.inl ⟨rfl,fun w' hw'=>hy w' hw' _ _ _ _⟩) ?_
  exact k _ (S.put (by simpa using hd))
theorem Vz {C : Array Bool → World → Prop} {is : List Nat} (hc : C listed w) (hr : Region.ready .any ops listed = is) (hne : is.isEmpty = false)
    (k : ∀ i ∈ is,∃ o,ops[i]? = some o ∧ wpList P ops (QN fun a' w'=>wpC P ops C N fuel (listed.setIfInBounds i true) a' w') [o] a w) : wpC P ops C N (fuel + 1) listed a w:=by
  refine ⟨hc,fun h=>(by rw [hr] at h; subst h; simp at hne),fun i hi=>?_⟩
  rw [hr] at hi
  obtain ⟨o,ho,hk⟩:=k i hi
  unfold wpOp
  simp only [ho]
  unfold wpList at hk
  have hconv : ∀ a' w',wpList P ops (QN fun a' w'=>wpC P ops C N fuel (listed.setIfInBounds i true) a' w') [] a' w' →
      wpC P ops C N fuel (listed.setIfInBounds i true) a' w':=fun a' w' h3=>h3
  have hwp : ∀ res,o.upon P a (wpList P ops (QN fun a' w'=>wpC P ops C N fuel (listed.setIfInBounds i true) a' w') []) (QN fun a' w'=>wpC P ops C N fuel (listed.setIfInBounds i true) a' w') res →
      o.upon P a (wpC P ops C N fuel (listed.setIfInBounds i true)) (QN N) res:=by
    intro res hres
    cases res with
    | ok x w1 =>
      cases x with
      | value v=>exact hconv _ _ hres
      | skip=>exact hconv _ _ hres
      | defer dd=>exact hconv _ _ hres
      | enter f args =>
        refine Calls.mono (show Calls P f args w1 _ from hres) fun e w2 he=>?_
        cases e with
        | returned v=>exact hconv _ _ he
        | panicked c=>exact he.elim
        | outgrown=>obtain ⟨_,_,he⟩:=he; exact he.elim
      | row r args=>exact Rows.mono (show Rows P r args w1 _ from hres) fun v w2 h=>hconv _ _ h
      | _=>exact hres
    | halt hh w1 =>
      cases hh with
      | panic v=>exact (show False from hres).elim
      | _=>exact hres
  split
  · rename_i hw
    rw [if_pos hw] at hk
    rcases hk with hk | ⟨_,_,_,hk⟩
    · exact .inl (hwp _ hk)
    · exact hk.elim
  · rename_i hw
    rw [if_neg hw] at hk
    exact hconv _ _ hk
theorem Uq {M M' : Act → World → Prop} {G G' : Act → World → Prop} {o : Oper} (h : ∀ a w,G a w → G' a w) (hh : o.wp P a w G (QN M)) : o.wp P a w G' (QN M'):=by
  unfold Oper.wp at *
  generalize (execOp a.eval o).run P w = r at *
  cases r with
  | ok n w' =>
    cases n <;> simp only [Oper.upon] at hh ⊢
    case value=>exact h _ _ hh
    case skip=>exact h _ _ hh
    case defer=>exact h _ _ hh
    case enter =>
      refine Calls.mono hh (fun e w'' he=>?_)
      cases e with
      | returned v=>exact h _ _ he
      | panicked c=>exact (show False from he).elim
      | outgrown=>exact (show LetsOut (QN M) from he).elim fun _ ⟨_,q⟩=>(show False from q).elim
    case row=>exact Rows.mono hh (fun _ _ he=>h _ _ he)
  | halt x w' =>
    cases x <;> simp only [Oper.upon] at hh ⊢
    case panic=>exact (show False from hh).elim
theorem Nk {M M' : Act → World → Prop} (h : ∀ a w,M a w → M' a w) : ∀ {l : List Oper} {a : Act} {w : World},wpList P ops (QN M) l a w → wpList P ops (QN M') l a w
  | [],a,w,k=>h a w k
  | o :: l,a,w,k=>by
    unfold wpList at k ⊢
    by_cases hw : Region.wanted o (yielded ops a.tmps) = true
    · rw [if_pos hw] at k ⊢
      rcases k with k | ⟨_,_,_,q⟩
      · exact .inl (Uq (fun _ _ hh=>Nk h hh) k)
      · exact (show False from q).elim
    · rw [if_neg hw] at k ⊢
      exact Nk h k
theorem Yp {B : List Nat} {is : List Nat} (hr : Region.ready .any ops listed = is) (hne : is.isEmpty = false)
    (k : ∀ i ∈ is,∃ o,ops[i]? = some o ∧ wpList P ops (QN fun a' w'=>∃ Y',Keep Y w w' ∧ (∀ y ∈ Y',w.heap.size ≤ y ∨ y ∈ Y) ∧ wpD P ops B Y' N fuel (listed.setIfInBounds i true) a' w') [o] a w) : wpD P ops B Y N (fuel + 1) listed a w :=
  Vz (fun _=>Keep.refl Y w) hr hne fun i hi=>by
    obtain ⟨o,ho,hk⟩:=k i hi
    exact ⟨o,ho,Nk (fun a' w' ⟨Y',h1,h2,h3⟩=>Qf (fun l w'' h'' hp=>h1.step (h'' hp) h2) _ _ _ _ h3) hk⟩
end
end Go.Proofs.YtgfjjiheamdgbaaGreatDoor.D

namespace Go.Proofs.YtgfjjiheamdgbaaGreatDoor.D
open Go

def Fw (v : Value) (m : Nat) : Prop:=∃ ao c,v = .slice ao m c
theorem Slc.len {φ : View} {k : Nat} {v : Value} {rows : List (List Value)} (h : Slc φ k v rows) : Fw v rows.length:=by
  obtain ⟨ao,cap,h1,_⟩:=h; exact ⟨ao,cap,h1⟩
theorem Fw.one {v : Value} {m : Nat} (h : Fw v m) : v.oneCell' = true:=by obtain ⟨ao,c,rfl⟩:=h; rfl
theorem Fw.cells {v : Value} {m : Nat} (h : Fw v m) : v.cells.toList = [v]:=by obtain ⟨ao,c,rfl⟩:=h; rfl
theorem Slc.max {φ : View} {k : Nat} {v : Value} {rows : List (List Value)} (h : Slc φ k v rows) : rows.length ≤ maxLen:=by
  obtain ⟨ao,cap,h1,h2,h3,_⟩:=h; omega

theorem Keep.cell {Y : List Nat} {w w' : World} {b off : Nat} {v : Value} (hk : Keep Y w w') (h : w.cell? ⟨b,off,none⟩ = some v) (hb : b ∉ Y) : w'.cell? ⟨b,off,none⟩ = some v:=by
  have hlt : b < w.heap.size:=World.block_lt_of_cell? w ⟨b,off,none⟩ h
  rw [World.cell?_of_block (w:=w) (hk.block b hlt hb)]
  exact h
def It (w : World) (b off : Nat) (cs : List Value) : Prop:=∀ j v,cs[j]? = some v → w.cell? ⟨b,off + j,none⟩ = some v
theorem Mem.at {φ : View} {b off : Nat} {cs : List Value} {w : World} (h : Mem φ b off cs) (e : Emb φ w) : It w b off cs:=h.cell e
theorem It.keep {Y : List Nat} {w w' : World} {b off : Nat} {cs : List Value} (h : It w b off cs) (hk : Keep Y w w') (hb : b ∉ Y) : It w' b off cs:=fun j v hv=>hk.cell (h j v hv) hb
section
variable {P : Program} {ops : Array Oper} {Q : Exit → Act → World → Prop} {rest : List Oper}
variable {w0 : World} {X : List Nat} {φ : View} {L : List LEnt} {K : List (Nat × Value)} {n : Nat} {a : Act} {w : World}
variable {d : Nat} {ty : TypeId} {pos : String} {after : Array Edge}

theorem It.part {w : World} {b off o k : Nat} {cs part : List Value} (h : It w b off cs) (hp : (cs.drop o).take k = part) : It w b (off + o) part:=by
  intro j v hv
  subst hp
  rw [List.getElem?_take] at hv
  split at hv
  · rw [List.getElem?_drop] at hv
    rw [Nat.add_assoc]
    exact h _ _ hv
  · cases hv

theorem Hr {T : TypeId} {x : Operand} {b off o : Nat} {cs : List Value} {v : Value} (hT : ∀ w,(isAgg T).run P w = .ok false w) (hx : a.eval x = .pointer (some ⟨b,off + o,none⟩)) (hc : It w b off cs) (hv : cs[o]? = some v) :
    Rn P a w (.load T x) ty v:=Mn hT hx (hc o v hv)
theorem AQ {t : TypeId} {x : Operand} {v : Value} {m : Nat} {el : TypeId} (ht : P.underlying t = some (.slice el)) (hx : a.eval x = v) (hv : Fw v m) :
    Rn P a w (.call { callee:=.builtin .len,args:=#[x],argTypes:=#[t] }) ty (.int .i64 m):=by
  obtain ⟨ao,c,rfl⟩:=hv
  exact Qw ht hx

theorem Wj {ψ : View} {T el : TypeId} {x y : Operand} {v : Value} {rows : List (List Value)} {cs : List Value} {j k : Nat} {z : Int} {kk : IntKind} (ht : P.underlying T = some (.slice el)) (hsz : ∀ w,(sizeOf el).run P w = .ok k w)
    (hs : Slc ψ k v rows) (hj : rows[j]? = some cs) (hz : z = (j : Int)) (hx : a.eval x = v) (hy : a.eval y = .int kk z) :
    ∃ b off,Mem ψ b off cs ∧ ∀ w,Rn P a w (.indexAddr T x y) ty (.pointer (some ⟨b,off,none⟩)):=by
  obtain ⟨ao,cap,rfl,h2,h3,h4,h5⟩:=hs
  have hlt : j < rows.length:=by
    rcases Nat.lt_or_ge j rows.length with h | h
    · exact h
    · rw [List.getElem?_eq_none h] at hj; cases hj
  cases ao with
  | none=>have:=h4 rfl; omega
  | some ad =>
    obtain ⟨hsp,hm⟩:=h5 ad rfl
    obtain ⟨b,off,sp⟩:=ad
    cases hsp
    refine ⟨b,off + j * k,(hm j cs hj).2,?_⟩
    intro w dd p e g
    subst hz
    simp [execOp,hx,hy,Instr.indexAt,asIntOf,run_underlying ht,hlt,hsz,Lk]

section cuts
variable {ψ : View} {T el : TypeId} {x y y' : Operand} {v : Value} {rows : List (List Value)} {l h k : Nat} {zl zh : Int} {k1 k2 : IntKind}
variable (ht : P.underlying T = some (.slice el)) (hsz : ∀ w,(sizeOf el).run P w = .ok k w) (hs : Slc ψ k v rows) (hx : a.eval x = v)
include ht hsz hs hx
end cuts

end
end Go.Proofs.YtgfjjiheamdgbaaGreatDoor.D

namespace Go.Proofs.YtgfjjiheamdgbaaGreatDoor.D
open Go

structure SlT (P : Program) (t T k by_ : Nat) : Prop where
  under : P.underlying t = some (.slice T)
  size : ∀ w,(sizeOf T).run P w = .ok k w
  info : ∃ inf z,P.info? T = some inf ∧ inf.zero = some z ∧ inf.size = k ∧ inf.bytes = by_ ∧ z.cells.size = k
theorem Qz {P : Program} {t T k by_ : Nat} {z : Value} (h1 : P.underlying t = some (.slice T)) (h2 : ∀ w,(sizeOf T).run P w = .ok k w)
    (h3 : (P.info? T).map (fun i=>(i.zero,i.size,i.bytes)) = some (some z,k,by_)) (h4 : z.cells.size = k) : SlT P t T k by_:=by
  obtain ⟨i,hi,hz,hs,hb⟩:=info_parts h3
  exact ⟨h1,h2,i,z,hi,hz,hs,hb,h4⟩
def Pa (P : Program) (s i o : Nat) : Prop:=∃ fs f sz,P.underlying s = some (.struct fs) ∧ fs[i]? = some f ∧ (∀ w,(sizeOf f.type).run P w = .ok sz w) ∧ (sz == 0) = false ∧ f.offset = o
structure Enc {α : Type} (k : Nat) (enc : α → List Value) : Prop where
  len : ∀ x,(enc x).length = k
  one : ∀ x,∀ u ∈ enc x,u.oneCell' = true

def eInt (x : Int) : List Value:=[.int .i64 x]
theorem Kx : Enc 1 eInt:=⟨fun _=>rfl,fun _ u h=>by simp [eInt] at h; subst h; rfl⟩
theorem Enc.rows {α : Type} {k : Nat} {enc : α → List Value} (h : Enc k enc) (xs : List α) : ∀ r ∈ xs.map enc,r.length = k:=by
  intro r hr
  obtain ⟨x,_,rfl⟩:=List.mem_map.1 hr
  exact h.len x
theorem Enc.flat {α : Type} {k : Nat} {enc : α → List Value} (h : Enc k enc) (xs : List α) : (xs.flatMap enc).length = xs.length * k:=by
  induction xs with
  | nil=>simp
  | cons x r ih=>simp [ih,h.len,Nat.add_mul,Nat.add_comm]

def Sc : List Bool → List LEnt → List LEnt
  | b :: m,e :: l=>match b with
    | true=>e :: Sc m l
    | false=>Sc m l
  | _,l=>l
theorem Nl : ∀ (m : List Bool) (l : List LEnt),List.Sublist (Sc m l) l
  | [],_=>List.Sublist.refl _
  | _ :: _,[]=>List.Sublist.refl _
  | true :: m,_ :: l=>.cons_cons _ (Nl m l)
  | false :: m,_ :: l=>.cons _ (Nl m l)

section
variable {P : Program} {ops : Array Oper} {Q : Exit → Act → World → Prop} {rest : List Oper}
variable {w0 : World} {X : List Nat} {φ : View} {L : List LEnt} {K : List (Nat × Value)} {n : Nat} {a : Act} {w : World}
variable {d : Nat} {ty : TypeId} {pos : String} {after : Array Edge}

theorem Sx.nf {L' : List LEnt} {K' : List (Nat × Value)} (S : Sx w0 X φ L K n a w) (m : List Bool) (hL : Sc m L = L') (hK : subK K K') : Sx w0 X φ L' K' n a w:=by
  subst hL
  exact (S.drop (Nl m L)).sub hK

theorem Sx.n0 (S : Sx w0 X φ L K n a w) : Sx w0 X φ [] K n a w:=S.drop (List.nil_sublist _)
theorem Sx.k1 {v0 : Value} (S : Sx w0 X φ L K n a w) (i0 : Nat) (h0 : look K i0 = some v0) : Sx w0 X φ L [(i0,v0)] n a w:=S.sub ⟨h0,trivial⟩
theorem Sx.k2 {v0 v1 : Value} (S : Sx w0 X φ L K n a w) (i0 i1 : Nat) (h : [look K i0,look K i1] = [some v0,some v1]) : Sx w0 X φ L [(i0,v0),(i1,v1)] n a w:=by
  simp only [List.cons.injEq] at h
  exact S.sub ⟨h.1,h.2.1,trivial⟩
theorem Sx.k4 {v0 v1 v2 v3 : Value} (S : Sx w0 X φ L K n a w) (i0 i1 i2 i3 : Nat) (h : [look K i0,look K i1,look K i2,look K i3] = [some v0,some v1,some v2,some v3]) : Sx w0 X φ L [(i0,v0),(i1,v1),(i2,v2),(i3,v3)] n a w:=by
  simp only [List.cons.injEq] at h
  exact S.sub ⟨h.1,h.2.1,h.2.2.1,h.2.2.2.1,trivial⟩
theorem Sx.k5 {v0 v1 v2 v3 v4 : Value} (S : Sx w0 X φ L K n a w) (i0 i1 i2 i3 i4 : Nat) (h : [look K i0,look K i1,look K i2,look K i3,look K i4] = [some v0,some v1,some v2,some v3,some v4]) : Sx w0 X φ L [(i0,v0),(i1,v1),(i2,v2),(i3,v3),(i4,v4)] n a w:=by
  simp only [List.cons.injEq] at h
  exact S.sub ⟨h.1,h.2.1,h.2.2.1,h.2.2.2.1,h.2.2.2.2.1,trivial⟩
theorem Fx {s i o b off : Nat} {x : Operand} (h : Pa P s i o) (hx : a.eval x = .pointer (some ⟨b,off,none⟩)) : Rn P a w (.fieldAddr s x i) ty (.pointer (some ⟨b,off + o,none⟩)):=by
  obtain ⟨fs,f,sz,h1,h2,h3,h4,h5⟩:=h
  exact Qv h1 h2 h3 h4 h5 hx
theorem En {t T k by_ m : Nat} {x : Operand} {v : Value} (h : SlT P t T k by_) (hx : a.eval x = v) (hv : Fw v m) :
    Rn P a w (.call { callee:=.builtin .len,args:=#[x],argTypes:=#[t] }) ty (.int .i64 m):=AQ h.under hx hv

section typed
variable {α : Type} {enc : α → List Value}
theorem Eg {ψ : View} {k : Nat} {v : Value} {xs : List α} (h : Slc ψ k v (xs.map enc)) : Fw v xs.length:=by have:=h.len; rwa [List.length_map] at this
theorem Jk {ψ : View} {k : Nat} {v : Value} {xs : List α} (h : Slc ψ k v (xs.map enc)) : xs.length ≤ 9223372036854775807:=by
  have:=h.max; rw [List.length_map] at this; simpa [maxLen] using this
theorem Ev {ψ : View} {T el k by_ j : Nat} {x y : Operand} {v : Value} {xs : List α} {e : α} {z : Int} {kk : IntKind} (h : SlT P T el k by_) (hs : Slc ψ k v (xs.map enc)) (hj : xs[j]? = some e) (hz : z = (j : Int))
    (hx : a.eval x = v) (hy : a.eval y = .int kk z) : ∃ b off,Mem ψ b off (enc e) ∧ ∀ w,Rn P a w (.indexAddr T x y) ty (.pointer (some ⟨b,off,none⟩)) :=
  Wj h.under h.size hs (by rw [List.getElem?_map,hj]; rfl) hz hx hy
theorem Ei {ψ : View} {T k : Nat} {v : Value} {xs : List α} (hE : Enc k enc) (h : Le ψ T k v xs.length (xs.flatMap enc)) : Slc ψ k v (xs.map enc) :=
  h.slc rfl (hE.rows xs) (by simp)

end typed

theorem Ig {α : Type} {xs dn : List α} {i : Nat} (hd : xs = dn ++ []) (hi : dn.length = i) : decide ((i : Int) < (xs.length : Int)) = false:=by subst hd hi; simp
theorem Hh {α : Type} {xs dn ys : List α} {x : α} {i : Nat} (hd : xs = dn ++ x :: ys) (hi : dn.length = i) : decide ((i : Int) < (xs.length : Int)) = true:=by subst hd hi; simp; omega
theorem Hi {α : Type} {xs dn ys : List α} {x : α} {i : Nat} (hd : xs = dn ++ x :: ys) (hi : dn.length = i) (hm : xs.length ≤ 9223372036854775807) : W ((i : Int) + 1) = ((i + 1 : Nat) : Int):=by
  subst hd hi
  simp only [List.length_append,List.length_cons] at hm
  rw [Hv (by omega) (by omega)]; omega
theorem Tn {J : Act → World → Prop} (h : J a w) : Exit.then J Q .normal a w:=h
theorem Eb {J : Act → World → Prop} {i : Nat} (h : Q (.exit i) a w) : Exit.then J Q (.exit i) a w:=h
theorem Cn {J : Act → World → Prop} (h : Q .ret a w) : Exit.then J Q .ret a w:=h
theorem Hj {i : Nat} (h : Q .normal a w) : Exit.inBlock i Q .normal a w:=h
theorem Fa {i : Nat} (h : Q .ret a w) : Exit.inBlock i Q .ret a w:=h
theorem Sq {ψ : View} {b T : Nat} {cs : List Value} (h : ψ b = some (.cells cs.toArray T (0,0))) : Mem ψ b 0 cs:=⟨_,_,_,h,fun j v hv=>by simpa using hv⟩
theorem Sx.blk_view {i b T : Nat} {cells : List Value} {Y : List Nat} (S : Sx w0 X φ L K n a w) (hi : L[i]? = some (.blk b cells T)) (hY : b ∉ Y) : view w Y b = some (.cells cells.toArray T (0,0)):=by
  unfold view
  rw [if_neg hY]
  exact S.blk_at hi
theorem Fy {α : Type} {enc : α → List Value} {k i b T q : Nat} {cells : List Value} {xs : List α} {Y : List Nat} (hE : Enc k enc) (S : Sx w0 X φ L K n a w) (hi : L[i]? = some (.blk b cells T)) (hx : xs.flatMap enc = cells) (hq : xs.length = q) (hb : Nat.ble q 4096 = true) (hY : b ∉ Y) :
    Slc (view w Y) k (.slice (some ⟨b,0,none⟩) q q) (xs.map enc):=by
  subst hx hq
  have hb' : xs.length ≤ 4096:=by simpa using hb
  refine Ei (T:=T) hE ⟨hE.flat xs,.inr ⟨b,xs.length,(xs.flatMap enc).toArray,rfl,S.blk_view hi hY,Nat.le_refl _,by simp [maxLen]; omega,by simpa using hE.flat xs,?_⟩⟩
  rw [← hE.flat xs]
  exact List.take_of_length_le (by simp)
section cutT
variable {α : Type} {enc : α → List Value} {ψ : View} {T el k by_ : Nat} {x y y' : Operand} {v : Value} {xs : List α} {zl zh : Int} {k1 k2 : IntKind}
variable (hT : SlT P T el k by_) (hs : Slc ψ k v (xs.map enc)) (hx : a.eval x = v)
include hT hs hx
end cutT
theorem Dj {c : Code} (J : Act → World → Prop) (h : c.wp P (Exit.then J Q) a w) (k : ∀ a w,J a w → Q .normal a w) : c.wp P Q a w :=
  wp_mono h fun e a w q=>by cases e <;> first | exact k a w q | exact q
theorem Vm {t : Nat} {v : Value} (S : Sx w0 X φ L K n a w) (h : look K t = some v) (hd : Nat.blt d n = true) (k : ∀ a',Sx w0 X φ L ((d,v) :: K) n a' w → wpList P ops Q rest a' w) :
    wpList P ops Q ({ dst:=some d,op:=.move (.tmp t),type:=ty,pos,after,guard:=none } :: rest) a w:=lv S (Rm (S.tm h)) hd k
theorem Va {t : Nat} {v : Value} (S : Sx w0 X φ L K n a w) (h : look K t = some v) (hd : Nat.blt d n = true) (k : ∀ a',Sx w0 X φ L ((d,v) :: K) n a' w → wpList P ops Q rest a' w) :
    wpList P ops Q ({ dst:=some d,op:=.assign (.tmp t),type:=ty,pos,after,guard:=none } :: rest) a w:=lv S (Ra (S.tm h)) hd k
theorem Vk {x : Operand} {v : Value} (S : Sx w0 X φ L K n a w) (h : a.eval x = v) (hd : Nat.blt d n = true) (k : ∀ a',Sx w0 X φ L ((d,v) :: K) n a' w → wpList P ops Q rest a' w) :
    wpList P ops Q ({ dst:=some d,op:=.assign x,type:=ty,pos,after,guard:=none } :: rest) a w:=lv S (Ra h) hd k
theorem Vb {op : Op} {t t' : Nat} {u u' v : Value} (S : Sx w0 X φ L K n a w) (R : a.eval (.tmp t) = u → a.eval (.tmp t') = u' → Rn P a w op ty v) (h : look K t = some u) (h' : look K t' = some u') (hd : Nat.blt d n = true) (k : ∀ a',Sx w0 X φ L ((d,v) :: K) n a' w → wpList P ops Q rest a' w) :
    wpList P ops Q ({ dst:=some d,op,type:=ty,pos,after,guard:=none } :: rest) a w:=lv S (R (S.tm h) (S.tm h')) hd k
theorem Vq {op : Op} {t : Nat} {u v : Value} {q : Prop} (S : Sx w0 X φ L K n a w) (R : a.eval (.tmp t) = u → q → Rn P a w op ty v) (h : look K t = some u) (h' : q) (hd : Nat.blt d n = true) (k : ∀ a',Sx w0 X φ L ((d,v) :: K) n a' w → wpList P ops Q rest a' w) :
    wpList P ops Q ({ dst:=some d,op,type:=ty,pos,after,guard:=none } :: rest) a w:=lv S (R (S.tm h) h') hd k
theorem Dl {J : Act → World → Prop} (h : J a w) : wpList P ops (Exit.then J Q) [] a w:=h
theorem Fr {id : Nat} {l : List Oper} {y : Code} (h : wpList P l.toArray (Exit.then (y.wp P Q) Q) l a w) : (Code.seq (.region id l.toArray false) y).wp P Q a w:=Fs (Fg h)
theorem Dz {id : Nat} {l : List Oper} {y : Code} {Q' : Exit → Act → World → Prop} (h : wpList P l.toArray (Exit.then (y.wp P Q) Q) l a w) : wpList P ops (Exit.then ((Code.seq (.region id l.toArray false) y).wp P Q) Q') [] a w:=Dl (Fr h)
theorem Fe {f : FuncId} {fn : Func} {c : Code} {vs : List Value} {R : Ending → World → Prop} {nt : Nat} (hf : P.funcs[f]? = some fn) (hb : fn.body = some c) (hnt : fn.ntmps = nt) (hn : Nat.ble vs.length nt = true)
    (k : ∀ a,Sx w [] nov [] (Up 0 vs) nt a w → c.wp P (bodyPost P fn R) a w) : Calls P f vs.toArray w R:=Ju [] [] hf hb hnt hn (by simp) (by simp [fps]) (by simp [fps]) k
theorem Fc {c : Operand} {x y : Code} {b : Bool} {R : Type} {A B r : R} (h : (if b = true then A else B) = r) (hc : a.eval c = .bool b) (ht : b = true → A = r → x.wp P Q a w) (hf : b = false → B = r → y.wp P Q a w) : (Code.cond c x y).wp P Q a w :=
  Wi hc (fun hb=>ht hb (Mu h hb)) (fun hb=>hf hb (Mv h hb))
end
end Go.Proofs.YtgfjjiheamdgbaaGreatDoor.D

namespace Go.Proofs.YtgfjjiheamdgbaaGreatDoor.D
open Go

theorem Keep.sub {Y Y' : List Nat} {w w' : World} (h : Keep Y' w w') (hs : ∀ y ∈ Y',y ∈ Y) : Keep Y w w' :=
  (Keep.refl Y w).step h fun y hy=>.inr (hs y hy)
theorem Keep.none {Y : List Nat} {w w' : World} (h : Keep [] w w') : Keep Y w w':=h.sub fun _ h=>by cases h
theorem Mem.not_mem {Y : List Nat} {w : World} {b off : Nat} {cs : List Value} (h : Mem (view w Y) b off cs) : b ∉ Y:=by
  obtain ⟨_,_,_,h,_⟩:=h
  intro hb
  simp [view,hb] at h
theorem Mem.now {Y : List Nat} {w : World} {b off : Nat} {cs : List Value} (h : Mem (view w Y) b off cs) : It w b off cs:=h.at (emb_view w Y)
theorem Mem.kept {Y : List Nat} {w w' : World} {b off : Nat} {cs : List Value} (h : Mem (view w Y) b off cs) (hk : Keep Y w w') : It w' b off cs:=h.now.keep hk h.not_mem
section
variable {P : Program} {ops : Array Oper} {Q : Exit → Act → World → Prop} {rest : List Oper}
variable {w0 : World} {X : List Nat} {φ : View} {L : List LEnt} {K : List (Nat × Value)} {n : Nat} {a : Act} {w : World}
variable {d : Nat} {ty : TypeId} {pos : String} {after : Array Edge}

theorem Ge {e' : LEnt} : ∀ c,e'.fp = some c → c ∉ ([] : List Nat):=fun _ _ h=>by cases h
theorem Sx.blk_mem {i b T : Nat} {cells : List Value} {Y : List Nat} (S : Sx w0 X φ L K n a w) (hi : L[i]? = some (.blk b cells T)) (hY : ∀ c,(LEnt.blk b cells T).fp = some c → c ∉ Y) : Mem (view w Y) b 0 cells :=
  Sq (S.blk_view hi (hY b rfl))

theorem Ej {N : Act → World → Prop} {B Y : List Nat} {fuel : Nat} {listed : Array Bool} {a' : Act} {w' : World} (h1 : Keep Y w w') (h2 : wpD P ops B Y N fuel listed a' w') :
    QN (fun a' w'=>∃ Y',Keep Y w w' ∧ (∀ y ∈ Y',w.heap.size ≤ y ∨ y ∈ Y) ∧ wpD P ops B Y' N fuel listed a' w') .normal a' w':=⟨Y,h1,fun _ h=>.inr h,h2⟩
theorem Ea {N : Act → World → Prop} {B Y : List Nat} {fuel : Nat} {listed : Array Bool} (i : Nat) {o : Oper} (hr : Region.ready .any ops listed = [i]) (ho : ops[i]? = some o)
    (k : wpList P ops (QN fun a' w'=>∃ Y',Keep Y w w' ∧ (∀ y ∈ Y',w.heap.size ≤ y ∨ y ∈ Y) ∧ wpD P ops B Y' N fuel (listed.setIfInBounds i true) a' w') [o] a w) : wpD P ops B Y N (fuel + 1) listed a w :=
  Yp hr rfl fun j hj=>by
    rw [List.mem_singleton] at hj
    subst hj
    exact ⟨o,ho,k⟩
theorem Pu {f : FuncId} {args : Array Value} {v : Value} (h : Calls P f args w fun e w'=>e = .returned v ∧ w' = w) : Calls P f args w (Ret w [] fun _ v' _=>v' = v) :=
  h.mono fun _ w' ⟨he,hb⟩=>⟨v,he,by rw [hb]; exact Keep.refl _ _,rfl⟩

section typed
variable {α : Type} {enc : α → List Value}

end typed
end
end Go.Proofs.YtgfjjiheamdgbaaGreatDoor.D

namespace Go.Proofs.YtgfjjiheamdgbaaGreatDoor.D
open Go

section
variable {κ ν : Type} [DecidableEq κ]
def Hw (kv : κ → Value) (vv : ν → Value) : List (κ × ν) → Nat → List MapEntry
  | [],_=>[]
  | (k,v) :: m,i=>⟨kv k,vv v,i⟩ :: Hw kv vv m (i + 1)
structure DU (P : Program) (kt : TypeId) (kv : κ → Value) : Prop where
  chk : ∀ em x w,(Instr.checkKey em 10000 kt (kv x)).run P w = .ok () w
  find : ∀ {ν : Type} (vv : ν → Value) (x : κ) (m : List (κ × ν)) w,(Instr.findKey kt (kv x) (Hw kv vv m 0)).run P w = .ok ((Nr m x 0).map fun p=>(p.1,vv p.2)) w
  same : ∀ x,Instr.sameBits 10000 (kv x) (kv x) = true
end

section
variable {P : Program} {ops : Array Oper} {Q : Exit → Act → World → Prop} {rest : List Oper}
variable {w0 : World} {X : List Nat} {φ : View} {L : List LEnt} {K : List (Nat × Value)} {n : Nat} {a : Act} {w : World}
variable {d : Nat} {ty : TypeId} {pos : String} {after : Array Edge}
variable {κ ν : Type} [DecidableEq κ] {kv : κ → Value} {vv : ν → Value}

end
section
variable {κ ν : Type}
end
section
variable {P : Program} {ops : Array Oper} {Q : Exit → Act → World → Prop} {rest : List Oper}
variable {w0 : World} {X : List Nat} {φ : View} {L : List LEnt} {K : List (Nat × Value)} {n : Nat} {a : Act} {w : World}
variable {d : Nat} {ty : TypeId} {pos : String} {after : Array Edge}
variable {κ ν : Type} {kv : κ → Value} {vv : ν → Value}
end
section
variable {κ ν : Type}
structure Wn (n : Nat) (bs : List Nat) (clk : Nat) : Prop where
  len : bs.length = n
  inc : bs.Pairwise (· < ·)
  lt : ∀ b ∈ bs,b < clk
theorem Wn.add {n clk : Nat} {bs : List Nat} (h : Wn n bs clk) : Wn (n + 1) (bs ++ [clk]) (clk + 1):=by
  refine ⟨by simp [h.len],?_,?_⟩
  · rw [List.pairwise_append]
    exact ⟨h.inc,List.pairwise_singleton _ _,fun a ha b hb=>by rw [List.mem_singleton] at hb; subst hb; exact h.lt a ha⟩
  · intro b hb
    rcases List.mem_append.1 hb with hb | hb
    · have:=h.lt b hb; omega
    · rw [List.mem_singleton] at hb; omega
end
section
variable {P : Program} {ops : Array Oper} {Q : Exit → Act → World → Prop} {rest : List Oper}
variable {w0 : World} {X : List Nat} {φ : View} {L : List LEnt} {K : List (Nat × Value)} {n : Nat} {a : Act} {w : World}
variable {d : Nat} {ty : TypeId} {pos : String} {after : Array Edge}
variable {κ ν : Type} [DecidableEq κ] {kv : κ → Value} {vv : ν → Value}
end
end Go.Proofs.YtgfjjiheamdgbaaGreatDoor.D

namespace Go.Proofs.YtgfjjiheamdgbaaGreatDoor.D
open Go
section
variable {P : Program} {ops : Array Oper} {Q : Exit → Act → World → Prop} {rest : List Oper}
variable {w0 : World} {X : List Nat} {φ : View} {L : List LEnt} {K : List (Nat × Value)} {n : Nat} {a : Act} {w : World}
variable {d : Nat} {ty : TypeId} {pos : String} {after : Array Edge}
end
section
variable {P : Program} {κ ν : Type} [DecidableEq κ]
end

def Ji (ops : Array Oper) : List Nat → List Oper
  | []=>[]
  | i :: is=>match ops[i]? with
    | some o=>o :: Ji ops is
    | none=>Ji ops is
def Sf (ops : Array Oper) : List Nat → Array Bool → Bool
  | [],listed=>(Region.ready .any ops listed).isEmpty
  | i :: is,listed=>(Region.ready .any ops listed).contains i && Region.free .any ops listed i && (ops[i]?).isSome && Sf ops is (listed.setIfInBounds i true)
def Pg (P : Program) (ops : Array Oper) (N : Act → World → Prop) (l : List Oper) (a : Act) (w : World) : Prop:=wpStill P ops w (fun a'=>N a' w) l a
section
variable {P : Program} {ops : Array Oper} {N : Act → World → Prop} {rest : List Oper}
variable {w0 : World} {X : List Nat} {φ : View} {L : List LEnt} {K : List (Nat × Value)} {n : Nat} {a : Act} {w : World}
variable {d : Nat} {ty : TypeId} {pos : String} {after : Array Edge}
theorem Qi {Q : Act → Prop} (hs : Region.noSelect ops = true) : ∀ (is : List Nat) (listed : Array Bool) (a : Act),
    Sf ops is listed = true → wpStill P ops w Q (Ji ops is) a → wpAnyS P .any ops w Q is.length listed a
  | [],_,_,hB,h=>⟨by simpa [Sf] using hB,h⟩
  | i :: is,listed,a,hB,h=>by
    simp only [Sf,Bool.and_eq_true] at hB
    obtain ⟨⟨⟨hr,hf⟩,ho⟩,hB'⟩:=hB
    cases h0 : ops[i]? with
    | none=>rw [h0] at ho; cases ho
    | some o =>
      have h' : wpStill P ops w Q (o :: Ji ops is) a:=by simpa [Ji,h0] using h
      have hst : stOp P ops w i (wpStill P ops w Q (Ji ops is)) a:=by unfold stOp; simp only [h0]; exact h'
      obtain ⟨v,hy,hK⟩:=yieldsAt_of_stOp h0 hst
      exact wpAnyS_first h0 (Region.noSelect_spec hs) is.length listed a (Region.free_spec h0 hf) (by simpa using hr) hy (Qi hs is _ _ hB' hK)
theorem Nu {C : Array Bool → World → Prop} {Q : Act → Prop} (hC : ∀ l,C l w) (hQ : ∀ a,Q a → N a w) : ∀ (fuel : Nat) (listed : Array Bool) (a : Act),wpAnyS P .any ops w Q fuel listed a → wpC P ops C N fuel listed a w
  | 0,_,_,h=>⟨hC _,h.1,hQ _ h.2⟩
  | fuel + 1,_,_,h=>⟨hC _,fun h0=>hQ _ (h.1 h0),fun i hi=>wpOp_of_stOp (fun a'=>Nu hC hQ fuel _ a') (h.2 i hi)⟩
theorem Iy {B Y : List Nat} {fuel : Nat} {listed : Array Bool} (is : List Nat) (hs : Region.noSelect ops = true) (hB : Sf ops is listed = true) (hf : is.length = fuel) (h : Pg P ops N (Ji ops is) a w) : wpD P ops B Y N fuel listed a w:=by
  subst hf
  exact Nu (fun _ _=>Keep.refl Y w) (fun _ h=>h) _ _ _ (Qi hs is listed a hB h)
theorem Px (o : Oper) (h : o.guard = none) (y : Nat → Option Bool) : Region.wanted o y = true:=by simp [Region.wanted,h]
theorem Pk {i : Nat} {o : Oper} {is : List Nat} (h : ops[i]? = some o) : Ji ops (i :: is) = o :: Ji ops is:=by simp only [Ji,h]
theorem Oi {op : Op} {v : Value} (S : Sx w0 X φ L K n a w) (h : Rn P a w op ty v) (hd : Nat.blt d n = true)
    (k : ∀ a',Sx w0 X φ L ((d,v) :: K) n a' w → Pg P ops N rest a' w) :
    Pg P ops N ({ dst:=some d,op,type:=ty,pos,after,guard:=none } :: rest) a w:=by
  unfold Pg wpStill
  rw [if_pos (Px _ rfl _)]
  unfold Oper.still
  rw [h (some d) pos after none]
  exact ⟨rfl,k _ (S.put (by simpa using hd))⟩
variable {i : Nat} {is : List Nat}
theorem Fb {op : Op} {v : Value} (S : Sx w0 X φ L K n a w) (ho : ops[i]? = some { dst:=some d,op,type:=ty,pos,after,guard:=none }) (h : Rn P a w op ty v) (hd : Nat.blt d n = true)
    (k : ∀ a',Sx w0 X φ L ((d,v) :: K) n a' w → Pg P ops N (Ji ops is) a' w) : Pg P ops N (Ji ops (i :: is)) a w:=by
  rw [Pk ho]; exact Oi S h hd k
theorem Ik (k : N a w) : Pg P ops N (Ji ops []) a w:=k
end

section
variable {κ ν : Type} [DecidableEq κ]
end
section
variable {P : Program} {ops : Array Oper} {Q : Exit → Act → World → Prop} {rest : List Oper}
variable {w0 : World} {X : List Nat} {φ : View} {L : List LEnt} {K : List (Nat × Value)} {n : Nat} {a : Act} {w : World}
variable {d : Nat} {ty : TypeId} {pos : String} {after : Array Edge}
variable {κ ν : Type} [DecidableEq κ] {kv : κ → Value} {vv : ν → Value}
end
end Go.Proofs.YtgfjjiheamdgbaaGreatDoor.D

namespace Go.Proofs.YtgfjjiheamdgbaaGreatDoor.D
open Go
section
variable {P : Program} {ops : Array Oper} {Q : Exit → Act → World → Prop} {rest : List Oper}
variable {w0 : World} {X : List Nat} {φ : View} {L : List LEnt} {K : List (Nat × Value)} {n : Nat} {a : Act} {w : World}
variable {d : Nat} {ty : TypeId} {pos : String} {after : Array Edge}

def Ry (k : Nat) (v : Value) (l h : Nat) (u : Value) : Prop :=
  ∃ ao m cap,v = .slice ao m cap ∧ u = .slice (if cap = l then ao else ao.map (·.add (l * k))) (h - l) (cap - l) ∧ l ≤ h ∧ h ≤ m ∧ m ≤ cap
theorem Ry.len {k l h : Nat} {v u : Value} (hu : Ry k v l h u) : Fw u (h - l):=by
  obtain ⟨ao,m,cap,_,rfl,_⟩:=hu
  exact ⟨_,_,rfl⟩
section subs
variable {T el TE : TypeId} {x y y' : Operand} {v : Value} {i k m by_ : Nat} {zl zh : Int} {k1 k2 : IntKind} {cs : List Value}
variable (h : SlT P T el k by_) (S : Sx w0 X φ L K n a w) (hi : L[i]? = some (.own v TE k m cs)) (hx : a.eval x = v)
include h S hi hx
end subs
section typed
variable {α : Type} {enc : α → List Value} {k : Nat}
theorem Ry.block {k : Nat} {zh : Int} {v u : Value} (hu : Ry k v (0 : Int).toNat zh.toNat u) : u.ownBlock = v.ownBlock:=by
  obtain ⟨ao,m,cap,rfl,rfl,_,h2,h3⟩:=hu
  have hz : (0 : Int).toNat = 0:=rfl
  rw [hz]
  split
  · cases ao <;> rfl
  · cases ao with
    | none=>rfl
    | some ad=>cases ad; rename_i b o sp; cases sp <;> simp [Addr.add,Value.ownBlock]
end typed
end
section
variable {P : Program} {ops : Array Oper} {Q : Exit → Act → World → Prop} {rest : List Oper}
variable {w0 : World} {X : List Nat} {φ : View} {L : List LEnt} {K : List (Nat × Value)} {n : Nat} {a : Act} {w : World}
variable {d : Nat} {ty : TypeId} {pos : String} {after : Array Edge}
end
end Go.Proofs.YtgfjjiheamdgbaaGreatDoor.D

namespace Go.Proofs.YtgfjjiheamdgbaaGreatDoor.D
open Go
abbrev RS:={ v : Value // v.oneCell' = true }
def RS.enc (r : RS) : List Value:=[r.val]
def RP.enc (b : Nat) : List Value:=[.pointer (some ⟨b,0,none⟩)]
inductive Fn {α β : Type} (R : α → β → Prop) : List α → List β → Prop
  | nil : Fn R [] []
  | cons {x : α} {y : β} {xs : List α} {ys : List β} : R x y → Fn R xs ys → Fn R (x :: xs) (y :: ys)
section
variable {α β : Type} {R R' : α → β → Prop}
theorem Fn.chg (f : ∀ x y,R x y → R' x y) : ∀ {xs : List α} {ys : List β},Fn R xs ys → Fn R' xs ys
  | _,_,.nil=>.nil
  | _,_,.cons h k=>.cons (f _ _ h) (Fn.chg f k)
theorem Fn.len : ∀ {xs : List α} {ys : List β},Fn R xs ys → xs.length = ys.length
  | _,_,.nil=>rfl
  | _,_,.cons _ k=>by simp [Fn.len k]
theorem Fn.at : ∀ {xs : List α} {ys : List β},Fn R xs ys → ∀ {j : Nat} {x : α},xs[j]? = some x → ∃ y,ys[j]? = some y ∧ R x y
  | _,_,.nil,_,_,h=>by simp at h
  | _,_,.cons (y:=y) h _,0,x,e=>by simp at e; subst e; exact ⟨y,rfl,h⟩
  | _,_,.cons _ k,j + 1,x,e=>by simpa using Fn.at k (by simpa using e)
theorem Fn.one {x : α} {y : β} (h : R x y) : Fn R [x] [y]:=.cons h .nil
end
def Zr {α β : Type} (φ : View) (k : Nat) (enc : β → List Value) (rel : View → α → β → Prop) (v : Value) (xs : List α) : Prop:=∃ rs,Slc φ k v (rs.map enc) ∧ Fn (rel φ) xs rs
theorem Zr.mono {α β : Type} {φ ψ : View} {k : Nat} {enc : β → List Value} {rel : View → α → β → Prop} {v : Value} {xs : List α} (hm : ∀ x r,rel φ x r → rel ψ x r) (l : View.le φ ψ) (h : Zr φ k enc rel v xs) : Zr ψ k enc rel v xs:=by
  obtain ⟨rs,h1,h2⟩:=h
  exact ⟨rs,h1.mono l,h2.chg hm⟩
section
variable {α β : Type} {enc : β → List Value} {R : α → β → Prop}
end
section
variable {w0 : World} {X : List Nat} {φ : View} {L : List LEnt} {K : List (Nat × Value)} {n : Nat} {a : Act} {w : World}
def Yv {α β : Type} (φ : View) (T : Nat) (enc : β → List Value) (rel : View → α → β → Prop) (v : Value) : Option α → Prop
  | none=>v = .pointer none
  | some x=>∃ b q,v = .pointer (some ⟨b,0,none⟩) ∧ rel φ x q ∧ φ b = some (.cells (enc q).toArray T (0,0))
theorem Yv.mono {α β : Type} {φ ψ : View} {T : Nat} {enc : β → List Value} {rel : View → α → β → Prop} {v : Value} {x : Option α} (hm : ∀ x r,rel φ x r → rel ψ x r) (l : View.le φ ψ) (h : Yv φ T enc rel v x) : Yv ψ T enc rel v x:=by
  cases x with
  | none=>exact h
  | some x =>
    obtain ⟨b,q,h1,h2,h3⟩:=h
    exact ⟨b,q,h1,hm _ _ h2,l _ _ h3⟩
end
end Go.Proofs.YtgfjjiheamdgbaaGreatDoor.D

namespace Go.Proofs.YtgfjjiheamdgbaaGreatDoor.D
open Go
section
variable {α : Type}
end
section
variable {w0 : World} {X : List Nat} {φ : View} {L : List LEnt} {K : List (Nat × Value)} {n : Nat} {a : Act} {w : World}
end
section
variable {P : Program} {w0 : World} {X : List Nat} {φ : View} {L : List LEnt} {K : List (Nat × Value)} {n : Nat} {a : Act} {w : World} {ty : TypeId}
end
section
variable {κ : Type} [DecidableEq κ]
section
variable {α : Type} {key : α → κ} {bs : List Nat} {xs : List α} {k : κ} {o : Option Nat}
end
end
section rows
variable {α : Type} {enc : α → List Value} {T k : Nat}
section
variable {κ : Type} [DecidableEq κ]
end
variable {w0 : World} {X : List Nat} {K : List (Nat × Value)} {n : Nat} {a : Act} {w : World}
end rows
section rzT
variable {κ α : Type}
def rzT : Nat → List (κ × List α) → List Value → List (κ × (Nat × List α × Value))
  | n,e :: xs,v :: vs=>(e.1,(n,e.2,v)) :: rzT (n + 1) xs vs
  | _,_,_=>[]
def Wt (q : List (κ × (Nat × List α × Value))) (vs : List Value) (xss : List (List α)) : Prop:=(q.map (·.2.1)).Nodup ∧ ∀ e ∈ q,vs[e.2.1]? = some e.2.2.2 ∧ xss[e.2.1]? = some e.2.2.1
theorem Wt.step {q q' : List (κ × (Nat × List α × Value))} {y : κ × (Nat × List α × Value)} {vs : List Value} {xss : List (List α)} (h : Wt q vs xss) (hp : q.Perm (y :: q')) (u : Value) (zs : List α) :
    vs[y.2.1]? = some y.2.2.2 ∧ xss[y.2.1]? = some y.2.2.1 ∧ Wt q' (vs.set y.2.1 u) (xss.set y.2.1 zs):=by
  obtain ⟨h1,h2⟩:=h
  have h3:=(hp.map (fun e : κ × (Nat × List α × Value)=>e.2.1)).nodup_iff.1 h1
  rw [List.map_cons,List.nodup_cons] at h3
  have hy:=h2 y (hp.mem_iff.2 (List.mem_cons_self ..))
  refine ⟨hy.1,hy.2,h3.2,fun e he=>?_⟩
  have h4 : y.2.1 ≠ e.2.1:=fun h5=>h3.1 (by rw [h5]; exact List.mem_map_of_mem he)
  have h6:=h2 e (hp.mem_iff.2 (List.mem_cons_of_mem _ he))
  rw [List.getElem?_set_ne h4,List.getElem?_set_ne h4]
  exact h6
end rzT
section
variable {P : Program} {w0 : World} {X : List Nat} {φ : View} {L : List LEnt} {K : List (Nat × Value)} {n : Nat} {a : Act} {w : World}
end
end Go.Proofs.YtgfjjiheamdgbaaGreatDoor.D

namespace Go.Proofs.YtgfjjiheamdgbaaGreatDoor.D
open Go
def An.enc (x : An) : List Value:=[iV x.At,iV x.Kind,sV x.Id,sV x.Who,sV x.Club,sV x.Race,iV x.Age,iV x.Time]
theorem Tryz.mixed : Tryz.prog.follows .mixedOrders = true:=by kernel_rfl
theorem Oj : SlT Tryz.prog 22 3 1 8:=Qz (z:=(iV 0)) Tryz.underlying22 Tryz.sizeOf3 (by kernel_rfl) rfl
theorem Lj : Pa Tryz.prog 35 0 0:=⟨_,_,_,Tryz.underlying35,rfl,Tryz.sizeOf3,rfl,rfl⟩
theorem Jq : Pa Tryz.prog 35 1 1:=⟨_,_,_,Tryz.underlying35,rfl,Tryz.sizeOf3,rfl,rfl⟩
theorem Iw : Pa Tryz.prog 35 2 2:=⟨_,_,_,Tryz.underlying35,rfl,Tryz.sizeOf9,rfl,rfl⟩
end Go.Proofs.YtgfjjiheamdgbaaGreatDoor.D

namespace Go.Proofs.YtgfjjiheamdgbaaGreatDoor.D
open Go
open Go.Proofs.Tryz
theorem Ln (w : World) (p_x : Int) (r : Bool) (h : Kk p_x = r) :
    Calls prog 73 [iV p_x].toArray w (Ret w [] fun _ v _=>v = bV r):=by
 refine Fe func73 rfl ntmps73 rfl fun a S=>?_
 unfold Kk at h
 replace S:=S.k1 0 rfl
 refine Fr (Vk S rfl rfl fun a S=>Dz (Vm S rfl rfl fun a S=>Vm S rfl rfl fun a S=>Vb S Kg rfl rfl rfl fun a S=>Va S rfl rfl ?_)); clear S; intro a S
 refine Dl (wp_ret ?_)
 subst h
 exact Dx S results73 rfl rfl
theorem Ks (w : World) (p_x : Int) (p_y : Int) (r : Int) (h : El p_x p_y = r) :
    Calls prog 60 [iV p_x,iV p_y].toArray w (Ret w [] fun _ v _=>v = iV r):=by
 refine Fe func60 rfl ntmps60 rfl fun a S=>?_
 unfold El at h
 replace S:=S.k2 0 1 rfl
 refine Fr (Vk S rfl rfl fun a S=>Dz (Vm S rfl rfl fun a S=>Cy S (fun _=>Ck (vs:=[iV p_x]) ⟨(S.tm rfl),trivial⟩ call73) (Ln _ p_x _ rfl) rfl ?_)); clear S; intro v1 a w1 hv1 hk1 hn1 S
 subst hv1
 refine Va S rfl rfl fun a S=>Dz (Vm S rfl rfl fun a S=>Cy S (fun _=>Ck (vs:=[iV p_y]) ⟨(S.tm rfl),trivial⟩ call73) (Ln _ p_y _ rfl) rfl ?_); clear S; intro v2 a w2 hv2 hk2 hn2 S
 subst hv2
 refine Va S rfl rfl fun a S=>Dl (Fs (Fr (Vm S rfl rfl fun a S=>Dl (Fc h (S.tm rfl) (fun hb1 h=>?_) (fun hb1 h=>?_)))))
 ·refine Fs (Fr (Vm S rfl rfl fun a S=>Dl (Fc h (S.tm rfl) (fun hb2 h=>?_) (fun hb2 h=>?_))))
  ·refine Fr (Vk S rfl rfl fun a S=>Dl (wp_ret (Cn (Cn ?_))))
   subst h
   exact Dx S results60 rfl rfl
  ·refine wp_skip (Tn (Fr (Vk S rfl rfl fun a S=>Dl (wp_ret (Cn ?_)))))
   subst h
   exact Dx S results60 rfl rfl
 ·refine wp_skip (Tn (Fs (Fr (Vm S rfl rfl fun a S=>Dl (Fc h (S.tm rfl) (fun hb3 h=>?_) (fun hb3 h=>?_))))))
  ·refine Fr (Vk S rfl rfl fun a S=>Dl (wp_ret (Cn ?_)))
   subst h
   exact Dx S results60 rfl rfl
  ·refine wp_skip (Tn (Fs (Fr (Vm S rfl rfl fun a S=>Vm S rfl rfl fun a S=>Vb S Ee rfl rfl rfl fun a S=>Dl (Fc h (S.tm rfl) (fun hb4 h=>?_) (fun hb4 h=>?_))))))
   ·refine Fr (Vk S rfl rfl fun a S=>Dl (wp_ret (Cn ?_)))
    subst h
    exact Dx S results60 rfl rfl
   ·refine wp_skip (Tn (Fs (Fr (Vm S rfl rfl fun a S=>Vm S rfl rfl fun a S=>Vb S Ix rfl rfl rfl fun a S=>Ld ?_))))
    replace S:=S.k1 19 rfl
    refine Tn (Fc h (S.tm rfl) (fun hb5 h=>?_) (fun hb5 h=>?_))
    ·refine Fr (Vk S rfl rfl fun a S=>Dl (wp_ret (Cn ?_)))
     subst h
     exact Dx S results60 rfl rfl
    ·refine wp_skip (Tn (Fr (Vk S rfl rfl fun a S=>Dl (wp_ret ?_))))
     subst h
     exact Dx S results60 rfl rfl
theorem Lt (w : World) (s t : ByteArray) (r : Int) (h : Gr s t = r) : Calls prog 58 [.string s,.string t].toArray w (Ret w [] fun _ v _=>v = .int .i64 r):=by
  subst h
  exact Pu (Any.strings_Compare Tryz.lays106 s t w)
theorem Qa (w : World) (v_p_vals : Value) (p_vals : List Int) (hs_p_vals : Slc (view w []) 1 v_p_vals (p_vals.map eInt)) (r : Int) (h : Nh p_vals = r) :
    Calls prog 59 [v_p_vals].toArray w (Ret w [] fun _ v _=>v = iV r):=by
 refine Fe func59 rfl ntmps59 rfl fun a S=>?_
 unfold Nh at h
 replace S:=S.k1 0 rfl
 refine Fr (Vk S rfl rfl fun a S=>Dz (Vk S rfl rfl fun a S=>Dl (Fs ?_)))
 refine Fr (Vm S rfl rfl fun a S=>lv S (En Oj (S.tm rfl) (Eg hs_p_vals)) rfl fun a S=>lv S (Rm rfl) rfl fun a S=>Dl ?_)
 replace S:=S.k4 3 6 7 8 rfl
 obtain ⟨j1,hj1,h⟩:=Dt h
 refine Dj (fun a w'=>j1 = r ∧ Sx w [] nov [] [(3,iV 0)] 18 a w') ?_ ?_
 ·refine wp_block (Gt (fun (ys1 : List Int) a w'=>∃ i1 : Nat,(∃ dn,p_vals = dn ++ ys1 ∧ dn.length = i1) ∧ Ii j1 ys1 i1 = r ∧ Sx w [] nov [] [(3,iV 0),(6,v_p_vals),(7,iV (p_vals.length : Int)),(8,iV (i1 : Int))] 18 a w') List.length p_vals ⟨0,⟨[],rfl,rfl⟩,h,S.nf [] rfl (subR rfl)⟩ ?_)
  clear S h; rintro ys1 a w1 ⟨i1,⟨dn,hd1,hi1⟩,h,S⟩
  cases ys1 with
  | nil =>
   rw [Ii.eq_1] at h
   refine Fr (Vb S Ee rfl rfl rfl fun a S=>Ld ?_)
   replace S:=S.k5 3 6 7 8 9 rfl
   exact Tn (Fs (wp_cond_false ((S.tm rfl).trans (congrArg Value.bool (Ig hd1 hi1))) (wp_exit (Eb (Eb (Gj (Tn (⟨h,S.nf [] rfl ⟨rfl,trivial⟩⟩))))))))
  | cons y1 ys1 =>
   rw [Ii.eq_2] at h
   refine Fr (Vb S Ee rfl rfl rfl fun a S=>Ld ?_)
   replace S:=S.k5 3 6 7 8 9 rfl
   refine Tn (Fs (wp_cond_true ((S.tm rfl).trans (congrArg Value.bool (Hh hd1 hi1))) (wp_skip (Tn (Fs (wp_block (Fs (Fg ?_))))))))
   obtain ⟨b1,o1,hm1,hr1⟩:=Ev (a:=a) (x:=.tmp 6) (y:=.tmp 8) (ty:=0) Oj hs_p_vals (Ie hd1 hi1) rfl (S.tm rfl) (S.tm rfl)
   refine lv S (hr1 _) rfl ?_; clear S; intro a S
   clear hr1
   refine lv S (Hr isAgg3 (off:=o1) (o:=0) (S.tm rfl) (hm1.at S.emb0) rfl) rfl fun a S=>Va S rfl rfl fun a S=>Dz (Vm S rfl rfl fun a S=>Vm S rfl rfl fun a S=>Vb S Kg rfl rfl rfl fun a S=>Dl ?_)
   refine Fc h (S.tm rfl) (fun hb1 h=>?_) (fun hb1 h=>?_)
   ·refine Fr (Vm S rfl rfl fun a S=>Va S rfl rfl fun a S=>Dl (wp_ret (Fa (Cn (Cn (Fa ?_))))))
    refine Cn (Cn ?_)
    subst h
    exact Dx S results59 rfl rfl
   ·exact wp_skip (Hj (Tn (Fg (Vq S Ew rfl rfl rfl fun a S=>Vm S rfl rfl fun a S=>Dl (⟨ys1,⟨i1 + 1,⟨_,(hd1).trans (List.append_cons _ _ _),by simp [hi1]⟩,h,S.nf [] rfl ⟨rfl,rfl,rfl,(congrArg (fun z=>some (Value.int .i64 z)) (Hi hd1 hi1 (Jk hs_p_vals))),trivial⟩⟩,Nat.lt_succ_self _⟩)))))
 clear S h; rintro a w2 ⟨h,S⟩; rw [hj1] at h; clear hj1 j1
 refine Tn (Fr (Vm S rfl rfl fun a S=>Va S rfl rfl fun a S=>Dl (wp_ret ?_)))
 subst h
 exact Dx S results59 rfl rfl
set_option maxRecDepth 20000 in
theorem record_compare_ok (w : World) (p_a : An) (p_b : An) (r : Int) (h : Cs p_a p_b = r) :
    Calls prog 38 [.agg (An.enc p_a).toArray,.agg (An.enc p_b).toArray].toArray w (Ret w [] fun _ v _=>v = iV r):=by
 refine Fe func38 rfl ntmps38 rfl fun a S=>?_
 unfold Cs at h
 replace S:=S.k2 0 1 rfl
 refine Fr (Oh S (S.tm rfl) (cs:=(An.enc p_a)) rfl rfl ?_); clear S; intro a w1 b1 hz1 hk1 S
 refine Oh S (S.tm rfl) (cs:=(An.enc p_b)) rfl rfl ?_; clear S; intro a w2 b2 hz2 hk2 S
 refine Vk S rfl rfl fun a S=>Dl (Fs (Fi [] ([]) Tryz.mixed S rfl (by kernel_rfl) ?_)); clear S; intro w8 hk8 hsel S
 refine Co 0 S hsel rfl rfl rfl (by kernel_rfl) (by kernel_rfl) rfl (fun _ hw=>(Fx Lj (S.tm rfl))) fun a S=>Co 1 S hsel rfl rfl rfl (by kernel_rfl) (by kernel_rfl) rfl (fun _ hw=>(Hr isAgg3 (off:=0) (o:=0) (S.tm rfl) ((S.blk_mem (i:=1) (cells:=(An.enc p_a)) (b:=b1) (T:=35) rfl (Ge (e':=.blk b1 (An.enc p_a) 35))).kept hw) rfl)) fun a S=>Co 2 S hsel rfl rfl rfl (by kernel_rfl) (by kernel_rfl) rfl (fun _ hw=>(Fx Lj (S.tm rfl))) fun a S=>Co 3 S hsel rfl rfl rfl (by kernel_rfl) (by kernel_rfl) rfl (fun _ hw=>(Hr isAgg3 (off:=0) (o:=0) (S.tm rfl) ((S.blk_mem (i:=0) (cells:=(An.enc p_b)) (b:=b2) (T:=35) rfl (Ge (e':=.blk b2 (An.enc p_b) 35))).kept hw) rfl)) fun a S=>Co 5 S hsel rfl rfl rfl (by kernel_rfl) (by kernel_rfl) rfl (fun _ hw=>(Fx Iw (S.tm rfl))) fun a S=>Co 6 S hsel rfl rfl rfl (by kernel_rfl) (by kernel_rfl) rfl (fun _ hw=>(Hr isAgg9 (off:=0) (o:=2) (S.tm rfl) ((S.blk_mem (i:=1) (cells:=(An.enc p_a)) (b:=b1) (T:=35) rfl (Ge (e':=.blk b1 (An.enc p_a) 35))).kept hw) rfl)) fun a S=>Co 7 S hsel rfl rfl rfl (by kernel_rfl) (by kernel_rfl) rfl (fun _ hw=>(Fx Iw (S.tm rfl))) fun a S=>Co 8 S hsel rfl rfl rfl (by kernel_rfl) (by kernel_rfl) rfl (fun _ hw=>(Hr isAgg9 (off:=0) (o:=2) (S.tm rfl) ((S.blk_mem (i:=0) (cells:=(An.enc p_b)) (b:=b2) (T:=35) rfl (Ge (e':=.blk b2 (An.enc p_b) 35))).kept hw) rfl)) fun a S=>Co 10 S hsel rfl rfl rfl (by kernel_rfl) (by kernel_rfl) rfl (fun _ hw=>(Fx Jq (S.tm rfl))) fun a S=>Co 11 S hsel rfl rfl rfl (by kernel_rfl) (by kernel_rfl) rfl (fun _ hw=>(Hr isAgg3 (off:=0) (o:=1) (S.tm rfl) ((S.blk_mem (i:=1) (cells:=(An.enc p_a)) (b:=b1) (T:=35) rfl (Ge (e':=.blk b1 (An.enc p_a) 35))).kept hw) rfl)) fun a S=>Co 12 S hsel rfl rfl rfl (by kernel_rfl) (by kernel_rfl) rfl (fun _ hw=>(Fx Jq (S.tm rfl))) ?_; clear S; intro a S
 refine Co 13 S hsel rfl rfl rfl (by kernel_rfl) (by kernel_rfl) rfl (fun _ hw=>(Hr isAgg3 (off:=0) (o:=1) (S.tm rfl) ((S.blk_mem (i:=0) (cells:=(An.enc p_b)) (b:=b2) (T:=35) rfl (Ge (e':=.blk b2 (An.enc p_b) 35))).kept hw) rfl)) fun a S=>Ea 4 (by kernel_rfl) rfl (Cy S (fun _=>Ck (vs:=[iV p_a.At,iV p_b.At]) ⟨(S.tm rfl),(S.tm rfl),trivial⟩ call60) (Ks _ p_a.At p_b.At _ rfl) rfl ?_); clear S; intro v5 a w9 hv5 hk9 hn5 S
 subst hv5
 refine Ld (Ej hk9 (Ea 9 (by kernel_rfl) rfl (Cy S (fun _=>Ck (vs:=[sV p_a.Id,sV p_b.Id]) ⟨(S.tm rfl),(S.tm rfl),trivial⟩ call58) (Lt _ p_a.Id p_b.Id _ rfl) rfl ?_))); clear S; intro v6 a w10 hv6 hk10 hn6 S
 subst hv6
 refine Ld (Ej hk10 (Ea 14 (by kernel_rfl) rfl (Cy S (fun _=>Ck (vs:=[iV p_a.Kind,iV p_b.Kind]) ⟨(S.tm rfl),(S.tm rfl),trivial⟩ call60) (Ks _ p_a.Kind p_b.Kind _ rfl) rfl ?_))); clear S; intro v7 a w11 hv7 hk11 hn7 S
 subst hv7
 refine Ld (Ej hk11 (Ea 15 (by kernel_rfl) rfl (De S underlying22 sizeOf3 zeroValue3 rfl rfl (pv:=[(0,iV (El p_a.At p_b.At)),(1,iV (Gr p_a.Id p_b.Id)),(2,iV (El p_a.Kind p_b.Kind))]) ⟨rfl,(S.tm rfl),rfl,(S.tm rfl),rfl,(S.tm rfl),trivial⟩ (cs:=[iV (El p_a.At p_b.At),iV (Gr p_a.Id p_b.Id),iV (El p_a.Kind p_b.Kind)]) (by kernel_rfl) rfl ?_))); clear S; intro a w12 b4 hz4 hk12 S
 refine Ld (Ej hk12 (Ea 16 (by kernel_rfl) rfl (Cy S (fun _=>Ck (vs:=[.slice (some ⟨b4,0,none⟩) 3 3]) ⟨(S.tm rfl),trivial⟩ call59) (Qa _ (.slice (some ⟨b4,0,none⟩) 3 3) [(El p_a.At p_b.At),(Gr p_a.Id p_b.Id),(El p_a.Kind p_b.Kind)] (Fy Kx S (i:=0) rfl rfl rfl rfl ((Ge (e':=.blk b4 [iV (El p_a.At p_b.At),iV (Gr p_a.Id p_b.Id),iV (El p_a.Kind p_b.Kind)] 3)) _ rfl)) _ rfl) rfl ?_))); clear S; intro v8 a w13 hv8 hk13 hn8 S
 subst hv8
 refine Ld (Ej hk13 (Iy [17] hsel (by kernel_rfl) rfl ?_))
 clear hsel
 refine Fb S rfl (Ra (S.tm rfl)) rfl fun a S=>Ik ?_
 replace S:=S.n0.k1 4 rfl
 refine Tn (wp_ret ?_)
 subst h
 exact Dx S results38 rfl rfl
end Go.Proofs.YtgfjjiheamdgbaaGreatDoor.D

namespace Go.Proofs.YtgfjjiheamdgbaaGreatDoor.D
open Go Go.Sort
theorem grown_of {w w' : World} (h : Keep [] w w') : ∃ q os',w' = grow (w.drewN q) os':=by
  have hq : w.drawn + (w'.drawn - w.drawn) = w'.drawn:=by have:=h.drawn; omega
  refine ⟨w'.drawn - w.drawn,w'.heap.extract w.heap.size w'.heap.size,?_⟩
  obtain ⟨h1,h2,h3,h4,h5,h6⟩:=h
  have hh : w'.heap = w.heap ++ w'.heap.extract w.heap.size w'.heap.size:=by
    apply Array.ext_getElem?
    intro i
    by_cases hi : i < w.heap.size
    · rw [h6 i hi (by simp),Array.getElem?_append_left hi]
    · rw [Array.getElem?_append_right (by omega),Array.getElem?_extract]
      by_cases hj : i < w'.heap.size
      · rw [if_pos (by omega)]; congr 1; omega
      · rw [if_neg (by omega),Array.getElem?_eq_none (by omega)]
  obtain ⟨heap,tape,drawn,os,output⟩:=w'
  simp only at h1 h2 h3 hh hq
  subst h1 h2 h3
  unfold grow World.drewN
  simp only
  rw [← hh,hq]
end Go.Proofs.YtgfjjiheamdgbaaGreatDoor.D
