/- More rules: tests for nil,slices that are made empty. No statement of the seat is proved here. -/
import Derived.Test.YtgfjjiheamdgbaaGreatDoorMap
namespace Go.Proofs.YtgfjjiheamdgbaaGreatDoor
open Go
def DW : Value → Bool
 | .slice none _ _=>true
 | _=>false
theorem Zp {α : Type} {enc : α → List Value} {ψ : View} {k : Nat} {v : Value} {xs : List α} (h : Slc ψ k v (xs.map enc)) (hb : DW v = true) : xs = []:=by
 obtain ⟨ao,cap,rfl,h2,_,h4,_⟩:=h
 cases ao with
 | none =>
  have h5:=h4 rfl
  rw [List.length_map] at h2
  exact List.eq_nil_of_length_eq_zero (by omega)
 | some ad=>cases hb
section
variable {P : Program} {ops : Array Oper} {Q : Exit → Act → World → Prop} {rest : List Oper}
variable {w0 : World} {X : List Nat} {φ : View} {L : List LEnt} {K : List (Nat × Value)} {n : Nat} {a : Act} {w : World}
variable {d : Nat} {ty : TypeId} {pos : String} {after : Array Edge}
theorem CQ {t el : TypeId} (ht : P.underlying t = some (.slice el)) (ao : Option Addr) (m c : Nat) (w : World) : (Op.equal t (.slice ao m c) (.slice none 0 0)).run P w = .ok (DW (.slice ao m c)) w:=by
 unfold Op.equal
 rw [show Op.maxDepth = 9999 + 1 from rfl,Op.equalIn]
 simp only [Sem.run_bind,run_underlying ht,Result.andThen_ok]
 cases ao <;> rfl
theorem Zq {t u el : TypeId} {x y : Operand} {v : Value} {m : Nat} (ht : P.underlying t = some (.slice el)) (hv : Fw v m) (hx : a.eval x = v) (hy : a.eval y = .slice none 0 0) : Rn P a w (.binOp .eql t x y u) ty (.bool (DW v)):=by
 obtain ⟨ao,c,rfl⟩:=hv
 intro d p e g
 simp [execOp,hx,hy,binOp,eqGuard,CQ ht]
theorem Tc {T el sz : TypeId} (S : Sx w0 X φ L K n a w) (hT : P.underlying T = some (.slice el)) (hs : ∀ w,(sizeOf el).run P w = .ok sz w) (hd : Nat.blt d n = true)
  (k : ∀ a' w' b,b = w.heap.size → Keep [] w w' → Sx w0 X φ (.blk b [] el :: L) ((d,.slice (some ⟨b,0,none⟩) 0 0) :: K) n a' w' → wpList P ops Q rest a' w') :
  wpList P ops Q ({ dst:=some d,op:=.buildSlice T 0 #[],type:=ty,pos,after,guard:=none } :: rest) a w:=by
 have hb : (Instr.buildSlice T 0 #[]).run P w = .ok (.slice (some ⟨w.heap.size,0,none⟩) 0 0) (w.alloc (.cells #[] el)):=by
  unfold Instr.buildSlice
  simp only [Sem.run_bind,run_underlying hT,hs,Result.andThen_ok,Nat.zero_mul,gt_iff_lt,Nat.not_lt_zero,if_false,if_true,Sem.run_pure,newRow,run_newObj,Instr.fill]
  simp [show Array.range 0 = #[] from rfl]
 refine Vn (v:=.slice (some ⟨w.heap.size,0,none⟩) 0 0) (w':=w.alloc (.cells #[] el)) ?_ ?_
 ·have he : execOp a.eval { dst:=some d,op:=.buildSlice T 0 #[],type:=ty,pos,after,guard:=none } = (do pure (.value (← Instr.buildSlice T 0 ((#[] : Array (Nat × Operand)).map fun (i,x)=>(i,a.eval x))))):=rfl
  rw [he,Array.map_empty,Sem.run_bind,hb]
  rfl
 ·refine k _ _ w.heap.size rfl (Jb w _) (((S.more (e:=.blk w.heap.size [] el) (Jb w _) ?_ ?_)).put (by simpa using hd))
  ·show (w.alloc _).heap[w.heap.size]? = _
   rw [heap_alloc_new]
  ·intro b hb; cases hb; exact Nat.le_refl _
end
section
variable {P : Program} {κ ν : Type} [DecidableEq κ]
end

def Ji (ops : Array Oper) : List Nat → List Oper
 | []=>[]
 | i :: is=>match ops[i]? with
  | some o=>o :: Ji ops is
  | none=>Ji ops is
def Sf (ops : Array Oper) : List Nat → Array Bool → Bool
 | [],listed=>(Region.ready .any ops listed).isEmpty
 | i :: is,listed=>(Region.ready .any ops listed).contains i && Region.free .any ops listed i && (ops[i]?).isSome && Sf ops is (listed.setIfInBounds i true)
def Pg (P : Program) (ops : Array Oper) (N : Act → World → Prop) (l : List Oper) (a : Act) (w : World) : Prop:=wpStill P ops w (fun a'=>N a' w) l a
section
variable {P : Program} {ops : Array Oper} {N : Act → World → Prop} {rest : List Oper}
variable {w0 : World} {X : List Nat} {φ : View} {L : List LEnt} {K : List (Nat × Value)} {n : Nat} {a : Act} {w : World}
variable {d : Nat} {ty : TypeId} {pos : String} {after : Array Edge}
theorem Qi {Q : Act → Prop} (hs : Region.noSelect ops = true) : ∀ (is : List Nat) (listed : Array Bool) (a : Act),
  Sf ops is listed = true → wpStill P ops w Q (Ji ops is) a → wpAnyS P .any ops w Q is.length listed a
 | [],_,_,hB,h=>⟨by simpa [Sf] using hB,h⟩
 | i :: is,listed,a,hB,h=>by
  simp only [Sf,Bool.and_eq_true] at hB
  obtain ⟨⟨⟨hr,hf⟩,ho⟩,hB'⟩:=hB
  cases h0 : ops[i]? with
  | none=>rw [h0] at ho; cases ho
  | some o =>
   have h' : wpStill P ops w Q (o :: Ji ops is) a:=by simpa [Ji,h0] using h
   have hst : stOp P ops w i (wpStill P ops w Q (Ji ops is)) a:=by unfold stOp; simp only [h0]; exact h'
   obtain ⟨v,hy,hK⟩:=yieldsAt_of_stOp h0 hst
   exact wpAnyS_first h0 (Region.noSelect_spec hs) is.length listed a (Region.free_spec h0 hf) (by simpa using hr) hy (Qi hs is _ _ hB' hK)
theorem Nu {C : Array Bool → World → Prop} {Q : Act → Prop} (hC : ∀ l,C l w) (hQ : ∀ a,Q a → N a w) : ∀ (fuel : Nat) (listed : Array Bool) (a : Act),wpAnyS P .any ops w Q fuel listed a → wpC P ops C N fuel listed a w
 | 0,_,_,h=>⟨hC _,h.1,hQ _ h.2⟩
 | fuel + 1,_,_,h=>⟨hC _,fun h0=>hQ _ (h.1 h0),fun i hi=>wpOp_of_stOp (fun a'=>Nu hC hQ fuel _ a') (h.2 i hi)⟩
theorem Iy {B Y : List Nat} {fuel : Nat} {listed : Array Bool} (is : List Nat) (hs : Region.noSelect ops = true) (hB : Sf ops is listed = true) (hf : is.length = fuel) (h : Pg P ops N (Ji ops is) a w) : wpD P ops B Y N fuel listed a w:=by
 subst hf
 exact Nu (fun _ _=>Keep.refl Y w) (fun _ h=>h) _ _ _ (Qi hs is listed a hB h)
theorem Px (o : Oper) (h : o.guard = none) (y : Nat → Option Bool) : Region.wanted o y = true:=by simp [Region.wanted,h]
theorem Pk {i : Nat} {o : Oper} {is : List Nat} (h : ops[i]? = some o) : Ji ops (i :: is) = o :: Ji ops is:=by simp only [Ji,h]
theorem Xu : ∀ (l1 l2 : List Nat),Ji ops (l1 ++ l2) = Ji ops l1 ++ Ji ops l2
 | [],_=>rfl
 | i :: l1,l2=>by
  simp only [List.cons_append,Ji,Xu l1 l2]
  cases ops[i]? <;> rfl
theorem Oi {op : Op} {v : Value} (S : Sx w0 X φ L K n a w) (h : Rn P a w op ty v) (hd : Nat.blt d n = true)
  (k : ∀ a',Sx w0 X φ L ((d,v) :: K) n a' w → Pg P ops N rest a' w) :
  Pg P ops N ({ dst:=some d,op,type:=ty,pos,after,guard:=none } :: rest) a w:=by
 unfold Pg wpStill
 rw [if_pos (Px _ rfl _)]
 unfold Oper.still
 rw [h (some d) pos after none]
 exact ⟨rfl,k _ (S.put (by simpa using hd))⟩
variable {i : Nat} {is : List Nat}
theorem Fb {op : Op} {v : Value} (S : Sx w0 X φ L K n a w) (ho : ops[i]? = some { dst:=some d,op,type:=ty,pos,after,guard:=none }) (h : Rn P a w op ty v) (hd : Nat.blt d n = true)
  (k : ∀ a',Sx w0 X φ L ((d,v) :: K) n a' w → Pg P ops N (Ji ops is) a' w) : Pg P ops N (Ji ops (i :: is)) a w:=by
 rw [Pk ho]; exact Oi S h hd k
theorem Ik (k : N a w) : Pg P ops N (Ji ops []) a w:=k
theorem Ng {op : Op} {j : Nat} {b want : Bool} {oj : Oper} {tj : Nat} {dst : Option Nat} (S : Sx w0 X φ L K n a w) (ho : ops[i]? = some { dst,op,type:=ty,pos,after,guard:=some (j,want) }) (hj : ops[j]? = some oj) (ht : oj.dst = some tj) (hv : look K tj = some (.bool b)) (hb : b = want)
  (k : Pg P ops N ({ dst,op,type:=ty,pos,after,guard:=none } :: Ji ops is) a w) : Pg P ops N (Ji ops (i :: is)) a w:=by
 have hs:=S.slots tj _ hv
 have h1 : Region.wanted { dst,op,type:=ty,pos,after,guard:=some (j,want) } (yielded ops a.tmps) = true:=by
  simp [Region.wanted,yielded,hj,ht,hs,hb]
 rw [Pk ho]
 unfold Pg wpStill at k ⊢
 rw [if_pos h1]
 rw [if_pos (Px _ rfl _)] at k
 exact k
theorem Tf {op : Op} {v : Value} {j : Nat} {b want : Bool} {oj : Oper} {tj : Nat} (S : Sx w0 X φ L K n a w) (ho : ops[i]? = some { dst:=some d,op,type:=ty,pos,after,guard:=some (j,want) }) (hj : ops[j]? = some oj) (ht : oj.dst = some tj) (hv : look K tj = some (.bool b)) (hb : (b == want) = false) (hd : Nat.blt d n = true)
  (k : ∀ a',Sx w0 X φ L ((d,v) :: K) n a' w → Pg P ops N (Ji ops is) a' w) (hundef : v = undef) : Pg P ops N (Ji ops (i :: is)) a w:=by
 have hs:=S.slots tj _ hv
 have hne : ¬ b = want:=by simpa using hb
 rw [Pk ho]
 unfold Pg wpStill
 rw [if_neg (by simp [Region.wanted,yielded,hj,ht,hs,hne]),← hundef]
 exact k _ (S.put (by simpa using hd))
theorem Sg {Q : Act → Prop} {J : Act → Prop} : ∀ {l1 l2 : List Oper} {a : Act},wpStill P ops w J l1 a → (∀ a,J a → wpStill P ops w Q l2 a) → wpStill P ops w Q (l1 ++ l2) a
 | [],_,a,h,k=>k a h
 | o :: l1,l2,a,h,k=>by
  simp only [List.cons_append]
  unfold wpStill at h ⊢
  split
  ·rename_i hw
   rw [if_pos hw] at h
   exact Oper.still_mono (fun a' h'=>Sg h' k) h
  ·rename_i hw
   rw [if_neg hw] at h
   exact Sg h k
theorem s_cutm (m : Nat) {is : List Nat} (J : Act → World → Prop) (h : Pg P ops J (Ji ops (is.take m)) a w) (k : ∀ a w,J a w → Pg P ops N (Ji ops (is.drop m)) a w) : Pg P ops N (Ji ops is) a w:=by
 have:=Sg (P:=P) (ops:=ops) (w:=w) (l1:=Ji ops (is.take m)) (l2:=Ji ops (is.drop m)) (Q:=fun a'=>N a' w) h (fun a h=>k a w h)
 rwa [← Xu,List.take_append_drop] at this
end

section
variable {κ ν : Type} [DecidableEq κ]
end
section
variable {P : Program} {ops : Array Oper} {Q : Exit → Act → World → Prop} {rest : List Oper}
variable {w0 : World} {X : List Nat} {φ : View} {L : List LEnt} {K : List (Nat × Value)} {n : Nat} {a : Act} {w : World}
variable {d : Nat} {ty : TypeId} {pos : String} {after : Array Edge}
variable {κ ν : Type} [DecidableEq κ] {kv : κ → Value} {vv : ν → Value}
end
end Go.Proofs.YtgfjjiheamdgbaaGreatDoor
