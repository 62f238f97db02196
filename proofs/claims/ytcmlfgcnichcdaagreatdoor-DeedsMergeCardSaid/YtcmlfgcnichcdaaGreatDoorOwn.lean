/- More rules for slices that are owned: parts of them,clearing,parameters that a callee turns. No statement of the seat is proved here. -/
import Derived.Test.YtcmlfgcnichcdaaGreatDoorLib
namespace Go.Proofs.YtcmlfgcnichcdaaGreatDoor
open Go
section
variable {P : Program} {ops : Array Oper} {Q : Exit → Act → World → Prop} {rest : List Oper}
variable {w0 : World} {X : List Nat} {φ : View} {L : List LEnt} {K : List (Nat × Value)} {n : Nat} {a : Act} {w : World}
variable {d : Nat} {ty : TypeId} {pos : String} {after : Array Edge}

theorem all1 {v : Value} {l : List Value} (h : v.oneCell' = true) (k : l.all (·.oneCell') = true) : (v :: l).all (·.oneCell') = true:=by simp only [List.all_cons,h,k,Bool.and_self]
def Zs (k : Nat) (v : Value) (l h : Nat) (u : Value) : Prop :=
 ∃ ao m cap,v = .slice ao m cap ∧ u = .slice (if cap = l then ao else ao.map (·.add (l * k))) (h - l) (cap - l) ∧ l ≤ h ∧ h ≤ m ∧ m ≤ cap
theorem Zs.len {k l h : Nat} {v u : Value} (hu : Zs k v l h u) : Jd u (h - l):=by
 obtain ⟨ao,m,cap,_,rfl,_⟩:=hu
 exact ⟨_,_,rfl⟩
section subs
variable {T el TE : TypeId} {x y y' : Operand} {v : Value} {i k m by_ : Nat} {zl zh : Int} {k1 k2 : IntKind} {cs : List Value}
variable (h : SlT P T el k by_) (S : Sx w0 X φ L K n a w) (hi : L[i]? = some (.own v TE k m cs)) (hx : a.eval x = v)
include h S hi hx
end subs
section typed
variable {α : Type} {enc : α → List Value} {k : Nat}
theorem Zs.block {k : Nat} {zh : Int} {v u : Value} (hu : Zs k v (0 : Int).toNat zh.toNat u) : u.ownBlock = v.ownBlock:=by
 obtain ⟨ao,m,cap,rfl,rfl,_,h2,h3⟩:=hu
 have hz : (0 : Int).toNat = 0:=rfl
 rw [hz]
 split
 ·cases ao <;> rfl
 ·cases ao with
  | none=>rfl
  | some ad=>cases ad; rename_i b o sp; cases sp <;> simp [Addr.add,Value.ownBlock]
theorem CT {e : LEnt} : fps [e] = e.fp.toList:=by
 cases h : e.fp <;> simp [fps,h]
theorem Lz (e : LEnt) : (fps [e]).Nodup:=by
 rw [CT]; cases e.fp <;> simp
theorem Nm (e : LEnt) : ∀ b ∈ fps [e],b ∈ e.fp.toList:=fun b h=>by rwa [CT] at h
end typed
theorem Nz {op : Op} {f : FuncId} {vs : Array Value} {Φ : View → Value → World → Prop} (i : Nat) {e : LEnt} (S : Sx w0 X φ L K n a w) (hi : L[i]? = some e) (e' : Value → LEnt)
  (hr : ∀ dst,(execOp a.eval { dst,op,type:=ty,pos,after,guard:=none }).run P w = .ok (.enter f vs) w) (hc : Calls P f vs w (Ret w e.fp.toList Φ)) (hd : Nat.blt d n = true)
  (he : ∀ τ v w',Φ τ v w' → (e' v).holds w' ∧ ∀ c,(e' v).fp = some c → e.fp = some c)
  (k : ∀ v a' w',Φ (newer w w') v w' → Keep e.fp.toList w w' → New w φ L → Sx w0 X φ (L.set i (e' v)) ((d,v) :: K) n a' w' → wpList P ops Q rest a' w') :
  wpList P ops Q ({ dst:=some d,op,type:=ty,pos,after,guard:=none } :: rest) a w:=by
 refine wpList_plain rfl fun K' hK=>?_
 unfold Oper.wp
 rw [hr,Oper.upon_enter]
 refine hc.mono ?_
 rintro x w' ⟨v,rfl,hk,hΦ⟩
 obtain ⟨h1,h2⟩:=he _ _ _ hΦ
 refine hK _ _ (k v _ w' hΦ hk S.new ((S.change hi hk (fun y hy=>by simpa using hy) h1 (fun c hc=>.inl (h2 c hc))).put (by simpa using hd)))
end
section
variable {P : Program} {ops : Array Oper} {Q : Exit → Act → World → Prop} {rest : List Oper}
variable {w0 : World} {X : List Nat} {φ : View} {L : List LEnt} {K : List (Nat × Value)} {n : Nat} {a : Act} {w : World}
variable {d : Nat} {ty : TypeId} {pos : String} {after : Array Edge}
end
end Go.Proofs.YtcmlfgcnichcdaaGreatDoor
