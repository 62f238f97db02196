/- Maps. No statement of the seat is proved here. -/
import Derived.Test.YtkpjakcepffimaaGreatDoorMore
import Derived.Laws.IdiomRangeMap
namespace Go.Proofs.YtkpjakcepffimaaGreatDoor
open Go

section
variable {κ ν : Type} [DecidableEq κ]
def mentsFrom (kv : κ → Value) (vv : ν → Value) : List (κ × ν) → Nat → List MapEntry
  | [], _ => []
  | (k, v) :: m, i => ⟨kv k, vv v, i⟩ :: mentsFrom kv vv m (i + 1)
structure KeyT (P : Program) (kt : TypeId) (kv : κ → Value) : Prop where
  chk : ∀ em x w, (Instr.checkKey em 10000 kt (kv x)).run P w = .ok () w
  find : ∀ {ν : Type} (vv : ν → Value) (x : κ) (m : List (κ × ν)) w, (Instr.findKey kt (kv x) (mentsFrom kv vv m 0)).run P w = .ok ((mfind m x 0).map fun p => (p.1, vv p.2)) w
  same : ∀ x, Instr.sameBits 10000 (kv x) (kv x) = true
end

section
variable {P : Program} {ops : Array Oper} {Q : Exit → Act → World → Prop} {rest : List Oper}
variable {w0 : World} {X : List Nat} {φ : View} {L : List LEnt} {K : List (Nat × Value)} {n : Nat} {a : Act} {w : World}
variable {d : Nat} {ty : TypeId} {pos : String} {after : Array Edge}
variable {κ ν : Type} [DecidableEq κ] {kv : κ → Value} {vv : ν → Value}

end
section
variable {κ ν : Type}
end
section
variable {P : Program} {ops : Array Oper} {Q : Exit → Act → World → Prop} {rest : List Oper}
variable {w0 : World} {X : List Nat} {φ : View} {L : List LEnt} {K : List (Nat × Value)} {n : Nat} {a : Act} {w : World}
variable {d : Nat} {ty : TypeId} {pos : String} {after : Array Edge}
variable {κ ν : Type} {kv : κ → Value} {vv : ν → Value}
end
end Go.Proofs.YtkpjakcepffimaaGreatDoor
