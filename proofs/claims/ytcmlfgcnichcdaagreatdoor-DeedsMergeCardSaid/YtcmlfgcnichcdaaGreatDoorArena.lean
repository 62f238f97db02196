/- Blocks that a call makes in a loop and keeps by their places in a list: an arena. No statement of the seat is proved here. -/
import Derived.Test.YtcmlfgcnichcdaaGreatDoorDeep
namespace Go.Proofs.YtcmlfgcnichcdaaGreatDoor
open Go
section
variable {α : Type}
def arena (T : TypeId) (enc : α → List Value) : List Nat → List α → List LEnt
 | b :: bs,x :: xs=>.blk b (enc x) T :: arena T enc bs xs
 | _,_=>[]
end
section
variable {w0 : World} {X : List Nat} {φ : View} {L : List LEnt} {K : List (Nat × Value)} {n : Nat} {a : Act} {w : World}
end
section
variable {P : Program} {w0 : World} {X : List Nat} {φ : View} {L : List LEnt} {K : List (Nat × Value)} {n : Nat} {a : Act} {w : World} {ty : TypeId}
end
section
variable {κ : Type} [DecidableEq κ]
section
variable {α : Type} {key : α → κ} {bs : List Nat} {xs : List α} {k : κ} {o : Option Nat}
end
end
end Go.Proofs.YtcmlfgcnichcdaaGreatDoor
