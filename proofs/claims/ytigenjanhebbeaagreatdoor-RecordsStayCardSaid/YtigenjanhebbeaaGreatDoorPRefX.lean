/- What the reference says of steps, kinds and faults, where this law does not reach it itself. Plain definitions; no program stands here. -/
import Derived.Test.YtigenjanhebbeaaGreatDoorPStream
namespace Go.Proofs.YtigenjanhebbeaaGreatDoor
open Go
def tumbref2_follows (p_state : Int) (p_kind : Int) : Bool :=
  if decide (p_kind = 1) then
  decide (p_state = 0)
  else
  if decide (p_kind = 2) then
  decide (p_state = 1)
  else
  ((decide (p_state = 1)) || (decide (p_state = 2)))
def tumblaw2_errs_l1 (j1 : Int) : List Int → Nat → Int
  | [], _ => j1
  | y1 :: ys1, i1 => if !decide (y1 = 0) then
  y1
  else
  tumblaw2_errs_l1 j1 ys1 (i1 + 1)
def tumblaw2_errs (p_l : List Int) : Int :=
  Join (0) (fun j1 =>
  tumblaw2_errs_l1 j1 p_l 0)
def tumblaw2_when (p_is : Bool) (p_e : Int) : Int :=
  if p_is then
  p_e
  else
  0
def tumblaw2_momentFault (p_at : Int) : Int :=
  (tumblaw2_when (!(tumbref2_Moment p_at)) 1)
def tumbref2_KindAt_c1 (p_k : GKind) (p_a1 : ByteArray) : Bool :=
  decide (p_k.Key = p_a1)
def slices_IndexFunc_Kind_tumbref2_KindAt_c1_l1 (p_f_0 : ByteArray) (j1 : Int) : List GKind → Nat → Int
  | [], _ => j1
  | y1 :: ys1, i1 => if (tumbref2_KindAt_c1 y1 p_f_0) then
  (i1 : Int)
  else
  slices_IndexFunc_Kind_tumbref2_KindAt_c1_l1 p_f_0 j1 ys1 (i1 + 1)
def slices_IndexFunc_Kind_tumbref2_KindAt_c1 (p_s : List GKind) (p_f_0 : ByteArray) : Int :=
  Join ((-1)) (fun j1 =>
  slices_IndexFunc_Kind_tumbref2_KindAt_c1_l1 p_f_0 j1 p_s 0)
def tumbref2_KindAt (p_l : List GKind) (p_key : ByteArray) : Int :=
  (slices_IndexFunc_Kind_tumbref2_KindAt_c1 p_l p_key)
def tumblaw2_kindFault (p_k : List GKind) (p_kind : ByteArray) : Int :=
  (tumblaw2_when (decide ((tumbref2_KindAt p_k p_kind) < 0)) 8)
end Go.Proofs.YtigenjanhebbeaaGreatDoor
