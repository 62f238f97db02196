/- The Go functions as plain Lean functions, by program. -/
import Derived.Test.YtmngaaffadcccaaGreatDoorBase
namespace Go.Proofs.YtmngaaffadcccaaGreatDoor
open Go
structure Gtumbmake_Stream where
  L : List Int
  at_ : Int
  deriving DecidableEq, Inhabited
structure GRace where
  Key : ByteArray
  Metres : Int
  Stroke : Int
  Course : Int
  Legs : Int
  Sex : Int
  Young : Int
  Old : Int
  deriving DecidableEq, Inhabited
structure GSwimmer where
  Key : ByteArray
  Sex : Int
  Born : Int
  deriving DecidableEq, Inhabited
structure GMove where
  Who : ByteArray
  Club : ByteArray
  Day : Int
  deriving DecidableEq, Inhabited
structure GBounds where
  Races : Int
  Club : Int
  Age : Int
  Day : Int
  deriving DecidableEq, Inhabited
structure GSquad where
  Key : ByteArray
  Club : ByteArray
  Race : ByteArray
  Who : List ByteArray
  deriving DecidableEq, Inhabited
structure GDate where
  Year : Int
  Month : Int
  Day : Int
  deriving DecidableEq, Inhabited
structure GLeg where
  Who : ByteArray
  Times : List Int
  deriving DecidableEq, Inhabited
structure Gswimmer_crew where
  l_ : List GLeg
  bound_ : Int
  now_ : List ByteArray
  names_ : List ByteArray
  sum_ : Int
  found_ : Bool
  deriving DecidableEq, Inhabited
def k_empty : ByteArray := ⟨#[]⟩
def k_ra : ByteArray := ⟨#[114, 97]⟩
def k_rb : ByteArray := ⟨#[114, 98]⟩
def k_rc : ByteArray := ⟨#[114, 99]⟩
def k_ann : ByteArray := ⟨#[97, 110, 110]⟩
def k_bea : ByteArray := ⟨#[98, 101, 97]⟩
def k_cid : ByteArray := ⟨#[99, 105, 100]⟩
def k_dan : ByteArray := ⟨#[100, 97, 110]⟩
def k_eve : ByteArray := ⟨#[101, 118, 101]⟩
def k_fox : ByteArray := ⟨#[102, 111, 120]⟩
def k_blue : ByteArray := ⟨#[98, 108, 117, 101]⟩
def k_red : ByteArray := ⟨#[114, 101, 100]⟩
def k_A : ByteArray := ⟨#[65]⟩
def k_ka : ByteArray := ⟨#[107, 97]⟩
def k_kb : ByteArray := ⟨#[107, 98]⟩
def k_rz : ByteArray := ⟨#[114, 122]⟩
def k_zed : ByteArray := ⟨#[122, 101, 100]⟩
def k_abcdefghijkl_h0e2e2c : ByteArray := ⟨#[97, 98, 99, 100, 101, 102, 103, 104, 105, 106, 107, 108, 109, 110, 111, 112, 113, 114, 115, 116, 117, 118, 119, 120, 121, 122, 48, 49, 50, 51, 52, 53, 54, 55, 56, 57, 45, 95]⟩
def k_race : ByteArray := ⟨#[114, 97, 99, 101]⟩
def k_who : ByteArray := ⟨#[119, 104, 111]⟩
def k_club : ByteArray := ⟨#[99, 108, 117, 98]⟩
def k_sex : ByteArray := ⟨#[115, 101, 120]⟩
def k_age : ByteArray := ⟨#[97, 103, 101]⟩
def k_abcdefghijklmnopqrstuvwxyz : ByteArray := ⟨#[97, 98, 99, 100, 101, 102, 103, 104, 105, 106, 107, 108, 109, 110, 111, 112, 113, 114, 115, 116, 117, 118, 119, 120, 121, 122]⟩
def k_aa : ByteArray := ⟨#[97, 97]⟩
def k_bb : ByteArray := ⟨#[98, 98]⟩
def k_cc : ByteArray := ⟨#[99, 99]⟩
def k_xa : ByteArray := ⟨#[120, 97]⟩
def k_xb : ByteArray := ⟨#[120, 98]⟩
def k_xc : ByteArray := ⟨#[120, 99]⟩
def k_x : ByteArray := ⟨#[120]⟩
def tumbmake_Below (p_x : Int) (p_n : Int) : Option Int :=
  if decide (p_n < 1) then
  some 0
  else
  Chk (!decide (p_n = 0)) (
  Join (fun (x1 : Int) =>
  some x1) (fun j1 =>
  if decide ((Int.tmod p_x p_n) < 0) then
  j1 (W ((Int.tmod p_x p_n) + p_n))
  else
  j1 (Int.tmod p_x p_n)))
def Stream_Next (p_s_L : List Int) (p_s_at : Int) (p_n : Int) : Option (Int × Int) :=
  if decide ((p_s_L.length : Int) = 0) then
  Option.bind (tumbmake_Below (W ((W (p_s_at + 1)) * 7919)) p_n) (fun r1 =>
  some (r1, W (p_s_at + 1)))
  else
  Chk (!decide ((p_s_L.length : Int) = 0)) (
  Chk (!decide ((p_s_L.length : Int) = 0)) (
  Chk (inB (Int.tmod (W ((W (p_s_at + 1)) - 1)) (p_s_L.length : Int)) p_s_L.length) (
  Option.bind (tumbmake_Below (nth p_s_L (Int.tmod (W ((W (p_s_at + 1)) - 1)) (p_s_L.length : Int))) 1073741824) (fun r2 =>
  Option.bind (tumbmake_Below (W (r2 + (W ((W (Int.tdiv (W ((W (p_s_at + 1)) - 1)) (p_s_L.length : Int))) * (W (7919 + (Int.tmod (W ((W (p_s_at + 1)) - 1)) (p_s_L.length : Int)))))))) p_n) (fun r3 =>
  some (r3, W (p_s_at + 1)))))))
def Stream_Flip (p_s_L : List Int) (p_s_at : Int) (p_n : Int) : Option (Bool × Int) :=
  Option.bind (Stream_Next p_s_L p_s_at p_n) (fun r1 =>
  some (decide (r1.1 = 0), r1.2))
def Stream_Pick (p_s_L : List Int) (p_s_at : Int) (p_l : List Int) : Option (Int × Int) :=
  Option.bind (Stream_Next p_s_L p_s_at (p_l.length : Int)) (fun r1 =>
  Chk (inB r1.1 p_l.length) (
  some ((nth p_l r1.1), r1.2)))
def Stream_MeetRace (p_s_L : List Int) (p_s_at : Int) (p_key : ByteArray) : Option (GRace × Int) :=
  Option.bind (Stream_Pick p_s_L p_s_at [50, 100, 200]) (fun r1 =>
  Option.bind (Stream_Pick p_s_L r1.2 [1, 2, 3, 4]) (fun r2 =>
  Option.bind (Stream_Pick p_s_L r2.2 [25, 50]) (fun r3 =>
  Option.bind (Stream_Pick p_s_L r3.2 [1, 1, 1, 4]) (fun r4 =>
  Option.bind (Stream_Pick p_s_L r4.2 [0, 1, 2]) (fun r5 =>
  Option.bind (Stream_Pick p_s_L r5.2 [0, 0, 5, 10]) (fun r6 =>
  Option.bind (Stream_Pick p_s_L r6.2 [0, 5, 90]) (fun r7 =>
  some ((GRace.mk p_key r1.1 r2.1 r3.1 r4.1 r5.1 r6.1 (W (r6.1 + r7.1))), r7.2))))))))
def Stream_MeetRaces_l1 (p_s_L : List Int) (j1 : (List GRace) → Int → Option ((List GRace) × Int)) : List ByteArray → Nat → (List GRace) → Int → Option ((List GRace) × Int)
  | [], _, x1, x2 => j1 x1 x2
  | y1 :: ys1, i1, x1, x2 => Join (fun (x3 : List GRace) (x4 : Int) =>
  Stream_MeetRaces_l1 p_s_L j1 ys1 (i1 + 1) x3 x4) (fun j2 =>
  Option.bind (Stream_Flip p_s_L x2 6) (fun r1 =>
  Join (fun (x5 : List GRace) (x6 : Int) =>
  j2 x5 x6) (fun j3 =>
  if !r1.1 then
  Option.bind (Stream_MeetRace p_s_L r1.2 y1) (fun r2 =>
  Chk (room x1.length) (
  j3 (x1 ++ [r2.1]) r2.2))
  else
  j3 x1 r1.2)))
def Stream_MeetRaces (p_s_L : List Int) (p_s_at : Int) : Option ((List GRace) × Int) :=
  Join (fun (x1 : List GRace) (x2 : Int) =>
  some (x1, x2)) (fun j1 =>
  Stream_MeetRaces_l1 p_s_L j1 ([k_ra, k_rb, k_rc] : List ByteArray) 0 ([] : List GRace) p_s_at)
def Stream_Some (p_s_L : List Int) (p_s_at : Int) (p_l : List ByteArray) : Option (ByteArray × Int) :=
  Option.bind (Stream_Next p_s_L p_s_at (p_l.length : Int)) (fun r1 =>
  Chk (inB r1.1 p_l.length) (
  some ((nth p_l r1.1), r1.2)))
def Stream_Range (p_s_L : List Int) (p_s_at : Int) (p_low : Int) (p_high : Int) : Option (Int × Int) :=
  if decide (p_high < p_low) then
  some (p_low, p_s_at)
  else
  Option.bind (Stream_Next p_s_L p_s_at (W ((W (p_high - p_low)) + 1))) (fun r1 =>
  some (W (p_low + r1.1), r1.2))
def Stream_Odd (p_s_L : List Int) (p_s_at : Int) (p_low : Int) (p_high : Int) : Option (Int × Int) :=
  Option.bind (Stream_Flip p_s_L p_s_at 12) (fun r1 =>
  if r1.1 then
  Option.bind (Stream_Pick p_s_L r1.2 [W (p_low - 1), W (p_high + 1), p_low, p_high, (-1099511627776), 1099511627776]) (fun r2 =>
  some (r2.1, r2.2))
  else
  Option.bind (Stream_Range p_s_L r1.2 p_low p_high) (fun r3 =>
  some (r3.1, r3.2)))
def Stream_SpoiltRaces (p_s_L : List Int) (p_s_at : Int) : Option ((List GRace) × Int) :=
  Option.bind (Stream_MeetRaces p_s_L p_s_at) (fun r1 =>
  Join (fun (x1 : Int) (x2 : Bool) =>
  Join (fun (x3 : List GRace) (x4 : Int) =>
  some (x3, x4)) (fun j2 =>
  if x2 then
  Option.bind (Stream_Next p_s_L x1 (r1.1.length : Int)) (fun r3 =>
  Chk (inB r3.1 r1.1.length) (
  Option.bind (Stream_Some p_s_L r3.2 [(nth r1.1 r3.1).Key, k_empty, k_ra]) (fun r4 =>
  Option.bind (Stream_Odd p_s_L r4.2 1 4) (fun r5 =>
  Option.bind (Stream_Pick p_s_L r5.2 [25, 50, 33]) (fun r6 =>
  Option.bind (Stream_Pick p_s_L r6.2 [0, 1, 2, 3]) (fun r7 =>
  j2 ((((r1.1.set r3.1.toNat (GRace.mk r4.1 ((nth r1.1 r3.1).Metres) ((nth r1.1 r3.1).Stroke) ((nth r1.1 r3.1).Course) ((nth r1.1 r3.1).Legs) ((nth r1.1 r3.1).Sex) ((nth r1.1 r3.1).Young) ((nth r1.1 r3.1).Old))).set r3.1.toNat (GRace.mk r4.1 ((nth r1.1 r3.1).Metres) ((nth r1.1 r3.1).Stroke) ((nth r1.1 r3.1).Course) r5.1 ((nth r1.1 r3.1).Sex) ((nth r1.1 r3.1).Young) ((nth r1.1 r3.1).Old))).set r3.1.toNat (GRace.mk r4.1 ((nth r1.1 r3.1).Metres) ((nth r1.1 r3.1).Stroke) r6.1 r5.1 ((nth r1.1 r3.1).Sex) ((nth r1.1 r3.1).Young) ((nth r1.1 r3.1).Old))).set r3.1.toNat (GRace.mk r4.1 ((nth r1.1 r3.1).Metres) ((nth r1.1 r3.1).Stroke) r6.1 r5.1 r7.1 ((nth r1.1 r3.1).Young) ((nth r1.1 r3.1).Old))) r7.2))))))
  else
  j2 r1.1 x1)) (fun j1 =>
  if (decide (0 < (r1.1.length : Int))) then
  Option.bind (Stream_Flip p_s_L r1.2 12) (fun r2 =>
  j1 r2.2 r2.1)
  else
  j1 r1.2 false))
def Stream_RightSwimmers_l1 (p_s_L : List Int) (j1 : (List GSwimmer) → Int → Option ((List GSwimmer) × Int)) : List ByteArray → Nat → (List GSwimmer) → Int → Option ((List GSwimmer) × Int)
  | [], _, x1, x2 => j1 x1 x2
  | y1 :: ys1, i1, x1, x2 => Join (fun (x3 : List GSwimmer) (x4 : Int) =>
  Stream_RightSwimmers_l1 p_s_L j1 ys1 (i1 + 1) x3 x4) (fun j2 =>
  Option.bind (Stream_Flip p_s_L x2 8) (fun r1 =>
  if r1.1 then
  j2 x1 r1.2
  else
  Option.bind (Stream_Pick p_s_L r1.2 [1, 2]) (fun r2 =>
  Option.bind (Stream_Pick p_s_L r2.2 [59, 0, (-1), (-307), (-3653), (-5000), 365, 1520]) (fun r3 =>
  Chk (room x1.length) (
  j2 (x1 ++ [(GSwimmer.mk y1 r2.1 r3.1)]) r3.2)))))
def Stream_RightSwimmers (p_s_L : List Int) (p_s_at : Int) : Option ((List GSwimmer) × Int) :=
  Join (fun (x1 : List GSwimmer) (x2 : Int) =>
  some (x1, x2)) (fun j1 =>
  Stream_RightSwimmers_l1 p_s_L j1 ([k_ann, k_bea, k_cid, k_dan, k_eve, k_fox] : List ByteArray) 0 ([] : List GSwimmer) p_s_at)
def Stream_Swimmers (p_s_L : List Int) (p_s_at : Int) : Option ((List GSwimmer) × Int) :=
  Option.bind (Stream_RightSwimmers p_s_L p_s_at) (fun r1 =>
  Join (fun (x1 : Int) (x2 : Bool) =>
  Join (fun (x3 : List GSwimmer) (x4 : Int) =>
  some (x3, x4)) (fun j2 =>
  if x2 then
  Option.bind (Stream_Next p_s_L x1 (r1.1.length : Int)) (fun r3 =>
  Chk (inB r3.1 r1.1.length) (
  Option.bind (Stream_Some p_s_L r3.2 [(nth r1.1 r3.1).Key, k_empty, k_ann]) (fun r4 =>
  Option.bind (Stream_Pick p_s_L r4.2 [0, 1, 2, 3]) (fun r5 =>
  Option.bind (Stream_Odd p_s_L r5.2 (-40000) 4000) (fun r6 =>
  j2 (((r1.1.set r3.1.toNat (GSwimmer.mk r4.1 ((nth r1.1 r3.1).Sex) ((nth r1.1 r3.1).Born))).set r3.1.toNat (GSwimmer.mk r4.1 r5.1 ((nth r1.1 r3.1).Born))).set r3.1.toNat (GSwimmer.mk r4.1 r5.1 r6.1)) r6.2)))))
  else
  j2 r1.1 x1)) (fun j1 =>
  if (decide (0 < (r1.1.length : Int))) then
  Option.bind (Stream_Flip p_s_L r1.2 12) (fun r2 =>
  j1 r2.2 r2.1)
  else
  j1 r1.2 false))
def Stream_RightMoves_l2 (r2 : Int × Int) (p_s_L : List Int) (y1 : ByteArray) (j2 : (List GMove) → Int → Option ((List GMove) × Int)) : Nat → (List GMove) → Int → Int → ByteArray → Int → Option ((List GMove) × Int)
  | 0, _, _, _, _, _ => none
  | m1 + 1, x3, x4, x5, x6, x7 => if decide (x7 < r2.1) then
  Join (fun (x8 : List GMove) (x9 : Int) (x10 : Int) (x11 : ByteArray) =>
  Stream_RightMoves_l2 r2 p_s_L y1 j2 m1 x8 x9 x10 x11 (W (x7 + 1))) (fun j3 =>
  Option.bind (Stream_Some p_s_L x4 [k_blue, k_blue, k_red, k_empty]) (fun r3 =>
  if decide (r3.1 = x6) then
  j3 x3 r3.2 x5 x6
  else
  Chk (room x3.length) (
  Option.bind (Stream_Pick p_s_L r3.2 [1, 30, 365]) (fun r4 =>
  j3 (x3 ++ [(GMove.mk y1 r3.1 x5)]) r4.2 (W (x5 + r4.1)) r3.1))))
  else
  j2 x3 x4
def Stream_RightMoves_l1 (p_s_L : List Int) (j1 : (List GMove) → Int → Option ((List GMove) × Int)) : List ByteArray → Nat → (List GMove) → Int → Option ((List GMove) × Int)
  | [], _, x1, x2 => j1 x1 x2
  | y1 :: ys1, i1, x1, x2 => Option.bind (Stream_Pick p_s_L x2 [(-100), 0, 50]) (fun r1 =>
  Option.bind (Stream_Range p_s_L r1.2 0 3) (fun r2 =>
  Join (fun (x3 : List GMove) (x4 : Int) =>
  Stream_RightMoves_l1 p_s_L j1 ys1 (i1 + 1) x3 x4) (fun j2 =>
  Stream_RightMoves_l2 r2 p_s_L y1 j2 ((r2.1 - 0).toNat + 2) x1 r2.2 r1.1 k_empty 0)))
def Stream_RightMoves (p_s_L : List Int) (p_s_at : Int) : Option ((List GMove) × Int) :=
  Join (fun (x1 : List GMove) (x2 : Int) =>
  some (x1, x2)) (fun j1 =>
  Stream_RightMoves_l1 p_s_L j1 ([k_ann, k_bea, k_cid, k_dan, k_eve] : List ByteArray) 0 ([] : List GMove) p_s_at)
def Stream_Moves (p_s_L : List Int) (p_s_at : Int) : Option ((List GMove) × Int) :=
  Option.bind (Stream_RightMoves p_s_L p_s_at) (fun r1 =>
  Join (fun (x1 : Int) (x2 : Bool) =>
  Join (fun (x3 : List GMove) (x4 : Int) =>
  some (x3, x4)) (fun j2 =>
  if x2 then
  Option.bind (Stream_Next p_s_L x1 (r1.1.length : Int)) (fun r3 =>
  Chk (inB r3.1 r1.1.length) (
  Join (fun (x5 : List GMove) (x6 : Int) =>
  j2 x5 x6) (fun j3 =>
  Option.bind (Stream_Some p_s_L r3.2 [(nth r1.1 r3.1).Who, k_empty, k_ann]) (fun r4 =>
  Option.bind (Stream_Some p_s_L r4.2 [(nth r1.1 r3.1).Club, k_A, k_blue, k_empty]) (fun r5 =>
  Option.bind (Stream_Odd p_s_L r5.2 (-100) 400) (fun r6 =>
  j3 (((r1.1.set r3.1.toNat (GMove.mk r4.1 ((nth r1.1 r3.1).Club) ((nth r1.1 r3.1).Day))).set r3.1.toNat (GMove.mk r4.1 r5.1 ((nth r1.1 r3.1).Day))).set r3.1.toNat (GMove.mk r4.1 r5.1 r6.1)) r6.2))))))
  else
  j2 r1.1 x1)) (fun j1 =>
  if (decide (0 < (r1.1.length : Int))) then
  Option.bind (Stream_Flip p_s_L r1.2 12) (fun r2 =>
  j1 r2.2 r2.1)
  else
  j1 r1.2 false))
def Stream_Bounds (p_s_L : List Int) (p_s_at : Int) : Option (GBounds × Int) :=
  Option.bind (Stream_Pick p_s_L p_s_at [0, 1, 2, 5]) (fun r1 =>
  Option.bind (Stream_Pick p_s_L r1.2 [0, 1, 2, 9]) (fun r2 =>
  Option.bind (Stream_Pick p_s_L r2.2 [1, 2]) (fun r3 =>
  Option.bind (Stream_Pick p_s_L r3.2 [60, 425, 1000, 1600, 4000]) (fun r4 =>
  Option.bind (Stream_Flip p_s_L r4.2 15) (fun r5 =>
  Join (fun (x1 : Int) (x2 : Int) (x3 : Int) (x4 : Int) (x5 : Int) =>
  some ((GBounds.mk x1 x2 x3 x4), x5)) (fun j1 =>
  if r5.1 then
  Option.bind (Stream_Odd p_s_L r5.2 0 100) (fun r6 =>
  Option.bind (Stream_Odd p_s_L r6.2 0 1500) (fun r7 =>
  Option.bind (Stream_Odd p_s_L r7.2 1 2) (fun r8 =>
  Option.bind (Stream_Odd p_s_L r8.2 (-40000) 4000) (fun r9 =>
  j1 r6.1 r7.1 r8.1 r9.1 r9.2))))
  else
  j1 r1.1 r2.1 r3.1 r4.1 r5.2))))))
def Stream_Order_l1 (p_n : Int) (j1 : (List Int) → Option ((List Int) × Int)) : Nat → (List Int) → Int → Option ((List Int) × Int)
  | 0, _, _ => none
  | m1 + 1, x1, x2 => if decide (x2 < p_n) then
  Chk (room x1.length) (
  Stream_Order_l1 p_n j1 m1 (x1 ++ [x2]) (W (x2 + 1)))
  else
  j1 x1
def Stream_Order_l2 (p_s_L : List Int) (j2 : (List Int) → Int → Option ((List Int) × Int)) : Nat → (List Int) → Int → Int → Option ((List Int) × Int)
  | 0, _, _, _ => none
  | m2 + 1, x3, x4, x5 => if decide (0 < x5) then
  Option.bind (Stream_Next p_s_L x4 (W (x5 + 1))) (fun r1 =>
  Chk (inB r1.1 x3.length) (
  Chk (inB x5 x3.length) (
  Chk (inB x5 x3.length) (
  Chk (inB r1.1 (x3.set x5.toNat (nth x3 r1.1)).length) (
  Stream_Order_l2 p_s_L j2 m2 ((x3.set x5.toNat (nth x3 r1.1)).set r1.1.toNat (nth x3 x5)) r1.2 (W (x5 - 1)))))))
  else
  j2 x3 x4
def Stream_Order (p_s_L : List Int) (p_s_at : Int) (p_n : Int) : Option ((List Int) × Int) :=
  Join (fun (x1 : List Int) =>
  Join (fun (x3 : List Int) (x4 : Int) =>
  some (x3, x4)) (fun j2 =>
  Stream_Order_l2 p_s_L j2 (((W (p_n - 1)) - 0).toNat + 2) x1 p_s_at (W (p_n - 1)))) (fun j1 =>
  Stream_Order_l1 p_n j1 ((p_n - 0).toNat + 2) ([] : List Int) 0)
def Stream_Squad_l1 (j1 : (List ByteArray) → Option (GSquad × Int)) : List Int → Nat → (List ByteArray) → Option (GSquad × Int)
  | [], _, x1 => j1 x1
  | y1 :: ys1, i1, x1 => Chk (inB y1 ([k_ann, k_bea, k_cid, k_dan, k_eve, k_fox] : List ByteArray).length) (
  Chk (room x1.length) (
  Stream_Squad_l1 j1 ys1 (i1 + 1) (x1 ++ [(nth ([k_ann, k_bea, k_cid, k_dan, k_eve, k_fox] : List ByteArray) y1)])))
def Stream_Squad (p_s_L : List Int) (p_s_at : Int) : Option (GSquad × Int) :=
  Option.bind (Stream_Some p_s_L p_s_at [k_ka, k_kb]) (fun r1 =>
  Option.bind (Stream_Some p_s_L r1.2 [k_blue, k_blue, k_red]) (fun r2 =>
  Option.bind (Stream_Some p_s_L r2.2 [k_ra, k_rb, k_rc, k_rz]) (fun r3 =>
  Option.bind (Stream_Order p_s_L r3.2 (([k_ann, k_bea, k_cid, k_dan, k_eve, k_fox] : List ByteArray).length : Int)) (fun r4 =>
  Chk (cutB 0 4 r4.1.length) (
  Join (fun (x1 : List ByteArray) =>
  Option.bind (Stream_Flip p_s_L r4.2 12) (fun r5 =>
  Join (fun (x2 : List ByteArray) (x3 : ByteArray) (x4 : ByteArray) (x5 : Int) =>
  some ((GSquad.mk x3 x4 r3.1 x2), x5)) (fun j2 =>
  if r5.1 then
  Join (fun (x6 : ByteArray) (x7 : ByteArray) (x8 : Int) =>
  Join (fun (x9 : List ByteArray) (x10 : Int) =>
  j2 x9 x6 x7 x10) (fun j4 =>
  Option.bind (Stream_Range p_s_L x8 2 4) (fun r8 =>
  Chk (cutB 0 r8.1 x1.length) (
  Option.bind (Stream_Some p_s_L r8.2 [k_ann, k_empty, k_zed]) (fun r9 =>
  Chk (room (cut x1 (0 : Int) r8.1).length) (
  j4 ((cut x1 (0 : Int) r8.1) ++ [r9.1]) r9.2)))))) (fun j3 =>
  Option.bind (Stream_Some p_s_L r5.2 [r1.1, k_empty]) (fun r6 =>
  Option.bind (Stream_Some p_s_L r6.2 [r2.1, k_empty, k_A]) (fun r7 =>
  j3 r6.1 r7.1 r7.2)))
  else
  j2 x1 r1.1 r2.1 r5.2))) (fun j1 =>
  Stream_Squad_l1 j1 (cut r4.1 0 4) 0 ([] : List ByteArray)))))))
def Stream_OneClub_l1 (j1 : (List GMove) → Option (List GMove)) : List ByteArray → Nat → (List GMove) → Option (List GMove)
  | [], _, x1 => j1 x1
  | y1 :: ys1, i1, x1 => Chk (room x1.length) (
  Stream_OneClub_l1 j1 ys1 (i1 + 1) (x1 ++ [(GMove.mk y1 k_blue 0)]))
def Stream_OneClub (p_s_L : List Int) (p_s_at : Int) : Option (List GMove) :=
  Join (fun (x1 : List GMove) =>
  some x1) (fun j1 =>
  Stream_OneClub_l1 j1 ([k_ann, k_bea, k_cid, k_dan, k_eve, k_fox] : List ByteArray) 0 ([] : List GMove))
def strings_Trim (s c : ByteArray) : Option ByteArray :=
  Chk (decide (s.size ≤ 9223372036854775807)) (Chk (decide (c.size < 4294967281)) (Chk (c.data.toList.all fun b => decide (b.toNat < 128)) (some ⟨(Lib.trimS s.data.toList c.data.toList).toArray⟩)))
def words_IsKey (p_s : ByteArray) : Option Bool :=
  Join (fun (c1 : Bool) =>
  Join (fun (c2 : Bool) =>
  Join (fun (c3 : Bool) =>
  some c3) (fun j3 =>
  if c2 then Option.bind (strings_Trim p_s k_abcdefghijkl_h0e2e2c) (fun r1 =>
  j3 (c2 && (decide (r1 = k_empty)))) else j3 (c2 && true))) (fun j2 =>
  if c1 then Chk (inB 0 p_s.size) (
  j2 (c1 && (decide ((sbyte p_s 0) ≤ 122)))) else j2 (c1 && true))) (fun j1 =>
  if ((decide (1 ≤ (p_s.size : Int))) && (decide ((p_s.size : Int) ≤ 40))) then Chk (inB 0 p_s.size) (
  j1 (((decide (1 ≤ (p_s.size : Int))) && (decide ((p_s.size : Int) ≤ 40))) && (decide (97 ≤ (sbyte p_s 0))))) else j1 (((decide (1 ≤ (p_s.size : Int))) && (decide ((p_s.size : Int) ≤ 40))) && true))
def words_Within (p_n : Int) (p_low : Int) (p_high : Int) : Bool :=
  ((decide (p_low ≤ p_n)) && (decide (p_n ≤ p_high)))
def timing_CheckRace (p_r : GRace) : Option Int :=
  Option.bind (words_IsKey p_r.Key) (fun r1 =>
  if !r1 then
  some 5
  else
  if ((!(words_Within p_r.Stroke 1 5)) || (!(words_Within p_r.Sex 0 2))) then
  some 4
  else
  if (((((((!decide (p_r.Course = 25)) && (!decide (p_r.Course = 50))) || (!(words_Within p_r.Legs 1 4))) || (!(words_Within p_r.Metres 25 1500))) || (decide (p_r.Young < 0))) || (decide (p_r.Old < p_r.Young))) || (decide (120 < p_r.Old))) then
  some 1
  else
  Chk (!decide (p_r.Course = 0)) (
  if !decide ((Int.tmod p_r.Metres p_r.Course) = 0) then
  some 3
  else
  Join (fun (c1 : Bool) =>
  Join (fun (x1 : Bool) =>
  if x1 then
  some 16
  else
  some 0) (fun j2 =>
  if c1 then
  j2 c1
  else
  j2 (((decide (p_r.Stroke = 5)) && (decide (1 < p_r.Legs))) && (!decide (p_r.Legs = 4))))) (fun j1 =>
  if ((decide (p_r.Stroke = 5)) && (decide (p_r.Legs = 1))) then Chk (!decide ((W (4 * p_r.Course)) = 0)) (
  j1 (((decide (p_r.Stroke = 5)) && (decide (p_r.Legs = 1))) && (!decide ((Int.tmod p_r.Metres (W (4 * p_r.Course))) = 0)))) else j1 (((decide (p_r.Stroke = 5)) && (decide (p_r.Legs = 1))) && true))))
def swimmer_checkRaces_l1 (p_r : List GRace) (j1 : Option Int) : List GRace → Nat → Option Int
  | [], _ => j1
  | y1 :: ys1, i1 => Option.bind (timing_CheckRace y1) (fun r1 =>
  if !decide (r1 = 0) then
  some r1
  else
  Join (fun (c1 : Bool) =>
  if c1 then
  some 7
  else
  swimmer_checkRaces_l1 p_r j1 ys1 (i1 + 1)) (fun j2 =>
  if (decide (0 < (i1 : Int))) then Chk (inB (W ((i1 : Int) - 1)) p_r.length) (
  j2 ((decide (0 < (i1 : Int))) && (Sless y1.Key ((nth p_r (W ((i1 : Int) - 1))).Key) || decide (y1.Key = ((nth p_r (W ((i1 : Int) - 1))).Key))))) else j2 ((decide (0 < (i1 : Int))) && true)))
def swimmer_checkRaces (p_r : List GRace) : Option Int :=
  if decide (100 < (p_r.length : Int)) then
  some 2
  else
  Join (some 0) (fun j1 =>
  swimmer_checkRaces_l1 p_r j1 p_r 0)
def swimmer_isDay (p_n : Int) : Bool :=
  (words_Within p_n (-40000) 4000)
def swimmer_CheckSwimmers_l1 (p_l : List GSwimmer) (j1 : Option Int) : List GSwimmer → Nat → Option Int
  | [], _ => j1
  | y1 :: ys1, i1 => Option.bind (words_IsKey y1.Key) (fun r1 =>
  if !r1 then
  some 5
  else
  Join (fun (c1 : Bool) =>
  if c1 then
  some 7
  else
  if (((!decide (y1.Sex = 1)) && (!decide (y1.Sex = 2))) || (!(swimmer_isDay y1.Born))) then
  some 1
  else
  swimmer_CheckSwimmers_l1 p_l j1 ys1 (i1 + 1)) (fun j2 =>
  if (decide (0 < (i1 : Int))) then Chk (inB (W ((i1 : Int) - 1)) p_l.length) (
  j2 ((decide (0 < (i1 : Int))) && (Sless y1.Key ((nth p_l (W ((i1 : Int) - 1))).Key) || decide (y1.Key = ((nth p_l (W ((i1 : Int) - 1))).Key))))) else j2 ((decide (0 < (i1 : Int))) && true)))
def swimmer_CheckSwimmers (p_l : List GSwimmer) : Option Int :=
  if decide (500 < (p_l.length : Int)) then
  some 2
  else
  Join (some 0) (fun j1 =>
  swimmer_CheckSwimmers_l1 p_l j1 p_l 0)
def strings_Compare (s t : ByteArray) : Int := Lib.compareBytes s.data.toList t.data.toList
def cmp_isNaN_int (p_x : Int) : Bool :=
  !decide (p_x = p_x)
def cmp_Compare_int (p_x : Int) (p_y : Int) : Int :=
  if (cmp_isNaN_int p_x) then
  if (cmp_isNaN_int p_y) then
  0
  else
  (-1)
  else
  if (cmp_isNaN_int p_y) then
  1
  else
  if decide (p_x < p_y) then
  (-1)
  else
  if decide (p_y < p_x) then
  1
  else
  0
def cmp_Or_int_l1 (j1 : Int) : List Int → Nat → Int
  | [], _ => j1
  | y1 :: ys1, i1 => if !decide (y1 = 0) then
  y1
  else
  cmp_Or_int_l1 j1 ys1 (i1 + 1)
def cmp_Or_int (p_vals : List Int) : Int :=
  Join (0) (fun j1 =>
  cmp_Or_int_l1 j1 p_vals 0)
def swimmer_CheckMoves_l1 (p_l : List GMove) (j1 : Option Int) : List GMove → Nat → Option Int
  | [], _ => j1
  | y1 :: ys1, i1 => Join (fun (c1 : Bool) =>
  Option.bind (words_IsKey y1.Who) (fun r1 =>
  Join (fun (c2 : Bool) =>
  if c2 then
  some 5
  else
  if !(swimmer_isDay y1.Day) then
  some 1
  else
  Join (fun (x1 : Bool) =>
  if x1 then
  some 7
  else
  Join (fun (x2 : Bool) =>
  if x2 then
  some 3
  else
  swimmer_CheckMoves_l1 p_l j1 ys1 (i1 + 1)) (fun j6 =>
  if (c1 && (decide (y1.Club = k_empty))) then
  j6 (c1 && (decide (y1.Club = k_empty)))
  else
  Join (fun (c4 : Bool) =>
  j6 c4) (fun j7 =>
  if (!c1) then Chk (inB (W ((i1 : Int) - 1)) p_l.length) (
  j7 ((!c1) && (decide (((nth p_l (W ((i1 : Int) - 1))).Club) = y1.Club)))) else j7 ((!c1) && true)))) (fun j5 =>
  if decide (0 < (i1 : Int)) then
  Chk (inB (W ((i1 : Int) - 1)) p_l.length) (
  Chk (inB (W ((i1 : Int) - 1)) p_l.length) (
  j5 (decide (0 ≤ (cmp_Or_int [(strings_Compare ((nth p_l (W ((i1 : Int) - 1))).Who) y1.Who), (cmp_Compare_int ((nth p_l (W ((i1 : Int) - 1))).Day) y1.Day)])))))
  else
  j5 false)) (fun j3 =>
  if (!r1) then j3 ((!r1) || true) else Join (fun (c3 : Bool) =>
  j3 ((!r1) || c3)) (fun j4 =>
  if (!decide (y1.Club = k_empty)) then Option.bind (words_IsKey y1.Club) (fun r2 =>
  j4 ((!decide (y1.Club = k_empty)) && (!r2))) else j4 ((!decide (y1.Club = k_empty)) && true))))) (fun j2 =>
  if (decide ((i1 : Int) = 0)) then j2 ((decide ((i1 : Int) = 0)) || true) else Chk (inB (W ((i1 : Int) - 1)) p_l.length) (
  j2 ((decide ((i1 : Int) = 0)) || (!decide (((nth p_l (W ((i1 : Int) - 1))).Who) = y1.Who)))))
def swimmer_CheckMoves (p_l : List GMove) : Option Int :=
  if decide (1000 < (p_l.length : Int)) then
  some 2
  else
  Join (some 0) (fun j1 =>
  swimmer_CheckMoves_l1 p_l j1 p_l 0)
def swimmer_isWay (p_n : Int) : Bool :=
  ((decide (p_n = 1)) || (decide (p_n = 2)))
def swimmer_checkBounds (p_b : GBounds) : Int :=
  if ((!(words_Within p_b.Races 0 100)) || (!(words_Within p_b.Club 0 1500))) then
  1
  else
  if !(swimmer_isWay p_b.Age) then
  4
  else
  if !(swimmer_isDay p_b.Day) then
  1
  else
  0
def swimmer_checkMeet (p_r : List GRace) (p_s : List GSwimmer) (p_m : List GMove) (p_b : GBounds) : Option Int :=
  Option.bind (swimmer_checkRaces p_r) (fun r1 =>
  if !decide (r1 = 0) then
  some r1
  else
  Option.bind (swimmer_CheckSwimmers p_s) (fun r2 =>
  if !decide (r2 = 0) then
  some r2
  else
  Option.bind (swimmer_CheckMoves p_m) (fun r3 =>
  if !decide (r3 = 0) then
  some r3
  else
  some (swimmer_checkBounds p_b))))
def slices_Index_string_l1 (p_v : ByteArray) (j1 : Int) : List ByteArray → Nat → Int
  | [], _ => j1
  | y1 :: ys1, i1 => if decide (p_v = y1) then
  (i1 : Int)
  else
  slices_Index_string_l1 p_v j1 ys1 (i1 + 1)
def slices_Index_string (p_s : List ByteArray) (p_v : ByteArray) : Int :=
  Join ((-1)) (fun j1 =>
  slices_Index_string_l1 p_v j1 p_s 0)
def slices_Contains_string (p_s : List ByteArray) (p_v : ByteArray) : Bool :=
  decide (0 ≤ (slices_Index_string p_s p_v))
def swimmer_CheckSquads_l2 (y1 : GSquad) (j5 : Option Int) : List ByteArray → Nat → Option Int
  | [], _ => j5
  | y2 :: ys2, i2 => Option.bind (words_IsKey y2) (fun r6 =>
  if !r6 then
  some 5
  else
  Chk (cutB 0 (i2 : Int) y1.Who.length) (
  if (slices_Contains_string (cut y1.Who 0 (i2 : Int)) y2) then
  some 6
  else
  swimmer_CheckSquads_l2 y1 j5 ys2 (i2 + 1)))
def swimmer_CheckSquads_l1 (p_l : List GSquad) (j1 : Option Int) : List GSquad → Nat → Option Int
  | [], _ => j1
  | y1 :: ys1, i1 => Option.bind (words_IsKey y1.Key) (fun r2 =>
  Join (fun (c1 : Bool) =>
  Join (fun (c2 : Bool) =>
  if c2 then
  some 5
  else
  Join (fun (c3 : Bool) =>
  if c3 then
  some 7
  else
  if !decide ((y1.Who.length : Int) = 4) then
  some 3
  else
  Join (swimmer_CheckSquads_l1 p_l j1 ys1 (i1 + 1)) (fun j5 =>
  swimmer_CheckSquads_l2 y1 j5 y1.Who 0)) (fun j4 =>
  if (decide (0 < (i1 : Int))) then Chk (inB (W ((i1 : Int) - 1)) p_l.length) (
  j4 ((decide (0 < (i1 : Int))) && (Sless y1.Key ((nth p_l (W ((i1 : Int) - 1))).Key) || decide (y1.Key = ((nth p_l (W ((i1 : Int) - 1))).Key))))) else j4 ((decide (0 < (i1 : Int))) && true))) (fun j3 =>
  if c1 then j3 (c1 || true) else Option.bind (words_IsKey y1.Race) (fun r4 =>
  j3 (c1 || (!r4))))) (fun j2 =>
  if (!r2) then j2 ((!r2) || true) else Option.bind (words_IsKey y1.Club) (fun r3 =>
  j2 ((!r2) || (!r3)))))
def swimmer_CheckSquads (p_l : List GSquad) : Option Int :=
  if decide (200 < (p_l.length : Int)) then
  some 2
  else
  Join (some 0) (fun j1 =>
  swimmer_CheckSquads_l1 p_l j1 p_l 0)
def swimmer_raceOf_c1 (p_x : GRace) (p_a1 : ByteArray) : Bool :=
  decide (p_x.Key = p_a1)
def slices_IndexFunc_Race_swimmer_raceOf_c1_l1 (p_f_0 : ByteArray) (j1 : Int) : List GRace → Nat → Int
  | [], _ => j1
  | y1 :: ys1, i1 => if (swimmer_raceOf_c1 y1 p_f_0) then
  (i1 : Int)
  else
  slices_IndexFunc_Race_swimmer_raceOf_c1_l1 p_f_0 j1 ys1 (i1 + 1)
def slices_IndexFunc_Race_swimmer_raceOf_c1 (p_s : List GRace) (p_f_0 : ByteArray) : Int :=
  Join ((-1)) (fun j1 =>
  slices_IndexFunc_Race_swimmer_raceOf_c1_l1 p_f_0 j1 p_s 0)
def swimmer_raceOf (p_r : List GRace) (p_key : ByteArray) : Option (GRace × Bool) :=
  if decide ((slices_IndexFunc_Race_swimmer_raceOf_c1 p_r p_key) < 0) then
  some ((GRace.mk k_empty 0 0 0 0 0 0 0), false)
  else
  Chk (inB (slices_IndexFunc_Race_swimmer_raceOf_c1 p_r p_key) p_r.length) (
  some ((nth p_r (slices_IndexFunc_Race_swimmer_raceOf_c1 p_r p_key)), true))
def swimmer_swimmerOf_c1 (p_x : GSwimmer) (p_a1 : ByteArray) (p_a2 : Int) : Bool :=
  ((decide (p_x.Key = p_a1)) && (decide (p_x.Born ≤ p_a2)))
def slices_IndexFunc_Swimmer_swimmer_swimmerOf_c1_l1 (p_f_0 : ByteArray) (p_f_1 : Int) (j1 : Int) : List GSwimmer → Nat → Int
  | [], _ => j1
  | y1 :: ys1, i1 => if (swimmer_swimmerOf_c1 y1 p_f_0 p_f_1) then
  (i1 : Int)
  else
  slices_IndexFunc_Swimmer_swimmer_swimmerOf_c1_l1 p_f_0 p_f_1 j1 ys1 (i1 + 1)
def slices_IndexFunc_Swimmer_swimmer_swimmerOf_c1 (p_s : List GSwimmer) (p_f_0 : ByteArray) (p_f_1 : Int) : Int :=
  Join ((-1)) (fun j1 =>
  slices_IndexFunc_Swimmer_swimmer_swimmerOf_c1_l1 p_f_0 p_f_1 j1 p_s 0)
def swimmer_swimmerOf (p_s : List GSwimmer) (p_key : ByteArray) (p_day : Int) : Option (GSwimmer × Bool) :=
  if decide ((slices_IndexFunc_Swimmer_swimmer_swimmerOf_c1 p_s p_key p_day) < 0) then
  some ((GSwimmer.mk k_empty 0 0), false)
  else
  Chk (inB (slices_IndexFunc_Swimmer_swimmer_swimmerOf_c1 p_s p_key p_day) p_s.length) (
  some ((nth p_s (slices_IndexFunc_Swimmer_swimmer_swimmerOf_c1 p_s p_key p_day)), true))
def swimmer_clubAt_l1 (p_who : ByteArray) (p_day : Int) (j1 : ByteArray → ByteArray) : List GMove → Nat → ByteArray → ByteArray
  | [], _, x1 => j1 x1
  | y1 :: ys1, i1, x1 => Join (fun (x2 : ByteArray) =>
  swimmer_clubAt_l1 p_who p_day j1 ys1 (i1 + 1) x2) (fun j2 =>
  Join (fun (x3 : ByteArray) =>
  j2 x3) (fun j3 =>
  if ((decide (y1.Who = p_who)) && (decide (y1.Day ≤ p_day))) then
  j3 y1.Club
  else
  j3 x1))
def swimmer_clubAt (p_l : List GMove) (p_who : ByteArray) (p_day : Int) : ByteArray :=
  Join (fun (x1 : ByteArray) =>
  x1) (fun j1 =>
  swimmer_clubAt_l1 p_who p_day j1 p_l 0 k_empty)
def swimmer_leap (p_year : Int) : Bool :=
  ((decide ((Int.tmod p_year 4) = 0)) && ((!decide ((Int.tmod p_year 100) = 0)) || (decide ((Int.tmod p_year 400) = 0))))
def swimmer_yearLong (p_year : Int) : Int :=
  if (swimmer_leap p_year) then
  366
  else
  365
def swimmer_long (p_year : Int) (p_month : Int) : Int :=
  if decide (p_month = 2) then
  if (swimmer_leap p_year) then
  29
  else
  28
  else
  Join (fun (x1 : Bool) =>
  if x1 then
  30
  else
  31) (fun j1 =>
  if decide (p_month = 4) then
  j1 (decide (p_month = 4))
  else
  Join (fun (x2 : Bool) =>
  j1 x2) (fun j2 =>
  if decide (p_month = 6) then
  j2 (decide (p_month = 6))
  else
  Join (fun (x3 : Bool) =>
  j2 x3) (fun j3 =>
  if decide (p_month = 9) then
  j3 (decide (p_month = 9))
  else
  j3 (decide (p_month = 11)))))
def swimmer_dateOf_l1 (j1 : Int → Int → Option GDate) : Nat → Int → Int → Option GDate
  | 0, _, _ => none
  | m1 + 1, x1, x2 => if decide (x2 < 0) then
  swimmer_dateOf_l1 j1 m1 (W (x1 - 1)) (W (x2 + (swimmer_yearLong (W (x1 - 1)))))
  else
  j1 x1 x2
def swimmer_dateOf_l2 (j2 : Int → Int → Option GDate) : Nat → Int → Int → Option GDate
  | 0, _, _ => none
  | m2 + 1, x3, x4 => if decide ((swimmer_yearLong x3) ≤ x4) then
  swimmer_dateOf_l2 j2 m2 (W (x3 + 1)) (W (x4 - (swimmer_yearLong x3)))
  else
  j2 x3 x4
def swimmer_dateOf_l3 (x3 : Int) (j3 : Int → Int → Option GDate) : Nat → Int → Int → Option GDate
  | 0, _, _ => none
  | m3 + 1, x5, x6 => if decide ((swimmer_long x3 x5) ≤ x6) then
  swimmer_dateOf_l3 x3 j3 m3 (W (x5 + 1)) (W (x6 - (swimmer_long x3 x5)))
  else
  j3 x5 x6
def swimmer_dateOf (p_day : Int) : Option GDate :=
  Join (fun (x1 : Int) (x2 : Int) =>
  Join (fun (x3 : Int) (x4 : Int) =>
  Join (fun (x5 : Int) (x6 : Int) =>
  some (GDate.mk x3 x5 (W (x6 + 1)))) (fun j3 =>
  swimmer_dateOf_l3 x3 j3 ((x4 - (swimmer_long x3 1)).toNat + 2) 1 x4)) (fun j2 =>
  swimmer_dateOf_l2 j2 ((x2 - (swimmer_yearLong x1)).toNat + 2) x1 x2)) (fun j1 =>
  swimmer_dateOf_l1 j1 ((0 - p_day).toNat + 2) 2024 p_day)
def swimmer_age (p_s : GSwimmer) (p_day : Int) (p_way : Int) : Option Int :=
  Option.bind (swimmer_dateOf p_s.Born) (fun r1 =>
  Option.bind (swimmer_dateOf p_day) (fun r2 =>
  Join (fun (x1 : Bool) =>
  Join (fun (x2 : Int) =>
  some x2) (fun j2 =>
  if x1 then
  j2 (W ((W (r2.Year - r1.Year)) - 1))
  else
  j2 (W (r2.Year - r1.Year)))) (fun j1 =>
  if decide (p_way = 1) then
  j1 (decide ((cmp_Or_int [(cmp_Compare_int r2.Month r1.Month), (cmp_Compare_int r2.Day r1.Day)]) < 0))
  else
  j1 false)))
def swimmer_Wrong_l1 (p_s : List GSwimmer) (p_b : GBounds) (j1 : (List GSwimmer) → Option (ByteArray × Int)) : List ByteArray → Nat → (List GSwimmer) → Option (ByteArray × Int)
  | [], _, x1 => j1 x1
  | y1 :: ys1, i1, x1 => Option.bind (swimmer_swimmerOf p_s y1 p_b.Day) (fun r4 =>
  if !r4.2 then
  some (k_who, 0)
  else
  Chk (room x1.length) (
  swimmer_Wrong_l1 p_s p_b j1 ys1 (i1 + 1) (x1 ++ [r4.1])))
def swimmer_Wrong_l2 (p_m : List GMove) (p_b : GBounds) (p_x : GSquad) (r3 : GRace × Bool) (j2 : Int → Bool → Bool → Option (ByteArray × Int)) : List GSwimmer → Nat → Int → Bool → Bool → Option (ByteArray × Int)
  | [], _, x2, x3, x4 => j2 x2 x3 x4
  | y2 :: ys2, i2, x2, x3, x4 => if !decide ((swimmer_clubAt p_m y2.Key p_b.Day) = p_x.Club) then
  some (k_club, 0)
  else
  Join (fun (x5 : Int) =>
  Join (fun (x6 : Bool) =>
  swimmer_Wrong_l2 p_m p_b p_x r3 j2 ys2 (i2 + 1) x5 (x3 || (!decide (y2.Sex = r3.1.Sex))) x6) (fun j4 =>
  if x4 then
  j4 true
  else
  Option.bind (swimmer_age y2 p_b.Day p_b.Age) (fun r5 =>
  j4 (!(words_Within r5 r3.1.Young r3.1.Old))))) (fun j3 =>
  if decide (y2.Sex = 1) then
  j3 (W (x2 + 1))
  else
  j3 x2)
def swimmer_Wrong (p_r : List GRace) (p_s : List GSwimmer) (p_m : List GMove) (p_b : GBounds) (p_x : GSquad) : Option (ByteArray × Int) :=
  Option.bind (swimmer_checkMeet p_r p_s p_m p_b) (fun r1 =>
  if !decide (r1 = 0) then
  some (k_empty, r1)
  else
  Option.bind (swimmer_CheckSquads ([p_x] : List GSquad)) (fun r2 =>
  if !decide (r2 = 0) then
  some (k_empty, r2)
  else
  Option.bind (swimmer_raceOf p_r p_x.Race) (fun r3 =>
  if ((!r3.2) || (!decide (r3.1.Legs = 4))) then
  some (k_race, 0)
  else
  Join (fun (x1 : List GSwimmer) =>
  Join (fun (x2 : Int) (x3 : Bool) (x4 : Bool) =>
  Join (fun (x7 : Bool) =>
  if x7 then
  some (k_sex, 0)
  else
  if x4 then
  some (k_age, 0)
  else
  some (k_empty, 0)) (fun j5 =>
  if ((!decide (r3.1.Sex = 0)) && x3) then
  j5 ((!decide (r3.1.Sex = 0)) && x3)
  else
  j5 ((decide (r3.1.Sex = 0)) && (!decide (x2 = 2))))) (fun j2 =>
  swimmer_Wrong_l2 p_m p_b p_x r3 j2 x1 0 0 false false)) (fun j1 =>
  swimmer_Wrong_l1 p_s p_b j1 p_x.Who 0 ([] : List GSwimmer)))))
def tumbref1_in (p_n : Int) (p_low : Int) (p_high : Int) : Bool :=
  ((decide (p_low ≤ p_n)) && (decide (p_n ≤ p_high)))
def strings_IndexByte (s : ByteArray) (c : Int) : Int := Lib.indexByte s.data.toList c.toNat.toUInt8
def tumbref1_Key (p_s : ByteArray) : Option Bool :=
  Join (fun (c1 : Bool) =>
  Join (fun (c2 : Bool) =>
  some c2) (fun j2 =>
  if c1 then Chk (inB 0 p_s.size) (
  j2 (c1 && (decide (0 ≤ (strings_IndexByte k_abcdefghijklmnopqrstuvwxyz (sbyte p_s 0)))))) else j2 (c1 && true))) (fun j1 =>
  if (tumbref1_in (p_s.size : Int) 1 40) then Option.bind (strings_Trim p_s k_abcdefghijkl_h0e2e2c) (fun r1 =>
  j1 ((tumbref1_in (p_s.size : Int) 1 40) && (decide (r1 = k_empty)))) else j1 ((tumbref1_in (p_s.size : Int) 1 40) && true))
def tumbref1_RaceFault (p_r : GRace) : Option Int :=
  Option.bind (tumbref1_Key p_r.Key) (fun r1 =>
  if !r1 then
  some 5
  else
  if ((!(tumbref1_in p_r.Stroke 1 5)) || (!(tumbref1_in p_r.Sex 0 2))) then
  some 4
  else
  Join (fun (x1 : Bool) =>
  if x1 then
  some 1
  else
  Chk (!decide (p_r.Course = 0)) (
  if !decide ((Int.tmod p_r.Metres p_r.Course) = 0) then
  some 3
  else
  Join (fun (c1 : Bool) =>
  if c1 then
  some 16
  else
  some 0) (fun j5 =>
  if (decide (p_r.Stroke = 5)) then Join (fun (c2 : Bool) =>
  j5 ((decide (p_r.Stroke = 5)) && (c2 || ((decide (1 < p_r.Legs)) && (!decide (p_r.Legs = 4)))))) (fun j6 =>
  if (decide (p_r.Legs = 1)) then Chk (!decide ((W (4 * p_r.Course)) = 0)) (
  j6 ((decide (p_r.Legs = 1)) && (!decide ((Int.tmod p_r.Metres (W (4 * p_r.Course))) = 0)))) else j6 ((decide (p_r.Legs = 1)) && true)) else j5 ((decide (p_r.Stroke = 5)) && true)))) (fun j1 =>
  if ((!decide (p_r.Course = 25)) && (!decide (p_r.Course = 50))) then
  j1 ((!decide (p_r.Course = 25)) && (!decide (p_r.Course = 50)))
  else
  Join (fun (x2 : Bool) =>
  j1 x2) (fun j2 =>
  if !(tumbref1_in p_r.Legs 1 4) then
  j2 (!(tumbref1_in p_r.Legs 1 4))
  else
  Join (fun (x3 : Bool) =>
  j2 x3) (fun j3 =>
  if !(tumbref1_in p_r.Metres 25 1500) then
  j3 (!(tumbref1_in p_r.Metres 25 1500))
  else
  Join (fun (x4 : Bool) =>
  j3 x4) (fun j4 =>
  if !(tumbref1_in p_r.Young 0 p_r.Old) then
  j4 (!(tumbref1_in p_r.Young 0 p_r.Old))
  else
  j4 (decide (120 < p_r.Old)))))))
def tumblaw2_racesFault_l1 (p_l : List GRace) (j1 : Option Int) : List GRace → Nat → Option Int
  | [], _ => j1
  | y1 :: ys1, i1 => Option.bind (tumbref1_RaceFault y1) (fun r1 =>
  if !decide (r1 = 0) then
  some r1
  else
  Join (fun (c1 : Bool) =>
  if c1 then
  some 7
  else
  tumblaw2_racesFault_l1 p_l j1 ys1 (i1 + 1)) (fun j2 =>
  if (decide (0 < (i1 : Int))) then Chk (inB (W ((i1 : Int) - 1)) p_l.length) (
  j2 ((decide (0 < (i1 : Int))) && (Sless y1.Key ((nth p_l (W ((i1 : Int) - 1))).Key) || decide (y1.Key = ((nth p_l (W ((i1 : Int) - 1))).Key))))) else j2 ((decide (0 < (i1 : Int))) && true)))
def tumblaw2_racesFault (p_l : List GRace) : Option Int :=
  if decide (100 < (p_l.length : Int)) then
  some 2
  else
  Join (some 0) (fun j1 =>
  tumblaw2_racesFault_l1 p_l j1 p_l 0)
def tumbref2_in (p_n : Int) (p_low : Int) (p_high : Int) : Bool :=
  ((decide (p_low ≤ p_n)) && (decide (p_n ≤ p_high)))
def tumbref2_only_l1 (p_s : ByteArray) (p_some : ByteArray) (j1 : Option Bool) : Nat → Int → Option Bool
  | 0, _ => none
  | m1 + 1, x1 => if decide (x1 < (p_s.size : Int)) then
  Chk (inB x1 p_s.size) (
  if decide ((strings_IndexByte p_some (sbyte p_s x1)) < 0) then
  some false
  else
  tumbref2_only_l1 p_s p_some j1 m1 (W (x1 + 1)))
  else
  j1
def tumbref2_only (p_s : ByteArray) (p_some : ByteArray) : Option Bool :=
  Join (some true) (fun j1 =>
  tumbref2_only_l1 p_s p_some j1 (((p_s.size : Int) - 0).toNat + 2) 0)
def tumbref2_Key (p_s : ByteArray) : Option Bool :=
  Join (fun (c1 : Bool) =>
  Join (fun (c2 : Bool) =>
  some c2) (fun j2 =>
  if c1 then Option.bind (tumbref2_only p_s k_abcdefghijkl_h0e2e2c) (fun r2 =>
  j2 (c1 && r2)) else j2 (c1 && true))) (fun j1 =>
  if (tumbref2_in (p_s.size : Int) 1 40) then Chk (cutB 0 1 p_s.size) (
  Option.bind (tumbref2_only (scut p_s 0 1) k_abcdefghijklmnopqrstuvwxyz) (fun r1 =>
  j1 ((tumbref2_in (p_s.size : Int) 1 40) && r1))) else j1 ((tumbref2_in (p_s.size : Int) 1 40) && true))
def tumbref2_Day (p_n : Int) : Bool :=
  (tumbref2_in p_n (-40000) 4000)
def tumbref2_SwimmersFault_l1 (j1 : Option Int) : List GSwimmer → Nat → ByteArray → Option Int
  | [], _, _ => j1
  | y1 :: ys1, i1, x1 => Option.bind (tumbref2_Key y1.Key) (fun r1 =>
  if !r1 then
  some 5
  else
  if (Sless y1.Key x1 || decide (y1.Key = x1)) then
  some 7
  else
  if ((!(tumbref2_in y1.Sex 1 2)) || (!(tumbref2_Day y1.Born))) then
  some 1
  else
  tumbref2_SwimmersFault_l1 j1 ys1 (i1 + 1) y1.Key)
def tumbref2_SwimmersFault (p_l : List GSwimmer) : Option Int :=
  if decide (500 < (p_l.length : Int)) then
  some 2
  else
  Join (some 0) (fun j1 =>
  tumbref2_SwimmersFault_l1 j1 p_l 0 k_empty)
def tumbref2_sign (p_n : Int) : Int :=
  if decide (p_n < 0) then
  (-1)
  else
  if decide (0 < p_n) then
  1
  else
  0
def tumbref2_moveOrder (p_a : GMove) (p_b : GMove) : Int :=
  if !decide ((strings_Compare p_a.Who p_b.Who) = 0) then
  (strings_Compare p_a.Who p_b.Who)
  else
  (tumbref2_sign (W (p_a.Day - p_b.Day)))
def tumbref2_MovesFault_l1 (p_l : List GMove) (j1 : Option Int) : List GMove → Nat → Option Int
  | [], _ => j1
  | y1 :: ys1, i1 => Option.bind (tumbref2_Key y1.Who) (fun r1 =>
  Join (fun (c1 : Bool) =>
  if c1 then
  some 5
  else
  if !(tumbref2_Day y1.Day) then
  some 1
  else
  Join (fun (x1 : Bool) =>
  if x1 then
  some 7
  else
  Join (fun (c3 : Bool) =>
  Join (fun (x2 : ByteArray) =>
  if decide (y1.Club = x2) then
  some 3
  else
  tumbref2_MovesFault_l1 p_l j1 ys1 (i1 + 1)) (fun j6 =>
  if c3 then
  Chk (inB (W ((i1 : Int) - 1)) p_l.length) (
  j6 ((nth p_l (W ((i1 : Int) - 1))).Club))
  else
  j6 k_empty)) (fun j5 =>
  if (decide (0 < (i1 : Int))) then Chk (inB (W ((i1 : Int) - 1)) p_l.length) (
  j5 ((decide (0 < (i1 : Int))) && (decide (((nth p_l (W ((i1 : Int) - 1))).Who) = y1.Who)))) else j5 ((decide (0 < (i1 : Int))) && true))) (fun j4 =>
  if decide (0 < (i1 : Int)) then
  Chk (inB (W ((i1 : Int) - 1)) p_l.length) (
  j4 (decide (0 ≤ (tumbref2_moveOrder (nth p_l (W ((i1 : Int) - 1))) y1))))
  else
  j4 false)) (fun j2 =>
  if (!r1) then j2 ((!r1) || true) else Join (fun (c2 : Bool) =>
  j2 ((!r1) || c2)) (fun j3 =>
  if (!decide (y1.Club = k_empty)) then Option.bind (tumbref2_Key y1.Club) (fun r2 =>
  j3 ((!decide (y1.Club = k_empty)) && (!r2))) else j3 ((!decide (y1.Club = k_empty)) && true))))
def tumbref2_MovesFault (p_l : List GMove) : Option Int :=
  if decide (1000 < (p_l.length : Int)) then
  some 2
  else
  Join (some 0) (fun j1 =>
  tumbref2_MovesFault_l1 p_l j1 p_l 0)
def tumbref2_BoundsFault (p_b : GBounds) : Int :=
  if ((!(tumbref2_in p_b.Races 0 100)) || (!(tumbref2_in p_b.Club 0 1500))) then
  1
  else
  if !(tumbref2_in p_b.Age 1 2) then
  4
  else
  if !(tumbref2_Day p_b.Day) then
  1
  else
  0
def tumbref2_SquadsFault_l2 (y1 : GSquad) (j4 : Option Int) : List ByteArray → Nat → Option Int
  | [], _ => j4
  | y2 :: ys2, i2 => Option.bind (tumbref2_Key y2) (fun r5 =>
  if !r5 then
  some 5
  else
  Chk (cutB 0 (i2 : Int) y1.Who.length) (
  if (slices_Contains_string (cut y1.Who 0 (i2 : Int)) y2) then
  some 6
  else
  tumbref2_SquadsFault_l2 y1 j4 ys2 (i2 + 1)))
def tumbref2_SquadsFault_l1 (j1 : Option Int) : List GSquad → Nat → ByteArray → Option Int
  | [], _, _ => j1
  | y1 :: ys1, i1, x1 => Option.bind (tumbref2_Key y1.Key) (fun r2 =>
  Join (fun (c1 : Bool) =>
  Join (fun (c2 : Bool) =>
  if c2 then
  some 5
  else
  if (Sless y1.Key x1 || decide (y1.Key = x1)) then
  some 7
  else
  if !decide ((y1.Who.length : Int) = 4) then
  some 3
  else
  Join (tumbref2_SquadsFault_l1 j1 ys1 (i1 + 1) y1.Key) (fun j4 =>
  tumbref2_SquadsFault_l2 y1 j4 y1.Who 0)) (fun j3 =>
  if c1 then j3 (c1 || true) else Option.bind (tumbref2_Key y1.Race) (fun r4 =>
  j3 (c1 || (!r4))))) (fun j2 =>
  if (!r2) then j2 ((!r2) || true) else Option.bind (tumbref2_Key y1.Club) (fun r3 =>
  j2 ((!r2) || (!r3)))))
def tumbref2_SquadsFault (p_l : List GSquad) : Option Int :=
  if decide (200 < (p_l.length : Int)) then
  some 2
  else
  Join (some 0) (fun j1 =>
  tumbref2_SquadsFault_l1 j1 p_l 0 k_empty)
def tumblaw2_errs_l1 (j1 : Int) : List Int → Nat → Int
  | [], _ => j1
  | y1 :: ys1, i1 => if !decide (y1 = 0) then
  y1
  else
  tumblaw2_errs_l1 j1 ys1 (i1 + 1)
def tumblaw2_errs (p_l : List Int) : Int :=
  Join (0) (fun j1 =>
  tumblaw2_errs_l1 j1 p_l 0)
def tumbref2_raceOf_l1 (p_key : ByteArray) (j1 : (GRace × Bool)) : List GRace → Nat → (GRace × Bool)
  | [], _ => j1
  | y1 :: ys1, i1 => if decide (y1.Key = p_key) then
  (y1, true)
  else
  tumbref2_raceOf_l1 p_key j1 ys1 (i1 + 1)
def tumbref2_raceOf (p_l : List GRace) (p_key : ByteArray) : (GRace × Bool) :=
  Join (((GRace.mk k_empty 0 0 0 0 0 0 0), false)) (fun j1 =>
  tumbref2_raceOf_l1 p_key j1 p_l 0)
def tumbref2_swimmerOf_l1 (p_key : ByteArray) (j1 : (GSwimmer × Bool)) : List GSwimmer → Nat → (GSwimmer × Bool)
  | [], _ => j1
  | y1 :: ys1, i1 => if decide (y1.Key = p_key) then
  (y1, true)
  else
  tumbref2_swimmerOf_l1 p_key j1 ys1 (i1 + 1)
def tumbref2_swimmerOf (p_l : List GSwimmer) (p_key : ByteArray) : (GSwimmer × Bool) :=
  Join (((GSwimmer.mk k_empty 0 0), false)) (fun j1 =>
  tumbref2_swimmerOf_l1 p_key j1 p_l 0)
def tumbref2_ClubFor_l1 (p_who : ByteArray) (p_day : Int) (j1 : ByteArray → ByteArray) : List GMove → Nat → ByteArray → ByteArray
  | [], _, x1 => j1 x1
  | y1 :: ys1, i1, x1 => Join (fun (x2 : ByteArray) =>
  tumbref2_ClubFor_l1 p_who p_day j1 ys1 (i1 + 1) x2) (fun j2 =>
  Join (fun (x3 : ByteArray) =>
  j2 x3) (fun j3 =>
  if ((decide (y1.Who = p_who)) && (decide (y1.Day ≤ p_day))) then
  j3 y1.Club
  else
  j3 x1))
def tumbref2_ClubFor (p_l : List GMove) (p_who : ByteArray) (p_day : Int) : ByteArray :=
  Join (fun (x1 : ByteArray) =>
  x1) (fun j1 =>
  tumbref2_ClubFor_l1 p_who p_day j1 p_l 0 k_empty)
def tumbref2_pastDate : GDate :=
  (GDate.mk 1914 6 27)
def tumbref2_monthLong (p_y : Int) (p_m : Int) : Option Int :=
  if ((decide (p_m = 2)) && (((decide ((Int.tmod p_y 4) = 0)) && (!decide ((Int.tmod p_y 100) = 0))) || (decide ((Int.tmod p_y 400) = 0)))) then
  some 29
  else
  Chk (inB (W (p_m - 1)) ([31, 28, 31, 30, 31, 30, 31, 31, 30, 31, 30, 31] : List Int).length) (
  some (nth [31, 28, 31, 30, 31, 30, 31, 31, 30, 31, 30, 31] (W (p_m - 1))))
def tumbref2_next (p_d : GDate) : Option GDate :=
  Option.bind (tumbref2_monthLong p_d.Year p_d.Month) (fun r1 =>
  Join (fun (x1 : Int) (x2 : Int) (x3 : Int) =>
  some (GDate.mk x1 x2 x3)) (fun j1 =>
  if decide (r1 < (W (p_d.Day + 1))) then
  Join (fun (x4 : Int) (x5 : Int) =>
  j1 x4 x5 1) (fun j2 =>
  if decide (12 < (W (p_d.Month + 1))) then
  j2 (W (p_d.Year + 1)) 1
  else
  j2 p_d.Year (W (p_d.Month + 1)))
  else
  j1 p_d.Year p_d.Month (W (p_d.Day + 1))))
def tumbref2_DateFor_l1 (p_day : Int) (j1 : Int → Int → Int → Option GDate) : Nat → Int → Int → Int → Int → Option GDate
  | 0, _, _, _, _ => none
  | m1 + 1, x1, x2, x3, x4 => if decide (x4 < p_day) then
  Option.bind (tumbref2_monthLong x1 x2) (fun r1 =>
  Join (fun (x5 : Int) (x6 : Int) =>
  Option.bind (tumbref2_next (GDate.mk x1 x2 x5)) (fun r3 =>
  tumbref2_DateFor_l1 p_day j1 m1 r3.Year r3.Month r3.Day x6)) (fun j2 =>
  if decide ((W ((W (x4 + (W (r1 - x3)))) + 1)) ≤ p_day) then
  Option.bind (tumbref2_monthLong x1 x2) (fun r2 =>
  j2 r2 (W (x4 + (W ((W (r1 - x3)) + 1)))))
  else
  j2 (W (x3 + (W ((W (p_day - x4)) - 1)))) p_day))
  else
  j1 x1 x2 x3
def tumbref2_DateFor (p_day : Int) : Option GDate :=
  Join (fun (x1 : Int) (x2 : Int) (x3 : Int) =>
  some (GDate.mk x1 x2 x3)) (fun j1 =>
  tumbref2_DateFor_l1 p_day j1 ((p_day - (-40000)).toNat + 2) tumbref2_pastDate.Year tumbref2_pastDate.Month tumbref2_pastDate.Day (-40000))
def slices_Compare_int_l1 (p_s2 : List Int) (j1 : Option Int) : List Int → Nat → Option Int
  | [], _ => j1
  | y1 :: ys1, i1 => if decide ((p_s2.length : Int) ≤ (i1 : Int)) then
  some 1
  else
  Chk (inB (i1 : Int) p_s2.length) (
  if !decide ((cmp_Compare_int y1 (nth p_s2 (i1 : Int))) = 0) then
  some (cmp_Compare_int y1 (nth p_s2 (i1 : Int)))
  else
  slices_Compare_int_l1 p_s2 j1 ys1 (i1 + 1))
def slices_Compare_int (p_s1 : List Int) (p_s2 : List Int) : Option Int :=
  Join (if decide ((p_s1.length : Int) < (p_s2.length : Int)) then
  some (-1)
  else
  some 0) (fun j1 =>
  slices_Compare_int_l1 p_s2 j1 p_s1 0)
def tumbref2_dateOrder (p_a : GDate) (p_b : GDate) : Option Int :=
  Option.bind (slices_Compare_int [p_a.Year, p_a.Month, p_a.Day] [p_b.Year, p_b.Month, p_b.Day]) (fun r1 =>
  some r1)
def tumbref2_AgeFor_l1 (r1 : GDate) (r2 : GDate) (j1 : Int → Option Int) : Nat → Int → Int → Option Int
  | 0, _, _ => none
  | m1 + 1, x1, x2 => Option.bind (tumbref2_dateOrder (GDate.mk x2 r1.Month r1.Day) r2) (fun r3 =>
  if decide (r3 ≤ 0) then
  tumbref2_AgeFor_l1 r1 r2 j1 m1 (W (x1 + 1)) (W (x2 + 1))
  else
  j1 x1)
def tumbref2_AgeFor (p_s : GSwimmer) (p_day : Int) (p_way : Int) : Option Int :=
  Option.bind (tumbref2_DateFor p_s.Born) (fun r1 =>
  Option.bind (tumbref2_DateFor p_day) (fun r2 =>
  if decide (p_way = 2) then
  some (W (r2.Year - r1.Year))
  else
  Join (fun (x1 : Int) =>
  some x1) (fun j1 =>
  tumbref2_AgeFor_l1 r1 r2 j1 4611686018427387904 0 (W (r1.Year + 1)))))
def tumbref2_WrongOf_l1 (p_s : List GSwimmer) (p_b : GBounds) (p_r : List GRace) (p_x : GSquad) (p_m : List GMove) (j1 : Bool → Bool → Bool → Bool → Int → Option ByteArray) : List ByteArray → Nat → Bool → Bool → Bool → Bool → Int → Option ByteArray
  | [], _, x1, x2, x3, x4, x5 => j1 x1 x2 x3 x4 x5
  | y1 :: ys1, i1, x1, x2, x3, x4, x5 => Join (fun (x6 : Bool) (x7 : Bool) (x8 : Bool) (x9 : Bool) (x10 : Int) =>
  tumbref2_WrongOf_l1 p_s p_b p_r p_x p_m j1 ys1 (i1 + 1) x6 x7 x8 x9 x10) (fun j2 =>
  if ((!((tumbref2_swimmerOf p_s y1).2)) || (decide (p_b.Day < (((tumbref2_swimmerOf p_s y1).1).Born)))) then
  j2 true x2 x3 x4 x5
  else
  Join (fun (x11 : Bool) =>
  Join (fun (x12 : Bool) =>
  Join (fun (x13 : Int) =>
  j2 x1 x11 (x3 || ((!decide ((((tumbref2_raceOf p_r p_x.Race).1).Sex) = 0)) && (!decide ((((tumbref2_swimmerOf p_s y1).1).Sex) = (((tumbref2_raceOf p_r p_x.Race).1).Sex))))) x12 x13) (fun j5 =>
  if decide ((((tumbref2_swimmerOf p_s y1).1).Sex) = 1) then
  j5 (W (x5 + 1))
  else
  j5 x5)) (fun j4 =>
  if x4 then
  j4 true
  else
  Option.bind (tumbref2_AgeFor ((tumbref2_swimmerOf p_s y1).1) p_b.Day p_b.Age) (fun r1 =>
  j4 (!(tumbref2_in r1 (((tumbref2_raceOf p_r p_x.Race).1).Young) (((tumbref2_raceOf p_r p_x.Race).1).Old)))))) (fun j3 =>
  if x2 then
  j3 true
  else
  j3 (!decide ((tumbref2_ClubFor p_m y1 p_b.Day) = p_x.Club))))
def tumbref2_WrongOf (p_r : List GRace) (p_s : List GSwimmer) (p_m : List GMove) (p_b : GBounds) (p_x : GSquad) : Option ByteArray :=
  if ((!((tumbref2_raceOf p_r p_x.Race).2)) || (!decide ((((tumbref2_raceOf p_r p_x.Race).1).Legs) = 4))) then
  some k_race
  else
  Join (fun (x1 : Bool) (x2 : Bool) (x3 : Bool) (x4 : Bool) (x5 : Int) =>
  if x1 then
  some k_who
  else
  if x2 then
  some k_club
  else
  if (x3 || ((decide ((((tumbref2_raceOf p_r p_x.Race).1).Sex) = 0)) && (!decide (x5 = 2)))) then
  some k_sex
  else
  if x4 then
  some k_age
  else
  some k_empty) (fun j1 =>
  tumbref2_WrongOf_l1 p_s p_b p_r p_x p_m j1 p_x.Who 0 false false false false 0)
def Stream_Legs_l2 (p_s_L : List Int) (j3 : (List Int) → Int → Option ((List GLeg) × Int)) : Nat → (List Int) → Int → Int → Option ((List GLeg) × Int)
  | 0, _, _, _ => none
  | m1 + 1, x5, x6, x7 => if decide (x7 < 4) then
  Option.bind (Stream_Pick p_s_L x6 [0, 10, 11, 12, 12, 13, 15]) (fun r2 =>
  Chk (room x5.length) (
  Stream_Legs_l2 p_s_L j3 m1 (x5 ++ [r2.1]) r2.2 (W (x7 + 1))))
  else
  j3 x5 x6
def Stream_Legs_l1 (p_s_L : List Int) (j1 : (List GLeg) → Int → Option ((List GLeg) × Int)) : List ByteArray → Nat → (List GLeg) → Int → Option ((List GLeg) × Int)
  | [], _, x1, x2 => j1 x1 x2
  | y1 :: ys1, i1, x1, x2 => Join (fun (x3 : List GLeg) (x4 : Int) =>
  Stream_Legs_l1 p_s_L j1 ys1 (i1 + 1) x3 x4) (fun j2 =>
  Option.bind (Stream_Flip p_s_L x2 6) (fun r1 =>
  if r1.1 then
  j2 x1 r1.2
  else
  Join (fun (x5 : List Int) (x6 : Int) =>
  Option.bind (Stream_Flip p_s_L x6 60) (fun r3 =>
  Join (fun (x8 : List Int) (x9 : ByteArray) (x10 : Int) =>
  Chk (room x1.length) (
  j2 (x1 ++ [(GLeg.mk x9 x8)]) x10)) (fun j4 =>
  if r3.1 then
  Option.bind (Stream_Some p_s_L r3.2 [y1, k_empty, k_aa]) (fun r4 =>
  Option.bind (Stream_Range p_s_L r4.2 3 4) (fun r5 =>
  Chk (cutB 0 r5.1 x5.length) (
  Option.bind (Stream_Odd p_s_L r5.2 0 20) (fun r6 =>
  Chk (inB 0 (cut x5 (0 : Int) r5.1).length) (
  j4 ((cut x5 (0 : Int) r5.1).set ((0 : Int).toNat) r6.1) r4.1 r6.2)))))
  else
  j4 x5 y1 r3.2))) (fun j3 =>
  Stream_Legs_l2 p_s_L j3 6 ([] : List Int) r1.2 0)))
def Stream_Legs (p_s_L : List Int) (p_s_at : Int) : Option ((List GLeg) × Int) :=
  Join (fun (x1 : List GLeg) (x2 : Int) =>
  some (x1, x2)) (fun j1 =>
  Stream_Legs_l1 p_s_L j1 ([k_aa, k_bb, k_cc, k_xa, k_xb, k_xc] : List ByteArray) 0 ([] : List GLeg) p_s_at)
def swimmer_CheckLegs_l2 (j3 : Option Int) : List Int → Nat → Option Int
  | [], _ => j3
  | y2 :: ys2, i2 => if !(words_Within y2 0 360000) then
  some 1
  else
  swimmer_CheckLegs_l2 j3 ys2 (i2 + 1)
def swimmer_CheckLegs_l1 (p_l : List GLeg) (j1 : Option Int) : List GLeg → Nat → Option Int
  | [], _ => j1
  | y1 :: ys1, i1 => Option.bind (words_IsKey y1.Who) (fun r2 =>
  if !r2 then
  some 5
  else
  Join (fun (c1 : Bool) =>
  if c1 then
  some 7
  else
  if !decide ((y1.Times.length : Int) = 4) then
  some 3
  else
  Join (swimmer_CheckLegs_l1 p_l j1 ys1 (i1 + 1)) (fun j3 =>
  swimmer_CheckLegs_l2 j3 y1.Times 0)) (fun j2 =>
  if (decide (0 < (i1 : Int))) then Chk (inB (W ((i1 : Int) - 1)) p_l.length) (
  j2 ((decide (0 < (i1 : Int))) && (Sless y1.Who ((nth p_l (W ((i1 : Int) - 1))).Who) || decide (y1.Who = ((nth p_l (W ((i1 : Int) - 1))).Who))))) else j2 ((decide (0 < (i1 : Int))) && true)))
def swimmer_CheckLegs (p_l : List GLeg) : Option Int :=
  if decide (12 < (p_l.length : Int)) then
  some 2
  else
  Join (some 0) (fun j1 =>
  swimmer_CheckLegs_l1 p_l j1 p_l 0)
def slices_Clone_string (p_s : List ByteArray) : Option (List ByteArray) :=
  Chk (decide ((([] : List ByteArray) : List ByteArray).length + p_s.length < 1073741824)) (
  some ((([] : List ByteArray) : List ByteArray) ++ p_s))
def stringslite_HasPrefix (p_s : ByteArray) (p_prefix : ByteArray) : Option Bool :=
  Join (fun (c1 : Bool) =>
  some c1) (fun j1 =>
  if (decide ((p_prefix.size : Int) ≤ (p_s.size : Int))) then Chk (cutB 0 (p_prefix.size : Int) p_s.size) (
  j1 ((decide ((p_prefix.size : Int) ≤ (p_s.size : Int))) && (decide ((scut p_s 0 (p_prefix.size : Int)) = p_prefix)))) else j1 ((decide ((p_prefix.size : Int) ≤ (p_s.size : Int))) && true))
def strings_HasPrefix (p_s : ByteArray) (p_prefix : ByteArray) : Option Bool :=
  Option.bind (stringslite_HasPrefix p_s p_prefix) (fun r1 =>
  some r1)
def crew_try_l1 (p_c_now : List ByteArray) (self : (List GLeg) → Int → (List ByteArray) → (List ByteArray) → Int → Bool → Int → Int → Option ((List ByteArray) × (List ByteArray) × Int × Bool)) (p_c_l : List GLeg) (p_c_bound : Int) (p_sum : Int) (p_guests : Int) (j2 : Int → Bool → (List ByteArray) → (List ByteArray) → Option ((List ByteArray) × (List ByteArray) × Int × Bool)) : List GLeg → Nat → Int → Bool → (List ByteArray) → (List ByteArray) → Option ((List ByteArray) × (List ByteArray) × Int × Bool)
  | [], _, x4, x5, x6, x7 => j2 x4 x5 x6 x7
  | y1 :: ys1, i1, x4, x5, x6, x7 => Join (fun (x8 : Int) (x9 : Bool) (x10 : List ByteArray) (x11 : List ByteArray) =>
  crew_try_l1 p_c_now self p_c_l p_c_bound p_sum p_guests j2 ys1 (i1 + 1) x8 x9 x10 x11) (fun j3 =>
  Option.bind (strings_HasPrefix y1.Who k_x) (fun r3 =>
  Join (fun (x12 : Int) =>
  Join (fun (x13 : Bool) =>
  if x13 then
  j3 x4 x5 x6 x7
  else
  Chk (room x6.length) (
  Chk (inB (p_c_now.length : Int) y1.Times.length) (
  Option.bind (self p_c_l p_c_bound (x6 ++ [y1.Who]) x7 x4 x5 x12 (W (p_sum + (nth y1.Times (p_c_now.length : Int))))) (fun r4 =>
  Chk (cutB 0 (p_c_now.length : Int) r4.1.length) (
  j3 r4.2.2.1 r4.2.2.2 (cut r4.1 (0 : Int) (p_c_now.length : Int)) r4.2.1))))) (fun j5 =>
  Chk (inB (p_c_now.length : Int) y1.Times.length) (
  if decide ((nth y1.Times (p_c_now.length : Int)) = 0) then
  if true then
  Chk (inB (p_c_now.length : Int) y1.Times.length) (
  j5 true)
  else
  j5 (slices_Contains_string x6 y1.Who)
  else
  if decide (0 < p_c_bound) then
  if decide (p_c_bound < x12) then
  Chk (inB (p_c_now.length : Int) y1.Times.length) (
  j5 true)
  else
  j5 (slices_Contains_string x6 y1.Who)
  else
  if false then
  Chk (inB (p_c_now.length : Int) y1.Times.length) (
  j5 true)
  else
  j5 (slices_Contains_string x6 y1.Who)))) (fun j4 =>
  if r3 then
  j4 (W (p_guests + 1))
  else
  j4 p_guests)))
def crew_try_s (self : (List GLeg) → Int → (List ByteArray) → (List ByteArray) → Int → Bool → Int → Int → Option ((List ByteArray) × (List ByteArray) × Int × Bool)) (p_c_l : List GLeg) (p_c_bound : Int) (p_c_now : List ByteArray) (p_c_names : List ByteArray) (p_c_sum : Int) (p_c_found : Bool) (p_guests : Int) (p_sum : Int) : Option ((List ByteArray) × (List ByteArray) × Int × Bool) :=
  if decide ((p_c_now.length : Int) = 4) then
  Join (fun (x1 : Int) (x2 : Bool) (x3 : List ByteArray) =>
  some (p_c_now, x3, x1, x2)) (fun j1 =>
  if ((!p_c_found) || (decide (p_sum < p_c_sum))) then
  Option.bind (slices_Clone_string p_c_now) (fun r1 =>
  j1 p_sum true r1)
  else
  j1 p_c_sum p_c_found p_c_names)
  else
  Join (fun (x4 : Int) (x5 : Bool) (x6 : List ByteArray) (x7 : List ByteArray) =>
  some (x6, x7, x4, x5)) (fun j2 =>
  crew_try_l1 p_c_now self p_c_l p_c_bound p_sum p_guests j2 p_c_l 0 p_c_sum p_c_found p_c_now p_c_names)
def crew_try : Nat → (List GLeg) → Int → (List ByteArray) → (List ByteArray) → Int → Bool → Int → Int → Option ((List ByteArray) × (List ByteArray) × Int × Bool)
  | 0, _, _, _, _, _, _, _, _ => none
  | m + 1, p_c_l, p_c_bound, p_c_now, p_c_names, p_c_sum, p_c_found, p_guests, p_sum => crew_try_s (crew_try m) p_c_l p_c_bound p_c_now p_c_names p_c_sum p_c_found p_guests p_sum
def swimmer_Fastest (p_l : List GLeg) (p_b : Int) : Option ((List ByteArray) × Int × Bool × Int) :=
  Option.bind (swimmer_CheckLegs p_l) (fun r1 =>
  if !decide (r1 = 0) then
  some (([] : List ByteArray), 0, false, r1)
  else
  if !(words_Within p_b 0 4) then
  some (([] : List ByteArray), 0, false, 1)
  else
  Option.bind (crew_try 16 p_l p_b ([] : List ByteArray) ([] : List ByteArray) 0 false 0 0) (fun r2 =>
  some (r2.2.1, r2.2.2.1, r2.2.2.2, 0)))
def tumbref2_LegsFault_c1 (p_t : Int) : Bool :=
  !(tumbref2_in p_t 0 360000)
def slices_IndexFunc_int_tumbref2_LegsFault_c1_l1 (j1 : Int) : List Int → Nat → Int
  | [], _ => j1
  | y1 :: ys1, i1 => if (tumbref2_LegsFault_c1 y1) then
  (i1 : Int)
  else
  slices_IndexFunc_int_tumbref2_LegsFault_c1_l1 j1 ys1 (i1 + 1)
def slices_IndexFunc_int_tumbref2_LegsFault_c1 (p_s : List Int) : Int :=
  Join ((-1)) (fun j1 =>
  slices_IndexFunc_int_tumbref2_LegsFault_c1_l1 j1 p_s 0)
def slices_ContainsFunc_int_tumbref2_LegsFault_c1 (p_s : List Int) : Bool :=
  decide (0 ≤ (slices_IndexFunc_int_tumbref2_LegsFault_c1 p_s))
def tumbref2_LegsFault_l1 (j1 : Option Int) : List GLeg → Nat → ByteArray → Option Int
  | [], _, _ => j1
  | y1 :: ys1, i1, x1 => Option.bind (tumbref2_Key y1.Who) (fun r2 =>
  if !r2 then
  some 5
  else
  if (Sless y1.Who x1 || decide (y1.Who = x1)) then
  some 7
  else
  if !decide ((y1.Times.length : Int) = 4) then
  some 3
  else
  if (slices_ContainsFunc_int_tumbref2_LegsFault_c1 y1.Times) then
  some 1
  else
  tumbref2_LegsFault_l1 j1 ys1 (i1 + 1) y1.Who)
def tumbref2_LegsFault (p_l : List GLeg) : Option Int :=
  if decide (12 < (p_l.length : Int)) then
  some 2
  else
  Join (some 0) (fun j1 =>
  tumbref2_LegsFault_l1 j1 p_l 0 k_empty)
def tumblaw2_when (p_is : Bool) (p_e : Int) : Int :=
  if p_is then
  p_e
  else
  0
def cmp_isNaN_string (p_x : ByteArray) : Bool :=
  !decide (p_x = p_x)
def cmp_Compare_string (p_x : ByteArray) (p_y : ByteArray) : Int :=
  if (cmp_isNaN_string p_x) then
  if (cmp_isNaN_string p_y) then
  0
  else
  (-1)
  else
  if (cmp_isNaN_string p_y) then
  1
  else
  if Sless p_x p_y then
  (-1)
  else
  if !(Sless p_x p_y || decide (p_x = p_y)) then
  1
  else
  0
def slices_Compare_string_l1 (p_s2 : List ByteArray) (j1 : Option Int) : List ByteArray → Nat → Option Int
  | [], _ => j1
  | y1 :: ys1, i1 => if decide ((p_s2.length : Int) ≤ (i1 : Int)) then
  some 1
  else
  Chk (inB (i1 : Int) p_s2.length) (
  if !decide ((cmp_Compare_string y1 (nth p_s2 (i1 : Int))) = 0) then
  some (cmp_Compare_string y1 (nth p_s2 (i1 : Int)))
  else
  slices_Compare_string_l1 p_s2 j1 ys1 (i1 + 1))
def slices_Compare_string (p_s1 : List ByteArray) (p_s2 : List ByteArray) : Option Int :=
  Join (if decide ((p_s1.length : Int) < (p_s2.length : Int)) then
  some (-1)
  else
  some 0) (fun j1 =>
  slices_Compare_string_l1 p_s2 j1 p_s1 0)
def tumbref2_FastestOf_c1_l1 (p_who : List ByteArray) (self : (List ByteArray) → Int → Int → Int → (List ByteArray) → Int → (List GLeg) → Option ((List ByteArray) × Int)) (p_sum : Int) (p_a3 : Int) (p_a6 : List GLeg) (p_few : Int) (j4 : (List ByteArray) → Int → Option ((List ByteArray) × Int)) : List GLeg → Nat → (List ByteArray) → Int → Option ((List ByteArray) × Int)
  | [], _, x3, x4 => j4 x3 x4
  | y1 :: ys1, i1, x3, x4 => Join (fun (x5 : List ByteArray) (x6 : Int) =>
  tumbref2_FastestOf_c1_l1 p_who self p_sum p_a3 p_a6 p_few j4 ys1 (i1 + 1) x5 x6) (fun j5 =>
  Chk (inB (p_who.length : Int) y1.Times.length) (
  if ((decide ((nth y1.Times (p_who.length : Int)) = 0)) || (slices_Contains_string p_who y1.Who)) then
  j5 x3 x4
  else
  Chk (inB 0 y1.Who.size) (
  Join (fun (x7 : Int) =>
  Join (fun (x8 : List ByteArray) (x9 : Int) =>
  j5 x8 x9) (fun j7 =>
  Option.bind (slices_Clone_string p_who) (fun r4 =>
  Chk (room r4.length) (
  Option.bind (self (r4 ++ [y1.Who]) (W (p_sum + (nth y1.Times (p_who.length : Int)))) x7 p_a3 x3 x4 p_a6) (fun r5 =>
  j7 r5.1 r5.2))))) (fun j6 =>
  if decide ((sbyte y1.Who 0) = 120) then
  j6 (W (p_few + 1))
  else
  j6 p_few))))
def tumbref2_FastestOf_c1_s (self : (List ByteArray) → Int → Int → Int → (List ByteArray) → Int → (List GLeg) → Option ((List ByteArray) × Int)) (p_who : List ByteArray) (p_sum : Int) (p_few : Int) (p_a3 : Int) (p_a4 : List ByteArray) (p_a5 : Int) (p_a6 : List GLeg) : Option ((List ByteArray) × Int) :=
  if ((decide (0 < p_a3)) && (decide (p_a3 < p_few))) then
  some (p_a4, p_a5)
  else
  if decide ((p_who.length : Int) = 4) then
  Join (fun (c1 : Bool) =>
  Join (fun (x1 : List ByteArray) (x2 : Int) =>
  some (x1, x2)) (fun j3 =>
  if c1 then
  Option.bind (slices_Clone_string p_who) (fun r2 =>
  Chk (!r2.isEmpty) (
  j3 r2 p_sum))
  else
  j3 p_a4 p_a5)) (fun j1 =>
  if (p_a4.isEmpty || (decide (p_sum < p_a5))) then j1 ((p_a4.isEmpty || (decide (p_sum < p_a5))) || true) else Join (fun (c2 : Bool) =>
  j1 ((p_a4.isEmpty || (decide (p_sum < p_a5))) || c2)) (fun j2 =>
  if (decide (p_sum = p_a5)) then Option.bind (slices_Compare_string p_who p_a4) (fun r1 =>
  j2 ((decide (p_sum = p_a5)) && (decide (r1 < 0)))) else j2 ((decide (p_sum = p_a5)) && true)))
  else
  Join (fun (x3 : List ByteArray) (x4 : Int) =>
  some (x3, x4)) (fun j4 =>
  tumbref2_FastestOf_c1_l1 p_who self p_sum p_a3 p_a6 p_few j4 p_a6 0 p_a4 p_a5)
def tumbref2_FastestOf_c1 : Nat → (List ByteArray) → Int → Int → Int → (List ByteArray) → Int → (List GLeg) → Option ((List ByteArray) × Int)
  | 0, _, _, _, _, _, _, _ => none
  | m + 1, p_who, p_sum, p_few, p_a3, p_a4, p_a5, p_a6 => tumbref2_FastestOf_c1_s (tumbref2_FastestOf_c1 m) p_who p_sum p_few p_a3 p_a4 p_a5 p_a6
def tumbref2_FastestOf (p_l : List GLeg) (p_b : Int) : Option ((List ByteArray) × Int × Bool) :=
  Option.bind (tumbref2_FastestOf_c1 16 ([] : List ByteArray) 0 0 p_b ([] : List ByteArray) 0 p_l) (fun r1 =>
  some (r1.1, r1.2, !r1.1.isEmpty))
def slices_Equal_string_l1 (p_s2 : List ByteArray) (j1 : Option Bool) : List ByteArray → Nat → Option Bool
  | [], _ => j1
  | y1 :: ys1, i1 => Chk (inB (i1 : Int) p_s2.length) (
  if !decide (y1 = (nth p_s2 (i1 : Int))) then
  some false
  else
  slices_Equal_string_l1 p_s2 j1 ys1 (i1 + 1))
def slices_Equal_string (p_s1 : List ByteArray) (p_s2 : List ByteArray) : Option Bool :=
  if !decide ((p_s1.length : Int) = (p_s2.length : Int)) then
  some false
  else
  Join (some true) (fun j1 =>
  slices_Equal_string_l1 p_s2 j1 p_s1 0)
def swimmer_DayOf_l1 (p_d : GDate) (j2 : Int → Option (Int × Int)) : Nat → Int → Int → Option (Int × Int)
  | 0, _, _ => none
  | m1 + 1, x2, x3 => if decide (x3 < p_d.Month) then
  swimmer_DayOf_l1 p_d j2 m1 (W (x2 + (swimmer_long p_d.Year x3))) (W (x3 + 1))
  else
  j2 x2
def swimmer_DayOf_l2 (p_d : GDate) (j3 : Int → Option (Int × Int)) : Nat → Int → Int → Option (Int × Int)
  | 0, _, _ => none
  | m2 + 1, x4, x5 => if decide (x5 < p_d.Year) then
  swimmer_DayOf_l2 p_d j3 m2 (W (x4 + (swimmer_yearLong x5))) (W (x5 + 1))
  else
  j3 x4
def swimmer_DayOf_l3 (j4 : Int → Option (Int × Int)) : Nat → Int → Int → Option (Int × Int)
  | 0, _, _ => none
  | m3 + 1, x6, x7 => if decide (x7 < 2024) then
  swimmer_DayOf_l3 j4 m3 (W (x6 - (swimmer_yearLong x7))) (W (x7 + 1))
  else
  j4 x6
def swimmer_DayOf (p_d : GDate) : Option (Int × Int) :=
  Join (fun (x1 : Bool) =>
  if x1 then
  some (0, 1)
  else
  Join (fun (x2 : Int) =>
  Join (fun (x4 : Int) =>
  Join (fun (x6 : Int) =>
  if !(swimmer_isDay x6) then
  some (0, 1)
  else
  some (x6, 0)) (fun j4 =>
  swimmer_DayOf_l3 j4 ((2024 - p_d.Year).toNat + 2) x4 p_d.Year)) (fun j3 =>
  swimmer_DayOf_l2 p_d j3 ((p_d.Year - 2024).toNat + 2) x2 2024)) (fun j2 =>
  swimmer_DayOf_l1 p_d j2 ((p_d.Month - 1).toNat + 2) (W (p_d.Day - 1)) 1)) (fun j1 =>
  if !(words_Within p_d.Year 1900 2100) then
  if true then
  j1 true
  else
  j1 (!(words_Within p_d.Day 1 (swimmer_long p_d.Year p_d.Month)))
  else
  if !(words_Within p_d.Month 1 12) then
  j1 true
  else
  j1 (!(words_Within p_d.Day 1 (swimmer_long p_d.Year p_d.Month))))
def tumblaw2_dated : Option Bool :=
  Option.bind (swimmer_DayOf (GDate.mk 2024 3 1)) (fun r1 =>
  some ((decide (r1.2 = 0)) && (decide (r1.1 = 60))))
def tumblaw2_RelaysMade_l1 (p_l : List Int) (j2 : (List GRace) → Int → Option Bool) : List GRace → Nat → (List GRace) → Int → Option Bool
  | [], _, x2, x3 => j2 x2 x3
  | _ :: ys1, i1, x2, x3 => Join (fun (x4 : List GRace) (x5 : Int) =>
  tumblaw2_RelaysMade_l1 p_l j2 ys1 (i1 + 1) x4 x5) (fun j3 =>
  Option.bind (Stream_Flip p_l x3 2) (fun r8 =>
  Join (fun (x6 : List GRace) (x7 : Int) =>
  j3 x6 x7) (fun j4 =>
  if r8.1 then
  Option.bind (Stream_Pick p_l r8.2 [99, 5]) (fun r9 =>
  Chk (inB (i1 : Int) x2.length) (
  Chk (inB (i1 : Int) (x2.set ((i1 : Int).toNat) (GRace.mk ((nth x2 (i1 : Int)).Key) ((nth x2 (i1 : Int)).Metres) ((nth x2 (i1 : Int)).Stroke) ((nth x2 (i1 : Int)).Course) 4 ((nth x2 (i1 : Int)).Sex) ((nth x2 (i1 : Int)).Young) ((nth x2 (i1 : Int)).Old))).length) (
  Join (fun (x8 : List GRace) =>
  Chk (inB (i1 : Int) x8.length) (
  j4 (x8.set ((i1 : Int).toNat) (GRace.mk ((nth x8 (i1 : Int)).Key) ((nth x8 (i1 : Int)).Metres) ((nth x8 (i1 : Int)).Stroke) ((nth x8 (i1 : Int)).Course) ((nth x8 (i1 : Int)).Legs) ((nth x8 (i1 : Int)).Sex) ((nth x8 (i1 : Int)).Young) r9.1)) r9.2)) (fun j5 =>
  j5 ((x2.set ((i1 : Int).toNat) (GRace.mk ((nth x2 (i1 : Int)).Key) ((nth x2 (i1 : Int)).Metres) ((nth x2 (i1 : Int)).Stroke) ((nth x2 (i1 : Int)).Course) 4 ((nth x2 (i1 : Int)).Sex) ((nth x2 (i1 : Int)).Young) ((nth x2 (i1 : Int)).Old))).set ((i1 : Int).toNat) (GRace.mk ((nth (x2.set ((i1 : Int).toNat) (GRace.mk ((nth x2 (i1 : Int)).Key) ((nth x2 (i1 : Int)).Metres) ((nth x2 (i1 : Int)).Stroke) ((nth x2 (i1 : Int)).Course) 4 ((nth x2 (i1 : Int)).Sex) ((nth x2 (i1 : Int)).Young) ((nth x2 (i1 : Int)).Old))) (i1 : Int)).Key) ((nth (x2.set ((i1 : Int).toNat) (GRace.mk ((nth x2 (i1 : Int)).Key) ((nth x2 (i1 : Int)).Metres) ((nth x2 (i1 : Int)).Stroke) ((nth x2 (i1 : Int)).Course) 4 ((nth x2 (i1 : Int)).Sex) ((nth x2 (i1 : Int)).Young) ((nth x2 (i1 : Int)).Old))) (i1 : Int)).Metres) ((nth (x2.set ((i1 : Int).toNat) (GRace.mk ((nth x2 (i1 : Int)).Key) ((nth x2 (i1 : Int)).Metres) ((nth x2 (i1 : Int)).Stroke) ((nth x2 (i1 : Int)).Course) 4 ((nth x2 (i1 : Int)).Sex) ((nth x2 (i1 : Int)).Young) ((nth x2 (i1 : Int)).Old))) (i1 : Int)).Stroke) ((nth (x2.set ((i1 : Int).toNat) (GRace.mk ((nth x2 (i1 : Int)).Key) ((nth x2 (i1 : Int)).Metres) ((nth x2 (i1 : Int)).Stroke) ((nth x2 (i1 : Int)).Course) 4 ((nth x2 (i1 : Int)).Sex) ((nth x2 (i1 : Int)).Young) ((nth x2 (i1 : Int)).Old))) (i1 : Int)).Course) ((nth (x2.set ((i1 : Int).toNat) (GRace.mk ((nth x2 (i1 : Int)).Key) ((nth x2 (i1 : Int)).Metres) ((nth x2 (i1 : Int)).Stroke) ((nth x2 (i1 : Int)).Course) 4 ((nth x2 (i1 : Int)).Sex) ((nth x2 (i1 : Int)).Young) ((nth x2 (i1 : Int)).Old))) (i1 : Int)).Legs) ((nth (x2.set ((i1 : Int).toNat) (GRace.mk ((nth x2 (i1 : Int)).Key) ((nth x2 (i1 : Int)).Metres) ((nth x2 (i1 : Int)).Stroke) ((nth x2 (i1 : Int)).Course) 4 ((nth x2 (i1 : Int)).Sex) ((nth x2 (i1 : Int)).Young) ((nth x2 (i1 : Int)).Old))) (i1 : Int)).Sex) 0 ((nth (x2.set ((i1 : Int).toNat) (GRace.mk ((nth x2 (i1 : Int)).Key) ((nth x2 (i1 : Int)).Metres) ((nth x2 (i1 : Int)).Stroke) ((nth x2 (i1 : Int)).Course) 4 ((nth x2 (i1 : Int)).Sex) ((nth x2 (i1 : Int)).Young) ((nth x2 (i1 : Int)).Old))) (i1 : Int)).Old)))))))
  else
  j4 x2 r8.2)))
def tumblaw2_RelaysMade (p_l : List Int) : Option Bool :=
  Option.bind (Stream_SpoiltRaces p_l 0) (fun r1 =>
  Option.bind (Stream_Swimmers p_l r1.2) (fun r2 =>
  Option.bind (Stream_Moves p_l r2.2) (fun r3 =>
  Option.bind (Stream_Bounds p_l r3.2) (fun r4 =>
  Option.bind (Stream_Squad p_l r4.2) (fun r5 =>
  Option.bind (Stream_Flip p_l r5.2 2) (fun r6 =>
  Join (fun (x1 : List GMove) =>
  Join (fun (x2 : List GRace) (x3 : Int) =>
  Option.bind (swimmer_Wrong x2 r2.1 x1 r4.1 r5.1) (fun r10 =>
  Join (fun (x9 : Int) =>
  Join (fun (x10 : ByteArray) =>
  Option.bind (Stream_Squad p_l x3) (fun r16 =>
  Join (fun (x11 : Bool) =>
  if x11 then
  some false
  else
  Option.bind (Stream_Legs p_l r16.2) (fun r21 =>
  Option.bind (Stream_Pick p_l r21.2 [0, 0, 1, 2, 4, 5, (-1)]) (fun r22 =>
  Option.bind (swimmer_Fastest r21.1 r22.1) (fun r23 =>
  Option.bind (tumbref2_LegsFault r21.1) (fun r24 =>
  Join (fun (x12 : List ByteArray) (x13 : Int) (x14 : Bool) =>
  Option.bind (swimmer_CheckLegs r21.1) (fun r26 =>
  Option.bind (tumbref2_LegsFault r21.1) (fun r27 =>
  Join (fun (c1 : Bool) =>
  Join (fun (c2 : Bool) =>
  some c2) (fun j11 =>
  if ((c1 && (decide (r23.2.1 = x13))) && (decide (r23.2.2.1 = x14))) then Option.bind (tumblaw2_dated) (fun r29 =>
  j11 (((c1 && (decide (r23.2.1 = x13))) && (decide (r23.2.2.1 = x14))) && r29)) else j11 (((c1 && (decide (r23.2.1 = x13))) && (decide (r23.2.2.1 = x14))) && true))) (fun j10 =>
  if ((decide (r26 = r27)) && (decide (r23.2.2.2 = (tumblaw2_errs [r24, (tumblaw2_when ((decide (r22.1 < 0)) || (decide (4 < r22.1))) 1)])))) then Option.bind (slices_Equal_string r23.1 x12) (fun r28 =>
  j10 (((decide (r26 = r27)) && (decide (r23.2.2.2 = (tumblaw2_errs [r24, (tumblaw2_when ((decide (r22.1 < 0)) || (decide (4 < r22.1))) 1)])))) && r28)) else j10 (((decide (r26 = r27)) && (decide (r23.2.2.2 = (tumblaw2_errs [r24, (tumblaw2_when ((decide (r22.1 < 0)) || (decide (4 < r22.1))) 1)])))) && true))))) (fun j9 =>
  if decide ((tumblaw2_errs [r24, (tumblaw2_when ((decide (r22.1 < 0)) || (decide (4 < r22.1))) 1)]) = 0) then
  Option.bind (tumbref2_FastestOf r21.1 r22.1) (fun r25 =>
  j9 r25.1 r25.2.1 r25.2.2)
  else
  j9 ([] : List ByteArray) 0 false)))))) (fun j8 =>
  if !decide (r10.2 = x9) then
  if true then
  j8 true
  else
  Option.bind (swimmer_CheckSquads ([r5.1, r16.1] : List GSquad)) (fun r17 =>
  Option.bind (tumbref2_SquadsFault ([r5.1, r16.1] : List GSquad)) (fun r18 =>
  j8 (!decide (r17 = r18))))
  else
  if !decide (r10.1 = x10) then
  j8 true
  else
  Option.bind (swimmer_CheckSquads ([r5.1, r16.1] : List GSquad)) (fun r19 =>
  Option.bind (tumbref2_SquadsFault ([r5.1, r16.1] : List GSquad)) (fun r20 =>
  j8 (!decide (r19 = r20))))))) (fun j7 =>
  if decide (x9 = 0) then
  Option.bind (tumbref2_WrongOf x2 r2.1 x1 r4.1 r5.1) (fun r15 =>
  j7 r15)
  else
  j7 k_empty)) (fun j6 =>
  Option.bind (tumblaw2_racesFault x2) (fun r11 =>
  Option.bind (tumbref2_SwimmersFault r2.1) (fun r12 =>
  Option.bind (tumbref2_MovesFault x1) (fun r13 =>
  Option.bind (tumbref2_SquadsFault ([r5.1] : List GSquad)) (fun r14 =>
  j6 (tumblaw2_errs [r11, r12, r13, (tumbref2_BoundsFault r4.1), r14])))))))) (fun j2 =>
  tumblaw2_RelaysMade_l1 p_l j2 r1.1 0 r1.1 r6.2)) (fun j1 =>
  if r6.1 then
  Option.bind (Stream_OneClub p_l r6.2) (fun r7 =>
  j1 r7)
  else
  j1 r3.1)))))))
/-- The loops' equations are made here, once. -/
theorem twin_eqs : True := by
  have h := @Stream_MeetRaces_l1.eq_def; clear h; have h := @Stream_MeetRaces_l1.eq_1; clear h; have h := @Stream_MeetRaces_l1.eq_2; clear h
  have h := @Stream_RightSwimmers_l1.eq_def; clear h; have h := @Stream_RightSwimmers_l1.eq_1; clear h; have h := @Stream_RightSwimmers_l1.eq_2; clear h
  have h := @Stream_RightMoves_l2.eq_def; clear h; have h := @Stream_RightMoves_l2.eq_1; clear h; have h := @Stream_RightMoves_l2.eq_2; clear h
  have h := @Stream_RightMoves_l1.eq_def; clear h; have h := @Stream_RightMoves_l1.eq_1; clear h; have h := @Stream_RightMoves_l1.eq_2; clear h
  have h := @Stream_Order_l1.eq_def; clear h; have h := @Stream_Order_l1.eq_1; clear h; have h := @Stream_Order_l1.eq_2; clear h
  have h := @Stream_Order_l2.eq_def; clear h; have h := @Stream_Order_l2.eq_1; clear h; have h := @Stream_Order_l2.eq_2; clear h
  have h := @Stream_Squad_l1.eq_def; clear h; have h := @Stream_Squad_l1.eq_1; clear h; have h := @Stream_Squad_l1.eq_2; clear h
  have h := @Stream_OneClub_l1.eq_def; clear h; have h := @Stream_OneClub_l1.eq_1; clear h; have h := @Stream_OneClub_l1.eq_2; clear h
  have h := @swimmer_checkRaces_l1.eq_def; clear h; have h := @swimmer_checkRaces_l1.eq_1; clear h; have h := @swimmer_checkRaces_l1.eq_2; clear h
  have h := @swimmer_CheckSwimmers_l1.eq_def; clear h; have h := @swimmer_CheckSwimmers_l1.eq_1; clear h; have h := @swimmer_CheckSwimmers_l1.eq_2; clear h
  have h := @cmp_Or_int_l1.eq_def; clear h; have h := @cmp_Or_int_l1.eq_1; clear h; have h := @cmp_Or_int_l1.eq_2; clear h
  have h := @swimmer_CheckMoves_l1.eq_def; clear h; have h := @swimmer_CheckMoves_l1.eq_1; clear h; have h := @swimmer_CheckMoves_l1.eq_2; clear h
  have h := @slices_Index_string_l1.eq_def; clear h; have h := @slices_Index_string_l1.eq_1; clear h; have h := @slices_Index_string_l1.eq_2; clear h
  have h := @swimmer_CheckSquads_l2.eq_def; clear h; have h := @swimmer_CheckSquads_l2.eq_1; clear h; have h := @swimmer_CheckSquads_l2.eq_2; clear h
  have h := @swimmer_CheckSquads_l1.eq_def; clear h; have h := @swimmer_CheckSquads_l1.eq_1; clear h; have h := @swimmer_CheckSquads_l1.eq_2; clear h
  have h := @slices_IndexFunc_Race_swimmer_raceOf_c1_l1.eq_def; clear h; have h := @slices_IndexFunc_Race_swimmer_raceOf_c1_l1.eq_1; clear h; have h := @slices_IndexFunc_Race_swimmer_raceOf_c1_l1.eq_2; clear h
  have h := @slices_IndexFunc_Swimmer_swimmer_swimmerOf_c1_l1.eq_def; clear h; have h := @slices_IndexFunc_Swimmer_swimmer_swimmerOf_c1_l1.eq_1; clear h; have h := @slices_IndexFunc_Swimmer_swimmer_swimmerOf_c1_l1.eq_2; clear h
  have h := @swimmer_clubAt_l1.eq_def; clear h; have h := @swimmer_clubAt_l1.eq_1; clear h; have h := @swimmer_clubAt_l1.eq_2; clear h
  have h := @swimmer_dateOf_l1.eq_def; clear h; have h := @swimmer_dateOf_l1.eq_1; clear h; have h := @swimmer_dateOf_l1.eq_2; clear h
  have h := @swimmer_dateOf_l2.eq_def; clear h; have h := @swimmer_dateOf_l2.eq_1; clear h; have h := @swimmer_dateOf_l2.eq_2; clear h
  have h := @swimmer_dateOf_l3.eq_def; clear h; have h := @swimmer_dateOf_l3.eq_1; clear h; have h := @swimmer_dateOf_l3.eq_2; clear h
  have h := @swimmer_Wrong_l1.eq_def; clear h; have h := @swimmer_Wrong_l1.eq_1; clear h; have h := @swimmer_Wrong_l1.eq_2; clear h
  have h := @swimmer_Wrong_l2.eq_def; clear h; have h := @swimmer_Wrong_l2.eq_1; clear h; have h := @swimmer_Wrong_l2.eq_2; clear h
  have h := @tumblaw2_racesFault_l1.eq_def; clear h; have h := @tumblaw2_racesFault_l1.eq_1; clear h; have h := @tumblaw2_racesFault_l1.eq_2; clear h
  have h := @tumbref2_only_l1.eq_def; clear h; have h := @tumbref2_only_l1.eq_1; clear h; have h := @tumbref2_only_l1.eq_2; clear h
  have h := @tumbref2_SwimmersFault_l1.eq_def; clear h; have h := @tumbref2_SwimmersFault_l1.eq_1; clear h; have h := @tumbref2_SwimmersFault_l1.eq_2; clear h
  have h := @tumbref2_MovesFault_l1.eq_def; clear h; have h := @tumbref2_MovesFault_l1.eq_1; clear h; have h := @tumbref2_MovesFault_l1.eq_2; clear h
  have h := @tumbref2_SquadsFault_l2.eq_def; clear h; have h := @tumbref2_SquadsFault_l2.eq_1; clear h; have h := @tumbref2_SquadsFault_l2.eq_2; clear h
  have h := @tumbref2_SquadsFault_l1.eq_def; clear h; have h := @tumbref2_SquadsFault_l1.eq_1; clear h; have h := @tumbref2_SquadsFault_l1.eq_2; clear h
  have h := @tumblaw2_errs_l1.eq_def; clear h; have h := @tumblaw2_errs_l1.eq_1; clear h; have h := @tumblaw2_errs_l1.eq_2; clear h
  have h := @tumbref2_raceOf_l1.eq_def; clear h; have h := @tumbref2_raceOf_l1.eq_1; clear h; have h := @tumbref2_raceOf_l1.eq_2; clear h
  have h := @tumbref2_swimmerOf_l1.eq_def; clear h; have h := @tumbref2_swimmerOf_l1.eq_1; clear h; have h := @tumbref2_swimmerOf_l1.eq_2; clear h
  have h := @tumbref2_ClubFor_l1.eq_def; clear h; have h := @tumbref2_ClubFor_l1.eq_1; clear h; have h := @tumbref2_ClubFor_l1.eq_2; clear h
  have h := @tumbref2_DateFor_l1.eq_def; clear h; have h := @tumbref2_DateFor_l1.eq_1; clear h; have h := @tumbref2_DateFor_l1.eq_2; clear h
  have h := @slices_Compare_int_l1.eq_def; clear h; have h := @slices_Compare_int_l1.eq_1; clear h; have h := @slices_Compare_int_l1.eq_2; clear h
  have h := @tumbref2_AgeFor_l1.eq_def; clear h; have h := @tumbref2_AgeFor_l1.eq_1; clear h; have h := @tumbref2_AgeFor_l1.eq_2; clear h
  have h := @tumbref2_WrongOf_l1.eq_def; clear h; have h := @tumbref2_WrongOf_l1.eq_1; clear h; have h := @tumbref2_WrongOf_l1.eq_2; clear h
  have h := @Stream_Legs_l2.eq_def; clear h; have h := @Stream_Legs_l2.eq_1; clear h; have h := @Stream_Legs_l2.eq_2; clear h
  have h := @Stream_Legs_l1.eq_def; clear h; have h := @Stream_Legs_l1.eq_1; clear h; have h := @Stream_Legs_l1.eq_2; clear h
  have h := @swimmer_CheckLegs_l2.eq_def; clear h; have h := @swimmer_CheckLegs_l2.eq_1; clear h; have h := @swimmer_CheckLegs_l2.eq_2; clear h
  have h := @swimmer_CheckLegs_l1.eq_def; clear h; have h := @swimmer_CheckLegs_l1.eq_1; clear h; have h := @swimmer_CheckLegs_l1.eq_2; clear h
  have h := @crew_try_l1.eq_def; clear h; have h := @crew_try_l1.eq_1; clear h; have h := @crew_try_l1.eq_2; clear h
  have h := @slices_IndexFunc_int_tumbref2_LegsFault_c1_l1.eq_def; clear h; have h := @slices_IndexFunc_int_tumbref2_LegsFault_c1_l1.eq_1; clear h; have h := @slices_IndexFunc_int_tumbref2_LegsFault_c1_l1.eq_2; clear h
  have h := @tumbref2_LegsFault_l1.eq_def; clear h; have h := @tumbref2_LegsFault_l1.eq_1; clear h; have h := @tumbref2_LegsFault_l1.eq_2; clear h
  have h := @slices_Compare_string_l1.eq_def; clear h; have h := @slices_Compare_string_l1.eq_1; clear h; have h := @slices_Compare_string_l1.eq_2; clear h
  have h := @tumbref2_FastestOf_c1_l1.eq_def; clear h; have h := @tumbref2_FastestOf_c1_l1.eq_1; clear h; have h := @tumbref2_FastestOf_c1_l1.eq_2; clear h
  have h := @slices_Equal_string_l1.eq_def; clear h; have h := @slices_Equal_string_l1.eq_1; clear h; have h := @slices_Equal_string_l1.eq_2; clear h
  have h := @swimmer_DayOf_l1.eq_def; clear h; have h := @swimmer_DayOf_l1.eq_1; clear h; have h := @swimmer_DayOf_l1.eq_2; clear h
  have h := @swimmer_DayOf_l2.eq_def; clear h; have h := @swimmer_DayOf_l2.eq_1; clear h; have h := @swimmer_DayOf_l2.eq_2; clear h
  have h := @swimmer_DayOf_l3.eq_def; clear h; have h := @swimmer_DayOf_l3.eq_1; clear h; have h := @swimmer_DayOf_l3.eq_2; clear h
  have h := @tumblaw2_RelaysMade_l1.eq_def; clear h; have h := @tumblaw2_RelaysMade_l1.eq_1; clear h; have h := @tumblaw2_RelaysMade_l1.eq_2; clear h
  have h := @crew_try.eq_def; clear h; have h := @crew_try.eq_1; clear h; have h := @crew_try.eq_2; clear h
  have h := @tumbref2_FastestOf_c1.eq_def; clear h; have h := @tumbref2_FastestOf_c1.eq_1; clear h; have h := @tumbref2_FastestOf_c1.eq_2; clear h
  trivial
end Go.Proofs.YtmngaaffadcccaaGreatDoor
