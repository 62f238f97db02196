/- The Go functions as plain Lean functions, by program. -/
import Derived.Test.YtamfhhmfioghgaaGreatDoorBase
import Derived.Lib.Atoi
import Derived.Lib.IndexMore
import Derived.Lib.ItoaNum
import Derived.Lib.Join
import Derived.Lib.Split
import Derived.Lib.Strings
namespace Go.Proofs.YtamfhhmfioghgaaGreatDoor
open Go
structure Gtumbmake_Stream where
  L : List Int
  at_ : Int
  deriving DecidableEq, Inhabited
structure GStep where
  At : Int
  Kind : Int
  Id : ByteArray
  Who : ByteArray
  Club : ByteArray
  Race : ByteArray
  Age : Int
  Time : Int
  deriving DecidableEq, Inhabited
structure GKind where
  Key : ByteArray
  Race : ByteArray
  Clubs : List ByteArray
  Young : Int
  Old : Int
  deriving DecidableEq, Inhabited
def k_empty : ByteArray := ⟨#[]⟩
def k_ia : ByteArray := ⟨#[105, 97]⟩
def k_ib : ByteArray := ⟨#[105, 98]⟩
def k_ic : ByteArray := ⟨#[105, 99]⟩
def k_id : ByteArray := ⟨#[105, 100]⟩
def k_ie : ByteArray := ⟨#[105, 101]⟩
def k_if : ByteArray := ⟨#[105, 102]⟩
def k_ann : ByteArray := ⟨#[97, 110, 110]⟩
def k_bea : ByteArray := ⟨#[98, 101, 97]⟩
def k_blue : ByteArray := ⟨#[98, 108, 117, 101]⟩
def k_red : ByteArray := ⟨#[114, 101, 100]⟩
def k_ra : ByteArray := ⟨#[114, 97]⟩
def k_rb : ByteArray := ⟨#[114, 98]⟩
def k_A : ByteArray := ⟨#[65]⟩
def k_abcdefghijklmnopqrstuvwxyz : ByteArray := ⟨#[97, 98, 99, 100, 101, 102, 103, 104, 105, 106, 107, 108, 109, 110, 111, 112, 113, 114, 115, 116, 117, 118, 119, 120, 121, 122]⟩
def k_abcdefghijkl_h0e2e2c : ByteArray := ⟨#[97, 98, 99, 100, 101, 102, 103, 104, 105, 106, 107, 108, 109, 110, 111, 112, 113, 114, 115, 116, 117, 118, 119, 120, 121, 122, 48, 49, 50, 51, 52, 53, 54, 55, 56, 57, 45, 95]⟩
def k__20 : ByteArray := ⟨#[32]⟩
def k_swum : ByteArray := ⟨#[115, 119, 117, 109]⟩
def k_ratified : ByteArray := ⟨#[114, 97, 116, 105, 102, 105, 101, 100]⟩
def k_void : ByteArray := ⟨#[118, 111, 105, 100]⟩
def k__2d : ByteArray := ⟨#[45]⟩
def k__0a : ByteArray := ⟨#[10]⟩
def k__20_0a0_2d9ivr : ByteArray := ⟨#[32, 10, 48, 45, 57, 105, 118, 114]⟩
def k_0123456789 : ByteArray := ⟨#[48, 49, 50, 51, 52, 53, 54, 55, 56, 57]⟩
def k_0 : ByteArray := ⟨#[48]⟩
def k_k : ByteArray := ⟨#[107]⟩
def k_r : ByteArray := ⟨#[114]⟩
def k_i : ByteArray := ⟨#[105]⟩
def k_a : ByteArray := ⟨#[97]⟩
def tumbmake_Below (p_x : Int) (p_n : Int) : Option Int :=
  if decide (p_n < 1) then
  some 0
  else
  Chk (!decide (p_n = 0)) (
  Join (fun (x1 : Int) =>
  some x1) (fun j1 =>
  if decide ((Int.tmod p_x p_n) < 0) then
  j1 (W ((Int.tmod p_x p_n) + p_n))
  else
  j1 (Int.tmod p_x p_n)))
def Stream_Next (p_s_L : List Int) (p_s_at : Int) (p_n : Int) : Option (Int × Int) :=
  if decide ((p_s_L.length : Int) = 0) then
  Option.bind (tumbmake_Below (W ((W (p_s_at + 1)) * 7919)) p_n) (fun r1 =>
  some (r1, W (p_s_at + 1)))
  else
  Chk (!decide ((p_s_L.length : Int) = 0)) (
  Chk (!decide ((p_s_L.length : Int) = 0)) (
  Chk (inB (Int.tmod (W ((W (p_s_at + 1)) - 1)) (p_s_L.length : Int)) p_s_L.length) (
  Option.bind (tumbmake_Below (nth p_s_L (Int.tmod (W ((W (p_s_at + 1)) - 1)) (p_s_L.length : Int))) 1073741824) (fun r2 =>
  Option.bind (tumbmake_Below (W (r2 + (W ((W (Int.tdiv (W ((W (p_s_at + 1)) - 1)) (p_s_L.length : Int))) * (W (7919 + (Int.tmod (W ((W (p_s_at + 1)) - 1)) (p_s_L.length : Int)))))))) p_n) (fun r3 =>
  some (r3, W (p_s_at + 1)))))))
def Stream_Range (p_s_L : List Int) (p_s_at : Int) (p_low : Int) (p_high : Int) : Option (Int × Int) :=
  if decide (p_high < p_low) then
  some (p_low, p_s_at)
  else
  Option.bind (Stream_Next p_s_L p_s_at (W ((W (p_high - p_low)) + 1))) (fun r1 =>
  some (W (p_low + r1.1), r1.2))
def Stream_Pick (p_s_L : List Int) (p_s_at : Int) (p_l : List Int) : Option (Int × Int) :=
  Option.bind (Stream_Next p_s_L p_s_at (p_l.length : Int)) (fun r1 =>
  Chk (inB r1.1 p_l.length) (
  some ((nth p_l r1.1), r1.2)))
def Stream_Some (p_s_L : List Int) (p_s_at : Int) (p_l : List ByteArray) : Option (ByteArray × Int) :=
  Option.bind (Stream_Next p_s_L p_s_at (p_l.length : Int)) (fun r1 =>
  Chk (inB r1.1 p_l.length) (
  some ((nth p_l r1.1), r1.2)))
def Stream_SwumStep (p_s_L : List Int) (p_s_at : Int) (p_at : Int) : Option (GStep × Int) :=
  Option.bind (Stream_Some p_s_L p_s_at [k_ia, k_ib, k_ic, k_id, k_ie, k_if]) (fun r1 =>
  Option.bind (Stream_Some p_s_L r1.2 [k_ann, k_bea]) (fun r2 =>
  Option.bind (Stream_Some p_s_L r2.2 [k_blue, k_red, k_empty]) (fun r3 =>
  Option.bind (Stream_Some p_s_L r3.2 [k_ra, k_ra, k_rb]) (fun r4 =>
  Option.bind (Stream_Pick p_s_L r4.2 [9, 10, 14, 15, 20]) (fun r5 =>
  Option.bind (Stream_Pick p_s_L r5.2 [95, 96, 97, 100, 1, 2]) (fun r6 =>
  some ((GStep.mk p_at 1 r1.1 r2.1 r3.1 r4.1 r5.1 r6.1), r6.2)))))))
def Stream_Flip (p_s_L : List Int) (p_s_at : Int) (p_n : Int) : Option (Bool × Int) :=
  Option.bind (Stream_Next p_s_L p_s_at p_n) (fun r1 =>
  some (decide (r1.1 = 0), r1.2))
def Stream_Odd (p_s_L : List Int) (p_s_at : Int) (p_low : Int) (p_high : Int) : Option (Int × Int) :=
  Option.bind (Stream_Flip p_s_L p_s_at 12) (fun r1 =>
  if r1.1 then
  Option.bind (Stream_Pick p_s_L r1.2 [W (p_low - 1), W (p_high + 1), p_low, p_high, (-1099511627776), 1099511627776]) (fun r2 =>
  some (r2.1, r2.2))
  else
  Option.bind (Stream_Range p_s_L r1.2 p_low p_high) (fun r3 =>
  some (r3.1, r3.2)))
def tumbref2_sign (p_n : Int) : Int :=
  if decide (p_n < 0) then
  (-1)
  else
  if decide (0 < p_n) then
  1
  else
  0
def strings_Compare (s t : ByteArray) : Int := Lib.compareBytes s.data.toList t.data.toList
def tumbref2_StepOrder (p_a : GStep) (p_b : GStep) : Int :=
  if !decide (p_a.At = p_b.At) then
  (tumbref2_sign (W (p_a.At - p_b.At)))
  else
  if !decide (p_a.Id = p_b.Id) then
  (strings_Compare p_a.Id p_b.Id)
  else
  (tumbref2_sign (W (p_a.Kind - p_b.Kind)))
def slices_insertionSortCmpFunc_Step_tumbref2_StepOrder_l2 (p_a : Int) (j2 : (List GStep) → Option (List GStep)) : Nat → (List GStep) → Int → Option (List GStep)
  | 0, _, _ => none
  | m2 + 1, x3, x4 => Join (fun (x5 : Bool) =>
  if x5 then
  Chk (inB (W (x4 - 1)) x3.length) (
  Chk (inB x4 x3.length) (
  Chk (inB x4 x3.length) (
  Chk (inB (W (x4 - 1)) (x3.set x4.toNat (nth x3 (W (x4 - 1)))).length) (
  slices_insertionSortCmpFunc_Step_tumbref2_StepOrder_l2 p_a j2 m2 ((x3.set x4.toNat (nth x3 (W (x4 - 1)))).set ((W (x4 - 1)).toNat) (nth x3 x4)) (W (x4 - 1))))))
  else
  j2 x3) (fun j3 =>
  if decide (p_a < x4) then
  Chk (inB x4 x3.length) (
  Chk (inB (W (x4 - 1)) x3.length) (
  j3 (decide ((tumbref2_StepOrder (nth x3 x4) (nth x3 (W (x4 - 1)))) < 0))))
  else
  j3 false)
def slices_insertionSortCmpFunc_Step_tumbref2_StepOrder_l1 (p_b : Int) (p_a : Int) (j1 : (List GStep) → Option (List GStep)) : Nat → (List GStep) → Int → Option (List GStep)
  | 0, _, _ => none
  | m1 + 1, x1, x2 => if decide (x2 < p_b) then
  Join (fun (x3 : List GStep) =>
  slices_insertionSortCmpFunc_Step_tumbref2_StepOrder_l1 p_b p_a j1 m1 x3 (W (x2 + 1))) (fun j2 =>
  slices_insertionSortCmpFunc_Step_tumbref2_StepOrder_l2 p_a j2 ((x2 - p_a).toNat + 2) x1 x2)
  else
  j1 x1
def slices_insertionSortCmpFunc_Step_tumbref2_StepOrder (p_data : List GStep) (p_a : Int) (p_b : Int) : Option (List GStep) :=
  Join (fun (x1 : List GStep) =>
  some x1) (fun j1 =>
  slices_insertionSortCmpFunc_Step_tumbref2_StepOrder_l1 p_b p_a j1 ((p_b - (W (p_a + 1))).toNat + 2) p_data (W (p_a + 1)))
def slices_stableCmpFunc_Step_tumbref2_StepOrder_l1 (p_n : Int) (j1 : (List GStep) → Int → Option (List GStep)) : Nat → (List GStep) → Int → Int → Option (List GStep)
  | 0, _, _, _ => none
  | m1 + 1, x1, x2, x3 => if decide (x3 ≤ p_n) then
  Option.bind (slices_insertionSortCmpFunc_Step_tumbref2_StepOrder x1 x2 x3) (fun r1 =>
  slices_stableCmpFunc_Step_tumbref2_StepOrder_l1 p_n j1 m1 r1 x3 (W (x3 + 20)))
  else
  j1 x1 x2
def slices_stableCmpFunc_Step_tumbref2_StepOrder_l3 (p_n : Int) (j3 : Int → Option (List GStep)) : Nat → Int → Int → Option (List GStep)
  | 0, _, _ => none
  | _ + 1, x5, x6 => if decide (x6 ≤ p_n) then
  none
  else
  j3 x5
def slices_stableCmpFunc_Step_tumbref2_StepOrder_l2 (p_n : Int) (j2 : Option (List GStep)) : Nat → Int → Option (List GStep)
  | 0, _ => none
  | m2 + 1, x4 => if decide (x4 < p_n) then
  Join (fun (x5 : Int) =>
  if decide ((W (x5 + x4)) < p_n) then
  none
  else
  slices_stableCmpFunc_Step_tumbref2_StepOrder_l2 p_n j2 m2 (W (x4 * 2))) (fun j3 =>
  slices_stableCmpFunc_Step_tumbref2_StepOrder_l3 p_n j3 ((p_n - (W (2 * x4))).toNat + 2) 0 (W (2 * x4)))
  else
  j2
def slices_stableCmpFunc_Step_tumbref2_StepOrder (p_data : List GStep) (p_n : Int) : Option (List GStep) :=
  Join (fun (x1 : List GStep) (x2 : Int) =>
  Option.bind (slices_insertionSortCmpFunc_Step_tumbref2_StepOrder x1 x2 p_n) (fun r2 =>
  Join (some r2) (fun j2 =>
  slices_stableCmpFunc_Step_tumbref2_StepOrder_l2 p_n j2 ((p_n - 20).toNat + 2) 20))) (fun j1 =>
  slices_stableCmpFunc_Step_tumbref2_StepOrder_l1 p_n j1 ((p_n - 20).toNat + 2) p_data 0 20)
def slices_SortStableFunc_Step_tumbref2_StepOrder (p_x : List GStep) : Option (List GStep) :=
  Option.bind (slices_stableCmpFunc_Step_tumbref2_StepOrder p_x (p_x.length : Int)) (fun r1 =>
  some r1)
def Stream_Steps_c1 (p_a : GStep) (p_b : GStep) : Bool :=
  decide ((tumbref2_StepOrder p_a p_b) = 0)
def slices_CompactFunc_Step_Stream_Steps_c1_l2 (p_s : List GStep) (x1 : Int) (j2 : (List GStep) → Int → Option (List GStep)) : Nat → (List GStep) → Int → Int → Option (List GStep)
  | 0, _, _, _ => none
  | m2 + 1, x2, x3, x4 => if decide (x4 < (((p_s.length : Int).toNat - x1.toNat : Nat) : Int)) then
  Join (fun (x5 : List GStep) (x6 : Int) =>
  slices_CompactFunc_Step_Stream_Steps_c1_l2 p_s x1 j2 m2 x5 x6 (W (x4 + 1))) (fun j3 =>
  Chk (inB x4 ((p_s.length : Int).toNat - x1.toNat)) (
  Chk (inB (W (x4 - 1)) ((p_s.length : Int).toNat - x1.toNat)) (
  Join (fun (x7 : List GStep) (x8 : Int) =>
  j3 x7 x8) (fun j4 =>
  if !(Stream_Steps_c1 (nth (cut x2 x1 (p_s.length : Int)) x4) (nth (cut x2 x1 (p_s.length : Int)) (W (x4 - 1)))) then
  Chk (inB x4 ((p_s.length : Int).toNat - x1.toNat)) (
  Chk (inB x3 x2.length) (
  j4 (x2.set x3.toNat (nth (cut x2 x1 (p_s.length : Int)) x4)) (W (x3 + 1))))
  else
  j4 x2 x3))))
  else
  j2 x2 x3
def slices_CompactFunc_Step_Stream_Steps_c1_l1 (p_s : List GStep) (j1 : Option (List GStep)) : Nat → Int → Option (List GStep)
  | 0, _ => none
  | m1 + 1, x1 => if decide (x1 < (p_s.length : Int)) then
  Chk (inB x1 p_s.length) (
  Chk (inB (W (x1 - 1)) p_s.length) (
  if (Stream_Steps_c1 (nth p_s x1) (nth p_s (W (x1 - 1)))) then
  Chk (cutB x1 (p_s.length : Int) p_s.length) (
  Join (fun (x2 : List GStep) (x3 : Int) =>
  Chk (cutB x3 (x2.length : Int) x2.length) (
  Chk (cutB 0 x3 (clr x2 x3 (x2.length : Int) (GStep.mk 0 0 k_empty k_empty k_empty k_empty 0 0)).length) (
  some (cut (clr x2 x3 (x2.length : Int) (GStep.mk 0 0 k_empty k_empty k_empty k_empty 0 0)) (0 : Int) x3)))) (fun j2 =>
  slices_CompactFunc_Step_Stream_Steps_c1_l2 p_s x1 j2 (((((p_s.length : Int).toNat - x1.toNat : Nat) : Int) - 1).toNat + 2) p_s x1 1))
  else
  slices_CompactFunc_Step_Stream_Steps_c1_l1 p_s j1 m1 (W (x1 + 1))))
  else
  j1
def slices_CompactFunc_Step_Stream_Steps_c1 (p_s : List GStep) : Option (List GStep) :=
  if decide ((p_s.length : Int) < 2) then
  some p_s
  else
  Join (some p_s) (fun j1 =>
  slices_CompactFunc_Step_Stream_Steps_c1_l1 p_s j1 (((p_s.length : Int) - 1).toNat + 2) 1)
def Stream_Steps_l1 (p_many : Int) (p_s_L : List Int) (j1 : (List GStep) → Int → Option ((List GStep) × Int)) : Nat → (List GStep) → Int → Int → Int → Option ((List GStep) × Int)
  | 0, _, _, _, _ => none
  | m1 + 1, x1, x2, x3, x4 => if decide (x4 < p_many) then
  Option.bind (Stream_Pick p_s_L x2 [0, 1, 1, 5]) (fun r1 =>
  Option.bind (Stream_SwumStep p_s_L r1.2 (W (x3 + r1.1))) (fun r2 =>
  Option.bind (Stream_Flip p_s_L r2.2 3) (fun r3 =>
  Join (fun (x5 : Int) (x6 : Int) (x7 : ByteArray) (x8 : ByteArray) (x9 : ByteArray) (x10 : Int) (x11 : Int) (x12 : Int) =>
  Option.bind (Stream_Flip p_s_L x12 80) (fun r5 =>
  Join (fun (x13 : Int) (x14 : Int) (x15 : ByteArray) (x16 : ByteArray) (x17 : ByteArray) (x18 : ByteArray) (x19 : Int) (x20 : Int) (x21 : Int) =>
  Chk (room x1.length) (
  Stream_Steps_l1 p_many p_s_L j1 m1 (x1 ++ [(GStep.mk x13 x14 x15 x16 x17 x18 x19 x20)]) x21 (W (x3 + r1.1)) (W (x4 + 1)))) (fun j3 =>
  if r5.1 then
  Option.bind (Stream_Next p_s_L r5.2 4) (fun r6 =>
  Join (fun (x22 : Int) (x23 : Int) (x24 : ByteArray) (x25 : ByteArray) (x26 : ByteArray) (x27 : ByteArray) (x28 : Int) (x29 : Int) (x30 : Int) =>
  j3 x22 x23 x24 x25 x26 x27 x28 x29 x30) (fun j4 =>
  Join (fun (x31 : Int) (x32 : Int) (x33 : ByteArray) (x34 : ByteArray) (x35 : ByteArray) (x36 : ByteArray) (x37 : Int) (x38 : Int) (x39 : Int) =>
  j4 x31 x32 x33 x34 x35 x36 x37 x38 x39) (fun j5 =>
  if decide (r6.1 = 0) then
  Option.bind (Stream_Odd p_s_L r6.2 0 50) (fun r7 =>
  Option.bind (Stream_Odd p_s_L r7.2 1 3) (fun r8 =>
  j5 r7.1 r8.1 r2.1.Id x7 x8 x9 x10 x11 r8.2))
  else
  Join (fun (x40 : ByteArray) (x41 : ByteArray) (x42 : ByteArray) (x43 : ByteArray) (x44 : Int) (x45 : Int) (x46 : Int) =>
  j5 x5 x6 x40 x41 x42 x43 x44 x45 x46) (fun j6 =>
  if decide (r6.1 = 1) then
  Join (fun (x47 : ByteArray) (x48 : ByteArray) (x49 : Int) =>
  j6 x47 x48 x8 x9 x10 x11 x49) (fun j7 =>
  Option.bind (Stream_Some p_s_L r6.2 [k_empty, r2.1.Id, k_A]) (fun r9 =>
  Option.bind (Stream_Some p_s_L r9.2 [k_empty, x7]) (fun r10 =>
  j7 r9.1 r10.1 r10.2)))
  else
  Join (fun (x50 : ByteArray) (x51 : ByteArray) (x52 : Int) (x53 : Int) (x54 : Int) =>
  j6 r2.1.Id x7 x50 x51 x52 x53 x54) (fun j8 =>
  if decide (r6.1 = 2) then
  Join (fun (x55 : ByteArray) (x56 : ByteArray) (x57 : Int) =>
  j8 x55 x56 x10 x11 x57) (fun j9 =>
  Option.bind (Stream_Some p_s_L r6.2 [k_A, x8]) (fun r11 =>
  Option.bind (Stream_Some p_s_L r11.2 [k_empty, x9]) (fun r12 =>
  j9 r11.1 r12.1 r12.2)))
  else
  Option.bind (Stream_Odd p_s_L r6.2 0 150) (fun r13 =>
  Option.bind (Stream_Odd p_s_L r13.2 1 360000) (fun r14 =>
  j8 x8 x9 r13.1 r14.1 r14.2)))))))
  else
  j3 x5 x6 r2.1.Id x7 x8 x9 x10 x11 r5.2))) (fun j2 =>
  if r3.1 then
  Option.bind (Stream_Pick p_s_L r3.2 [2, 3]) (fun r4 =>
  j2 (W (x3 + r1.1)) r4.1 k_empty k_empty k_empty 0 0 r4.2)
  else
  j2 r2.1.At r2.1.Kind r2.1.Who r2.1.Club r2.1.Race r2.1.Age r2.1.Time r3.2))))
  else
  j1 x1 x2
def Stream_Steps (p_s_L : List Int) (p_s_at : Int) (p_many : Int) : Option ((List GStep) × Int) :=
  Join (fun (x1 : List GStep) (x2 : Int) =>
  Option.bind (slices_SortStableFunc_Step_tumbref2_StepOrder x1) (fun r15 =>
  Option.bind (slices_CompactFunc_Step_Stream_Steps_c1 r15) (fun r16 =>
  some (r16, x2)))) (fun j1 =>
  Stream_Steps_l1 p_many p_s_L j1 ((p_many - 0).toNat + 2) ([] : List GStep) p_s_at 0 0)
def tumbref2_in (p_n : Int) (p_low : Int) (p_high : Int) : Bool :=
  ((decide (p_low ≤ p_n)) && (decide (p_n ≤ p_high)))
def tumbref2_Moment (p_at : Int) : Bool :=
  (tumbref2_in p_at 0 345686399999)
def strings_IndexByte (s : ByteArray) (c : Int) : Int := Lib.indexByte s.data.toList c.toNat.toUInt8
def tumbref2_only_l1 (p_s : ByteArray) (p_some : ByteArray) (j1 : Option Bool) : Nat → Int → Option Bool
  | 0, _ => none
  | m1 + 1, x1 => if decide (x1 < (p_s.size : Int)) then
  Chk (inB x1 p_s.size) (
  if decide ((strings_IndexByte p_some (sbyte p_s x1)) < 0) then
  some false
  else
  tumbref2_only_l1 p_s p_some j1 m1 (W (x1 + 1)))
  else
  j1
def tumbref2_only (p_s : ByteArray) (p_some : ByteArray) : Option Bool :=
  Join (some true) (fun j1 =>
  tumbref2_only_l1 p_s p_some j1 (((p_s.size : Int) - 0).toNat + 2) 0)
def tumbref2_Key (p_s : ByteArray) : Option Bool :=
  Join (fun (c1 : Bool) =>
  Join (fun (c2 : Bool) =>
  some c2) (fun j2 =>
  if c1 then Option.bind (tumbref2_only p_s k_abcdefghijkl_h0e2e2c) (fun r2 =>
  j2 (c1 && r2)) else j2 (c1 && true))) (fun j1 =>
  if (tumbref2_in (p_s.size : Int) 1 40) then Chk (cutB 0 1 p_s.size) (
  Option.bind (tumbref2_only (scut p_s 0 1) k_abcdefghijklmnopqrstuvwxyz) (fun r1 =>
  j1 ((tumbref2_in (p_s.size : Int) 1 40) && r1))) else j1 ((tumbref2_in (p_s.size : Int) 1 40) && true))
def tumbref2_StepFault (p_s : GStep) : Option Int :=
  if !(tumbref2_Moment p_s.At) then
  some 1
  else
  if !(tumbref2_in p_s.Kind 1 3) then
  some 4
  else
  Option.bind (tumbref2_Key p_s.Id) (fun r1 =>
  if !r1 then
  some 5
  else
  if !decide (p_s.Kind = 1) then
  if !decide (p_s = (GStep.mk p_s.At p_s.Kind p_s.Id k_empty k_empty k_empty 0 0)) then
  some 3
  else
  some 0
  else
  Option.bind (tumbref2_Key p_s.Who) (fun r2 =>
  Join (fun (c1 : Bool) =>
  Join (fun (c2 : Bool) =>
  if c2 then
  some 5
  else
  if ((!(tumbref2_in p_s.Age 0 150)) || (!(tumbref2_in p_s.Time 1 360000))) then
  some 1
  else
  some 0) (fun j2 =>
  if c1 then j2 (c1 || true) else Join (fun (c3 : Bool) =>
  j2 (c1 || c3)) (fun j3 =>
  if (!decide (p_s.Club = k_empty)) then Option.bind (tumbref2_Key p_s.Club) (fun r4 =>
  j3 ((!decide (p_s.Club = k_empty)) && (!r4))) else j3 ((!decide (p_s.Club = k_empty)) && true)))) (fun j1 =>
  if (!r2) then j1 ((!r2) || true) else Option.bind (tumbref2_Key p_s.Race) (fun r3 =>
  j1 ((!r2) || (!r3))))))
def tumbref2_StepsFault_l1 (p_l : List GStep) (j1 : Option Int) : List GStep → Nat → Option Int
  | [], _ => j1
  | y1 :: ys1, i1 => Option.bind (tumbref2_StepFault y1) (fun r1 =>
  if !decide (r1 = 0) then
  some r1
  else
  Join (fun (x1 : Bool) =>
  if x1 then
  some 7
  else
  tumbref2_StepsFault_l1 p_l j1 ys1 (i1 + 1)) (fun j2 =>
  if decide (0 < (i1 : Int)) then
  Chk (inB (W ((i1 : Int) - 1)) p_l.length) (
  j2 (decide (0 ≤ (tumbref2_StepOrder (nth p_l (W ((i1 : Int) - 1))) y1))))
  else
  j2 false))
def tumbref2_StepsFault (p_l : List GStep) : Option Int :=
  if decide (1000 < (p_l.length : Int)) then
  some 2
  else
  Join (some 0) (fun j1 =>
  tumbref2_StepsFault_l1 p_l j1 p_l 0)
def Stream_RightSteps_l1 (p_s_L : List Int) (p_many : Int) (j1 : Int → Option ((List GStep) × Int)) : Nat → Int → Int → Option ((List GStep) × Int)
  | 0, _, _ => none
  | m1 + 1, x1, x2 => if decide (x2 < 5) then
  Option.bind (Stream_Steps p_s_L x1 p_many) (fun r1 =>
  Option.bind (tumbref2_StepsFault r1.1) (fun r2 =>
  if decide (r2 = 0) then
  some (r1.1, r1.2)
  else
  Stream_RightSteps_l1 p_s_L p_many j1 m1 r1.2 (W (x2 + 1))))
  else
  j1 x1
def Stream_RightSteps (p_s_L : List Int) (p_s_at : Int) (p_many : Int) : Option ((List GStep) × Int) :=
  Join (fun (x1 : Int) =>
  some (([] : List GStep), x1)) (fun j1 =>
  Stream_RightSteps_l1 p_s_L p_many j1 7 p_s_at 0)
def strconv_Itoa (n : Int) : Option ByteArray :=
  Chk (decide (-9223372036854775808 ≤ n) && decide (n ≤ 9223372036854775807)) (some (⟨(Lib.itoa n).toArray⟩))
def strings_Join (xs : List ByteArray) (sep : ByteArray) : Option ByteArray :=
  Chk (decide (xs.length ≤ 140737488355328) && decide ((Lib.join (xs.map (·.data.toList)) sep.data.toList).length ≤ 140737488355328)) (some (⟨(Lib.join (xs.map (·.data.toList)) sep.data.toList).toArray⟩))
def tumbref2_numbers_l1 (j1 : (List ByteArray) → Option ByteArray) : List Int → Nat → (List ByteArray) → Option ByteArray
  | [], _, x1 => j1 x1
  | y1 :: ys1, i1, x1 => Option.bind (strconv_Itoa y1) (fun r1 =>
  Chk (room x1.length) (
  tumbref2_numbers_l1 j1 ys1 (i1 + 1) (x1 ++ [r1])))
def tumbref2_numbers (p_l : List Int) : Option ByteArray :=
  Join (fun (x1 : List ByteArray) =>
  Option.bind (strings_Join x1 k__20) (fun r2 =>
  some r2)) (fun j1 =>
  tumbref2_numbers_l1 j1 p_l 0 ([] : List ByteArray))
def tumbref2_stepWords : (List ByteArray) :=
  ([k_empty, k_swum, k_ratified, k_void] : List ByteArray)
def tumbref2_dash (p_s : ByteArray) : ByteArray :=
  if decide (p_s = k_empty) then
  k__2d
  else
  p_s
def tumbref2_StepLines_l1 (j1 : ByteArray → Option ByteArray) : List GStep → Nat → ByteArray → Option ByteArray
  | [], _, x1 => j1 x1
  | y1 :: ys1, i1, x1 => Option.bind (tumbref2_numbers [y1.At]) (fun r1 =>
  Chk (decide (r1.size + k__20.size < 1073741824)) (
  Chk (inB y1.Kind tumbref2_stepWords.length) (
  Chk (decide ((r1 ++ k__20).size + (nth tumbref2_stepWords y1.Kind).size < 1073741824)) (
  Chk (decide (((r1 ++ k__20) ++ (nth tumbref2_stepWords y1.Kind)).size + k__20.size < 1073741824)) (
  Chk (decide ((((r1 ++ k__20) ++ (nth tumbref2_stepWords y1.Kind)) ++ k__20).size + y1.Id.size < 1073741824)) (
  Chk (decide (x1.size + ((((r1 ++ k__20) ++ (nth tumbref2_stepWords y1.Kind)) ++ k__20) ++ y1.Id).size < 1073741824)) (
  Join (fun (x2 : ByteArray) =>
  Chk (decide (x2.size + k__0a.size < 1073741824)) (
  tumbref2_StepLines_l1 j1 ys1 (i1 + 1) (x2 ++ k__0a))) (fun j2 =>
  if decide (y1.Kind = 1) then
  Join (fun (x3 : ByteArray) =>
  j2 x3) (fun j3 =>
  Chk (decide (k__20.size + y1.Who.size < 1073741824)) (
  Chk (decide ((k__20 ++ y1.Who).size + k__20.size < 1073741824)) (
  Chk (decide (((k__20 ++ y1.Who) ++ k__20).size + (tumbref2_dash y1.Club).size < 1073741824)) (
  Chk (decide ((((k__20 ++ y1.Who) ++ k__20) ++ (tumbref2_dash y1.Club)).size + k__20.size < 1073741824)) (
  Chk (decide (((((k__20 ++ y1.Who) ++ k__20) ++ (tumbref2_dash y1.Club)) ++ k__20).size + y1.Race.size < 1073741824)) (
  Chk (decide ((((((k__20 ++ y1.Who) ++ k__20) ++ (tumbref2_dash y1.Club)) ++ k__20) ++ y1.Race).size + k__20.size < 1073741824)) (
  Option.bind (tumbref2_numbers [y1.Age, y1.Time]) (fun r2 =>
  Chk (decide (((((((k__20 ++ y1.Who) ++ k__20) ++ (tumbref2_dash y1.Club)) ++ k__20) ++ y1.Race) ++ k__20).size + r2.size < 1073741824)) (
  Chk (decide ((x1 ++ ((((r1 ++ k__20) ++ (nth tumbref2_stepWords y1.Kind)) ++ k__20) ++ y1.Id)).size + (((((((k__20 ++ y1.Who) ++ k__20) ++ (tumbref2_dash y1.Club)) ++ k__20) ++ y1.Race) ++ k__20) ++ r2).size < 1073741824)) (
  j3 ((x1 ++ ((((r1 ++ k__20) ++ (nth tumbref2_stepWords y1.Kind)) ++ k__20) ++ y1.Id)) ++ (((((((k__20 ++ y1.Who) ++ k__20) ++ (tumbref2_dash y1.Club)) ++ k__20) ++ y1.Race) ++ k__20) ++ r2))))))))))))
  else
  j2 (x1 ++ ((((r1 ++ k__20) ++ (nth tumbref2_stepWords y1.Kind)) ++ k__20) ++ y1.Id))))))))))
def tumbref2_StepLines (p_l : List GStep) : Option ByteArray :=
  Join (fun (x1 : ByteArray) =>
  some x1) (fun j1 =>
  tumbref2_StepLines_l1 j1 p_l 0 k_empty)
def Stream_Changed (p_s_L : List Int) (p_s_at : Int) (p_t : ByteArray) (p_with : ByteArray) : Option (ByteArray × Int) :=
  if ((decide (p_t = k_empty)) || (decide (p_with = k_empty))) then
  some (p_with, p_s_at)
  else
  Option.bind (Stream_Next p_s_L p_s_at (p_t.size : Int)) (fun r1 =>
  Option.bind (Stream_Next p_s_L r1.2 (p_with.size : Int)) (fun r2 =>
  Chk (inB r2.1 p_with.size) (
  Option.bind (Stream_Next p_s_L r2.2 3) (fun r3 =>
  if decide (r3.1 = 0) then
  Chk (cutB 0 r1.1 p_t.size) (
  Chk (decide ((scut p_t 0 r1.1).size + (Utf8.encode (IntKind.wrap .i32 (sbyte p_with r2.1))).size < 1073741824)) (
  Chk (cutB (W (r1.1 + 1)) (p_t.size : Int) p_t.size) (
  Chk (decide (((scut p_t 0 r1.1) ++ (Utf8.encode (IntKind.wrap .i32 (sbyte p_with r2.1)))).size + (scut p_t (W (r1.1 + 1)) p_t.size).size < 1073741824)) (
  some (((scut p_t 0 r1.1) ++ (Utf8.encode (IntKind.wrap .i32 (sbyte p_with r2.1)))) ++ (scut p_t (W (r1.1 + 1)) p_t.size), r3.2)))))
  else
  if decide (r3.1 = 1) then
  Chk (cutB 0 r1.1 p_t.size) (
  Chk (decide ((scut p_t 0 r1.1).size + (Utf8.encode (IntKind.wrap .i32 (sbyte p_with r2.1))).size < 1073741824)) (
  Chk (cutB r1.1 (p_t.size : Int) p_t.size) (
  Chk (decide (((scut p_t 0 r1.1) ++ (Utf8.encode (IntKind.wrap .i32 (sbyte p_with r2.1)))).size + (scut p_t r1.1 p_t.size).size < 1073741824)) (
  some (((scut p_t 0 r1.1) ++ (Utf8.encode (IntKind.wrap .i32 (sbyte p_with r2.1)))) ++ (scut p_t r1.1 p_t.size), r3.2)))))
  else
  Chk (cutB 0 r1.1 p_t.size) (
  Chk (cutB (W (r1.1 + 1)) (p_t.size : Int) p_t.size) (
  Chk (decide ((scut p_t 0 r1.1).size + (scut p_t (W (r1.1 + 1)) p_t.size).size < 1073741824)) (
  some ((scut p_t 0 r1.1) ++ (scut p_t (W (r1.1 + 1)) p_t.size), r3.2))))))))
def Stream_StepText_l1 (r4 : Int × Int) (p_s_L : List Int) (j1 : Int → ByteArray → Option (ByteArray × Int)) : Nat → Int → ByteArray → Int → Option (ByteArray × Int)
  | 0, _, _, _ => none
  | m1 + 1, x1, x2, x3 => if decide (x3 < r4.1) then
  Option.bind (Stream_Changed p_s_L x1 x2 k__20_0a0_2d9ivr) (fun r5 =>
  Stream_StepText_l1 r4 p_s_L j1 m1 r5.2 r5.1 (W (x3 + 1)))
  else
  j1 x1 x2
def Stream_StepText (p_s_L : List Int) (p_s_at : Int) : Option (ByteArray × Int) :=
  Option.bind (Stream_Range p_s_L p_s_at 0 4) (fun r1 =>
  Option.bind (Stream_RightSteps p_s_L r1.2 r1.1) (fun r2 =>
  Option.bind (tumbref2_StepLines r2.1) (fun r3 =>
  Option.bind (Stream_Pick p_s_L r2.2 [0, 0, 1, 2]) (fun r4 =>
  Join (fun (x1 : Int) (x2 : ByteArray) =>
  some (x2, x1)) (fun j1 =>
  Stream_StepText_l1 r4 p_s_L j1 ((r4.1 - 0).toNat + 2) r4.2 r3 0)))))
def words_IsMoment (p_n : Int) : Bool :=
  ((decide (0 ≤ p_n)) && (decide (p_n < 345686400000)))
def words_Within (p_n : Int) (p_low : Int) (p_high : Int) : Bool :=
  ((decide (p_low ≤ p_n)) && (decide (p_n ≤ p_high)))
def strings_Trim (s c : ByteArray) : Option ByteArray :=
  Chk (decide (s.size ≤ 9223372036854775807)) (Chk (decide (c.size < 4294967281)) (Chk (c.data.toList.all fun b => decide (b.toNat < 128)) (some ⟨(Lib.trimS s.data.toList c.data.toList).toArray⟩)))
def words_IsKey (p_s : ByteArray) : Option Bool :=
  Join (fun (c1 : Bool) =>
  Join (fun (c2 : Bool) =>
  Join (fun (c3 : Bool) =>
  some c3) (fun j3 =>
  if c2 then Option.bind (strings_Trim p_s k_abcdefghijkl_h0e2e2c) (fun r1 =>
  j3 (c2 && (decide (r1 = k_empty)))) else j3 (c2 && true))) (fun j2 =>
  if c1 then Chk (inB 0 p_s.size) (
  j2 (c1 && (decide ((sbyte p_s 0) ≤ 122)))) else j2 (c1 && true))) (fun j1 =>
  if ((decide (1 ≤ (p_s.size : Int))) && (decide ((p_s.size : Int) ≤ 40))) then Chk (inB 0 p_s.size) (
  j1 (((decide (1 ≤ (p_s.size : Int))) && (decide ((p_s.size : Int) ≤ 40))) && (decide (97 ≤ (sbyte p_s 0))))) else j1 (((decide (1 ≤ (p_s.size : Int))) && (decide ((p_s.size : Int) ≤ 40))) && true))
def timing_IsTime (p_n : Int) : Bool :=
  (words_Within p_n 1 360000)
def record_checkStep (p_x : GStep) : Option Int :=
  Join (some 0) (fun j1 =>
  if !(words_IsMoment p_x.At) then
  some 1
  else
  if !(words_Within p_x.Kind 1 3) then
  some 4
  else
  Option.bind (words_IsKey p_x.Id) (fun r1 =>
  if !r1 then
  some 5
  else
  Join (j1) (fun j2 =>
  if !decide (p_x.Kind = 1) then
  if !decide (p_x = (GStep.mk p_x.At p_x.Kind p_x.Id k_empty k_empty k_empty 0 0)) then
  some 3
  else
  j2
  else
  Option.bind (words_IsKey p_x.Who) (fun r2 =>
  Join (fun (c1 : Bool) =>
  Join (fun (c2 : Bool) =>
  if c2 then
  some 5
  else
  if ((!(words_Within p_x.Age 0 150)) || (!(timing_IsTime p_x.Time))) then
  some 1
  else
  j2) (fun j4 =>
  if c1 then j4 (c1 || true) else Join (fun (c3 : Bool) =>
  j4 (c1 || c3)) (fun j5 =>
  if (!decide (p_x.Club = k_empty)) then Option.bind (words_IsKey p_x.Club) (fun r4 =>
  j5 ((!decide (p_x.Club = k_empty)) && (!r4))) else j5 ((!decide (p_x.Club = k_empty)) && true)))) (fun j3 =>
  if (!r2) then j3 ((!r2) || true) else Option.bind (words_IsKey p_x.Race) (fun r3 =>
  j3 ((!r2) || (!r3))))))))
def cmp_isNaN_int (p_x : Int) : Bool :=
  !decide (p_x = p_x)
def cmp_Compare_int (p_x : Int) (p_y : Int) : Int :=
  if (cmp_isNaN_int p_x) then
  if (cmp_isNaN_int p_y) then
  0
  else
  (-1)
  else
  if (cmp_isNaN_int p_y) then
  1
  else
  if decide (p_x < p_y) then
  (-1)
  else
  if decide (p_y < p_x) then
  1
  else
  0
def cmp_Or_int_l1 (j1 : Int) : List Int → Nat → Int
  | [], _ => j1
  | y1 :: ys1, i1 => if !decide (y1 = 0) then
  y1
  else
  cmp_Or_int_l1 j1 ys1 (i1 + 1)
def cmp_Or_int (p_vals : List Int) : Int :=
  Join (0) (fun j1 =>
  cmp_Or_int_l1 j1 p_vals 0)
def record_compare (p_a : GStep) (p_b : GStep) : Int :=
  (cmp_Or_int [(cmp_Compare_int p_a.At p_b.At), (strings_Compare p_a.Id p_b.Id), (cmp_Compare_int p_a.Kind p_b.Kind)])
def record_CheckSteps_l1 (p_l : List GStep) (j1 : Option Int) : List GStep → Nat → Option Int
  | [], _ => j1
  | y1 :: ys1, i1 => Option.bind (record_checkStep y1) (fun r1 =>
  if !decide (r1 = 0) then
  some r1
  else
  Join (fun (x1 : Bool) =>
  if x1 then
  some 7
  else
  record_CheckSteps_l1 p_l j1 ys1 (i1 + 1)) (fun j2 =>
  if decide (0 < (i1 : Int)) then
  Chk (inB (W ((i1 : Int) - 1)) p_l.length) (
  j2 (decide (0 ≤ (record_compare (nth p_l (W ((i1 : Int) - 1))) y1))))
  else
  j2 false))
def record_CheckSteps (p_l : List GStep) : Option Int :=
  if decide (1000 < (p_l.length : Int)) then
  some 2
  else
  Join (some 0) (fun j1 =>
  record_CheckSteps_l1 p_l j1 p_l 0)
def record_kinds : (List ByteArray) :=
  ([k_swum, k_ratified, k_void] : List ByteArray)
def words_Dash (p_s : ByteArray) : ByteArray :=
  if decide (p_s = k_empty) then
  k__2d
  else
  p_s
def record_Text_l1 (j1 : ByteArray → Bool → Option (ByteArray × Int)) : List GStep → Nat → ByteArray → Bool → Option (ByteArray × Int)
  | [], _, x1, x2 => j1 x1 x2
  | y1 :: ys1, i1, x1, _ => Option.bind (strconv_Itoa y1.At) (fun r2 =>
  Chk (inB (W (y1.Kind - 1)) record_kinds.length) (
  Join (fun (x3 : List ByteArray) =>
  Option.bind (strings_Join x3 k__20) (fun r5 =>
  Chk (decide (r5.size + k__0a.size < 1073741824)) (
  Chk (decide (x1.size + (r5 ++ k__0a).size ≤ 140737488355328)) (
  record_Text_l1 j1 ys1 (i1 + 1) (x1 ++ (r5 ++ k__0a)) true)))) (fun j2 =>
  if decide (y1.Kind = 1) then
  Option.bind (strconv_Itoa y1.Age) (fun r3 =>
  Option.bind (strconv_Itoa y1.Time) (fun r4 =>
  Chk (room ([r2, (nth record_kinds (W (y1.Kind - 1))), y1.Id] : List ByteArray).length) (
  j2 (([r2, (nth record_kinds (W (y1.Kind - 1))), y1.Id] : List ByteArray) ++ [y1.Who, (words_Dash y1.Club), y1.Race, r3, r4]))))
  else
  j2 ([r2, (nth record_kinds (W (y1.Kind - 1))), y1.Id] : List ByteArray))))
def record_Text (p_l : List GStep) : Option (ByteArray × Int) :=
  Option.bind (record_CheckSteps p_l) (fun r1 =>
  if !decide (r1 = 0) then
  some (k_empty, r1)
  else
  Join (fun (x1 : ByteArray) (x2 : Bool) =>
  if decide (200000 < (x1.size : Int)) then
  some (k_empty, 2)
  else
  some (x1, 0)) (fun j1 =>
  record_Text_l1 j1 p_l 0 ByteArray.empty false))
def strings_Cut (s : ByteArray) (sep : ByteArray) : Option (ByteArray × ByteArray × Bool) :=
  Chk (decide (s.size < 4294967281)) (some ((⟨(Lib.cut s.data.toList sep.data.toList).1.toArray⟩, ⟨(Lib.cut s.data.toList sep.data.toList).2.1.toArray⟩, (Lib.cut s.data.toList sep.data.toList).2.2)))
def strings_Split (s : ByteArray) (sep : ByteArray) : Option (List ByteArray) :=
  Chk (decide (s.size < 4294967281) && decide (1 ≤ sep.size)) (some (Lib.splitB sep 0 (Lib.countB s sep) s))
def words_Split_l1 (j1 : Option ((List ByteArray) × Bool)) : List ByteArray → Nat → Option ((List ByteArray) × Bool)
  | [], _ => j1
  | y1 :: ys1, i1 => if decide (y1 = k_empty) then
  some (([] : List ByteArray), false)
  else
  words_Split_l1 j1 ys1 (i1 + 1)
def words_Split (p_line : ByteArray) : Option ((List ByteArray) × Bool) :=
  Option.bind (strings_Split p_line k__20) (fun r1 =>
  Join (some (r1, true)) (fun j1 =>
  words_Split_l1 j1 r1 0))
def strings_CutPrefix (s : ByteArray) (p : ByteArray) : ByteArray × Bool :=
  (⟨(Lib.trimPrefix s.data.toList p.data.toList).toArray⟩, Lib.hasPrefix s.data.toList p.data.toList)
def strconv_Atoi (s : ByteArray) : Option Int :=
  Chk (decide (s.size ≤ 18)) (Lib.atoi s.data.toList)
def words_Number (p_s : ByteArray) (p_most : Int) : Option (Int × Bool) :=
  Join (fun (c1 : Bool) =>
  Join (fun (c2 : Bool) =>
  if c2 then
  some (0, false)
  else
  Option.bind (strconv_Atoi p_s) (fun r2 =>
  some (r2, true))) (fun j2 =>
  if c1 then j2 (c1 || true) else Chk (inB 0 ((strings_CutPrefix p_s k__2d).1).size) (
  j2 (c1 || ((decide ((sbyte ((strings_CutPrefix p_s k__2d).1) 0) = 48)) && ((!decide (((strings_CutPrefix p_s k__2d).1) = k_0)) || ((strings_CutPrefix p_s k__2d).2))))))) (fun j1 =>
  if ((decide (((strings_CutPrefix p_s k__2d).1) = k_empty)) || (decide (p_most < (((strings_CutPrefix p_s k__2d).1).size : Int)))) then j1 (((decide (((strings_CutPrefix p_s k__2d).1) = k_empty)) || (decide (p_most < (((strings_CutPrefix p_s k__2d).1).size : Int)))) || true) else Option.bind (strings_Trim ((strings_CutPrefix p_s k__2d).1) k_0123456789) (fun r1 =>
  j1 (((decide (((strings_CutPrefix p_s k__2d).1) = k_empty)) || (decide (p_most < (((strings_CutPrefix p_s k__2d).1).size : Int)))) || (!decide (r1 = k_empty)))))
def slices_Index_string_l1 (p_v : ByteArray) (j1 : Int) : List ByteArray → Nat → Int
  | [], _ => j1
  | y1 :: ys1, i1 => if decide (p_v = y1) then
  (i1 : Int)
  else
  slices_Index_string_l1 p_v j1 ys1 (i1 + 1)
def slices_Index_string (p_s : List ByteArray) (p_v : ByteArray) : Int :=
  Join ((-1)) (fun j1 =>
  slices_Index_string_l1 p_v j1 p_s 0)
def words_Numbers_l1 (p_most : Int) (j1 : (List Int) → Option ((List Int) × Bool)) : List ByteArray → Nat → (List Int) → Option ((List Int) × Bool)
  | [], _, x1 => j1 x1
  | y1 :: ys1, i1, x1 => Option.bind (words_Number y1 p_most) (fun r1 =>
  if !r1.2 then
  some (([] : List Int), false)
  else
  Chk (room x1.length) (
  words_Numbers_l1 p_most j1 ys1 (i1 + 1) (x1 ++ [r1.1])))
def words_Numbers (p_l : List ByteArray) (p_most : Int) : Option ((List Int) × Bool) :=
  Join (fun (x1 : List Int) =>
  some (x1, true)) (fun j1 =>
  words_Numbers_l1 p_most j1 p_l 0 ([] : List Int))
def words_Undash (p_s : ByteArray) : ByteArray :=
  if decide (p_s = k__2d) then
  k_empty
  else
  p_s
def record_readStep (p_line : ByteArray) : Option (GStep × Bool) :=
  Option.bind (words_Split p_line) (fun r1 =>
  if ((!r1.2) || (decide ((r1.1.length : Int) < 3))) then
  some ((GStep.mk 0 0 k_empty k_empty k_empty k_empty 0 0), false)
  else
  Chk (inB 0 r1.1.length) (
  Option.bind (words_Number (nth r1.1 0) 15) (fun r2 =>
  Chk (inB 1 r1.1.length) (
  Chk (inB 2 r1.1.length) (
  if ((!r2.2) || (!decide ((W ((slices_Index_string record_kinds (nth r1.1 1)) + 1)) = 1))) then
  some ((GStep.mk r2.1 (W ((slices_Index_string record_kinds (nth r1.1 1)) + 1)) (nth r1.1 2) k_empty k_empty k_empty 0 0), ((r2.2 && (decide (0 < (W ((slices_Index_string record_kinds (nth r1.1 1)) + 1))))) && (decide ((r1.1.length : Int) = 3))))
  else
  if !decide ((r1.1.length : Int) = 8) then
  some ((GStep.mk r2.1 (W ((slices_Index_string record_kinds (nth r1.1 1)) + 1)) (nth r1.1 2) k_empty k_empty k_empty 0 0), false)
  else
  Chk (cutB 6 (r1.1.length : Int) r1.1.length) (
  Option.bind (words_Numbers (cut r1.1 6 r1.1.length) 15) (fun r3 =>
  if !r3.2 then
  some ((GStep.mk r2.1 (W ((slices_Index_string record_kinds (nth r1.1 1)) + 1)) (nth r1.1 2) k_empty k_empty k_empty 0 0), false)
  else
  Chk (inB 3 r1.1.length) (
  Chk (inB 4 r1.1.length) (
  Chk (inB 5 r1.1.length) (
  Chk (inB 0 r3.1.length) (
  Chk (inB 1 r3.1.length) (
  some ((GStep.mk r2.1 (W ((slices_Index_string record_kinds (nth r1.1 1)) + 1)) (nth r1.1 2) (nth r1.1 3) (words_Undash (nth r1.1 4)) (nth r1.1 5) (nth r3.1 0) (nth r3.1 1)), true)))))))))))))
def record_Read_c1 (p_line : ByteArray) (p_a1 : List GStep) : Option (Bool × (List GStep)) :=
  Option.bind (record_readStep p_line) (fun r1 =>
  Chk (room p_a1.length) (
  some (r1.2, (p_a1 ++ [r1.1]))))
def words_Lines_record_Read_c1_l1 (j1 : (List GStep) → Option (Int × Bool × (List GStep))) : Nat → (List GStep) → ByteArray → Int → Option (Int × Bool × (List GStep))
  | 0, _, _, _ => none
  | m1 + 1, x1, x2, x3 => if !decide (x2 = k_empty) then
  Option.bind (strings_Cut x2 k__0a) (fun r1 =>
  Join (fun (x4 : List GStep) (x5 : Bool) =>
  if x5 then
  some (x3, false, x4)
  else
  words_Lines_record_Read_c1_l1 j1 m1 x4 r1.2.1 (W (x3 + 1))) (fun j2 =>
  if (!r1.2.2) then
  j2 x1 true
  else
  Option.bind (record_Read_c1 r1.1 x1) (fun r2 =>
  j2 r2.2 (!r2.1))))
  else
  j1 x1
def words_Lines_record_Read_c1 (p_text : ByteArray) (p_take_0 : List GStep) : Option (Int × Bool × (List GStep)) :=
  Join (fun (x1 : List GStep) =>
  some (0, true, x1)) (fun j1 =>
  words_Lines_record_Read_c1_l1 j1 4611686018427387904 p_take_0 p_text 0)
def record_Read (p_text : ByteArray) : Option ((List GStep) × Int × Int) :=
  if decide (200000 < (p_text.size : Int)) then
  some (([] : List GStep), 0, 2)
  else
  Option.bind (words_Lines_record_Read_c1 p_text ([] : List GStep)) (fun r1 =>
  if !r1.2.1 then
  some (([] : List GStep), r1.1, 9)
  else
  Option.bind (record_CheckSteps r1.2.2) (fun r2 =>
  if !decide (r2 = 0) then
  some (([] : List GStep), 0, r2)
  else
  some (r1.2.2, 0, 0)))
def slices_Contains_string (p_s : List ByteArray) (p_v : ByteArray) : Bool :=
  decide (0 ≤ (slices_Index_string p_s p_v))
def tumbref2_Words (p_line : ByteArray) : Option ((List ByteArray) × Bool) :=
  Option.bind (strings_Split p_line k__20) (fun r1 =>
  some (r1, !(slices_Contains_string r1 k_empty)))
def strings_TrimPrefix (s : ByteArray) (p : ByteArray) : ByteArray :=
  ⟨(Lib.trimPrefix s.data.toList p.data.toList).toArray⟩
def tumbref2_Number (p_s : ByteArray) (p_most : Int) : Option (Int × Bool) :=
  Join (fun (c1 : Bool) =>
  if c1 then
  some (0, false)
  else
  Option.bind (strconv_Atoi p_s) (fun r2 =>
  Join (fun (c2 : Bool) =>
  some (r2, c2)) (fun j2 =>
  if true then Option.bind (strconv_Itoa r2) (fun r3 =>
  j2 (true && (decide (r3 = p_s)))) else j2 (true && true)))) (fun j1 =>
  if ((decide ((strings_TrimPrefix p_s k__2d) = k_empty)) || (decide (p_most < ((strings_TrimPrefix p_s k__2d).size : Int)))) then j1 (((decide ((strings_TrimPrefix p_s k__2d) = k_empty)) || (decide (p_most < ((strings_TrimPrefix p_s k__2d).size : Int)))) || true) else Option.bind (tumbref2_only (strings_TrimPrefix p_s k__2d) k_0123456789) (fun r1 =>
  j1 (((decide ((strings_TrimPrefix p_s k__2d) = k_empty)) || (decide (p_most < ((strings_TrimPrefix p_s k__2d).size : Int)))) || (!r1))))
def tumbref2_numbersIn_l1 (p_most : Int) (j1 : (List Int) → Bool → Option ((List Int) × Bool)) : List ByteArray → Nat → (List Int) → Bool → Option ((List Int) × Bool)
  | [], _, x1, x2 => j1 x1 x2
  | y1 :: ys1, i1, x1, x2 => Option.bind (tumbref2_Number y1 p_most) (fun r1 =>
  Chk (room x1.length) (
  tumbref2_numbersIn_l1 p_most j1 ys1 (i1 + 1) (x1 ++ [r1.1]) (x2 && r1.2)))
def tumbref2_numbersIn (p_l : List ByteArray) (p_most : Int) : Option ((List Int) × Bool) :=
  Join (fun (x1 : List Int) (x2 : Bool) =>
  some (x1, x2)) (fun j1 =>
  tumbref2_numbersIn_l1 p_most j1 p_l 0 ([] : List Int) true)
def tumbref2_undash (p_s : ByteArray) : ByteArray :=
  if decide (p_s = k__2d) then
  k_empty
  else
  p_s
def tumbref2_StepsRead_c1 (p_line : ByteArray) (p_a1 : List GStep) : Option (Bool × (List GStep)) :=
  Option.bind (tumbref2_Words p_line) (fun r1 =>
  if ((!r1.2) || (decide ((r1.1.length : Int) < 3))) then
  some (false, p_a1)
  else
  Chk (inB 0 r1.1.length) (
  Option.bind (tumbref2_Number (nth r1.1 0) 15) (fun r2 =>
  Join (if decide ((slices_Index_string tumbref2_stepWords (nth r1.1 1)) < 1) then
  some (false, p_a1)
  else
  if decide (1 < (slices_Index_string tumbref2_stepWords (nth r1.1 1))) then
  Chk (room p_a1.length) (
  some ((r2.2 && (decide ((r1.1.length : Int) = 3))), (p_a1 ++ [(GStep.mk r2.1 (slices_Index_string tumbref2_stepWords (nth r1.1 1)) (nth r1.1 2) k_empty k_empty k_empty 0 0)])))
  else
  if !decide ((r1.1.length : Int) = 8) then
  some (false, p_a1)
  else
  Chk (cutB 6 (r1.1.length : Int) r1.1.length) (
  Option.bind (tumbref2_numbersIn (cut r1.1 6 r1.1.length) 15) (fun r3 =>
  Chk (inB 3 r1.1.length) (
  Chk (inB 4 r1.1.length) (
  Chk (inB 5 r1.1.length) (
  Chk (inB 0 r3.1.length) (
  Chk (inB 1 r3.1.length) (
  Chk (room p_a1.length) (
  some ((r2.2 && r3.2), (p_a1 ++ [(GStep.mk r2.1 (slices_Index_string tumbref2_stepWords (nth r1.1 1)) (nth r1.1 2) (nth r1.1 3) (tumbref2_undash (nth r1.1 4)) (nth r1.1 5) (nth r3.1 0) (nth r3.1 1))]))))))))))) (fun j1 =>
  Chk (inB 1 r1.1.length) (
  Chk (inB 2 r1.1.length) (
  j1))))))
def tumbref2_Lines_tumbref2_StepsRead_c1_l1 (j1 : (List GStep) → Option (Int × Bool × (List GStep))) : Nat → (List GStep) → ByteArray → Int → Option (Int × Bool × (List GStep))
  | 0, _, _, _ => none
  | m1 + 1, x1, x2, x3 => if !decide (x2 = k_empty) then
  Option.bind (strings_Cut x2 k__0a) (fun r1 =>
  Join (fun (x4 : List GStep) (x5 : Bool) =>
  if x5 then
  some (x3, false, x4)
  else
  tumbref2_Lines_tumbref2_StepsRead_c1_l1 j1 m1 x4 r1.2.1 (W (x3 + 1))) (fun j2 =>
  if (!r1.2.2) then
  j2 x1 true
  else
  Option.bind (tumbref2_StepsRead_c1 r1.1 x1) (fun r2 =>
  j2 r2.2 (!r2.1))))
  else
  j1 x1
def tumbref2_Lines_tumbref2_StepsRead_c1 (p_text : ByteArray) (p_take_0 : List GStep) : Option (Int × Bool × (List GStep)) :=
  Join (fun (x1 : List GStep) =>
  some (0, true, x1)) (fun j1 =>
  tumbref2_Lines_tumbref2_StepsRead_c1_l1 j1 4611686018427387904 p_take_0 p_text 0)
def tumbref2_StepsRead (p_text : ByteArray) : Option ((List GStep) × Int × Int) :=
  if decide (200000 < (p_text.size : Int)) then
  some (([] : List GStep), 0, 2)
  else
  Option.bind (tumbref2_Lines_tumbref2_StepsRead_c1 p_text ([] : List GStep)) (fun r1 =>
  if !r1.2.1 then
  some (([] : List GStep), r1.1, 9)
  else
  Option.bind (tumbref2_StepsFault r1.2.2) (fun r2 =>
  if !decide (r2 = 0) then
  some (([] : List GStep), 0, r2)
  else
  some (r1.2.2, 0, 0)))
def slices_Equal_Step_l1 (p_s2 : List GStep) (j1 : Option Bool) : List GStep → Nat → Option Bool
  | [], _ => j1
  | y1 :: ys1, i1 => Chk (inB (i1 : Int) p_s2.length) (
  if !decide (y1 = (nth p_s2 (i1 : Int))) then
  some false
  else
  slices_Equal_Step_l1 p_s2 j1 ys1 (i1 + 1))
def slices_Equal_Step (p_s1 : List GStep) (p_s2 : List GStep) : Option Bool :=
  if !decide ((p_s1.length : Int) = (p_s2.length : Int)) then
  some false
  else
  Join (some true) (fun j1 =>
  slices_Equal_Step_l1 p_s2 j1 p_s1 0)
def record_CheckKinds_l2 (y1 : GKind) (j4 : Option Int) : List ByteArray → Nat → Option Int
  | [], _ => j4
  | y2 :: ys2, i2 => Option.bind (words_IsKey y2) (fun r5 =>
  if !r5 then
  some 5
  else
  Join (fun (c3 : Bool) =>
  if c3 then
  some 7
  else
  record_CheckKinds_l2 y1 j4 ys2 (i2 + 1)) (fun j5 =>
  if (decide (0 < (i2 : Int))) then Chk (inB (W ((i2 : Int) - 1)) y1.Clubs.length) (
  j5 ((decide (0 < (i2 : Int))) && (Sless y2 (nth y1.Clubs (W ((i2 : Int) - 1))) || decide (y2 = (nth y1.Clubs (W ((i2 : Int) - 1))))))) else j5 ((decide (0 < (i2 : Int))) && true)))
def record_CheckKinds_l1 (p_l : List GKind) (j1 : Option Int) : List GKind → Nat → Option Int
  | [], _ => j1
  | y1 :: ys1, i1 => Option.bind (words_IsKey y1.Key) (fun r2 =>
  Join (fun (c1 : Bool) =>
  if c1 then
  some 5
  else
  Join (fun (c2 : Bool) =>
  if c2 then
  some 7
  else
  if decide (100 < (y1.Clubs.length : Int)) then
  some 2
  else
  Join (if (((decide (y1.Young < 0)) || (decide (y1.Old < y1.Young))) || (decide (150 < y1.Old))) then
  some 1
  else
  record_CheckKinds_l1 p_l j1 ys1 (i1 + 1)) (fun j4 =>
  record_CheckKinds_l2 y1 j4 y1.Clubs 0)) (fun j3 =>
  if (decide (0 < (i1 : Int))) then Chk (inB (W ((i1 : Int) - 1)) p_l.length) (
  j3 ((decide (0 < (i1 : Int))) && (Sless y1.Key ((nth p_l (W ((i1 : Int) - 1))).Key) || decide (y1.Key = ((nth p_l (W ((i1 : Int) - 1))).Key))))) else j3 ((decide (0 < (i1 : Int))) && true))) (fun j2 =>
  if (!r2) then j2 ((!r2) || true) else Option.bind (words_IsKey y1.Race) (fun r3 =>
  j2 ((!r2) || (!r3)))))
def record_CheckKinds (p_l : List GKind) : Option Int :=
  if decide (50 < (p_l.length : Int)) then
  some 2
  else
  Join (some 0) (fun j1 =>
  record_CheckKinds_l1 p_l j1 p_l 0)
def record_checkSwum (p_s : GStep) : Option Int :=
  Option.bind (record_checkStep p_s) (fun r1 =>
  if !decide (r1 = 0) then
  some r1
  else
  if !decide (p_s.Kind = 1) then
  some 4
  else
  some 0)
def record_isFor (p_k : GKind) (p_s : GStep) : Bool :=
  (((decide (p_s.Race = p_k.Race)) && ((decide ((p_k.Clubs.length : Int) = 0)) || (slices_Contains_string p_k.Clubs p_s.Club))) && (words_Within p_s.Age p_k.Young p_k.Old))
def record_For_l1 (p_s : GStep) (j1 : (List ByteArray) → Option ((List ByteArray) × Int)) : List GKind → Nat → (List ByteArray) → Option ((List ByteArray) × Int)
  | [], _, x1 => j1 x1
  | y1 :: ys1, i1, x1 => Join (fun (x2 : List ByteArray) =>
  record_For_l1 p_s j1 ys1 (i1 + 1) x2) (fun j2 =>
  Join (fun (x3 : List ByteArray) =>
  j2 x3) (fun j3 =>
  if (record_isFor y1 p_s) then
  Chk (room x1.length) (
  j3 (x1 ++ [y1.Key]))
  else
  j3 x1))
def record_For (p_l : List GKind) (p_s : GStep) : Option ((List ByteArray) × Int) :=
  Option.bind (record_CheckKinds p_l) (fun r1 =>
  if !decide (r1 = 0) then
  some (([] : List ByteArray), r1)
  else
  Option.bind (record_checkSwum p_s) (fun r2 =>
  if !decide (r2 = 0) then
  some (([] : List ByteArray), r2)
  else
  Join (fun (x1 : List ByteArray) =>
  some (x1, 0)) (fun j1 =>
  record_For_l1 p_s j1 p_l 0 ([] : List ByteArray))))
def slices_Equal_string_l1 (p_s2 : List ByteArray) (j1 : Option Bool) : List ByteArray → Nat → Option Bool
  | [], _ => j1
  | y1 :: ys1, i1 => Chk (inB (i1 : Int) p_s2.length) (
  if !decide (y1 = (nth p_s2 (i1 : Int))) then
  some false
  else
  slices_Equal_string_l1 p_s2 j1 ys1 (i1 + 1))
def slices_Equal_string (p_s1 : List ByteArray) (p_s2 : List ByteArray) : Option Bool :=
  if !decide ((p_s1.length : Int) = (p_s2.length : Int)) then
  some false
  else
  Join (some true) (fun j1 =>
  slices_Equal_string_l1 p_s2 j1 p_s1 0)
def tumblaw2_recorded : Option Bool :=
  Option.bind (record_For ([(GKind.mk k_k k_r ([] : List ByteArray) 0 9)] : List GKind) (GStep.mk 0 1 k_i k_a k_empty k_r 0 5)) (fun r1 =>
  Join (fun (c1 : Bool) =>
  some c1) (fun j1 =>
  if (decide (r1.2 = 0)) then Option.bind (slices_Equal_string r1.1 [k_k]) (fun r2 =>
  j1 ((decide (r1.2 = 0)) && r2)) else j1 ((decide (r1.2 = 0)) && true)))
def tumblaw2_StepTexts (p_l : List Int) : Option Bool :=
  Option.bind (Stream_Range p_l 0 0 6) (fun r1 =>
  Option.bind (Stream_Steps p_l r1.2 r1.1) (fun r2 =>
  Option.bind (Stream_StepText p_l r2.2) (fun r3 =>
  Option.bind (record_Text r2.1) (fun r4 =>
  Option.bind (tumbref2_StepsFault r2.1) (fun r5 =>
  Join (fun (x1 : ByteArray) =>
  Option.bind (record_Read r3.1) (fun r7 =>
  Option.bind (tumbref2_StepsRead r3.1) (fun r8 =>
  Join (fun (c1 : Bool) =>
  Join (fun (c2 : Bool) =>
  some c2) (fun j3 =>
  if ((c1 && (decide (r7.2.1 = r8.2.1))) && (decide (r7.2.2 = r8.2.2))) then Option.bind (tumblaw2_recorded) (fun r10 =>
  j3 (((c1 && (decide (r7.2.1 = r8.2.1))) && (decide (r7.2.2 = r8.2.2))) && r10)) else j3 (((c1 && (decide (r7.2.1 = r8.2.1))) && (decide (r7.2.2 = r8.2.2))) && true))) (fun j2 =>
  if ((decide (r4.2 = r5)) && (decide (r4.1 = x1))) then Option.bind (slices_Equal_Step r7.1 r8.1) (fun r9 =>
  j2 (((decide (r4.2 = r5)) && (decide (r4.1 = x1))) && r9)) else j2 (((decide (r4.2 = r5)) && (decide (r4.1 = x1))) && true))))) (fun j1 =>
  if decide (r5 = 0) then
  Option.bind (tumbref2_StepLines r2.1) (fun r6 =>
  j1 r6)
  else
  j1 k_empty))))))
theorem twin_eqs : True := by
  have h := @slices_insertionSortCmpFunc_Step_tumbref2_StepOrder_l2.eq_def; clear h; have h := @slices_insertionSortCmpFunc_Step_tumbref2_StepOrder_l2.eq_1; clear h; have h := @slices_insertionSortCmpFunc_Step_tumbref2_StepOrder_l2.eq_2; clear h
  have h := @slices_insertionSortCmpFunc_Step_tumbref2_StepOrder_l1.eq_def; clear h; have h := @slices_insertionSortCmpFunc_Step_tumbref2_StepOrder_l1.eq_1; clear h; have h := @slices_insertionSortCmpFunc_Step_tumbref2_StepOrder_l1.eq_2; clear h
  have h := @slices_stableCmpFunc_Step_tumbref2_StepOrder_l1.eq_def; clear h; have h := @slices_stableCmpFunc_Step_tumbref2_StepOrder_l1.eq_1; clear h; have h := @slices_stableCmpFunc_Step_tumbref2_StepOrder_l1.eq_2; clear h
  have h := @slices_stableCmpFunc_Step_tumbref2_StepOrder_l3.eq_def; clear h; have h := @slices_stableCmpFunc_Step_tumbref2_StepOrder_l3.eq_1; clear h; have h := @slices_stableCmpFunc_Step_tumbref2_StepOrder_l3.eq_2; clear h
  have h := @slices_stableCmpFunc_Step_tumbref2_StepOrder_l2.eq_def; clear h; have h := @slices_stableCmpFunc_Step_tumbref2_StepOrder_l2.eq_1; clear h; have h := @slices_stableCmpFunc_Step_tumbref2_StepOrder_l2.eq_2; clear h
  have h := @slices_CompactFunc_Step_Stream_Steps_c1_l2.eq_def; clear h; have h := @slices_CompactFunc_Step_Stream_Steps_c1_l2.eq_1; clear h; have h := @slices_CompactFunc_Step_Stream_Steps_c1_l2.eq_2; clear h
  have h := @slices_CompactFunc_Step_Stream_Steps_c1_l1.eq_def; clear h; have h := @slices_CompactFunc_Step_Stream_Steps_c1_l1.eq_1; clear h; have h := @slices_CompactFunc_Step_Stream_Steps_c1_l1.eq_2; clear h
  have h := @Stream_Steps_l1.eq_def; clear h; have h := @Stream_Steps_l1.eq_1; clear h; have h := @Stream_Steps_l1.eq_2; clear h
  have h := @tumbref2_only_l1.eq_def; clear h; have h := @tumbref2_only_l1.eq_1; clear h; have h := @tumbref2_only_l1.eq_2; clear h
  have h := @tumbref2_StepsFault_l1.eq_def; clear h; have h := @tumbref2_StepsFault_l1.eq_1; clear h; have h := @tumbref2_StepsFault_l1.eq_2; clear h
  have h := @Stream_RightSteps_l1.eq_def; clear h; have h := @Stream_RightSteps_l1.eq_1; clear h; have h := @Stream_RightSteps_l1.eq_2; clear h
  have h := @tumbref2_numbers_l1.eq_def; clear h; have h := @tumbref2_numbers_l1.eq_1; clear h; have h := @tumbref2_numbers_l1.eq_2; clear h
  have h := @tumbref2_StepLines_l1.eq_def; clear h; have h := @tumbref2_StepLines_l1.eq_1; clear h; have h := @tumbref2_StepLines_l1.eq_2; clear h
  have h := @Stream_StepText_l1.eq_def; clear h; have h := @Stream_StepText_l1.eq_1; clear h; have h := @Stream_StepText_l1.eq_2; clear h
  have h := @cmp_Or_int_l1.eq_def; clear h; have h := @cmp_Or_int_l1.eq_1; clear h; have h := @cmp_Or_int_l1.eq_2; clear h
  have h := @record_CheckSteps_l1.eq_def; clear h; have h := @record_CheckSteps_l1.eq_1; clear h; have h := @record_CheckSteps_l1.eq_2; clear h
  have h := @record_Text_l1.eq_def; clear h; have h := @record_Text_l1.eq_1; clear h; have h := @record_Text_l1.eq_2; clear h
  have h := @words_Split_l1.eq_def; clear h; have h := @words_Split_l1.eq_1; clear h; have h := @words_Split_l1.eq_2; clear h
  have h := @slices_Index_string_l1.eq_def; clear h; have h := @slices_Index_string_l1.eq_1; clear h; have h := @slices_Index_string_l1.eq_2; clear h
  have h := @words_Numbers_l1.eq_def; clear h; have h := @words_Numbers_l1.eq_1; clear h; have h := @words_Numbers_l1.eq_2; clear h
  have h := @words_Lines_record_Read_c1_l1.eq_def; clear h; have h := @words_Lines_record_Read_c1_l1.eq_1; clear h; have h := @words_Lines_record_Read_c1_l1.eq_2; clear h
  have h := @tumbref2_numbersIn_l1.eq_def; clear h; have h := @tumbref2_numbersIn_l1.eq_1; clear h; have h := @tumbref2_numbersIn_l1.eq_2; clear h
  have h := @tumbref2_Lines_tumbref2_StepsRead_c1_l1.eq_def; clear h; have h := @tumbref2_Lines_tumbref2_StepsRead_c1_l1.eq_1; clear h; have h := @tumbref2_Lines_tumbref2_StepsRead_c1_l1.eq_2; clear h
  have h := @slices_Equal_Step_l1.eq_def; clear h; have h := @slices_Equal_Step_l1.eq_1; clear h; have h := @slices_Equal_Step_l1.eq_2; clear h
  have h := @record_CheckKinds_l2.eq_def; clear h; have h := @record_CheckKinds_l2.eq_1; clear h; have h := @record_CheckKinds_l2.eq_2; clear h
  have h := @record_CheckKinds_l1.eq_def; clear h; have h := @record_CheckKinds_l1.eq_1; clear h; have h := @record_CheckKinds_l1.eq_2; clear h
  have h := @record_For_l1.eq_def; clear h; have h := @record_For_l1.eq_1; clear h; have h := @record_For_l1.eq_2; clear h
  have h := @slices_Equal_string_l1.eq_def; clear h; have h := @slices_Equal_string_l1.eq_1; clear h; have h := @slices_Equal_string_l1.eq_2; clear h
  trivial
end Go.Proofs.YtamfhhmfioghgaaGreatDoor
