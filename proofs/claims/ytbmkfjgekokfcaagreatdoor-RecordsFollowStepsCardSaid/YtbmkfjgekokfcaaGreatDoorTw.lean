/- The Go functions as plain Lean functions, by program. -/
import Derived.Test.YtbmkfjgekokfcaaGreatDoorBase
namespace Go.Proofs.YtbmkfjgekokfcaaGreatDoor
open Go
noncomputable section
structure Gtumbmake_Stream where
  L : List Int
  at_ : Int
  deriving DecidableEq, Inhabited
structure GKind where
  Key : ByteArray
  Race : ByteArray
  Clubs : List ByteArray
  Young : Int
  Old : Int
  deriving DecidableEq, Inhabited
structure GStep where
  At : Int
  Kind : Int
  Id : ByteArray
  Who : ByteArray
  Club : ByteArray
  Race : ByteArray
  Age : Int
  Time : Int
  deriving DecidableEq, Inhabited
structure Grecord_swum where
  s_ : GStep
  sure_ : Bool
  void_ : Bool
  deriving DecidableEq, Inhabited
structure GBest where
  Kind : ByteArray
  Id : ByteArray
  Who : ByteArray
  Time : Int
  Since : Int
  Sure : Bool
  deriving DecidableEq, Inhabited
structure GDate where
  Year : Int
  Month : Int
  Day : Int
  deriving DecidableEq, Inhabited
structure GItem where
  Key : ByteArray
  Heats : Int
  Long : Int
  Gap : Int
  Break : Int
  deriving DecidableEq, Inhabited
structure GWindow where
  From : Int
  To : Int
  deriving DecidableEq, Inhabited
structure GSlot where
  Item : ByteArray
  Heat : Int
  Time : GWindow
  deriving DecidableEq, Inhabited
structure GBase where
  Race : ByteArray
  Time : Int
  deriving DecidableEq, Inhabited
def k_empty : ByteArray := ⟨#[]⟩
def k_ka : ByteArray := ⟨#[107, 97]⟩
def k_kb : ByteArray := ⟨#[107, 98]⟩
def k_kc : ByteArray := ⟨#[107, 99]⟩
def k_ra : ByteArray := ⟨#[114, 97]⟩
def k_rb : ByteArray := ⟨#[114, 98]⟩
def k_blue : ByteArray := ⟨#[98, 108, 117, 101]⟩
def k_red : ByteArray := ⟨#[114, 101, 100]⟩
def k_ia : ByteArray := ⟨#[105, 97]⟩
def k_ib : ByteArray := ⟨#[105, 98]⟩
def k_ic : ByteArray := ⟨#[105, 99]⟩
def k_id : ByteArray := ⟨#[105, 100]⟩
def k_ie : ByteArray := ⟨#[105, 101]⟩
def k_if : ByteArray := ⟨#[105, 102]⟩
def k_ann : ByteArray := ⟨#[97, 110, 110]⟩
def k_bea : ByteArray := ⟨#[98, 101, 97]⟩
def k_A : ByteArray := ⟨#[65]⟩
def k_abcdefghijklmnopqrstuvwxyz : ByteArray := ⟨#[97, 98, 99, 100, 101, 102, 103, 104, 105, 106, 107, 108, 109, 110, 111, 112, 113, 114, 115, 116, 117, 118, 119, 120, 121, 122]⟩
def k_abcdefghijkl_h0e2e2c : ByteArray := ⟨#[97, 98, 99, 100, 101, 102, 103, 104, 105, 106, 107, 108, 109, 110, 111, 112, 113, 114, 115, 116, 117, 118, 119, 120, 121, 122, 48, 49, 50, 51, 52, 53, 54, 55, 56, 57, 45, 95]⟩
def k_a : ByteArray := ⟨#[97]⟩
def k_r : ByteArray := ⟨#[114]⟩
def k__00_01_02_02_h633d86 : ByteArray := ⟨#[0, 1, 2, 2, 3, 3, 3, 3, 4, 4, 4, 4, 4, 4, 4, 4, 5, 5, 5, 5, 5, 5, 5, 5, 5, 5, 5, 5, 5, 5, 5, 5, 6, 6, 6, 6, 6, 6, 6, 6, 6, 6, 6, 6, 6, 6, 6, 6, 6, 6, 6, 6, 6, 6, 6, 6, 6, 6, 6, 6, 6, 6, 6, 6, 7, 7, 7, 7, 7, 7, 7, 7, 7, 7, 7, 7, 7, 7, 7, 7, 7, 7, 7, 7, 7, 7, 7, 7, 7, 7, 7, 7, 7, 7, 7, 7, 7, 7, 7, 7, 7, 7, 7, 7, 7, 7, 7, 7, 7, 7, 7, 7, 7, 7, 7, 7, 7, 7, 7, 7, 7, 7, 7, 7, 7, 7, 7, 7, 8, 8, 8, 8, 8, 8, 8, 8, 8, 8, 8, 8, 8, 8, 8, 8, 8, 8, 8, 8, 8, 8, 8, 8, 8, 8, 8, 8, 8, 8, 8, 8, 8, 8, 8, 8, 8, 8, 8, 8, 8, 8, 8, 8, 8, 8, 8, 8, 8, 8, 8, 8, 8, 8, 8, 8, 8, 8, 8, 8, 8, 8, 8, 8, 8, 8, 8, 8, 8, 8, 8, 8, 8, 8, 8, 8, 8, 8, 8, 8, 8, 8, 8, 8, 8, 8, 8, 8, 8, 8, 8, 8, 8, 8, 8, 8, 8, 8, 8, 8, 8, 8, 8, 8, 8, 8, 8, 8, 8, 8, 8, 8, 8, 8, 8, 8, 8, 8, 8, 8, 8, 8, 8, 8, 8, 8, 8, 8]⟩
def k_k : ByteArray := ⟨#[107]⟩
def k_i : ByteArray := ⟨#[105]⟩
def tumbmake_Below (p_x : Int) (p_n : Int) : Option Int :=
  if decide (p_n < 1) then
  some 0
  else
  Chk (!decide (p_n = 0)) (
  Join (fun (x1 : Int) =>
  some x1) (fun j1 =>
  if decide ((Int.tmod p_x p_n) < 0) then
  j1 (W ((Int.tmod p_x p_n) + p_n))
  else
  j1 (Int.tmod p_x p_n)))
def Stream_Next (p_s_L : List Int) (p_s_at : Int) (p_n : Int) : Option (Int × Int) :=
  if decide ((p_s_L.length : Int) = 0) then
  Option.bind (tumbmake_Below (W ((W (p_s_at + 1)) * 7919)) p_n) (fun r1 =>
  some (r1, W (p_s_at + 1)))
  else
  Chk (!decide ((p_s_L.length : Int) = 0)) (
  Chk (!decide ((p_s_L.length : Int) = 0)) (
  Chk (inB (Int.tmod (W ((W (p_s_at + 1)) - 1)) (p_s_L.length : Int)) p_s_L.length) (
  Option.bind (tumbmake_Below (nth p_s_L (Int.tmod (W ((W (p_s_at + 1)) - 1)) (p_s_L.length : Int))) 1073741824) (fun r2 =>
  Option.bind (tumbmake_Below (W (r2 + (W ((W (Int.tdiv (W ((W (p_s_at + 1)) - 1)) (p_s_L.length : Int))) * (W (7919 + (Int.tmod (W ((W (p_s_at + 1)) - 1)) (p_s_L.length : Int)))))))) p_n) (fun r3 =>
  some (r3, W (p_s_at + 1)))))))
def Stream_Flip (p_s_L : List Int) (p_s_at : Int) (p_n : Int) : Option (Bool × Int) :=
  Option.bind (Stream_Next p_s_L p_s_at p_n) (fun r1 =>
  some (decide (r1.1 = 0), r1.2))
def Stream_Some (p_s_L : List Int) (p_s_at : Int) (p_l : List ByteArray) : Option (ByteArray × Int) :=
  Option.bind (Stream_Next p_s_L p_s_at (p_l.length : Int)) (fun r1 =>
  Chk (inB r1.1 p_l.length) (
  some ((nth p_l r1.1), r1.2)))
def Stream_Pick (p_s_L : List Int) (p_s_at : Int) (p_l : List Int) : Option (Int × Int) :=
  Option.bind (Stream_Next p_s_L p_s_at (p_l.length : Int)) (fun r1 =>
  Chk (inB r1.1 p_l.length) (
  some ((nth p_l r1.1), r1.2)))
def Stream_RightKinds_l2 (p_s_L : List Int) (j3 : (List ByteArray) → Int → Option ((List GKind) × Int)) : List ByteArray → Nat → (List ByteArray) → Int → Option ((List GKind) × Int)
  | [], _, x5, x6 => j3 x5 x6
  | y2 :: ys2, i2, x5, x6 => Join (fun (x7 : List ByteArray) (x8 : Int) =>
  Stream_RightKinds_l2 p_s_L j3 ys2 (i2 + 1) x7 x8) (fun j4 =>
  Option.bind (Stream_Flip p_s_L x6 3) (fun r5 =>
  Join (fun (x9 : List ByteArray) =>
  j4 x9 r5.2) (fun j5 =>
  if r5.1 then
  Chk (room x5.length) (
  j5 (x5 ++ [y2]))
  else
  j5 x5)))
def Stream_RightKinds_l1 (p_s_L : List Int) (j1 : (List GKind) → Int → Option ((List GKind) × Int)) : List ByteArray → Nat → (List GKind) → Int → Option ((List GKind) × Int)
  | [], _, x1, x2 => j1 x1 x2
  | y1 :: ys1, i1, x1, x2 => Join (fun (x3 : List GKind) (x4 : Int) =>
  Stream_RightKinds_l1 p_s_L j1 ys1 (i1 + 1) x3 x4) (fun j2 =>
  Option.bind (Stream_Flip p_s_L x2 6) (fun r1 =>
  if r1.1 then
  j2 x1 r1.2
  else
  Option.bind (Stream_Some p_s_L r1.2 [k_ra, k_ra, k_rb]) (fun r2 =>
  Option.bind (Stream_Pick p_s_L r2.2 [0, 0, 10]) (fun r3 =>
  Option.bind (Stream_Pick p_s_L r3.2 [14, 99, 150]) (fun r4 =>
  Join (fun (x5 : List ByteArray) (x6 : Int) =>
  Chk (room x1.length) (
  j2 (x1 ++ [(GKind.mk y1 r2.1 x5 r3.1 r4.1)]) x6)) (fun j3 =>
  Stream_RightKinds_l2 p_s_L j3 ([k_blue, k_red] : List ByteArray) 0 ([] : List ByteArray) r4.2))))))
def Stream_RightKinds (p_s_L : List Int) (p_s_at : Int) : Option ((List GKind) × Int) :=
  Join (fun (x1 : List GKind) (x2 : Int) =>
  some (x1, x2)) (fun j1 =>
  Stream_RightKinds_l1 p_s_L j1 ([k_ka, k_kb, k_kc] : List ByteArray) 0 ([] : List GKind) p_s_at)
def Stream_Range (p_s_L : List Int) (p_s_at : Int) (p_low : Int) (p_high : Int) : Option (Int × Int) :=
  if decide (p_high < p_low) then
  some (p_low, p_s_at)
  else
  Option.bind (Stream_Next p_s_L p_s_at (W ((W (p_high - p_low)) + 1))) (fun r1 =>
  some (W (p_low + r1.1), r1.2))
def Stream_SwumStep (p_s_L : List Int) (p_s_at : Int) (p_at : Int) : Option (GStep × Int) :=
  Option.bind (Stream_Some p_s_L p_s_at [k_ia, k_ib, k_ic, k_id, k_ie, k_if]) (fun r1 =>
  Option.bind (Stream_Some p_s_L r1.2 [k_ann, k_bea]) (fun r2 =>
  Option.bind (Stream_Some p_s_L r2.2 [k_blue, k_red, k_empty]) (fun r3 =>
  Option.bind (Stream_Some p_s_L r3.2 [k_ra, k_ra, k_rb]) (fun r4 =>
  Option.bind (Stream_Pick p_s_L r4.2 [9, 10, 14, 15, 20]) (fun r5 =>
  Option.bind (Stream_Pick p_s_L r5.2 [95, 96, 97, 100, 1, 2]) (fun r6 =>
  some ((GStep.mk p_at 1 r1.1 r2.1 r3.1 r4.1 r5.1 r6.1), r6.2)))))))
def Stream_Odd (p_s_L : List Int) (p_s_at : Int) (p_low : Int) (p_high : Int) : Option (Int × Int) :=
  Option.bind (Stream_Flip p_s_L p_s_at 12) (fun r1 =>
  if r1.1 then
  Option.bind (Stream_Pick p_s_L r1.2 [W (p_low - 1), W (p_high + 1), p_low, p_high, (-1099511627776), 1099511627776]) (fun r2 =>
  some (r2.1, r2.2))
  else
  Option.bind (Stream_Range p_s_L r1.2 p_low p_high) (fun r3 =>
  some (r3.1, r3.2)))
def tumbref2_sign (p_n : Int) : Int :=
  if decide (p_n < 0) then
  (-1)
  else
  if decide (0 < p_n) then
  1
  else
  0
def strings_Compare (s t : ByteArray) : Int := Lib.compareBytes s.data.toList t.data.toList
def tumbref2_StepOrder (p_a : GStep) (p_b : GStep) : Int :=
  if !decide (p_a.At = p_b.At) then
  (tumbref2_sign (W (p_a.At - p_b.At)))
  else
  if !decide (p_a.Id = p_b.Id) then
  (strings_Compare p_a.Id p_b.Id)
  else
  (tumbref2_sign (W (p_a.Kind - p_b.Kind)))
def slices_insertionSortCmpFunc_Step_tumbref2_StepOrder_l2 (p_a : Int) (j2 : (List GStep) → Option (List GStep)) : Nat → (List GStep) → Int → Option (List GStep)
  | 0, _, _ => none
  | m2 + 1, x3, x4 => Join (fun (x5 : Bool) =>
  if x5 then
  Chk (inB (W (x4 - 1)) x3.length) (
  Chk (inB x4 x3.length) (
  Chk (inB x4 x3.length) (
  Chk (inB (W (x4 - 1)) (x3.set x4.toNat (nth x3 (W (x4 - 1)))).length) (
  slices_insertionSortCmpFunc_Step_tumbref2_StepOrder_l2 p_a j2 m2 ((x3.set x4.toNat (nth x3 (W (x4 - 1)))).set ((W (x4 - 1)).toNat) (nth x3 x4)) (W (x4 - 1))))))
  else
  j2 x3) (fun j3 =>
  if decide (p_a < x4) then
  Chk (inB x4 x3.length) (
  Chk (inB (W (x4 - 1)) x3.length) (
  j3 (decide ((tumbref2_StepOrder (nth x3 x4) (nth x3 (W (x4 - 1)))) < 0))))
  else
  j3 false)
def slices_insertionSortCmpFunc_Step_tumbref2_StepOrder_l1 (p_b : Int) (p_a : Int) (j1 : (List GStep) → Option (List GStep)) : Nat → (List GStep) → Int → Option (List GStep)
  | 0, _, _ => none
  | m1 + 1, x1, x2 => if decide (x2 < p_b) then
  Join (fun (x3 : List GStep) =>
  slices_insertionSortCmpFunc_Step_tumbref2_StepOrder_l1 p_b p_a j1 m1 x3 (W (x2 + 1))) (fun j2 =>
  slices_insertionSortCmpFunc_Step_tumbref2_StepOrder_l2 p_a j2 ((x2 - p_a).toNat + 2) x1 x2)
  else
  j1 x1
def slices_insertionSortCmpFunc_Step_tumbref2_StepOrder (p_data : List GStep) (p_a : Int) (p_b : Int) : Option (List GStep) :=
  Join (fun (x1 : List GStep) =>
  some x1) (fun j1 =>
  slices_insertionSortCmpFunc_Step_tumbref2_StepOrder_l1 p_b p_a j1 ((p_b - (W (p_a + 1))).toNat + 2) p_data (W (p_a + 1)))
def slices_stableCmpFunc_Step_tumbref2_StepOrder_l1 (p_n : Int) (j1 : (List GStep) → Int → Option (List GStep)) : Nat → (List GStep) → Int → Int → Option (List GStep)
  | 0, _, _, _ => none
  | m1 + 1, x1, x2, x3 => if decide (x3 ≤ p_n) then
  Option.bind (slices_insertionSortCmpFunc_Step_tumbref2_StepOrder x1 x2 x3) (fun r1 =>
  slices_stableCmpFunc_Step_tumbref2_StepOrder_l1 p_n j1 m1 r1 x3 (W (x3 + 20)))
  else
  j1 x1 x2
def slices_stableCmpFunc_Step_tumbref2_StepOrder_l3 (p_n : Int) (j3 : Int → Option (List GStep)) : Nat → Int → Int → Option (List GStep)
  | 0, _, _ => none
  | _ + 1, x5, x6 => if decide (x6 ≤ p_n) then
  none
  else
  j3 x5
def slices_stableCmpFunc_Step_tumbref2_StepOrder_l2 (p_n : Int) (j2 : Option (List GStep)) : Nat → Int → Option (List GStep)
  | 0, _ => none
  | m2 + 1, x4 => if decide (x4 < p_n) then
  Join (fun (x5 : Int) =>
  if decide ((W (x5 + x4)) < p_n) then
  none
  else
  slices_stableCmpFunc_Step_tumbref2_StepOrder_l2 p_n j2 m2 (W (x4 * 2))) (fun j3 =>
  slices_stableCmpFunc_Step_tumbref2_StepOrder_l3 p_n j3 ((p_n - (W (2 * x4))).toNat + 2) 0 (W (2 * x4)))
  else
  j2
def slices_stableCmpFunc_Step_tumbref2_StepOrder (p_data : List GStep) (p_n : Int) : Option (List GStep) :=
  Join (fun (x1 : List GStep) (x2 : Int) =>
  Option.bind (slices_insertionSortCmpFunc_Step_tumbref2_StepOrder x1 x2 p_n) (fun r2 =>
  Join (some r2) (fun j2 =>
  slices_stableCmpFunc_Step_tumbref2_StepOrder_l2 p_n j2 ((p_n - 20).toNat + 2) 20))) (fun j1 =>
  slices_stableCmpFunc_Step_tumbref2_StepOrder_l1 p_n j1 ((p_n - 20).toNat + 2) p_data 0 20)
def slices_SortStableFunc_Step_tumbref2_StepOrder (p_x : List GStep) : Option (List GStep) :=
  Option.bind (slices_stableCmpFunc_Step_tumbref2_StepOrder p_x (p_x.length : Int)) (fun r1 =>
  some r1)
def Stream_Steps_c1 (p_a : GStep) (p_b : GStep) : Bool :=
  decide ((tumbref2_StepOrder p_a p_b) = 0)
def slices_CompactFunc_Step_Stream_Steps_c1_l2 (p_s : List GStep) (x1 : Int) (j2 : (List GStep) → Int → Option (List GStep)) : Nat → (List GStep) → Int → Int → Option (List GStep)
  | 0, _, _, _ => none
  | m2 + 1, x2, x3, x4 => if decide (x4 < (((p_s.length : Int).toNat - x1.toNat : Nat) : Int)) then
  Join (fun (x5 : List GStep) (x6 : Int) =>
  slices_CompactFunc_Step_Stream_Steps_c1_l2 p_s x1 j2 m2 x5 x6 (W (x4 + 1))) (fun j3 =>
  Chk (inB x4 ((p_s.length : Int).toNat - x1.toNat)) (
  Chk (inB (W (x4 - 1)) ((p_s.length : Int).toNat - x1.toNat)) (
  Join (fun (x7 : List GStep) (x8 : Int) =>
  j3 x7 x8) (fun j4 =>
  if !(Stream_Steps_c1 (nth (cut x2 x1 (p_s.length : Int)) x4) (nth (cut x2 x1 (p_s.length : Int)) (W (x4 - 1)))) then
  Chk (inB x4 ((p_s.length : Int).toNat - x1.toNat)) (
  Chk (inB x3 x2.length) (
  j4 (x2.set x3.toNat (nth (cut x2 x1 (p_s.length : Int)) x4)) (W (x3 + 1))))
  else
  j4 x2 x3))))
  else
  j2 x2 x3
def slices_CompactFunc_Step_Stream_Steps_c1_l1 (p_s : List GStep) (j1 : Option (List GStep)) : Nat → Int → Option (List GStep)
  | 0, _ => none
  | m1 + 1, x1 => if decide (x1 < (p_s.length : Int)) then
  Chk (inB x1 p_s.length) (
  Chk (inB (W (x1 - 1)) p_s.length) (
  if (Stream_Steps_c1 (nth p_s x1) (nth p_s (W (x1 - 1)))) then
  Chk (cutB x1 (p_s.length : Int) p_s.length) (
  Join (fun (x2 : List GStep) (x3 : Int) =>
  Chk (cutB x3 (x2.length : Int) x2.length) (
  Chk (cutB 0 x3 (clr x2 x3 (x2.length : Int) (GStep.mk 0 0 k_empty k_empty k_empty k_empty 0 0)).length) (
  some (cut (clr x2 x3 (x2.length : Int) (GStep.mk 0 0 k_empty k_empty k_empty k_empty 0 0)) (0 : Int) x3)))) (fun j2 =>
  slices_CompactFunc_Step_Stream_Steps_c1_l2 p_s x1 j2 (((((p_s.length : Int).toNat - x1.toNat : Nat) : Int) - 1).toNat + 2) p_s x1 1))
  else
  slices_CompactFunc_Step_Stream_Steps_c1_l1 p_s j1 m1 (W (x1 + 1))))
  else
  j1
def slices_CompactFunc_Step_Stream_Steps_c1 (p_s : List GStep) : Option (List GStep) :=
  if decide ((p_s.length : Int) < 2) then
  some p_s
  else
  Join (some p_s) (fun j1 =>
  slices_CompactFunc_Step_Stream_Steps_c1_l1 p_s j1 (((p_s.length : Int) - 1).toNat + 2) 1)
def Stream_Steps_l1 (p_many : Int) (p_s_L : List Int) (j1 : (List GStep) → Int → Option ((List GStep) × Int)) : Nat → (List GStep) → Int → Int → Int → Option ((List GStep) × Int)
  | 0, _, _, _, _ => none
  | m1 + 1, x1, x2, x3, x4 => if decide (x4 < p_many) then
  Option.bind (Stream_Pick p_s_L x2 [0, 1, 1, 5]) (fun r1 =>
  Option.bind (Stream_SwumStep p_s_L r1.2 (W (x3 + r1.1))) (fun r2 =>
  Option.bind (Stream_Flip p_s_L r2.2 3) (fun r3 =>
  Join (fun (x5 : Int) (x6 : Int) (x7 : ByteArray) (x8 : ByteArray) (x9 : ByteArray) (x10 : Int) (x11 : Int) (x12 : Int) =>
  Option.bind (Stream_Flip p_s_L x12 80) (fun r5 =>
  Join (fun (x13 : Int) (x14 : Int) (x15 : ByteArray) (x16 : ByteArray) (x17 : ByteArray) (x18 : ByteArray) (x19 : Int) (x20 : Int) (x21 : Int) =>
  Chk (room x1.length) (
  Stream_Steps_l1 p_many p_s_L j1 m1 (x1 ++ [(GStep.mk x13 x14 x15 x16 x17 x18 x19 x20)]) x21 (W (x3 + r1.1)) (W (x4 + 1)))) (fun j3 =>
  if r5.1 then
  Option.bind (Stream_Next p_s_L r5.2 4) (fun r6 =>
  Join (fun (x22 : Int) (x23 : Int) (x24 : ByteArray) (x25 : ByteArray) (x26 : ByteArray) (x27 : ByteArray) (x28 : Int) (x29 : Int) (x30 : Int) =>
  j3 x22 x23 x24 x25 x26 x27 x28 x29 x30) (fun j4 =>
  Join (fun (x31 : Int) (x32 : Int) (x33 : ByteArray) (x34 : ByteArray) (x35 : ByteArray) (x36 : ByteArray) (x37 : Int) (x38 : Int) (x39 : Int) =>
  j4 x31 x32 x33 x34 x35 x36 x37 x38 x39) (fun j5 =>
  if decide (r6.1 = 0) then
  Option.bind (Stream_Odd p_s_L r6.2 0 50) (fun r7 =>
  Option.bind (Stream_Odd p_s_L r7.2 1 3) (fun r8 =>
  j5 r7.1 r8.1 r2.1.Id x7 x8 x9 x10 x11 r8.2))
  else
  Join (fun (x40 : ByteArray) (x41 : ByteArray) (x42 : ByteArray) (x43 : ByteArray) (x44 : Int) (x45 : Int) (x46 : Int) =>
  j5 x5 x6 x40 x41 x42 x43 x44 x45 x46) (fun j6 =>
  if decide (r6.1 = 1) then
  Join (fun (x47 : ByteArray) (x48 : ByteArray) (x49 : Int) =>
  j6 x47 x48 x8 x9 x10 x11 x49) (fun j7 =>
  Option.bind (Stream_Some p_s_L r6.2 [k_empty, r2.1.Id, k_A]) (fun r9 =>
  Option.bind (Stream_Some p_s_L r9.2 [k_empty, x7]) (fun r10 =>
  j7 r9.1 r10.1 r10.2)))
  else
  Join (fun (x50 : ByteArray) (x51 : ByteArray) (x52 : Int) (x53 : Int) (x54 : Int) =>
  j6 r2.1.Id x7 x50 x51 x52 x53 x54) (fun j8 =>
  if decide (r6.1 = 2) then
  Join (fun (x55 : ByteArray) (x56 : ByteArray) (x57 : Int) =>
  j8 x55 x56 x10 x11 x57) (fun j9 =>
  Option.bind (Stream_Some p_s_L r6.2 [k_A, x8]) (fun r11 =>
  Option.bind (Stream_Some p_s_L r11.2 [k_empty, x9]) (fun r12 =>
  j9 r11.1 r12.1 r12.2)))
  else
  Option.bind (Stream_Odd p_s_L r6.2 0 150) (fun r13 =>
  Option.bind (Stream_Odd p_s_L r13.2 1 360000) (fun r14 =>
  j8 x8 x9 r13.1 r14.1 r14.2)))))))
  else
  j3 x5 x6 r2.1.Id x7 x8 x9 x10 x11 r5.2))) (fun j2 =>
  if r3.1 then
  Option.bind (Stream_Pick p_s_L r3.2 [2, 3]) (fun r4 =>
  j2 (W (x3 + r1.1)) r4.1 k_empty k_empty k_empty 0 0 r4.2)
  else
  j2 r2.1.At r2.1.Kind r2.1.Who r2.1.Club r2.1.Race r2.1.Age r2.1.Time r3.2))))
  else
  j1 x1 x2
def Stream_Steps (p_s_L : List Int) (p_s_at : Int) (p_many : Int) : Option ((List GStep) × Int) :=
  Join (fun (x1 : List GStep) (x2 : Int) =>
  Option.bind (slices_SortStableFunc_Step_tumbref2_StepOrder x1) (fun r15 =>
  Option.bind (slices_CompactFunc_Step_Stream_Steps_c1 r15) (fun r16 =>
  some (r16, x2)))) (fun j1 =>
  Stream_Steps_l1 p_many p_s_L j1 ((p_many - 0).toNat + 2) ([] : List GStep) p_s_at 0 0)
def tumbref2_in (p_n : Int) (p_low : Int) (p_high : Int) : Bool :=
  ((decide (p_low ≤ p_n)) && (decide (p_n ≤ p_high)))
def tumbref2_Moment (p_at : Int) : Bool :=
  (tumbref2_in p_at 0 345686399999)
def strings_IndexByte (s : ByteArray) (c : Int) : Int := Lib.indexByte s.data.toList c.toNat.toUInt8
def tumbref2_only_l1 (p_s : ByteArray) (p_some : ByteArray) (j1 : Option Bool) : Nat → Int → Option Bool
  | 0, _ => none
  | m1 + 1, x1 => if decide (x1 < (p_s.size : Int)) then
  Chk (inB x1 p_s.size) (
  if decide ((strings_IndexByte p_some (sbyte p_s x1)) < 0) then
  some false
  else
  tumbref2_only_l1 p_s p_some j1 m1 (W (x1 + 1)))
  else
  j1
def tumbref2_only (p_s : ByteArray) (p_some : ByteArray) : Option Bool :=
  Join (some true) (fun j1 =>
  tumbref2_only_l1 p_s p_some j1 (((p_s.size : Int) - 0).toNat + 2) 0)
def tumbref2_Key (p_s : ByteArray) : Option Bool :=
  Join (fun (c1 : Bool) =>
  Join (fun (c2 : Bool) =>
  some c2) (fun j2 =>
  if c1 then Option.bind (tumbref2_only p_s k_abcdefghijkl_h0e2e2c) (fun r2 =>
  j2 (c1 && r2)) else j2 (c1 && true))) (fun j1 =>
  if (tumbref2_in (p_s.size : Int) 1 40) then Chk (cutB 0 1 p_s.size) (
  Option.bind (tumbref2_only (scut p_s 0 1) k_abcdefghijklmnopqrstuvwxyz) (fun r1 =>
  j1 ((tumbref2_in (p_s.size : Int) 1 40) && r1))) else j1 ((tumbref2_in (p_s.size : Int) 1 40) && true))
def tumbref2_StepFault (p_s : GStep) : Option Int :=
  if !(tumbref2_Moment p_s.At) then
  some 1
  else
  if !(tumbref2_in p_s.Kind 1 3) then
  some 4
  else
  Option.bind (tumbref2_Key p_s.Id) (fun r1 =>
  if !r1 then
  some 5
  else
  if !decide (p_s.Kind = 1) then
  if !decide (p_s = (GStep.mk p_s.At p_s.Kind p_s.Id k_empty k_empty k_empty 0 0)) then
  some 3
  else
  some 0
  else
  Option.bind (tumbref2_Key p_s.Who) (fun r2 =>
  Join (fun (c1 : Bool) =>
  Join (fun (c2 : Bool) =>
  if c2 then
  some 5
  else
  if ((!(tumbref2_in p_s.Age 0 150)) || (!(tumbref2_in p_s.Time 1 360000))) then
  some 1
  else
  some 0) (fun j2 =>
  if c1 then j2 (c1 || true) else Join (fun (c3 : Bool) =>
  j2 (c1 || c3)) (fun j3 =>
  if (!decide (p_s.Club = k_empty)) then Option.bind (tumbref2_Key p_s.Club) (fun r4 =>
  j3 ((!decide (p_s.Club = k_empty)) && (!r4))) else j3 ((!decide (p_s.Club = k_empty)) && true)))) (fun j1 =>
  if (!r2) then j1 ((!r2) || true) else Option.bind (tumbref2_Key p_s.Race) (fun r3 =>
  j1 ((!r2) || (!r3))))))
def tumbref2_StepsFault_l1 (p_l : List GStep) (j1 : Option Int) : List GStep → Nat → Option Int
  | [], _ => j1
  | y1 :: ys1, i1 => Option.bind (tumbref2_StepFault y1) (fun r1 =>
  if !decide (r1 = 0) then
  some r1
  else
  Join (fun (x1 : Bool) =>
  if x1 then
  some 7
  else
  tumbref2_StepsFault_l1 p_l j1 ys1 (i1 + 1)) (fun j2 =>
  if decide (0 < (i1 : Int)) then
  Chk (inB (W ((i1 : Int) - 1)) p_l.length) (
  j2 (decide (0 ≤ (tumbref2_StepOrder (nth p_l (W ((i1 : Int) - 1))) y1))))
  else
  j2 false))
def tumbref2_StepsFault (p_l : List GStep) : Option Int :=
  if decide (1000 < (p_l.length : Int)) then
  some 2
  else
  Join (some 0) (fun j1 =>
  tumbref2_StepsFault_l1 p_l j1 p_l 0)
def Stream_RightSteps_l1 (p_s_L : List Int) (p_many : Int) (j1 : Int → Option ((List GStep) × Int)) : Nat → Int → Int → Option ((List GStep) × Int)
  | 0, _, _ => none
  | m1 + 1, x1, x2 => if decide (x2 < 5) then
  Option.bind (Stream_Steps p_s_L x1 p_many) (fun r1 =>
  Option.bind (tumbref2_StepsFault r1.1) (fun r2 =>
  if decide (r2 = 0) then
  some (r1.1, r1.2)
  else
  Stream_RightSteps_l1 p_s_L p_many j1 m1 r1.2 (W (x2 + 1))))
  else
  j1 x1
def Stream_RightSteps (p_s_L : List Int) (p_s_at : Int) (p_many : Int) : Option ((List GStep) × Int) :=
  Join (fun (x1 : Int) =>
  some (([] : List GStep), x1)) (fun j1 =>
  Stream_RightSteps_l1 p_s_L p_many j1 7 p_s_at 0)
def words_IsMoment (p_n : Int) : Bool :=
  ((decide (0 ≤ p_n)) && (decide (p_n < 345686400000)))
def words_Within (p_n : Int) (p_low : Int) (p_high : Int) : Bool :=
  ((decide (p_low ≤ p_n)) && (decide (p_n ≤ p_high)))
def strings_Trim (s c : ByteArray) : Option ByteArray :=
  Chk (decide (s.size ≤ 9223372036854775807)) (Chk (decide (c.size < 4294967281)) (Chk (c.data.toList.all fun b => decide (b.toNat < 128)) (some ⟨(Lib.trimS s.data.toList c.data.toList).toArray⟩)))
def words_IsKey (p_s : ByteArray) : Option Bool :=
  Join (fun (c1 : Bool) =>
  Join (fun (c2 : Bool) =>
  Join (fun (c3 : Bool) =>
  some c3) (fun j3 =>
  if c2 then Option.bind (strings_Trim p_s k_abcdefghijkl_h0e2e2c) (fun r1 =>
  j3 (c2 && (decide (r1 = k_empty)))) else j3 (c2 && true))) (fun j2 =>
  if c1 then Chk (inB 0 p_s.size) (
  j2 (c1 && (decide ((sbyte p_s 0) ≤ 122)))) else j2 (c1 && true))) (fun j1 =>
  if ((decide (1 ≤ (p_s.size : Int))) && (decide ((p_s.size : Int) ≤ 40))) then Chk (inB 0 p_s.size) (
  j1 (((decide (1 ≤ (p_s.size : Int))) && (decide ((p_s.size : Int) ≤ 40))) && (decide (97 ≤ (sbyte p_s 0))))) else j1 (((decide (1 ≤ (p_s.size : Int))) && (decide ((p_s.size : Int) ≤ 40))) && true))
def timing_IsTime (p_n : Int) : Bool :=
  (words_Within p_n 1 360000)
def record_checkStep (p_x : GStep) : Option Int :=
  Join (some 0) (fun j1 =>
  if !(words_IsMoment p_x.At) then
  some 1
  else
  if !(words_Within p_x.Kind 1 3) then
  some 4
  else
  Option.bind (words_IsKey p_x.Id) (fun r1 =>
  if !r1 then
  some 5
  else
  Join (j1) (fun j2 =>
  if !decide (p_x.Kind = 1) then
  if !decide (p_x = (GStep.mk p_x.At p_x.Kind p_x.Id k_empty k_empty k_empty 0 0)) then
  some 3
  else
  j2
  else
  Option.bind (words_IsKey p_x.Who) (fun r2 =>
  Join (fun (c1 : Bool) =>
  Join (fun (c2 : Bool) =>
  if c2 then
  some 5
  else
  if ((!(words_Within p_x.Age 0 150)) || (!(timing_IsTime p_x.Time))) then
  some 1
  else
  j2) (fun j4 =>
  if c1 then j4 (c1 || true) else Join (fun (c3 : Bool) =>
  j4 (c1 || c3)) (fun j5 =>
  if (!decide (p_x.Club = k_empty)) then Option.bind (words_IsKey p_x.Club) (fun r4 =>
  j5 ((!decide (p_x.Club = k_empty)) && (!r4))) else j5 ((!decide (p_x.Club = k_empty)) && true)))) (fun j3 =>
  if (!r2) then j3 ((!r2) || true) else Option.bind (words_IsKey p_x.Race) (fun r3 =>
  j3 ((!r2) || (!r3))))))))
def cmp_isNaN_int (p_x : Int) : Bool :=
  !decide (p_x = p_x)
def cmp_Compare_int (p_x : Int) (p_y : Int) : Int :=
  if (cmp_isNaN_int p_x) then
  if (cmp_isNaN_int p_y) then
  0
  else
  (-1)
  else
  if (cmp_isNaN_int p_y) then
  1
  else
  if decide (p_x < p_y) then
  (-1)
  else
  if decide (p_y < p_x) then
  1
  else
  0
def cmp_Or_int_l1 (j1 : Int) : List Int → Nat → Int
  | [], _ => j1
  | y1 :: ys1, i1 => if !decide (y1 = 0) then
  y1
  else
  cmp_Or_int_l1 j1 ys1 (i1 + 1)
def cmp_Or_int (p_vals : List Int) : Int :=
  Join (0) (fun j1 =>
  cmp_Or_int_l1 j1 p_vals 0)
def record_compare (p_a : GStep) (p_b : GStep) : Int :=
  (cmp_Or_int [(cmp_Compare_int p_a.At p_b.At), (strings_Compare p_a.Id p_b.Id), (cmp_Compare_int p_a.Kind p_b.Kind)])
def record_CheckSteps_l1 (p_l : List GStep) (j1 : Option Int) : List GStep → Nat → Option Int
  | [], _ => j1
  | y1 :: ys1, i1 => Option.bind (record_checkStep y1) (fun r1 =>
  if !decide (r1 = 0) then
  some r1
  else
  Join (fun (x1 : Bool) =>
  if x1 then
  some 7
  else
  record_CheckSteps_l1 p_l j1 ys1 (i1 + 1)) (fun j2 =>
  if decide (0 < (i1 : Int)) then
  Chk (inB (W ((i1 : Int) - 1)) p_l.length) (
  j2 (decide (0 ≤ (record_compare (nth p_l (W ((i1 : Int) - 1))) y1))))
  else
  j2 false))
def record_CheckSteps (p_l : List GStep) : Option Int :=
  if decide (1000 < (p_l.length : Int)) then
  some 2
  else
  Join (some 0) (fun j1 =>
  record_CheckSteps_l1 p_l j1 p_l 0)
def swFind (x : List Grecord_swum) (k : ByteArray) : Option Nat := x.findIdx? (fun s => decide (k = s.s_.Id))
def swPos (x : List Grecord_swum) (k : ByteArray) : Nat := (swFind x k).getD 0
def swAt (x : List Grecord_swum) (k : ByteArray) : Grecord_swum := x.getD (swPos x k) default
def record_follow_l1 (p_at : Int) (j1 : (List Grecord_swum) → (List Int) → Option ((List Grecord_swum) × (List Int))) : List GStep → Nat → (List Grecord_swum) → (List Int) → Option ((List Grecord_swum) × (List Int))
  | [], _, x1, x2 => j1 x1 x2
  | y1 :: ys1, i1, x1, x2 => if decide (p_at < y1.At) then
  j1 x1 x2
  else
  Join (fun (x3 : List Grecord_swum) (x4 : List Int) =>
  record_follow_l1 p_at j1 ys1 (i1 + 1) x3 x4) (fun j2 =>
  Join (fun (x5 : List Grecord_swum) (x6 : List Int) =>
  j2 x5 x6) (fun j3 =>
  if ((decide (y1.Kind = 1)) && (swFind x1 y1.Id).isNone) then
  Chk (room x1.length) (
  j3 (x1 ++ [(Grecord_swum.mk y1 false false)]) x2)
  else
  Join (fun (x7 : List Grecord_swum) (x8 : List Int) =>
  j3 x7 x8) (fun j4 =>
  if ((((decide (y1.Kind = 2)) && (swFind x1 y1.Id).isSome) && (!((swAt x1 y1.Id).sure_))) && (!((swAt x1 y1.Id).void_))) then
  j4 (x1.set (swPos x1 y1.Id) (Grecord_swum.mk (swAt x1 y1.Id).s_ true (swAt x1 y1.Id).void_)) x2
  else
  Join (fun (x9 : List Grecord_swum) (x10 : List Int) =>
  j4 x9 x10) (fun j5 =>
  if (((decide (y1.Kind = 3)) && (swFind x1 y1.Id).isSome) && (!((swAt x1 y1.Id).void_))) then
  j5 (x1.set (swPos x1 y1.Id) (Grecord_swum.mk (swAt x1 y1.Id).s_ (swAt x1 y1.Id).sure_ true)) x2
  else
  Chk (room x2.length) (
  j5 x1 (x2 ++ [(i1 : Int)]))))))
def record_follow (p_l : List GStep) (p_at : Int) : Option ((List Grecord_swum) × (List Int)) :=
  Join (fun (x1 : List Grecord_swum) (x2 : List Int) =>
  some (x1, x2)) (fun j1 =>
  record_follow_l1 p_at j1 p_l 0 ([] : List Grecord_swum) ([] : List Int))
def record_Refused (p_l : List GStep) : Option ((List Int) × Int) :=
  Option.bind (record_CheckSteps p_l) (fun r1 =>
  if !decide (r1 = 0) then
  some (([] : List Int), r1)
  else
  Option.bind (record_follow p_l 345686400000) (fun r2 =>
  some (r2.2, 0)))
def slices_Index_int_l1 (p_v : Int) (j1 : Int) : List Int → Nat → Int
  | [], _ => j1
  | y1 :: ys1, i1 => if decide (p_v = y1) then
  (i1 : Int)
  else
  slices_Index_int_l1 p_v j1 ys1 (i1 + 1)
def slices_Index_int (p_s : List Int) (p_v : Int) : Int :=
  Join ((-1)) (fun j1 =>
  slices_Index_int_l1 p_v j1 p_s 0)
def slices_Contains_int (p_s : List Int) (p_v : Int) : Bool :=
  decide (0 ≤ (slices_Index_int p_s p_v))
def record_CheckKinds_l2 (y1 : GKind) (j4 : Option Int) : List ByteArray → Nat → Option Int
  | [], _ => j4
  | y2 :: ys2, i2 => Option.bind (words_IsKey y2) (fun r5 =>
  if !r5 then
  some 5
  else
  Join (fun (c3 : Bool) =>
  if c3 then
  some 7
  else
  record_CheckKinds_l2 y1 j4 ys2 (i2 + 1)) (fun j5 =>
  if (decide (0 < (i2 : Int))) then Chk (inB (W ((i2 : Int) - 1)) y1.Clubs.length) (
  j5 ((decide (0 < (i2 : Int))) && (Sless y2 (nth y1.Clubs (W ((i2 : Int) - 1))) || decide (y2 = (nth y1.Clubs (W ((i2 : Int) - 1))))))) else j5 ((decide (0 < (i2 : Int))) && true)))
def record_CheckKinds_l1 (p_l : List GKind) (j1 : Option Int) : List GKind → Nat → Option Int
  | [], _ => j1
  | y1 :: ys1, i1 => Option.bind (words_IsKey y1.Key) (fun r2 =>
  Join (fun (c1 : Bool) =>
  if c1 then
  some 5
  else
  Join (fun (c2 : Bool) =>
  if c2 then
  some 7
  else
  if decide (100 < (y1.Clubs.length : Int)) then
  some 2
  else
  Join (if (((decide (y1.Young < 0)) || (decide (y1.Old < y1.Young))) || (decide (150 < y1.Old))) then
  some 1
  else
  record_CheckKinds_l1 p_l j1 ys1 (i1 + 1)) (fun j4 =>
  record_CheckKinds_l2 y1 j4 y1.Clubs 0)) (fun j3 =>
  if (decide (0 < (i1 : Int))) then Chk (inB (W ((i1 : Int) - 1)) p_l.length) (
  j3 ((decide (0 < (i1 : Int))) && (Sless y1.Key ((nth p_l (W ((i1 : Int) - 1))).Key) || decide (y1.Key = ((nth p_l (W ((i1 : Int) - 1))).Key))))) else j3 ((decide (0 < (i1 : Int))) && true))) (fun j2 =>
  if (!r2) then j2 ((!r2) || true) else Option.bind (words_IsKey y1.Race) (fun r3 =>
  j2 ((!r2) || (!r3)))))
def record_CheckKinds (p_l : List GKind) : Option Int :=
  if decide (50 < (p_l.length : Int)) then
  some 2
  else
  Join (some 0) (fun j1 =>
  record_CheckKinds_l1 p_l j1 p_l 0)
def record_checkBoth (p_k : List GKind) (p_l : List GStep) : Option Int :=
  Option.bind (record_CheckKinds p_k) (fun r1 =>
  if !decide (r1 = 0) then
  some r1
  else
  Option.bind (record_CheckSteps p_l) (fun r2 =>
  some r2))
def slices_Index_string_l1 (p_v : ByteArray) (j1 : Int) : List ByteArray → Nat → Int
  | [], _ => j1
  | y1 :: ys1, i1 => if decide (p_v = y1) then
  (i1 : Int)
  else
  slices_Index_string_l1 p_v j1 ys1 (i1 + 1)
def slices_Index_string (p_s : List ByteArray) (p_v : ByteArray) : Int :=
  Join ((-1)) (fun j1 =>
  slices_Index_string_l1 p_v j1 p_s 0)
def slices_Contains_string (p_s : List ByteArray) (p_v : ByteArray) : Bool :=
  decide (0 ≤ (slices_Index_string p_s p_v))
def record_isFor (p_k : GKind) (p_s : GStep) : Bool :=
  (((decide (p_s.Race = p_k.Race)) && ((decide ((p_k.Clubs.length : Int) = 0)) || (slices_Contains_string p_k.Clubs p_s.Club))) && (words_Within p_s.Age p_k.Young p_k.Old))
def record_best (p_k : GKind) (p_x_s : GStep) (p_x_sure : Bool) (p_x_void : Bool) : GBest :=
  (GBest.mk p_k.Key p_x_s.Id p_x_s.Who p_x_s.Time p_x_s.At p_x_sure)
def record_history_l1 (p_k : GKind) (j1 : (List GBest) → Option (List GBest)) : List Grecord_swum → Nat → (List GBest) → Option (List GBest)
  | [], _, x1 => j1 x1
  | y1 :: ys1, i1, x1 => Join (fun (x2 : List GBest) =>
  record_history_l1 p_k j1 ys1 (i1 + 1) x2) (fun j2 =>
  Join (fun (x3 : Bool) =>
  if x3 then
  j2 x1
  else
  Join (fun (c1 : Bool) =>
  Join (fun (x4 : List GBest) =>
  j2 x4) (fun j5 =>
  if c1 then
  Chk (room x1.length) (
  j5 (x1 ++ [(record_best p_k y1.s_ y1.sure_ y1.void_)]))
  else
  j5 x1)) (fun j4 =>
  if (decide ((x1.length : Int) = 0)) then j4 ((decide ((x1.length : Int) = 0)) || true) else Chk (inB (W ((x1.length : Int) - 1)) x1.length) (
  j4 ((decide ((x1.length : Int) = 0)) || (decide (y1.s_.Time ≤ ((nth x1 (W ((x1.length : Int) - 1))).Time))))))) (fun j3 =>
  if y1.void_ then
  j3 true
  else
  j3 (!(record_isFor p_k y1.s_))))
def record_history (p_k : GKind) (p_all : List Grecord_swum) : Option (List GBest) :=
  Join (fun (x1 : List GBest) =>
  some x1) (fun j1 =>
  record_history_l1 p_k j1 p_all 0 ([] : List GBest))
def record_record_l1 (r1 : (List GBest)) (j1 : Option (List GBest)) : List GBest → Nat → Option (List GBest)
  | [], _ => j1
  | y1 :: ys1, i1 => Chk (inB (W ((r1.length : Int) - 1)) r1.length) (
  if decide (y1.Time = ((nth r1 (W ((r1.length : Int) - 1))).Time)) then
  Chk (cutB (i1 : Int) (r1.length : Int) r1.length) (
  some (cut r1 (i1 : Int) r1.length))
  else
  record_record_l1 r1 j1 ys1 (i1 + 1))
def record_record (p_k : GKind) (p_all : List Grecord_swum) : Option (List GBest) :=
  Option.bind (record_history p_k p_all) (fun r1 =>
  Join (some ([] : List GBest)) (fun j1 =>
  record_record_l1 r1 j1 r1 0))
def record_All_l1 (r2 : (List Grecord_swum) × (List Int)) (j1 : (List GBest) → Option ((List GBest) × Int)) : List GKind → Nat → (List GBest) → Option ((List GBest) × Int)
  | [], _, x1 => j1 x1
  | y1 :: ys1, i1, x1 => Option.bind (record_record y1 r2.1) (fun r4 =>
  Chk (decide (x1.length + r4.length < 1073741824)) (
  record_All_l1 r2 j1 ys1 (i1 + 1) (x1 ++ r4)))
def record_All (p_k : List GKind) (p_l : List GStep) (p_at : Int) : Option ((List GBest) × Int) :=
  Option.bind (record_checkBoth p_k p_l) (fun r1 =>
  if !decide (r1 = 0) then
  some (([] : List GBest), r1)
  else
  if !(words_IsMoment p_at) then
  some (([] : List GBest), 1)
  else
  Option.bind (record_follow p_l p_at) (fun r2 =>
  Join (fun (x1 : List GBest) =>
  some (x1, 0)) (fun j1 =>
  record_All_l1 r2 j1 p_k 0 ([] : List GBest))))
def tumbkeep2_parts_Step_l1 (p_s_L : List Int) (j1 : (List GStep) → (List GStep) → Int → Option ((List GStep) × (List GStep) × Int)) : List GStep → Nat → (List GStep) → (List GStep) → Int → Option ((List GStep) × (List GStep) × Int)
  | [], _, x1, x2, x3 => j1 x1 x2 x3
  | y1 :: ys1, i1, x1, x2, x3 => Option.bind (Stream_Next p_s_L x3 3) (fun r1 =>
  Join (fun (x4 : List GStep) (x5 : List GStep) =>
  tumbkeep2_parts_Step_l1 p_s_L j1 ys1 (i1 + 1) x4 x5 r1.2) (fun j2 =>
  Join (fun (x6 : List GStep) (x7 : List GStep) =>
  j2 x6 x7) (fun j3 =>
  if decide (r1.1 = 0) then
  Chk (room x2.length) (
  j3 x1 (x2 ++ [y1]))
  else
  Join (fun (x8 : List GStep) (x9 : List GStep) =>
  j3 x8 x9) (fun j4 =>
  if decide (r1.1 = 1) then
  Chk (room x1.length) (
  j4 (x1 ++ [y1]) x2)
  else
  Join (fun (x10 : List GStep) (x11 : List GStep) =>
  j4 x10 x11) (fun j5 =>
  Chk (room x2.length) (
  Chk (room x1.length) (
  j5 (x1 ++ [y1]) (x2 ++ [y1]))))))))
def tumbkeep2_parts_Step (p_s_L : List Int) (p_s_at : Int) (p_l : List GStep) : Option ((List GStep) × (List GStep) × Int) :=
  Join (fun (x1 : List GStep) (x2 : List GStep) (x3 : Int) =>
  some (x2, x1, x3)) (fun j1 =>
  tumbkeep2_parts_Step_l1 p_s_L j1 p_l 0 ([] : List GStep) ([] : List GStep) p_s_at)
def slices_Clone_Step (p_s : List GStep) : Option (List GStep) :=
  Chk (decide ((([] : List GStep) : List GStep).length + p_s.length < 1073741824)) (
  some ((([] : List GStep) : List GStep) ++ p_s))
def slices_BinarySearchFunc_Step_record_compare_l1 (p_x : List GStep) (p_target : GStep) (j1 : Int → Option (Int × Bool)) : Nat → Int → Int → Option (Int × Bool)
  | 0, _, _ => none
  | m1 + 1, x1, x2 => if decide (x1 < x2) then
  Join (fun (x3 : Int) (x4 : Int) =>
  slices_BinarySearchFunc_Step_record_compare_l1 p_x p_target j1 m1 x3 x4) (fun j2 =>
  Chk (inB (W (bitShr .u64 (IntKind.wrap .u64 (W (x1 + x2))) 1)) p_x.length) (
  Join (fun (x5 : Int) (x6 : Int) =>
  j2 x5 x6) (fun j3 =>
  if decide ((record_compare (nth p_x (W (bitShr .u64 (IntKind.wrap .u64 (W (x1 + x2))) 1))) p_target) < 0) then
  j3 (W ((W (bitShr .u64 (IntKind.wrap .u64 (W (x1 + x2))) 1)) + 1)) x2
  else
  j3 x1 (W (bitShr .u64 (IntKind.wrap .u64 (W (x1 + x2))) 1)))))
  else
  j1 x1
def slices_BinarySearchFunc_Step_record_compare (p_x : List GStep) (p_target : GStep) : Option (Int × Bool) :=
  Join (fun (x1 : Int) =>
  Join (fun (x7 : Bool) =>
  some (x1, x7)) (fun j4 =>
  if decide (x1 < (p_x.length : Int)) then
  Chk (inB x1 p_x.length) (
  j4 (decide ((record_compare (nth p_x x1) p_target) = 0)))
  else
  j4 false)) (fun j1 =>
  slices_BinarySearchFunc_Step_record_compare_l1 p_x p_target j1 (((p_x.length : Int) - 0).toNat + 2) 0 (p_x.length : Int))
open Classical in
def slices_SortFunc_Step_record_compare (p_x : List GStep) : Option (List GStep) := if CmpGood record_compare p_x ∧ p_x.length < 4611686018427387904 then some (sortedBy record_compare p_x) else none
def record_Merge_l1 (p_a : List GStep) (j1 : (List GStep) → Option ((List GStep) × Int)) : List GStep → Nat → (List GStep) → Option ((List GStep) × Int)
  | [], _, x1 => j1 x1
  | y1 :: ys1, i1, x1 => Join (fun (x2 : List GStep) =>
  record_Merge_l1 p_a j1 ys1 (i1 + 1) x2) (fun j2 =>
  Option.bind (slices_BinarySearchFunc_Step_record_compare p_a y1) (fun r4 =>
  Join (fun (x3 : List GStep) =>
  j2 x3) (fun j3 =>
  if !r4.2 then
  Chk (room x1.length) (
  j3 (x1 ++ [y1]))
  else
  Chk (inB r4.1 p_a.length) (
  if !decide ((nth p_a r4.1) = y1) then
  some (([] : List GStep), 13)
  else
  j3 x1))))
def record_Merge (p_a : List GStep) (p_b : List GStep) : Option ((List GStep) × Int) :=
  Option.bind (record_CheckSteps p_a) (fun r1 =>
  if !decide (r1 = 0) then
  some (([] : List GStep), r1)
  else
  Option.bind (record_CheckSteps p_b) (fun r2 =>
  if !decide (r2 = 0) then
  some (([] : List GStep), r2)
  else
  Option.bind (slices_Clone_Step p_a) (fun r3 =>
  Join (fun (x1 : List GStep) =>
  if decide (1000 < (x1.length : Int)) then
  some (([] : List GStep), 2)
  else
  Option.bind (slices_SortFunc_Step_record_compare x1) (fun r5 =>
  some (r5, 0))) (fun j1 =>
  record_Merge_l1 p_a j1 p_b 0 r3))))
def tumbkeep2_errs_l1 (j1 : Int) : List Int → Nat → Int
  | [], _ => j1
  | y1 :: ys1, i1 => if !decide (y1 = 0) then
  y1
  else
  tumbkeep2_errs_l1 j1 ys1 (i1 + 1)
def tumbkeep2_errs (p_l : List Int) : Int :=
  Join (0) (fun j1 =>
  tumbkeep2_errs_l1 j1 p_l 0)
def slices_Equal_Best_l1 (p_s2 : List GBest) (j1 : Option Bool) : List GBest → Nat → Option Bool
  | [], _ => j1
  | y1 :: ys1, i1 => Chk (inB (i1 : Int) p_s2.length) (
  if !decide (y1 = (nth p_s2 (i1 : Int))) then
  some false
  else
  slices_Equal_Best_l1 p_s2 j1 ys1 (i1 + 1))
def slices_Equal_Best (p_s1 : List GBest) (p_s2 : List GBest) : Option Bool :=
  if !decide ((p_s1.length : Int) = (p_s2.length : Int)) then
  some false
  else
  Join (some true) (fun j1 =>
  slices_Equal_Best_l1 p_s2 j1 p_s1 0)
def slices_Equal_Step_l1 (p_s2 : List GStep) (j1 : Option Bool) : List GStep → Nat → Option Bool
  | [], _ => j1
  | y1 :: ys1, i1 => Chk (inB (i1 : Int) p_s2.length) (
  if !decide (y1 = (nth p_s2 (i1 : Int))) then
  some false
  else
  slices_Equal_Step_l1 p_s2 j1 ys1 (i1 + 1))
def slices_Equal_Step (p_s1 : List GStep) (p_s2 : List GStep) : Option Bool :=
  if !decide ((p_s1.length : Int) = (p_s2.length : Int)) then
  some false
  else
  Join (some true) (fun j1 =>
  slices_Equal_Step_l1 p_s2 j1 p_s1 0)
def swimmer_leap (p_year : Int) : Bool :=
  ((decide ((Int.tmod p_year 4) = 0)) && ((!decide ((Int.tmod p_year 100) = 0)) || (decide ((Int.tmod p_year 400) = 0))))
def swimmer_long (p_year : Int) (p_month : Int) : Int :=
  if decide (p_month = 2) then
  if (swimmer_leap p_year) then
  29
  else
  28
  else
  Join (fun (x1 : Bool) =>
  if x1 then
  30
  else
  31) (fun j1 =>
  if decide (p_month = 4) then
  j1 (decide (p_month = 4))
  else
  Join (fun (x2 : Bool) =>
  j1 x2) (fun j2 =>
  if decide (p_month = 6) then
  j2 (decide (p_month = 6))
  else
  Join (fun (x3 : Bool) =>
  j2 x3) (fun j3 =>
  if decide (p_month = 9) then
  j3 (decide (p_month = 9))
  else
  j3 (decide (p_month = 11)))))
def swimmer_yearLong (p_year : Int) : Int :=
  if (swimmer_leap p_year) then
  366
  else
  365
def swimmer_isDay (p_n : Int) : Bool :=
  (words_Within p_n (-40000) 4000)
def swimmer_DayOf_l1 (p_d : GDate) (j2 : Int → Option (Int × Int)) : Nat → Int → Int → Option (Int × Int)
  | 0, _, _ => none
  | m1 + 1, x2, x3 => if decide (x3 < p_d.Month) then
  swimmer_DayOf_l1 p_d j2 m1 (W (x2 + (swimmer_long p_d.Year x3))) (W (x3 + 1))
  else
  j2 x2
def swimmer_DayOf_l2 (p_d : GDate) (j3 : Int → Option (Int × Int)) : Nat → Int → Int → Option (Int × Int)
  | 0, _, _ => none
  | m2 + 1, x4, x5 => if decide (x5 < p_d.Year) then
  swimmer_DayOf_l2 p_d j3 m2 (W (x4 + (swimmer_yearLong x5))) (W (x5 + 1))
  else
  j3 x4
def swimmer_DayOf_l3 (j4 : Int → Option (Int × Int)) : Nat → Int → Int → Option (Int × Int)
  | 0, _, _ => none
  | m3 + 1, x6, x7 => if decide (x7 < 2024) then
  swimmer_DayOf_l3 j4 m3 (W (x6 - (swimmer_yearLong x7))) (W (x7 + 1))
  else
  j4 x6
def swimmer_DayOf (p_d : GDate) : Option (Int × Int) :=
  Join (fun (x1 : Bool) =>
  if x1 then
  some (0, 1)
  else
  Join (fun (x2 : Int) =>
  Join (fun (x4 : Int) =>
  Join (fun (x6 : Int) =>
  if !(swimmer_isDay x6) then
  some (0, 1)
  else
  some (x6, 0)) (fun j4 =>
  swimmer_DayOf_l3 j4 ((2024 - p_d.Year).toNat + 2) x4 p_d.Year)) (fun j3 =>
  swimmer_DayOf_l2 p_d j3 ((p_d.Year - 2024).toNat + 2) x2 2024)) (fun j2 =>
  swimmer_DayOf_l1 p_d j2 ((p_d.Month - 1).toNat + 2) (W (p_d.Day - 1)) 1)) (fun j1 =>
  if !(words_Within p_d.Year 1900 2100) then
  if true then
  j1 true
  else
  j1 (!(words_Within p_d.Day 1 (swimmer_long p_d.Year p_d.Month)))
  else
  if !(words_Within p_d.Month 1 12) then
  j1 true
  else
  j1 (!(words_Within p_d.Day 1 (swimmer_long p_d.Year p_d.Month))))
def session_CheckItems_l1 (j1 : (List (ByteArray × Bool)) → Option Int) : List GItem → Nat → (List (ByteArray × Bool)) → Option Int
  | [], _, x1 => j1 x1
  | y1 :: ys1, i1, x1 => Option.bind (words_IsKey y1.Key) (fun r1 =>
  if !r1 then
  some 5
  else
  if mgetD x1 y1.Key false then
  some 6
  else
  if ((((!(words_Within y1.Heats 1 60)) || (!(words_Within y1.Long 1 3600000))) || (!(words_Within y1.Gap 0 3600000))) || (!(words_Within y1.Break 0 3600000))) then
  some 1
  else
  session_CheckItems_l1 j1 ys1 (i1 + 1) (mput x1 y1.Key true))
def session_CheckItems (p_l : List GItem) : Option Int :=
  if decide (100 < (p_l.length : Int)) then
  some 2
  else
  Join (fun (x1 : List (ByteArray × Bool)) =>
  some 0) (fun j1 =>
  session_CheckItems_l1 j1 p_l 0 ([] : List (ByteArray × Bool)))
def session_timetable_l2 (y1 : GItem) (j2 : (List GSlot) → Int → Option (List GSlot)) : Nat → (List GSlot) → Int → Int → Option (List GSlot)
  | 0, _, _, _ => none
  | m1 + 1, x3, x4, x5 => if decide (x5 ≤ y1.Heats) then
  Join (fun (x6 : List GSlot) (x7 : Int) =>
  session_timetable_l2 y1 j2 m1 x6 x7 (W (x5 + 1))) (fun j3 =>
  Chk (room x3.length) (
  Join (fun (x8 : Int) =>
  j3 (x3 ++ [(GSlot.mk y1.Key x5 (GWindow.mk x4 (W (x4 + y1.Long))))]) x8) (fun j4 =>
  if decide (x5 < y1.Heats) then
  j4 (W ((W (x4 + y1.Long)) + y1.Gap))
  else
  j4 (W (x4 + y1.Long)))))
  else
  j2 x3 x4
def session_timetable_l1 (j1 : (List GSlot) → Option (List GSlot)) : List GItem → Nat → (List GSlot) → Int → Option (List GSlot)
  | [], _, x1, _ => j1 x1
  | y1 :: ys1, i1, x1, x2 => Join (fun (x3 : List GSlot) (x4 : Int) =>
  session_timetable_l1 j1 ys1 (i1 + 1) x3 (W (x4 + y1.Break))) (fun j2 =>
  session_timetable_l2 y1 j2 ((y1.Heats - 1).toNat + 2) x1 x2 1)
def session_timetable (p_l : List GItem) (p_from : Int) : Option (List GSlot) :=
  Join (fun (x1 : List GSlot) =>
  some x1) (fun j1 =>
  session_timetable_l1 j1 p_l 0 ([] : List GSlot) p_from)
def session_end (p_l : List GSlot) (p_from : Int) : Option Int :=
  if decide ((p_l.length : Int) = 0) then
  some p_from
  else
  Chk (inB (W ((p_l.length : Int) - 1)) p_l.length) (
  some (((nth p_l (W ((p_l.length : Int) - 1))).Time).To))
def session_begin (p_l : List GItem) (p_from : Int) : Option ((List GSlot) × Int) :=
  if !(words_IsMoment p_from) then
  some (([] : List GSlot), 1)
  else
  Option.bind (session_timetable p_l p_from) (fun r1 =>
  Option.bind (session_end r1 p_from) (fun r2 =>
  if decide (345686400000 < r2) then
  some (([] : List GSlot), 1)
  else
  some (r1, 0)))
def session_Timetable (p_l : List GItem) (p_from : Int) : Option ((List GSlot) × Int) :=
  Option.bind (session_CheckItems p_l) (fun r1 =>
  if !decide (r1 = 0) then
  some (([] : List GSlot), r1)
  else
  Option.bind (session_begin p_l p_from) (fun r2 =>
  some (r2.1, r2.2)))
def session_Ends (p_l : List GItem) (p_from : Int) : Option (Int × Int) :=
  Option.bind (session_Timetable p_l p_from) (fun r1 =>
  if !decide (r1.2 = 0) then
  some (0, r1.2)
  else
  Option.bind (session_end r1.1 p_from) (fun r2 =>
  some (r2, 0)))
def points_CheckBase_l1 (p_l : List GBase) (j1 : Option Int) : List GBase → Nat → Option Int
  | [], _ => j1
  | y1 :: ys1, i1 => Option.bind (words_IsKey y1.Race) (fun r1 =>
  if !r1 then
  some 5
  else
  Join (fun (c1 : Bool) =>
  if c1 then
  some 7
  else
  if !(timing_IsTime y1.Time) then
  some 1
  else
  points_CheckBase_l1 p_l j1 ys1 (i1 + 1)) (fun j2 =>
  if (decide (0 < (i1 : Int))) then Chk (inB (W ((i1 : Int) - 1)) p_l.length) (
  j2 ((decide (0 < (i1 : Int))) && (Sless y1.Race ((nth p_l (W ((i1 : Int) - 1))).Race) || decide (y1.Race = ((nth p_l (W ((i1 : Int) - 1))).Race))))) else j2 ((decide (0 < (i1 : Int))) && true)))
def points_CheckBase (p_l : List GBase) : Option Int :=
  if decide (500 < (p_l.length : Int)) then
  some 2
  else
  Join (some 0) (fun j1 =>
  points_CheckBase_l1 p_l j1 p_l 0)
def points_baseOf_l1 (p_race : ByteArray) (j1 : Int) : List GBase → Nat → Int
  | [], _ => j1
  | y1 :: ys1, i1 => if decide (y1.Race = p_race) then
  y1.Time
  else
  points_baseOf_l1 p_race j1 ys1 (i1 + 1)
def points_baseOf (p_l : List GBase) (p_race : ByteArray) : Int :=
  Join (0) (fun j1 =>
  points_baseOf_l1 p_race j1 p_l 0)
def bits_Mul64 (p_x : Int) (p_y : Int) : (Int × Int) :=
  (IntKind.wrap .u64 ((IntKind.wrap .u64 ((IntKind.wrap .u64 ((bitShr .u64 p_x 32) * (bitShr .u64 p_y 32))) + (bitShr .u64 (IntKind.wrap .u64 ((IntKind.wrap .u64 ((bitShr .u64 p_x 32) * (bitAnd .u64 p_y 4294967295))) + (bitShr .u64 (IntKind.wrap .u64 ((bitAnd .u64 p_x 4294967295) * (bitAnd .u64 p_y 4294967295))) 32))) 32))) + (bitShr .u64 (IntKind.wrap .u64 ((bitAnd .u64 (IntKind.wrap .u64 ((IntKind.wrap .u64 ((bitShr .u64 p_x 32) * (bitAnd .u64 p_y 4294967295))) + (bitShr .u64 (IntKind.wrap .u64 ((bitAnd .u64 p_x 4294967295) * (bitAnd .u64 p_y 4294967295))) 32))) 4294967295) + (IntKind.wrap .u64 ((bitAnd .u64 p_x 4294967295) * (bitShr .u64 p_y 32))))) 32)), IntKind.wrap .u64 (p_x * p_y))
def bits_Len64 (p_x : Int) : Option Int :=
  Join (fun (x1 : Int) (x2 : Int) =>
  Join (fun (x3 : Int) (x4 : Int) =>
  Join (fun (x5 : Int) (x6 : Int) =>
  Chk (inB (IntKind.wrap .u8 x5) k__00_01_02_02_h633d86.size) (
  some (W (x6 + (W (sbyte k__00_01_02_02_h633d86 (IntKind.wrap .u8 x5))))))) (fun j3 =>
  if decide (256 ≤ x3) then
  j3 (bitShr .u64 x3 8) (W (x4 + 8))
  else
  j3 x3 x4)) (fun j2 =>
  if decide (65536 ≤ x1) then
  j2 (bitShr .u64 x1 16) (W (x2 + 16))
  else
  j2 x1 x2)) (fun j1 =>
  if decide (4294967296 ≤ p_x) then
  j1 (bitShr .u64 p_x 32) 32
  else
  j1 p_x 0)
def bits_LeadingZeros64 (p_x : Int) : Option Int :=
  Option.bind (bits_Len64 p_x) (fun r1 =>
  some (W (64 - r1)))
def bits_Div64_l1 (p_lo : Int) (r1 : Int) (p_y : Int) (j1 : Int → Option (Int × Int)) : Nat → Int → Int → Option (Int × Int)
  | 0, _, _ => none
  | m1 + 1, x1, x2 => if ((decide (4294967296 ≤ x1)) || (decide ((IntKind.wrap .u64 ((IntKind.wrap .u64 (4294967296 * x2)) + (bitShr .u64 (bitShl .u64 p_lo (IntKind.wrap .u64 r1)) 32))) < (IntKind.wrap .u64 (x1 * (bitAnd .u64 (bitShl .u64 p_y (IntKind.wrap .u64 r1)) 4294967295)))))) then
  if decide (4294967296 ≤ (IntKind.wrap .u64 (x2 + (bitShr .u64 (bitShl .u64 p_y (IntKind.wrap .u64 r1)) 32)))) then
  j1 (IntKind.wrap .u64 (x1 - 1))
  else
  bits_Div64_l1 p_lo r1 p_y j1 m1 (IntKind.wrap .u64 (x1 - 1)) (IntKind.wrap .u64 (x2 + (bitShr .u64 (bitShl .u64 p_y (IntKind.wrap .u64 r1)) 32)))
  else
  j1 x1
def bits_Div64_l2 (p_lo : Int) (r1 : Int) (p_y : Int) (j2 : Int → Option (Int × Int)) : Nat → Int → Int → Option (Int × Int)
  | 0, _, _ => none
  | m2 + 1, x3, x4 => if ((decide (4294967296 ≤ x4)) || (decide ((IntKind.wrap .u64 ((IntKind.wrap .u64 (4294967296 * x3)) + (bitAnd .u64 (bitShl .u64 p_lo (IntKind.wrap .u64 r1)) 4294967295))) < (IntKind.wrap .u64 (x4 * (bitAnd .u64 (bitShl .u64 p_y (IntKind.wrap .u64 r1)) 4294967295)))))) then
  if decide (4294967296 ≤ (IntKind.wrap .u64 (x3 + (bitShr .u64 (bitShl .u64 p_y (IntKind.wrap .u64 r1)) 32)))) then
  j2 (IntKind.wrap .u64 (x4 - 1))
  else
  bits_Div64_l2 p_lo r1 p_y j2 m2 (IntKind.wrap .u64 (x3 + (bitShr .u64 (bitShl .u64 p_y (IntKind.wrap .u64 r1)) 32))) (IntKind.wrap .u64 (x4 - 1))
  else
  j2 x4
def bits_Div64 (p_hi : Int) (p_lo : Int) (p_y : Int) : Option (Int × Int) :=
  if decide (p_y = 0) then
  none
  else
  if decide (p_y ≤ p_hi) then
  none
  else
  if decide (p_hi = 0) then
  Chk (!decide (p_y = 0)) (
  Chk (!decide (p_y = 0)) (
  some (IntKind.wrap .u64 (Int.tdiv p_lo p_y), Int.tmod p_lo p_y)))
  else
  Option.bind (bits_LeadingZeros64 p_y) (fun r1 =>
  Chk (decide (0 ≤ (IntKind.wrap .u64 r1))) (
  Chk (decide (0 ≤ (IntKind.wrap .u64 r1))) (
  Chk (decide (0 ≤ (IntKind.wrap .u64 (64 - (IntKind.wrap .u64 r1))))) (
  Chk (decide (0 ≤ (IntKind.wrap .u64 r1))) (
  Chk (!decide ((bitShr .u64 (bitShl .u64 p_y (IntKind.wrap .u64 r1)) 32) = 0)) (
  Join (fun (x1 : Int) =>
  Chk (!decide ((bitShr .u64 (bitShl .u64 p_y (IntKind.wrap .u64 r1)) 32) = 0)) (
  Join (fun (x4 : Int) =>
  Chk (decide (0 ≤ (IntKind.wrap .u64 r1))) (
  some (IntKind.wrap .u64 ((IntKind.wrap .u64 (x1 * 4294967296)) + x4), bitShr .u64 (IntKind.wrap .u64 ((IntKind.wrap .u64 ((IntKind.wrap .u64 ((IntKind.wrap .u64 ((IntKind.wrap .u64 ((IntKind.wrap .u64 ((bitOr .u64 (bitShl .u64 p_hi (IntKind.wrap .u64 r1)) (bitShr .u64 p_lo (IntKind.wrap .u64 (64 - (IntKind.wrap .u64 r1))))) * 4294967296)) + (bitShr .u64 (bitShl .u64 p_lo (IntKind.wrap .u64 r1)) 32))) - (IntKind.wrap .u64 (x1 * (bitShl .u64 p_y (IntKind.wrap .u64 r1)))))) * 4294967296)) + (bitAnd .u64 (bitShl .u64 p_lo (IntKind.wrap .u64 r1)) 4294967295))) - (IntKind.wrap .u64 (x4 * (bitShl .u64 p_y (IntKind.wrap .u64 r1)))))) (IntKind.wrap .u64 r1)))) (fun j2 =>
  bits_Div64_l2 p_lo r1 p_y j2 (((IntKind.wrap .u64 (Int.tdiv (IntKind.wrap .u64 ((IntKind.wrap .u64 ((IntKind.wrap .u64 ((bitOr .u64 (bitShl .u64 p_hi (IntKind.wrap .u64 r1)) (bitShr .u64 p_lo (IntKind.wrap .u64 (64 - (IntKind.wrap .u64 r1))))) * 4294967296)) + (bitShr .u64 (bitShl .u64 p_lo (IntKind.wrap .u64 r1)) 32))) - (IntKind.wrap .u64 (x1 * (bitShl .u64 p_y (IntKind.wrap .u64 r1)))))) (bitShr .u64 (bitShl .u64 p_y (IntKind.wrap .u64 r1)) 32))) - 4294967296).toNat + 2) (IntKind.wrap .u64 ((IntKind.wrap .u64 ((IntKind.wrap .u64 ((IntKind.wrap .u64 ((bitOr .u64 (bitShl .u64 p_hi (IntKind.wrap .u64 r1)) (bitShr .u64 p_lo (IntKind.wrap .u64 (64 - (IntKind.wrap .u64 r1))))) * 4294967296)) + (bitShr .u64 (bitShl .u64 p_lo (IntKind.wrap .u64 r1)) 32))) - (IntKind.wrap .u64 (x1 * (bitShl .u64 p_y (IntKind.wrap .u64 r1)))))) - (IntKind.wrap .u64 ((IntKind.wrap .u64 (Int.tdiv (IntKind.wrap .u64 ((IntKind.wrap .u64 ((IntKind.wrap .u64 ((bitOr .u64 (bitShl .u64 p_hi (IntKind.wrap .u64 r1)) (bitShr .u64 p_lo (IntKind.wrap .u64 (64 - (IntKind.wrap .u64 r1))))) * 4294967296)) + (bitShr .u64 (bitShl .u64 p_lo (IntKind.wrap .u64 r1)) 32))) - (IntKind.wrap .u64 (x1 * (bitShl .u64 p_y (IntKind.wrap .u64 r1)))))) (bitShr .u64 (bitShl .u64 p_y (IntKind.wrap .u64 r1)) 32))) * (bitShr .u64 (bitShl .u64 p_y (IntKind.wrap .u64 r1)) 32))))) (IntKind.wrap .u64 (Int.tdiv (IntKind.wrap .u64 ((IntKind.wrap .u64 ((IntKind.wrap .u64 ((bitOr .u64 (bitShl .u64 p_hi (IntKind.wrap .u64 r1)) (bitShr .u64 p_lo (IntKind.wrap .u64 (64 - (IntKind.wrap .u64 r1))))) * 4294967296)) + (bitShr .u64 (bitShl .u64 p_lo (IntKind.wrap .u64 r1)) 32))) - (IntKind.wrap .u64 (x1 * (bitShl .u64 p_y (IntKind.wrap .u64 r1)))))) (bitShr .u64 (bitShl .u64 p_y (IntKind.wrap .u64 r1)) 32)))))) (fun j1 =>
  bits_Div64_l1 p_lo r1 p_y j1 (((IntKind.wrap .u64 (Int.tdiv (bitOr .u64 (bitShl .u64 p_hi (IntKind.wrap .u64 r1)) (bitShr .u64 p_lo (IntKind.wrap .u64 (64 - (IntKind.wrap .u64 r1))))) (bitShr .u64 (bitShl .u64 p_y (IntKind.wrap .u64 r1)) 32))) - 4294967296).toNat + 2) (IntKind.wrap .u64 (Int.tdiv (bitOr .u64 (bitShl .u64 p_hi (IntKind.wrap .u64 r1)) (bitShr .u64 p_lo (IntKind.wrap .u64 (64 - (IntKind.wrap .u64 r1))))) (bitShr .u64 (bitShl .u64 p_y (IntKind.wrap .u64 r1)) 32))) (IntKind.wrap .u64 ((bitOr .u64 (bitShl .u64 p_hi (IntKind.wrap .u64 r1)) (bitShr .u64 p_lo (IntKind.wrap .u64 (64 - (IntKind.wrap .u64 r1))))) - (IntKind.wrap .u64 ((IntKind.wrap .u64 (Int.tdiv (bitOr .u64 (bitShl .u64 p_hi (IntKind.wrap .u64 r1)) (bitShr .u64 p_lo (IntKind.wrap .u64 (64 - (IntKind.wrap .u64 r1))))) (bitShr .u64 (bitShl .u64 p_y (IntKind.wrap .u64 r1)) 32))) * (bitShr .u64 (bitShl .u64 p_y (IntKind.wrap .u64 r1)) 32))))))))))))
def points_byTime (p_base : Int) (p_time : Int) : Option Int :=
  if decide ((IntKind.wrap .u64 ((IntKind.wrap .u64 ((IntKind.wrap .u64 p_time) * (IntKind.wrap .u64 p_time))) * (IntKind.wrap .u64 p_time))) ≤ ((bits_Mul64 (IntKind.wrap .u64 ((IntKind.wrap .u64 ((IntKind.wrap .u64 p_base) * (IntKind.wrap .u64 p_base))) * (IntKind.wrap .u64 p_base))) 1000).1)) then
  some 1000000000
  else
  Option.bind (bits_Div64 ((bits_Mul64 (IntKind.wrap .u64 ((IntKind.wrap .u64 ((IntKind.wrap .u64 p_base) * (IntKind.wrap .u64 p_base))) * (IntKind.wrap .u64 p_base))) 1000).1) ((bits_Mul64 (IntKind.wrap .u64 ((IntKind.wrap .u64 ((IntKind.wrap .u64 p_base) * (IntKind.wrap .u64 p_base))) * (IntKind.wrap .u64 p_base))) 1000).2) (IntKind.wrap .u64 ((IntKind.wrap .u64 ((IntKind.wrap .u64 p_time) * (IntKind.wrap .u64 p_time))) * (IntKind.wrap .u64 p_time)))) (fun r1 =>
  some (W (imin r1.1 1000000000)))
def points_ByTime (p_l : List GBase) (p_race : ByteArray) (p_time : Int) : Option (Int × Int) :=
  Option.bind (points_CheckBase p_l) (fun r1 =>
  if !decide (r1 = 0) then
  some (0, r1)
  else
  if decide ((points_baseOf p_l p_race) = 0) then
  some (0, 8)
  else
  if !(timing_IsTime p_time) then
  some (0, 1)
  else
  Option.bind (points_byTime (points_baseOf p_l p_race) p_time) (fun r2 =>
  some (r2, 0)))
def record_checkSwum (p_s : GStep) : Option Int :=
  Option.bind (record_checkStep p_s) (fun r1 =>
  if !decide (r1 = 0) then
  some r1
  else
  if !decide (p_s.Kind = 1) then
  some 4
  else
  some 0)
def record_For_l1 (p_s : GStep) (j1 : (List ByteArray) → Option ((List ByteArray) × Int)) : List GKind → Nat → (List ByteArray) → Option ((List ByteArray) × Int)
  | [], _, x1 => j1 x1
  | y1 :: ys1, i1, x1 => Join (fun (x2 : List ByteArray) =>
  record_For_l1 p_s j1 ys1 (i1 + 1) x2) (fun j2 =>
  Join (fun (x3 : List ByteArray) =>
  j2 x3) (fun j3 =>
  if (record_isFor y1 p_s) then
  Chk (room x1.length) (
  j3 (x1 ++ [y1.Key]))
  else
  j3 x1))
def record_For (p_l : List GKind) (p_s : GStep) : Option ((List ByteArray) × Int) :=
  Option.bind (record_CheckKinds p_l) (fun r1 =>
  if !decide (r1 = 0) then
  some (([] : List ByteArray), r1)
  else
  Option.bind (record_checkSwum p_s) (fun r2 =>
  if !decide (r2 = 0) then
  some (([] : List ByteArray), r2)
  else
  Join (fun (x1 : List ByteArray) =>
  some (x1, 0)) (fun j1 =>
  record_For_l1 p_s j1 p_l 0 ([] : List ByteArray))))
def tumbkeep2_ready : Option Bool :=
  Option.bind (swimmer_DayOf (GDate.mk 2024 3 1)) (fun r1 =>
  Option.bind (session_Ends [(GItem.mk k_a 2 10 5 0)] 0) (fun r2 =>
  Option.bind (points_ByTime [(GBase.mk k_r 3000)] k_r 6000) (fun r3 =>
  Option.bind (record_For ([(GKind.mk k_k k_r ([] : List ByteArray) 0 9)] : List GKind) (GStep.mk 0 1 k_i k_a k_empty k_r 0 5)) (fun r4 =>
  some (((((decide ((tumbkeep2_errs [r1.2, r2.2, r3.2, r4.2]) = 0)) && (decide (r1.1 = 60))) && (decide (r2.1 = 25))) && (decide (r3.1 = 125))) && (decide ((r4.1.length : Int) = 1)))))))
def tumbkeep2_RecordsFollowSteps_l1 (r5 : (List Int) × Int) (j1 : (List GStep) → Option Bool) : List GStep → Nat → (List GStep) → Option Bool
  | [], _, x1 => j1 x1
  | y1 :: ys1, i1, x1 => Join (fun (x2 : List GStep) =>
  tumbkeep2_RecordsFollowSteps_l1 r5 j1 ys1 (i1 + 1) x2) (fun j2 =>
  Join (fun (x3 : List GStep) =>
  j2 x3) (fun j3 =>
  if !(slices_Contains_int r5.1 (i1 : Int)) then
  Chk (room x1.length) (
  j3 (x1 ++ [y1]))
  else
  j3 x1))
def tumbkeep2_RecordsFollowSteps (p_l : List Int) : Option Bool :=
  Option.bind (Stream_RightKinds p_l 0) (fun r1 =>
  Option.bind (Stream_Range p_l r1.2 0 16) (fun r2 =>
  Option.bind (Stream_RightSteps p_l r2.2 r2.1) (fun r3 =>
  Option.bind (Stream_Range p_l r3.2 0 60) (fun r4 =>
  Option.bind (record_Refused r3.1) (fun r5 =>
  Join (fun (x1 : List GStep) =>
  Option.bind (record_Refused x1) (fun r6 =>
  Option.bind (record_All r1.1 r3.1 r4.1) (fun r7 =>
  Option.bind (record_All r1.1 x1 r4.1) (fun r8 =>
  Option.bind (tumbkeep2_parts_Step p_l r4.2 r3.1) (fun r9 =>
  Option.bind (record_Merge r9.1 r9.2.1) (fun r10 =>
  Option.bind (record_Merge r9.2.1 r9.1) (fun r11 =>
  Join (fun (c1 : Bool) =>
  Join (fun (c2 : Bool) =>
  Join (fun (c3 : Bool) =>
  Join (fun (c4 : Bool) =>
  some c4) (fun j7 =>
  if c3 then Option.bind (tumbkeep2_ready) (fun r15 =>
  j7 (c3 && r15)) else j7 (c3 && true))) (fun j6 =>
  if c2 then Option.bind (slices_Equal_Step r11.1 r3.1) (fun r14 =>
  j6 (c2 && r14)) else j6 (c2 && true))) (fun j5 =>
  if c1 then Option.bind (slices_Equal_Step r10.1 r3.1) (fun r13 =>
  j5 (c1 && r13)) else j5 (c1 && true))) (fun j4 =>
  if ((decide ((tumbkeep2_errs [r5.2, r6.2, r7.2, r8.2, r10.2, r11.2]) = 0)) && (decide ((r6.1.length : Int) = 0))) then Option.bind (slices_Equal_Best r7.1 r8.1) (fun r12 =>
  j4 (((decide ((tumbkeep2_errs [r5.2, r6.2, r7.2, r8.2, r10.2, r11.2]) = 0)) && (decide ((r6.1.length : Int) = 0))) && r12)) else j4 (((decide ((tumbkeep2_errs [r5.2, r6.2, r7.2, r8.2, r10.2, r11.2]) = 0)) && (decide ((r6.1.length : Int) = 0))) && true))))))))) (fun j1 =>
  tumbkeep2_RecordsFollowSteps_l1 r5 j1 r3.1 0 ([] : List GStep)))))))
theorem twin_eqs : True := by
  have h := @Stream_RightKinds_l2.eq_def; clear h; have h := @Stream_RightKinds_l2.eq_1; clear h; have h := @Stream_RightKinds_l2.eq_2; clear h
  have h := @Stream_RightKinds_l1.eq_def; clear h; have h := @Stream_RightKinds_l1.eq_1; clear h; have h := @Stream_RightKinds_l1.eq_2; clear h
  have h := @slices_insertionSortCmpFunc_Step_tumbref2_StepOrder_l2.eq_def; clear h; have h := @slices_insertionSortCmpFunc_Step_tumbref2_StepOrder_l2.eq_1; clear h; have h := @slices_insertionSortCmpFunc_Step_tumbref2_StepOrder_l2.eq_2; clear h
  have h := @slices_insertionSortCmpFunc_Step_tumbref2_StepOrder_l1.eq_def; clear h; have h := @slices_insertionSortCmpFunc_Step_tumbref2_StepOrder_l1.eq_1; clear h; have h := @slices_insertionSortCmpFunc_Step_tumbref2_StepOrder_l1.eq_2; clear h
  have h := @slices_stableCmpFunc_Step_tumbref2_StepOrder_l1.eq_def; clear h; have h := @slices_stableCmpFunc_Step_tumbref2_StepOrder_l1.eq_1; clear h; have h := @slices_stableCmpFunc_Step_tumbref2_StepOrder_l1.eq_2; clear h
  have h := @slices_stableCmpFunc_Step_tumbref2_StepOrder_l3.eq_def; clear h; have h := @slices_stableCmpFunc_Step_tumbref2_StepOrder_l3.eq_1; clear h; have h := @slices_stableCmpFunc_Step_tumbref2_StepOrder_l3.eq_2; clear h
  have h := @slices_stableCmpFunc_Step_tumbref2_StepOrder_l2.eq_def; clear h; have h := @slices_stableCmpFunc_Step_tumbref2_StepOrder_l2.eq_1; clear h; have h := @slices_stableCmpFunc_Step_tumbref2_StepOrder_l2.eq_2; clear h
  have h := @slices_CompactFunc_Step_Stream_Steps_c1_l2.eq_def; clear h; have h := @slices_CompactFunc_Step_Stream_Steps_c1_l2.eq_1; clear h; have h := @slices_CompactFunc_Step_Stream_Steps_c1_l2.eq_2; clear h
  have h := @slices_CompactFunc_Step_Stream_Steps_c1_l1.eq_def; clear h; have h := @slices_CompactFunc_Step_Stream_Steps_c1_l1.eq_1; clear h; have h := @slices_CompactFunc_Step_Stream_Steps_c1_l1.eq_2; clear h
  have h := @Stream_Steps_l1.eq_def; clear h; have h := @Stream_Steps_l1.eq_1; clear h; have h := @Stream_Steps_l1.eq_2; clear h
  have h := @tumbref2_only_l1.eq_def; clear h; have h := @tumbref2_only_l1.eq_1; clear h; have h := @tumbref2_only_l1.eq_2; clear h
  have h := @tumbref2_StepsFault_l1.eq_def; clear h; have h := @tumbref2_StepsFault_l1.eq_1; clear h; have h := @tumbref2_StepsFault_l1.eq_2; clear h
  have h := @Stream_RightSteps_l1.eq_def; clear h; have h := @Stream_RightSteps_l1.eq_1; clear h; have h := @Stream_RightSteps_l1.eq_2; clear h
  have h := @cmp_Or_int_l1.eq_def; clear h; have h := @cmp_Or_int_l1.eq_1; clear h; have h := @cmp_Or_int_l1.eq_2; clear h
  have h := @record_CheckSteps_l1.eq_def; clear h; have h := @record_CheckSteps_l1.eq_1; clear h; have h := @record_CheckSteps_l1.eq_2; clear h
  have h := @record_follow_l1.eq_def; clear h; have h := @record_follow_l1.eq_1; clear h; have h := @record_follow_l1.eq_2; clear h
  have h := @slices_Index_int_l1.eq_def; clear h; have h := @slices_Index_int_l1.eq_1; clear h; have h := @slices_Index_int_l1.eq_2; clear h
  have h := @record_CheckKinds_l2.eq_def; clear h; have h := @record_CheckKinds_l2.eq_1; clear h; have h := @record_CheckKinds_l2.eq_2; clear h
  have h := @record_CheckKinds_l1.eq_def; clear h; have h := @record_CheckKinds_l1.eq_1; clear h; have h := @record_CheckKinds_l1.eq_2; clear h
  have h := @slices_Index_string_l1.eq_def; clear h; have h := @slices_Index_string_l1.eq_1; clear h; have h := @slices_Index_string_l1.eq_2; clear h
  have h := @record_history_l1.eq_def; clear h; have h := @record_history_l1.eq_1; clear h; have h := @record_history_l1.eq_2; clear h
  have h := @record_record_l1.eq_def; clear h; have h := @record_record_l1.eq_1; clear h; have h := @record_record_l1.eq_2; clear h
  have h := @record_All_l1.eq_def; clear h; have h := @record_All_l1.eq_1; clear h; have h := @record_All_l1.eq_2; clear h
  have h := @tumbkeep2_parts_Step_l1.eq_def; clear h; have h := @tumbkeep2_parts_Step_l1.eq_1; clear h; have h := @tumbkeep2_parts_Step_l1.eq_2; clear h
  have h := @slices_BinarySearchFunc_Step_record_compare_l1.eq_def; clear h; have h := @slices_BinarySearchFunc_Step_record_compare_l1.eq_1; clear h; have h := @slices_BinarySearchFunc_Step_record_compare_l1.eq_2; clear h
  have h := @record_Merge_l1.eq_def; clear h; have h := @record_Merge_l1.eq_1; clear h; have h := @record_Merge_l1.eq_2; clear h
  have h := @tumbkeep2_errs_l1.eq_def; clear h; have h := @tumbkeep2_errs_l1.eq_1; clear h; have h := @tumbkeep2_errs_l1.eq_2; clear h
  have h := @slices_Equal_Best_l1.eq_def; clear h; have h := @slices_Equal_Best_l1.eq_1; clear h; have h := @slices_Equal_Best_l1.eq_2; clear h
  have h := @slices_Equal_Step_l1.eq_def; clear h; have h := @slices_Equal_Step_l1.eq_1; clear h; have h := @slices_Equal_Step_l1.eq_2; clear h
  have h := @swimmer_DayOf_l1.eq_def; clear h; have h := @swimmer_DayOf_l1.eq_1; clear h; have h := @swimmer_DayOf_l1.eq_2; clear h
  have h := @swimmer_DayOf_l2.eq_def; clear h; have h := @swimmer_DayOf_l2.eq_1; clear h; have h := @swimmer_DayOf_l2.eq_2; clear h
  have h := @swimmer_DayOf_l3.eq_def; clear h; have h := @swimmer_DayOf_l3.eq_1; clear h; have h := @swimmer_DayOf_l3.eq_2; clear h
  have h := @session_CheckItems_l1.eq_def; clear h; have h := @session_CheckItems_l1.eq_1; clear h; have h := @session_CheckItems_l1.eq_2; clear h
  have h := @session_timetable_l2.eq_def; clear h; have h := @session_timetable_l2.eq_1; clear h; have h := @session_timetable_l2.eq_2; clear h
  have h := @session_timetable_l1.eq_def; clear h; have h := @session_timetable_l1.eq_1; clear h; have h := @session_timetable_l1.eq_2; clear h
  have h := @points_CheckBase_l1.eq_def; clear h; have h := @points_CheckBase_l1.eq_1; clear h; have h := @points_CheckBase_l1.eq_2; clear h
  have h := @points_baseOf_l1.eq_def; clear h; have h := @points_baseOf_l1.eq_1; clear h; have h := @points_baseOf_l1.eq_2; clear h
  have h := @bits_Div64_l1.eq_def; clear h; have h := @bits_Div64_l1.eq_1; clear h; have h := @bits_Div64_l1.eq_2; clear h
  have h := @bits_Div64_l2.eq_def; clear h; have h := @bits_Div64_l2.eq_1; clear h; have h := @bits_Div64_l2.eq_2; clear h
  have h := @record_For_l1.eq_def; clear h; have h := @record_For_l1.eq_1; clear h; have h := @record_For_l1.eq_2; clear h
  have h := @tumbkeep2_RecordsFollowSteps_l1.eq_def; clear h; have h := @tumbkeep2_RecordsFollowSteps_l1.eq_1; clear h; have h := @tumbkeep2_RecordsFollowSteps_l1.eq_2; clear h
  trivial
end
end Go.Proofs.YtbmkfjgekokfcaaGreatDoor
