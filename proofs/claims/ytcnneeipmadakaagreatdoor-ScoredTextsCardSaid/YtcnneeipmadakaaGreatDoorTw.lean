/- The Go functions as plain Lean functions, by program. -/
import Derived.Test.YtcnneeipmadakaaGreatDoorBase
import Derived.Lib.Atoi
import Derived.Lib.IndexMore
import Derived.Lib.ItoaNum
import Derived.Lib.Join
import Derived.Lib.Split
import Derived.Lib.Strings
namespace Go.Proofs.YtcnneeipmadakaaGreatDoor
open Go
structure Gtumbmake_Stream where
  L : List Int
  at_ : Int
  deriving DecidableEq, Inhabited
structure GScored where
  Race : ByteArray
  Who : ByteArray
  Club : ByteArray
  Rank : Int
  Relay : Bool
  deriving DecidableEq, Inhabited
structure Gpoints_entry where
  race_ : ByteArray
  who_ : ByteArray
  deriving DecidableEq, Inhabited
structure Gno_is_e where
  is_ : Bool
  e_ : Int
  deriving DecidableEq, Inhabited
structure GBase where
  Race : ByteArray
  Time : Int
  deriving DecidableEq, Inhabited
def k_empty : ByteArray := ⟨#[]⟩
def k_ra : ByteArray := ⟨#[114, 97]⟩
def k_rb : ByteArray := ⟨#[114, 98]⟩
def k_rc : ByteArray := ⟨#[114, 99]⟩
def k_ann : ByteArray := ⟨#[97, 110, 110]⟩
def k_bea : ByteArray := ⟨#[98, 101, 97]⟩
def k_cid : ByteArray := ⟨#[99, 105, 100]⟩
def k_dan : ByteArray := ⟨#[100, 97, 110]⟩
def k_eve : ByteArray := ⟨#[101, 118, 101]⟩
def k_blue : ByteArray := ⟨#[98, 108, 117, 101]⟩
def k_red : ByteArray := ⟨#[114, 101, 100]⟩
def k_grey : ByteArray := ⟨#[103, 114, 101, 121]⟩
def k__00_01_02_02_h633d86 : ByteArray := ⟨#[0, 1, 2, 2, 3, 3, 3, 3, 4, 4, 4, 4, 4, 4, 4, 4, 5, 5, 5, 5, 5, 5, 5, 5, 5, 5, 5, 5, 5, 5, 5, 5, 6, 6, 6, 6, 6, 6, 6, 6, 6, 6, 6, 6, 6, 6, 6, 6, 6, 6, 6, 6, 6, 6, 6, 6, 6, 6, 6, 6, 6, 6, 6, 6, 7, 7, 7, 7, 7, 7, 7, 7, 7, 7, 7, 7, 7, 7, 7, 7, 7, 7, 7, 7, 7, 7, 7, 7, 7, 7, 7, 7, 7, 7, 7, 7, 7, 7, 7, 7, 7, 7, 7, 7, 7, 7, 7, 7, 7, 7, 7, 7, 7, 7, 7, 7, 7, 7, 7, 7, 7, 7, 7, 7, 7, 7, 7, 7, 8, 8, 8, 8, 8, 8, 8, 8, 8, 8, 8, 8, 8, 8, 8, 8, 8, 8, 8, 8, 8, 8, 8, 8, 8, 8, 8, 8, 8, 8, 8, 8, 8, 8, 8, 8, 8, 8, 8, 8, 8, 8, 8, 8, 8, 8, 8, 8, 8, 8, 8, 8, 8, 8, 8, 8, 8, 8, 8, 8, 8, 8, 8, 8, 8, 8, 8, 8, 8, 8, 8, 8, 8, 8, 8, 8, 8, 8, 8, 8, 8, 8, 8, 8, 8, 8, 8, 8, 8, 8, 8, 8, 8, 8, 8, 8, 8, 8, 8, 8, 8, 8, 8, 8, 8, 8, 8, 8, 8, 8, 8, 8, 8, 8, 8, 8, 8, 8, 8, 8, 8, 8, 8, 8, 8, 8, 8, 8]⟩
def k_A : ByteArray := ⟨#[65]⟩
def k_s : ByteArray := ⟨#[115]⟩
def k_r : ByteArray := ⟨#[114]⟩
def k__2d : ByteArray := ⟨#[45]⟩
def k__20 : ByteArray := ⟨#[32]⟩
def k__0a : ByteArray := ⟨#[10]⟩
def k__20_0a0_2d9rsa1 : ByteArray := ⟨#[32, 10, 48, 45, 57, 114, 115, 97, 49]⟩
def k_abcdefghijkl_h0e2e2c : ByteArray := ⟨#[97, 98, 99, 100, 101, 102, 103, 104, 105, 106, 107, 108, 109, 110, 111, 112, 113, 114, 115, 116, 117, 118, 119, 120, 121, 122, 48, 49, 50, 51, 52, 53, 54, 55, 56, 57, 45, 95]⟩
def k_abcdefghijklmnopqrstuvwxyz : ByteArray := ⟨#[97, 98, 99, 100, 101, 102, 103, 104, 105, 106, 107, 108, 109, 110, 111, 112, 113, 114, 115, 116, 117, 118, 119, 120, 121, 122]⟩
def k_0123456789 : ByteArray := ⟨#[48, 49, 50, 51, 52, 53, 54, 55, 56, 57]⟩
def k_0 : ByteArray := ⟨#[48]⟩
def tumbmake_Below (p_x : Int) (p_n : Int) : Option Int :=
  if decide (p_n < 1) then
  some 0
  else
  Chk (!decide (p_n = 0)) (
  Join (fun (x1 : Int) =>
  some x1) (fun j1 =>
  if decide ((Int.tmod p_x p_n) < 0) then
  j1 (W ((Int.tmod p_x p_n) + p_n))
  else
  j1 (Int.tmod p_x p_n)))
def Stream_Next (p_s_L : List Int) (p_s_at : Int) (p_n : Int) : Option (Int × Int) :=
  if decide ((p_s_L.length : Int) = 0) then
  Option.bind (tumbmake_Below (W ((W (p_s_at + 1)) * 7919)) p_n) (fun r1 =>
  some (r1, W (p_s_at + 1)))
  else
  Chk (!decide ((p_s_L.length : Int) = 0)) (
  Chk (!decide ((p_s_L.length : Int) = 0)) (
  Chk (inB (Int.tmod (W ((W (p_s_at + 1)) - 1)) (p_s_L.length : Int)) p_s_L.length) (
  Option.bind (tumbmake_Below (nth p_s_L (Int.tmod (W ((W (p_s_at + 1)) - 1)) (p_s_L.length : Int))) 1073741824) (fun r2 =>
  Option.bind (tumbmake_Below (W (r2 + (W ((W (Int.tdiv (W ((W (p_s_at + 1)) - 1)) (p_s_L.length : Int))) * (W (7919 + (Int.tmod (W ((W (p_s_at + 1)) - 1)) (p_s_L.length : Int)))))))) p_n) (fun r3 =>
  some (r3, W (p_s_at + 1)))))))
def Stream_Flip (p_s_L : List Int) (p_s_at : Int) (p_n : Int) : Option (Bool × Int) :=
  Option.bind (Stream_Next p_s_L p_s_at p_n) (fun r1 =>
  some (decide (r1.1 = 0), r1.2))
def Stream_Some (p_s_L : List Int) (p_s_at : Int) (p_l : List ByteArray) : Option (ByteArray × Int) :=
  Option.bind (Stream_Next p_s_L p_s_at (p_l.length : Int)) (fun r1 =>
  Chk (inB r1.1 p_l.length) (
  some ((nth p_l r1.1), r1.2)))
def Stream_Pick (p_s_L : List Int) (p_s_at : Int) (p_l : List Int) : Option (Int × Int) :=
  Option.bind (Stream_Next p_s_L p_s_at (p_l.length : Int)) (fun r1 =>
  Chk (inB r1.1 p_l.length) (
  some ((nth p_l r1.1), r1.2)))
def bits_Len32 (p_x : Int) : Option Int :=
  Join (fun (x1 : Int) (x2 : Int) =>
  Join (fun (x3 : Int) (x4 : Int) =>
  Chk (inB (IntKind.wrap .u8 x3) k__00_01_02_02_h633d86.size) (
  some (W (x4 + (W (sbyte k__00_01_02_02_h633d86 (IntKind.wrap .u8 x3))))))) (fun j2 =>
  if decide (256 ≤ x1) then
  j2 (bitShr .u32 x1 8) (W (x2 + 8))
  else
  j2 x1 x2)) (fun j1 =>
  if decide (65536 ≤ p_x) then
  j1 (bitShr .u32 p_x 16) 16
  else
  j1 p_x 0)
def bits_Len64 (p_x : Int) : Option Int :=
  Join (fun (x1 : Int) (x2 : Int) =>
  Join (fun (x3 : Int) (x4 : Int) =>
  Join (fun (x5 : Int) (x6 : Int) =>
  Chk (inB (IntKind.wrap .u8 x5) k__00_01_02_02_h633d86.size) (
  some (W (x6 + (W (sbyte k__00_01_02_02_h633d86 (IntKind.wrap .u8 x5))))))) (fun j3 =>
  if decide (256 ≤ x3) then
  j3 (bitShr .u64 x3 8) (W (x4 + 8))
  else
  j3 x3 x4)) (fun j2 =>
  if decide (65536 ≤ x1) then
  j2 (bitShr .u64 x1 16) (W (x2 + 16))
  else
  j2 x1 x2)) (fun j1 =>
  if decide (4294967296 ≤ p_x) then
  j1 (bitShr .u64 p_x 32) 32
  else
  j1 p_x 0)
def bits_Len (p_x : Int) : Option Int :=
  if false then
  Option.bind (bits_Len32 (IntKind.wrap .u32 p_x)) (fun r1 =>
  some r1)
  else
  Option.bind (bits_Len64 p_x) (fun r2 =>
  some r2)
def strings_Compare (s t : ByteArray) : Int := Lib.compareBytes s.data.toList t.data.toList
def tumbref2_ScoredOrder_c1 (p_s : GScored) : Int :=
  if decide (p_s.Rank = 0) then
  301
  else
  p_s.Rank
def tumbref2_sign (p_n : Int) : Int :=
  if decide (p_n < 0) then
  (-1)
  else
  if decide (0 < p_n) then
  1
  else
  0
def tumbref2_ScoredOrder (p_a : GScored) (p_b : GScored) : Int :=
  if !decide (p_a.Race = p_b.Race) then
  (strings_Compare p_a.Race p_b.Race)
  else
  if !decide ((tumbref2_ScoredOrder_c1 p_a) = (tumbref2_ScoredOrder_c1 p_b)) then
  (tumbref2_sign (W ((tumbref2_ScoredOrder_c1 p_a) - (tumbref2_ScoredOrder_c1 p_b))))
  else
  (strings_Compare p_a.Who p_b.Who)
def slices_insertionSortCmpFunc_Scored_tumbref2_ScoredOrder_l2 (p_a : Int) (j2 : (List GScored) → Option (List GScored)) : Nat → (List GScored) → Int → Option (List GScored)
  | 0, _, _ => none
  | m2 + 1, x3, x4 => Join (fun (x5 : Bool) =>
  if x5 then
  Chk (inB (W (x4 - 1)) x3.length) (
  Chk (inB x4 x3.length) (
  Chk (inB x4 x3.length) (
  Chk (inB (W (x4 - 1)) (x3.set x4.toNat (nth x3 (W (x4 - 1)))).length) (
  slices_insertionSortCmpFunc_Scored_tumbref2_ScoredOrder_l2 p_a j2 m2 ((x3.set x4.toNat (nth x3 (W (x4 - 1)))).set ((W (x4 - 1)).toNat) (nth x3 x4)) (W (x4 - 1))))))
  else
  j2 x3) (fun j3 =>
  if decide (p_a < x4) then
  Chk (inB x4 x3.length) (
  Chk (inB (W (x4 - 1)) x3.length) (
  j3 (decide ((tumbref2_ScoredOrder (nth x3 x4) (nth x3 (W (x4 - 1)))) < 0))))
  else
  j3 false)
def slices_insertionSortCmpFunc_Scored_tumbref2_ScoredOrder_l1 (p_b : Int) (p_a : Int) (j1 : (List GScored) → Option (List GScored)) : Nat → (List GScored) → Int → Option (List GScored)
  | 0, _, _ => none
  | m1 + 1, x1, x2 => if decide (x2 < p_b) then
  Join (fun (x3 : List GScored) =>
  slices_insertionSortCmpFunc_Scored_tumbref2_ScoredOrder_l1 p_b p_a j1 m1 x3 (W (x2 + 1))) (fun j2 =>
  slices_insertionSortCmpFunc_Scored_tumbref2_ScoredOrder_l2 p_a j2 ((x2 - p_a).toNat + 2) x1 x2)
  else
  j1 x1
def slices_insertionSortCmpFunc_Scored_tumbref2_ScoredOrder (p_data : List GScored) (p_a : Int) (p_b : Int) : Option (List GScored) :=
  Join (fun (x1 : List GScored) =>
  some x1) (fun j1 =>
  slices_insertionSortCmpFunc_Scored_tumbref2_ScoredOrder_l1 p_b p_a j1 ((p_b - (W (p_a + 1))).toNat + 2) p_data (W (p_a + 1)))
def slices_pdqsortCmpFunc_Scored_tumbref2_ScoredOrder_l1 (p_data : List GScored) : Nat → Int → Int → Int → Bool → Option (List GScored)
  | 0, _, _, _, _ => none
  | _ + 1, x1, x2, x3, x4 => if decide ((W (x2 - x1)) ≤ 12) then
  Option.bind (slices_insertionSortCmpFunc_Scored_tumbref2_ScoredOrder p_data x1 x2) (fun r1 =>
  some r1)
  else
  if decide (x3 = 0) then
  none
  else
  if !x4 then
  none
  else
  none
def slices_pdqsortCmpFunc_Scored_tumbref2_ScoredOrder (p_data : List GScored) (p_a : Int) (p_b : Int) (p_limit : Int) : Option (List GScored) :=
  slices_pdqsortCmpFunc_Scored_tumbref2_ScoredOrder_l1 p_data 4611686018427387904 p_a p_b p_limit true
def slices_SortFunc_Scored_tumbref2_ScoredOrder (p_x : List GScored) : Option (List GScored) :=
  Option.bind (bits_Len (IntKind.wrap .u64 (p_x.length : Int))) (fun r1 =>
  Option.bind (slices_pdqsortCmpFunc_Scored_tumbref2_ScoredOrder p_x 0 (p_x.length : Int) r1) (fun r2 =>
  some r2))
def Stream_RightScored_l2 (p_s_L : List Int) (y1 : ByteArray) (r1 : Bool × Int) (j2 : (List GScored) → Int → Option ((List GScored) × Int)) : List ByteArray → Nat → (List GScored) → Int → Option ((List GScored) × Int)
  | [], _, x3, x4 => j2 x3 x4
  | y2 :: ys2, i2, x3, x4 => Join (fun (x5 : List GScored) (x6 : Int) =>
  Stream_RightScored_l2 p_s_L y1 r1 j2 ys2 (i2 + 1) x5 x6) (fun j3 =>
  Option.bind (Stream_Flip p_s_L x4 4) (fun r2 =>
  Join (fun (x7 : List GScored) (x8 : Int) =>
  j3 x7 x8) (fun j4 =>
  if !r2.1 then
  Option.bind (Stream_Some p_s_L r2.2 [k_blue, k_blue, k_red, k_grey, k_empty]) (fun r3 =>
  Option.bind (Stream_Pick p_s_L r3.2 [0, 1, 2, 2, 3, 4]) (fun r4 =>
  Chk (room x3.length) (
  j4 (x3 ++ [(GScored.mk y1 y2 r3.1 r4.1 r1.1)]) r4.2)))
  else
  j4 x3 r2.2)))
def Stream_RightScored_l4 (x9 : List GScored) (i3 : Nat) (j7 : Int → Option ((List GScored) × Int)) : List GScored → Nat → Int → Option ((List GScored) × Int)
  | [], _, x11 => j7 x11
  | y4 :: ys4, i4, x11 => Join (fun (x12 : Int) =>
  Stream_RightScored_l4 x9 i3 j7 ys4 (i4 + 1) x12) (fun j8 =>
  Join (fun (x13 : Int) =>
  j8 x13) (fun j9 =>
  if (((decide (0 < y4.Rank)) && (decide ((Int.tmod y4.Rank 10) < (Int.tmod ((nth x9 (i3 : Int)).Rank) 10)))) && (decide (0 < ((nth x9 (i3 : Int)).Rank)))) then
  j9 (W (x11 + 1))
  else
  j9 x11))
def Stream_RightScored_l3 (j5 : (List GScored) → Option ((List GScored) × Int)) : List GScored → Nat → (List GScored) → Option ((List GScored) × Int)
  | [], _, x9 => j5 x9
  | _ :: ys3, i3, x9 => Join (fun (x10 : List GScored) =>
  Stream_RightScored_l3 j5 ys3 (i3 + 1) x10) (fun j6 =>
  Chk (inB (i3 : Int) x9.length) (
  Join (fun (x11 : Int) =>
  Join (fun (x14 : List GScored) =>
  j6 x14) (fun j10 =>
  if decide (0 < ((nth x9 (i3 : Int)).Rank)) then
  Chk (inB (i3 : Int) x9.length) (
  j10 (x9.set ((i3 : Int).toNat) (GScored.mk ((nth x9 (i3 : Int)).Race) ((nth x9 (i3 : Int)).Who) ((nth x9 (i3 : Int)).Club) (W (((nth x9 (i3 : Int)).Rank) + (W (10 * x11)))) ((nth x9 (i3 : Int)).Relay))))
  else
  j10 x9)) (fun j7 =>
  Stream_RightScored_l4 x9 i3 j7 x9 0 1)))
def Stream_RightScored_l5 (j11 : (List GScored) → Option ((List GScored) × Int)) : List GScored → Nat → (List GScored) → Option ((List GScored) × Int)
  | [], _, x15 => j11 x15
  | _ :: ys5, i5, x15 => Chk (inB (i5 : Int) x15.length) (
  Chk (inB (i5 : Int) x15.length) (
  Stream_RightScored_l5 j11 ys5 (i5 + 1) (x15.set ((i5 : Int).toNat) (GScored.mk ((nth x15 (i5 : Int)).Race) ((nth x15 (i5 : Int)).Who) ((nth x15 (i5 : Int)).Club) (W (Int.tdiv ((nth x15 (i5 : Int)).Rank) 10)) ((nth x15 (i5 : Int)).Relay)))))
def Stream_RightScored_l1 (p_s_L : List Int) (j1 : (List GScored) → Int → Option ((List GScored) × Int)) : List ByteArray → Nat → (List GScored) → Int → Option ((List GScored) × Int)
  | [], _, x1, x2 => j1 x1 x2
  | y1 :: ys1, i1, x1, x2 => Option.bind (Stream_Flip p_s_L x2 3) (fun r1 =>
  Join (fun (x3 : List GScored) (x4 : Int) =>
  Join (fun (x9 : List GScored) =>
  Join (fun (x15 : List GScored) =>
  Option.bind (slices_SortFunc_Scored_tumbref2_ScoredOrder x15) (fun r5 =>
  Chk (decide (x1.length + r5.length < 1073741824)) (
  Stream_RightScored_l1 p_s_L j1 ys1 (i1 + 1) (x1 ++ r5) x4))) (fun j11 =>
  Stream_RightScored_l5 j11 x9 0 x9)) (fun j5 =>
  Stream_RightScored_l3 j5 x3 0 x3)) (fun j2 =>
  Stream_RightScored_l2 p_s_L y1 r1 j2 ([k_ann, k_bea, k_cid, k_dan, k_eve] : List ByteArray) 0 ([] : List GScored) r1.2))
def Stream_RightScored (p_s_L : List Int) (p_s_at : Int) : Option ((List GScored) × Int) :=
  Join (fun (x1 : List GScored) (x2 : Int) =>
  some (x1, x2)) (fun j1 =>
  Stream_RightScored_l1 p_s_L j1 ([k_ra, k_rb, k_rc] : List ByteArray) 0 ([] : List GScored) p_s_at)
def Stream_Range (p_s_L : List Int) (p_s_at : Int) (p_low : Int) (p_high : Int) : Option (Int × Int) :=
  if decide (p_high < p_low) then
  some (p_low, p_s_at)
  else
  Option.bind (Stream_Next p_s_L p_s_at (W ((W (p_high - p_low)) + 1))) (fun r1 =>
  some (W (p_low + r1.1), r1.2))
def Stream_Odd (p_s_L : List Int) (p_s_at : Int) (p_low : Int) (p_high : Int) : Option (Int × Int) :=
  Option.bind (Stream_Flip p_s_L p_s_at 12) (fun r1 =>
  if r1.1 then
  Option.bind (Stream_Pick p_s_L r1.2 [W (p_low - 1), W (p_high + 1), p_low, p_high, (-1099511627776), 1099511627776]) (fun r2 =>
  some (r2.1, r2.2))
  else
  Option.bind (Stream_Range p_s_L r1.2 p_low p_high) (fun r3 =>
  some (r3.1, r3.2)))
def Stream_Scored_l1 (r3 : Int × Int) (p_s_L : List Int) (j2 : (List GScored) → Int → Option ((List GScored) × Int)) : Nat → (List GScored) → Int → Int → Option ((List GScored) × Int)
  | 0, _, _, _ => none
  | m1 + 1, x3, x4, x5 => if decide (x5 < r3.1) then
  Option.bind (Stream_Some p_s_L x4 [k_blue, k_red]) (fun r4 =>
  Chk (room x3.length) (
  Stream_Scored_l1 r3 p_s_L j2 m1 (x3 ++ [(GScored.mk k_ra (Utf8.encode (IntKind.wrap .i32 (W (97 + x5)))) r4.1 1 false)]) r4.2 (W (x5 + 1))))
  else
  j2 x3 x4
def Stream_Scored (p_s_L : List Int) (p_s_at : Int) : Option ((List GScored) × Int) :=
  Option.bind (Stream_RightScored p_s_L p_s_at) (fun r1 =>
  Option.bind (Stream_Flip p_s_L r1.2 20) (fun r2 =>
  Join (fun (x1 : Int) (x2 : List GScored) =>
  Join (fun (x6 : Int) (x7 : Bool) =>
  Join (fun (x8 : List GScored) (x9 : Int) =>
  some (x8, x9)) (fun j4 =>
  if x7 then
  Option.bind (Stream_Next p_s_L x6 (x2.length : Int)) (fun r6 =>
  Chk (inB r6.1 x2.length) (
  Option.bind (Stream_Next p_s_L r6.2 4) (fun r7 =>
  Join (fun (x10 : List GScored) (x11 : Int) =>
  j4 x10 x11) (fun j5 =>
  Join (fun (x12 : List GScored) (x13 : Int) =>
  j5 x12 x13) (fun j6 =>
  if decide (r7.1 = 0) then
  Join (fun (x14 : List GScored) (x15 : Int) =>
  j6 x14 x15) (fun j7 =>
  Option.bind (Stream_Some p_s_L r7.2 [(nth x2 r6.1).Race, k_empty, k_ra]) (fun r8 =>
  Option.bind (Stream_Some p_s_L r8.2 [(nth x2 r6.1).Who, k_A, k_ann]) (fun r9 =>
  j7 ((x2.set r6.1.toNat (GScored.mk r8.1 ((nth x2 r6.1).Who) ((nth x2 r6.1).Club) ((nth x2 r6.1).Rank) ((nth x2 r6.1).Relay))).set r6.1.toNat (GScored.mk r8.1 r9.1 ((nth x2 r6.1).Club) ((nth x2 r6.1).Rank) ((nth x2 r6.1).Relay))) r9.2)))
  else
  Join (fun (x16 : List GScored) (x17 : Int) =>
  j6 x16 x17) (fun j8 =>
  if decide (r7.1 = 1) then
  Option.bind (Stream_Some p_s_L r7.2 [k_blue, k_A]) (fun r10 =>
  j8 (x2.set r6.1.toNat (GScored.mk ((nth x2 r6.1).Race) ((nth x2 r6.1).Who) r10.1 ((nth x2 r6.1).Rank) ((nth x2 r6.1).Relay))) r10.2)
  else
  Join (fun (x18 : List GScored) (x19 : Int) =>
  j8 x18 x19) (fun j9 =>
  if decide (r7.1 = 2) then
  Option.bind (Stream_Odd p_s_L r7.2 0 5) (fun r11 =>
  j9 (x2.set r6.1.toNat (GScored.mk ((nth x2 r6.1).Race) ((nth x2 r6.1).Who) ((nth x2 r6.1).Club) r11.1 ((nth x2 r6.1).Relay))) r11.2)
  else
  j9 (x2.set r6.1.toNat (GScored.mk ((nth x2 r6.1).Race) ((nth x2 r6.1).Who) ((nth x2 r6.1).Club) ((nth x2 r6.1).Rank) (!((nth x2 r6.1).Relay)))) r7.2)))))))
  else
  j4 x2 x6)) (fun j3 =>
  if (decide (0 < (x2.length : Int))) then
  Option.bind (Stream_Flip p_s_L x1 12) (fun r5 =>
  j3 r5.2 r5.1)
  else
  j3 x1 false)) (fun j1 =>
  if r2.1 then
  Option.bind (Stream_Range p_s_L r2.2 9 12) (fun r3 =>
  Join (fun (x3 : List GScored) (x4 : Int) =>
  j1 x4 x3) (fun j2 =>
  Stream_Scored_l1 r3 p_s_L j2 ((r3.1 - 0).toNat + 2) ([] : List GScored) r3.2 0))
  else
  j1 r2.2 r1.1)))
def tumbref2_dash (p_s : ByteArray) : ByteArray :=
  if decide (p_s = k_empty) then
  k__2d
  else
  p_s
def strconv_Itoa (n : Int) : Option ByteArray :=
  Chk (decide (-9223372036854775808 ≤ n) && decide (n ≤ 9223372036854775807)) (some (⟨(Lib.itoa n).toArray⟩))
def strings_Join (xs : List ByteArray) (sep : ByteArray) : Option ByteArray :=
  Chk (decide (xs.length ≤ 140737488355328) && decide ((Lib.join (xs.map (·.data.toList)) sep.data.toList).length ≤ 140737488355328)) (some (⟨(Lib.join (xs.map (·.data.toList)) sep.data.toList).toArray⟩))
def tumbref2_ScoredLines_l1 (j1 : ByteArray → Option ByteArray) : List GScored → Nat → ByteArray → Option ByteArray
  | [], _, x1 => j1 x1
  | y1 :: ys1, i1, x1 => Join (fun (x2 : ByteArray) =>
  Option.bind (strconv_Itoa y1.Rank) (fun r1 =>
  Option.bind (strings_Join [y1.Race, y1.Who, (tumbref2_dash y1.Club), r1, x2] k__20) (fun r2 =>
  Chk (decide (r2.size + k__0a.size < 1073741824)) (
  Chk (decide (x1.size + (r2 ++ k__0a).size < 1073741824)) (
  tumbref2_ScoredLines_l1 j1 ys1 (i1 + 1) (x1 ++ (r2 ++ k__0a))))))) (fun j2 =>
  if y1.Relay then
  j2 k_r
  else
  j2 k_s)
def tumbref2_ScoredLines (p_l : List GScored) : Option ByteArray :=
  Join (fun (x1 : ByteArray) =>
  some x1) (fun j1 =>
  tumbref2_ScoredLines_l1 j1 p_l 0 k_empty)
def Stream_Changed (p_s_L : List Int) (p_s_at : Int) (p_t : ByteArray) (p_with : ByteArray) : Option (ByteArray × Int) :=
  if ((decide (p_t = k_empty)) || (decide (p_with = k_empty))) then
  some (p_with, p_s_at)
  else
  Option.bind (Stream_Next p_s_L p_s_at (p_t.size : Int)) (fun r1 =>
  Option.bind (Stream_Next p_s_L r1.2 (p_with.size : Int)) (fun r2 =>
  Chk (inB r2.1 p_with.size) (
  Option.bind (Stream_Next p_s_L r2.2 3) (fun r3 =>
  if decide (r3.1 = 0) then
  Chk (cutB 0 r1.1 p_t.size) (
  Chk (decide ((scut p_t 0 r1.1).size + (Utf8.encode (IntKind.wrap .i32 (sbyte p_with r2.1))).size < 1073741824)) (
  Chk (cutB (W (r1.1 + 1)) (p_t.size : Int) p_t.size) (
  Chk (decide (((scut p_t 0 r1.1) ++ (Utf8.encode (IntKind.wrap .i32 (sbyte p_with r2.1)))).size + (scut p_t (W (r1.1 + 1)) p_t.size).size < 1073741824)) (
  some (((scut p_t 0 r1.1) ++ (Utf8.encode (IntKind.wrap .i32 (sbyte p_with r2.1)))) ++ (scut p_t (W (r1.1 + 1)) p_t.size), r3.2)))))
  else
  if decide (r3.1 = 1) then
  Chk (cutB 0 r1.1 p_t.size) (
  Chk (decide ((scut p_t 0 r1.1).size + (Utf8.encode (IntKind.wrap .i32 (sbyte p_with r2.1))).size < 1073741824)) (
  Chk (cutB r1.1 (p_t.size : Int) p_t.size) (
  Chk (decide (((scut p_t 0 r1.1) ++ (Utf8.encode (IntKind.wrap .i32 (sbyte p_with r2.1)))).size + (scut p_t r1.1 p_t.size).size < 1073741824)) (
  some (((scut p_t 0 r1.1) ++ (Utf8.encode (IntKind.wrap .i32 (sbyte p_with r2.1)))) ++ (scut p_t r1.1 p_t.size), r3.2)))))
  else
  Chk (cutB 0 r1.1 p_t.size) (
  Chk (cutB (W (r1.1 + 1)) (p_t.size : Int) p_t.size) (
  Chk (decide ((scut p_t 0 r1.1).size + (scut p_t (W (r1.1 + 1)) p_t.size).size < 1073741824)) (
  some ((scut p_t 0 r1.1) ++ (scut p_t (W (r1.1 + 1)) p_t.size), r3.2))))))))
def Stream_ScoredText_l1 (r3 : Int × Int) (p_s_L : List Int) (j1 : Int → ByteArray → Option (ByteArray × Int)) : Nat → Int → ByteArray → Int → Option (ByteArray × Int)
  | 0, _, _, _ => none
  | m1 + 1, x1, x2, x3 => if decide (x3 < r3.1) then
  Option.bind (Stream_Changed p_s_L x1 x2 k__20_0a0_2d9rsa1) (fun r4 =>
  Stream_ScoredText_l1 r3 p_s_L j1 m1 r4.2 r4.1 (W (x3 + 1)))
  else
  j1 x1 x2
def Stream_ScoredText (p_s_L : List Int) (p_s_at : Int) : Option (ByteArray × Int) :=
  Option.bind (Stream_RightScored p_s_L p_s_at) (fun r1 =>
  Chk (cutB 0 (imin (r1.1.length : Int) 4) r1.1.length) (
  Option.bind (tumbref2_ScoredLines (cut r1.1 0 (imin (r1.1.length : Int) 4))) (fun r2 =>
  Option.bind (Stream_Pick p_s_L r1.2 [0, 0, 1, 2]) (fun r3 =>
  Join (fun (x1 : Int) (x2 : ByteArray) =>
  some (x2, x1)) (fun j1 =>
  Stream_ScoredText_l1 r3 p_s_L j1 ((r3.1 - 0).toNat + 2) r3.2 r2 0)))))
def strings_Trim (s c : ByteArray) : Option ByteArray :=
  Chk (decide (s.size ≤ 9223372036854775807)) (Chk (decide (c.size < 4294967281)) (Chk (c.data.toList.all fun b => decide (b.toNat < 128)) (some ⟨(Lib.trimS s.data.toList c.data.toList).toArray⟩)))
def words_IsKey (p_s : ByteArray) : Option Bool :=
  Join (fun (c1 : Bool) =>
  Join (fun (c2 : Bool) =>
  Join (fun (c3 : Bool) =>
  some c3) (fun j3 =>
  if c2 then Option.bind (strings_Trim p_s k_abcdefghijkl_h0e2e2c) (fun r1 =>
  j3 (c2 && (decide (r1 = k_empty)))) else j3 (c2 && true))) (fun j2 =>
  if c1 then Chk (inB 0 p_s.size) (
  j2 (c1 && (decide ((sbyte p_s 0) ≤ 122)))) else j2 (c1 && true))) (fun j1 =>
  if ((decide (1 ≤ (p_s.size : Int))) && (decide ((p_s.size : Int) ≤ 40))) then Chk (inB 0 p_s.size) (
  j1 (((decide (1 ≤ (p_s.size : Int))) && (decide ((p_s.size : Int) ≤ 40))) && (decide (97 ≤ (sbyte p_s 0))))) else j1 (((decide (1 ≤ (p_s.size : Int))) && (decide ((p_s.size : Int) ≤ 40))) && true))
def words_Within (p_n : Int) (p_low : Int) (p_high : Int) : Bool :=
  ((decide (p_low ≤ p_n)) && (decide (p_n ≤ p_high)))
def points_compareRanks (p_a : Int) (p_b : Int) : Int :=
  Join (fun (x1 : Int) =>
  Join (fun (x2 : Int) =>
  W (x1 - x2)) (fun j2 =>
  if decide (p_b = 0) then
  j2 301
  else
  j2 p_b)) (fun j1 =>
  if decide (p_a = 0) then
  j1 301
  else
  j1 p_a)
def cmp_Or_int_l1 (j1 : Int) : List Int → Nat → Int
  | [], _ => j1
  | y1 :: ys1, i1 => if !decide (y1 = 0) then
  y1
  else
  cmp_Or_int_l1 j1 ys1 (i1 + 1)
def cmp_Or_int (p_vals : List Int) : Int :=
  Join (0) (fun j1 =>
  cmp_Or_int_l1 j1 p_vals 0)
def points_compare (p_a : GScored) (p_b : GScored) : Int :=
  (cmp_Or_int [(strings_Compare p_a.Race p_b.Race), (points_compareRanks p_a.Rank p_b.Rank), (strings_Compare p_a.Who p_b.Who)])
def points_races_l2 (p_l : List GScored) (x2 : Int) (j2 : Int → Option (List (List GScored))) : Nat → Int → Option (List (List GScored))
  | 0, _ => none
  | m2 + 1, x3 => Join (fun (c1 : Bool) =>
  if c1 then
  points_races_l2 p_l x2 j2 m2 (W (x3 + 1))
  else
  j2 x3) (fun j3 =>
  if (decide (x3 < (p_l.length : Int))) then Chk (inB x3 p_l.length) (
  Chk (inB x2 p_l.length) (
  j3 ((decide (x3 < (p_l.length : Int))) && (decide (((nth p_l x3).Race) = ((nth p_l x2).Race)))))) else j3 ((decide (x3 < (p_l.length : Int))) && true))
def points_races_l1 (p_l : List GScored) (j1 : (List (List GScored)) → Option (List (List GScored))) : Nat → (List (List GScored)) → Int → Option (List (List GScored))
  | 0, _, _ => none
  | m1 + 1, x1, x2 => if decide (x2 < (p_l.length : Int)) then
  Join (fun (x3 : Int) =>
  Chk (cutB x2 x3 p_l.length) (
  Chk (room x1.length) (
  points_races_l1 p_l j1 m1 (x1 ++ [cut p_l x2 x3]) x3))) (fun j2 =>
  points_races_l2 p_l x2 j2 (((p_l.length : Int) - (W (x2 + 1))).toNat + 2) (W (x2 + 1)))
  else
  j1 x1
def points_races (p_l : List GScored) : Option (List (List GScored)) :=
  Join (fun (x1 : List (List GScored)) =>
  some x1) (fun j1 =>
  points_races_l1 p_l j1 (((p_l.length : Int) - 0).toNat + 2) ([] : List (List GScored)) 0)
def points_checkAll_c1 (p_x : GScored) (p_a1 : List GScored) : Option Bool :=
  Chk (inB 0 p_a1.length) (
  some (!decide (p_x.Relay = ((nth p_a1 0).Relay))))
def slices_IndexFunc_Scored_points_checkAll_c1_l1 (p_f_0 : List GScored) (j1 : Option Int) : List GScored → Nat → Option Int
  | [], _ => j1
  | y1 :: ys1, i1 => Option.bind (points_checkAll_c1 y1 p_f_0) (fun r1 =>
  if r1 then
  some (i1 : Int)
  else
  slices_IndexFunc_Scored_points_checkAll_c1_l1 p_f_0 j1 ys1 (i1 + 1))
def slices_IndexFunc_Scored_points_checkAll_c1 (p_s : List GScored) (p_f_0 : List GScored) : Option Int :=
  Join (some (-1)) (fun j1 =>
  slices_IndexFunc_Scored_points_checkAll_c1_l1 p_f_0 j1 p_s 0)
def slices_ContainsFunc_Scored_points_checkAll_c1 (p_s : List GScored) (p_f_0 : List GScored) : Option Bool :=
  Option.bind (slices_IndexFunc_Scored_points_checkAll_c1 p_s p_f_0) (fun r1 =>
  some (decide (0 ≤ r1)))
def points_checkAll_l1 (j1 : (List (Gpoints_entry × Bool)) → Option Int) : List GScored → Nat → (List (Gpoints_entry × Bool)) → Option Int
  | [], _, x1 => j1 x1
  | y1 :: ys1, i1, x1 => if mgetD x1 (Gpoints_entry.mk y1.Race y1.Who) false then
  some 6
  else
  points_checkAll_l1 j1 ys1 (i1 + 1) (mput x1 (Gpoints_entry.mk y1.Race y1.Who) true)
def points_checkAll_l2 (j2 : Option Int) : List (List GScored) → Nat → Option Int
  | [], _ => j2
  | y2 :: ys2, i2 => Option.bind (slices_ContainsFunc_Scored_points_checkAll_c1 y2 y2) (fun r3 =>
  if r3 then
  some 3
  else
  points_checkAll_l2 j2 ys2 (i2 + 1))
def points_checkAll_l4 (y3 : (List GScored)) (j4 : Option Int) : List GScored → Nat → Option Int
  | [], _ => j4
  | y4 :: ys4, i4 => Join (fun (c1 : Bool) =>
  if c1 then
  some 16
  else
  points_checkAll_l4 y3 j4 ys4 (i4 + 1)) (fun j5 =>
  if ((decide (0 < y4.Rank)) && (!decide (y4.Rank = (W ((i4 : Int) + 1))))) then Join (fun (c2 : Bool) =>
  j5 (((decide (0 < y4.Rank)) && (!decide (y4.Rank = (W ((i4 : Int) + 1))))) && c2)) (fun j6 =>
  if (decide ((i4 : Int) = 0)) then j6 ((decide ((i4 : Int) = 0)) || true) else Chk (inB (W ((i4 : Int) - 1)) y3.length) (
  j6 ((decide ((i4 : Int) = 0)) || (!decide (y4.Rank = ((nth y3 (W ((i4 : Int) - 1))).Rank)))))) else j5 (((decide (0 < y4.Rank)) && (!decide (y4.Rank = (W ((i4 : Int) + 1))))) && true))
def points_checkAll_l3 (j3 : Option Int) : List (List GScored) → Nat → Option Int
  | [], _ => j3
  | y3 :: ys3, i3 => Join (points_checkAll_l3 j3 ys3 (i3 + 1)) (fun j4 =>
  points_checkAll_l4 y3 j4 y3 0)
def points_checkAll_l6 (y5 : (List GScored)) (j8 : Option Int) : Nat → Int → Option Int
  | 0, _ => none
  | m1 + 1, x2 => if decide (x2 < (y5.length : Int)) then
  Chk (inB x2 y5.length) (
  Join (fun (c3 : Bool) =>
  if c3 then
  some 12
  else
  points_checkAll_l6 y5 j8 m1 (W (x2 + 1))) (fun j9 =>
  if (decide (0 < ((nth y5 x2).Rank))) then Chk (inB x2 y5.length) (
  Chk (inB (W (x2 - 10)) y5.length) (
  j9 ((decide (0 < ((nth y5 x2).Rank))) && (decide (((nth y5 x2).Rank) = ((nth y5 (W (x2 - 10))).Rank)))))) else j9 ((decide (0 < ((nth y5 x2).Rank))) && true)))
  else
  j8
def points_checkAll_l5 (j7 : Option Int) : List (List GScored) → Nat → Option Int
  | [], _ => j7
  | y5 :: ys5, i5 => Join (points_checkAll_l5 j7 ys5 (i5 + 1)) (fun j8 =>
  points_checkAll_l6 y5 j8 (((y5.length : Int) - 10).toNat + 2) 10)
def points_checkAll (p_l : List GScored) : Option Int :=
  Join (fun (x1 : List (Gpoints_entry × Bool)) =>
  Option.bind (points_races p_l) (fun r1 =>
  Join (Join (Join (some 0) (fun j7 =>
  points_checkAll_l5 j7 r1 0)) (fun j3 =>
  points_checkAll_l3 j3 r1 0)) (fun j2 =>
  points_checkAll_l2 j2 r1 0))) (fun j1 =>
  points_checkAll_l1 j1 p_l 0 ([] : List (Gpoints_entry × Bool)))
def points_CheckScored_l1 (p_l : List GScored) (j1 : Option Int) : List GScored → Nat → Option Int
  | [], _ => j1
  | y1 :: ys1, i1 => Option.bind (words_IsKey y1.Race) (fun r1 =>
  Join (fun (c1 : Bool) =>
  Join (fun (c2 : Bool) =>
  if c2 then
  some 5
  else
  if !(words_Within y1.Rank 0 300) then
  some 1
  else
  Join (fun (x1 : Bool) =>
  if x1 then
  some 7
  else
  points_CheckScored_l1 p_l j1 ys1 (i1 + 1)) (fun j5 =>
  if decide (0 < (i1 : Int)) then
  Chk (inB (W ((i1 : Int) - 1)) p_l.length) (
  j5 (decide (0 ≤ (points_compare (nth p_l (W ((i1 : Int) - 1))) y1))))
  else
  j5 false)) (fun j3 =>
  if c1 then j3 (c1 || true) else Join (fun (c3 : Bool) =>
  j3 (c1 || c3)) (fun j4 =>
  if (!decide (y1.Club = k_empty)) then Option.bind (words_IsKey y1.Club) (fun r3 =>
  j4 ((!decide (y1.Club = k_empty)) && (!r3))) else j4 ((!decide (y1.Club = k_empty)) && true)))) (fun j2 =>
  if (!r1) then j2 ((!r1) || true) else Option.bind (words_IsKey y1.Who) (fun r2 =>
  j2 ((!r1) || (!r2)))))
def points_CheckScored (p_l : List GScored) : Option Int :=
  if decide (2000 < (p_l.length : Int)) then
  some 2
  else
  Join (Option.bind (points_checkAll p_l) (fun r4 =>
  some r4)) (fun j1 =>
  points_CheckScored_l1 p_l j1 p_l 0)
def words_Dash (p_s : ByteArray) : ByteArray :=
  if decide (p_s = k_empty) then
  k__2d
  else
  p_s
def points_Text_l1 (j1 : ByteArray → Bool → Option (ByteArray × Int)) : List GScored → Nat → ByteArray → Bool → Option (ByteArray × Int)
  | [], _, x1, x2 => j1 x1 x2
  | y1 :: ys1, i1, x1, _ => Join (fun (x3 : ByteArray) =>
  Option.bind (strconv_Itoa y1.Rank) (fun r2 =>
  Option.bind (strings_Join [y1.Race, y1.Who, (words_Dash y1.Club), r2, x3] k__20) (fun r3 =>
  Chk (decide (r3.size + k__0a.size < 1073741824)) (
  Chk (decide (x1.size + (r3 ++ k__0a).size ≤ 140737488355328)) (
  points_Text_l1 j1 ys1 (i1 + 1) (x1 ++ (r3 ++ k__0a)) true))))) (fun j2 =>
  if y1.Relay then
  j2 k_r
  else
  j2 k_s)
def points_Text (p_l : List GScored) : Option (ByteArray × Int) :=
  Option.bind (points_CheckScored p_l) (fun r1 =>
  if !decide (r1 = 0) then
  some (k_empty, r1)
  else
  Join (fun (x1 : ByteArray) (x2 : Bool) =>
  if decide (200000 < (x1.size : Int)) then
  some (k_empty, 2)
  else
  some (x1, 0)) (fun j1 =>
  points_Text_l1 j1 p_l 0 ByteArray.empty false))
def tumbref2_in (p_n : Int) (p_low : Int) (p_high : Int) : Bool :=
  ((decide (p_low ≤ p_n)) && (decide (p_n ≤ p_high)))
def strings_IndexByte (s : ByteArray) (c : Int) : Int := Lib.indexByte s.data.toList c.toNat.toUInt8
def tumbref2_only_l1 (p_s : ByteArray) (p_some : ByteArray) (j1 : Option Bool) : Nat → Int → Option Bool
  | 0, _ => none
  | m1 + 1, x1 => if decide (x1 < (p_s.size : Int)) then
  Chk (inB x1 p_s.size) (
  if decide ((strings_IndexByte p_some (sbyte p_s x1)) < 0) then
  some false
  else
  tumbref2_only_l1 p_s p_some j1 m1 (W (x1 + 1)))
  else
  j1
def tumbref2_only (p_s : ByteArray) (p_some : ByteArray) : Option Bool :=
  Join (some true) (fun j1 =>
  tumbref2_only_l1 p_s p_some j1 (((p_s.size : Int) - 0).toNat + 2) 0)
def tumbref2_Key (p_s : ByteArray) : Option Bool :=
  Join (fun (c1 : Bool) =>
  Join (fun (c2 : Bool) =>
  some c2) (fun j2 =>
  if c1 then Option.bind (tumbref2_only p_s k_abcdefghijkl_h0e2e2c) (fun r2 =>
  j2 (c1 && r2)) else j2 (c1 && true))) (fun j1 =>
  if (tumbref2_in (p_s.size : Int) 1 40) then Chk (cutB 0 1 p_s.size) (
  Option.bind (tumbref2_only (scut p_s 0 1) k_abcdefghijklmnopqrstuvwxyz) (fun r1 =>
  j1 ((tumbref2_in (p_s.size : Int) 1 40) && r1))) else j1 ((tumbref2_in (p_s.size : Int) 1 40) && true))
def tumbref2_ScoredFault_l1 (p_l : List GScored) (j1 : Option Int) : List GScored → Nat → Option Int
  | [], _ => j1
  | y1 :: ys1, i1 => Option.bind (tumbref2_Key y1.Race) (fun r1 =>
  Join (fun (c1 : Bool) =>
  Join (fun (c2 : Bool) =>
  if c2 then
  some 5
  else
  if !(tumbref2_in y1.Rank 0 300) then
  some 1
  else
  Join (fun (x1 : Bool) =>
  if x1 then
  some 7
  else
  tumbref2_ScoredFault_l1 p_l j1 ys1 (i1 + 1)) (fun j5 =>
  if decide (0 < (i1 : Int)) then
  Chk (inB (W ((i1 : Int) - 1)) p_l.length) (
  j5 (decide (0 ≤ (tumbref2_ScoredOrder (nth p_l (W ((i1 : Int) - 1))) y1))))
  else
  j5 false)) (fun j3 =>
  if c1 then j3 (c1 || true) else Join (fun (c3 : Bool) =>
  j3 (c1 || c3)) (fun j4 =>
  if (!decide (y1.Club = k_empty)) then Option.bind (tumbref2_Key y1.Club) (fun r3 =>
  j4 ((!decide (y1.Club = k_empty)) && (!r3))) else j4 ((!decide (y1.Club = k_empty)) && true)))) (fun j2 =>
  if (!r1) then j2 ((!r1) || true) else Option.bind (tumbref2_Key y1.Who) (fun r2 =>
  j2 ((!r1) || (!r2)))))
def tumbref2_ScoredFault_l3 (y2 : GScored) (i2 : Nat) (j7 : Bool → Bool → Int → Int → Option Int) : List GScored → Nat → Bool → Bool → Int → Int → Option Int
  | [], _, x6, x7, x8, x9 => j7 x6 x7 x8 x9
  | y3 :: ys3, i3, x6, x7, x8, x9 => Join (fun (x10 : Bool) (x11 : Bool) (x12 : Int) (x13 : Int) =>
  tumbref2_ScoredFault_l3 y2 i2 j7 ys3 (i3 + 1) x10 x11 x12 x13) (fun j8 =>
  if !decide (y3.Race = y2.Race) then
  j8 x6 x7 x8 x9
  else
  Join (fun (x14 : Int) =>
  Join (fun (x15 : Int) =>
  j8 (x6 || ((!decide ((i3 : Int) = (i2 : Int))) && (decide (y3.Who = y2.Who)))) (x7 || (!decide (y3.Relay = y2.Relay))) x14 x15) (fun j10 =>
  if decide (y3.Rank = y2.Rank) then
  j10 (W (x9 + 1))
  else
  j10 x9)) (fun j9 =>
  if ((decide (0 < y3.Rank)) && (decide (y3.Rank < y2.Rank))) then
  j9 (W (x8 + 1))
  else
  j9 x8))
def tumbref2_ScoredFault_l2 (p_l : List GScored) (j6 : Bool → Bool → Bool → Bool → Option Int) : List GScored → Nat → Bool → Bool → Bool → Bool → Option Int
  | [], _, x2, x3, x4, x5 => j6 x2 x3 x4 x5
  | y2 :: ys2, i2, x2, x3, x4, x5 => Join (fun (x6 : Bool) (x7 : Bool) (x8 : Int) (x9 : Int) =>
  tumbref2_ScoredFault_l2 p_l j6 ys2 (i2 + 1) x6 x7 (x4 || ((decide (0 < y2.Rank)) && (!decide (y2.Rank = (W (x8 + 1)))))) (x5 || ((decide (0 < y2.Rank)) && (decide (10 < x9))))) (fun j7 =>
  tumbref2_ScoredFault_l3 y2 i2 j7 p_l 0 x2 x3 0 0)
def tumbref2_ScoredFault_l4 (j11 : Option Int) : List Gno_is_e → Nat → Option Int
  | [], _ => j11
  | y4 :: ys4, i4 => if y4.is_ then
  some y4.e_
  else
  tumbref2_ScoredFault_l4 j11 ys4 (i4 + 1)
def tumbref2_ScoredFault (p_l : List GScored) : Option Int :=
  if decide (2000 < (p_l.length : Int)) then
  some 2
  else
  Join (Join (fun (x2 : Bool) (x3 : Bool) (x4 : Bool) (x5 : Bool) =>
  Join (some 0) (fun j11 =>
  tumbref2_ScoredFault_l4 j11 ([(Gno_is_e.mk x2 6), (Gno_is_e.mk x3 3), (Gno_is_e.mk x4 16), (Gno_is_e.mk x5 12)] : List Gno_is_e) 0)) (fun j6 =>
  tumbref2_ScoredFault_l2 p_l j6 p_l 0 false false false false)) (fun j1 =>
  tumbref2_ScoredFault_l1 p_l j1 p_l 0)
def strings_Cut (s : ByteArray) (sep : ByteArray) : Option (ByteArray × ByteArray × Bool) :=
  Chk (decide (s.size < 4294967281)) (some ((⟨(Lib.cut s.data.toList sep.data.toList).1.toArray⟩, ⟨(Lib.cut s.data.toList sep.data.toList).2.1.toArray⟩, (Lib.cut s.data.toList sep.data.toList).2.2)))
def strings_Split (s : ByteArray) (sep : ByteArray) : Option (List ByteArray) :=
  Chk (decide (s.size < 4294967281) && decide (1 ≤ sep.size)) (some (Lib.splitB sep 0 (Lib.countB s sep) s))
def words_Split_l1 (j1 : Option ((List ByteArray) × Bool)) : List ByteArray → Nat → Option ((List ByteArray) × Bool)
  | [], _ => j1
  | y1 :: ys1, i1 => if decide (y1 = k_empty) then
  some (([] : List ByteArray), false)
  else
  words_Split_l1 j1 ys1 (i1 + 1)
def words_Split (p_line : ByteArray) : Option ((List ByteArray) × Bool) :=
  Option.bind (strings_Split p_line k__20) (fun r1 =>
  Join (some (r1, true)) (fun j1 =>
  words_Split_l1 j1 r1 0))
def strings_CutPrefix (s : ByteArray) (p : ByteArray) : ByteArray × Bool :=
  (⟨(Lib.trimPrefix s.data.toList p.data.toList).toArray⟩, Lib.hasPrefix s.data.toList p.data.toList)
def strconv_Atoi (s : ByteArray) : Option Int :=
  Chk (decide (s.size ≤ 18)) (Lib.atoi s.data.toList)
def words_Number (p_s : ByteArray) (p_most : Int) : Option (Int × Bool) :=
  Join (fun (c1 : Bool) =>
  Join (fun (c2 : Bool) =>
  if c2 then
  some (0, false)
  else
  Option.bind (strconv_Atoi p_s) (fun r2 =>
  some (r2, true))) (fun j2 =>
  if c1 then j2 (c1 || true) else Chk (inB 0 ((strings_CutPrefix p_s k__2d).1).size) (
  j2 (c1 || ((decide ((sbyte ((strings_CutPrefix p_s k__2d).1) 0) = 48)) && ((!decide (((strings_CutPrefix p_s k__2d).1) = k_0)) || ((strings_CutPrefix p_s k__2d).2))))))) (fun j1 =>
  if ((decide (((strings_CutPrefix p_s k__2d).1) = k_empty)) || (decide (p_most < (((strings_CutPrefix p_s k__2d).1).size : Int)))) then j1 (((decide (((strings_CutPrefix p_s k__2d).1) = k_empty)) || (decide (p_most < (((strings_CutPrefix p_s k__2d).1).size : Int)))) || true) else Option.bind (strings_Trim ((strings_CutPrefix p_s k__2d).1) k_0123456789) (fun r1 =>
  j1 (((decide (((strings_CutPrefix p_s k__2d).1) = k_empty)) || (decide (p_most < (((strings_CutPrefix p_s k__2d).1).size : Int)))) || (!decide (r1 = k_empty)))))
def words_Undash (p_s : ByteArray) : ByteArray :=
  if decide (p_s = k__2d) then
  k_empty
  else
  p_s
def points_Read_c1 (p_line : ByteArray) (p_a1 : List GScored) : Option (Bool × (List GScored)) :=
  Option.bind (words_Split p_line) (fun r1 =>
  Join (fun (c1 : Bool) =>
  if c1 then
  some (false, p_a1)
  else
  Chk (inB 3 r1.1.length) (
  Option.bind (words_Number (nth r1.1 3) 15) (fun r2 =>
  Chk (inB 0 r1.1.length) (
  Chk (inB 1 r1.1.length) (
  Chk (inB 2 r1.1.length) (
  Chk (inB 4 r1.1.length) (
  Chk (room p_a1.length) (
  some (r2.2, (p_a1 ++ [(GScored.mk (nth r1.1 0) (nth r1.1 1) (words_Undash (nth r1.1 2)) r2.1 (decide ((nth r1.1 4) = k_r)))])))))))))) (fun j1 =>
  if ((!r1.2) || (!decide ((r1.1.length : Int) = 5))) then j1 (((!r1.2) || (!decide ((r1.1.length : Int) = 5))) || true) else Chk (inB 4 r1.1.length) (
  Join (fun (c2 : Bool) =>
  j1 (((!r1.2) || (!decide ((r1.1.length : Int) = 5))) || c2)) (fun j2 =>
  if (!decide ((nth r1.1 4) = k_r)) then Chk (inB 4 r1.1.length) (
  j2 ((!decide ((nth r1.1 4) = k_r)) && (!decide ((nth r1.1 4) = k_s)))) else j2 ((!decide ((nth r1.1 4) = k_r)) && true)))))
def words_Lines_points_Read_c1_l1 (j1 : (List GScored) → Option (Int × Bool × (List GScored))) : Nat → (List GScored) → ByteArray → Int → Option (Int × Bool × (List GScored))
  | 0, _, _, _ => none
  | m1 + 1, x1, x2, x3 => if !decide (x2 = k_empty) then
  Option.bind (strings_Cut x2 k__0a) (fun r1 =>
  Join (fun (x4 : List GScored) (x5 : Bool) =>
  if x5 then
  some (x3, false, x4)
  else
  words_Lines_points_Read_c1_l1 j1 m1 x4 r1.2.1 (W (x3 + 1))) (fun j2 =>
  if (!r1.2.2) then
  j2 x1 true
  else
  Option.bind (points_Read_c1 r1.1 x1) (fun r2 =>
  j2 r2.2 (!r2.1))))
  else
  j1 x1
def words_Lines_points_Read_c1 (p_text : ByteArray) (p_take_0 : List GScored) : Option (Int × Bool × (List GScored)) :=
  Join (fun (x1 : List GScored) =>
  some (0, true, x1)) (fun j1 =>
  words_Lines_points_Read_c1_l1 j1 4611686018427387904 p_take_0 p_text 0)
def points_Read (p_text : ByteArray) : Option ((List GScored) × Int × Int) :=
  if decide (200000 < (p_text.size : Int)) then
  some (([] : List GScored), 0, 2)
  else
  Option.bind (words_Lines_points_Read_c1 p_text ([] : List GScored)) (fun r1 =>
  if !r1.2.1 then
  some (([] : List GScored), r1.1, 9)
  else
  Option.bind (points_CheckScored r1.2.2) (fun r2 =>
  if !decide (r2 = 0) then
  some (([] : List GScored), 0, r2)
  else
  some (r1.2.2, 0, 0)))
def slices_Index_string_l1 (p_v : ByteArray) (j1 : Int) : List ByteArray → Nat → Int
  | [], _ => j1
  | y1 :: ys1, i1 => if decide (p_v = y1) then
  (i1 : Int)
  else
  slices_Index_string_l1 p_v j1 ys1 (i1 + 1)
def slices_Index_string (p_s : List ByteArray) (p_v : ByteArray) : Int :=
  Join ((-1)) (fun j1 =>
  slices_Index_string_l1 p_v j1 p_s 0)
def slices_Contains_string (p_s : List ByteArray) (p_v : ByteArray) : Bool :=
  decide (0 ≤ (slices_Index_string p_s p_v))
def tumbref2_Words (p_line : ByteArray) : Option ((List ByteArray) × Bool) :=
  Option.bind (strings_Split p_line k__20) (fun r1 =>
  some (r1, !(slices_Contains_string r1 k_empty)))
def strings_TrimPrefix (s : ByteArray) (p : ByteArray) : ByteArray :=
  ⟨(Lib.trimPrefix s.data.toList p.data.toList).toArray⟩
def tumbref2_Number (p_s : ByteArray) (p_most : Int) : Option (Int × Bool) :=
  Join (fun (c1 : Bool) =>
  if c1 then
  some (0, false)
  else
  Option.bind (strconv_Atoi p_s) (fun r2 =>
  Join (fun (c2 : Bool) =>
  some (r2, c2)) (fun j2 =>
  if true then Option.bind (strconv_Itoa r2) (fun r3 =>
  j2 (true && (decide (r3 = p_s)))) else j2 (true && true)))) (fun j1 =>
  if ((decide ((strings_TrimPrefix p_s k__2d) = k_empty)) || (decide (p_most < ((strings_TrimPrefix p_s k__2d).size : Int)))) then j1 (((decide ((strings_TrimPrefix p_s k__2d) = k_empty)) || (decide (p_most < ((strings_TrimPrefix p_s k__2d).size : Int)))) || true) else Option.bind (tumbref2_only (strings_TrimPrefix p_s k__2d) k_0123456789) (fun r1 =>
  j1 (((decide ((strings_TrimPrefix p_s k__2d) = k_empty)) || (decide (p_most < ((strings_TrimPrefix p_s k__2d).size : Int)))) || (!r1))))
def tumbref2_undash (p_s : ByteArray) : ByteArray :=
  if decide (p_s = k__2d) then
  k_empty
  else
  p_s
def tumbref2_ScoredRead_c1 (p_line : ByteArray) (p_a1 : List GScored) : Option (Bool × (List GScored)) :=
  Option.bind (tumbref2_Words p_line) (fun r1 =>
  Join (fun (c1 : Bool) =>
  if c1 then
  some (false, p_a1)
  else
  Chk (inB 3 r1.1.length) (
  Option.bind (tumbref2_Number (nth r1.1 3) 15) (fun r2 =>
  Chk (inB 0 r1.1.length) (
  Chk (inB 1 r1.1.length) (
  Chk (inB 2 r1.1.length) (
  Chk (inB 4 r1.1.length) (
  Chk (room p_a1.length) (
  some (r2.2, (p_a1 ++ [(GScored.mk (nth r1.1 0) (nth r1.1 1) (tumbref2_undash (nth r1.1 2)) r2.1 (decide ((nth r1.1 4) = k_r)))])))))))))) (fun j1 =>
  if ((!r1.2) || (!decide ((r1.1.length : Int) = 5))) then j1 (((!r1.2) || (!decide ((r1.1.length : Int) = 5))) || true) else Chk (inB 4 r1.1.length) (
  Join (fun (c2 : Bool) =>
  j1 (((!r1.2) || (!decide ((r1.1.length : Int) = 5))) || c2)) (fun j2 =>
  if (!decide ((nth r1.1 4) = k_r)) then Chk (inB 4 r1.1.length) (
  j2 ((!decide ((nth r1.1 4) = k_r)) && (!decide ((nth r1.1 4) = k_s)))) else j2 ((!decide ((nth r1.1 4) = k_r)) && true)))))
def tumbref2_Lines_tumbref2_ScoredRead_c1_l1 (j1 : (List GScored) → Option (Int × Bool × (List GScored))) : Nat → (List GScored) → ByteArray → Int → Option (Int × Bool × (List GScored))
  | 0, _, _, _ => none
  | m1 + 1, x1, x2, x3 => if !decide (x2 = k_empty) then
  Option.bind (strings_Cut x2 k__0a) (fun r1 =>
  Join (fun (x4 : List GScored) (x5 : Bool) =>
  if x5 then
  some (x3, false, x4)
  else
  tumbref2_Lines_tumbref2_ScoredRead_c1_l1 j1 m1 x4 r1.2.1 (W (x3 + 1))) (fun j2 =>
  if (!r1.2.2) then
  j2 x1 true
  else
  Option.bind (tumbref2_ScoredRead_c1 r1.1 x1) (fun r2 =>
  j2 r2.2 (!r2.1))))
  else
  j1 x1
def tumbref2_Lines_tumbref2_ScoredRead_c1 (p_text : ByteArray) (p_take_0 : List GScored) : Option (Int × Bool × (List GScored)) :=
  Join (fun (x1 : List GScored) =>
  some (0, true, x1)) (fun j1 =>
  tumbref2_Lines_tumbref2_ScoredRead_c1_l1 j1 4611686018427387904 p_take_0 p_text 0)
def tumbref2_ScoredRead (p_text : ByteArray) : Option ((List GScored) × Int × Int) :=
  if decide (200000 < (p_text.size : Int)) then
  some (([] : List GScored), 0, 2)
  else
  Option.bind (tumbref2_Lines_tumbref2_ScoredRead_c1 p_text ([] : List GScored)) (fun r1 =>
  if !r1.2.1 then
  some (([] : List GScored), r1.1, 9)
  else
  Option.bind (tumbref2_ScoredFault r1.2.2) (fun r2 =>
  if !decide (r2 = 0) then
  some (([] : List GScored), 0, r2)
  else
  some (r1.2.2, 0, 0)))
def slices_Equal_Scored_l1 (p_s2 : List GScored) (j1 : Option Bool) : List GScored → Nat → Option Bool
  | [], _ => j1
  | y1 :: ys1, i1 => Chk (inB (i1 : Int) p_s2.length) (
  if !decide (y1 = (nth p_s2 (i1 : Int))) then
  some false
  else
  slices_Equal_Scored_l1 p_s2 j1 ys1 (i1 + 1))
def slices_Equal_Scored (p_s1 : List GScored) (p_s2 : List GScored) : Option Bool :=
  if !decide ((p_s1.length : Int) = (p_s2.length : Int)) then
  some false
  else
  Join (some true) (fun j1 =>
  slices_Equal_Scored_l1 p_s2 j1 p_s1 0)
def timing_IsTime (p_n : Int) : Bool :=
  (words_Within p_n 1 360000)
def points_CheckBase_l1 (p_l : List GBase) (j1 : Option Int) : List GBase → Nat → Option Int
  | [], _ => j1
  | y1 :: ys1, i1 => Option.bind (words_IsKey y1.Race) (fun r1 =>
  if !r1 then
  some 5
  else
  Join (fun (c1 : Bool) =>
  if c1 then
  some 7
  else
  if !(timing_IsTime y1.Time) then
  some 1
  else
  points_CheckBase_l1 p_l j1 ys1 (i1 + 1)) (fun j2 =>
  if (decide (0 < (i1 : Int))) then Chk (inB (W ((i1 : Int) - 1)) p_l.length) (
  j2 ((decide (0 < (i1 : Int))) && (Sless y1.Race ((nth p_l (W ((i1 : Int) - 1))).Race) || decide (y1.Race = ((nth p_l (W ((i1 : Int) - 1))).Race))))) else j2 ((decide (0 < (i1 : Int))) && true)))
def points_CheckBase (p_l : List GBase) : Option Int :=
  if decide (500 < (p_l.length : Int)) then
  some 2
  else
  Join (some 0) (fun j1 =>
  points_CheckBase_l1 p_l j1 p_l 0)
def points_baseOf_l1 (p_race : ByteArray) (j1 : Int) : List GBase → Nat → Int
  | [], _ => j1
  | y1 :: ys1, i1 => if decide (y1.Race = p_race) then
  y1.Time
  else
  points_baseOf_l1 p_race j1 ys1 (i1 + 1)
def points_baseOf (p_l : List GBase) (p_race : ByteArray) : Int :=
  Join (0) (fun j1 =>
  points_baseOf_l1 p_race j1 p_l 0)
def bits_Mul64 (p_x : Int) (p_y : Int) : (Int × Int) :=
  (IntKind.wrap .u64 ((IntKind.wrap .u64 ((IntKind.wrap .u64 ((bitShr .u64 p_x 32) * (bitShr .u64 p_y 32))) + (bitShr .u64 (IntKind.wrap .u64 ((IntKind.wrap .u64 ((bitShr .u64 p_x 32) * (bitAnd .u64 p_y 4294967295))) + (bitShr .u64 (IntKind.wrap .u64 ((bitAnd .u64 p_x 4294967295) * (bitAnd .u64 p_y 4294967295))) 32))) 32))) + (bitShr .u64 (IntKind.wrap .u64 ((bitAnd .u64 (IntKind.wrap .u64 ((IntKind.wrap .u64 ((bitShr .u64 p_x 32) * (bitAnd .u64 p_y 4294967295))) + (bitShr .u64 (IntKind.wrap .u64 ((bitAnd .u64 p_x 4294967295) * (bitAnd .u64 p_y 4294967295))) 32))) 4294967295) + (IntKind.wrap .u64 ((bitAnd .u64 p_x 4294967295) * (bitShr .u64 p_y 32))))) 32)), IntKind.wrap .u64 (p_x * p_y))
def bits_LeadingZeros64 (p_x : Int) : Option Int :=
  Option.bind (bits_Len64 p_x) (fun r1 =>
  some (W (64 - r1)))
def bits_Div64_l1 (p_lo : Int) (r1 : Int) (p_y : Int) (j1 : Int → Option (Int × Int)) : Nat → Int → Int → Option (Int × Int)
  | 0, _, _ => none
  | m1 + 1, x1, x2 => if ((decide (4294967296 ≤ x1)) || (decide ((IntKind.wrap .u64 ((IntKind.wrap .u64 (4294967296 * x2)) + (bitShr .u64 (bitShl .u64 p_lo (IntKind.wrap .u64 r1)) 32))) < (IntKind.wrap .u64 (x1 * (bitAnd .u64 (bitShl .u64 p_y (IntKind.wrap .u64 r1)) 4294967295)))))) then
  if decide (4294967296 ≤ (IntKind.wrap .u64 (x2 + (bitShr .u64 (bitShl .u64 p_y (IntKind.wrap .u64 r1)) 32)))) then
  j1 (IntKind.wrap .u64 (x1 - 1))
  else
  bits_Div64_l1 p_lo r1 p_y j1 m1 (IntKind.wrap .u64 (x1 - 1)) (IntKind.wrap .u64 (x2 + (bitShr .u64 (bitShl .u64 p_y (IntKind.wrap .u64 r1)) 32)))
  else
  j1 x1
def bits_Div64_l2 (p_lo : Int) (r1 : Int) (p_y : Int) (j2 : Int → Option (Int × Int)) : Nat → Int → Int → Option (Int × Int)
  | 0, _, _ => none
  | m2 + 1, x3, x4 => if ((decide (4294967296 ≤ x4)) || (decide ((IntKind.wrap .u64 ((IntKind.wrap .u64 (4294967296 * x3)) + (bitAnd .u64 (bitShl .u64 p_lo (IntKind.wrap .u64 r1)) 4294967295))) < (IntKind.wrap .u64 (x4 * (bitAnd .u64 (bitShl .u64 p_y (IntKind.wrap .u64 r1)) 4294967295)))))) then
  if decide (4294967296 ≤ (IntKind.wrap .u64 (x3 + (bitShr .u64 (bitShl .u64 p_y (IntKind.wrap .u64 r1)) 32)))) then
  j2 (IntKind.wrap .u64 (x4 - 1))
  else
  bits_Div64_l2 p_lo r1 p_y j2 m2 (IntKind.wrap .u64 (x3 + (bitShr .u64 (bitShl .u64 p_y (IntKind.wrap .u64 r1)) 32))) (IntKind.wrap .u64 (x4 - 1))
  else
  j2 x4
def bits_Div64 (p_hi : Int) (p_lo : Int) (p_y : Int) : Option (Int × Int) :=
  if decide (p_y = 0) then
  none
  else
  if decide (p_y ≤ p_hi) then
  none
  else
  if decide (p_hi = 0) then
  Chk (!decide (p_y = 0)) (
  Chk (!decide (p_y = 0)) (
  some (IntKind.wrap .u64 (Int.tdiv p_lo p_y), Int.tmod p_lo p_y)))
  else
  Option.bind (bits_LeadingZeros64 p_y) (fun r1 =>
  Chk (decide (0 ≤ (IntKind.wrap .u64 r1))) (
  Chk (decide (0 ≤ (IntKind.wrap .u64 r1))) (
  Chk (decide (0 ≤ (IntKind.wrap .u64 (64 - (IntKind.wrap .u64 r1))))) (
  Chk (decide (0 ≤ (IntKind.wrap .u64 r1))) (
  Chk (!decide ((bitShr .u64 (bitShl .u64 p_y (IntKind.wrap .u64 r1)) 32) = 0)) (
  Join (fun (x1 : Int) =>
  Chk (!decide ((bitShr .u64 (bitShl .u64 p_y (IntKind.wrap .u64 r1)) 32) = 0)) (
  Join (fun (x4 : Int) =>
  Chk (decide (0 ≤ (IntKind.wrap .u64 r1))) (
  some (IntKind.wrap .u64 ((IntKind.wrap .u64 (x1 * 4294967296)) + x4), bitShr .u64 (IntKind.wrap .u64 ((IntKind.wrap .u64 ((IntKind.wrap .u64 ((IntKind.wrap .u64 ((IntKind.wrap .u64 ((IntKind.wrap .u64 ((bitOr .u64 (bitShl .u64 p_hi (IntKind.wrap .u64 r1)) (bitShr .u64 p_lo (IntKind.wrap .u64 (64 - (IntKind.wrap .u64 r1))))) * 4294967296)) + (bitShr .u64 (bitShl .u64 p_lo (IntKind.wrap .u64 r1)) 32))) - (IntKind.wrap .u64 (x1 * (bitShl .u64 p_y (IntKind.wrap .u64 r1)))))) * 4294967296)) + (bitAnd .u64 (bitShl .u64 p_lo (IntKind.wrap .u64 r1)) 4294967295))) - (IntKind.wrap .u64 (x4 * (bitShl .u64 p_y (IntKind.wrap .u64 r1)))))) (IntKind.wrap .u64 r1)))) (fun j2 =>
  bits_Div64_l2 p_lo r1 p_y j2 (((IntKind.wrap .u64 (Int.tdiv (IntKind.wrap .u64 ((IntKind.wrap .u64 ((IntKind.wrap .u64 ((bitOr .u64 (bitShl .u64 p_hi (IntKind.wrap .u64 r1)) (bitShr .u64 p_lo (IntKind.wrap .u64 (64 - (IntKind.wrap .u64 r1))))) * 4294967296)) + (bitShr .u64 (bitShl .u64 p_lo (IntKind.wrap .u64 r1)) 32))) - (IntKind.wrap .u64 (x1 * (bitShl .u64 p_y (IntKind.wrap .u64 r1)))))) (bitShr .u64 (bitShl .u64 p_y (IntKind.wrap .u64 r1)) 32))) - 4294967296).toNat + 2) (IntKind.wrap .u64 ((IntKind.wrap .u64 ((IntKind.wrap .u64 ((IntKind.wrap .u64 ((bitOr .u64 (bitShl .u64 p_hi (IntKind.wrap .u64 r1)) (bitShr .u64 p_lo (IntKind.wrap .u64 (64 - (IntKind.wrap .u64 r1))))) * 4294967296)) + (bitShr .u64 (bitShl .u64 p_lo (IntKind.wrap .u64 r1)) 32))) - (IntKind.wrap .u64 (x1 * (bitShl .u64 p_y (IntKind.wrap .u64 r1)))))) - (IntKind.wrap .u64 ((IntKind.wrap .u64 (Int.tdiv (IntKind.wrap .u64 ((IntKind.wrap .u64 ((IntKind.wrap .u64 ((bitOr .u64 (bitShl .u64 p_hi (IntKind.wrap .u64 r1)) (bitShr .u64 p_lo (IntKind.wrap .u64 (64 - (IntKind.wrap .u64 r1))))) * 4294967296)) + (bitShr .u64 (bitShl .u64 p_lo (IntKind.wrap .u64 r1)) 32))) - (IntKind.wrap .u64 (x1 * (bitShl .u64 p_y (IntKind.wrap .u64 r1)))))) (bitShr .u64 (bitShl .u64 p_y (IntKind.wrap .u64 r1)) 32))) * (bitShr .u64 (bitShl .u64 p_y (IntKind.wrap .u64 r1)) 32))))) (IntKind.wrap .u64 (Int.tdiv (IntKind.wrap .u64 ((IntKind.wrap .u64 ((IntKind.wrap .u64 ((bitOr .u64 (bitShl .u64 p_hi (IntKind.wrap .u64 r1)) (bitShr .u64 p_lo (IntKind.wrap .u64 (64 - (IntKind.wrap .u64 r1))))) * 4294967296)) + (bitShr .u64 (bitShl .u64 p_lo (IntKind.wrap .u64 r1)) 32))) - (IntKind.wrap .u64 (x1 * (bitShl .u64 p_y (IntKind.wrap .u64 r1)))))) (bitShr .u64 (bitShl .u64 p_y (IntKind.wrap .u64 r1)) 32)))))) (fun j1 =>
  bits_Div64_l1 p_lo r1 p_y j1 (((IntKind.wrap .u64 (Int.tdiv (bitOr .u64 (bitShl .u64 p_hi (IntKind.wrap .u64 r1)) (bitShr .u64 p_lo (IntKind.wrap .u64 (64 - (IntKind.wrap .u64 r1))))) (bitShr .u64 (bitShl .u64 p_y (IntKind.wrap .u64 r1)) 32))) - 4294967296).toNat + 2) (IntKind.wrap .u64 (Int.tdiv (bitOr .u64 (bitShl .u64 p_hi (IntKind.wrap .u64 r1)) (bitShr .u64 p_lo (IntKind.wrap .u64 (64 - (IntKind.wrap .u64 r1))))) (bitShr .u64 (bitShl .u64 p_y (IntKind.wrap .u64 r1)) 32))) (IntKind.wrap .u64 ((bitOr .u64 (bitShl .u64 p_hi (IntKind.wrap .u64 r1)) (bitShr .u64 p_lo (IntKind.wrap .u64 (64 - (IntKind.wrap .u64 r1))))) - (IntKind.wrap .u64 ((IntKind.wrap .u64 (Int.tdiv (bitOr .u64 (bitShl .u64 p_hi (IntKind.wrap .u64 r1)) (bitShr .u64 p_lo (IntKind.wrap .u64 (64 - (IntKind.wrap .u64 r1))))) (bitShr .u64 (bitShl .u64 p_y (IntKind.wrap .u64 r1)) 32))) * (bitShr .u64 (bitShl .u64 p_y (IntKind.wrap .u64 r1)) 32))))))))))))
def points_byTime (p_base : Int) (p_time : Int) : Option Int :=
  if decide ((IntKind.wrap .u64 ((IntKind.wrap .u64 ((IntKind.wrap .u64 p_time) * (IntKind.wrap .u64 p_time))) * (IntKind.wrap .u64 p_time))) ≤ ((bits_Mul64 (IntKind.wrap .u64 ((IntKind.wrap .u64 ((IntKind.wrap .u64 p_base) * (IntKind.wrap .u64 p_base))) * (IntKind.wrap .u64 p_base))) 1000).1)) then
  some 1000000000
  else
  Option.bind (bits_Div64 ((bits_Mul64 (IntKind.wrap .u64 ((IntKind.wrap .u64 ((IntKind.wrap .u64 p_base) * (IntKind.wrap .u64 p_base))) * (IntKind.wrap .u64 p_base))) 1000).1) ((bits_Mul64 (IntKind.wrap .u64 ((IntKind.wrap .u64 ((IntKind.wrap .u64 p_base) * (IntKind.wrap .u64 p_base))) * (IntKind.wrap .u64 p_base))) 1000).2) (IntKind.wrap .u64 ((IntKind.wrap .u64 ((IntKind.wrap .u64 p_time) * (IntKind.wrap .u64 p_time))) * (IntKind.wrap .u64 p_time)))) (fun r1 =>
  some (W (imin r1.1 1000000000)))
def points_ByTime (p_l : List GBase) (p_race : ByteArray) (p_time : Int) : Option (Int × Int) :=
  Option.bind (points_CheckBase p_l) (fun r1 =>
  if !decide (r1 = 0) then
  some (0, r1)
  else
  if decide ((points_baseOf p_l p_race) = 0) then
  some (0, 8)
  else
  if !(timing_IsTime p_time) then
  some (0, 1)
  else
  Option.bind (points_byTime (points_baseOf p_l p_race) p_time) (fun r2 =>
  some (r2, 0)))
def tumblaw2_pointed : Option Bool :=
  Option.bind (points_ByTime [(GBase.mk k_r 3000)] k_r 6000) (fun r1 =>
  some ((decide (r1.2 = 0)) && (decide (r1.1 = 125))))
def tumblaw2_ScoredTexts (p_l : List Int) : Option Bool :=
  Option.bind (Stream_Scored p_l 0) (fun r1 =>
  Option.bind (Stream_ScoredText p_l r1.2) (fun r2 =>
  Option.bind (points_Text r1.1) (fun r3 =>
  Option.bind (tumbref2_ScoredFault r1.1) (fun r4 =>
  Join (fun (x1 : ByteArray) =>
  Option.bind (points_Read r2.1) (fun r6 =>
  Option.bind (tumbref2_ScoredRead r2.1) (fun r7 =>
  Join (fun (c1 : Bool) =>
  Join (fun (c2 : Bool) =>
  some c2) (fun j3 =>
  if ((c1 && (decide (r6.2.1 = r7.2.1))) && (decide (r6.2.2 = r7.2.2))) then Option.bind (tumblaw2_pointed) (fun r9 =>
  j3 (((c1 && (decide (r6.2.1 = r7.2.1))) && (decide (r6.2.2 = r7.2.2))) && r9)) else j3 (((c1 && (decide (r6.2.1 = r7.2.1))) && (decide (r6.2.2 = r7.2.2))) && true))) (fun j2 =>
  if ((decide (r3.2 = r4)) && (decide (r3.1 = x1))) then Option.bind (slices_Equal_Scored r6.1 r7.1) (fun r8 =>
  j2 (((decide (r3.2 = r4)) && (decide (r3.1 = x1))) && r8)) else j2 (((decide (r3.2 = r4)) && (decide (r3.1 = x1))) && true))))) (fun j1 =>
  if decide (r4 = 0) then
  Option.bind (tumbref2_ScoredLines r1.1) (fun r5 =>
  j1 r5)
  else
  j1 k_empty)))))
theorem twin_eqs : True := by
  have h := @slices_insertionSortCmpFunc_Scored_tumbref2_ScoredOrder_l2.eq_def; clear h; have h := @slices_insertionSortCmpFunc_Scored_tumbref2_ScoredOrder_l2.eq_1; clear h; have h := @slices_insertionSortCmpFunc_Scored_tumbref2_ScoredOrder_l2.eq_2; clear h
  have h := @slices_insertionSortCmpFunc_Scored_tumbref2_ScoredOrder_l1.eq_def; clear h; have h := @slices_insertionSortCmpFunc_Scored_tumbref2_ScoredOrder_l1.eq_1; clear h; have h := @slices_insertionSortCmpFunc_Scored_tumbref2_ScoredOrder_l1.eq_2; clear h
  have h := @slices_pdqsortCmpFunc_Scored_tumbref2_ScoredOrder_l1.eq_def; clear h; have h := @slices_pdqsortCmpFunc_Scored_tumbref2_ScoredOrder_l1.eq_1; clear h; have h := @slices_pdqsortCmpFunc_Scored_tumbref2_ScoredOrder_l1.eq_2; clear h
  have h := @Stream_RightScored_l2.eq_def; clear h; have h := @Stream_RightScored_l2.eq_1; clear h; have h := @Stream_RightScored_l2.eq_2; clear h
  have h := @Stream_RightScored_l4.eq_def; clear h; have h := @Stream_RightScored_l4.eq_1; clear h; have h := @Stream_RightScored_l4.eq_2; clear h
  have h := @Stream_RightScored_l3.eq_def; clear h; have h := @Stream_RightScored_l3.eq_1; clear h; have h := @Stream_RightScored_l3.eq_2; clear h
  have h := @Stream_RightScored_l5.eq_def; clear h; have h := @Stream_RightScored_l5.eq_1; clear h; have h := @Stream_RightScored_l5.eq_2; clear h
  have h := @Stream_RightScored_l1.eq_def; clear h; have h := @Stream_RightScored_l1.eq_1; clear h; have h := @Stream_RightScored_l1.eq_2; clear h
  have h := @Stream_Scored_l1.eq_def; clear h; have h := @Stream_Scored_l1.eq_1; clear h; have h := @Stream_Scored_l1.eq_2; clear h
  have h := @tumbref2_ScoredLines_l1.eq_def; clear h; have h := @tumbref2_ScoredLines_l1.eq_1; clear h; have h := @tumbref2_ScoredLines_l1.eq_2; clear h
  have h := @Stream_ScoredText_l1.eq_def; clear h; have h := @Stream_ScoredText_l1.eq_1; clear h; have h := @Stream_ScoredText_l1.eq_2; clear h
  have h := @cmp_Or_int_l1.eq_def; clear h; have h := @cmp_Or_int_l1.eq_1; clear h; have h := @cmp_Or_int_l1.eq_2; clear h
  have h := @points_races_l2.eq_def; clear h; have h := @points_races_l2.eq_1; clear h; have h := @points_races_l2.eq_2; clear h
  have h := @points_races_l1.eq_def; clear h; have h := @points_races_l1.eq_1; clear h; have h := @points_races_l1.eq_2; clear h
  have h := @slices_IndexFunc_Scored_points_checkAll_c1_l1.eq_def; clear h; have h := @slices_IndexFunc_Scored_points_checkAll_c1_l1.eq_1; clear h; have h := @slices_IndexFunc_Scored_points_checkAll_c1_l1.eq_2; clear h
  have h := @points_checkAll_l1.eq_def; clear h; have h := @points_checkAll_l1.eq_1; clear h; have h := @points_checkAll_l1.eq_2; clear h
  have h := @points_checkAll_l2.eq_def; clear h; have h := @points_checkAll_l2.eq_1; clear h; have h := @points_checkAll_l2.eq_2; clear h
  have h := @points_checkAll_l4.eq_def; clear h; have h := @points_checkAll_l4.eq_1; clear h; have h := @points_checkAll_l4.eq_2; clear h
  have h := @points_checkAll_l3.eq_def; clear h; have h := @points_checkAll_l3.eq_1; clear h; have h := @points_checkAll_l3.eq_2; clear h
  have h := @points_checkAll_l6.eq_def; clear h; have h := @points_checkAll_l6.eq_1; clear h; have h := @points_checkAll_l6.eq_2; clear h
  have h := @points_checkAll_l5.eq_def; clear h; have h := @points_checkAll_l5.eq_1; clear h; have h := @points_checkAll_l5.eq_2; clear h
  have h := @points_CheckScored_l1.eq_def; clear h; have h := @points_CheckScored_l1.eq_1; clear h; have h := @points_CheckScored_l1.eq_2; clear h
  have h := @points_Text_l1.eq_def; clear h; have h := @points_Text_l1.eq_1; clear h; have h := @points_Text_l1.eq_2; clear h
  have h := @tumbref2_only_l1.eq_def; clear h; have h := @tumbref2_only_l1.eq_1; clear h; have h := @tumbref2_only_l1.eq_2; clear h
  have h := @tumbref2_ScoredFault_l1.eq_def; clear h; have h := @tumbref2_ScoredFault_l1.eq_1; clear h; have h := @tumbref2_ScoredFault_l1.eq_2; clear h
  have h := @tumbref2_ScoredFault_l3.eq_def; clear h; have h := @tumbref2_ScoredFault_l3.eq_1; clear h; have h := @tumbref2_ScoredFault_l3.eq_2; clear h
  have h := @tumbref2_ScoredFault_l2.eq_def; clear h; have h := @tumbref2_ScoredFault_l2.eq_1; clear h; have h := @tumbref2_ScoredFault_l2.eq_2; clear h
  have h := @tumbref2_ScoredFault_l4.eq_def; clear h; have h := @tumbref2_ScoredFault_l4.eq_1; clear h; have h := @tumbref2_ScoredFault_l4.eq_2; clear h
  have h := @words_Split_l1.eq_def; clear h; have h := @words_Split_l1.eq_1; clear h; have h := @words_Split_l1.eq_2; clear h
  have h := @words_Lines_points_Read_c1_l1.eq_def; clear h; have h := @words_Lines_points_Read_c1_l1.eq_1; clear h; have h := @words_Lines_points_Read_c1_l1.eq_2; clear h
  have h := @slices_Index_string_l1.eq_def; clear h; have h := @slices_Index_string_l1.eq_1; clear h; have h := @slices_Index_string_l1.eq_2; clear h
  have h := @tumbref2_Lines_tumbref2_ScoredRead_c1_l1.eq_def; clear h; have h := @tumbref2_Lines_tumbref2_ScoredRead_c1_l1.eq_1; clear h; have h := @tumbref2_Lines_tumbref2_ScoredRead_c1_l1.eq_2; clear h
  have h := @slices_Equal_Scored_l1.eq_def; clear h; have h := @slices_Equal_Scored_l1.eq_1; clear h; have h := @slices_Equal_Scored_l1.eq_2; clear h
  have h := @points_CheckBase_l1.eq_def; clear h; have h := @points_CheckBase_l1.eq_1; clear h; have h := @points_CheckBase_l1.eq_2; clear h
  have h := @points_baseOf_l1.eq_def; clear h; have h := @points_baseOf_l1.eq_1; clear h; have h := @points_baseOf_l1.eq_2; clear h
  have h := @bits_Div64_l1.eq_def; clear h; have h := @bits_Div64_l1.eq_1; clear h; have h := @bits_Div64_l1.eq_2; clear h
  have h := @bits_Div64_l2.eq_def; clear h; have h := @bits_Div64_l2.eq_1; clear h; have h := @bits_Div64_l2.eq_2; clear h
  trivial
end Go.Proofs.YtcnneeipmadakaaGreatDoor
