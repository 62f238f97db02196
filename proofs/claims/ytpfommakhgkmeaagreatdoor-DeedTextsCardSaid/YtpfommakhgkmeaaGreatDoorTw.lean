/- The Go functions as plain Lean functions, by program. -/
import Derived.Test.YtpfommakhgkmeaaGreatDoorBase
import Derived.Lib.Atoi
import Derived.Lib.IndexMore
import Derived.Lib.ItoaNum
import Derived.Lib.Join
import Derived.Lib.Split
import Derived.Lib.Strings
namespace Go.Proofs.YtpfommakhgkmeaaGreatDoor
open Go
noncomputable section
structure Gtumbmake_Stream where
  L : List Int
  at_ : Int
  deriving DecidableEq, Inhabited
structure GDeed where
  Site : ByteArray
  No : Int
  At : Int
  Kind : Int
  Who : ByteArray
  Club : ByteArray
  Race : ByteArray
  Time : Int
  Fault : Int
  Of : ByteArray
  Other : Int
  deriving DecidableEq, Inhabited
structure Gmeet_place where
  site_ : ByteArray
  no_ : Int
  deriving DecidableEq, Inhabited
structure GRace where
  Key : ByteArray
  Metres : Int
  Stroke : Int
  Course : Int
  Legs : Int
  Sex : Int
  Young : Int
  Old : Int
  deriving DecidableEq, Inhabited
structure GTable where
  Points : List Int
  Relay : Int
  Most : Int
  deriving DecidableEq, Inhabited
structure GFinal where
  Size : Int
  Many : Int
  Reserves : Int
  deriving DecidableEq, Inhabited
structure GPlan where
  Races : List GRace
  Table : GTable
  Final : GFinal
  deriving DecidableEq, Inhabited
structure Gmeet_state where
  p_ : GPlan
  deeds_ : List GDeed
  deriving DecidableEq, Inhabited
structure GSeed where
  Who : ByteArray
  Time : Int
  deriving DecidableEq, Inhabited
def k_empty : ByteArray := ⟨#[]⟩
def k_sa : ByteArray := ⟨#[115, 97]⟩
def k_sb : ByteArray := ⟨#[115, 98]⟩
def k_ann : ByteArray := ⟨#[97, 110, 110]⟩
def k_bea : ByteArray := ⟨#[98, 101, 97]⟩
def k_cid : ByteArray := ⟨#[99, 105, 100]⟩
def k_dan : ByteArray := ⟨#[100, 97, 110]⟩
def k_ra : ByteArray := ⟨#[114, 97]⟩
def k_rb : ByteArray := ⟨#[114, 98]⟩
def k_rz : ByteArray := ⟨#[114, 122]⟩
def k_blue : ByteArray := ⟨#[98, 108, 117, 101]⟩
def k_red : ByteArray := ⟨#[114, 101, 100]⟩
def k_A : ByteArray := ⟨#[65]⟩
def k_abcdefghijklmnopqrstuvwxyz : ByteArray := ⟨#[97, 98, 99, 100, 101, 102, 103, 104, 105, 106, 107, 108, 109, 110, 111, 112, 113, 114, 115, 116, 117, 118, 119, 120, 121, 122]⟩
def k_abcdefghijkl_h0e2e2c : ByteArray := ⟨#[97, 98, 99, 100, 101, 102, 103, 104, 105, 106, 107, 108, 109, 110, 111, 112, 113, 114, 115, 116, 117, 118, 119, 120, 121, 122, 48, 49, 50, 51, 52, 53, 54, 55, 56, 57, 45, 95]⟩
def k__20 : ByteArray := ⟨#[32]⟩
def k_enter_20 : ByteArray := ⟨#[101, 110, 116, 101, 114, 32]⟩
def k__2d : ByteArray := ⟨#[45]⟩
def k_scratch_20 : ByteArray := ⟨#[115, 99, 114, 97, 116, 99, 104, 32]⟩
def k_swum_20 : ByteArray := ⟨#[115, 119, 117, 109, 32]⟩
def k_undo_20 : ByteArray := ⟨#[117, 110, 100, 111, 32]⟩
def k__0a : ByteArray := ⟨#[10]⟩
def k__20_0a0_2d9sra : ByteArray := ⟨#[32, 10, 48, 45, 57, 115, 114, 97]⟩
def k_enter : ByteArray := ⟨#[101, 110, 116, 101, 114]⟩
def k_scratch : ByteArray := ⟨#[115, 99, 114, 97, 116, 99, 104]⟩
def k_swum : ByteArray := ⟨#[115, 119, 117, 109]⟩
def k_undo : ByteArray := ⟨#[117, 110, 100, 111]⟩
def k_0123456789 : ByteArray := ⟨#[48, 49, 50, 51, 52, 53, 54, 55, 56, 57]⟩
def k_0 : ByteArray := ⟨#[48]⟩
def k_r : ByteArray := ⟨#[114]⟩
def k_s : ByteArray := ⟨#[115]⟩
def k_a : ByteArray := ⟨#[97]⟩
def k__00_01_02_02_h633d86 : ByteArray := ⟨#[0, 1, 2, 2, 3, 3, 3, 3, 4, 4, 4, 4, 4, 4, 4, 4, 5, 5, 5, 5, 5, 5, 5, 5, 5, 5, 5, 5, 5, 5, 5, 5, 6, 6, 6, 6, 6, 6, 6, 6, 6, 6, 6, 6, 6, 6, 6, 6, 6, 6, 6, 6, 6, 6, 6, 6, 6, 6, 6, 6, 6, 6, 6, 6, 7, 7, 7, 7, 7, 7, 7, 7, 7, 7, 7, 7, 7, 7, 7, 7, 7, 7, 7, 7, 7, 7, 7, 7, 7, 7, 7, 7, 7, 7, 7, 7, 7, 7, 7, 7, 7, 7, 7, 7, 7, 7, 7, 7, 7, 7, 7, 7, 7, 7, 7, 7, 7, 7, 7, 7, 7, 7, 7, 7, 7, 7, 7, 7, 8, 8, 8, 8, 8, 8, 8, 8, 8, 8, 8, 8, 8, 8, 8, 8, 8, 8, 8, 8, 8, 8, 8, 8, 8, 8, 8, 8, 8, 8, 8, 8, 8, 8, 8, 8, 8, 8, 8, 8, 8, 8, 8, 8, 8, 8, 8, 8, 8, 8, 8, 8, 8, 8, 8, 8, 8, 8, 8, 8, 8, 8, 8, 8, 8, 8, 8, 8, 8, 8, 8, 8, 8, 8, 8, 8, 8, 8, 8, 8, 8, 8, 8, 8, 8, 8, 8, 8, 8, 8, 8, 8, 8, 8, 8, 8, 8, 8, 8, 8, 8, 8, 8, 8, 8, 8, 8, 8, 8, 8, 8, 8, 8, 8, 8, 8, 8, 8, 8, 8, 8, 8, 8, 8, 8, 8, 8, 8]⟩
def tumbmake_Below (p_x : Int) (p_n : Int) : Option Int :=
  if decide (p_n < 1) then
  some 0
  else
  Chk (!decide (p_n = 0)) (
  Join (fun (x1 : Int) =>
  some x1) (fun j1 =>
  if decide ((Int.tmod p_x p_n) < 0) then
  j1 (W ((Int.tmod p_x p_n) + p_n))
  else
  j1 (Int.tmod p_x p_n)))
def Stream_Next (p_s_L : List Int) (p_s_at : Int) (p_n : Int) : Option (Int × Int) :=
  if decide ((p_s_L.length : Int) = 0) then
  Option.bind (tumbmake_Below (W ((W (p_s_at + 1)) * 7919)) p_n) (fun r1 =>
  some (r1, W (p_s_at + 1)))
  else
  Chk (!decide ((p_s_L.length : Int) = 0)) (
  Chk (!decide ((p_s_L.length : Int) = 0)) (
  Chk (inB (Int.tmod (W ((W (p_s_at + 1)) - 1)) (p_s_L.length : Int)) p_s_L.length) (
  Option.bind (tumbmake_Below (nth p_s_L (Int.tmod (W ((W (p_s_at + 1)) - 1)) (p_s_L.length : Int))) 1073741824) (fun r2 =>
  Option.bind (tumbmake_Below (W (r2 + (W ((W (Int.tdiv (W ((W (p_s_at + 1)) - 1)) (p_s_L.length : Int))) * (W (7919 + (Int.tmod (W ((W (p_s_at + 1)) - 1)) (p_s_L.length : Int)))))))) p_n) (fun r3 =>
  some (r3, W (p_s_at + 1)))))))
def Stream_Range (p_s_L : List Int) (p_s_at : Int) (p_low : Int) (p_high : Int) : Option (Int × Int) :=
  if decide (p_high < p_low) then
  some (p_low, p_s_at)
  else
  Option.bind (Stream_Next p_s_L p_s_at (W ((W (p_high - p_low)) + 1))) (fun r1 =>
  some (W (p_low + r1.1), r1.2))
def Stream_Pick (p_s_L : List Int) (p_s_at : Int) (p_l : List Int) : Option (Int × Int) :=
  Option.bind (Stream_Next p_s_L p_s_at (p_l.length : Int)) (fun r1 =>
  Chk (inB r1.1 p_l.length) (
  some ((nth p_l r1.1), r1.2)))
def Stream_Some (p_s_L : List Int) (p_s_at : Int) (p_l : List ByteArray) : Option (ByteArray × Int) :=
  Option.bind (Stream_Next p_s_L p_s_at (p_l.length : Int)) (fun r1 =>
  Chk (inB r1.1 p_l.length) (
  some ((nth p_l r1.1), r1.2)))
def Stream_Flip (p_s_L : List Int) (p_s_at : Int) (p_n : Int) : Option (Bool × Int) :=
  Option.bind (Stream_Next p_s_L p_s_at p_n) (fun r1 =>
  some (decide (r1.1 = 0), r1.2))
def Stream_Odd (p_s_L : List Int) (p_s_at : Int) (p_low : Int) (p_high : Int) : Option (Int × Int) :=
  Option.bind (Stream_Flip p_s_L p_s_at 12) (fun r1 =>
  if r1.1 then
  Option.bind (Stream_Pick p_s_L r1.2 [W (p_low - 1), W (p_high + 1), p_low, p_high, (-1099511627776), 1099511627776]) (fun r2 =>
  some (r2.1, r2.2))
  else
  Option.bind (Stream_Range p_s_L r1.2 p_low p_high) (fun r3 =>
  some (r3.1, r3.2)))
def tumbref2_sign (p_n : Int) : Int :=
  if decide (p_n < 0) then
  (-1)
  else
  if decide (0 < p_n) then
  1
  else
  0
def strings_Compare (s t : ByteArray) : Int := Lib.compareBytes s.data.toList t.data.toList
def tumbref2_DeedOrder (p_a : GDeed) (p_b : GDeed) : Int :=
  if !decide (p_a.At = p_b.At) then
  (tumbref2_sign (W (p_a.At - p_b.At)))
  else
  if !decide (p_a.Site = p_b.Site) then
  (strings_Compare p_a.Site p_b.Site)
  else
  (tumbref2_sign (W (p_a.No - p_b.No)))
def slices_insertionSortCmpFunc_Deed_tumbref2_DeedOrder_l2 (p_a : Int) (j2 : (List GDeed) → Option (List GDeed)) : Nat → (List GDeed) → Int → Option (List GDeed)
  | 0, _, _ => none
  | m2 + 1, x3, x4 => Join (fun (x5 : Bool) =>
  if x5 then
  Chk (inB (W (x4 - 1)) x3.length) (
  Chk (inB x4 x3.length) (
  Chk (inB x4 x3.length) (
  Chk (inB (W (x4 - 1)) (x3.set x4.toNat (nth x3 (W (x4 - 1)))).length) (
  slices_insertionSortCmpFunc_Deed_tumbref2_DeedOrder_l2 p_a j2 m2 ((x3.set x4.toNat (nth x3 (W (x4 - 1)))).set ((W (x4 - 1)).toNat) (nth x3 x4)) (W (x4 - 1))))))
  else
  j2 x3) (fun j3 =>
  if decide (p_a < x4) then
  Chk (inB x4 x3.length) (
  Chk (inB (W (x4 - 1)) x3.length) (
  j3 (decide ((tumbref2_DeedOrder (nth x3 x4) (nth x3 (W (x4 - 1)))) < 0))))
  else
  j3 false)
def slices_insertionSortCmpFunc_Deed_tumbref2_DeedOrder_l1 (p_b : Int) (p_a : Int) (j1 : (List GDeed) → Option (List GDeed)) : Nat → (List GDeed) → Int → Option (List GDeed)
  | 0, _, _ => none
  | m1 + 1, x1, x2 => if decide (x2 < p_b) then
  Join (fun (x3 : List GDeed) =>
  slices_insertionSortCmpFunc_Deed_tumbref2_DeedOrder_l1 p_b p_a j1 m1 x3 (W (x2 + 1))) (fun j2 =>
  slices_insertionSortCmpFunc_Deed_tumbref2_DeedOrder_l2 p_a j2 ((x2 - p_a).toNat + 2) x1 x2)
  else
  j1 x1
def slices_insertionSortCmpFunc_Deed_tumbref2_DeedOrder (p_data : List GDeed) (p_a : Int) (p_b : Int) : Option (List GDeed) :=
  Join (fun (x1 : List GDeed) =>
  some x1) (fun j1 =>
  slices_insertionSortCmpFunc_Deed_tumbref2_DeedOrder_l1 p_b p_a j1 ((p_b - (W (p_a + 1))).toNat + 2) p_data (W (p_a + 1)))
def slices_stableCmpFunc_Deed_tumbref2_DeedOrder_l1 (p_n : Int) (j1 : (List GDeed) → Int → Option (List GDeed)) : Nat → (List GDeed) → Int → Int → Option (List GDeed)
  | 0, _, _, _ => none
  | m1 + 1, x1, x2, x3 => if decide (x3 ≤ p_n) then
  Option.bind (slices_insertionSortCmpFunc_Deed_tumbref2_DeedOrder x1 x2 x3) (fun r1 =>
  slices_stableCmpFunc_Deed_tumbref2_DeedOrder_l1 p_n j1 m1 r1 x3 (W (x3 + 20)))
  else
  j1 x1 x2
def slices_stableCmpFunc_Deed_tumbref2_DeedOrder_l3 (p_n : Int) (j3 : Int → Option (List GDeed)) : Nat → Int → Int → Option (List GDeed)
  | 0, _, _ => none
  | _ + 1, x5, x6 => if decide (x6 ≤ p_n) then
  none
  else
  j3 x5
def slices_stableCmpFunc_Deed_tumbref2_DeedOrder_l2 (p_n : Int) (j2 : Option (List GDeed)) : Nat → Int → Option (List GDeed)
  | 0, _ => none
  | m2 + 1, x4 => if decide (x4 < p_n) then
  Join (fun (x5 : Int) =>
  if decide ((W (x5 + x4)) < p_n) then
  none
  else
  slices_stableCmpFunc_Deed_tumbref2_DeedOrder_l2 p_n j2 m2 (W (x4 * 2))) (fun j3 =>
  slices_stableCmpFunc_Deed_tumbref2_DeedOrder_l3 p_n j3 ((p_n - (W (2 * x4))).toNat + 2) 0 (W (2 * x4)))
  else
  j2
def slices_stableCmpFunc_Deed_tumbref2_DeedOrder (p_data : List GDeed) (p_n : Int) : Option (List GDeed) :=
  Join (fun (x1 : List GDeed) (x2 : Int) =>
  Option.bind (slices_insertionSortCmpFunc_Deed_tumbref2_DeedOrder x1 x2 p_n) (fun r2 =>
  Join (some r2) (fun j2 =>
  slices_stableCmpFunc_Deed_tumbref2_DeedOrder_l2 p_n j2 ((p_n - 20).toNat + 2) 20))) (fun j1 =>
  slices_stableCmpFunc_Deed_tumbref2_DeedOrder_l1 p_n j1 ((p_n - 20).toNat + 2) p_data 0 20)
def slices_SortStableFunc_Deed_tumbref2_DeedOrder (p_x : List GDeed) : Option (List GDeed) :=
  Option.bind (slices_stableCmpFunc_Deed_tumbref2_DeedOrder p_x (p_x.length : Int)) (fun r1 =>
  some r1)
def Stream_Deeds_l1 (p_many : Int) (p_s_L : List Int) (j1 : (List (ByteArray × Int)) → (List GDeed) → Int → Option ((List GDeed) × Int)) : Nat → (List (ByteArray × Int)) → (List GDeed) → Int → Int → Int → Option ((List GDeed) × Int)
  | 0, _, _, _, _, _ => none
  | m1 + 1, x1, x2, x3, x4, x5 => if decide (x5 < p_many) then
  Option.bind (Stream_Pick p_s_L x3 [0, 1, 5]) (fun r1 =>
  Option.bind (Stream_Some p_s_L r1.2 [k_sa, k_sa, k_sb]) (fun r2 =>
  Option.bind (Stream_Pick p_s_L r2.2 [1, 1, 1, 3, 3, 3, 2, 4]) (fun r3 =>
  Join (fun (x6 : ByteArray) (x7 : ByteArray) (x8 : Int) =>
  Join (fun (x9 : ByteArray) (x10 : Int) (x11 : Int) (x12 : ByteArray) (x13 : Int) (x14 : Int) =>
  Option.bind (Stream_Flip p_s_L x14 100) (fun r12 =>
  Join (fun (x29 : ByteArray) (x30 : Int) (x31 : Int) (x32 : ByteArray) (x33 : ByteArray) (x34 : ByteArray) (x35 : Int) (x36 : Int) (x37 : Int) (x38 : Int) =>
  Chk (room x2.length) (
  Stream_Deeds_l1 p_many p_s_L j1 m1 (mput x1 r2.1 (W ((mgetD x1 r2.1 0) + 1))) (x2 ++ [(GDeed.mk x29 x30 (W (x4 + r1.1)) x31 x32 x33 x34 x35 x36 x12 x37)]) x38 (W (x4 + r1.1)) (W (x5 + 1)))) (fun j7 =>
  if r12.1 then
  Option.bind (Stream_Next p_s_L r12.2 4) (fun r13 =>
  Join (fun (x39 : ByteArray) (x40 : Int) (x41 : Int) (x42 : ByteArray) (x43 : ByteArray) (x44 : ByteArray) (x45 : Int) (x46 : Int) (x47 : Int) (x48 : Int) =>
  j7 x39 x40 x41 x42 x43 x44 x45 x46 x47 x48) (fun j8 =>
  Join (fun (x49 : ByteArray) (x50 : Int) (x51 : Int) (x52 : ByteArray) (x53 : ByteArray) (x54 : ByteArray) (x55 : Int) (x56 : Int) (x57 : Int) (x58 : Int) =>
  j8 x49 x50 x51 x52 x53 x54 x55 x56 x57 x58) (fun j9 =>
  if decide (r13.1 = 0) then
  Option.bind (Stream_Some p_s_L r13.2 [k_empty, k_sa]) (fun r14 =>
  Option.bind (Stream_Odd p_s_L r14.2 1 9) (fun r15 =>
  j9 r14.1 r15.1 r3.1 x6 x9 x7 x10 x11 x13 r15.2))
  else
  Join (fun (x59 : Int) (x60 : ByteArray) (x61 : ByteArray) (x62 : ByteArray) (x63 : Int) (x64 : Int) (x65 : Int) (x66 : Int) =>
  j9 r2.1 (mgetD (mput x1 r2.1 (W ((mgetD x1 r2.1 0) + 1))) r2.1 0) x59 x60 x61 x62 x63 x64 x65 x66) (fun j10 =>
  if decide (r13.1 = 1) then
  Option.bind (Stream_Odd p_s_L r13.2 1 4) (fun r16 =>
  j10 r16.1 x6 x9 x7 x10 x11 x13 r16.2)
  else
  Join (fun (x67 : ByteArray) (x68 : ByteArray) (x69 : ByteArray) (x70 : Int) (x71 : Int) (x72 : Int) (x73 : Int) =>
  j10 r3.1 x67 x68 x69 x70 x71 x72 x73) (fun j11 =>
  if decide (r13.1 = 2) then
  Option.bind (Stream_Some p_s_L r13.2 [k_empty, k_ann]) (fun r17 =>
  Option.bind (Stream_Some p_s_L r17.2 [k_A, k_blue]) (fun r18 =>
  Option.bind (Stream_Some p_s_L r18.2 [k_empty, k_ra]) (fun r19 =>
  j11 r17.1 r18.1 r19.1 x10 x11 x13 r19.2)))
  else
  Option.bind (Stream_Odd p_s_L r13.2 0 360000) (fun r20 =>
  Option.bind (Stream_Odd p_s_L r20.2 0 8) (fun r21 =>
  Option.bind (Stream_Odd p_s_L r21.2 0 5) (fun r22 =>
  j11 x6 x9 x7 r20.1 r21.1 r22.1 r22.2))))))))
  else
  j7 r2.1 (mgetD (mput x1 r2.1 (W ((mgetD x1 r2.1 0) + 1))) r2.1 0) r3.1 x6 x9 x7 x10 x11 x13 r12.2))) (fun j3 =>
  Join (fun (x15 : ByteArray) (x16 : Int) (x17 : Int) (x18 : ByteArray) (x19 : Int) (x20 : Int) =>
  j3 x15 x16 x17 x18 x19 x20) (fun j4 =>
  if decide (r3.1 = 1) then
  Option.bind (Stream_Some p_s_L x8 [k_blue, k_red, k_empty]) (fun r6 =>
  Option.bind (Stream_Pick p_s_L r6.2 [0, 5900, 6000, 7000]) (fun r7 =>
  j4 r6.1 r7.1 0 k_empty 0 r7.2))
  else
  Join (fun (x21 : Int) (x22 : Int) (x23 : ByteArray) (x24 : Int) (x25 : Int) =>
  j4 k_empty x21 x22 x23 x24 x25) (fun j5 =>
  if decide (r3.1 = 3) then
  Option.bind (Stream_Pick p_s_L x8 [0, 5900, 5900, 6000, 6100]) (fun r8 =>
  Option.bind (Stream_Pick p_s_L r8.2 [0, 0, 0, 0, 3]) (fun r9 =>
  j5 r8.1 r9.1 k_empty 0 r9.2))
  else
  Join (fun (x26 : ByteArray) (x27 : Int) (x28 : Int) =>
  j5 0 0 x26 x27 x28) (fun j6 =>
  if decide (r3.1 = 4) then
  Option.bind (Stream_Some p_s_L x8 [k_sa, k_sa, k_sb]) (fun r10 =>
  Option.bind (Stream_Range p_s_L r10.2 1 (imax 1 (mgetD (mput x1 r2.1 (W ((mgetD x1 r2.1 0) + 1))) k_sa 0))) (fun r11 =>
  j6 r10.1 r11.1 r11.2))
  else
  j6 k_empty 0 x8))))) (fun j2 =>
  if !decide (r3.1 = 4) then
  Option.bind (Stream_Some p_s_L r3.2 [k_ann, k_bea, k_cid, k_dan]) (fun r4 =>
  Option.bind (Stream_Some p_s_L r4.2 [k_ra, k_ra, k_rb, k_rz]) (fun r5 =>
  j2 r4.1 r5.1 r5.2))
  else
  j2 k_empty k_empty r3.2))))
  else
  j1 x1 x2 x3
def Stream_Deeds (p_s_L : List Int) (p_s_at : Int) (p_many : Int) : Option ((List GDeed) × Int) :=
  Join (fun (x1 : List (ByteArray × Int)) (x2 : List GDeed) (x3 : Int) =>
  Option.bind (slices_SortStableFunc_Deed_tumbref2_DeedOrder x2) (fun r23 =>
  some (r23, x3))) (fun j1 =>
  Stream_Deeds_l1 p_many p_s_L j1 ((p_many - 0).toNat + 2) ([] : List (ByteArray × Int)) ([] : List GDeed) p_s_at 0 0)
def tumbref2_in (p_n : Int) (p_low : Int) (p_high : Int) : Bool :=
  ((decide (p_low ≤ p_n)) && (decide (p_n ≤ p_high)))
def strings_IndexByte (s : ByteArray) (c : Int) : Int := Lib.indexByte s.data.toList c.toNat.toUInt8
def tumbref2_only_l1 (p_s : ByteArray) (p_some : ByteArray) (j1 : Option Bool) : Nat → Int → Option Bool
  | 0, _ => none
  | m1 + 1, x1 => if decide (x1 < (p_s.size : Int)) then
  Chk (inB x1 p_s.size) (
  if decide ((strings_IndexByte p_some (sbyte p_s x1)) < 0) then
  some false
  else
  tumbref2_only_l1 p_s p_some j1 m1 (W (x1 + 1)))
  else
  j1
def tumbref2_only (p_s : ByteArray) (p_some : ByteArray) : Option Bool :=
  Join (some true) (fun j1 =>
  tumbref2_only_l1 p_s p_some j1 (((p_s.size : Int) - 0).toNat + 2) 0)
def tumbref2_Key (p_s : ByteArray) : Option Bool :=
  Join (fun (c1 : Bool) =>
  Join (fun (c2 : Bool) =>
  some c2) (fun j2 =>
  if c1 then Option.bind (tumbref2_only p_s k_abcdefghijkl_h0e2e2c) (fun r2 =>
  j2 (c1 && r2)) else j2 (c1 && true))) (fun j1 =>
  if (tumbref2_in (p_s.size : Int) 1 40) then Chk (cutB 0 1 p_s.size) (
  Option.bind (tumbref2_only (scut p_s 0 1) k_abcdefghijklmnopqrstuvwxyz) (fun r1 =>
  j1 ((tumbref2_in (p_s.size : Int) 1 40) && r1))) else j1 ((tumbref2_in (p_s.size : Int) 1 40) && true))
def tumbref2_Moment (p_at : Int) : Bool :=
  (tumbref2_in p_at 0 345686399999)
def tumbref2_DeedFault (p_d : GDeed) : Option Int :=
  Option.bind (tumbref2_Key p_d.Site) (fun r1 =>
  if !r1 then
  some 5
  else
  if ((!(tumbref2_in p_d.No 1 1000000)) || (!(tumbref2_Moment p_d.At))) then
  some 1
  else
  if !(tumbref2_in p_d.Kind 1 4) then
  some 4
  else
  Join (fun (x1 : ByteArray) (x2 : ByteArray) (x3 : ByteArray) (x4 : Int) =>
  Join (fun (x5 : ByteArray) =>
  Join (fun (x6 : Int) =>
  Join (fun (x7 : Int) =>
  if !decide (p_d = (GDeed.mk p_d.Site p_d.No p_d.At p_d.Kind x1 x5 x2 x6 x7 x3 x4)) then
  some 3
  else
  some 0) (fun j7 =>
  if decide (p_d.Kind = 3) then
  if !(tumbref2_in p_d.Fault 0 8) then
  some 1
  else
  j7 p_d.Fault
  else
  j7 0)) (fun j6 =>
  if ((decide (p_d.Kind = 1)) || (decide (p_d.Kind = 3))) then
  if !(tumbref2_in p_d.Time 0 360000) then
  some 1
  else
  j6 p_d.Time
  else
  j6 0)) (fun j5 =>
  if decide (p_d.Kind = 1) then
  j5 p_d.Club
  else
  j5 k_empty)) (fun j1 =>
  if decide (p_d.Kind = 4) then
  Option.bind (tumbref2_Key p_d.Of) (fun r2 =>
  if !r2 then
  some 5
  else
  if !(tumbref2_in p_d.Other 1 1000000) then
  some 1
  else
  j1 k_empty k_empty p_d.Of p_d.Other)
  else
  Option.bind (tumbref2_Key p_d.Who) (fun r3 =>
  Join (fun (c1 : Bool) =>
  Join (fun (c2 : Bool) =>
  if c2 then
  some 5
  else
  j1 p_d.Who p_d.Race k_empty 0) (fun j3 =>
  if c1 then j3 (c1 || true) else Join (fun (c3 : Bool) =>
  j3 (c1 || c3)) (fun j4 =>
  if ((decide (p_d.Kind = 1)) && (!decide (p_d.Club = k_empty))) then Option.bind (tumbref2_Key p_d.Club) (fun r5 =>
  j4 (((decide (p_d.Kind = 1)) && (!decide (p_d.Club = k_empty))) && (!r5))) else j4 (((decide (p_d.Kind = 1)) && (!decide (p_d.Club = k_empty))) && true)))) (fun j2 =>
  if (!r3) then j2 ((!r3) || true) else Option.bind (tumbref2_Key p_d.Race) (fun r4 =>
  j2 ((!r3) || (!r4)))))))
def tumbref2_sameNo (p_a : GDeed) (p_b : GDeed) : Bool :=
  ((decide (p_a.Site = p_b.Site)) && (decide (p_a.No = p_b.No)))
def tumbref2_DeedsFault_c1 (p_o : GDeed) (p_a1 : GDeed) : Bool :=
  (tumbref2_sameNo p_o p_a1)
def slices_IndexFunc_Deed_tumbref2_DeedsFault_c1_l1 (p_f_0 : GDeed) (j1 : Int) : List GDeed → Nat → Int
  | [], _ => j1
  | y1 :: ys1, i1 => if (tumbref2_DeedsFault_c1 y1 p_f_0) then
  (i1 : Int)
  else
  slices_IndexFunc_Deed_tumbref2_DeedsFault_c1_l1 p_f_0 j1 ys1 (i1 + 1)
def slices_IndexFunc_Deed_tumbref2_DeedsFault_c1 (p_s : List GDeed) (p_f_0 : GDeed) : Int :=
  Join ((-1)) (fun j1 =>
  slices_IndexFunc_Deed_tumbref2_DeedsFault_c1_l1 p_f_0 j1 p_s 0)
def slices_ContainsFunc_Deed_tumbref2_DeedsFault_c1 (p_s : List GDeed) (p_f_0 : GDeed) : Bool :=
  decide (0 ≤ (slices_IndexFunc_Deed_tumbref2_DeedsFault_c1 p_s p_f_0))
def tumbref2_DeedsFault_l1 (p_l : List GDeed) (j1 : Option Int) : List GDeed → Nat → Option Int
  | [], _ => j1
  | y1 :: ys1, i1 => Option.bind (tumbref2_DeedFault y1) (fun r1 =>
  if !decide (r1 = 0) then
  some r1
  else
  Join (fun (x1 : Bool) =>
  if x1 then
  some 7
  else
  tumbref2_DeedsFault_l1 p_l j1 ys1 (i1 + 1)) (fun j2 =>
  if decide (0 < (i1 : Int)) then
  Chk (inB (W ((i1 : Int) - 1)) p_l.length) (
  j2 (decide (0 ≤ (tumbref2_DeedOrder (nth p_l (W ((i1 : Int) - 1))) y1))))
  else
  j2 false))
def tumbref2_DeedsFault_l2 (p_l : List GDeed) (j3 : Option Int) : List GDeed → Nat → Option Int
  | [], _ => j3
  | y2 :: ys2, i2 => Chk (cutB 0 (i2 : Int) p_l.length) (
  if (slices_ContainsFunc_Deed_tumbref2_DeedsFault_c1 (cut p_l 0 (i2 : Int)) y2) then
  some 6
  else
  tumbref2_DeedsFault_l2 p_l j3 ys2 (i2 + 1))
def tumbref2_DeedsFault (p_l : List GDeed) : Option Int :=
  if decide (2000 < (p_l.length : Int)) then
  some 2
  else
  Join (Join (some 0) (fun j3 =>
  tumbref2_DeedsFault_l2 p_l j3 p_l 0)) (fun j1 =>
  tumbref2_DeedsFault_l1 p_l j1 p_l 0)
def Stream_RightDeeds_l1 (p_s_L : List Int) (p_many : Int) (j1 : Int → Option ((List GDeed) × Int)) : Nat → Int → Int → Option ((List GDeed) × Int)
  | 0, _, _ => none
  | m1 + 1, x1, x2 => if decide (x2 < 5) then
  Option.bind (Stream_Deeds p_s_L x1 p_many) (fun r1 =>
  Option.bind (tumbref2_DeedsFault r1.1) (fun r2 =>
  if decide (r2 = 0) then
  some (r1.1, r1.2)
  else
  Stream_RightDeeds_l1 p_s_L p_many j1 m1 r1.2 (W (x2 + 1))))
  else
  j1 x1
def Stream_RightDeeds (p_s_L : List Int) (p_s_at : Int) (p_many : Int) : Option ((List GDeed) × Int) :=
  Join (fun (x1 : Int) =>
  some (([] : List GDeed), x1)) (fun j1 =>
  Stream_RightDeeds_l1 p_s_L p_many j1 7 p_s_at 0)
def strconv_Itoa (n : Int) : Option ByteArray :=
  Chk (decide (-9223372036854775808 ≤ n) && decide (n ≤ 9223372036854775807)) (some (⟨(Lib.itoa n).toArray⟩))
def strings_Join (xs : List ByteArray) (sep : ByteArray) : Option ByteArray :=
  Chk (decide (xs.length ≤ 140737488355328) && decide ((Lib.join (xs.map (·.data.toList)) sep.data.toList).length ≤ 140737488355328)) (some (⟨(Lib.join (xs.map (·.data.toList)) sep.data.toList).toArray⟩))
def tumbref2_numbers_l1 (j1 : (List ByteArray) → Option ByteArray) : List Int → Nat → (List ByteArray) → Option ByteArray
  | [], _, x1 => j1 x1
  | y1 :: ys1, i1, x1 => Option.bind (strconv_Itoa y1) (fun r1 =>
  Chk (room x1.length) (
  tumbref2_numbers_l1 j1 ys1 (i1 + 1) (x1 ++ [r1])))
def tumbref2_numbers (p_l : List Int) : Option ByteArray :=
  Join (fun (x1 : List ByteArray) =>
  Option.bind (strings_Join x1 k__20) (fun r2 =>
  some r2)) (fun j1 =>
  tumbref2_numbers_l1 j1 p_l 0 ([] : List ByteArray))
def tumbref2_dash (p_s : ByteArray) : ByteArray :=
  if decide (p_s = k_empty) then
  k__2d
  else
  p_s
def tumbref2_DeedLines_l1 (j1 : ByteArray → Option ByteArray) : List GDeed → Nat → ByteArray → Option ByteArray
  | [], _, x1 => j1 x1
  | y1 :: ys1, i1, x1 => Chk (decide (y1.Site.size + k__20.size < 1073741824)) (
  Option.bind (tumbref2_numbers [y1.No, y1.At]) (fun r1 =>
  Chk (decide ((y1.Site ++ k__20).size + r1.size < 1073741824)) (
  Chk (decide (((y1.Site ++ k__20) ++ r1).size + k__20.size < 1073741824)) (
  Chk (decide (x1.size + (((y1.Site ++ k__20) ++ r1) ++ k__20).size < 1073741824)) (
  Join (fun (x2 : ByteArray) =>
  Chk (decide (x2.size + k__0a.size < 1073741824)) (
  tumbref2_DeedLines_l1 j1 ys1 (i1 + 1) (x2 ++ k__0a))) (fun j2 =>
  Join (fun (x3 : ByteArray) =>
  j2 x3) (fun j3 =>
  if decide (y1.Kind = 1) then
  Join (fun (x4 : ByteArray) =>
  j3 x4) (fun j4 =>
  Chk (decide (k_enter_20.size + y1.Who.size < 1073741824)) (
  Chk (decide ((k_enter_20 ++ y1.Who).size + k__20.size < 1073741824)) (
  Chk (decide (((k_enter_20 ++ y1.Who) ++ k__20).size + (tumbref2_dash y1.Club).size < 1073741824)) (
  Chk (decide ((((k_enter_20 ++ y1.Who) ++ k__20) ++ (tumbref2_dash y1.Club)).size + k__20.size < 1073741824)) (
  Chk (decide (((((k_enter_20 ++ y1.Who) ++ k__20) ++ (tumbref2_dash y1.Club)) ++ k__20).size + y1.Race.size < 1073741824)) (
  Chk (decide ((((((k_enter_20 ++ y1.Who) ++ k__20) ++ (tumbref2_dash y1.Club)) ++ k__20) ++ y1.Race).size + k__20.size < 1073741824)) (
  Option.bind (tumbref2_numbers [y1.Time]) (fun r2 =>
  Chk (decide (((((((k_enter_20 ++ y1.Who) ++ k__20) ++ (tumbref2_dash y1.Club)) ++ k__20) ++ y1.Race) ++ k__20).size + r2.size < 1073741824)) (
  Chk (decide ((x1 ++ (((y1.Site ++ k__20) ++ r1) ++ k__20)).size + (((((((k_enter_20 ++ y1.Who) ++ k__20) ++ (tumbref2_dash y1.Club)) ++ k__20) ++ y1.Race) ++ k__20) ++ r2).size < 1073741824)) (
  j4 ((x1 ++ (((y1.Site ++ k__20) ++ r1) ++ k__20)) ++ (((((((k_enter_20 ++ y1.Who) ++ k__20) ++ (tumbref2_dash y1.Club)) ++ k__20) ++ y1.Race) ++ k__20) ++ r2))))))))))))
  else
  Join (fun (x5 : ByteArray) =>
  j3 x5) (fun j5 =>
  if decide (y1.Kind = 2) then
  Chk (decide (k_scratch_20.size + y1.Who.size < 1073741824)) (
  Chk (decide ((k_scratch_20 ++ y1.Who).size + k__20.size < 1073741824)) (
  Chk (decide (((k_scratch_20 ++ y1.Who) ++ k__20).size + y1.Race.size < 1073741824)) (
  Chk (decide ((x1 ++ (((y1.Site ++ k__20) ++ r1) ++ k__20)).size + (((k_scratch_20 ++ y1.Who) ++ k__20) ++ y1.Race).size < 1073741824)) (
  j5 ((x1 ++ (((y1.Site ++ k__20) ++ r1) ++ k__20)) ++ (((k_scratch_20 ++ y1.Who) ++ k__20) ++ y1.Race))))))
  else
  Join (fun (x6 : ByteArray) =>
  j5 x6) (fun j6 =>
  if decide (y1.Kind = 3) then
  Chk (decide (k_swum_20.size + y1.Who.size < 1073741824)) (
  Chk (decide ((k_swum_20 ++ y1.Who).size + k__20.size < 1073741824)) (
  Chk (decide (((k_swum_20 ++ y1.Who) ++ k__20).size + y1.Race.size < 1073741824)) (
  Chk (decide ((((k_swum_20 ++ y1.Who) ++ k__20) ++ y1.Race).size + k__20.size < 1073741824)) (
  Option.bind (tumbref2_numbers [y1.Time, y1.Fault]) (fun r3 =>
  Chk (decide (((((k_swum_20 ++ y1.Who) ++ k__20) ++ y1.Race) ++ k__20).size + r3.size < 1073741824)) (
  Chk (decide ((x1 ++ (((y1.Site ++ k__20) ++ r1) ++ k__20)).size + (((((k_swum_20 ++ y1.Who) ++ k__20) ++ y1.Race) ++ k__20) ++ r3).size < 1073741824)) (
  j6 ((x1 ++ (((y1.Site ++ k__20) ++ r1) ++ k__20)) ++ (((((k_swum_20 ++ y1.Who) ++ k__20) ++ y1.Race) ++ k__20) ++ r3)))))))))
  else
  Chk (decide (k_undo_20.size + y1.Of.size < 1073741824)) (
  Chk (decide ((k_undo_20 ++ y1.Of).size + k__20.size < 1073741824)) (
  Option.bind (tumbref2_numbers [y1.Other]) (fun r4 =>
  Chk (decide (((k_undo_20 ++ y1.Of) ++ k__20).size + r4.size < 1073741824)) (
  Chk (decide ((x1 ++ (((y1.Site ++ k__20) ++ r1) ++ k__20)).size + (((k_undo_20 ++ y1.Of) ++ k__20) ++ r4).size < 1073741824)) (
  j6 ((x1 ++ (((y1.Site ++ k__20) ++ r1) ++ k__20)) ++ (((k_undo_20 ++ y1.Of) ++ k__20) ++ r4))))))))))))))))
def tumbref2_DeedLines (p_l : List GDeed) : Option ByteArray :=
  Join (fun (x1 : ByteArray) =>
  some x1) (fun j1 =>
  tumbref2_DeedLines_l1 j1 p_l 0 k_empty)
def Stream_Changed (p_s_L : List Int) (p_s_at : Int) (p_t : ByteArray) (p_with : ByteArray) : Option (ByteArray × Int) :=
  if ((decide (p_t = k_empty)) || (decide (p_with = k_empty))) then
  some (p_with, p_s_at)
  else
  Option.bind (Stream_Next p_s_L p_s_at (p_t.size : Int)) (fun r1 =>
  Option.bind (Stream_Next p_s_L r1.2 (p_with.size : Int)) (fun r2 =>
  Chk (inB r2.1 p_with.size) (
  Option.bind (Stream_Next p_s_L r2.2 3) (fun r3 =>
  if decide (r3.1 = 0) then
  Chk (cutB 0 r1.1 p_t.size) (
  Chk (decide ((scut p_t 0 r1.1).size + (Utf8.encode (IntKind.wrap .i32 (sbyte p_with r2.1))).size < 1073741824)) (
  Chk (cutB (W (r1.1 + 1)) (p_t.size : Int) p_t.size) (
  Chk (decide (((scut p_t 0 r1.1) ++ (Utf8.encode (IntKind.wrap .i32 (sbyte p_with r2.1)))).size + (scut p_t (W (r1.1 + 1)) p_t.size).size < 1073741824)) (
  some (((scut p_t 0 r1.1) ++ (Utf8.encode (IntKind.wrap .i32 (sbyte p_with r2.1)))) ++ (scut p_t (W (r1.1 + 1)) p_t.size), r3.2)))))
  else
  if decide (r3.1 = 1) then
  Chk (cutB 0 r1.1 p_t.size) (
  Chk (decide ((scut p_t 0 r1.1).size + (Utf8.encode (IntKind.wrap .i32 (sbyte p_with r2.1))).size < 1073741824)) (
  Chk (cutB r1.1 (p_t.size : Int) p_t.size) (
  Chk (decide (((scut p_t 0 r1.1) ++ (Utf8.encode (IntKind.wrap .i32 (sbyte p_with r2.1)))).size + (scut p_t r1.1 p_t.size).size < 1073741824)) (
  some (((scut p_t 0 r1.1) ++ (Utf8.encode (IntKind.wrap .i32 (sbyte p_with r2.1)))) ++ (scut p_t r1.1 p_t.size), r3.2)))))
  else
  Chk (cutB 0 r1.1 p_t.size) (
  Chk (cutB (W (r1.1 + 1)) (p_t.size : Int) p_t.size) (
  Chk (decide ((scut p_t 0 r1.1).size + (scut p_t (W (r1.1 + 1)) p_t.size).size < 1073741824)) (
  some ((scut p_t 0 r1.1) ++ (scut p_t (W (r1.1 + 1)) p_t.size), r3.2))))))))
def Stream_DeedText_l1 (r4 : Int × Int) (p_s_L : List Int) (j1 : Int → ByteArray → Option (ByteArray × Int)) : Nat → Int → ByteArray → Int → Option (ByteArray × Int)
  | 0, _, _, _ => none
  | m1 + 1, x1, x2, x3 => if decide (x3 < r4.1) then
  Option.bind (Stream_Changed p_s_L x1 x2 k__20_0a0_2d9sra) (fun r5 =>
  Stream_DeedText_l1 r4 p_s_L j1 m1 r5.2 r5.1 (W (x3 + 1)))
  else
  j1 x1 x2
def Stream_DeedText (p_s_L : List Int) (p_s_at : Int) : Option (ByteArray × Int) :=
  Option.bind (Stream_Range p_s_L p_s_at 0 4) (fun r1 =>
  Option.bind (Stream_RightDeeds p_s_L r1.2 r1.1) (fun r2 =>
  Option.bind (tumbref2_DeedLines r2.1) (fun r3 =>
  Option.bind (Stream_Pick p_s_L r2.2 [0, 0, 1, 2]) (fun r4 =>
  Join (fun (x1 : Int) (x2 : ByteArray) =>
  some (x2, x1)) (fun j1 =>
  Stream_DeedText_l1 r4 p_s_L j1 ((r4.1 - 0).toNat + 2) r4.2 r3 0)))))
def strings_Trim (s c : ByteArray) : Option ByteArray :=
  Chk (decide (s.size ≤ 9223372036854775807)) (Chk (decide (c.size < 4294967281)) (Chk (c.data.toList.all fun b => decide (b.toNat < 128)) (some ⟨(Lib.trimS s.data.toList c.data.toList).toArray⟩)))
def words_IsKey (p_s : ByteArray) : Option Bool :=
  Join (fun (c1 : Bool) =>
  Join (fun (c2 : Bool) =>
  Join (fun (c3 : Bool) =>
  some c3) (fun j3 =>
  if c2 then Option.bind (strings_Trim p_s k_abcdefghijkl_h0e2e2c) (fun r1 =>
  j3 (c2 && (decide (r1 = k_empty)))) else j3 (c2 && true))) (fun j2 =>
  if c1 then Chk (inB 0 p_s.size) (
  j2 (c1 && (decide ((sbyte p_s 0) ≤ 122)))) else j2 (c1 && true))) (fun j1 =>
  if ((decide (1 ≤ (p_s.size : Int))) && (decide ((p_s.size : Int) ≤ 40))) then Chk (inB 0 p_s.size) (
  j1 (((decide (1 ≤ (p_s.size : Int))) && (decide ((p_s.size : Int) ≤ 40))) && (decide (97 ≤ (sbyte p_s 0))))) else j1 (((decide (1 ≤ (p_s.size : Int))) && (decide ((p_s.size : Int) ≤ 40))) && true))
def words_Within (p_n : Int) (p_low : Int) (p_high : Int) : Bool :=
  ((decide (p_low ≤ p_n)) && (decide (p_n ≤ p_high)))
def words_IsMoment (p_n : Int) : Bool :=
  ((decide (0 ≤ p_n)) && (decide (p_n < 345686400000)))
def meet_checkDeed (p_x : GDeed) : Option Int :=
  Option.bind (words_IsKey p_x.Site) (fun r1 =>
  if !r1 then
  some 5
  else
  if ((!(words_Within p_x.No 1 1000000)) || (!(words_IsMoment p_x.At))) then
  some 1
  else
  if !(words_Within p_x.Kind 1 4) then
  some 4
  else
  Join (fun (c1 : Bool) =>
  Join (fun (x1 : Bool) =>
  if x1 then
  some 5
  else
  Join (fun (x2 : Bool) =>
  if x2 then
  some 1
  else
  Join (fun (c4 : Bool) =>
  if c4 then
  some 5
  else
  if ((decide (p_x.Kind = 4)) && (!(words_Within p_x.Other 1 1000000))) then
  some 1
  else
  Join (fun (x3 : ByteArray) (x4 : ByteArray) (x5 : ByteArray) (x6 : Int) (x7 : Int) (x8 : ByteArray) (x9 : Int) =>
  if !decide (p_x = (GDeed.mk p_x.Site p_x.No p_x.At p_x.Kind x3 x4 x5 x6 x7 x8 x9)) then
  some 3
  else
  some 0) (fun j7 =>
  Join (fun (x10 : ByteArray) (x11 : ByteArray) (x12 : ByteArray) (x13 : Int) (x14 : Int) (x15 : ByteArray) (x16 : Int) =>
  j7 x10 x11 x12 x13 x14 x15 x16) (fun j8 =>
  if decide (p_x.Kind = 1) then
  j8 p_x.Who p_x.Club p_x.Race p_x.Time 0 k_empty 0
  else
  Join (fun (x17 : ByteArray) (x18 : ByteArray) (x19 : Int) (x20 : Int) (x21 : ByteArray) (x22 : Int) =>
  j8 x17 k_empty x18 x19 x20 x21 x22) (fun j9 =>
  if decide (p_x.Kind = 3) then
  j9 p_x.Who p_x.Race p_x.Time p_x.Fault k_empty 0
  else
  Join (fun (x23 : ByteArray) (x24 : ByteArray) (x25 : ByteArray) (x26 : Int) =>
  j9 x23 x24 0 0 x25 x26) (fun j10 =>
  if decide (p_x.Kind = 4) then
  j10 k_empty k_empty p_x.Of p_x.Other
  else
  j10 p_x.Who p_x.Race k_empty 0))))) (fun j6 =>
  if (decide (p_x.Kind = 4)) then Option.bind (words_IsKey p_x.Of) (fun r5 =>
  j6 ((decide (p_x.Kind = 4)) && (!r5))) else j6 ((decide (p_x.Kind = 4)) && true))) (fun j5 =>
  if (((decide (p_x.Kind = 1)) || (decide (p_x.Kind = 3))) && (!(words_Within p_x.Time 0 360000))) then
  j5 (((decide (p_x.Kind = 1)) || (decide (p_x.Kind = 3))) && (!(words_Within p_x.Time 0 360000)))
  else
  j5 ((decide (p_x.Kind = 3)) && (!(words_Within p_x.Fault 0 8))))) (fun j3 =>
  if c1 then
  j3 c1
  else
  Join (fun (c3 : Bool) =>
  j3 c3) (fun j4 =>
  if ((decide (p_x.Kind = 1)) && (!decide (p_x.Club = k_empty))) then Option.bind (words_IsKey p_x.Club) (fun r4 =>
  j4 (((decide (p_x.Kind = 1)) && (!decide (p_x.Club = k_empty))) && (!r4))) else j4 (((decide (p_x.Kind = 1)) && (!decide (p_x.Club = k_empty))) && true)))) (fun j1 =>
  if (!(decide (p_x.Kind = 4))) then Option.bind (words_IsKey p_x.Who) (fun r2 =>
  Join (fun (c2 : Bool) =>
  j1 ((!(decide (p_x.Kind = 4))) && c2)) (fun j2 =>
  if (!r2) then j2 ((!r2) || true) else Option.bind (words_IsKey p_x.Race) (fun r3 =>
  j2 ((!r2) || (!r3))))) else j1 ((!(decide (p_x.Kind = 4))) && true)))
def cmp_isNaN_int (p_x : Int) : Bool :=
  !decide (p_x = p_x)
def cmp_Compare_int (p_x : Int) (p_y : Int) : Int :=
  if (cmp_isNaN_int p_x) then
  if (cmp_isNaN_int p_y) then
  0
  else
  (-1)
  else
  if (cmp_isNaN_int p_y) then
  1
  else
  if decide (p_x < p_y) then
  (-1)
  else
  if decide (p_y < p_x) then
  1
  else
  0
def cmp_Or_int_l1 (j1 : Int) : List Int → Nat → Int
  | [], _ => j1
  | y1 :: ys1, i1 => if !decide (y1 = 0) then
  y1
  else
  cmp_Or_int_l1 j1 ys1 (i1 + 1)
def cmp_Or_int (p_vals : List Int) : Int :=
  Join (0) (fun j1 =>
  cmp_Or_int_l1 j1 p_vals 0)
def meet_compare (p_a : GDeed) (p_b : GDeed) : Int :=
  (cmp_Or_int [(cmp_Compare_int p_a.At p_b.At), (strings_Compare p_a.Site p_b.Site), (cmp_Compare_int p_a.No p_b.No)])
def meet_placeOf (p_x : GDeed) : Gmeet_place :=
  (Gmeet_place.mk p_x.Site p_x.No)
def meet_CheckDeeds_l1 (p_l : List GDeed) (j1 : (List (Gmeet_place × Bool)) → Bool → Option Int) : List GDeed → Nat → (List (Gmeet_place × Bool)) → Bool → Option Int
  | [], _, x1, x2 => j1 x1 x2
  | y1 :: ys1, i1, x1, x2 => Option.bind (meet_checkDeed y1) (fun r1 =>
  if !decide (r1 = 0) then
  some r1
  else
  Join (fun (x3 : Bool) =>
  if x3 then
  some 7
  else
  meet_CheckDeeds_l1 p_l j1 ys1 (i1 + 1) (mput x1 (meet_placeOf y1) true) (x2 || (mgetD x1 (meet_placeOf y1) false))) (fun j2 =>
  if decide (0 < (i1 : Int)) then
  Chk (inB (W ((i1 : Int) - 1)) p_l.length) (
  j2 (decide (0 ≤ (meet_compare (nth p_l (W ((i1 : Int) - 1))) y1))))
  else
  j2 false))
def meet_CheckDeeds (p_l : List GDeed) : Option Int :=
  if decide (2000 < (p_l.length : Int)) then
  some 2
  else
  Join (fun (x1 : List (Gmeet_place × Bool)) (x2 : Bool) =>
  if x2 then
  some 6
  else
  some 0) (fun j1 =>
  meet_CheckDeeds_l1 p_l j1 p_l 0 ([] : List (Gmeet_place × Bool)) false)
def meet_kinds : (List ByteArray) :=
  ([k_enter, k_scratch, k_swum, k_undo] : List ByteArray)
def words_Dash (p_s : ByteArray) : ByteArray :=
  if decide (p_s = k_empty) then
  k__2d
  else
  p_s
def meet_Text_l1 (j1 : ByteArray → Bool → Option (ByteArray × Int)) : List GDeed → Nat → ByteArray → Bool → Option (ByteArray × Int)
  | [], _, x1, x2 => j1 x1 x2
  | y1 :: ys1, i1, x1, _ => Option.bind (strconv_Itoa y1.No) (fun r2 =>
  Option.bind (strconv_Itoa y1.At) (fun r3 =>
  Chk (inB (W (y1.Kind - 1)) meet_kinds.length) (
  Join (fun (x3 : List ByteArray) =>
  Option.bind (strings_Join x3 k__20) (fun r8 =>
  Chk (decide (r8.size + k__0a.size < 1073741824)) (
  Chk (decide (x1.size + (r8 ++ k__0a).size ≤ 140737488355328)) (
  meet_Text_l1 j1 ys1 (i1 + 1) (x1 ++ (r8 ++ k__0a)) true)))) (fun j2 =>
  Join (fun (x4 : List ByteArray) =>
  j2 x4) (fun j3 =>
  if decide (y1.Kind = 1) then
  Option.bind (strconv_Itoa y1.Time) (fun r4 =>
  Chk (room ([y1.Site, r2, r3, (nth meet_kinds (W (y1.Kind - 1)))] : List ByteArray).length) (
  j3 (([y1.Site, r2, r3, (nth meet_kinds (W (y1.Kind - 1)))] : List ByteArray) ++ [y1.Who, (words_Dash y1.Club), y1.Race, r4])))
  else
  Join (fun (x5 : List ByteArray) =>
  j3 x5) (fun j4 =>
  if decide (y1.Kind = 2) then
  Chk (room ([y1.Site, r2, r3, (nth meet_kinds (W (y1.Kind - 1)))] : List ByteArray).length) (
  j4 (([y1.Site, r2, r3, (nth meet_kinds (W (y1.Kind - 1)))] : List ByteArray) ++ [y1.Who, y1.Race]))
  else
  Join (fun (x6 : List ByteArray) =>
  j4 x6) (fun j5 =>
  if decide (y1.Kind = 3) then
  Option.bind (strconv_Itoa y1.Time) (fun r5 =>
  Option.bind (strconv_Itoa y1.Fault) (fun r6 =>
  Chk (room ([y1.Site, r2, r3, (nth meet_kinds (W (y1.Kind - 1)))] : List ByteArray).length) (
  j5 (([y1.Site, r2, r3, (nth meet_kinds (W (y1.Kind - 1)))] : List ByteArray) ++ [y1.Who, y1.Race, r5, r6]))))
  else
  Join (fun (x7 : List ByteArray) =>
  j5 x7) (fun j6 =>
  if decide (y1.Kind = 4) then
  Option.bind (strconv_Itoa y1.Other) (fun r7 =>
  Chk (room ([y1.Site, r2, r3, (nth meet_kinds (W (y1.Kind - 1)))] : List ByteArray).length) (
  j6 (([y1.Site, r2, r3, (nth meet_kinds (W (y1.Kind - 1)))] : List ByteArray) ++ [y1.Of, r7])))
  else
  j6 ([y1.Site, r2, r3, (nth meet_kinds (W (y1.Kind - 1)))] : List ByteArray)))))))))
def meet_Text (p_l : List GDeed) : Option (ByteArray × Int) :=
  Option.bind (meet_CheckDeeds p_l) (fun r1 =>
  if !decide (r1 = 0) then
  some (k_empty, r1)
  else
  Join (fun (x1 : ByteArray) (x2 : Bool) =>
  if decide (200000 < (x1.size : Int)) then
  some (k_empty, 2)
  else
  some (x1, 0)) (fun j1 =>
  meet_Text_l1 j1 p_l 0 ByteArray.empty false))
def strings_Cut (s : ByteArray) (sep : ByteArray) : Option (ByteArray × ByteArray × Bool) :=
  Chk (decide (s.size < 4294967281)) (some ((⟨(Lib.cut s.data.toList sep.data.toList).1.toArray⟩, ⟨(Lib.cut s.data.toList sep.data.toList).2.1.toArray⟩, (Lib.cut s.data.toList sep.data.toList).2.2)))
def strings_Split (s : ByteArray) (sep : ByteArray) : Option (List ByteArray) :=
  Chk (decide (s.size < 4294967281) && decide (1 ≤ sep.size)) (some (Lib.splitB sep 0 (Lib.countB s sep) s))
def words_Split_l1 (j1 : Option ((List ByteArray) × Bool)) : List ByteArray → Nat → Option ((List ByteArray) × Bool)
  | [], _ => j1
  | y1 :: ys1, i1 => if decide (y1 = k_empty) then
  some (([] : List ByteArray), false)
  else
  words_Split_l1 j1 ys1 (i1 + 1)
def words_Split (p_line : ByteArray) : Option ((List ByteArray) × Bool) :=
  Option.bind (strings_Split p_line k__20) (fun r1 =>
  Join (some (r1, true)) (fun j1 =>
  words_Split_l1 j1 r1 0))
def strings_CutPrefix (s : ByteArray) (p : ByteArray) : ByteArray × Bool :=
  (⟨(Lib.trimPrefix s.data.toList p.data.toList).toArray⟩, Lib.hasPrefix s.data.toList p.data.toList)
def strconv_Atoi (s : ByteArray) : Option Int :=
  Chk (decide (s.size ≤ 18)) (Lib.atoi s.data.toList)
def words_Number (p_s : ByteArray) (p_most : Int) : Option (Int × Bool) :=
  Join (fun (c1 : Bool) =>
  Join (fun (c2 : Bool) =>
  if c2 then
  some (0, false)
  else
  Option.bind (strconv_Atoi p_s) (fun r2 =>
  some (r2, true))) (fun j2 =>
  if c1 then j2 (c1 || true) else Chk (inB 0 ((strings_CutPrefix p_s k__2d).1).size) (
  j2 (c1 || ((decide ((sbyte ((strings_CutPrefix p_s k__2d).1) 0) = 48)) && ((!decide (((strings_CutPrefix p_s k__2d).1) = k_0)) || ((strings_CutPrefix p_s k__2d).2))))))) (fun j1 =>
  if ((decide (((strings_CutPrefix p_s k__2d).1) = k_empty)) || (decide (p_most < (((strings_CutPrefix p_s k__2d).1).size : Int)))) then j1 (((decide (((strings_CutPrefix p_s k__2d).1) = k_empty)) || (decide (p_most < (((strings_CutPrefix p_s k__2d).1).size : Int)))) || true) else Option.bind (strings_Trim ((strings_CutPrefix p_s k__2d).1) k_0123456789) (fun r1 =>
  j1 (((decide (((strings_CutPrefix p_s k__2d).1) = k_empty)) || (decide (p_most < (((strings_CutPrefix p_s k__2d).1).size : Int)))) || (!decide (r1 = k_empty)))))
def words_Numbers_l1 (p_most : Int) (j1 : (List Int) → Option ((List Int) × Bool)) : List ByteArray → Nat → (List Int) → Option ((List Int) × Bool)
  | [], _, x1 => j1 x1
  | y1 :: ys1, i1, x1 => Option.bind (words_Number y1 p_most) (fun r1 =>
  if !r1.2 then
  some (([] : List Int), false)
  else
  Chk (room x1.length) (
  words_Numbers_l1 p_most j1 ys1 (i1 + 1) (x1 ++ [r1.1])))
def words_Numbers (p_l : List ByteArray) (p_most : Int) : Option ((List Int) × Bool) :=
  Join (fun (x1 : List Int) =>
  some (x1, true)) (fun j1 =>
  words_Numbers_l1 p_most j1 p_l 0 ([] : List Int))
def slices_Index_string_l1 (p_v : ByteArray) (j1 : Int) : List ByteArray → Nat → Int
  | [], _ => j1
  | y1 :: ys1, i1 => if decide (p_v = y1) then
  (i1 : Int)
  else
  slices_Index_string_l1 p_v j1 ys1 (i1 + 1)
def slices_Index_string (p_s : List ByteArray) (p_v : ByteArray) : Int :=
  Join ((-1)) (fun j1 =>
  slices_Index_string_l1 p_v j1 p_s 0)
def words_Undash (p_s : ByteArray) : ByteArray :=
  if decide (p_s = k__2d) then
  k_empty
  else
  p_s
def meet_readRest (p_x_Site : ByteArray) (p_x_No : Int) (p_x_At : Int) (p_x_Kind : Int) (p_x_Who : ByteArray) (p_x_Club : ByteArray) (p_x_Race : ByteArray) (p_x_Time : Int) (p_x_Fault : Int) (p_x_Of : ByteArray) (p_x_Other : Int) (p_w : List ByteArray) : Option (Bool × ByteArray × ByteArray × ByteArray × Int × Int × ByteArray × Int) :=
  if ((decide (p_x_Kind = 1)) && (decide ((p_w.length : Int) = 4))) then
  Chk (inB 3 p_w.length) (
  Option.bind (words_Number (nth p_w 3) 15) (fun r1 =>
  Chk (inB 0 p_w.length) (
  Chk (inB 1 p_w.length) (
  Chk (inB 2 p_w.length) (
  some (r1.2, (nth p_w 0), (words_Undash (nth p_w 1)), (nth p_w 2), r1.1, p_x_Fault, p_x_Of, p_x_Other))))))
  else
  if ((decide (p_x_Kind = 2)) && (decide ((p_w.length : Int) = 2))) then
  Chk (inB 0 p_w.length) (
  Chk (inB 1 p_w.length) (
  some (true, (nth p_w 0), p_x_Club, (nth p_w 1), p_x_Time, p_x_Fault, p_x_Of, p_x_Other)))
  else
  if ((decide (p_x_Kind = 3)) && (decide ((p_w.length : Int) = 4))) then
  Chk (cutB 2 (p_w.length : Int) p_w.length) (
  Option.bind (words_Numbers (cut p_w 2 p_w.length) 15) (fun r2 =>
  if !r2.2 then
  some (false, p_x_Who, p_x_Club, p_x_Race, p_x_Time, p_x_Fault, p_x_Of, p_x_Other)
  else
  Chk (inB 0 p_w.length) (
  Chk (inB 1 p_w.length) (
  Chk (inB 0 r2.1.length) (
  Chk (inB 1 r2.1.length) (
  some (true, (nth p_w 0), p_x_Club, (nth p_w 1), (nth r2.1 0), (nth r2.1 1), p_x_Of, p_x_Other)))))))
  else
  if ((decide (p_x_Kind = 4)) && (decide ((p_w.length : Int) = 2))) then
  Chk (inB 1 p_w.length) (
  Option.bind (words_Number (nth p_w 1) 15) (fun r3 =>
  Chk (inB 0 p_w.length) (
  some (r3.2, p_x_Who, p_x_Club, p_x_Race, p_x_Time, p_x_Fault, (nth p_w 0), r3.1))))
  else
  some (false, p_x_Who, p_x_Club, p_x_Race, p_x_Time, p_x_Fault, p_x_Of, p_x_Other)
def meet_Read_c1 (p_line : ByteArray) (p_a1 : List GDeed) : Option (Bool × (List GDeed)) :=
  Option.bind (words_Split p_line) (fun r1 =>
  if ((!r1.2) || (decide ((r1.1.length : Int) < 4))) then
  some (false, p_a1)
  else
  Chk (cutB 1 3 r1.1.length) (
  Option.bind (words_Numbers (cut r1.1 1 3) 15) (fun r2 =>
  if !r2.2 then
  some (false, p_a1)
  else
  Join (Chk (cutB 4 (r1.1.length : Int) r1.1.length) (
  Option.bind (meet_readRest (nth r1.1 0) (nth r2.1 0) (nth r2.1 1) (W ((slices_Index_string meet_kinds (nth r1.1 3)) + 1)) k_empty k_empty k_empty 0 0 k_empty 0 (cut r1.1 4 r1.1.length)) (fun r3 =>
  Chk (room p_a1.length) (
  some (r3.1, (p_a1 ++ [(GDeed.mk (nth r1.1 0) (nth r2.1 0) (nth r2.1 1) (W ((slices_Index_string meet_kinds (nth r1.1 3)) + 1)) r3.2.1 r3.2.2.1 r3.2.2.2.1 r3.2.2.2.2.1 r3.2.2.2.2.2.1 r3.2.2.2.2.2.2.1 r3.2.2.2.2.2.2.2)])))))) (fun j1 =>
  Chk (inB 0 r1.1.length) (
  Chk (inB 0 r2.1.length) (
  Chk (inB 1 r2.1.length) (
  Chk (inB 3 r1.1.length) (
  j1))))))))
def words_Lines_meet_Read_c1_l1 (j1 : (List GDeed) → Option (Int × Bool × (List GDeed))) : Nat → (List GDeed) → ByteArray → Int → Option (Int × Bool × (List GDeed))
  | 0, _, _, _ => none
  | m1 + 1, x1, x2, x3 => if !decide (x2 = k_empty) then
  Option.bind (strings_Cut x2 k__0a) (fun r1 =>
  Join (fun (x4 : List GDeed) (x5 : Bool) =>
  if x5 then
  some (x3, false, x4)
  else
  words_Lines_meet_Read_c1_l1 j1 m1 x4 r1.2.1 (W (x3 + 1))) (fun j2 =>
  if (!r1.2.2) then
  j2 x1 true
  else
  Option.bind (meet_Read_c1 r1.1 x1) (fun r2 =>
  j2 r2.2 (!r2.1))))
  else
  j1 x1
def words_Lines_meet_Read_c1 (p_text : ByteArray) (p_take_0 : List GDeed) : Option (Int × Bool × (List GDeed)) :=
  Join (fun (x1 : List GDeed) =>
  some (0, true, x1)) (fun j1 =>
  words_Lines_meet_Read_c1_l1 j1 4611686018427387904 p_take_0 p_text 0)
def meet_Read (p_text : ByteArray) : Option ((List GDeed) × Int × Int) :=
  if decide (200000 < (p_text.size : Int)) then
  some (([] : List GDeed), 0, 2)
  else
  Option.bind (words_Lines_meet_Read_c1 p_text ([] : List GDeed)) (fun r1 =>
  if !r1.2.1 then
  some (([] : List GDeed), r1.1, 9)
  else
  Option.bind (meet_CheckDeeds r1.2.2) (fun r2 =>
  if !decide (r2 = 0) then
  some (([] : List GDeed), 0, r2)
  else
  some (r1.2.2, 0, 0)))
def slices_Contains_string (p_s : List ByteArray) (p_v : ByteArray) : Bool :=
  decide (0 ≤ (slices_Index_string p_s p_v))
def tumbref2_Words (p_line : ByteArray) : Option ((List ByteArray) × Bool) :=
  Option.bind (strings_Split p_line k__20) (fun r1 =>
  some (r1, !(slices_Contains_string r1 k_empty)))
def strings_TrimPrefix (s : ByteArray) (p : ByteArray) : ByteArray :=
  ⟨(Lib.trimPrefix s.data.toList p.data.toList).toArray⟩
def tumbref2_Number (p_s : ByteArray) (p_most : Int) : Option (Int × Bool) :=
  Join (fun (c1 : Bool) =>
  if c1 then
  some (0, false)
  else
  Option.bind (strconv_Atoi p_s) (fun r2 =>
  Join (fun (c2 : Bool) =>
  some (r2, c2)) (fun j2 =>
  if true then Option.bind (strconv_Itoa r2) (fun r3 =>
  j2 (true && (decide (r3 = p_s)))) else j2 (true && true)))) (fun j1 =>
  if ((decide ((strings_TrimPrefix p_s k__2d) = k_empty)) || (decide (p_most < ((strings_TrimPrefix p_s k__2d).size : Int)))) then j1 (((decide ((strings_TrimPrefix p_s k__2d) = k_empty)) || (decide (p_most < ((strings_TrimPrefix p_s k__2d).size : Int)))) || true) else Option.bind (tumbref2_only (strings_TrimPrefix p_s k__2d) k_0123456789) (fun r1 =>
  j1 (((decide ((strings_TrimPrefix p_s k__2d) = k_empty)) || (decide (p_most < ((strings_TrimPrefix p_s k__2d).size : Int)))) || (!r1))))
def tumbref2_numbersIn_l1 (p_most : Int) (j1 : (List Int) → Bool → Option ((List Int) × Bool)) : List ByteArray → Nat → (List Int) → Bool → Option ((List Int) × Bool)
  | [], _, x1, x2 => j1 x1 x2
  | y1 :: ys1, i1, x1, x2 => Option.bind (tumbref2_Number y1 p_most) (fun r1 =>
  Chk (room x1.length) (
  tumbref2_numbersIn_l1 p_most j1 ys1 (i1 + 1) (x1 ++ [r1.1]) (x2 && r1.2)))
def tumbref2_numbersIn (p_l : List ByteArray) (p_most : Int) : Option ((List Int) × Bool) :=
  Join (fun (x1 : List Int) (x2 : Bool) =>
  some (x1, x2)) (fun j1 =>
  tumbref2_numbersIn_l1 p_most j1 p_l 0 ([] : List Int) true)
def tumbref2_undash (p_s : ByteArray) : ByteArray :=
  if decide (p_s = k__2d) then
  k_empty
  else
  p_s
def tumbref2_DeedsRead_c1 (p_line : ByteArray) (p_a1 : List GDeed) : Option (Bool × (List GDeed)) :=
  Option.bind (tumbref2_Words p_line) (fun r1 =>
  if ((!r1.2) || (decide ((r1.1.length : Int) < 6))) then
  some (false, p_a1)
  else
  Chk (cutB 1 3 r1.1.length) (
  Option.bind (tumbref2_numbersIn (cut r1.1 1 3) 15) (fun r2 =>
  Chk (inB 0 r1.1.length) (
  Chk (inB 0 r2.1.length) (
  Chk (inB 1 r2.1.length) (
  Chk (inB 3 r1.1.length) (
  if !decide ((r1.1.length : Int) = (mgetD (mput (mput (mput (mput ([] : List (ByteArray × Int)) k_enter 8) k_scratch 6) k_swum 8) k_undo 6) (nth r1.1 3) 0)) then
  some (false, p_a1)
  else
  Chk (inB 3 r1.1.length) (
  Join (fun (x1 : Int) (x2 : ByteArray) (x3 : ByteArray) (x4 : ByteArray) (x5 : Int) (x6 : Int) (x7 : ByteArray) (x8 : Int) (x9 : Bool) =>
  Chk (room p_a1.length) (
  some ((r2.2 && x9), (p_a1 ++ [(GDeed.mk (nth r1.1 0) (nth r2.1 0) (nth r2.1 1) x1 x2 x3 x4 x5 x6 x7 x8)])))) (fun j1 =>
  Join (fun (x10 : Int) (x11 : ByteArray) (x12 : ByteArray) (x13 : ByteArray) (x14 : Int) (x15 : Int) (x16 : ByteArray) (x17 : Int) (x18 : Bool) =>
  j1 x10 x11 x12 x13 x14 x15 x16 x17 x18) (fun j2 =>
  if decide ((nth r1.1 3) = k_enter) then
  Chk (cutB 7 (r1.1.length : Int) r1.1.length) (
  Option.bind (tumbref2_numbersIn (cut r1.1 7 r1.1.length) 15) (fun r3 =>
  Chk (inB 4 r1.1.length) (
  Chk (inB 5 r1.1.length) (
  Chk (inB 6 r1.1.length) (
  Chk (inB 0 r3.1.length) (
  j2 1 (nth r1.1 4) (tumbref2_undash (nth r1.1 5)) (nth r1.1 6) (nth r3.1 0) 0 k_empty 0 r3.2))))))
  else
  Join (fun (x19 : Int) (x20 : ByteArray) (x21 : ByteArray) (x22 : Int) (x23 : Int) (x24 : ByteArray) (x25 : Int) (x26 : Bool) =>
  j2 x19 x20 k_empty x21 x22 x23 x24 x25 x26) (fun j3 =>
  if decide ((nth r1.1 3) = k_scratch) then
  Chk (inB 4 r1.1.length) (
  Chk (inB 5 r1.1.length) (
  j3 2 (nth r1.1 4) (nth r1.1 5) 0 0 k_empty 0 true))
  else
  Join (fun (x27 : Int) (x28 : ByteArray) (x29 : ByteArray) (x30 : Int) (x31 : Int) (x32 : ByteArray) (x33 : Int) (x34 : Bool) =>
  j3 x27 x28 x29 x30 x31 x32 x33 x34) (fun j4 =>
  if decide ((nth r1.1 3) = k_swum) then
  Chk (cutB 6 (r1.1.length : Int) r1.1.length) (
  Option.bind (tumbref2_numbersIn (cut r1.1 6 r1.1.length) 15) (fun r4 =>
  Chk (inB 4 r1.1.length) (
  Chk (inB 5 r1.1.length) (
  Chk (inB 0 r4.1.length) (
  Chk (inB 1 r4.1.length) (
  j4 3 (nth r1.1 4) (nth r1.1 5) (nth r4.1 0) (nth r4.1 1) k_empty 0 r4.2))))))
  else
  Chk (cutB 5 (r1.1.length : Int) r1.1.length) (
  Option.bind (tumbref2_numbersIn (cut r1.1 5 r1.1.length) 15) (fun r5 =>
  Chk (inB 4 r1.1.length) (
  Chk (inB 0 r5.1.length) (
  j4 4 k_empty k_empty 0 0 (nth r1.1 4) (nth r5.1 0) r5.2))))))))))))))))
def tumbref2_Lines_tumbref2_DeedsRead_c1_l1 (j1 : (List GDeed) → Option (Int × Bool × (List GDeed))) : Nat → (List GDeed) → ByteArray → Int → Option (Int × Bool × (List GDeed))
  | 0, _, _, _ => none
  | m1 + 1, x1, x2, x3 => if !decide (x2 = k_empty) then
  Option.bind (strings_Cut x2 k__0a) (fun r1 =>
  Join (fun (x4 : List GDeed) (x5 : Bool) =>
  if x5 then
  some (x3, false, x4)
  else
  tumbref2_Lines_tumbref2_DeedsRead_c1_l1 j1 m1 x4 r1.2.1 (W (x3 + 1))) (fun j2 =>
  if (!r1.2.2) then
  j2 x1 true
  else
  Option.bind (tumbref2_DeedsRead_c1 r1.1 x1) (fun r2 =>
  j2 r2.2 (!r2.1))))
  else
  j1 x1
def tumbref2_Lines_tumbref2_DeedsRead_c1 (p_text : ByteArray) (p_take_0 : List GDeed) : Option (Int × Bool × (List GDeed)) :=
  Join (fun (x1 : List GDeed) =>
  some (0, true, x1)) (fun j1 =>
  tumbref2_Lines_tumbref2_DeedsRead_c1_l1 j1 4611686018427387904 p_take_0 p_text 0)
def tumbref2_DeedsRead (p_text : ByteArray) : Option ((List GDeed) × Int × Int) :=
  if decide (200000 < (p_text.size : Int)) then
  some (([] : List GDeed), 0, 2)
  else
  Option.bind (tumbref2_Lines_tumbref2_DeedsRead_c1 p_text ([] : List GDeed)) (fun r1 =>
  if !r1.2.1 then
  some (([] : List GDeed), r1.1, 9)
  else
  Option.bind (tumbref2_DeedsFault r1.2.2) (fun r2 =>
  if !decide (r2 = 0) then
  some (([] : List GDeed), 0, r2)
  else
  some (r1.2.2, 0, 0)))
def slices_Equal_Deed_l1 (p_s2 : List GDeed) (j1 : Option Bool) : List GDeed → Nat → Option Bool
  | [], _ => j1
  | y1 :: ys1, i1 => Chk (inB (i1 : Int) p_s2.length) (
  if !decide (y1 = (nth p_s2 (i1 : Int))) then
  some false
  else
  slices_Equal_Deed_l1 p_s2 j1 ys1 (i1 + 1))
def slices_Equal_Deed (p_s1 : List GDeed) (p_s2 : List GDeed) : Option Bool :=
  if !decide ((p_s1.length : Int) = (p_s2.length : Int)) then
  some false
  else
  Join (some true) (fun j1 =>
  slices_Equal_Deed_l1 p_s2 j1 p_s1 0)
def timing_CheckRace (p_r : GRace) : Option Int :=
  Option.bind (words_IsKey p_r.Key) (fun r1 =>
  if !r1 then
  some 5
  else
  if ((!(words_Within p_r.Stroke 1 5)) || (!(words_Within p_r.Sex 0 2))) then
  some 4
  else
  if (((((((!decide (p_r.Course = 25)) && (!decide (p_r.Course = 50))) || (!(words_Within p_r.Legs 1 4))) || (!(words_Within p_r.Metres 25 1500))) || (decide (p_r.Young < 0))) || (decide (p_r.Old < p_r.Young))) || (decide (120 < p_r.Old))) then
  some 1
  else
  Chk (!decide (p_r.Course = 0)) (
  if !decide ((Int.tmod p_r.Metres p_r.Course) = 0) then
  some 3
  else
  Join (fun (c1 : Bool) =>
  Join (fun (x1 : Bool) =>
  if x1 then
  some 16
  else
  some 0) (fun j2 =>
  if c1 then
  j2 c1
  else
  j2 (((decide (p_r.Stroke = 5)) && (decide (1 < p_r.Legs))) && (!decide (p_r.Legs = 4))))) (fun j1 =>
  if ((decide (p_r.Stroke = 5)) && (decide (p_r.Legs = 1))) then Chk (!decide ((W (4 * p_r.Course)) = 0)) (
  j1 (((decide (p_r.Stroke = 5)) && (decide (p_r.Legs = 1))) && (!decide ((Int.tmod p_r.Metres (W (4 * p_r.Course))) = 0)))) else j1 (((decide (p_r.Stroke = 5)) && (decide (p_r.Legs = 1))) && true))))
def meet_CheckPlan_c1 (p_x : GRace) (p_a1 : GRace) : Bool :=
  decide (p_x.Key = p_a1.Key)
def slices_IndexFunc_Race_meet_CheckPlan_c1_l1 (p_f_0 : GRace) (j1 : Int) : List GRace → Nat → Int
  | [], _ => j1
  | y1 :: ys1, i1 => if (meet_CheckPlan_c1 y1 p_f_0) then
  (i1 : Int)
  else
  slices_IndexFunc_Race_meet_CheckPlan_c1_l1 p_f_0 j1 ys1 (i1 + 1)
def slices_IndexFunc_Race_meet_CheckPlan_c1 (p_s : List GRace) (p_f_0 : GRace) : Int :=
  Join ((-1)) (fun j1 =>
  slices_IndexFunc_Race_meet_CheckPlan_c1_l1 p_f_0 j1 p_s 0)
def slices_ContainsFunc_Race_meet_CheckPlan_c1 (p_s : List GRace) (p_f_0 : GRace) : Bool :=
  decide (0 ≤ (slices_IndexFunc_Race_meet_CheckPlan_c1 p_s p_f_0))
def points_CheckTable_l1 (p_t : GTable) (j1 : Option Int) : List Int → Nat → Option Int
  | [], _ => j1
  | y1 :: ys1, i1 => if !(words_Within y1 0 10000) then
  some 1
  else
  Join (fun (c1 : Bool) =>
  if c1 then
  some 7
  else
  points_CheckTable_l1 p_t j1 ys1 (i1 + 1)) (fun j2 =>
  if (decide (0 < (i1 : Int))) then Chk (inB (W ((i1 : Int) - 1)) p_t.Points.length) (
  j2 ((decide (0 < (i1 : Int))) && (decide ((nth p_t.Points (W ((i1 : Int) - 1))) < y1)))) else j2 ((decide (0 < (i1 : Int))) && true))
def points_CheckTable (p_t : GTable) : Option Int :=
  if decide (40 < (p_t.Points.length : Int)) then
  some 2
  else
  Join (if ((!(words_Within p_t.Relay 1 10)) || (!(words_Within p_t.Most 0 10))) then
  some 1
  else
  some 0) (fun j1 =>
  points_CheckTable_l1 p_t j1 p_t.Points 0)
def heat_CheckFinal (p_f : GFinal) : Int :=
  if (((!(words_Within p_f.Size 1 10)) || (!(words_Within p_f.Many 1 5))) || (!(words_Within p_f.Reserves 0 10))) then
  1
  else
  0
def meet_CheckPlan_l1 (p_p : GPlan) (j1 : Option Int) : List GRace → Nat → Option Int
  | [], _ => j1
  | y1 :: ys1, i1 => Option.bind (timing_CheckRace y1) (fun r1 =>
  if !decide (r1 = 0) then
  some r1
  else
  Chk (cutB 0 (i1 : Int) p_p.Races.length) (
  if (slices_ContainsFunc_Race_meet_CheckPlan_c1 (cut p_p.Races 0 (i1 : Int)) y1) then
  some 6
  else
  meet_CheckPlan_l1 p_p j1 ys1 (i1 + 1)))
def meet_CheckPlan (p_p : GPlan) : Option Int :=
  if decide (100 < (p_p.Races.length : Int)) then
  some 2
  else
  Join (Option.bind (points_CheckTable p_p.Table) (fun r2 =>
  if !decide (r2 = 0) then
  some r2
  else
  some (heat_CheckFinal p_p.Final))) (fun j1 =>
  meet_CheckPlan_l1 p_p j1 p_p.Races 0)
def slices_Reverse_int_l1 (j1 : (List Int) → Option (List Int)) : Nat → (List Int) → Int → Int → Option (List Int)
  | 0, _, _, _ => none
  | m1 + 1, x1, x2, x3 => if decide (x2 < x3) then
  Chk (inB x3 x1.length) (
  Chk (inB x2 x1.length) (
  Chk (inB x2 x1.length) (
  Chk (inB x3 (x1.set x2.toNat (nth x1 x3)).length) (
  slices_Reverse_int_l1 j1 m1 ((x1.set x2.toNat (nth x1 x3)).set x3.toNat (nth x1 x2)) (W (x2 + 1)) (W (x3 - 1))))))
  else
  j1 x1
def slices_Reverse_int (p_s : List Int) : Option (List Int) :=
  Join (fun (x1 : List Int) =>
  some x1) (fun j1 =>
  slices_Reverse_int_l1 j1 (((W ((p_s.length : Int) - 1)) - 0).toNat + 2) p_s 0 (W ((p_s.length : Int) - 1)))
  /-- Which of the deeds count, from the last one on. -/
def meet_cntQ (l : List GDeed) (at_ : Int) (i : Nat) (m : List (Gmeet_place × Bool)) : Bool := decide (at_ < (nth l (i : Int)).At) || mgetD m (meet_placeOf (nth l (i : Int))) false
def meet_counting_l1 (l : List GDeed) (at_ : Int) : List Nat → List (Gmeet_place × Bool) → List Int → Option (List Int)
  | [], _, x => slices_Reverse_int x
  | i :: is, m, x => if meet_cntQ l at_ i m then meet_counting_l1 l at_ is m x else
    Chk (room x.length) (meet_counting_l1 l at_ is (if decide ((nth l (i : Int)).Kind = 4) then mput m (Gmeet_place.mk ((nth l (i : Int)).Of) ((nth l (i : Int)).Other)) true else m) (x ++ [(i : Int)]))
def meet_counting (l : List GDeed) (at_ : Int) : Option (List Int) := meet_counting_l1 l at_ (revI l.length) [] []
def meet_stateAt_l1 (p_l : List GDeed) (j1 : (List GDeed) → Option (Option Gmeet_state)) : List Int → Nat → (List GDeed) → Option (Option Gmeet_state)
  | [], _, x1 => j1 x1
  | y1 :: ys1, i1, x1 => Chk (inB y1 p_l.length) (
  Chk (room x1.length) (
  meet_stateAt_l1 p_l j1 ys1 (i1 + 1) (x1 ++ [(nth p_l y1)])))
def meet_stateAt (p_p : GPlan) (p_l : List GDeed) (p_at : Int) : Option (Option Gmeet_state) :=
  Option.bind (meet_counting p_l p_at) (fun r1 =>
  Join (fun (x1 : List GDeed) =>
  some (some (Gmeet_state.mk p_p x1))) (fun j1 =>
  meet_stateAt_l1 p_l j1 r1 0 ([] : List GDeed)))
def meet_open_l1 (j1 : Option ((Option Gmeet_state) × Int)) : List Int → Nat → Option ((Option Gmeet_state) × Int)
  | [], _ => j1
  | y1 :: ys1, i1 => if !(words_IsMoment y1) then
  some (none, 1)
  else
  meet_open_l1 j1 ys1 (i1 + 1)
def meet_open (p_p : GPlan) (p_l : List GDeed) (p_at : List Int) : Option ((Option Gmeet_state) × Int) :=
  Option.bind (meet_CheckPlan p_p) (fun r1 =>
  if !decide (r1 = 0) then
  some (none, r1)
  else
  Option.bind (meet_CheckDeeds p_l) (fun r2 =>
  if !decide (r2 = 0) then
  some (none, r2)
  else
  Join (Chk (inB (W ((p_at.length : Int) - 1)) p_at.length) (
  Option.bind (meet_stateAt p_p p_l (nth p_at (W ((p_at.length : Int) - 1)))) (fun r3 =>
  some (r3, 0)))) (fun j1 =>
  meet_open_l1 j1 p_at 0)))
def state_race_c1 (p_r : GRace) (p_a1 : ByteArray) : Bool :=
  decide (p_r.Key = p_a1)
def slices_IndexFunc_Race_state_race_c1_l1 (p_f_0 : ByteArray) (j1 : Int) : List GRace → Nat → Int
  | [], _ => j1
  | y1 :: ys1, i1 => if (state_race_c1 y1 p_f_0) then
  (i1 : Int)
  else
  slices_IndexFunc_Race_state_race_c1_l1 p_f_0 j1 ys1 (i1 + 1)
def slices_IndexFunc_Race_state_race_c1 (p_s : List GRace) (p_f_0 : ByteArray) : Int :=
  Join ((-1)) (fun j1 =>
  slices_IndexFunc_Race_state_race_c1_l1 p_f_0 j1 p_s 0)
def bits_Len32 (p_x : Int) : Option Int :=
  Join (fun (x1 : Int) (x2 : Int) =>
  Join (fun (x3 : Int) (x4 : Int) =>
  Chk (inB (IntKind.wrap .u8 x3) k__00_01_02_02_h633d86.size) (
  some (W (x4 + (W (sbyte k__00_01_02_02_h633d86 (IntKind.wrap .u8 x3))))))) (fun j2 =>
  if decide (256 ≤ x1) then
  j2 (bitShr .u32 x1 8) (W (x2 + 8))
  else
  j2 x1 x2)) (fun j1 =>
  if decide (65536 ≤ p_x) then
  j1 (bitShr .u32 p_x 16) 16
  else
  j1 p_x 0)
def bits_Len64 (p_x : Int) : Option Int :=
  Join (fun (x1 : Int) (x2 : Int) =>
  Join (fun (x3 : Int) (x4 : Int) =>
  Join (fun (x5 : Int) (x6 : Int) =>
  Chk (inB (IntKind.wrap .u8 x5) k__00_01_02_02_h633d86.size) (
  some (W (x6 + (W (sbyte k__00_01_02_02_h633d86 (IntKind.wrap .u8 x5))))))) (fun j3 =>
  if decide (256 ≤ x3) then
  j3 (bitShr .u64 x3 8) (W (x4 + 8))
  else
  j3 x3 x4)) (fun j2 =>
  if decide (65536 ≤ x1) then
  j2 (bitShr .u64 x1 16) (W (x2 + 16))
  else
  j2 x1 x2)) (fun j1 =>
  if decide (4294967296 ≤ p_x) then
  j1 (bitShr .u64 p_x 32) 32
  else
  j1 p_x 0)
def bits_Len (p_x : Int) : Option Int :=
  if false then
  Option.bind (bits_Len32 (IntKind.wrap .u32 p_x)) (fun r1 =>
  some r1)
  else
  Option.bind (bits_Len64 p_x) (fun r2 =>
  some r2)
def state_entered_c1 (p_a : GDeed) (p_b : GDeed) : Int :=
  (strings_Compare p_a.Who p_b.Who)
def slices_insertionSortCmpFunc_Deed_state_entered_c1_l2 (p_a : Int) (j2 : (List GDeed) → Option (List GDeed)) : Nat → (List GDeed) → Int → Option (List GDeed)
  | 0, _, _ => none
  | m2 + 1, x3, x4 => Join (fun (x5 : Bool) =>
  if x5 then
  Chk (inB (W (x4 - 1)) x3.length) (
  Chk (inB x4 x3.length) (
  Chk (inB x4 x3.length) (
  Chk (inB (W (x4 - 1)) (x3.set x4.toNat (nth x3 (W (x4 - 1)))).length) (
  slices_insertionSortCmpFunc_Deed_state_entered_c1_l2 p_a j2 m2 ((x3.set x4.toNat (nth x3 (W (x4 - 1)))).set ((W (x4 - 1)).toNat) (nth x3 x4)) (W (x4 - 1))))))
  else
  j2 x3) (fun j3 =>
  if decide (p_a < x4) then
  Chk (inB x4 x3.length) (
  Chk (inB (W (x4 - 1)) x3.length) (
  j3 (decide ((state_entered_c1 (nth x3 x4) (nth x3 (W (x4 - 1)))) < 0))))
  else
  j3 false)
def slices_insertionSortCmpFunc_Deed_state_entered_c1_l1 (p_b : Int) (p_a : Int) (j1 : (List GDeed) → Option (List GDeed)) : Nat → (List GDeed) → Int → Option (List GDeed)
  | 0, _, _ => none
  | m1 + 1, x1, x2 => if decide (x2 < p_b) then
  Join (fun (x3 : List GDeed) =>
  slices_insertionSortCmpFunc_Deed_state_entered_c1_l1 p_b p_a j1 m1 x3 (W (x2 + 1))) (fun j2 =>
  slices_insertionSortCmpFunc_Deed_state_entered_c1_l2 p_a j2 ((x2 - p_a).toNat + 2) x1 x2)
  else
  j1 x1
def slices_insertionSortCmpFunc_Deed_state_entered_c1 (p_data : List GDeed) (p_a : Int) (p_b : Int) : Option (List GDeed) :=
  Join (fun (x1 : List GDeed) =>
  some x1) (fun j1 =>
  slices_insertionSortCmpFunc_Deed_state_entered_c1_l1 p_b p_a j1 ((p_b - (W (p_a + 1))).toNat + 2) p_data (W (p_a + 1)))
def slices_pdqsortCmpFunc_Deed_state_entered_c1_l1 (p_data : List GDeed) : Nat → Int → Int → Int → Bool → Option (List GDeed)
  | 0, _, _, _, _ => none
  | _ + 1, x1, x2, x3, x4 => if decide ((W (x2 - x1)) ≤ 12) then
  Option.bind (slices_insertionSortCmpFunc_Deed_state_entered_c1 p_data x1 x2) (fun r1 =>
  some r1)
  else
  if decide (x3 = 0) then
  none
  else
  if !x4 then
  none
  else
  none
def slices_pdqsortCmpFunc_Deed_state_entered_c1 (p_data : List GDeed) (p_a : Int) (p_b : Int) (p_limit : Int) : Option (List GDeed) :=
  slices_pdqsortCmpFunc_Deed_state_entered_c1_l1 p_data 4611686018427387904 p_a p_b p_limit true
def slices_SortFunc_Deed_state_entered_c1 (p_x : List GDeed) : Option (List GDeed) :=
  Option.bind (bits_Len (IntKind.wrap .u64 (p_x.length : Int))) (fun r1 =>
  Option.bind (slices_pdqsortCmpFunc_Deed_state_entered_c1 p_x 0 (p_x.length : Int) r1) (fun r2 =>
  some r2))
def state_entered_l1 (p_race : ByteArray) (j1 : (List (ByteArray × GDeed)) → Option (List GDeed)) : List GDeed → Nat → (List (ByteArray × GDeed)) → Option (List GDeed)
  | [], _, x1 => j1 x1
  | y1 :: ys1, i1, x1 => Join (fun (x2 : List (ByteArray × GDeed)) =>
  state_entered_l1 p_race j1 ys1 (i1 + 1) x2) (fun j2 =>
  if !decide (y1.Race = p_race) then
  j2 x1
  else
  Join (fun (x3 : List (ByteArray × GDeed)) =>
  j2 x3) (fun j3 =>
  Join (fun (x4 : List (ByteArray × GDeed)) =>
  j3 x4) (fun j4 =>
  if decide (y1.Kind = 1) then
  j4 (mput x1 y1.Who y1)
  else
  Join (fun (x5 : List (ByteArray × GDeed)) =>
  j4 x5) (fun j5 =>
  if decide (y1.Kind = 2) then
  j5 (mdel x1 y1.Who)
  else
  j5 x1))))
def state_entered_l2 (j6 : (List GDeed) → Option (List GDeed)) : List (ByteArray × GDeed) → (List GDeed) → Option (List GDeed)
  | [], x6 => j6 x6
  | y2 :: ys2, x6 => Option.bind (α := (List GDeed)) (
  Chk (room x6.length) (
  some (x6 ++ [y2.2]))) (fun s => state_entered_l2 j6 ys2 s)
def state_entered (p_s_p : GPlan) (p_s_deeds : List GDeed) (p_race : ByteArray) : Option (List GDeed) :=
  Join (fun (x1 : List (ByteArray × GDeed)) =>
  Join (fun (x6 : List GDeed) =>
  Option.bind (slices_SortFunc_Deed_state_entered_c1 x6) (fun r1 =>
  some r1)) (fun j6 =>
  AllP x1 (fun p => state_entered_l2 j6 p ([] : List GDeed)))) (fun j1 =>
  state_entered_l1 p_race j1 p_s_deeds 0 ([] : List (ByteArray × GDeed)))
def state_race (p_s_p : GPlan) (p_s_deeds : List GDeed) (p_key : ByteArray) : Option (GRace × Int) :=
  if decide ((slices_IndexFunc_Race_state_race_c1 p_s_p.Races p_key) < 0) then
  some ((GRace.mk k_empty 0 0 0 0 0 0 0), 8)
  else
  Option.bind (state_entered p_s_p p_s_deeds p_key) (fun r1 =>
  if decide (300 < (r1.length : Int)) then
  some ((GRace.mk k_empty 0 0 0 0 0 0 0), 2)
  else
  Chk (inB (slices_IndexFunc_Race_state_race_c1 p_s_p.Races p_key) p_s_p.Races.length) (
  some ((nth p_s_p.Races (slices_IndexFunc_Race_state_race_c1 p_s_p.Races p_key)), 0)))
def meet_ask (p_p : GPlan) (p_l : List GDeed) (p_race : ByteArray) (p_at : Int) : Option ((Option Gmeet_state) × GRace × Int) :=
  Option.bind (meet_open p_p p_l ([p_at] : List Int)) (fun r1 =>
  if !decide (r1.2 = 0) then
  some (none, (GRace.mk k_empty 0 0 0 0 0 0 0), r1.2)
  else
  Option.bind (r1.1) (fun r2 =>
  Option.bind (state_race r2.p_ r2.deeds_ p_race) (fun r3 =>
  some (some r2, r3.1, r3.2))))
def state_seeds_l1 (j1 : (List GSeed) → Option (List GSeed)) : List GDeed → Nat → (List GSeed) → Option (List GSeed)
  | [], _, x1 => j1 x1
  | y1 :: ys1, i1, x1 => Chk (room x1.length) (
  state_seeds_l1 j1 ys1 (i1 + 1) (x1 ++ [(GSeed.mk y1.Who y1.Time)]))
def state_seeds (p_s_p : GPlan) (p_s_deeds : List GDeed) (p_race : ByteArray) : Option (List GSeed) :=
  Option.bind (state_entered p_s_p p_s_deeds p_race) (fun r1 =>
  Join (fun (x1 : List GSeed) =>
  some x1) (fun j1 =>
  state_seeds_l1 j1 r1 0 ([] : List GSeed)))
def meet_Entered (p_p : GPlan) (p_l : List GDeed) (p_race : ByteArray) (p_at : Int) : Option ((List GSeed) × Int) :=
  Option.bind (meet_ask p_p p_l p_race p_at) (fun r1 =>
  if !decide (r1.2.2 = 0) then
  some (([] : List GSeed), r1.2.2)
  else
  Option.bind (r1.1) (fun r2 =>
  Option.bind (state_seeds r2.p_ r2.deeds_ p_race) (fun r3 =>
  some (r3, 0))))
def tumblaw2_met : Option Bool :=
  Option.bind (meet_Entered (GPlan.mk ([(GRace.mk k_r 50 1 50 1 0 0 0)] : List GRace) (GTable.mk ([] : List Int) 1 0) (GFinal.mk 1 1 0)) [(GDeed.mk k_s 1 0 1 k_a k_empty k_r 5 0 k_empty 0)] k_r 0) (fun r1 =>
  Join (fun (c1 : Bool) =>
  some c1) (fun j1 =>
  if ((decide (r1.2 = 0)) && (decide ((r1.1.length : Int) = 1))) then Chk (inB 0 r1.1.length) (
  j1 (((decide (r1.2 = 0)) && (decide ((r1.1.length : Int) = 1))) && (decide (((nth r1.1 0).Time) = 5)))) else j1 (((decide (r1.2 = 0)) && (decide ((r1.1.length : Int) = 1))) && true)))
def tumblaw2_DeedTexts (p_l : List Int) : Option Bool :=
  Option.bind (Stream_Range p_l 0 0 6) (fun r1 =>
  Option.bind (Stream_Deeds p_l r1.2 r1.1) (fun r2 =>
  Option.bind (Stream_DeedText p_l r2.2) (fun r3 =>
  Option.bind (meet_Text r2.1) (fun r4 =>
  Option.bind (tumbref2_DeedsFault r2.1) (fun r5 =>
  Join (fun (x1 : ByteArray) =>
  Option.bind (meet_Read r3.1) (fun r7 =>
  Option.bind (tumbref2_DeedsRead r3.1) (fun r8 =>
  Join (fun (c1 : Bool) =>
  Join (fun (c2 : Bool) =>
  some c2) (fun j3 =>
  if ((c1 && (decide (r7.2.1 = r8.2.1))) && (decide (r7.2.2 = r8.2.2))) then Option.bind (tumblaw2_met) (fun r10 =>
  j3 (((c1 && (decide (r7.2.1 = r8.2.1))) && (decide (r7.2.2 = r8.2.2))) && r10)) else j3 (((c1 && (decide (r7.2.1 = r8.2.1))) && (decide (r7.2.2 = r8.2.2))) && true))) (fun j2 =>
  if ((decide (r4.2 = r5)) && (decide (r4.1 = x1))) then Option.bind (slices_Equal_Deed r7.1 r8.1) (fun r9 =>
  j2 (((decide (r4.2 = r5)) && (decide (r4.1 = x1))) && r9)) else j2 (((decide (r4.2 = r5)) && (decide (r4.1 = x1))) && true))))) (fun j1 =>
  if decide (r5 = 0) then
  Option.bind (tumbref2_DeedLines r2.1) (fun r6 =>
  j1 r6)
  else
  j1 k_empty))))))
theorem twin_eqs : True := by
  have h := @slices_insertionSortCmpFunc_Deed_tumbref2_DeedOrder_l2.eq_def; clear h; have h := @slices_insertionSortCmpFunc_Deed_tumbref2_DeedOrder_l2.eq_1; clear h; have h := @slices_insertionSortCmpFunc_Deed_tumbref2_DeedOrder_l2.eq_2; clear h
  have h := @slices_insertionSortCmpFunc_Deed_tumbref2_DeedOrder_l1.eq_def; clear h; have h := @slices_insertionSortCmpFunc_Deed_tumbref2_DeedOrder_l1.eq_1; clear h; have h := @slices_insertionSortCmpFunc_Deed_tumbref2_DeedOrder_l1.eq_2; clear h
  have h := @slices_stableCmpFunc_Deed_tumbref2_DeedOrder_l1.eq_def; clear h; have h := @slices_stableCmpFunc_Deed_tumbref2_DeedOrder_l1.eq_1; clear h; have h := @slices_stableCmpFunc_Deed_tumbref2_DeedOrder_l1.eq_2; clear h
  have h := @slices_stableCmpFunc_Deed_tumbref2_DeedOrder_l3.eq_def; clear h; have h := @slices_stableCmpFunc_Deed_tumbref2_DeedOrder_l3.eq_1; clear h; have h := @slices_stableCmpFunc_Deed_tumbref2_DeedOrder_l3.eq_2; clear h
  have h := @slices_stableCmpFunc_Deed_tumbref2_DeedOrder_l2.eq_def; clear h; have h := @slices_stableCmpFunc_Deed_tumbref2_DeedOrder_l2.eq_1; clear h; have h := @slices_stableCmpFunc_Deed_tumbref2_DeedOrder_l2.eq_2; clear h
  have h := @Stream_Deeds_l1.eq_def; clear h; have h := @Stream_Deeds_l1.eq_1; clear h; have h := @Stream_Deeds_l1.eq_2; clear h
  have h := @tumbref2_only_l1.eq_def; clear h; have h := @tumbref2_only_l1.eq_1; clear h; have h := @tumbref2_only_l1.eq_2; clear h
  have h := @slices_IndexFunc_Deed_tumbref2_DeedsFault_c1_l1.eq_def; clear h; have h := @slices_IndexFunc_Deed_tumbref2_DeedsFault_c1_l1.eq_1; clear h; have h := @slices_IndexFunc_Deed_tumbref2_DeedsFault_c1_l1.eq_2; clear h
  have h := @tumbref2_DeedsFault_l1.eq_def; clear h; have h := @tumbref2_DeedsFault_l1.eq_1; clear h; have h := @tumbref2_DeedsFault_l1.eq_2; clear h
  have h := @tumbref2_DeedsFault_l2.eq_def; clear h; have h := @tumbref2_DeedsFault_l2.eq_1; clear h; have h := @tumbref2_DeedsFault_l2.eq_2; clear h
  have h := @Stream_RightDeeds_l1.eq_def; clear h; have h := @Stream_RightDeeds_l1.eq_1; clear h; have h := @Stream_RightDeeds_l1.eq_2; clear h
  have h := @tumbref2_numbers_l1.eq_def; clear h; have h := @tumbref2_numbers_l1.eq_1; clear h; have h := @tumbref2_numbers_l1.eq_2; clear h
  have h := @tumbref2_DeedLines_l1.eq_def; clear h; have h := @tumbref2_DeedLines_l1.eq_1; clear h; have h := @tumbref2_DeedLines_l1.eq_2; clear h
  have h := @Stream_DeedText_l1.eq_def; clear h; have h := @Stream_DeedText_l1.eq_1; clear h; have h := @Stream_DeedText_l1.eq_2; clear h
  have h := @cmp_Or_int_l1.eq_def; clear h; have h := @cmp_Or_int_l1.eq_1; clear h; have h := @cmp_Or_int_l1.eq_2; clear h
  have h := @meet_CheckDeeds_l1.eq_def; clear h; have h := @meet_CheckDeeds_l1.eq_1; clear h; have h := @meet_CheckDeeds_l1.eq_2; clear h
  have h := @meet_Text_l1.eq_def; clear h; have h := @meet_Text_l1.eq_1; clear h; have h := @meet_Text_l1.eq_2; clear h
  have h := @words_Split_l1.eq_def; clear h; have h := @words_Split_l1.eq_1; clear h; have h := @words_Split_l1.eq_2; clear h
  have h := @words_Numbers_l1.eq_def; clear h; have h := @words_Numbers_l1.eq_1; clear h; have h := @words_Numbers_l1.eq_2; clear h
  have h := @slices_Index_string_l1.eq_def; clear h; have h := @slices_Index_string_l1.eq_1; clear h; have h := @slices_Index_string_l1.eq_2; clear h
  have h := @words_Lines_meet_Read_c1_l1.eq_def; clear h; have h := @words_Lines_meet_Read_c1_l1.eq_1; clear h; have h := @words_Lines_meet_Read_c1_l1.eq_2; clear h
  have h := @tumbref2_numbersIn_l1.eq_def; clear h; have h := @tumbref2_numbersIn_l1.eq_1; clear h; have h := @tumbref2_numbersIn_l1.eq_2; clear h
  have h := @tumbref2_Lines_tumbref2_DeedsRead_c1_l1.eq_def; clear h; have h := @tumbref2_Lines_tumbref2_DeedsRead_c1_l1.eq_1; clear h; have h := @tumbref2_Lines_tumbref2_DeedsRead_c1_l1.eq_2; clear h
  have h := @slices_Equal_Deed_l1.eq_def; clear h; have h := @slices_Equal_Deed_l1.eq_1; clear h; have h := @slices_Equal_Deed_l1.eq_2; clear h
  have h := @slices_IndexFunc_Race_meet_CheckPlan_c1_l1.eq_def; clear h; have h := @slices_IndexFunc_Race_meet_CheckPlan_c1_l1.eq_1; clear h; have h := @slices_IndexFunc_Race_meet_CheckPlan_c1_l1.eq_2; clear h
  have h := @points_CheckTable_l1.eq_def; clear h; have h := @points_CheckTable_l1.eq_1; clear h; have h := @points_CheckTable_l1.eq_2; clear h
  have h := @meet_CheckPlan_l1.eq_def; clear h; have h := @meet_CheckPlan_l1.eq_1; clear h; have h := @meet_CheckPlan_l1.eq_2; clear h
  have h := @slices_Reverse_int_l1.eq_def; clear h; have h := @slices_Reverse_int_l1.eq_1; clear h; have h := @slices_Reverse_int_l1.eq_2; clear h
  have h := @meet_counting_l1.eq_def; clear h; have h := @meet_counting_l1.eq_1; clear h; have h := @meet_counting_l1.eq_2; clear h
  have h := @meet_stateAt_l1.eq_def; clear h; have h := @meet_stateAt_l1.eq_1; clear h; have h := @meet_stateAt_l1.eq_2; clear h
  have h := @meet_open_l1.eq_def; clear h; have h := @meet_open_l1.eq_1; clear h; have h := @meet_open_l1.eq_2; clear h
  have h := @slices_IndexFunc_Race_state_race_c1_l1.eq_def; clear h; have h := @slices_IndexFunc_Race_state_race_c1_l1.eq_1; clear h; have h := @slices_IndexFunc_Race_state_race_c1_l1.eq_2; clear h
  have h := @slices_insertionSortCmpFunc_Deed_state_entered_c1_l2.eq_def; clear h; have h := @slices_insertionSortCmpFunc_Deed_state_entered_c1_l2.eq_1; clear h; have h := @slices_insertionSortCmpFunc_Deed_state_entered_c1_l2.eq_2; clear h
  have h := @slices_insertionSortCmpFunc_Deed_state_entered_c1_l1.eq_def; clear h; have h := @slices_insertionSortCmpFunc_Deed_state_entered_c1_l1.eq_1; clear h; have h := @slices_insertionSortCmpFunc_Deed_state_entered_c1_l1.eq_2; clear h
  have h := @slices_pdqsortCmpFunc_Deed_state_entered_c1_l1.eq_def; clear h; have h := @slices_pdqsortCmpFunc_Deed_state_entered_c1_l1.eq_1; clear h; have h := @slices_pdqsortCmpFunc_Deed_state_entered_c1_l1.eq_2; clear h
  have h := @state_entered_l1.eq_def; clear h; have h := @state_entered_l1.eq_1; clear h; have h := @state_entered_l1.eq_2; clear h
  have h := @state_entered_l2.eq_def; clear h; have h := @state_entered_l2.eq_1; clear h; have h := @state_entered_l2.eq_2; clear h
  have h := @state_seeds_l1.eq_def; clear h; have h := @state_seeds_l1.eq_1; clear h; have h := @state_seeds_l1.eq_2; clear h
  trivial
end
end Go.Proofs.YtpfommakhgkmeaaGreatDoor
