/- The Go functions as plain Lean functions, by program. -/
import Derived.Test.YtoffbgomfcmfmaaGreatDoorBase
namespace Go.Proofs.YtoffbgomfcmfmaaGreatDoor
open Go
structure Gtumbmake_Stream where
  L : List Int
  at_ : Int
  deriving DecidableEq, Inhabited
structure GItem where
  Key : ByteArray
  Heats : Int
  Long : Int
  Gap : Int
  Break : Int
  deriving DecidableEq, Inhabited
structure GCall where
  Who : ByteArray
  Item : ByteArray
  Heat : Int
  deriving DecidableEq, Inhabited
structure GWindow where
  From : Int
  To : Int
  deriving DecidableEq, Inhabited
structure GSlot where
  Item : ByteArray
  Heat : Int
  Time : GWindow
  deriving DecidableEq, Inhabited
structure Gsession_heat where
  item_ : ByteArray
  heat_ : Int
  deriving DecidableEq, Inhabited
structure GRest where
  Who : ByteArray
  From : GSlot
  To : GSlot
  Long : Int
  deriving DecidableEq, Inhabited
structure GPair where
  Name : ByteArray
  Value : ByteArray
  deriving DecidableEq, Inhabited
def k_empty : ByteArray := ⟨#[]⟩
def k_ic : ByteArray := ⟨#[105, 99]⟩
def k_ia : ByteArray := ⟨#[105, 97]⟩
def k_id : ByteArray := ⟨#[105, 100]⟩
def k_ib : ByteArray := ⟨#[105, 98]⟩
def k_ie : ByteArray := ⟨#[105, 101]⟩
def k_ann : ByteArray := ⟨#[97, 110, 110]⟩
def k_bea : ByteArray := ⟨#[98, 101, 97]⟩
def k_cid : ByteArray := ⟨#[99, 105, 100]⟩
def k__00_01_02_02_h633d86 : ByteArray := ⟨#[0, 1, 2, 2, 3, 3, 3, 3, 4, 4, 4, 4, 4, 4, 4, 4, 5, 5, 5, 5, 5, 5, 5, 5, 5, 5, 5, 5, 5, 5, 5, 5, 6, 6, 6, 6, 6, 6, 6, 6, 6, 6, 6, 6, 6, 6, 6, 6, 6, 6, 6, 6, 6, 6, 6, 6, 6, 6, 6, 6, 6, 6, 6, 6, 7, 7, 7, 7, 7, 7, 7, 7, 7, 7, 7, 7, 7, 7, 7, 7, 7, 7, 7, 7, 7, 7, 7, 7, 7, 7, 7, 7, 7, 7, 7, 7, 7, 7, 7, 7, 7, 7, 7, 7, 7, 7, 7, 7, 7, 7, 7, 7, 7, 7, 7, 7, 7, 7, 7, 7, 7, 7, 7, 7, 7, 7, 7, 7, 8, 8, 8, 8, 8, 8, 8, 8, 8, 8, 8, 8, 8, 8, 8, 8, 8, 8, 8, 8, 8, 8, 8, 8, 8, 8, 8, 8, 8, 8, 8, 8, 8, 8, 8, 8, 8, 8, 8, 8, 8, 8, 8, 8, 8, 8, 8, 8, 8, 8, 8, 8, 8, 8, 8, 8, 8, 8, 8, 8, 8, 8, 8, 8, 8, 8, 8, 8, 8, 8, 8, 8, 8, 8, 8, 8, 8, 8, 8, 8, 8, 8, 8, 8, 8, 8, 8, 8, 8, 8, 8, 8, 8, 8, 8, 8, 8, 8, 8, 8, 8, 8, 8, 8, 8, 8, 8, 8, 8, 8, 8, 8, 8, 8, 8, 8, 8, 8, 8, 8, 8, 8, 8, 8, 8, 8, 8, 8]⟩
def k_zz : ByteArray := ⟨#[122, 122]⟩
def k_zed : ByteArray := ⟨#[122, 101, 100]⟩
def k_abcdefghijkl_h0e2e2c : ByteArray := ⟨#[97, 98, 99, 100, 101, 102, 103, 104, 105, 106, 107, 108, 109, 110, 111, 112, 113, 114, 115, 116, 117, 118, 119, 120, 121, 122, 48, 49, 50, 51, 52, 53, 54, 55, 56, 57, 45, 95]⟩
def k_abcdefghijklmnopqrstuvwxyz : ByteArray := ⟨#[97, 98, 99, 100, 101, 102, 103, 104, 105, 106, 107, 108, 109, 110, 111, 112, 113, 114, 115, 116, 117, 118, 119, 120, 121, 122]⟩
def k_a : ByteArray := ⟨#[97]⟩
def tumbmake_Below (p_x : Int) (p_n : Int) : Option Int :=
  if decide (p_n < 1) then
  some 0
  else
  Chk (!decide (p_n = 0)) (
  Join (fun (x1 : Int) =>
  some x1) (fun j1 =>
  if decide ((Int.tmod p_x p_n) < 0) then
  j1 (W ((Int.tmod p_x p_n) + p_n))
  else
  j1 (Int.tmod p_x p_n)))
def Stream_Next (p_s_L : List Int) (p_s_at : Int) (p_n : Int) : Option (Int × Int) :=
  if decide ((p_s_L.length : Int) = 0) then
  Option.bind (tumbmake_Below (W ((W (p_s_at + 1)) * 7919)) p_n) (fun r1 =>
  some (r1, W (p_s_at + 1)))
  else
  Chk (!decide ((p_s_L.length : Int) = 0)) (
  Chk (!decide ((p_s_L.length : Int) = 0)) (
  Chk (inB (Int.tmod (W ((W (p_s_at + 1)) - 1)) (p_s_L.length : Int)) p_s_L.length) (
  Option.bind (tumbmake_Below (nth p_s_L (Int.tmod (W ((W (p_s_at + 1)) - 1)) (p_s_L.length : Int))) 1073741824) (fun r2 =>
  Option.bind (tumbmake_Below (W (r2 + (W ((W (Int.tdiv (W ((W (p_s_at + 1)) - 1)) (p_s_L.length : Int))) * (W (7919 + (Int.tmod (W ((W (p_s_at + 1)) - 1)) (p_s_L.length : Int)))))))) p_n) (fun r3 =>
  some (r3, W (p_s_at + 1)))))))
def Stream_Flip (p_s_L : List Int) (p_s_at : Int) (p_n : Int) : Option (Bool × Int) :=
  Option.bind (Stream_Next p_s_L p_s_at p_n) (fun r1 =>
  some (decide (r1.1 = 0), r1.2))
def Stream_Pick (p_s_L : List Int) (p_s_at : Int) (p_l : List Int) : Option (Int × Int) :=
  Option.bind (Stream_Next p_s_L p_s_at (p_l.length : Int)) (fun r1 =>
  Chk (inB r1.1 p_l.length) (
  some ((nth p_l r1.1), r1.2)))
def Stream_RightItems_l1 (p_s_L : List Int) (j1 : (List GItem) → Int → Option ((List GItem) × Int)) : List ByteArray → Nat → (List GItem) → Int → Option ((List GItem) × Int)
  | [], _, x1, x2 => j1 x1 x2
  | y1 :: ys1, i1, x1, x2 => Join (fun (x3 : List GItem) (x4 : Int) =>
  Stream_RightItems_l1 p_s_L j1 ys1 (i1 + 1) x3 x4) (fun j2 =>
  Option.bind (Stream_Flip p_s_L x2 6) (fun r1 =>
  Join (fun (x5 : List GItem) (x6 : Int) =>
  j2 x5 x6) (fun j3 =>
  if !r1.1 then
  Option.bind (Stream_Pick p_s_L r1.2 [1, 1, 2, 3]) (fun r2 =>
  Option.bind (Stream_Pick p_s_L r2.2 [50, 100]) (fun r3 =>
  Option.bind (Stream_Pick p_s_L r3.2 [0, 10, 60]) (fun r4 =>
  Option.bind (Stream_Pick p_s_L r4.2 [0, 20, 50, 200]) (fun r5 =>
  Chk (room x1.length) (
  j3 (x1 ++ [(GItem.mk y1 r2.1 r3.1 r4.1 r5.1)]) r5.2)))))
  else
  j3 x1 r1.2)))
def Stream_RightItems (p_s_L : List Int) (p_s_at : Int) (p_most : Int) : Option ((List GItem) × Int) :=
  Chk (cutB 0 p_most ([k_ic, k_ia, k_id, k_ib, k_ie] : List ByteArray).length) (
  Join (fun (x1 : List GItem) (x2 : Int) =>
  some (x1, x2)) (fun j1 =>
  Stream_RightItems_l1 p_s_L j1 (cut ([k_ic, k_ia, k_id, k_ib, k_ie] : List ByteArray) 0 p_most) 0 ([] : List GItem) p_s_at))
def Stream_Some (p_s_L : List Int) (p_s_at : Int) (p_l : List ByteArray) : Option (ByteArray × Int) :=
  Option.bind (Stream_Next p_s_L p_s_at (p_l.length : Int)) (fun r1 =>
  Chk (inB r1.1 p_l.length) (
  some ((nth p_l r1.1), r1.2)))
def Stream_Range (p_s_L : List Int) (p_s_at : Int) (p_low : Int) (p_high : Int) : Option (Int × Int) :=
  if decide (p_high < p_low) then
  some (p_low, p_s_at)
  else
  Option.bind (Stream_Next p_s_L p_s_at (W ((W (p_high - p_low)) + 1))) (fun r1 =>
  some (W (p_low + r1.1), r1.2))
def Stream_Odd (p_s_L : List Int) (p_s_at : Int) (p_low : Int) (p_high : Int) : Option (Int × Int) :=
  Option.bind (Stream_Flip p_s_L p_s_at 12) (fun r1 =>
  if r1.1 then
  Option.bind (Stream_Pick p_s_L r1.2 [W (p_low - 1), W (p_high + 1), p_low, p_high, (-1099511627776), 1099511627776]) (fun r2 =>
  some (r2.1, r2.2))
  else
  Option.bind (Stream_Range p_s_L r1.2 p_low p_high) (fun r3 =>
  some (r3.1, r3.2)))
def Stream_Items (p_s_L : List Int) (p_s_at : Int) (p_most : Int) : Option ((List GItem) × Int) :=
  Option.bind (Stream_RightItems p_s_L p_s_at p_most) (fun r1 =>
  Join (fun (x1 : Int) (x2 : Bool) =>
  Join (fun (x3 : List GItem) (x4 : Int) =>
  some (x3, x4)) (fun j2 =>
  if x2 then
  Option.bind (Stream_Next p_s_L x1 (r1.1.length : Int)) (fun r3 =>
  Chk (inB r3.1 r1.1.length) (
  Option.bind (Stream_Some p_s_L r3.2 [(nth r1.1 r3.1).Key, k_empty, k_ia]) (fun r4 =>
  Option.bind (Stream_Odd p_s_L r4.2 1 60) (fun r5 =>
  Option.bind (Stream_Odd p_s_L r5.2 1 100) (fun r6 =>
  Option.bind (Stream_Odd p_s_L r6.2 0 100) (fun r7 =>
  Option.bind (Stream_Odd p_s_L r7.2 0 100) (fun r8 =>
  j2 (((((r1.1.set r3.1.toNat (GItem.mk r4.1 ((nth r1.1 r3.1).Heats) ((nth r1.1 r3.1).Long) ((nth r1.1 r3.1).Gap) ((nth r1.1 r3.1).Break))).set r3.1.toNat (GItem.mk r4.1 r5.1 ((nth r1.1 r3.1).Long) ((nth r1.1 r3.1).Gap) ((nth r1.1 r3.1).Break))).set r3.1.toNat (GItem.mk r4.1 r5.1 r6.1 ((nth r1.1 r3.1).Gap) ((nth r1.1 r3.1).Break))).set r3.1.toNat (GItem.mk r4.1 r5.1 r6.1 r7.1 ((nth r1.1 r3.1).Break))).set r3.1.toNat (GItem.mk r4.1 r5.1 r6.1 r7.1 r8.1)) r8.2)))))))
  else
  j2 r1.1 x1)) (fun j1 =>
  if (decide (0 < (r1.1.length : Int))) then
  Option.bind (Stream_Flip p_s_L r1.2 15) (fun r2 =>
  j1 r2.2 r2.1)
  else
  j1 r1.2 false))
def Stream_SessionStart (p_s_L : List Int) (p_s_at : Int) : Option (Int × Int) :=
  Option.bind (Stream_Pick p_s_L p_s_at [0, 0, 30, 1000, (-1), 345686399999, 345686399700, 345686400000]) (fun r1 =>
  some (r1.1, r1.2))
def slices_Clone_Item (p_s : List GItem) : Option (List GItem) :=
  Chk (decide ((([] : List GItem) : List GItem).length + p_s.length < 1073741824)) (
  some ((([] : List GItem) : List GItem) ++ p_s))
def bits_Len32 (p_x : Int) : Option Int :=
  Join (fun (x1 : Int) (x2 : Int) =>
  Join (fun (x3 : Int) (x4 : Int) =>
  Chk (inB (IntKind.wrap .u8 x3) k__00_01_02_02_h633d86.size) (
  some (W (x4 + (W (sbyte k__00_01_02_02_h633d86 (IntKind.wrap .u8 x3))))))) (fun j2 =>
  if decide (256 ≤ x1) then
  j2 (bitShr .u32 x1 8) (W (x2 + 8))
  else
  j2 x1 x2)) (fun j1 =>
  if decide (65536 ≤ p_x) then
  j1 (bitShr .u32 p_x 16) 16
  else
  j1 p_x 0)
def bits_Len64 (p_x : Int) : Option Int :=
  Join (fun (x1 : Int) (x2 : Int) =>
  Join (fun (x3 : Int) (x4 : Int) =>
  Join (fun (x5 : Int) (x6 : Int) =>
  Chk (inB (IntKind.wrap .u8 x5) k__00_01_02_02_h633d86.size) (
  some (W (x6 + (W (sbyte k__00_01_02_02_h633d86 (IntKind.wrap .u8 x5))))))) (fun j3 =>
  if decide (256 ≤ x3) then
  j3 (bitShr .u64 x3 8) (W (x4 + 8))
  else
  j3 x3 x4)) (fun j2 =>
  if decide (65536 ≤ x1) then
  j2 (bitShr .u64 x1 16) (W (x2 + 16))
  else
  j2 x1 x2)) (fun j1 =>
  if decide (4294967296 ≤ p_x) then
  j1 (bitShr .u64 p_x 32) 32
  else
  j1 p_x 0)
def bits_Len (p_x : Int) : Option Int :=
  if false then
  Option.bind (bits_Len32 (IntKind.wrap .u32 p_x)) (fun r1 =>
  some r1)
  else
  Option.bind (bits_Len64 p_x) (fun r2 =>
  some r2)
def Stream_RightCalls_c1 (p_a : GItem) (p_b : GItem) : Int :=
  if Sless p_a.Key p_b.Key then
  (-1)
  else
  1
def slices_insertionSortCmpFunc_Item_Stream_RightCalls_c1_l2 (p_a : Int) (j2 : (List GItem) → Option (List GItem)) : Nat → (List GItem) → Int → Option (List GItem)
  | 0, _, _ => none
  | m2 + 1, x3, x4 => Join (fun (x5 : Bool) =>
  if x5 then
  Chk (inB (W (x4 - 1)) x3.length) (
  Chk (inB x4 x3.length) (
  Chk (inB x4 x3.length) (
  Chk (inB (W (x4 - 1)) (x3.set x4.toNat (nth x3 (W (x4 - 1)))).length) (
  slices_insertionSortCmpFunc_Item_Stream_RightCalls_c1_l2 p_a j2 m2 ((x3.set x4.toNat (nth x3 (W (x4 - 1)))).set ((W (x4 - 1)).toNat) (nth x3 x4)) (W (x4 - 1))))))
  else
  j2 x3) (fun j3 =>
  if decide (p_a < x4) then
  Chk (inB x4 x3.length) (
  Chk (inB (W (x4 - 1)) x3.length) (
  j3 (decide ((Stream_RightCalls_c1 (nth x3 x4) (nth x3 (W (x4 - 1)))) < 0))))
  else
  j3 false)
def slices_insertionSortCmpFunc_Item_Stream_RightCalls_c1_l1 (p_b : Int) (p_a : Int) (j1 : (List GItem) → Option (List GItem)) : Nat → (List GItem) → Int → Option (List GItem)
  | 0, _, _ => none
  | m1 + 1, x1, x2 => if decide (x2 < p_b) then
  Join (fun (x3 : List GItem) =>
  slices_insertionSortCmpFunc_Item_Stream_RightCalls_c1_l1 p_b p_a j1 m1 x3 (W (x2 + 1))) (fun j2 =>
  slices_insertionSortCmpFunc_Item_Stream_RightCalls_c1_l2 p_a j2 ((x2 - p_a).toNat + 2) x1 x2)
  else
  j1 x1
def slices_insertionSortCmpFunc_Item_Stream_RightCalls_c1 (p_data : List GItem) (p_a : Int) (p_b : Int) : Option (List GItem) :=
  Join (fun (x1 : List GItem) =>
  some x1) (fun j1 =>
  slices_insertionSortCmpFunc_Item_Stream_RightCalls_c1_l1 p_b p_a j1 ((p_b - (W (p_a + 1))).toNat + 2) p_data (W (p_a + 1)))
def slices_pdqsortCmpFunc_Item_Stream_RightCalls_c1_l1 (p_data : List GItem) : Nat → Int → Int → Int → Bool → Option (List GItem)
  | 0, _, _, _, _ => none
  | _ + 1, x1, x2, x3, x4 => if decide ((W (x2 - x1)) ≤ 12) then
  Option.bind (slices_insertionSortCmpFunc_Item_Stream_RightCalls_c1 p_data x1 x2) (fun r1 =>
  some r1)
  else
  if decide (x3 = 0) then
  none
  else
  if !x4 then
  none
  else
  none
def slices_pdqsortCmpFunc_Item_Stream_RightCalls_c1 (p_data : List GItem) (p_a : Int) (p_b : Int) (p_limit : Int) : Option (List GItem) :=
  slices_pdqsortCmpFunc_Item_Stream_RightCalls_c1_l1 p_data 4611686018427387904 p_a p_b p_limit true
def slices_SortFunc_Item_Stream_RightCalls_c1 (p_x : List GItem) : Option (List GItem) :=
  Option.bind (bits_Len (IntKind.wrap .u64 (p_x.length : Int))) (fun r1 =>
  Option.bind (slices_pdqsortCmpFunc_Item_Stream_RightCalls_c1 p_x 0 (p_x.length : Int) r1) (fun r2 =>
  some r2))
def Stream_RightCalls_l2 (p_s_L : List Int) (y1 : ByteArray) (j2 : (List GCall) → Int → Option ((List GCall) × Int)) : List GItem → Nat → (List GCall) → Int → Option ((List GCall) × Int)
  | [], _, x3, x4 => j2 x3 x4
  | y2 :: ys2, i2, x3, x4 => Join (fun (x5 : List GCall) (x6 : Int) =>
  Stream_RightCalls_l2 p_s_L y1 j2 ys2 (i2 + 1) x5 x6) (fun j3 =>
  Option.bind (Stream_Flip p_s_L x4 2) (fun r3 =>
  Join (fun (x7 : List GCall) (x8 : Int) =>
  j3 x7 x8) (fun j4 =>
  if (r3.1 && (decide (0 < y2.Heats))) then
  Option.bind (Stream_Range p_s_L r3.2 1 (imin y2.Heats 3)) (fun r4 =>
  Chk (room x3.length) (
  j4 (x3 ++ [(GCall.mk y1 y2.Key r4.1)]) r4.2))
  else
  j4 x3 r3.2)))
def Stream_RightCalls_l1 (p_items : List GItem) (p_s_L : List Int) (j1 : (List GCall) → Int → Option ((List GCall) × Int)) : List ByteArray → Nat → (List GCall) → Int → Option ((List GCall) × Int)
  | [], _, x1, x2 => j1 x1 x2
  | y1 :: ys1, i1, x1, x2 => Option.bind (slices_Clone_Item p_items) (fun r1 =>
  Option.bind (slices_SortFunc_Item_Stream_RightCalls_c1 r1) (fun r2 =>
  Join (fun (x3 : List GCall) (x4 : Int) =>
  Stream_RightCalls_l1 p_items p_s_L j1 ys1 (i1 + 1) x3 x4) (fun j2 =>
  Stream_RightCalls_l2 p_s_L y1 j2 r2 0 x1 x2)))
def Stream_RightCalls (p_s_L : List Int) (p_s_at : Int) (p_items : List GItem) : Option ((List GCall) × Int) :=
  Join (fun (x1 : List GCall) (x2 : Int) =>
  some (x1, x2)) (fun j1 =>
  Stream_RightCalls_l1 p_items p_s_L j1 ([k_ann, k_bea, k_cid] : List ByteArray) 0 ([] : List GCall) p_s_at)
def Stream_Calls (p_s_L : List Int) (p_s_at : Int) (p_items : List GItem) : Option ((List GCall) × Int) :=
  Option.bind (Stream_RightCalls p_s_L p_s_at p_items) (fun r1 =>
  Join (fun (x1 : Int) (x2 : Bool) =>
  Join (fun (x3 : List GCall) (x4 : Int) =>
  some (x3, x4)) (fun j2 =>
  if x2 then
  Option.bind (Stream_Next p_s_L x1 (r1.1.length : Int)) (fun r3 =>
  Chk (inB r3.1 r1.1.length) (
  Join (fun (x5 : List GCall) (x6 : Int) =>
  j2 x5 x6) (fun j3 =>
  Option.bind (Stream_Some p_s_L r3.2 [(nth r1.1 r3.1).Who, k_empty, k_ann]) (fun r4 =>
  Option.bind (Stream_Some p_s_L r4.2 [(nth r1.1 r3.1).Item, k_zz]) (fun r5 =>
  Option.bind (Stream_Odd p_s_L r5.2 1 3) (fun r6 =>
  j3 (((r1.1.set r3.1.toNat (GCall.mk r4.1 ((nth r1.1 r3.1).Item) ((nth r1.1 r3.1).Heat))).set r3.1.toNat (GCall.mk r4.1 r5.1 ((nth r1.1 r3.1).Heat))).set r3.1.toNat (GCall.mk r4.1 r5.1 r6.1)) r6.2))))))
  else
  j2 r1.1 x1)) (fun j1 =>
  if (decide (0 < (r1.1.length : Int))) then
  Option.bind (Stream_Flip p_s_L r1.2 12) (fun r2 =>
  j1 r2.2 r2.1)
  else
  j1 r1.2 false))
def strings_Trim (s c : ByteArray) : Option ByteArray :=
  Chk (decide (s.size ≤ 9223372036854775807)) (Chk (decide (c.size < 4294967281)) (Chk (c.data.toList.all fun b => decide (b.toNat < 128)) (some ⟨(Lib.trimS s.data.toList c.data.toList).toArray⟩)))
def words_IsKey (p_s : ByteArray) : Option Bool :=
  Join (fun (c1 : Bool) =>
  Join (fun (c2 : Bool) =>
  Join (fun (c3 : Bool) =>
  some c3) (fun j3 =>
  if c2 then Option.bind (strings_Trim p_s k_abcdefghijkl_h0e2e2c) (fun r1 =>
  j3 (c2 && (decide (r1 = k_empty)))) else j3 (c2 && true))) (fun j2 =>
  if c1 then Chk (inB 0 p_s.size) (
  j2 (c1 && (decide ((sbyte p_s 0) ≤ 122)))) else j2 (c1 && true))) (fun j1 =>
  if ((decide (1 ≤ (p_s.size : Int))) && (decide ((p_s.size : Int) ≤ 40))) then Chk (inB 0 p_s.size) (
  j1 (((decide (1 ≤ (p_s.size : Int))) && (decide ((p_s.size : Int) ≤ 40))) && (decide (97 ≤ (sbyte p_s 0))))) else j1 (((decide (1 ≤ (p_s.size : Int))) && (decide ((p_s.size : Int) ≤ 40))) && true))
def words_Within (p_n : Int) (p_low : Int) (p_high : Int) : Bool :=
  ((decide (p_low ≤ p_n)) && (decide (p_n ≤ p_high)))
def session_CheckItems_l1 (j1 : (List (ByteArray × Bool)) → Option Int) : List GItem → Nat → (List (ByteArray × Bool)) → Option Int
  | [], _, x1 => j1 x1
  | y1 :: ys1, i1, x1 => Option.bind (words_IsKey y1.Key) (fun r1 =>
  if !r1 then
  some 5
  else
  if mgetD x1 y1.Key false then
  some 6
  else
  if ((((!(words_Within y1.Heats 1 60)) || (!(words_Within y1.Long 1 3600000))) || (!(words_Within y1.Gap 0 3600000))) || (!(words_Within y1.Break 0 3600000))) then
  some 1
  else
  session_CheckItems_l1 j1 ys1 (i1 + 1) (mput x1 y1.Key true))
def session_CheckItems (p_l : List GItem) : Option Int :=
  if decide (100 < (p_l.length : Int)) then
  some 2
  else
  Join (fun (x1 : List (ByteArray × Bool)) =>
  some 0) (fun j1 =>
  session_CheckItems_l1 j1 p_l 0 ([] : List (ByteArray × Bool)))
def session_itemAt_c1 (p_x : GItem) (p_a1 : ByteArray) : Bool :=
  decide (p_x.Key = p_a1)
def slices_IndexFunc_Item_session_itemAt_c1_l1 (p_f_0 : ByteArray) (j1 : Int) : List GItem → Nat → Int
  | [], _ => j1
  | y1 :: ys1, i1 => if (session_itemAt_c1 y1 p_f_0) then
  (i1 : Int)
  else
  slices_IndexFunc_Item_session_itemAt_c1_l1 p_f_0 j1 ys1 (i1 + 1)
def slices_IndexFunc_Item_session_itemAt_c1 (p_s : List GItem) (p_f_0 : ByteArray) : Int :=
  Join ((-1)) (fun j1 =>
  slices_IndexFunc_Item_session_itemAt_c1_l1 p_f_0 j1 p_s 0)
def session_itemAt (p_l : List GItem) (p_key : ByteArray) : Int :=
  (slices_IndexFunc_Item_session_itemAt_c1 p_l p_key)
def strings_Compare (s t : ByteArray) : Int := Lib.compareBytes s.data.toList t.data.toList
def cmp_isNaN_int (p_x : Int) : Bool :=
  !decide (p_x = p_x)
def cmp_Compare_int (p_x : Int) (p_y : Int) : Int :=
  if (cmp_isNaN_int p_x) then
  if (cmp_isNaN_int p_y) then
  0
  else
  (-1)
  else
  if (cmp_isNaN_int p_y) then
  1
  else
  if decide (p_x < p_y) then
  (-1)
  else
  if decide (p_y < p_x) then
  1
  else
  0
def cmp_Or_int_l1 (j1 : Int) : List Int → Nat → Int
  | [], _ => j1
  | y1 :: ys1, i1 => if !decide (y1 = 0) then
  y1
  else
  cmp_Or_int_l1 j1 ys1 (i1 + 1)
def cmp_Or_int (p_vals : List Int) : Int :=
  Join (0) (fun j1 =>
  cmp_Or_int_l1 j1 p_vals 0)
def session_compareCalls (p_a : GCall) (p_b : GCall) : Int :=
  (cmp_Or_int [(strings_Compare p_a.Who p_b.Who), (strings_Compare p_a.Item p_b.Item), (cmp_Compare_int p_a.Heat p_b.Heat)])
def session_CheckSwims_l1 (p_items : List GItem) (p_l : List GCall) (j1 : Option Int) : List GCall → Nat → Option Int
  | [], _ => j1
  | y1 :: ys1, i1 => Option.bind (words_IsKey y1.Who) (fun r2 =>
  if !r2 then
  some 5
  else
  if decide ((session_itemAt p_items y1.Item) < 0) then
  some 8
  else
  Chk (inB (session_itemAt p_items y1.Item) p_items.length) (
  if !(words_Within y1.Heat 1 ((nth p_items (session_itemAt p_items y1.Item)).Heats)) then
  some 1
  else
  Join (fun (x1 : Bool) =>
  if x1 then
  some 7
  else
  session_CheckSwims_l1 p_items p_l j1 ys1 (i1 + 1)) (fun j2 =>
  if decide (0 < (i1 : Int)) then
  Chk (inB (W ((i1 : Int) - 1)) p_l.length) (
  j2 (decide (0 ≤ (session_compareCalls (nth p_l (W ((i1 : Int) - 1))) y1))))
  else
  j2 false)))
def session_CheckSwims (p_items : List GItem) (p_l : List GCall) : Option Int :=
  Option.bind (session_CheckItems p_items) (fun r1 =>
  if !decide (r1 = 0) then
  some r1
  else
  if decide (2000 < (p_l.length : Int)) then
  some 2
  else
  Join (some 0) (fun j1 =>
  session_CheckSwims_l1 p_items p_l j1 p_l 0))
def words_IsMoment (p_n : Int) : Bool :=
  ((decide (0 ≤ p_n)) && (decide (p_n < 345686400000)))
def session_timetable_l2 (y1 : GItem) (j2 : (List GSlot) → Int → Option (List GSlot)) : Nat → (List GSlot) → Int → Int → Option (List GSlot)
  | 0, _, _, _ => none
  | m1 + 1, x3, x4, x5 => if decide (x5 ≤ y1.Heats) then
  Join (fun (x6 : List GSlot) (x7 : Int) =>
  session_timetable_l2 y1 j2 m1 x6 x7 (W (x5 + 1))) (fun j3 =>
  Chk (room x3.length) (
  Join (fun (x8 : Int) =>
  j3 (x3 ++ [(GSlot.mk y1.Key x5 (GWindow.mk x4 (W (x4 + y1.Long))))]) x8) (fun j4 =>
  if decide (x5 < y1.Heats) then
  j4 (W ((W (x4 + y1.Long)) + y1.Gap))
  else
  j4 (W (x4 + y1.Long)))))
  else
  j2 x3 x4
def session_timetable_l1 (j1 : (List GSlot) → Option (List GSlot)) : List GItem → Nat → (List GSlot) → Int → Option (List GSlot)
  | [], _, x1, _ => j1 x1
  | y1 :: ys1, i1, x1, x2 => Join (fun (x3 : List GSlot) (x4 : Int) =>
  session_timetable_l1 j1 ys1 (i1 + 1) x3 (W (x4 + y1.Break))) (fun j2 =>
  session_timetable_l2 y1 j2 ((y1.Heats - 1).toNat + 2) x1 x2 1)
def session_timetable (p_l : List GItem) (p_from : Int) : Option (List GSlot) :=
  Join (fun (x1 : List GSlot) =>
  some x1) (fun j1 =>
  session_timetable_l1 j1 p_l 0 ([] : List GSlot) p_from)
def session_end (p_l : List GSlot) (p_from : Int) : Option Int :=
  if decide ((p_l.length : Int) = 0) then
  some p_from
  else
  Chk (inB (W ((p_l.length : Int) - 1)) p_l.length) (
  some (((nth p_l (W ((p_l.length : Int) - 1))).Time).To))
def session_begin (p_l : List GItem) (p_from : Int) : Option ((List GSlot) × Int) :=
  if !(words_IsMoment p_from) then
  some (([] : List GSlot), 1)
  else
  Option.bind (session_timetable p_l p_from) (fun r1 =>
  Option.bind (session_end r1 p_from) (fun r2 =>
  if decide (345686400000 < r2) then
  some (([] : List GSlot), 1)
  else
  some (r1, 0)))
def session_slots_l1 (j1 : (List (Gsession_heat × GSlot)) → (List (Gsession_heat × GSlot))) : List GSlot → Nat → (List (Gsession_heat × GSlot)) → (List (Gsession_heat × GSlot))
  | [], _, x1 => j1 x1
  | y1 :: ys1, i1, x1 => session_slots_l1 j1 ys1 (i1 + 1) (mput x1 (Gsession_heat.mk y1.Item y1.Heat) y1)
def session_slots (p_t : List GSlot) : (List (Gsession_heat × GSlot)) :=
  Join (fun (x1 : List (Gsession_heat × GSlot)) =>
  x1) (fun j1 =>
  session_slots_l1 j1 p_t 0 ([] : List (Gsession_heat × GSlot)))
def session_calls_c1 (p_a : GSlot) (p_b : GSlot) : Int :=
  (cmp_Compare_int p_a.Time.From p_b.Time.From)
def slices_insertionSortCmpFunc_Slot_session_calls_c1_l2 (p_a : Int) (j2 : (List GSlot) → Option (List GSlot)) : Nat → (List GSlot) → Int → Option (List GSlot)
  | 0, _, _ => none
  | m2 + 1, x3, x4 => Join (fun (x5 : Bool) =>
  if x5 then
  Chk (inB (W (x4 - 1)) x3.length) (
  Chk (inB x4 x3.length) (
  Chk (inB x4 x3.length) (
  Chk (inB (W (x4 - 1)) (x3.set x4.toNat (GSlot.mk ((nth x3 (W (x4 - 1))).Item) ((nth x3 (W (x4 - 1))).Heat) ((nth x3 (W (x4 - 1))).Time))).length) (
  slices_insertionSortCmpFunc_Slot_session_calls_c1_l2 p_a j2 m2 ((x3.set x4.toNat (GSlot.mk ((nth x3 (W (x4 - 1))).Item) ((nth x3 (W (x4 - 1))).Heat) ((nth x3 (W (x4 - 1))).Time))).set ((W (x4 - 1)).toNat) (GSlot.mk ((nth x3 x4).Item) ((nth x3 x4).Heat) ((nth x3 x4).Time))) (W (x4 - 1))))))
  else
  j2 x3) (fun j3 =>
  if decide (p_a < x4) then
  Chk (inB x4 x3.length) (
  Chk (inB (W (x4 - 1)) x3.length) (
  j3 (decide ((session_calls_c1 (GSlot.mk ((nth x3 x4).Item) ((nth x3 x4).Heat) ((nth x3 x4).Time)) (GSlot.mk ((nth x3 (W (x4 - 1))).Item) ((nth x3 (W (x4 - 1))).Heat) ((nth x3 (W (x4 - 1))).Time))) < 0))))
  else
  j3 false)
def slices_insertionSortCmpFunc_Slot_session_calls_c1_l1 (p_b : Int) (p_a : Int) (j1 : (List GSlot) → Option (List GSlot)) : Nat → (List GSlot) → Int → Option (List GSlot)
  | 0, _, _ => none
  | m1 + 1, x1, x2 => if decide (x2 < p_b) then
  Join (fun (x3 : List GSlot) =>
  slices_insertionSortCmpFunc_Slot_session_calls_c1_l1 p_b p_a j1 m1 x3 (W (x2 + 1))) (fun j2 =>
  slices_insertionSortCmpFunc_Slot_session_calls_c1_l2 p_a j2 ((x2 - p_a).toNat + 2) x1 x2)
  else
  j1 x1
def slices_insertionSortCmpFunc_Slot_session_calls_c1 (p_data : List GSlot) (p_a : Int) (p_b : Int) : Option (List GSlot) :=
  Join (fun (x1 : List GSlot) =>
  some x1) (fun j1 =>
  slices_insertionSortCmpFunc_Slot_session_calls_c1_l1 p_b p_a j1 ((p_b - (W (p_a + 1))).toNat + 2) p_data (W (p_a + 1)))
def slices_pdqsortCmpFunc_Slot_session_calls_c1_l1 (p_data : List GSlot) : Nat → Int → Int → Int → Bool → Option (List GSlot)
  | 0, _, _, _, _ => none
  | _ + 1, x1, x2, x3, x4 => if decide ((W (x2 - x1)) ≤ 12) then
  Option.bind (slices_insertionSortCmpFunc_Slot_session_calls_c1 p_data x1 x2) (fun r1 =>
  some r1)
  else
  if decide (x3 = 0) then
  none
  else
  if !x4 then
  none
  else
  none
def slices_pdqsortCmpFunc_Slot_session_calls_c1 (p_data : List GSlot) (p_a : Int) (p_b : Int) (p_limit : Int) : Option (List GSlot) :=
  slices_pdqsortCmpFunc_Slot_session_calls_c1_l1 p_data 4611686018427387904 p_a p_b p_limit true
def slices_SortFunc_Slot_session_calls_c1 (p_x : List GSlot) : Option (List GSlot) :=
  Option.bind (bits_Len (IntKind.wrap .u64 (p_x.length : Int))) (fun r1 =>
  Option.bind (slices_pdqsortCmpFunc_Slot_session_calls_c1 p_x 0 (p_x.length : Int) r1) (fun r2 =>
  some r2))
def session_calls_l1 (p_who : ByteArray) (p_at : List (Gsession_heat × GSlot)) (j1 : (List GSlot) → Option (List GSlot)) : List GCall → Nat → (List GSlot) → Option (List GSlot)
  | [], _, x1 => j1 x1
  | y1 :: ys1, i1, x1 => Join (fun (x2 : List GSlot) =>
  session_calls_l1 p_who p_at j1 ys1 (i1 + 1) x2) (fun j2 =>
  Join (fun (x3 : List GSlot) =>
  j2 x3) (fun j3 =>
  if decide (y1.Who = p_who) then
  Chk (room x1.length) (
  j3 (x1 ++ [(GSlot.mk ((mgetD p_at (Gsession_heat.mk y1.Item y1.Heat) (GSlot.mk k_empty 0 (GWindow.mk 0 0))).Item) ((mgetD p_at (Gsession_heat.mk y1.Item y1.Heat) (GSlot.mk k_empty 0 (GWindow.mk 0 0))).Heat) ((mgetD p_at (Gsession_heat.mk y1.Item y1.Heat) (GSlot.mk k_empty 0 (GWindow.mk 0 0))).Time))]))
  else
  j3 x1))
def session_calls (p_at : List (Gsession_heat × GSlot)) (p_l : List GCall) (p_who : ByteArray) : Option (List GSlot) :=
  Join (fun (x1 : List GSlot) =>
  Option.bind (slices_SortFunc_Slot_session_calls_c1 x1) (fun r1 =>
  some r1)) (fun j1 =>
  session_calls_l1 p_who p_at j1 p_l 0 ([] : List GSlot))
def session_Calls (p_items : List GItem) (p_l : List GCall) (p_who : ByteArray) (p_from : Int) : Option ((List GSlot) × Int) :=
  Option.bind (session_CheckSwims p_items p_l) (fun r1 =>
  if !decide (r1 = 0) then
  some (([] : List GSlot), r1)
  else
  Option.bind (words_IsKey p_who) (fun r2 =>
  if !r2 then
  some (([] : List GSlot), 5)
  else
  Option.bind (session_begin p_items p_from) (fun r3 =>
  if !decide (r3.2 = 0) then
  some (([] : List GSlot), r3.2)
  else
  Option.bind (session_calls (session_slots r3.1) p_l p_who) (fun r4 =>
  some (r4, 0)))))
def session_rests_l2 (r1 : (List GSlot)) (y1 : GCall) (j4 : (List GRest) → Option (List GRest)) : Nat → (List GRest) → Int → Option (List GRest)
  | 0, _, _ => none
  | m1 + 1, x3, x4 => if decide (x4 < (r1.length : Int)) then
  Chk (inB (W (x4 - 1)) r1.length) (
  Chk (inB x4 r1.length) (
  Chk (inB x4 r1.length) (
  Chk (inB (W (x4 - 1)) r1.length) (
  Chk (room x3.length) (
  session_rests_l2 r1 y1 j4 m1 (x3 ++ [(GRest.mk y1.Who (GSlot.mk ((nth r1 (W (x4 - 1))).Item) ((nth r1 (W (x4 - 1))).Heat) ((nth r1 (W (x4 - 1))).Time)) (GSlot.mk ((nth r1 x4).Item) ((nth r1 x4).Heat) ((nth r1 x4).Time)) (W ((((nth r1 x4).Time).From) - (((nth r1 (W (x4 - 1))).Time).To))))]) (W (x4 + 1)))))))
  else
  j4 x3
def session_rests_l1 (p_t : List GSlot) (p_l : List GCall) (j1 : (List GRest) → Option (List GRest)) : List GCall → Nat → (List GRest) → Option (List GRest)
  | [], _, x1 => j1 x1
  | y1 :: ys1, i1, x1 => Join (fun (x2 : List GRest) =>
  session_rests_l1 p_t p_l j1 ys1 (i1 + 1) x2) (fun j2 =>
  Join (fun (c1 : Bool) =>
  if c1 then
  j2 x1
  else
  Option.bind (session_calls (session_slots p_t) p_l y1.Who) (fun r1 =>
  Join (fun (x3 : List GRest) =>
  j2 x3) (fun j4 =>
  session_rests_l2 r1 y1 j4 (((r1.length : Int) - 1).toNat + 2) x1 1))) (fun j3 =>
  if (decide (0 < (i1 : Int))) then Chk (inB (W ((i1 : Int) - 1)) p_l.length) (
  j3 ((decide (0 < (i1 : Int))) && (decide (((nth p_l (W ((i1 : Int) - 1))).Who) = y1.Who)))) else j3 ((decide (0 < (i1 : Int))) && true)))
def session_rests (p_t : List GSlot) (p_l : List GCall) : Option (List GRest) :=
  Join (fun (x1 : List GRest) =>
  some x1) (fun j1 =>
  session_rests_l1 p_t p_l j1 p_l 0 ([] : List GRest))
def session_Rests (p_items : List GItem) (p_l : List GCall) (p_from : Int) : Option ((List GRest) × Int) :=
  Option.bind (session_CheckSwims p_items p_l) (fun r1 =>
  if !decide (r1 = 0) then
  some (([] : List GRest), r1)
  else
  Option.bind (session_begin p_items p_from) (fun r2 =>
  if !decide (r2.2 = 0) then
  some (([] : List GRest), r2.2)
  else
  Option.bind (session_rests r2.1 p_l) (fun r3 =>
  some (r3, 0))))
def session_Short_c1 (p_x : GRest) (p_a1 : Int) : Bool :=
  decide (p_a1 ≤ p_x.Long)
def slices_IndexFunc_Rest_session_Short_c1_l1 (p_f_0 : Int) (j1 : Int) : List GRest → Nat → Int
  | [], _ => j1
  | y1 :: ys1, i1 => if (session_Short_c1 y1 p_f_0) then
  (i1 : Int)
  else
  slices_IndexFunc_Rest_session_Short_c1_l1 p_f_0 j1 ys1 (i1 + 1)
def slices_IndexFunc_Rest_session_Short_c1 (p_s : List GRest) (p_f_0 : Int) : Int :=
  Join ((-1)) (fun j1 =>
  slices_IndexFunc_Rest_session_Short_c1_l1 p_f_0 j1 p_s 0)
def slices_DeleteFunc_Rest_session_Short_c1_l1 (p_del_0 : Int) (j1 : (List GRest) → Int → Option (List GRest)) : Nat → (List GRest) → Int → Int → Option (List GRest)
  | 0, _, _, _ => none
  | m1 + 1, x1, x2, x3 => if decide (x3 < (x1.length : Int)) then
  Join (fun (x4 : List GRest) (x5 : Int) =>
  slices_DeleteFunc_Rest_session_Short_c1_l1 p_del_0 j1 m1 x4 x5 (W (x3 + 1))) (fun j2 =>
  Chk (inB x3 x1.length) (
  Join (fun (x6 : List GRest) (x7 : Int) =>
  j2 x6 x7) (fun j3 =>
  if !(session_Short_c1 (GRest.mk ((nth x1 x3).Who) (GSlot.mk (((nth x1 x3).From).Item) (((nth x1 x3).From).Heat) (((nth x1 x3).From).Time)) (GSlot.mk (((nth x1 x3).To).Item) (((nth x1 x3).To).Heat) (((nth x1 x3).To).Time)) ((nth x1 x3).Long)) p_del_0) then
  Chk (inB x2 x1.length) (
  j3 (x1.set x2.toNat (GRest.mk ((nth x1 x3).Who) (GSlot.mk (((nth x1 x3).From).Item) (((nth x1 x3).From).Heat) (((nth x1 x3).From).Time)) (GSlot.mk (((nth x1 x3).To).Item) (((nth x1 x3).To).Heat) (((nth x1 x3).To).Time)) ((nth x1 x3).Long))) (W (x2 + 1)))
  else
  j3 x1 x2)))
  else
  j1 x1 x2
def slices_DeleteFunc_Rest_session_Short_c1 (p_s : List GRest) (p_del_0 : Int) : Option (List GRest) :=
  if decide ((slices_IndexFunc_Rest_session_Short_c1 p_s p_del_0) = (-1)) then
  some p_s
  else
  Join (fun (x1 : List GRest) (x2 : Int) =>
  Chk (cutB x2 (x1.length : Int) x1.length) (
  Chk (cutB 0 x2 (clr x1 x2 (x1.length : Int) (GRest.mk k_empty (GSlot.mk k_empty 0 (GWindow.mk 0 0)) (GSlot.mk k_empty 0 (GWindow.mk 0 0)) 0)).length) (
  some (cut (clr x1 x2 (x1.length : Int) (GRest.mk k_empty (GSlot.mk k_empty 0 (GWindow.mk 0 0)) (GSlot.mk k_empty 0 (GWindow.mk 0 0)) 0)) (0 : Int) x2)))) (fun j1 =>
  slices_DeleteFunc_Rest_session_Short_c1_l1 p_del_0 j1 (((p_s.length : Int) - (W ((slices_IndexFunc_Rest_session_Short_c1 p_s p_del_0) + 1))).toNat + 2) p_s (slices_IndexFunc_Rest_session_Short_c1 p_s p_del_0) (W ((slices_IndexFunc_Rest_session_Short_c1 p_s p_del_0) + 1)))
def session_Short (p_items : List GItem) (p_l : List GCall) (p_from : Int) (p_need : Int) : Option ((List GRest) × Int) :=
  Option.bind (session_Rests p_items p_l p_from) (fun r1 =>
  if !decide (r1.2 = 0) then
  some (([] : List GRest), r1.2)
  else
  if !(words_Within p_need 0 3600000) then
  some (([] : List GRest), 1)
  else
  Option.bind (slices_DeleteFunc_Rest_session_Short_c1 r1.1 p_need) (fun r2 =>
  some (r2, 0)))
def session_Both_c1 (p_a : GPair) (p_b : GPair) : Int :=
  (cmp_Or_int [(strings_Compare p_a.Name p_b.Name), (strings_Compare p_a.Value p_b.Value)])
def slices_insertionSortCmpFunc_Pair_session_Both_c1_l2 (p_a : Int) (j2 : (List GPair) → Option (List GPair)) : Nat → (List GPair) → Int → Option (List GPair)
  | 0, _, _ => none
  | m2 + 1, x3, x4 => Join (fun (x5 : Bool) =>
  if x5 then
  Chk (inB (W (x4 - 1)) x3.length) (
  Chk (inB x4 x3.length) (
  Chk (inB x4 x3.length) (
  Chk (inB (W (x4 - 1)) (x3.set x4.toNat (nth x3 (W (x4 - 1)))).length) (
  slices_insertionSortCmpFunc_Pair_session_Both_c1_l2 p_a j2 m2 ((x3.set x4.toNat (nth x3 (W (x4 - 1)))).set ((W (x4 - 1)).toNat) (nth x3 x4)) (W (x4 - 1))))))
  else
  j2 x3) (fun j3 =>
  if decide (p_a < x4) then
  Chk (inB x4 x3.length) (
  Chk (inB (W (x4 - 1)) x3.length) (
  j3 (decide ((session_Both_c1 (nth x3 x4) (nth x3 (W (x4 - 1)))) < 0))))
  else
  j3 false)
def slices_insertionSortCmpFunc_Pair_session_Both_c1_l1 (p_b : Int) (p_a : Int) (j1 : (List GPair) → Option (List GPair)) : Nat → (List GPair) → Int → Option (List GPair)
  | 0, _, _ => none
  | m1 + 1, x1, x2 => if decide (x2 < p_b) then
  Join (fun (x3 : List GPair) =>
  slices_insertionSortCmpFunc_Pair_session_Both_c1_l1 p_b p_a j1 m1 x3 (W (x2 + 1))) (fun j2 =>
  slices_insertionSortCmpFunc_Pair_session_Both_c1_l2 p_a j2 ((x2 - p_a).toNat + 2) x1 x2)
  else
  j1 x1
def slices_insertionSortCmpFunc_Pair_session_Both_c1 (p_data : List GPair) (p_a : Int) (p_b : Int) : Option (List GPair) :=
  Join (fun (x1 : List GPair) =>
  some x1) (fun j1 =>
  slices_insertionSortCmpFunc_Pair_session_Both_c1_l1 p_b p_a j1 ((p_b - (W (p_a + 1))).toNat + 2) p_data (W (p_a + 1)))
def slices_pdqsortCmpFunc_Pair_session_Both_c1_l1 (p_data : List GPair) : Nat → Int → Int → Int → Bool → Option (List GPair)
  | 0, _, _, _, _ => none
  | _ + 1, x1, x2, x3, x4 => if decide ((W (x2 - x1)) ≤ 12) then
  Option.bind (slices_insertionSortCmpFunc_Pair_session_Both_c1 p_data x1 x2) (fun r1 =>
  some r1)
  else
  if decide (x3 = 0) then
  none
  else
  if !x4 then
  none
  else
  none
def slices_pdqsortCmpFunc_Pair_session_Both_c1 (p_data : List GPair) (p_a : Int) (p_b : Int) (p_limit : Int) : Option (List GPair) :=
  slices_pdqsortCmpFunc_Pair_session_Both_c1_l1 p_data 4611686018427387904 p_a p_b p_limit true
def slices_SortFunc_Pair_session_Both_c1 (p_x : List GPair) : Option (List GPair) :=
  Option.bind (bits_Len (IntKind.wrap .u64 (p_x.length : Int))) (fun r1 =>
  Option.bind (slices_pdqsortCmpFunc_Pair_session_Both_c1 p_x 0 (p_x.length : Int) r1) (fun r2 =>
  some r2))
def session_Both_l2 (y1 : GCall) (j2 : (List GPair) → (List (GPair × Bool)) → Option ((List GPair) × Int)) : List GCall → Nat → (List GPair) → (List (GPair × Bool)) → Option ((List GPair) × Int)
  | [], _, x3, x4 => j2 x3 x4
  | y2 :: ys2, i2, x3, x4 => Join (fun (x5 : List GPair) (x6 : List (GPair × Bool)) =>
  session_Both_l2 y1 j2 ys2 (i2 + 1) x5 x6) (fun j3 =>
  if !decide (y2.Who = y1.Who) then
  j2 x3 x4
  else
  Join (fun (x7 : List GPair) (x8 : List (GPair × Bool)) =>
  j3 x7 x8) (fun j4 =>
  if ((!decide (y1.Item = y2.Item)) && (!(mgetD x4 (GPair.mk y1.Item y2.Item) false))) then
  Chk (room x3.length) (
  j4 (x3 ++ [(GPair.mk y1.Item y2.Item)]) (mput x4 (GPair.mk y1.Item y2.Item) true))
  else
  j4 x3 x4))
def session_Both_l1 (p_l : List GCall) (j1 : (List GPair) → (List (GPair × Bool)) → Option ((List GPair) × Int)) : List GCall → Nat → (List GPair) → (List (GPair × Bool)) → Option ((List GPair) × Int)
  | [], _, x1, x2 => j1 x1 x2
  | y1 :: ys1, i1, x1, x2 => Chk (cutB (W ((i1 : Int) + 1)) (p_l.length : Int) p_l.length) (
  Join (fun (x3 : List GPair) (x4 : List (GPair × Bool)) =>
  session_Both_l1 p_l j1 ys1 (i1 + 1) x3 x4) (fun j2 =>
  session_Both_l2 y1 j2 (cut p_l (W ((i1 : Int) + 1)) p_l.length) 0 x1 x2))
def session_Both (p_items : List GItem) (p_l : List GCall) : Option ((List GPair) × Int) :=
  Option.bind (session_CheckSwims p_items p_l) (fun r1 =>
  if !decide (r1 = 0) then
  some (([] : List GPair), r1)
  else
  Join (fun (x1 : List GPair) (x2 : List (GPair × Bool)) =>
  Option.bind (slices_SortFunc_Pair_session_Both_c1 x1) (fun r2 =>
  some (r2, 0))) (fun j1 =>
  session_Both_l1 p_l j1 p_l 0 ([] : List GPair) ([] : List (GPair × Bool))))
def tumbref2_in (p_n : Int) (p_low : Int) (p_high : Int) : Bool :=
  ((decide (p_low ≤ p_n)) && (decide (p_n ≤ p_high)))
def strings_IndexByte (s : ByteArray) (c : Int) : Int := Lib.indexByte s.data.toList c.toNat.toUInt8
def tumbref2_only_l1 (p_s : ByteArray) (p_some : ByteArray) (j1 : Option Bool) : Nat → Int → Option Bool
  | 0, _ => none
  | m1 + 1, x1 => if decide (x1 < (p_s.size : Int)) then
  Chk (inB x1 p_s.size) (
  if decide ((strings_IndexByte p_some (sbyte p_s x1)) < 0) then
  some false
  else
  tumbref2_only_l1 p_s p_some j1 m1 (W (x1 + 1)))
  else
  j1
def tumbref2_only (p_s : ByteArray) (p_some : ByteArray) : Option Bool :=
  Join (some true) (fun j1 =>
  tumbref2_only_l1 p_s p_some j1 (((p_s.size : Int) - 0).toNat + 2) 0)
def tumbref2_Key (p_s : ByteArray) : Option Bool :=
  Join (fun (c1 : Bool) =>
  Join (fun (c2 : Bool) =>
  some c2) (fun j2 =>
  if c1 then Option.bind (tumbref2_only p_s k_abcdefghijkl_h0e2e2c) (fun r2 =>
  j2 (c1 && r2)) else j2 (c1 && true))) (fun j1 =>
  if (tumbref2_in (p_s.size : Int) 1 40) then Chk (cutB 0 1 p_s.size) (
  Option.bind (tumbref2_only (scut p_s 0 1) k_abcdefghijklmnopqrstuvwxyz) (fun r1 =>
  j1 ((tumbref2_in (p_s.size : Int) 1 40) && r1))) else j1 ((tumbref2_in (p_s.size : Int) 1 40) && true))
def tumbref2_ItemAt_c1 (p_x : GItem) (p_a1 : ByteArray) : Bool :=
  decide (p_x.Key = p_a1)
def slices_IndexFunc_Item_tumbref2_ItemAt_c1_l1 (p_f_0 : ByteArray) (j1 : Int) : List GItem → Nat → Int
  | [], _ => j1
  | y1 :: ys1, i1 => if (tumbref2_ItemAt_c1 y1 p_f_0) then
  (i1 : Int)
  else
  slices_IndexFunc_Item_tumbref2_ItemAt_c1_l1 p_f_0 j1 ys1 (i1 + 1)
def slices_IndexFunc_Item_tumbref2_ItemAt_c1 (p_s : List GItem) (p_f_0 : ByteArray) : Int :=
  Join ((-1)) (fun j1 =>
  slices_IndexFunc_Item_tumbref2_ItemAt_c1_l1 p_f_0 j1 p_s 0)
def tumbref2_ItemAt (p_l : List GItem) (p_key : ByteArray) : Int :=
  (slices_IndexFunc_Item_tumbref2_ItemAt_c1 p_l p_key)
def tumbref2_ItemsFault_l1 (p_l : List GItem) (j1 : Option Int) : List GItem → Nat → Option Int
  | [], _ => j1
  | y1 :: ys1, i1 => Option.bind (tumbref2_Key y1.Key) (fun r1 =>
  if !r1 then
  some 5
  else
  Chk (cutB 0 (i1 : Int) p_l.length) (
  if decide (0 ≤ (tumbref2_ItemAt (cut p_l 0 (i1 : Int)) y1.Key)) then
  some 6
  else
  if ((((!(tumbref2_in y1.Heats 1 60)) || (!(tumbref2_in y1.Long 1 3600000))) || (!(tumbref2_in y1.Gap 0 3600000))) || (!(tumbref2_in y1.Break 0 3600000))) then
  some 1
  else
  tumbref2_ItemsFault_l1 p_l j1 ys1 (i1 + 1)))
def tumbref2_ItemsFault (p_l : List GItem) : Option Int :=
  if decide (100 < (p_l.length : Int)) then
  some 2
  else
  Join (some 0) (fun j1 =>
  tumbref2_ItemsFault_l1 p_l j1 p_l 0)
def cmp_isNaN_string (p_x : ByteArray) : Bool :=
  !decide (p_x = p_x)
def cmp_Compare_string (p_x : ByteArray) (p_y : ByteArray) : Int :=
  if (cmp_isNaN_string p_x) then
  if (cmp_isNaN_string p_y) then
  0
  else
  (-1)
  else
  if (cmp_isNaN_string p_y) then
  1
  else
  if Sless p_x p_y then
  (-1)
  else
  if !(Sless p_x p_y || decide (p_x = p_y)) then
  1
  else
  0
def slices_Compare_string_l1 (p_s2 : List ByteArray) (j1 : Option Int) : List ByteArray → Nat → Option Int
  | [], _ => j1
  | y1 :: ys1, i1 => if decide ((p_s2.length : Int) ≤ (i1 : Int)) then
  some 1
  else
  Chk (inB (i1 : Int) p_s2.length) (
  if !decide ((cmp_Compare_string y1 (nth p_s2 (i1 : Int))) = 0) then
  some (cmp_Compare_string y1 (nth p_s2 (i1 : Int)))
  else
  slices_Compare_string_l1 p_s2 j1 ys1 (i1 + 1))
def slices_Compare_string (p_s1 : List ByteArray) (p_s2 : List ByteArray) : Option Int :=
  Join (if decide ((p_s1.length : Int) < (p_s2.length : Int)) then
  some (-1)
  else
  some 0) (fun j1 =>
  slices_Compare_string_l1 p_s2 j1 p_s1 0)
def tumbref2_sign (p_n : Int) : Int :=
  if decide (p_n < 0) then
  (-1)
  else
  if decide (0 < p_n) then
  1
  else
  0
def tumbref2_callOrder (p_a : GCall) (p_b : GCall) : Option Int :=
  Option.bind (slices_Compare_string [p_a.Who, p_a.Item] [p_b.Who, p_b.Item]) (fun r1 =>
  if !decide (r1 = 0) then
  some r1
  else
  some (tumbref2_sign (W (p_a.Heat - p_b.Heat))))
def tumbref2_CallsFault_l1 (p_items : List GItem) (p_l : List GCall) (j1 : Option Int) : List GCall → Nat → Option Int
  | [], _ => j1
  | y1 :: ys1, i1 => Option.bind (tumbref2_Key y1.Who) (fun r2 =>
  if !r2 then
  some 5
  else
  if decide ((tumbref2_ItemAt p_items y1.Item) < 0) then
  some 8
  else
  Chk (inB (tumbref2_ItemAt p_items y1.Item) p_items.length) (
  if !(tumbref2_in y1.Heat 1 ((nth p_items (tumbref2_ItemAt p_items y1.Item)).Heats)) then
  some 1
  else
  Join (fun (x1 : Bool) =>
  if x1 then
  some 7
  else
  tumbref2_CallsFault_l1 p_items p_l j1 ys1 (i1 + 1)) (fun j2 =>
  if decide (0 < (i1 : Int)) then
  Chk (inB (W ((i1 : Int) - 1)) p_l.length) (
  Option.bind (tumbref2_callOrder (nth p_l (W ((i1 : Int) - 1))) y1) (fun r3 =>
  j2 (decide (0 ≤ r3))))
  else
  j2 false)))
def tumbref2_CallsFault (p_items : List GItem) (p_l : List GCall) : Option Int :=
  Option.bind (tumbref2_ItemsFault p_items) (fun r1 =>
  if !decide (r1 = 0) then
  some r1
  else
  if decide (2000 < (p_l.length : Int)) then
  some 2
  else
  Join (some 0) (fun j1 =>
  tumbref2_CallsFault_l1 p_items p_l j1 p_l 0))
def tumbref2_Moment (p_at : Int) : Bool :=
  (tumbref2_in p_at 0 345686399999)
def tumbref2_SlotsOf_l2 (y1 : GItem) (i1 : Nat) (p_l : List GItem) (p_from : Int) (j2 : (List GSlot) → Option (List GSlot)) : Nat → (List GSlot) → Int → Option (List GSlot)
  | 0, _, _ => none
  | m1 + 1, x2, x3 => if decide (x3 ≤ y1.Heats) then
  Join (fun (x4 : Int) =>
  Chk (room x2.length) (
  tumbref2_SlotsOf_l2 y1 i1 p_l p_from j2 m1 (x2 ++ [(GSlot.mk y1.Key x3 (GWindow.mk x4 (W (x4 + y1.Long))))]) (W (x3 + 1)))) (fun j3 =>
  if decide (0 < (x2.length : Int)) then
  Chk (inB (W ((x2.length : Int) - 1)) x2.length) (
  Join (fun (x5 : Int) =>
  j3 x5) (fun j4 =>
  if decide (x3 = 1) then
  Chk (inB (W ((x2.length : Int) - 1)) x2.length) (
  Chk (inB (W ((i1 : Int) - 1)) p_l.length) (
  j4 (W ((((nth x2 (W ((x2.length : Int) - 1))).Time).To) + ((nth p_l (W ((i1 : Int) - 1))).Break)))))
  else
  j4 (W ((((nth x2 (W ((x2.length : Int) - 1))).Time).To) + y1.Gap))))
  else
  j3 p_from)
  else
  j2 x2
def tumbref2_SlotsOf_l1 (p_l : List GItem) (p_from : Int) (j1 : (List GSlot) → Option (List GSlot)) : List GItem → Nat → (List GSlot) → Option (List GSlot)
  | [], _, x1 => j1 x1
  | y1 :: ys1, i1, x1 => Join (fun (x2 : List GSlot) =>
  tumbref2_SlotsOf_l1 p_l p_from j1 ys1 (i1 + 1) x2) (fun j2 =>
  tumbref2_SlotsOf_l2 y1 i1 p_l p_from j2 ((y1.Heats - 1).toNat + 2) x1 1)
def tumbref2_SlotsOf (p_l : List GItem) (p_from : Int) : Option (List GSlot) :=
  Join (fun (x1 : List GSlot) =>
  some x1) (fun j1 =>
  tumbref2_SlotsOf_l1 p_l p_from j1 p_l 0 ([] : List GSlot))
def tumbref2_EndOf_l1 (j1 : Int → Option Int) : List GSlot → Nat → Int → Option Int
  | [], _, x1 => j1 x1
  | y1 :: ys1, i1, _ => tumbref2_EndOf_l1 j1 ys1 (i1 + 1) y1.Time.To
def tumbref2_EndOf (p_l : List GItem) (p_from : Int) : Option Int :=
  Option.bind (tumbref2_SlotsOf p_l p_from) (fun r1 =>
  Join (fun (x1 : Int) =>
  some x1) (fun j1 =>
  tumbref2_EndOf_l1 j1 r1 0 p_from))
def tumbref2_FromFault (p_l : List GItem) (p_from : Int) : Option Int :=
  Join (fun (c1 : Bool) =>
  if c1 then
  some 1
  else
  some 0) (fun j1 =>
  if (!(tumbref2_Moment p_from)) then j1 ((!(tumbref2_Moment p_from)) || true) else Option.bind (tumbref2_EndOf p_l p_from) (fun r1 =>
  j1 ((!(tumbref2_Moment p_from)) || (decide (345686400000 < r1)))))
def tumblaw2_when (p_is : Bool) (p_e : Int) : Int :=
  if p_is then
  p_e
  else
  0
def tumblaw2_nameFault (p_s : ByteArray) : Option Int :=
  Option.bind (tumbref2_Key p_s) (fun r1 =>
  some (tumblaw2_when (!r1) 5))
def tumblaw2_errs_l1 (j1 : Int) : List Int → Nat → Int
  | [], _ => j1
  | y1 :: ys1, i1 => if !decide (y1 = 0) then
  y1
  else
  tumblaw2_errs_l1 j1 ys1 (i1 + 1)
def tumblaw2_errs (p_l : List Int) : Int :=
  Join (0) (fun j1 =>
  tumblaw2_errs_l1 j1 p_l 0)
def slices_Index_Call_l1 (p_v : GCall) (j1 : Int) : List GCall → Nat → Int
  | [], _ => j1
  | y1 :: ys1, i1 => if decide (p_v = y1) then
  (i1 : Int)
  else
  slices_Index_Call_l1 p_v j1 ys1 (i1 + 1)
def slices_Index_Call (p_s : List GCall) (p_v : GCall) : Int :=
  Join ((-1)) (fun j1 =>
  slices_Index_Call_l1 p_v j1 p_s 0)
def slices_Contains_Call (p_s : List GCall) (p_v : GCall) : Bool :=
  decide (0 ≤ (slices_Index_Call p_s p_v))
def tumbref2_CallsOf_c1 (p_s : GSlot) (p_a1 : List GCall) (p_a2 : ByteArray) : Bool :=
  !(slices_Contains_Call p_a1 (GCall.mk p_a2 p_s.Item p_s.Heat))
def slices_IndexFunc_Slot_tumbref2_CallsOf_c1_l1 (p_f_0 : List GCall) (p_f_1 : ByteArray) (j1 : Int) : List GSlot → Nat → Int
  | [], _ => j1
  | y1 :: ys1, i1 => if (tumbref2_CallsOf_c1 y1 p_f_0 p_f_1) then
  (i1 : Int)
  else
  slices_IndexFunc_Slot_tumbref2_CallsOf_c1_l1 p_f_0 p_f_1 j1 ys1 (i1 + 1)
def slices_IndexFunc_Slot_tumbref2_CallsOf_c1 (p_s : List GSlot) (p_f_0 : List GCall) (p_f_1 : ByteArray) : Int :=
  Join ((-1)) (fun j1 =>
  slices_IndexFunc_Slot_tumbref2_CallsOf_c1_l1 p_f_0 p_f_1 j1 p_s 0)
def slices_DeleteFunc_Slot_tumbref2_CallsOf_c1_l1 (p_del_0 : List GCall) (p_del_1 : ByteArray) (j1 : (List GSlot) → Int → Option (List GSlot)) : Nat → (List GSlot) → Int → Int → Option (List GSlot)
  | 0, _, _, _ => none
  | m1 + 1, x1, x2, x3 => if decide (x3 < (x1.length : Int)) then
  Join (fun (x4 : List GSlot) (x5 : Int) =>
  slices_DeleteFunc_Slot_tumbref2_CallsOf_c1_l1 p_del_0 p_del_1 j1 m1 x4 x5 (W (x3 + 1))) (fun j2 =>
  Chk (inB x3 x1.length) (
  Join (fun (x6 : List GSlot) (x7 : Int) =>
  j2 x6 x7) (fun j3 =>
  if !(tumbref2_CallsOf_c1 (GSlot.mk ((nth x1 x3).Item) ((nth x1 x3).Heat) ((nth x1 x3).Time)) p_del_0 p_del_1) then
  Chk (inB x2 x1.length) (
  j3 (x1.set x2.toNat (GSlot.mk ((nth x1 x3).Item) ((nth x1 x3).Heat) ((nth x1 x3).Time))) (W (x2 + 1)))
  else
  j3 x1 x2)))
  else
  j1 x1 x2
def slices_DeleteFunc_Slot_tumbref2_CallsOf_c1 (p_s : List GSlot) (p_del_0 : List GCall) (p_del_1 : ByteArray) : Option (List GSlot) :=
  if decide ((slices_IndexFunc_Slot_tumbref2_CallsOf_c1 p_s p_del_0 p_del_1) = (-1)) then
  some p_s
  else
  Join (fun (x1 : List GSlot) (x2 : Int) =>
  Chk (cutB x2 (x1.length : Int) x1.length) (
  Chk (cutB 0 x2 (clr x1 x2 (x1.length : Int) (GSlot.mk k_empty 0 (GWindow.mk 0 0))).length) (
  some (cut (clr x1 x2 (x1.length : Int) (GSlot.mk k_empty 0 (GWindow.mk 0 0))) (0 : Int) x2)))) (fun j1 =>
  slices_DeleteFunc_Slot_tumbref2_CallsOf_c1_l1 p_del_0 p_del_1 j1 (((p_s.length : Int) - (W ((slices_IndexFunc_Slot_tumbref2_CallsOf_c1 p_s p_del_0 p_del_1) + 1))).toNat + 2) p_s (slices_IndexFunc_Slot_tumbref2_CallsOf_c1 p_s p_del_0 p_del_1) (W ((slices_IndexFunc_Slot_tumbref2_CallsOf_c1 p_s p_del_0 p_del_1) + 1)))
def tumbref2_CallsOf (p_items : List GItem) (p_l : List GCall) (p_who : ByteArray) (p_from : Int) : Option (List GSlot) :=
  Option.bind (tumbref2_SlotsOf p_items p_from) (fun r1 =>
  Option.bind (slices_DeleteFunc_Slot_tumbref2_CallsOf_c1 r1 p_l p_who) (fun r2 =>
  some r2))
def slices_Compact_string_l2 (p_s : List ByteArray) (x1 : Int) (j2 : (List ByteArray) → Int → Option (List ByteArray)) : Nat → (List ByteArray) → Int → Int → Option (List ByteArray)
  | 0, _, _, _ => none
  | m2 + 1, x2, x3, x4 => if decide (x4 < (((p_s.length : Int).toNat - x1.toNat : Nat) : Int)) then
  Join (fun (x5 : List ByteArray) (x6 : Int) =>
  slices_Compact_string_l2 p_s x1 j2 m2 x5 x6 (W (x4 + 1))) (fun j3 =>
  Chk (inB x4 ((p_s.length : Int).toNat - x1.toNat)) (
  Chk (inB (W (x4 - 1)) ((p_s.length : Int).toNat - x1.toNat)) (
  Join (fun (x7 : List ByteArray) (x8 : Int) =>
  j3 x7 x8) (fun j4 =>
  if !decide ((nth (cut x2 x1 (p_s.length : Int)) x4) = (nth (cut x2 x1 (p_s.length : Int)) (W (x4 - 1)))) then
  Chk (inB x4 ((p_s.length : Int).toNat - x1.toNat)) (
  Chk (inB x3 x2.length) (
  j4 (x2.set x3.toNat (nth (cut x2 x1 (p_s.length : Int)) x4)) (W (x3 + 1))))
  else
  j4 x2 x3))))
  else
  j2 x2 x3
def slices_Compact_string_l1 (p_s : List ByteArray) (j1 : Option (List ByteArray)) : Nat → Int → Option (List ByteArray)
  | 0, _ => none
  | m1 + 1, x1 => if decide (x1 < (p_s.length : Int)) then
  Chk (inB x1 p_s.length) (
  Chk (inB (W (x1 - 1)) p_s.length) (
  if decide ((nth p_s x1) = (nth p_s (W (x1 - 1)))) then
  Chk (cutB x1 (p_s.length : Int) p_s.length) (
  Join (fun (x2 : List ByteArray) (x3 : Int) =>
  Chk (cutB x3 (x2.length : Int) x2.length) (
  Chk (cutB 0 x3 (clr x2 x3 (x2.length : Int) k_empty).length) (
  some (cut (clr x2 x3 (x2.length : Int) k_empty) (0 : Int) x3)))) (fun j2 =>
  slices_Compact_string_l2 p_s x1 j2 (((((p_s.length : Int).toNat - x1.toNat : Nat) : Int) - 1).toNat + 2) p_s x1 1))
  else
  slices_Compact_string_l1 p_s j1 m1 (W (x1 + 1))))
  else
  j1
def slices_Compact_string (p_s : List ByteArray) : Option (List ByteArray) :=
  if decide ((p_s.length : Int) < 2) then
  some p_s
  else
  Join (some p_s) (fun j1 =>
  slices_Compact_string_l1 p_s j1 (((p_s.length : Int) - 1).toNat + 2) 1)
def tumbref2_RestsOf_l1 (j1 : (List ByteArray) → Option (List GRest)) : List GCall → Nat → (List ByteArray) → Option (List GRest)
  | [], _, x1 => j1 x1
  | y1 :: ys1, i1, x1 => Chk (room x1.length) (
  tumbref2_RestsOf_l1 j1 ys1 (i1 + 1) (x1 ++ [y1.Who]))
def tumbref2_RestsOf_l3 (r2 : (List GSlot)) (y2 : ByteArray) (j3 : (List GRest) → Option (List GRest)) : Nat → (List GRest) → Int → Option (List GRest)
  | 0, _, _ => none
  | m1 + 1, x3, x4 => if decide (x4 < (r2.length : Int)) then
  Chk (inB (W (x4 - 1)) r2.length) (
  Chk (inB x4 r2.length) (
  Chk (inB x4 r2.length) (
  Chk (inB (W (x4 - 1)) r2.length) (
  Chk (room x3.length) (
  tumbref2_RestsOf_l3 r2 y2 j3 m1 (x3 ++ [(GRest.mk y2 (GSlot.mk ((nth r2 (W (x4 - 1))).Item) ((nth r2 (W (x4 - 1))).Heat) ((nth r2 (W (x4 - 1))).Time)) (GSlot.mk ((nth r2 x4).Item) ((nth r2 x4).Heat) ((nth r2 x4).Time)) (W ((((nth r2 x4).Time).From) - (((nth r2 (W (x4 - 1))).Time).To))))]) (W (x4 + 1)))))))
  else
  j3 x3
def tumbref2_RestsOf_l2 (p_items : List GItem) (p_l : List GCall) (p_from : Int) (j2 : (List GRest) → Option (List GRest)) : List ByteArray → Nat → (List GRest) → Option (List GRest)
  | [], _, x2 => j2 x2
  | y2 :: ys2, i2, x2 => Option.bind (tumbref2_CallsOf p_items p_l y2 p_from) (fun r2 =>
  Join (fun (x3 : List GRest) =>
  tumbref2_RestsOf_l2 p_items p_l p_from j2 ys2 (i2 + 1) x3) (fun j3 =>
  tumbref2_RestsOf_l3 r2 y2 j3 (((r2.length : Int) - 1).toNat + 2) x2 1))
def tumbref2_RestsOf (p_items : List GItem) (p_l : List GCall) (p_from : Int) : Option (List GRest) :=
  Join (fun (x1 : List ByteArray) =>
  Option.bind (slices_Compact_string x1) (fun r1 =>
  Join (fun (x2 : List GRest) =>
  some x2) (fun j2 =>
  tumbref2_RestsOf_l2 p_items p_l p_from j2 r1 0 ([] : List GRest)))) (fun j1 =>
  tumbref2_RestsOf_l1 j1 p_l 0 ([] : List ByteArray))
def tumbref2_ShortOf_c1 (p_r : GRest) (p_a1 : Int) : Bool :=
  decide (p_a1 ≤ p_r.Long)
def slices_IndexFunc_Rest_tumbref2_ShortOf_c1_l1 (p_f_0 : Int) (j1 : Int) : List GRest → Nat → Int
  | [], _ => j1
  | y1 :: ys1, i1 => if (tumbref2_ShortOf_c1 y1 p_f_0) then
  (i1 : Int)
  else
  slices_IndexFunc_Rest_tumbref2_ShortOf_c1_l1 p_f_0 j1 ys1 (i1 + 1)
def slices_IndexFunc_Rest_tumbref2_ShortOf_c1 (p_s : List GRest) (p_f_0 : Int) : Int :=
  Join ((-1)) (fun j1 =>
  slices_IndexFunc_Rest_tumbref2_ShortOf_c1_l1 p_f_0 j1 p_s 0)
def slices_DeleteFunc_Rest_tumbref2_ShortOf_c1_l1 (p_del_0 : Int) (j1 : (List GRest) → Int → Option (List GRest)) : Nat → (List GRest) → Int → Int → Option (List GRest)
  | 0, _, _, _ => none
  | m1 + 1, x1, x2, x3 => if decide (x3 < (x1.length : Int)) then
  Join (fun (x4 : List GRest) (x5 : Int) =>
  slices_DeleteFunc_Rest_tumbref2_ShortOf_c1_l1 p_del_0 j1 m1 x4 x5 (W (x3 + 1))) (fun j2 =>
  Chk (inB x3 x1.length) (
  Join (fun (x6 : List GRest) (x7 : Int) =>
  j2 x6 x7) (fun j3 =>
  if !(tumbref2_ShortOf_c1 (GRest.mk ((nth x1 x3).Who) (GSlot.mk (((nth x1 x3).From).Item) (((nth x1 x3).From).Heat) (((nth x1 x3).From).Time)) (GSlot.mk (((nth x1 x3).To).Item) (((nth x1 x3).To).Heat) (((nth x1 x3).To).Time)) ((nth x1 x3).Long)) p_del_0) then
  Chk (inB x2 x1.length) (
  j3 (x1.set x2.toNat (GRest.mk ((nth x1 x3).Who) (GSlot.mk (((nth x1 x3).From).Item) (((nth x1 x3).From).Heat) (((nth x1 x3).From).Time)) (GSlot.mk (((nth x1 x3).To).Item) (((nth x1 x3).To).Heat) (((nth x1 x3).To).Time)) ((nth x1 x3).Long))) (W (x2 + 1)))
  else
  j3 x1 x2)))
  else
  j1 x1 x2
def slices_DeleteFunc_Rest_tumbref2_ShortOf_c1 (p_s : List GRest) (p_del_0 : Int) : Option (List GRest) :=
  if decide ((slices_IndexFunc_Rest_tumbref2_ShortOf_c1 p_s p_del_0) = (-1)) then
  some p_s
  else
  Join (fun (x1 : List GRest) (x2 : Int) =>
  Chk (cutB x2 (x1.length : Int) x1.length) (
  Chk (cutB 0 x2 (clr x1 x2 (x1.length : Int) (GRest.mk k_empty (GSlot.mk k_empty 0 (GWindow.mk 0 0)) (GSlot.mk k_empty 0 (GWindow.mk 0 0)) 0)).length) (
  some (cut (clr x1 x2 (x1.length : Int) (GRest.mk k_empty (GSlot.mk k_empty 0 (GWindow.mk 0 0)) (GSlot.mk k_empty 0 (GWindow.mk 0 0)) 0)) (0 : Int) x2)))) (fun j1 =>
  slices_DeleteFunc_Rest_tumbref2_ShortOf_c1_l1 p_del_0 j1 (((p_s.length : Int) - (W ((slices_IndexFunc_Rest_tumbref2_ShortOf_c1 p_s p_del_0) + 1))).toNat + 2) p_s (slices_IndexFunc_Rest_tumbref2_ShortOf_c1 p_s p_del_0) (W ((slices_IndexFunc_Rest_tumbref2_ShortOf_c1 p_s p_del_0) + 1)))
def tumbref2_ShortOf (p_items : List GItem) (p_l : List GCall) (p_from : Int) (p_need : Int) : Option (List GRest) :=
  Option.bind (tumbref2_RestsOf p_items p_l p_from) (fun r1 =>
  Option.bind (slices_DeleteFunc_Rest_tumbref2_ShortOf_c1 r1 p_need) (fun r2 =>
  some r2))
def slices_Index_Pair_l1 (p_v : GPair) (j1 : Int) : List GPair → Nat → Int
  | [], _ => j1
  | y1 :: ys1, i1 => if decide (p_v = y1) then
  (i1 : Int)
  else
  slices_Index_Pair_l1 p_v j1 ys1 (i1 + 1)
def slices_Index_Pair (p_s : List GPair) (p_v : GPair) : Int :=
  Join ((-1)) (fun j1 =>
  slices_Index_Pair_l1 p_v j1 p_s 0)
def slices_Contains_Pair (p_s : List GPair) (p_v : GPair) : Bool :=
  decide (0 ≤ (slices_Index_Pair p_s p_v))
def tumbref2_BothOf_c1 (p_a : GPair) (p_b : GPair) : Option Int :=
  Option.bind (slices_Compare_string [p_a.Name, p_a.Value] [p_b.Name, p_b.Value]) (fun r1 =>
  some r1)
def slices_insertionSortCmpFunc_Pair_tumbref2_BothOf_c1_l2 (p_a : Int) (j2 : (List GPair) → Option (List GPair)) : Nat → (List GPair) → Int → Option (List GPair)
  | 0, _, _ => none
  | m2 + 1, x3, x4 => Join (fun (x5 : Bool) =>
  if x5 then
  Chk (inB (W (x4 - 1)) x3.length) (
  Chk (inB x4 x3.length) (
  Chk (inB x4 x3.length) (
  Chk (inB (W (x4 - 1)) (x3.set x4.toNat (nth x3 (W (x4 - 1)))).length) (
  slices_insertionSortCmpFunc_Pair_tumbref2_BothOf_c1_l2 p_a j2 m2 ((x3.set x4.toNat (nth x3 (W (x4 - 1)))).set ((W (x4 - 1)).toNat) (nth x3 x4)) (W (x4 - 1))))))
  else
  j2 x3) (fun j3 =>
  if decide (p_a < x4) then
  Chk (inB x4 x3.length) (
  Chk (inB (W (x4 - 1)) x3.length) (
  Option.bind (tumbref2_BothOf_c1 (nth x3 x4) (nth x3 (W (x4 - 1)))) (fun r1 =>
  j3 (decide (r1 < 0)))))
  else
  j3 false)
def slices_insertionSortCmpFunc_Pair_tumbref2_BothOf_c1_l1 (p_b : Int) (p_a : Int) (j1 : (List GPair) → Option (List GPair)) : Nat → (List GPair) → Int → Option (List GPair)
  | 0, _, _ => none
  | m1 + 1, x1, x2 => if decide (x2 < p_b) then
  Join (fun (x3 : List GPair) =>
  slices_insertionSortCmpFunc_Pair_tumbref2_BothOf_c1_l1 p_b p_a j1 m1 x3 (W (x2 + 1))) (fun j2 =>
  slices_insertionSortCmpFunc_Pair_tumbref2_BothOf_c1_l2 p_a j2 ((x2 - p_a).toNat + 2) x1 x2)
  else
  j1 x1
def slices_insertionSortCmpFunc_Pair_tumbref2_BothOf_c1 (p_data : List GPair) (p_a : Int) (p_b : Int) : Option (List GPair) :=
  Join (fun (x1 : List GPair) =>
  some x1) (fun j1 =>
  slices_insertionSortCmpFunc_Pair_tumbref2_BothOf_c1_l1 p_b p_a j1 ((p_b - (W (p_a + 1))).toNat + 2) p_data (W (p_a + 1)))
def slices_pdqsortCmpFunc_Pair_tumbref2_BothOf_c1_l1 (p_data : List GPair) : Nat → Int → Int → Int → Bool → Option (List GPair)
  | 0, _, _, _, _ => none
  | _ + 1, x1, x2, x3, x4 => if decide ((W (x2 - x1)) ≤ 12) then
  Option.bind (slices_insertionSortCmpFunc_Pair_tumbref2_BothOf_c1 p_data x1 x2) (fun r1 =>
  some r1)
  else
  if decide (x3 = 0) then
  none
  else
  if !x4 then
  none
  else
  none
def slices_pdqsortCmpFunc_Pair_tumbref2_BothOf_c1 (p_data : List GPair) (p_a : Int) (p_b : Int) (p_limit : Int) : Option (List GPair) :=
  slices_pdqsortCmpFunc_Pair_tumbref2_BothOf_c1_l1 p_data 4611686018427387904 p_a p_b p_limit true
def slices_SortFunc_Pair_tumbref2_BothOf_c1 (p_x : List GPair) : Option (List GPair) :=
  Option.bind (bits_Len (IntKind.wrap .u64 (p_x.length : Int))) (fun r1 =>
  Option.bind (slices_pdqsortCmpFunc_Pair_tumbref2_BothOf_c1 p_x 0 (p_x.length : Int) r1) (fun r2 =>
  some r2))
def tumbref2_BothOf_l2 (y1 : GCall) (j2 : (List GPair) → Option (List GPair)) : List GCall → Nat → (List GPair) → Option (List GPair)
  | [], _, x2 => j2 x2
  | y2 :: ys2, i2, x2 => Join (fun (x3 : List GPair) =>
  tumbref2_BothOf_l2 y1 j2 ys2 (i2 + 1) x3) (fun j3 =>
  Join (fun (x4 : List GPair) =>
  j3 x4) (fun j4 =>
  if (((decide (y1.Who = y2.Who)) && (Sless y1.Item y2.Item)) && (!(slices_Contains_Pair x2 (GPair.mk y1.Item y2.Item)))) then
  Chk (room x2.length) (
  j4 (x2 ++ [(GPair.mk y1.Item y2.Item)]))
  else
  j4 x2))
def tumbref2_BothOf_l1 (p_l : List GCall) (j1 : (List GPair) → Option (List GPair)) : List GCall → Nat → (List GPair) → Option (List GPair)
  | [], _, x1 => j1 x1
  | y1 :: ys1, i1, x1 => Join (fun (x2 : List GPair) =>
  tumbref2_BothOf_l1 p_l j1 ys1 (i1 + 1) x2) (fun j2 =>
  tumbref2_BothOf_l2 y1 j2 p_l 0 x1)
def tumbref2_BothOf (p_items : List GItem) (p_l : List GCall) : Option (List GPair) :=
  Join (fun (x1 : List GPair) =>
  Option.bind (slices_SortFunc_Pair_tumbref2_BothOf_c1 x1) (fun r1 =>
  some r1)) (fun j1 =>
  tumbref2_BothOf_l1 p_l j1 p_l 0 ([] : List GPair))
def slices_Equal_Slot_l1 (p_s2 : List GSlot) (j1 : Option Bool) : List GSlot → Nat → Option Bool
  | [], _ => j1
  | y1 :: ys1, i1 => Chk (inB (i1 : Int) p_s2.length) (
  if !decide (y1 = (GSlot.mk ((nth p_s2 (i1 : Int)).Item) ((nth p_s2 (i1 : Int)).Heat) ((nth p_s2 (i1 : Int)).Time))) then
  some false
  else
  slices_Equal_Slot_l1 p_s2 j1 ys1 (i1 + 1))
def slices_Equal_Slot (p_s1 : List GSlot) (p_s2 : List GSlot) : Option Bool :=
  if !decide ((p_s1.length : Int) = (p_s2.length : Int)) then
  some false
  else
  Join (some true) (fun j1 =>
  slices_Equal_Slot_l1 p_s2 j1 p_s1 0)
def slices_Equal_Rest_l1 (p_s2 : List GRest) (j1 : Option Bool) : List GRest → Nat → Option Bool
  | [], _ => j1
  | y1 :: ys1, i1 => Chk (inB (i1 : Int) p_s2.length) (
  if !decide (y1 = (GRest.mk ((nth p_s2 (i1 : Int)).Who) (GSlot.mk (((nth p_s2 (i1 : Int)).From).Item) (((nth p_s2 (i1 : Int)).From).Heat) (((nth p_s2 (i1 : Int)).From).Time)) (GSlot.mk (((nth p_s2 (i1 : Int)).To).Item) (((nth p_s2 (i1 : Int)).To).Heat) (((nth p_s2 (i1 : Int)).To).Time)) ((nth p_s2 (i1 : Int)).Long))) then
  some false
  else
  slices_Equal_Rest_l1 p_s2 j1 ys1 (i1 + 1))
def slices_Equal_Rest (p_s1 : List GRest) (p_s2 : List GRest) : Option Bool :=
  if !decide ((p_s1.length : Int) = (p_s2.length : Int)) then
  some false
  else
  Join (some true) (fun j1 =>
  slices_Equal_Rest_l1 p_s2 j1 p_s1 0)
def slices_Equal_Pair_l1 (p_s2 : List GPair) (j1 : Option Bool) : List GPair → Nat → Option Bool
  | [], _ => j1
  | y1 :: ys1, i1 => Chk (inB (i1 : Int) p_s2.length) (
  if !decide (y1 = (nth p_s2 (i1 : Int))) then
  some false
  else
  slices_Equal_Pair_l1 p_s2 j1 ys1 (i1 + 1))
def slices_Equal_Pair (p_s1 : List GPair) (p_s2 : List GPair) : Option Bool :=
  if !decide ((p_s1.length : Int) = (p_s2.length : Int)) then
  some false
  else
  Join (some true) (fun j1 =>
  slices_Equal_Pair_l1 p_s2 j1 p_s1 0)
def session_Timetable (p_l : List GItem) (p_from : Int) : Option ((List GSlot) × Int) :=
  Option.bind (session_CheckItems p_l) (fun r1 =>
  if !decide (r1 = 0) then
  some (([] : List GSlot), r1)
  else
  Option.bind (session_begin p_l p_from) (fun r2 =>
  some (r2.1, r2.2)))
def session_Ends (p_l : List GItem) (p_from : Int) : Option (Int × Int) :=
  Option.bind (session_Timetable p_l p_from) (fun r1 =>
  if !decide (r1.2 = 0) then
  some (0, r1.2)
  else
  Option.bind (session_end r1.1 p_from) (fun r2 =>
  some (r2, 0)))
def tumblaw2_timed : Option Bool :=
  Option.bind (session_Ends [(GItem.mk k_a 2 10 5 0)] 0) (fun r1 =>
  some ((decide (r1.2 = 0)) && (decide (r1.1 = 25))))
def tumblaw2_SwimmersRest (p_l : List Int) : Option Bool :=
  Option.bind (Stream_Items p_l 0 5) (fun r1 =>
  Option.bind (Stream_SessionStart p_l r1.2) (fun r2 =>
  Option.bind (Stream_Pick p_l r2.2 [0, 50, 100, 200, (-1), 3600001]) (fun r3 =>
  Option.bind (Stream_Calls p_l r3.2 r1.1) (fun r4 =>
  Option.bind (Stream_Some p_l r4.2 [k_ann, k_bea, k_zed, k_empty]) (fun r5 =>
  Option.bind (session_Calls r1.1 r4.1 r5.1 r2.1) (fun r6 =>
  Option.bind (session_Rests r1.1 r4.1 r2.1) (fun r7 =>
  Option.bind (session_Short r1.1 r4.1 r2.1 r3.1) (fun r8 =>
  Option.bind (session_Both r1.1 r4.1) (fun r9 =>
  Option.bind (tumbref2_CallsFault r1.1 r4.1) (fun r10 =>
  Join (fun (x1 : Int) =>
  Option.bind (tumblaw2_nameFault r5.1) (fun r12 =>
  Join (fun (x2 : List GSlot) =>
  Join (fun (x3 : List GRest) =>
  Join (fun (x4 : List GRest) =>
  Join (fun (x5 : List GPair) =>
  Option.bind (session_CheckSwims r1.1 r4.1) (fun r17 =>
  Join (fun (c1 : Bool) =>
  Join (fun (c2 : Bool) =>
  Join (fun (c3 : Bool) =>
  Join (fun (c4 : Bool) =>
  Join (fun (c5 : Bool) =>
  some c5) (fun j10 =>
  if c4 then Option.bind (tumblaw2_timed) (fun r22 =>
  j10 (c4 && r22)) else j10 (c4 && true))) (fun j9 =>
  if (c3 && (decide (r9.2 = r10))) then Option.bind (slices_Equal_Pair r9.1 x5) (fun r21 =>
  j9 ((c3 && (decide (r9.2 = r10))) && r21)) else j9 ((c3 && (decide (r9.2 = r10))) && true))) (fun j8 =>
  if (c2 && (decide (r8.2 = (tumblaw2_errs [(tumblaw2_errs [r10, x1]), (tumblaw2_when ((decide (r3.1 < 0)) || (decide (3600000 < r3.1))) 1)])))) then Option.bind (slices_Equal_Rest r8.1 x4) (fun r20 =>
  j8 ((c2 && (decide (r8.2 = (tumblaw2_errs [(tumblaw2_errs [r10, x1]), (tumblaw2_when ((decide (r3.1 < 0)) || (decide (3600000 < r3.1))) 1)])))) && r20)) else j8 ((c2 && (decide (r8.2 = (tumblaw2_errs [(tumblaw2_errs [r10, x1]), (tumblaw2_when ((decide (r3.1 < 0)) || (decide (3600000 < r3.1))) 1)])))) && true))) (fun j7 =>
  if (c1 && (decide (r7.2 = (tumblaw2_errs [r10, x1])))) then Option.bind (slices_Equal_Rest r7.1 x3) (fun r19 =>
  j7 ((c1 && (decide (r7.2 = (tumblaw2_errs [r10, x1])))) && r19)) else j7 ((c1 && (decide (r7.2 = (tumblaw2_errs [r10, x1])))) && true))) (fun j6 =>
  if ((decide (r17 = r10)) && (decide (r6.2 = (tumblaw2_errs [r10, r12, x1])))) then Option.bind (slices_Equal_Slot r6.1 x2) (fun r18 =>
  j6 (((decide (r17 = r10)) && (decide (r6.2 = (tumblaw2_errs [r10, r12, x1])))) && r18)) else j6 (((decide (r17 = r10)) && (decide (r6.2 = (tumblaw2_errs [r10, r12, x1])))) && true)))) (fun j5 =>
  if decide (r10 = 0) then
  Option.bind (tumbref2_BothOf r1.1 r4.1) (fun r16 =>
  j5 r16)
  else
  j5 ([] : List GPair))) (fun j4 =>
  if decide ((tumblaw2_errs [(tumblaw2_errs [r10, x1]), (tumblaw2_when ((decide (r3.1 < 0)) || (decide (3600000 < r3.1))) 1)]) = 0) then
  Option.bind (tumbref2_ShortOf r1.1 r4.1 r2.1 r3.1) (fun r15 =>
  j4 r15)
  else
  j4 ([] : List GRest))) (fun j3 =>
  if decide ((tumblaw2_errs [r10, x1]) = 0) then
  Option.bind (tumbref2_RestsOf r1.1 r4.1 r2.1) (fun r14 =>
  j3 r14)
  else
  j3 ([] : List GRest))) (fun j2 =>
  if decide ((tumblaw2_errs [r10, r12, x1]) = 0) then
  Option.bind (tumbref2_CallsOf r1.1 r4.1 r5.1 r2.1) (fun r13 =>
  j2 r13)
  else
  j2 ([] : List GSlot)))) (fun j1 =>
  if decide (r10 = 0) then
  Option.bind (tumbref2_FromFault r1.1 r2.1) (fun r11 =>
  j1 r11)
  else
  j1 0)))))))))))
/-- The loops' equations are made here, once. -/
theorem twin_eqs : True := by
  have h := @Stream_RightItems_l1.eq_def; clear h; have h := @Stream_RightItems_l1.eq_1; clear h; have h := @Stream_RightItems_l1.eq_2; clear h
  have h := @slices_insertionSortCmpFunc_Item_Stream_RightCalls_c1_l2.eq_def; clear h; have h := @slices_insertionSortCmpFunc_Item_Stream_RightCalls_c1_l2.eq_1; clear h; have h := @slices_insertionSortCmpFunc_Item_Stream_RightCalls_c1_l2.eq_2; clear h
  have h := @slices_insertionSortCmpFunc_Item_Stream_RightCalls_c1_l1.eq_def; clear h; have h := @slices_insertionSortCmpFunc_Item_Stream_RightCalls_c1_l1.eq_1; clear h; have h := @slices_insertionSortCmpFunc_Item_Stream_RightCalls_c1_l1.eq_2; clear h
  have h := @slices_pdqsortCmpFunc_Item_Stream_RightCalls_c1_l1.eq_def; clear h; have h := @slices_pdqsortCmpFunc_Item_Stream_RightCalls_c1_l1.eq_1; clear h; have h := @slices_pdqsortCmpFunc_Item_Stream_RightCalls_c1_l1.eq_2; clear h
  have h := @Stream_RightCalls_l2.eq_def; clear h; have h := @Stream_RightCalls_l2.eq_1; clear h; have h := @Stream_RightCalls_l2.eq_2; clear h
  have h := @Stream_RightCalls_l1.eq_def; clear h; have h := @Stream_RightCalls_l1.eq_1; clear h; have h := @Stream_RightCalls_l1.eq_2; clear h
  have h := @session_CheckItems_l1.eq_def; clear h; have h := @session_CheckItems_l1.eq_1; clear h; have h := @session_CheckItems_l1.eq_2; clear h
  have h := @slices_IndexFunc_Item_session_itemAt_c1_l1.eq_def; clear h; have h := @slices_IndexFunc_Item_session_itemAt_c1_l1.eq_1; clear h; have h := @slices_IndexFunc_Item_session_itemAt_c1_l1.eq_2; clear h
  have h := @cmp_Or_int_l1.eq_def; clear h; have h := @cmp_Or_int_l1.eq_1; clear h; have h := @cmp_Or_int_l1.eq_2; clear h
  have h := @session_CheckSwims_l1.eq_def; clear h; have h := @session_CheckSwims_l1.eq_1; clear h; have h := @session_CheckSwims_l1.eq_2; clear h
  have h := @session_timetable_l2.eq_def; clear h; have h := @session_timetable_l2.eq_1; clear h; have h := @session_timetable_l2.eq_2; clear h
  have h := @session_timetable_l1.eq_def; clear h; have h := @session_timetable_l1.eq_1; clear h; have h := @session_timetable_l1.eq_2; clear h
  have h := @session_slots_l1.eq_def; clear h; have h := @session_slots_l1.eq_1; clear h; have h := @session_slots_l1.eq_2; clear h
  have h := @slices_insertionSortCmpFunc_Slot_session_calls_c1_l2.eq_def; clear h; have h := @slices_insertionSortCmpFunc_Slot_session_calls_c1_l2.eq_1; clear h; have h := @slices_insertionSortCmpFunc_Slot_session_calls_c1_l2.eq_2; clear h
  have h := @slices_insertionSortCmpFunc_Slot_session_calls_c1_l1.eq_def; clear h; have h := @slices_insertionSortCmpFunc_Slot_session_calls_c1_l1.eq_1; clear h; have h := @slices_insertionSortCmpFunc_Slot_session_calls_c1_l1.eq_2; clear h
  have h := @slices_pdqsortCmpFunc_Slot_session_calls_c1_l1.eq_def; clear h; have h := @slices_pdqsortCmpFunc_Slot_session_calls_c1_l1.eq_1; clear h; have h := @slices_pdqsortCmpFunc_Slot_session_calls_c1_l1.eq_2; clear h
  have h := @session_calls_l1.eq_def; clear h; have h := @session_calls_l1.eq_1; clear h; have h := @session_calls_l1.eq_2; clear h
  have h := @session_rests_l2.eq_def; clear h; have h := @session_rests_l2.eq_1; clear h; have h := @session_rests_l2.eq_2; clear h
  have h := @session_rests_l1.eq_def; clear h; have h := @session_rests_l1.eq_1; clear h; have h := @session_rests_l1.eq_2; clear h
  have h := @slices_IndexFunc_Rest_session_Short_c1_l1.eq_def; clear h; have h := @slices_IndexFunc_Rest_session_Short_c1_l1.eq_1; clear h; have h := @slices_IndexFunc_Rest_session_Short_c1_l1.eq_2; clear h
  have h := @slices_DeleteFunc_Rest_session_Short_c1_l1.eq_def; clear h; have h := @slices_DeleteFunc_Rest_session_Short_c1_l1.eq_1; clear h; have h := @slices_DeleteFunc_Rest_session_Short_c1_l1.eq_2; clear h
  have h := @slices_insertionSortCmpFunc_Pair_session_Both_c1_l2.eq_def; clear h; have h := @slices_insertionSortCmpFunc_Pair_session_Both_c1_l2.eq_1; clear h; have h := @slices_insertionSortCmpFunc_Pair_session_Both_c1_l2.eq_2; clear h
  have h := @slices_insertionSortCmpFunc_Pair_session_Both_c1_l1.eq_def; clear h; have h := @slices_insertionSortCmpFunc_Pair_session_Both_c1_l1.eq_1; clear h; have h := @slices_insertionSortCmpFunc_Pair_session_Both_c1_l1.eq_2; clear h
  have h := @slices_pdqsortCmpFunc_Pair_session_Both_c1_l1.eq_def; clear h; have h := @slices_pdqsortCmpFunc_Pair_session_Both_c1_l1.eq_1; clear h; have h := @slices_pdqsortCmpFunc_Pair_session_Both_c1_l1.eq_2; clear h
  have h := @session_Both_l2.eq_def; clear h; have h := @session_Both_l2.eq_1; clear h; have h := @session_Both_l2.eq_2; clear h
  have h := @session_Both_l1.eq_def; clear h; have h := @session_Both_l1.eq_1; clear h; have h := @session_Both_l1.eq_2; clear h
  have h := @tumbref2_only_l1.eq_def; clear h; have h := @tumbref2_only_l1.eq_1; clear h; have h := @tumbref2_only_l1.eq_2; clear h
  have h := @slices_IndexFunc_Item_tumbref2_ItemAt_c1_l1.eq_def; clear h; have h := @slices_IndexFunc_Item_tumbref2_ItemAt_c1_l1.eq_1; clear h; have h := @slices_IndexFunc_Item_tumbref2_ItemAt_c1_l1.eq_2; clear h
  have h := @tumbref2_ItemsFault_l1.eq_def; clear h; have h := @tumbref2_ItemsFault_l1.eq_1; clear h; have h := @tumbref2_ItemsFault_l1.eq_2; clear h
  have h := @slices_Compare_string_l1.eq_def; clear h; have h := @slices_Compare_string_l1.eq_1; clear h; have h := @slices_Compare_string_l1.eq_2; clear h
  have h := @tumbref2_CallsFault_l1.eq_def; clear h; have h := @tumbref2_CallsFault_l1.eq_1; clear h; have h := @tumbref2_CallsFault_l1.eq_2; clear h
  have h := @tumbref2_SlotsOf_l2.eq_def; clear h; have h := @tumbref2_SlotsOf_l2.eq_1; clear h; have h := @tumbref2_SlotsOf_l2.eq_2; clear h
  have h := @tumbref2_SlotsOf_l1.eq_def; clear h; have h := @tumbref2_SlotsOf_l1.eq_1; clear h; have h := @tumbref2_SlotsOf_l1.eq_2; clear h
  have h := @tumbref2_EndOf_l1.eq_def; clear h; have h := @tumbref2_EndOf_l1.eq_1; clear h; have h := @tumbref2_EndOf_l1.eq_2; clear h
  have h := @tumblaw2_errs_l1.eq_def; clear h; have h := @tumblaw2_errs_l1.eq_1; clear h; have h := @tumblaw2_errs_l1.eq_2; clear h
  have h := @slices_Index_Call_l1.eq_def; clear h; have h := @slices_Index_Call_l1.eq_1; clear h; have h := @slices_Index_Call_l1.eq_2; clear h
  have h := @slices_IndexFunc_Slot_tumbref2_CallsOf_c1_l1.eq_def; clear h; have h := @slices_IndexFunc_Slot_tumbref2_CallsOf_c1_l1.eq_1; clear h; have h := @slices_IndexFunc_Slot_tumbref2_CallsOf_c1_l1.eq_2; clear h
  have h := @slices_DeleteFunc_Slot_tumbref2_CallsOf_c1_l1.eq_def; clear h; have h := @slices_DeleteFunc_Slot_tumbref2_CallsOf_c1_l1.eq_1; clear h; have h := @slices_DeleteFunc_Slot_tumbref2_CallsOf_c1_l1.eq_2; clear h
  have h := @slices_Compact_string_l2.eq_def; clear h; have h := @slices_Compact_string_l2.eq_1; clear h; have h := @slices_Compact_string_l2.eq_2; clear h
  have h := @slices_Compact_string_l1.eq_def; clear h; have h := @slices_Compact_string_l1.eq_1; clear h; have h := @slices_Compact_string_l1.eq_2; clear h
  have h := @tumbref2_RestsOf_l1.eq_def; clear h; have h := @tumbref2_RestsOf_l1.eq_1; clear h; have h := @tumbref2_RestsOf_l1.eq_2; clear h
  have h := @tumbref2_RestsOf_l3.eq_def; clear h; have h := @tumbref2_RestsOf_l3.eq_1; clear h; have h := @tumbref2_RestsOf_l3.eq_2; clear h
  have h := @tumbref2_RestsOf_l2.eq_def; clear h; have h := @tumbref2_RestsOf_l2.eq_1; clear h; have h := @tumbref2_RestsOf_l2.eq_2; clear h
  have h := @slices_IndexFunc_Rest_tumbref2_ShortOf_c1_l1.eq_def; clear h; have h := @slices_IndexFunc_Rest_tumbref2_ShortOf_c1_l1.eq_1; clear h; have h := @slices_IndexFunc_Rest_tumbref2_ShortOf_c1_l1.eq_2; clear h
  have h := @slices_DeleteFunc_Rest_tumbref2_ShortOf_c1_l1.eq_def; clear h; have h := @slices_DeleteFunc_Rest_tumbref2_ShortOf_c1_l1.eq_1; clear h; have h := @slices_DeleteFunc_Rest_tumbref2_ShortOf_c1_l1.eq_2; clear h
  have h := @slices_Index_Pair_l1.eq_def; clear h; have h := @slices_Index_Pair_l1.eq_1; clear h; have h := @slices_Index_Pair_l1.eq_2; clear h
  have h := @slices_insertionSortCmpFunc_Pair_tumbref2_BothOf_c1_l2.eq_def; clear h; have h := @slices_insertionSortCmpFunc_Pair_tumbref2_BothOf_c1_l2.eq_1; clear h; have h := @slices_insertionSortCmpFunc_Pair_tumbref2_BothOf_c1_l2.eq_2; clear h
  have h := @slices_insertionSortCmpFunc_Pair_tumbref2_BothOf_c1_l1.eq_def; clear h; have h := @slices_insertionSortCmpFunc_Pair_tumbref2_BothOf_c1_l1.eq_1; clear h; have h := @slices_insertionSortCmpFunc_Pair_tumbref2_BothOf_c1_l1.eq_2; clear h
  have h := @slices_pdqsortCmpFunc_Pair_tumbref2_BothOf_c1_l1.eq_def; clear h; have h := @slices_pdqsortCmpFunc_Pair_tumbref2_BothOf_c1_l1.eq_1; clear h; have h := @slices_pdqsortCmpFunc_Pair_tumbref2_BothOf_c1_l1.eq_2; clear h
  have h := @tumbref2_BothOf_l2.eq_def; clear h; have h := @tumbref2_BothOf_l2.eq_1; clear h; have h := @tumbref2_BothOf_l2.eq_2; clear h
  have h := @tumbref2_BothOf_l1.eq_def; clear h; have h := @tumbref2_BothOf_l1.eq_1; clear h; have h := @tumbref2_BothOf_l1.eq_2; clear h
  have h := @slices_Equal_Slot_l1.eq_def; clear h; have h := @slices_Equal_Slot_l1.eq_1; clear h; have h := @slices_Equal_Slot_l1.eq_2; clear h
  have h := @slices_Equal_Rest_l1.eq_def; clear h; have h := @slices_Equal_Rest_l1.eq_1; clear h; have h := @slices_Equal_Rest_l1.eq_2; clear h
  have h := @slices_Equal_Pair_l1.eq_def; clear h; have h := @slices_Equal_Pair_l1.eq_1; clear h; have h := @slices_Equal_Pair_l1.eq_2; clear h
  trivial
end Go.Proofs.YtoffbgomfcmfmaaGreatDoor
