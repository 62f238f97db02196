/- The Go functions as plain Lean functions, by program. -/
import Derived.Test.YtolmdpjkmjfjdaaGreatDoorBase
namespace Go.Proofs.YtolmdpjkmjfjdaaGreatDoor
open Go
structure Gtumbmake_Stream where
  L : List Int
  at_ : Int
  deriving DecidableEq, Inhabited
structure GItem where
  Key : ByteArray
  Heats : Int
  Long : Int
  Gap : Int
  Break : Int
  deriving DecidableEq, Inhabited
structure GCall where
  Who : ByteArray
  Item : ByteArray
  Heat : Int
  deriving DecidableEq, Inhabited
structure GWindow where
  From : Int
  To : Int
  deriving DecidableEq, Inhabited
structure GSlot where
  Item : ByteArray
  Heat : Int
  Time : GWindow
  deriving DecidableEq, Inhabited
structure GRest where
  Who : ByteArray
  From : GSlot
  To : GSlot
  Long : Int
  deriving DecidableEq, Inhabited
structure Gsession_heat where
  item_ : ByteArray
  heat_ : Int
  deriving DecidableEq, Inhabited
structure GDate where
  Year : Int
  Month : Int
  Day : Int
  deriving DecidableEq, Inhabited
structure GBase where
  Race : ByteArray
  Time : Int
  deriving DecidableEq, Inhabited
structure GKind where
  Key : ByteArray
  Race : ByteArray
  Clubs : List ByteArray
  Young : Int
  Old : Int
  deriving DecidableEq, Inhabited
structure GStep where
  At : Int
  Kind : Int
  Id : ByteArray
  Who : ByteArray
  Club : ByteArray
  Race : ByteArray
  Age : Int
  Time : Int
  deriving DecidableEq, Inhabited
def k_empty : ByteArray := ⟨#[]⟩
def k_ic : ByteArray := ⟨#[105, 99]⟩
def k_ia : ByteArray := ⟨#[105, 97]⟩
def k_id : ByteArray := ⟨#[105, 100]⟩
def k_ib : ByteArray := ⟨#[105, 98]⟩
def k_ie : ByteArray := ⟨#[105, 101]⟩
def k_ann : ByteArray := ⟨#[97, 110, 110]⟩
def k_bea : ByteArray := ⟨#[98, 101, 97]⟩
def k_cid : ByteArray := ⟨#[99, 105, 100]⟩
def k__00_01_02_02_h633d86 : ByteArray := ⟨#[0, 1, 2, 2, 3, 3, 3, 3, 4, 4, 4, 4, 4, 4, 4, 4, 5, 5, 5, 5, 5, 5, 5, 5, 5, 5, 5, 5, 5, 5, 5, 5, 6, 6, 6, 6, 6, 6, 6, 6, 6, 6, 6, 6, 6, 6, 6, 6, 6, 6, 6, 6, 6, 6, 6, 6, 6, 6, 6, 6, 6, 6, 6, 6, 7, 7, 7, 7, 7, 7, 7, 7, 7, 7, 7, 7, 7, 7, 7, 7, 7, 7, 7, 7, 7, 7, 7, 7, 7, 7, 7, 7, 7, 7, 7, 7, 7, 7, 7, 7, 7, 7, 7, 7, 7, 7, 7, 7, 7, 7, 7, 7, 7, 7, 7, 7, 7, 7, 7, 7, 7, 7, 7, 7, 7, 7, 7, 7, 8, 8, 8, 8, 8, 8, 8, 8, 8, 8, 8, 8, 8, 8, 8, 8, 8, 8, 8, 8, 8, 8, 8, 8, 8, 8, 8, 8, 8, 8, 8, 8, 8, 8, 8, 8, 8, 8, 8, 8, 8, 8, 8, 8, 8, 8, 8, 8, 8, 8, 8, 8, 8, 8, 8, 8, 8, 8, 8, 8, 8, 8, 8, 8, 8, 8, 8, 8, 8, 8, 8, 8, 8, 8, 8, 8, 8, 8, 8, 8, 8, 8, 8, 8, 8, 8, 8, 8, 8, 8, 8, 8, 8, 8, 8, 8, 8, 8, 8, 8, 8, 8, 8, 8, 8, 8, 8, 8, 8, 8, 8, 8, 8, 8, 8, 8, 8, 8, 8, 8, 8, 8, 8, 8, 8, 8, 8, 8]⟩
def k_abcdefghijkl_h0e2e2c : ByteArray := ⟨#[97, 98, 99, 100, 101, 102, 103, 104, 105, 106, 107, 108, 109, 110, 111, 112, 113, 114, 115, 116, 117, 118, 119, 120, 121, 122, 48, 49, 50, 51, 52, 53, 54, 55, 56, 57, 45, 95]⟩
def k_a : ByteArray := ⟨#[97]⟩
def k_r : ByteArray := ⟨#[114]⟩
def k_k : ByteArray := ⟨#[107]⟩
def k_i : ByteArray := ⟨#[105]⟩
def tumbmake_Below (p_x : Int) (p_n : Int) : Option Int :=
  if decide (p_n < 1) then
  some 0
  else
  Chk (!decide (p_n = 0)) (
  Join (fun (x1 : Int) =>
  some x1) (fun j1 =>
  if decide ((Int.tmod p_x p_n) < 0) then
  j1 (W ((Int.tmod p_x p_n) + p_n))
  else
  j1 (Int.tmod p_x p_n)))
def Stream_Next (p_s_L : List Int) (p_s_at : Int) (p_n : Int) : Option (Int × Int) :=
  if decide ((p_s_L.length : Int) = 0) then
  Option.bind (tumbmake_Below (W ((W (p_s_at + 1)) * 7919)) p_n) (fun r1 =>
  some (r1, W (p_s_at + 1)))
  else
  Chk (!decide ((p_s_L.length : Int) = 0)) (
  Chk (!decide ((p_s_L.length : Int) = 0)) (
  Chk (inB (Int.tmod (W ((W (p_s_at + 1)) - 1)) (p_s_L.length : Int)) p_s_L.length) (
  Option.bind (tumbmake_Below (nth p_s_L (Int.tmod (W ((W (p_s_at + 1)) - 1)) (p_s_L.length : Int))) 1073741824) (fun r2 =>
  Option.bind (tumbmake_Below (W (r2 + (W ((W (Int.tdiv (W ((W (p_s_at + 1)) - 1)) (p_s_L.length : Int))) * (W (7919 + (Int.tmod (W ((W (p_s_at + 1)) - 1)) (p_s_L.length : Int)))))))) p_n) (fun r3 =>
  some (r3, W (p_s_at + 1)))))))
def Stream_Flip (p_s_L : List Int) (p_s_at : Int) (p_n : Int) : Option (Bool × Int) :=
  Option.bind (Stream_Next p_s_L p_s_at p_n) (fun r1 =>
  some (decide (r1.1 = 0), r1.2))
def Stream_Pick (p_s_L : List Int) (p_s_at : Int) (p_l : List Int) : Option (Int × Int) :=
  Option.bind (Stream_Next p_s_L p_s_at (p_l.length : Int)) (fun r1 =>
  Chk (inB r1.1 p_l.length) (
  some ((nth p_l r1.1), r1.2)))
def Stream_RightItems_l1 (p_s_L : List Int) (j1 : (List GItem) → Int → Option ((List GItem) × Int)) : List ByteArray → Nat → (List GItem) → Int → Option ((List GItem) × Int)
  | [], _, x1, x2 => j1 x1 x2
  | y1 :: ys1, i1, x1, x2 => Join (fun (x3 : List GItem) (x4 : Int) =>
  Stream_RightItems_l1 p_s_L j1 ys1 (i1 + 1) x3 x4) (fun j2 =>
  Option.bind (Stream_Flip p_s_L x2 6) (fun r1 =>
  Join (fun (x5 : List GItem) (x6 : Int) =>
  j2 x5 x6) (fun j3 =>
  if !r1.1 then
  Option.bind (Stream_Pick p_s_L r1.2 [1, 1, 2, 3]) (fun r2 =>
  Option.bind (Stream_Pick p_s_L r2.2 [50, 100]) (fun r3 =>
  Option.bind (Stream_Pick p_s_L r3.2 [0, 10, 60]) (fun r4 =>
  Option.bind (Stream_Pick p_s_L r4.2 [0, 20, 50, 200]) (fun r5 =>
  Chk (room x1.length) (
  j3 (x1 ++ [(GItem.mk y1 r2.1 r3.1 r4.1 r5.1)]) r5.2)))))
  else
  j3 x1 r1.2)))
def Stream_RightItems (p_s_L : List Int) (p_s_at : Int) (p_most : Int) : Option ((List GItem) × Int) :=
  Chk (cutB 0 p_most ([k_ic, k_ia, k_id, k_ib, k_ie] : List ByteArray).length) (
  Join (fun (x1 : List GItem) (x2 : Int) =>
  some (x1, x2)) (fun j1 =>
  Stream_RightItems_l1 p_s_L j1 (cut ([k_ic, k_ia, k_id, k_ib, k_ie] : List ByteArray) 0 p_most) 0 ([] : List GItem) p_s_at))
def slices_Clone_Item (p_s : List GItem) : Option (List GItem) :=
  Chk (decide ((([] : List GItem) : List GItem).length + p_s.length < 1073741824)) (
  some ((([] : List GItem) : List GItem) ++ p_s))
def bits_Len32 (p_x : Int) : Option Int :=
  Join (fun (x1 : Int) (x2 : Int) =>
  Join (fun (x3 : Int) (x4 : Int) =>
  Chk (inB (IntKind.wrap .u8 x3) k__00_01_02_02_h633d86.size) (
  some (W (x4 + (W (sbyte k__00_01_02_02_h633d86 (IntKind.wrap .u8 x3))))))) (fun j2 =>
  if decide (256 ≤ x1) then
  j2 (bitShr .u32 x1 8) (W (x2 + 8))
  else
  j2 x1 x2)) (fun j1 =>
  if decide (65536 ≤ p_x) then
  j1 (bitShr .u32 p_x 16) 16
  else
  j1 p_x 0)
def bits_Len64 (p_x : Int) : Option Int :=
  Join (fun (x1 : Int) (x2 : Int) =>
  Join (fun (x3 : Int) (x4 : Int) =>
  Join (fun (x5 : Int) (x6 : Int) =>
  Chk (inB (IntKind.wrap .u8 x5) k__00_01_02_02_h633d86.size) (
  some (W (x6 + (W (sbyte k__00_01_02_02_h633d86 (IntKind.wrap .u8 x5))))))) (fun j3 =>
  if decide (256 ≤ x3) then
  j3 (bitShr .u64 x3 8) (W (x4 + 8))
  else
  j3 x3 x4)) (fun j2 =>
  if decide (65536 ≤ x1) then
  j2 (bitShr .u64 x1 16) (W (x2 + 16))
  else
  j2 x1 x2)) (fun j1 =>
  if decide (4294967296 ≤ p_x) then
  j1 (bitShr .u64 p_x 32) 32
  else
  j1 p_x 0)
def bits_Len (p_x : Int) : Option Int :=
  if false then
  Option.bind (bits_Len32 (IntKind.wrap .u32 p_x)) (fun r1 =>
  some r1)
  else
  Option.bind (bits_Len64 p_x) (fun r2 =>
  some r2)
def Stream_RightCalls_c1 (p_a : GItem) (p_b : GItem) : Int :=
  if Sless p_a.Key p_b.Key then
  (-1)
  else
  1
def slices_insertionSortCmpFunc_Item_Stream_RightCalls_c1_l2 (p_a : Int) (j2 : (List GItem) → Option (List GItem)) : Nat → (List GItem) → Int → Option (List GItem)
  | 0, _, _ => none
  | m2 + 1, x3, x4 => Join (fun (x5 : Bool) =>
  if x5 then
  Chk (inB (W (x4 - 1)) x3.length) (
  Chk (inB x4 x3.length) (
  Chk (inB x4 x3.length) (
  Chk (inB (W (x4 - 1)) (x3.set x4.toNat (nth x3 (W (x4 - 1)))).length) (
  slices_insertionSortCmpFunc_Item_Stream_RightCalls_c1_l2 p_a j2 m2 ((x3.set x4.toNat (nth x3 (W (x4 - 1)))).set ((W (x4 - 1)).toNat) (nth x3 x4)) (W (x4 - 1))))))
  else
  j2 x3) (fun j3 =>
  if decide (p_a < x4) then
  Chk (inB x4 x3.length) (
  Chk (inB (W (x4 - 1)) x3.length) (
  j3 (decide ((Stream_RightCalls_c1 (nth x3 x4) (nth x3 (W (x4 - 1)))) < 0))))
  else
  j3 false)
def slices_insertionSortCmpFunc_Item_Stream_RightCalls_c1_l1 (p_b : Int) (p_a : Int) (j1 : (List GItem) → Option (List GItem)) : Nat → (List GItem) → Int → Option (List GItem)
  | 0, _, _ => none
  | m1 + 1, x1, x2 => if decide (x2 < p_b) then
  Join (fun (x3 : List GItem) =>
  slices_insertionSortCmpFunc_Item_Stream_RightCalls_c1_l1 p_b p_a j1 m1 x3 (W (x2 + 1))) (fun j2 =>
  slices_insertionSortCmpFunc_Item_Stream_RightCalls_c1_l2 p_a j2 ((x2 - p_a).toNat + 2) x1 x2)
  else
  j1 x1
def slices_insertionSortCmpFunc_Item_Stream_RightCalls_c1 (p_data : List GItem) (p_a : Int) (p_b : Int) : Option (List GItem) :=
  Join (fun (x1 : List GItem) =>
  some x1) (fun j1 =>
  slices_insertionSortCmpFunc_Item_Stream_RightCalls_c1_l1 p_b p_a j1 ((p_b - (W (p_a + 1))).toNat + 2) p_data (W (p_a + 1)))
def slices_pdqsortCmpFunc_Item_Stream_RightCalls_c1_l1 (p_data : List GItem) : Nat → Int → Int → Int → Bool → Option (List GItem)
  | 0, _, _, _, _ => none
  | _ + 1, x1, x2, x3, x4 => if decide ((W (x2 - x1)) ≤ 12) then
  Option.bind (slices_insertionSortCmpFunc_Item_Stream_RightCalls_c1 p_data x1 x2) (fun r1 =>
  some r1)
  else
  if decide (x3 = 0) then
  none
  else
  if !x4 then
  none
  else
  none
def slices_pdqsortCmpFunc_Item_Stream_RightCalls_c1 (p_data : List GItem) (p_a : Int) (p_b : Int) (p_limit : Int) : Option (List GItem) :=
  slices_pdqsortCmpFunc_Item_Stream_RightCalls_c1_l1 p_data 4611686018427387904 p_a p_b p_limit true
def slices_SortFunc_Item_Stream_RightCalls_c1 (p_x : List GItem) : Option (List GItem) :=
  Option.bind (bits_Len (IntKind.wrap .u64 (p_x.length : Int))) (fun r1 =>
  Option.bind (slices_pdqsortCmpFunc_Item_Stream_RightCalls_c1 p_x 0 (p_x.length : Int) r1) (fun r2 =>
  some r2))
def Stream_Range (p_s_L : List Int) (p_s_at : Int) (p_low : Int) (p_high : Int) : Option (Int × Int) :=
  if decide (p_high < p_low) then
  some (p_low, p_s_at)
  else
  Option.bind (Stream_Next p_s_L p_s_at (W ((W (p_high - p_low)) + 1))) (fun r1 =>
  some (W (p_low + r1.1), r1.2))
def Stream_RightCalls_l2 (p_s_L : List Int) (y1 : ByteArray) (j2 : (List GCall) → Int → Option ((List GCall) × Int)) : List GItem → Nat → (List GCall) → Int → Option ((List GCall) × Int)
  | [], _, x3, x4 => j2 x3 x4
  | y2 :: ys2, i2, x3, x4 => Join (fun (x5 : List GCall) (x6 : Int) =>
  Stream_RightCalls_l2 p_s_L y1 j2 ys2 (i2 + 1) x5 x6) (fun j3 =>
  Option.bind (Stream_Flip p_s_L x4 2) (fun r3 =>
  Join (fun (x7 : List GCall) (x8 : Int) =>
  j3 x7 x8) (fun j4 =>
  if (r3.1 && (decide (0 < y2.Heats))) then
  Option.bind (Stream_Range p_s_L r3.2 1 (imin y2.Heats 3)) (fun r4 =>
  Chk (room x3.length) (
  j4 (x3 ++ [(GCall.mk y1 y2.Key r4.1)]) r4.2))
  else
  j4 x3 r3.2)))
def Stream_RightCalls_l1 (p_items : List GItem) (p_s_L : List Int) (j1 : (List GCall) → Int → Option ((List GCall) × Int)) : List ByteArray → Nat → (List GCall) → Int → Option ((List GCall) × Int)
  | [], _, x1, x2 => j1 x1 x2
  | y1 :: ys1, i1, x1, x2 => Option.bind (slices_Clone_Item p_items) (fun r1 =>
  Option.bind (slices_SortFunc_Item_Stream_RightCalls_c1 r1) (fun r2 =>
  Join (fun (x3 : List GCall) (x4 : Int) =>
  Stream_RightCalls_l1 p_items p_s_L j1 ys1 (i1 + 1) x3 x4) (fun j2 =>
  Stream_RightCalls_l2 p_s_L y1 j2 r2 0 x1 x2)))
def Stream_RightCalls (p_s_L : List Int) (p_s_at : Int) (p_items : List GItem) : Option ((List GCall) × Int) :=
  Join (fun (x1 : List GCall) (x2 : Int) =>
  some (x1, x2)) (fun j1 =>
  Stream_RightCalls_l1 p_items p_s_L j1 ([k_ann, k_bea, k_cid] : List ByteArray) 0 ([] : List GCall) p_s_at)
def strings_Trim (s c : ByteArray) : Option ByteArray :=
  Chk (decide (s.size ≤ 9223372036854775807)) (Chk (decide (c.size < 4294967281)) (Chk (c.data.toList.all fun b => decide (b.toNat < 128)) (some ⟨(Lib.trimS s.data.toList c.data.toList).toArray⟩)))
def words_IsKey (p_s : ByteArray) : Option Bool :=
  Join (fun (c1 : Bool) =>
  Join (fun (c2 : Bool) =>
  Join (fun (c3 : Bool) =>
  some c3) (fun j3 =>
  if c2 then Option.bind (strings_Trim p_s k_abcdefghijkl_h0e2e2c) (fun r1 =>
  j3 (c2 && (decide (r1 = k_empty)))) else j3 (c2 && true))) (fun j2 =>
  if c1 then Chk (inB 0 p_s.size) (
  j2 (c1 && (decide ((sbyte p_s 0) ≤ 122)))) else j2 (c1 && true))) (fun j1 =>
  if ((decide (1 ≤ (p_s.size : Int))) && (decide ((p_s.size : Int) ≤ 40))) then Chk (inB 0 p_s.size) (
  j1 (((decide (1 ≤ (p_s.size : Int))) && (decide ((p_s.size : Int) ≤ 40))) && (decide (97 ≤ (sbyte p_s 0))))) else j1 (((decide (1 ≤ (p_s.size : Int))) && (decide ((p_s.size : Int) ≤ 40))) && true))
def words_Within (p_n : Int) (p_low : Int) (p_high : Int) : Bool :=
  ((decide (p_low ≤ p_n)) && (decide (p_n ≤ p_high)))
def session_CheckItems_l1 (j1 : (List (ByteArray × Bool)) → Option Int) : List GItem → Nat → (List (ByteArray × Bool)) → Option Int
  | [], _, x1 => j1 x1
  | y1 :: ys1, i1, x1 => Option.bind (words_IsKey y1.Key) (fun r1 =>
  if !r1 then
  some 5
  else
  if mgetD x1 y1.Key false then
  some 6
  else
  if ((((!(words_Within y1.Heats 1 60)) || (!(words_Within y1.Long 1 3600000))) || (!(words_Within y1.Gap 0 3600000))) || (!(words_Within y1.Break 0 3600000))) then
  some 1
  else
  session_CheckItems_l1 j1 ys1 (i1 + 1) (mput x1 y1.Key true))
def session_CheckItems (p_l : List GItem) : Option Int :=
  if decide (100 < (p_l.length : Int)) then
  some 2
  else
  Join (fun (x1 : List (ByteArray × Bool)) =>
  some 0) (fun j1 =>
  session_CheckItems_l1 j1 p_l 0 ([] : List (ByteArray × Bool)))
def session_itemAt_c1 (p_x : GItem) (p_a1 : ByteArray) : Bool :=
  decide (p_x.Key = p_a1)
def slices_IndexFunc_Item_session_itemAt_c1_l1 (p_f_0 : ByteArray) (j1 : Int) : List GItem → Nat → Int
  | [], _ => j1
  | y1 :: ys1, i1 => if (session_itemAt_c1 y1 p_f_0) then
  (i1 : Int)
  else
  slices_IndexFunc_Item_session_itemAt_c1_l1 p_f_0 j1 ys1 (i1 + 1)
def slices_IndexFunc_Item_session_itemAt_c1 (p_s : List GItem) (p_f_0 : ByteArray) : Int :=
  Join ((-1)) (fun j1 =>
  slices_IndexFunc_Item_session_itemAt_c1_l1 p_f_0 j1 p_s 0)
def session_itemAt (p_l : List GItem) (p_key : ByteArray) : Int :=
  (slices_IndexFunc_Item_session_itemAt_c1 p_l p_key)
def strings_Compare (s t : ByteArray) : Int := Lib.compareBytes s.data.toList t.data.toList
def cmp_isNaN_int (p_x : Int) : Bool :=
  !decide (p_x = p_x)
def cmp_Compare_int (p_x : Int) (p_y : Int) : Int :=
  if (cmp_isNaN_int p_x) then
  if (cmp_isNaN_int p_y) then
  0
  else
  (-1)
  else
  if (cmp_isNaN_int p_y) then
  1
  else
  if decide (p_x < p_y) then
  (-1)
  else
  if decide (p_y < p_x) then
  1
  else
  0
def cmp_Or_int_l1 (j1 : Int) : List Int → Nat → Int
  | [], _ => j1
  | y1 :: ys1, i1 => if !decide (y1 = 0) then
  y1
  else
  cmp_Or_int_l1 j1 ys1 (i1 + 1)
def cmp_Or_int (p_vals : List Int) : Int :=
  Join (0) (fun j1 =>
  cmp_Or_int_l1 j1 p_vals 0)
def session_compareCalls (p_a : GCall) (p_b : GCall) : Int :=
  (cmp_Or_int [(strings_Compare p_a.Who p_b.Who), (strings_Compare p_a.Item p_b.Item), (cmp_Compare_int p_a.Heat p_b.Heat)])
def session_CheckSwims_l1 (p_items : List GItem) (p_l : List GCall) (j1 : Option Int) : List GCall → Nat → Option Int
  | [], _ => j1
  | y1 :: ys1, i1 => Option.bind (words_IsKey y1.Who) (fun r2 =>
  if !r2 then
  some 5
  else
  if decide ((session_itemAt p_items y1.Item) < 0) then
  some 8
  else
  Chk (inB (session_itemAt p_items y1.Item) p_items.length) (
  if !(words_Within y1.Heat 1 ((nth p_items (session_itemAt p_items y1.Item)).Heats)) then
  some 1
  else
  Join (fun (x1 : Bool) =>
  if x1 then
  some 7
  else
  session_CheckSwims_l1 p_items p_l j1 ys1 (i1 + 1)) (fun j2 =>
  if decide (0 < (i1 : Int)) then
  Chk (inB (W ((i1 : Int) - 1)) p_l.length) (
  j2 (decide (0 ≤ (session_compareCalls (nth p_l (W ((i1 : Int) - 1))) y1))))
  else
  j2 false)))
def session_CheckSwims (p_items : List GItem) (p_l : List GCall) : Option Int :=
  Option.bind (session_CheckItems p_items) (fun r1 =>
  if !decide (r1 = 0) then
  some r1
  else
  if decide (2000 < (p_l.length : Int)) then
  some 2
  else
  Join (some 0) (fun j1 =>
  session_CheckSwims_l1 p_items p_l j1 p_l 0))
def words_IsMoment (p_n : Int) : Bool :=
  ((decide (0 ≤ p_n)) && (decide (p_n < 345686400000)))
def session_timetable_l2 (y1 : GItem) (j2 : (List GSlot) → Int → Option (List GSlot)) : Nat → (List GSlot) → Int → Int → Option (List GSlot)
  | 0, _, _, _ => none
  | m1 + 1, x3, x4, x5 => if decide (x5 ≤ y1.Heats) then
  Join (fun (x6 : List GSlot) (x7 : Int) =>
  session_timetable_l2 y1 j2 m1 x6 x7 (W (x5 + 1))) (fun j3 =>
  Chk (room x3.length) (
  Join (fun (x8 : Int) =>
  j3 (x3 ++ [(GSlot.mk y1.Key x5 (GWindow.mk x4 (W (x4 + y1.Long))))]) x8) (fun j4 =>
  if decide (x5 < y1.Heats) then
  j4 (W ((W (x4 + y1.Long)) + y1.Gap))
  else
  j4 (W (x4 + y1.Long)))))
  else
  j2 x3 x4
def session_timetable_l1 (j1 : (List GSlot) → Option (List GSlot)) : List GItem → Nat → (List GSlot) → Int → Option (List GSlot)
  | [], _, x1, _ => j1 x1
  | y1 :: ys1, i1, x1, x2 => Join (fun (x3 : List GSlot) (x4 : Int) =>
  session_timetable_l1 j1 ys1 (i1 + 1) x3 (W (x4 + y1.Break))) (fun j2 =>
  session_timetable_l2 y1 j2 ((y1.Heats - 1).toNat + 2) x1 x2 1)
def session_timetable (p_l : List GItem) (p_from : Int) : Option (List GSlot) :=
  Join (fun (x1 : List GSlot) =>
  some x1) (fun j1 =>
  session_timetable_l1 j1 p_l 0 ([] : List GSlot) p_from)
def session_end (p_l : List GSlot) (p_from : Int) : Option Int :=
  if decide ((p_l.length : Int) = 0) then
  some p_from
  else
  Chk (inB (W ((p_l.length : Int) - 1)) p_l.length) (
  some (((nth p_l (W ((p_l.length : Int) - 1))).Time).To))
def session_begin (p_l : List GItem) (p_from : Int) : Option ((List GSlot) × Int) :=
  if !(words_IsMoment p_from) then
  some (([] : List GSlot), 1)
  else
  Option.bind (session_timetable p_l p_from) (fun r1 =>
  Option.bind (session_end r1 p_from) (fun r2 =>
  if decide (345686400000 < r2) then
  some (([] : List GSlot), 1)
  else
  some (r1, 0)))
def session_slots_l1 (j1 : (List (Gsession_heat × GSlot)) → (List (Gsession_heat × GSlot))) : List GSlot → Nat → (List (Gsession_heat × GSlot)) → (List (Gsession_heat × GSlot))
  | [], _, x1 => j1 x1
  | y1 :: ys1, i1, x1 => session_slots_l1 j1 ys1 (i1 + 1) (mput x1 (Gsession_heat.mk y1.Item y1.Heat) y1)
def session_slots (p_t : List GSlot) : (List (Gsession_heat × GSlot)) :=
  Join (fun (x1 : List (Gsession_heat × GSlot)) =>
  x1) (fun j1 =>
  session_slots_l1 j1 p_t 0 ([] : List (Gsession_heat × GSlot)))
def session_calls_c1 (p_a : GSlot) (p_b : GSlot) : Int :=
  (cmp_Compare_int p_a.Time.From p_b.Time.From)
def slices_insertionSortCmpFunc_Slot_session_calls_c1_l2 (p_a : Int) (j2 : (List GSlot) → Option (List GSlot)) : Nat → (List GSlot) → Int → Option (List GSlot)
  | 0, _, _ => none
  | m2 + 1, x3, x4 => Join (fun (x5 : Bool) =>
  if x5 then
  Chk (inB (W (x4 - 1)) x3.length) (
  Chk (inB x4 x3.length) (
  Chk (inB x4 x3.length) (
  Chk (inB (W (x4 - 1)) (x3.set x4.toNat (GSlot.mk ((nth x3 (W (x4 - 1))).Item) ((nth x3 (W (x4 - 1))).Heat) ((nth x3 (W (x4 - 1))).Time))).length) (
  slices_insertionSortCmpFunc_Slot_session_calls_c1_l2 p_a j2 m2 ((x3.set x4.toNat (GSlot.mk ((nth x3 (W (x4 - 1))).Item) ((nth x3 (W (x4 - 1))).Heat) ((nth x3 (W (x4 - 1))).Time))).set ((W (x4 - 1)).toNat) (GSlot.mk ((nth x3 x4).Item) ((nth x3 x4).Heat) ((nth x3 x4).Time))) (W (x4 - 1))))))
  else
  j2 x3) (fun j3 =>
  if decide (p_a < x4) then
  Chk (inB x4 x3.length) (
  Chk (inB (W (x4 - 1)) x3.length) (
  j3 (decide ((session_calls_c1 (GSlot.mk ((nth x3 x4).Item) ((nth x3 x4).Heat) ((nth x3 x4).Time)) (GSlot.mk ((nth x3 (W (x4 - 1))).Item) ((nth x3 (W (x4 - 1))).Heat) ((nth x3 (W (x4 - 1))).Time))) < 0))))
  else
  j3 false)
def slices_insertionSortCmpFunc_Slot_session_calls_c1_l1 (p_b : Int) (p_a : Int) (j1 : (List GSlot) → Option (List GSlot)) : Nat → (List GSlot) → Int → Option (List GSlot)
  | 0, _, _ => none
  | m1 + 1, x1, x2 => if decide (x2 < p_b) then
  Join (fun (x3 : List GSlot) =>
  slices_insertionSortCmpFunc_Slot_session_calls_c1_l1 p_b p_a j1 m1 x3 (W (x2 + 1))) (fun j2 =>
  slices_insertionSortCmpFunc_Slot_session_calls_c1_l2 p_a j2 ((x2 - p_a).toNat + 2) x1 x2)
  else
  j1 x1
def slices_insertionSortCmpFunc_Slot_session_calls_c1 (p_data : List GSlot) (p_a : Int) (p_b : Int) : Option (List GSlot) :=
  Join (fun (x1 : List GSlot) =>
  some x1) (fun j1 =>
  slices_insertionSortCmpFunc_Slot_session_calls_c1_l1 p_b p_a j1 ((p_b - (W (p_a + 1))).toNat + 2) p_data (W (p_a + 1)))
def slices_pdqsortCmpFunc_Slot_session_calls_c1_l1 (p_data : List GSlot) : Nat → Int → Int → Int → Bool → Option (List GSlot)
  | 0, _, _, _, _ => none
  | _ + 1, x1, x2, x3, x4 => if decide ((W (x2 - x1)) ≤ 12) then
  Option.bind (slices_insertionSortCmpFunc_Slot_session_calls_c1 p_data x1 x2) (fun r1 =>
  some r1)
  else
  if decide (x3 = 0) then
  none
  else
  if !x4 then
  none
  else
  none
def slices_pdqsortCmpFunc_Slot_session_calls_c1 (p_data : List GSlot) (p_a : Int) (p_b : Int) (p_limit : Int) : Option (List GSlot) :=
  slices_pdqsortCmpFunc_Slot_session_calls_c1_l1 p_data 4611686018427387904 p_a p_b p_limit true
def slices_SortFunc_Slot_session_calls_c1 (p_x : List GSlot) : Option (List GSlot) :=
  Option.bind (bits_Len (IntKind.wrap .u64 (p_x.length : Int))) (fun r1 =>
  Option.bind (slices_pdqsortCmpFunc_Slot_session_calls_c1 p_x 0 (p_x.length : Int) r1) (fun r2 =>
  some r2))
def session_calls_l1 (p_who : ByteArray) (p_at : List (Gsession_heat × GSlot)) (j1 : (List GSlot) → Option (List GSlot)) : List GCall → Nat → (List GSlot) → Option (List GSlot)
  | [], _, x1 => j1 x1
  | y1 :: ys1, i1, x1 => Join (fun (x2 : List GSlot) =>
  session_calls_l1 p_who p_at j1 ys1 (i1 + 1) x2) (fun j2 =>
  Join (fun (x3 : List GSlot) =>
  j2 x3) (fun j3 =>
  if decide (y1.Who = p_who) then
  Chk (room x1.length) (
  j3 (x1 ++ [(GSlot.mk ((mgetD p_at (Gsession_heat.mk y1.Item y1.Heat) (GSlot.mk k_empty 0 (GWindow.mk 0 0))).Item) ((mgetD p_at (Gsession_heat.mk y1.Item y1.Heat) (GSlot.mk k_empty 0 (GWindow.mk 0 0))).Heat) ((mgetD p_at (Gsession_heat.mk y1.Item y1.Heat) (GSlot.mk k_empty 0 (GWindow.mk 0 0))).Time))]))
  else
  j3 x1))
def session_calls (p_at : List (Gsession_heat × GSlot)) (p_l : List GCall) (p_who : ByteArray) : Option (List GSlot) :=
  Join (fun (x1 : List GSlot) =>
  Option.bind (slices_SortFunc_Slot_session_calls_c1 x1) (fun r1 =>
  some r1)) (fun j1 =>
  session_calls_l1 p_who p_at j1 p_l 0 ([] : List GSlot))
def session_rests_l2 (r1 : (List GSlot)) (y1 : GCall) (j4 : (List GRest) → Option (List GRest)) : Nat → (List GRest) → Int → Option (List GRest)
  | 0, _, _ => none
  | m1 + 1, x3, x4 => if decide (x4 < (r1.length : Int)) then
  Chk (inB (W (x4 - 1)) r1.length) (
  Chk (inB x4 r1.length) (
  Chk (inB x4 r1.length) (
  Chk (inB (W (x4 - 1)) r1.length) (
  Chk (room x3.length) (
  session_rests_l2 r1 y1 j4 m1 (x3 ++ [(GRest.mk y1.Who (GSlot.mk ((nth r1 (W (x4 - 1))).Item) ((nth r1 (W (x4 - 1))).Heat) ((nth r1 (W (x4 - 1))).Time)) (GSlot.mk ((nth r1 x4).Item) ((nth r1 x4).Heat) ((nth r1 x4).Time)) (W ((((nth r1 x4).Time).From) - (((nth r1 (W (x4 - 1))).Time).To))))]) (W (x4 + 1)))))))
  else
  j4 x3
def session_rests_l1 (p_t : List GSlot) (p_l : List GCall) (j1 : (List GRest) → Option (List GRest)) : List GCall → Nat → (List GRest) → Option (List GRest)
  | [], _, x1 => j1 x1
  | y1 :: ys1, i1, x1 => Join (fun (x2 : List GRest) =>
  session_rests_l1 p_t p_l j1 ys1 (i1 + 1) x2) (fun j2 =>
  Join (fun (c1 : Bool) =>
  if c1 then
  j2 x1
  else
  Option.bind (session_calls (session_slots p_t) p_l y1.Who) (fun r1 =>
  Join (fun (x3 : List GRest) =>
  j2 x3) (fun j4 =>
  session_rests_l2 r1 y1 j4 (((r1.length : Int) - 1).toNat + 2) x1 1))) (fun j3 =>
  if (decide (0 < (i1 : Int))) then Chk (inB (W ((i1 : Int) - 1)) p_l.length) (
  j3 ((decide (0 < (i1 : Int))) && (decide (((nth p_l (W ((i1 : Int) - 1))).Who) = y1.Who)))) else j3 ((decide (0 < (i1 : Int))) && true)))
def session_rests (p_t : List GSlot) (p_l : List GCall) : Option (List GRest) :=
  Join (fun (x1 : List GRest) =>
  some x1) (fun j1 =>
  session_rests_l1 p_t p_l j1 p_l 0 ([] : List GRest))
def session_Rests (p_items : List GItem) (p_l : List GCall) (p_from : Int) : Option ((List GRest) × Int) :=
  Option.bind (session_CheckSwims p_items p_l) (fun r1 =>
  if !decide (r1 = 0) then
  some (([] : List GRest), r1)
  else
  Option.bind (session_begin p_items p_from) (fun r2 =>
  if !decide (r2.2 = 0) then
  some (([] : List GRest), r2.2)
  else
  Option.bind (session_rests r2.1 p_l) (fun r3 =>
  some (r3, 0))))
def session_Short_c1 (p_x : GRest) (p_a1 : Int) : Bool :=
  decide (p_a1 ≤ p_x.Long)
def slices_IndexFunc_Rest_session_Short_c1_l1 (p_f_0 : Int) (j1 : Int) : List GRest → Nat → Int
  | [], _ => j1
  | y1 :: ys1, i1 => if (session_Short_c1 y1 p_f_0) then
  (i1 : Int)
  else
  slices_IndexFunc_Rest_session_Short_c1_l1 p_f_0 j1 ys1 (i1 + 1)
def slices_IndexFunc_Rest_session_Short_c1 (p_s : List GRest) (p_f_0 : Int) : Int :=
  Join ((-1)) (fun j1 =>
  slices_IndexFunc_Rest_session_Short_c1_l1 p_f_0 j1 p_s 0)
def slices_DeleteFunc_Rest_session_Short_c1_l1 (p_del_0 : Int) (j1 : (List GRest) → Int → Option (List GRest)) : Nat → (List GRest) → Int → Int → Option (List GRest)
  | 0, _, _, _ => none
  | m1 + 1, x1, x2, x3 => if decide (x3 < (x1.length : Int)) then
  Join (fun (x4 : List GRest) (x5 : Int) =>
  slices_DeleteFunc_Rest_session_Short_c1_l1 p_del_0 j1 m1 x4 x5 (W (x3 + 1))) (fun j2 =>
  Chk (inB x3 x1.length) (
  Join (fun (x6 : List GRest) (x7 : Int) =>
  j2 x6 x7) (fun j3 =>
  if !(session_Short_c1 (GRest.mk ((nth x1 x3).Who) (GSlot.mk (((nth x1 x3).From).Item) (((nth x1 x3).From).Heat) (((nth x1 x3).From).Time)) (GSlot.mk (((nth x1 x3).To).Item) (((nth x1 x3).To).Heat) (((nth x1 x3).To).Time)) ((nth x1 x3).Long)) p_del_0) then
  Chk (inB x2 x1.length) (
  j3 (x1.set x2.toNat (GRest.mk ((nth x1 x3).Who) (GSlot.mk (((nth x1 x3).From).Item) (((nth x1 x3).From).Heat) (((nth x1 x3).From).Time)) (GSlot.mk (((nth x1 x3).To).Item) (((nth x1 x3).To).Heat) (((nth x1 x3).To).Time)) ((nth x1 x3).Long))) (W (x2 + 1)))
  else
  j3 x1 x2)))
  else
  j1 x1 x2
def slices_DeleteFunc_Rest_session_Short_c1 (p_s : List GRest) (p_del_0 : Int) : Option (List GRest) :=
  if decide ((slices_IndexFunc_Rest_session_Short_c1 p_s p_del_0) = (-1)) then
  some p_s
  else
  Join (fun (x1 : List GRest) (x2 : Int) =>
  Chk (cutB x2 (x1.length : Int) x1.length) (
  Chk (cutB 0 x2 (clr x1 x2 (x1.length : Int) (GRest.mk k_empty (GSlot.mk k_empty 0 (GWindow.mk 0 0)) (GSlot.mk k_empty 0 (GWindow.mk 0 0)) 0)).length) (
  some (cut (clr x1 x2 (x1.length : Int) (GRest.mk k_empty (GSlot.mk k_empty 0 (GWindow.mk 0 0)) (GSlot.mk k_empty 0 (GWindow.mk 0 0)) 0)) (0 : Int) x2)))) (fun j1 =>
  slices_DeleteFunc_Rest_session_Short_c1_l1 p_del_0 j1 (((p_s.length : Int) - (W ((slices_IndexFunc_Rest_session_Short_c1 p_s p_del_0) + 1))).toNat + 2) p_s (slices_IndexFunc_Rest_session_Short_c1 p_s p_del_0) (W ((slices_IndexFunc_Rest_session_Short_c1 p_s p_del_0) + 1)))
def session_Short (p_items : List GItem) (p_l : List GCall) (p_from : Int) (p_need : Int) : Option ((List GRest) × Int) :=
  Option.bind (session_Rests p_items p_l p_from) (fun r1 =>
  if !decide (r1.2 = 0) then
  some (([] : List GRest), r1.2)
  else
  if !(words_Within p_need 0 3600000) then
  some (([] : List GRest), 1)
  else
  Option.bind (slices_DeleteFunc_Rest_session_Short_c1 r1.1 p_need) (fun r2 =>
  some (r2, 0)))
def tumbkeep2_errs_l1 (j1 : Int) : List Int → Nat → Int
  | [], _ => j1
  | y1 :: ys1, i1 => if !decide (y1 = 0) then
  y1
  else
  tumbkeep2_errs_l1 j1 ys1 (i1 + 1)
def tumbkeep2_errs (p_l : List Int) : Int :=
  Join (0) (fun j1 =>
  tumbkeep2_errs_l1 j1 p_l 0)
def session_Calls (p_items : List GItem) (p_l : List GCall) (p_who : ByteArray) (p_from : Int) : Option ((List GSlot) × Int) :=
  Option.bind (session_CheckSwims p_items p_l) (fun r1 =>
  if !decide (r1 = 0) then
  some (([] : List GSlot), r1)
  else
  Option.bind (words_IsKey p_who) (fun r2 =>
  if !r2 then
  some (([] : List GSlot), 5)
  else
  Option.bind (session_begin p_items p_from) (fun r3 =>
  if !decide (r3.2 = 0) then
  some (([] : List GSlot), r3.2)
  else
  Option.bind (session_calls (session_slots r3.1) p_l p_who) (fun r4 =>
  some (r4, 0)))))
def swimmer_leap (p_year : Int) : Bool :=
  ((decide ((Int.tmod p_year 4) = 0)) && ((!decide ((Int.tmod p_year 100) = 0)) || (decide ((Int.tmod p_year 400) = 0))))
def swimmer_long (p_year : Int) (p_month : Int) : Int :=
  if decide (p_month = 2) then
  if (swimmer_leap p_year) then
  29
  else
  28
  else
  Join (fun (x1 : Bool) =>
  if x1 then
  30
  else
  31) (fun j1 =>
  if decide (p_month = 4) then
  j1 (decide (p_month = 4))
  else
  Join (fun (x2 : Bool) =>
  j1 x2) (fun j2 =>
  if decide (p_month = 6) then
  j2 (decide (p_month = 6))
  else
  Join (fun (x3 : Bool) =>
  j2 x3) (fun j3 =>
  if decide (p_month = 9) then
  j3 (decide (p_month = 9))
  else
  j3 (decide (p_month = 11)))))
def swimmer_yearLong (p_year : Int) : Int :=
  if (swimmer_leap p_year) then
  366
  else
  365
def swimmer_isDay (p_n : Int) : Bool :=
  (words_Within p_n (-40000) 4000)
def swimmer_DayOf_l1 (p_d : GDate) (j2 : Int → Option (Int × Int)) : Nat → Int → Int → Option (Int × Int)
  | 0, _, _ => none
  | m1 + 1, x2, x3 => if decide (x3 < p_d.Month) then
  swimmer_DayOf_l1 p_d j2 m1 (W (x2 + (swimmer_long p_d.Year x3))) (W (x3 + 1))
  else
  j2 x2
def swimmer_DayOf_l2 (p_d : GDate) (j3 : Int → Option (Int × Int)) : Nat → Int → Int → Option (Int × Int)
  | 0, _, _ => none
  | m2 + 1, x4, x5 => if decide (x5 < p_d.Year) then
  swimmer_DayOf_l2 p_d j3 m2 (W (x4 + (swimmer_yearLong x5))) (W (x5 + 1))
  else
  j3 x4
def swimmer_DayOf_l3 (j4 : Int → Option (Int × Int)) : Nat → Int → Int → Option (Int × Int)
  | 0, _, _ => none
  | m3 + 1, x6, x7 => if decide (x7 < 2024) then
  swimmer_DayOf_l3 j4 m3 (W (x6 - (swimmer_yearLong x7))) (W (x7 + 1))
  else
  j4 x6
def swimmer_DayOf (p_d : GDate) : Option (Int × Int) :=
  Join (fun (x1 : Bool) =>
  if x1 then
  some (0, 1)
  else
  Join (fun (x2 : Int) =>
  Join (fun (x4 : Int) =>
  Join (fun (x6 : Int) =>
  if !(swimmer_isDay x6) then
  some (0, 1)
  else
  some (x6, 0)) (fun j4 =>
  swimmer_DayOf_l3 j4 ((2024 - p_d.Year).toNat + 2) x4 p_d.Year)) (fun j3 =>
  swimmer_DayOf_l2 p_d j3 ((p_d.Year - 2024).toNat + 2) x2 2024)) (fun j2 =>
  swimmer_DayOf_l1 p_d j2 ((p_d.Month - 1).toNat + 2) (W (p_d.Day - 1)) 1)) (fun j1 =>
  if !(words_Within p_d.Year 1900 2100) then
  if true then
  j1 true
  else
  j1 (!(words_Within p_d.Day 1 (swimmer_long p_d.Year p_d.Month)))
  else
  if !(words_Within p_d.Month 1 12) then
  j1 true
  else
  j1 (!(words_Within p_d.Day 1 (swimmer_long p_d.Year p_d.Month))))
def session_Timetable (p_l : List GItem) (p_from : Int) : Option ((List GSlot) × Int) :=
  Option.bind (session_CheckItems p_l) (fun r1 =>
  if !decide (r1 = 0) then
  some (([] : List GSlot), r1)
  else
  Option.bind (session_begin p_l p_from) (fun r2 =>
  some (r2.1, r2.2)))
def session_Ends (p_l : List GItem) (p_from : Int) : Option (Int × Int) :=
  Option.bind (session_Timetable p_l p_from) (fun r1 =>
  if !decide (r1.2 = 0) then
  some (0, r1.2)
  else
  Option.bind (session_end r1.1 p_from) (fun r2 =>
  some (r2, 0)))
def timing_IsTime (p_n : Int) : Bool :=
  (words_Within p_n 1 360000)
def points_CheckBase_l1 (p_l : List GBase) (j1 : Option Int) : List GBase → Nat → Option Int
  | [], _ => j1
  | y1 :: ys1, i1 => Option.bind (words_IsKey y1.Race) (fun r1 =>
  if !r1 then
  some 5
  else
  Join (fun (c1 : Bool) =>
  if c1 then
  some 7
  else
  if !(timing_IsTime y1.Time) then
  some 1
  else
  points_CheckBase_l1 p_l j1 ys1 (i1 + 1)) (fun j2 =>
  if (decide (0 < (i1 : Int))) then Chk (inB (W ((i1 : Int) - 1)) p_l.length) (
  j2 ((decide (0 < (i1 : Int))) && (Sless y1.Race ((nth p_l (W ((i1 : Int) - 1))).Race) || decide (y1.Race = ((nth p_l (W ((i1 : Int) - 1))).Race))))) else j2 ((decide (0 < (i1 : Int))) && true)))
def points_CheckBase (p_l : List GBase) : Option Int :=
  if decide (500 < (p_l.length : Int)) then
  some 2
  else
  Join (some 0) (fun j1 =>
  points_CheckBase_l1 p_l j1 p_l 0)
def points_baseOf_l1 (p_race : ByteArray) (j1 : Int) : List GBase → Nat → Int
  | [], _ => j1
  | y1 :: ys1, i1 => if decide (y1.Race = p_race) then
  y1.Time
  else
  points_baseOf_l1 p_race j1 ys1 (i1 + 1)
def points_baseOf (p_l : List GBase) (p_race : ByteArray) : Int :=
  Join (0) (fun j1 =>
  points_baseOf_l1 p_race j1 p_l 0)
def bits_Mul64 (p_x : Int) (p_y : Int) : (Int × Int) :=
  (IntKind.wrap .u64 ((IntKind.wrap .u64 ((IntKind.wrap .u64 ((bitShr .u64 p_x 32) * (bitShr .u64 p_y 32))) + (bitShr .u64 (IntKind.wrap .u64 ((IntKind.wrap .u64 ((bitShr .u64 p_x 32) * (bitAnd .u64 p_y 4294967295))) + (bitShr .u64 (IntKind.wrap .u64 ((bitAnd .u64 p_x 4294967295) * (bitAnd .u64 p_y 4294967295))) 32))) 32))) + (bitShr .u64 (IntKind.wrap .u64 ((bitAnd .u64 (IntKind.wrap .u64 ((IntKind.wrap .u64 ((bitShr .u64 p_x 32) * (bitAnd .u64 p_y 4294967295))) + (bitShr .u64 (IntKind.wrap .u64 ((bitAnd .u64 p_x 4294967295) * (bitAnd .u64 p_y 4294967295))) 32))) 4294967295) + (IntKind.wrap .u64 ((bitAnd .u64 p_x 4294967295) * (bitShr .u64 p_y 32))))) 32)), IntKind.wrap .u64 (p_x * p_y))
def bits_LeadingZeros64 (p_x : Int) : Option Int :=
  Option.bind (bits_Len64 p_x) (fun r1 =>
  some (W (64 - r1)))
def bits_Div64_l1 (p_lo : Int) (r1 : Int) (p_y : Int) (j1 : Int → Option (Int × Int)) : Nat → Int → Int → Option (Int × Int)
  | 0, _, _ => none
  | m1 + 1, x1, x2 => if ((decide (4294967296 ≤ x1)) || (decide ((IntKind.wrap .u64 ((IntKind.wrap .u64 (4294967296 * x2)) + (bitShr .u64 (bitShl .u64 p_lo (IntKind.wrap .u64 r1)) 32))) < (IntKind.wrap .u64 (x1 * (bitAnd .u64 (bitShl .u64 p_y (IntKind.wrap .u64 r1)) 4294967295)))))) then
  if decide (4294967296 ≤ (IntKind.wrap .u64 (x2 + (bitShr .u64 (bitShl .u64 p_y (IntKind.wrap .u64 r1)) 32)))) then
  j1 (IntKind.wrap .u64 (x1 - 1))
  else
  bits_Div64_l1 p_lo r1 p_y j1 m1 (IntKind.wrap .u64 (x1 - 1)) (IntKind.wrap .u64 (x2 + (bitShr .u64 (bitShl .u64 p_y (IntKind.wrap .u64 r1)) 32)))
  else
  j1 x1
def bits_Div64_l2 (p_lo : Int) (r1 : Int) (p_y : Int) (j2 : Int → Option (Int × Int)) : Nat → Int → Int → Option (Int × Int)
  | 0, _, _ => none
  | m2 + 1, x3, x4 => if ((decide (4294967296 ≤ x4)) || (decide ((IntKind.wrap .u64 ((IntKind.wrap .u64 (4294967296 * x3)) + (bitAnd .u64 (bitShl .u64 p_lo (IntKind.wrap .u64 r1)) 4294967295))) < (IntKind.wrap .u64 (x4 * (bitAnd .u64 (bitShl .u64 p_y (IntKind.wrap .u64 r1)) 4294967295)))))) then
  if decide (4294967296 ≤ (IntKind.wrap .u64 (x3 + (bitShr .u64 (bitShl .u64 p_y (IntKind.wrap .u64 r1)) 32)))) then
  j2 (IntKind.wrap .u64 (x4 - 1))
  else
  bits_Div64_l2 p_lo r1 p_y j2 m2 (IntKind.wrap .u64 (x3 + (bitShr .u64 (bitShl .u64 p_y (IntKind.wrap .u64 r1)) 32))) (IntKind.wrap .u64 (x4 - 1))
  else
  j2 x4
def bits_Div64 (p_hi : Int) (p_lo : Int) (p_y : Int) : Option (Int × Int) :=
  if decide (p_y = 0) then
  none
  else
  if decide (p_y ≤ p_hi) then
  none
  else
  if decide (p_hi = 0) then
  Chk (!decide (p_y = 0)) (
  Chk (!decide (p_y = 0)) (
  some (IntKind.wrap .u64 (Int.tdiv p_lo p_y), Int.tmod p_lo p_y)))
  else
  Option.bind (bits_LeadingZeros64 p_y) (fun r1 =>
  Chk (decide (0 ≤ (IntKind.wrap .u64 r1))) (
  Chk (decide (0 ≤ (IntKind.wrap .u64 r1))) (
  Chk (decide (0 ≤ (IntKind.wrap .u64 (64 - (IntKind.wrap .u64 r1))))) (
  Chk (decide (0 ≤ (IntKind.wrap .u64 r1))) (
  Chk (!decide ((bitShr .u64 (bitShl .u64 p_y (IntKind.wrap .u64 r1)) 32) = 0)) (
  Join (fun (x1 : Int) =>
  Chk (!decide ((bitShr .u64 (bitShl .u64 p_y (IntKind.wrap .u64 r1)) 32) = 0)) (
  Join (fun (x4 : Int) =>
  Chk (decide (0 ≤ (IntKind.wrap .u64 r1))) (
  some (IntKind.wrap .u64 ((IntKind.wrap .u64 (x1 * 4294967296)) + x4), bitShr .u64 (IntKind.wrap .u64 ((IntKind.wrap .u64 ((IntKind.wrap .u64 ((IntKind.wrap .u64 ((IntKind.wrap .u64 ((IntKind.wrap .u64 ((bitOr .u64 (bitShl .u64 p_hi (IntKind.wrap .u64 r1)) (bitShr .u64 p_lo (IntKind.wrap .u64 (64 - (IntKind.wrap .u64 r1))))) * 4294967296)) + (bitShr .u64 (bitShl .u64 p_lo (IntKind.wrap .u64 r1)) 32))) - (IntKind.wrap .u64 (x1 * (bitShl .u64 p_y (IntKind.wrap .u64 r1)))))) * 4294967296)) + (bitAnd .u64 (bitShl .u64 p_lo (IntKind.wrap .u64 r1)) 4294967295))) - (IntKind.wrap .u64 (x4 * (bitShl .u64 p_y (IntKind.wrap .u64 r1)))))) (IntKind.wrap .u64 r1)))) (fun j2 =>
  bits_Div64_l2 p_lo r1 p_y j2 (((IntKind.wrap .u64 (Int.tdiv (IntKind.wrap .u64 ((IntKind.wrap .u64 ((IntKind.wrap .u64 ((bitOr .u64 (bitShl .u64 p_hi (IntKind.wrap .u64 r1)) (bitShr .u64 p_lo (IntKind.wrap .u64 (64 - (IntKind.wrap .u64 r1))))) * 4294967296)) + (bitShr .u64 (bitShl .u64 p_lo (IntKind.wrap .u64 r1)) 32))) - (IntKind.wrap .u64 (x1 * (bitShl .u64 p_y (IntKind.wrap .u64 r1)))))) (bitShr .u64 (bitShl .u64 p_y (IntKind.wrap .u64 r1)) 32))) - 4294967296).toNat + 2) (IntKind.wrap .u64 ((IntKind.wrap .u64 ((IntKind.wrap .u64 ((IntKind.wrap .u64 ((bitOr .u64 (bitShl .u64 p_hi (IntKind.wrap .u64 r1)) (bitShr .u64 p_lo (IntKind.wrap .u64 (64 - (IntKind.wrap .u64 r1))))) * 4294967296)) + (bitShr .u64 (bitShl .u64 p_lo (IntKind.wrap .u64 r1)) 32))) - (IntKind.wrap .u64 (x1 * (bitShl .u64 p_y (IntKind.wrap .u64 r1)))))) - (IntKind.wrap .u64 ((IntKind.wrap .u64 (Int.tdiv (IntKind.wrap .u64 ((IntKind.wrap .u64 ((IntKind.wrap .u64 ((bitOr .u64 (bitShl .u64 p_hi (IntKind.wrap .u64 r1)) (bitShr .u64 p_lo (IntKind.wrap .u64 (64 - (IntKind.wrap .u64 r1))))) * 4294967296)) + (bitShr .u64 (bitShl .u64 p_lo (IntKind.wrap .u64 r1)) 32))) - (IntKind.wrap .u64 (x1 * (bitShl .u64 p_y (IntKind.wrap .u64 r1)))))) (bitShr .u64 (bitShl .u64 p_y (IntKind.wrap .u64 r1)) 32))) * (bitShr .u64 (bitShl .u64 p_y (IntKind.wrap .u64 r1)) 32))))) (IntKind.wrap .u64 (Int.tdiv (IntKind.wrap .u64 ((IntKind.wrap .u64 ((IntKind.wrap .u64 ((bitOr .u64 (bitShl .u64 p_hi (IntKind.wrap .u64 r1)) (bitShr .u64 p_lo (IntKind.wrap .u64 (64 - (IntKind.wrap .u64 r1))))) * 4294967296)) + (bitShr .u64 (bitShl .u64 p_lo (IntKind.wrap .u64 r1)) 32))) - (IntKind.wrap .u64 (x1 * (bitShl .u64 p_y (IntKind.wrap .u64 r1)))))) (bitShr .u64 (bitShl .u64 p_y (IntKind.wrap .u64 r1)) 32)))))) (fun j1 =>
  bits_Div64_l1 p_lo r1 p_y j1 (((IntKind.wrap .u64 (Int.tdiv (bitOr .u64 (bitShl .u64 p_hi (IntKind.wrap .u64 r1)) (bitShr .u64 p_lo (IntKind.wrap .u64 (64 - (IntKind.wrap .u64 r1))))) (bitShr .u64 (bitShl .u64 p_y (IntKind.wrap .u64 r1)) 32))) - 4294967296).toNat + 2) (IntKind.wrap .u64 (Int.tdiv (bitOr .u64 (bitShl .u64 p_hi (IntKind.wrap .u64 r1)) (bitShr .u64 p_lo (IntKind.wrap .u64 (64 - (IntKind.wrap .u64 r1))))) (bitShr .u64 (bitShl .u64 p_y (IntKind.wrap .u64 r1)) 32))) (IntKind.wrap .u64 ((bitOr .u64 (bitShl .u64 p_hi (IntKind.wrap .u64 r1)) (bitShr .u64 p_lo (IntKind.wrap .u64 (64 - (IntKind.wrap .u64 r1))))) - (IntKind.wrap .u64 ((IntKind.wrap .u64 (Int.tdiv (bitOr .u64 (bitShl .u64 p_hi (IntKind.wrap .u64 r1)) (bitShr .u64 p_lo (IntKind.wrap .u64 (64 - (IntKind.wrap .u64 r1))))) (bitShr .u64 (bitShl .u64 p_y (IntKind.wrap .u64 r1)) 32))) * (bitShr .u64 (bitShl .u64 p_y (IntKind.wrap .u64 r1)) 32))))))))))))
def points_byTime (p_base : Int) (p_time : Int) : Option Int :=
  if decide ((IntKind.wrap .u64 ((IntKind.wrap .u64 ((IntKind.wrap .u64 p_time) * (IntKind.wrap .u64 p_time))) * (IntKind.wrap .u64 p_time))) ≤ ((bits_Mul64 (IntKind.wrap .u64 ((IntKind.wrap .u64 ((IntKind.wrap .u64 p_base) * (IntKind.wrap .u64 p_base))) * (IntKind.wrap .u64 p_base))) 1000).1)) then
  some 1000000000
  else
  Option.bind (bits_Div64 ((bits_Mul64 (IntKind.wrap .u64 ((IntKind.wrap .u64 ((IntKind.wrap .u64 p_base) * (IntKind.wrap .u64 p_base))) * (IntKind.wrap .u64 p_base))) 1000).1) ((bits_Mul64 (IntKind.wrap .u64 ((IntKind.wrap .u64 ((IntKind.wrap .u64 p_base) * (IntKind.wrap .u64 p_base))) * (IntKind.wrap .u64 p_base))) 1000).2) (IntKind.wrap .u64 ((IntKind.wrap .u64 ((IntKind.wrap .u64 p_time) * (IntKind.wrap .u64 p_time))) * (IntKind.wrap .u64 p_time)))) (fun r1 =>
  some (W (imin r1.1 1000000000)))
def points_ByTime (p_l : List GBase) (p_race : ByteArray) (p_time : Int) : Option (Int × Int) :=
  Option.bind (points_CheckBase p_l) (fun r1 =>
  if !decide (r1 = 0) then
  some (0, r1)
  else
  if decide ((points_baseOf p_l p_race) = 0) then
  some (0, 8)
  else
  if !(timing_IsTime p_time) then
  some (0, 1)
  else
  Option.bind (points_byTime (points_baseOf p_l p_race) p_time) (fun r2 =>
  some (r2, 0)))
def record_CheckKinds_l2 (y1 : GKind) (j4 : Option Int) : List ByteArray → Nat → Option Int
  | [], _ => j4
  | y2 :: ys2, i2 => Option.bind (words_IsKey y2) (fun r5 =>
  if !r5 then
  some 5
  else
  Join (fun (c3 : Bool) =>
  if c3 then
  some 7
  else
  record_CheckKinds_l2 y1 j4 ys2 (i2 + 1)) (fun j5 =>
  if (decide (0 < (i2 : Int))) then Chk (inB (W ((i2 : Int) - 1)) y1.Clubs.length) (
  j5 ((decide (0 < (i2 : Int))) && (Sless y2 (nth y1.Clubs (W ((i2 : Int) - 1))) || decide (y2 = (nth y1.Clubs (W ((i2 : Int) - 1))))))) else j5 ((decide (0 < (i2 : Int))) && true)))
def record_CheckKinds_l1 (p_l : List GKind) (j1 : Option Int) : List GKind → Nat → Option Int
  | [], _ => j1
  | y1 :: ys1, i1 => Option.bind (words_IsKey y1.Key) (fun r2 =>
  Join (fun (c1 : Bool) =>
  if c1 then
  some 5
  else
  Join (fun (c2 : Bool) =>
  if c2 then
  some 7
  else
  if decide (100 < (y1.Clubs.length : Int)) then
  some 2
  else
  Join (if (((decide (y1.Young < 0)) || (decide (y1.Old < y1.Young))) || (decide (150 < y1.Old))) then
  some 1
  else
  record_CheckKinds_l1 p_l j1 ys1 (i1 + 1)) (fun j4 =>
  record_CheckKinds_l2 y1 j4 y1.Clubs 0)) (fun j3 =>
  if (decide (0 < (i1 : Int))) then Chk (inB (W ((i1 : Int) - 1)) p_l.length) (
  j3 ((decide (0 < (i1 : Int))) && (Sless y1.Key ((nth p_l (W ((i1 : Int) - 1))).Key) || decide (y1.Key = ((nth p_l (W ((i1 : Int) - 1))).Key))))) else j3 ((decide (0 < (i1 : Int))) && true))) (fun j2 =>
  if (!r2) then j2 ((!r2) || true) else Option.bind (words_IsKey y1.Race) (fun r3 =>
  j2 ((!r2) || (!r3)))))
def record_CheckKinds (p_l : List GKind) : Option Int :=
  if decide (50 < (p_l.length : Int)) then
  some 2
  else
  Join (some 0) (fun j1 =>
  record_CheckKinds_l1 p_l j1 p_l 0)
def record_checkStep (p_x : GStep) : Option Int :=
  Join (some 0) (fun j1 =>
  if !(words_IsMoment p_x.At) then
  some 1
  else
  if !(words_Within p_x.Kind 1 3) then
  some 4
  else
  Option.bind (words_IsKey p_x.Id) (fun r1 =>
  if !r1 then
  some 5
  else
  Join (j1) (fun j2 =>
  if !decide (p_x.Kind = 1) then
  if !decide (p_x = (GStep.mk p_x.At p_x.Kind p_x.Id k_empty k_empty k_empty 0 0)) then
  some 3
  else
  j2
  else
  Option.bind (words_IsKey p_x.Who) (fun r2 =>
  Join (fun (c1 : Bool) =>
  Join (fun (c2 : Bool) =>
  if c2 then
  some 5
  else
  if ((!(words_Within p_x.Age 0 150)) || (!(timing_IsTime p_x.Time))) then
  some 1
  else
  j2) (fun j4 =>
  if c1 then j4 (c1 || true) else Join (fun (c3 : Bool) =>
  j4 (c1 || c3)) (fun j5 =>
  if (!decide (p_x.Club = k_empty)) then Option.bind (words_IsKey p_x.Club) (fun r4 =>
  j5 ((!decide (p_x.Club = k_empty)) && (!r4))) else j5 ((!decide (p_x.Club = k_empty)) && true)))) (fun j3 =>
  if (!r2) then j3 ((!r2) || true) else Option.bind (words_IsKey p_x.Race) (fun r3 =>
  j3 ((!r2) || (!r3))))))))
def record_checkSwum (p_s : GStep) : Option Int :=
  Option.bind (record_checkStep p_s) (fun r1 =>
  if !decide (r1 = 0) then
  some r1
  else
  if !decide (p_s.Kind = 1) then
  some 4
  else
  some 0)
def slices_Index_string_l1 (p_v : ByteArray) (j1 : Int) : List ByteArray → Nat → Int
  | [], _ => j1
  | y1 :: ys1, i1 => if decide (p_v = y1) then
  (i1 : Int)
  else
  slices_Index_string_l1 p_v j1 ys1 (i1 + 1)
def slices_Index_string (p_s : List ByteArray) (p_v : ByteArray) : Int :=
  Join ((-1)) (fun j1 =>
  slices_Index_string_l1 p_v j1 p_s 0)
def slices_Contains_string (p_s : List ByteArray) (p_v : ByteArray) : Bool :=
  decide (0 ≤ (slices_Index_string p_s p_v))
def record_isFor (p_k : GKind) (p_s : GStep) : Bool :=
  (((decide (p_s.Race = p_k.Race)) && ((decide ((p_k.Clubs.length : Int) = 0)) || (slices_Contains_string p_k.Clubs p_s.Club))) && (words_Within p_s.Age p_k.Young p_k.Old))
def record_For_l1 (p_s : GStep) (j1 : (List ByteArray) → Option ((List ByteArray) × Int)) : List GKind → Nat → (List ByteArray) → Option ((List ByteArray) × Int)
  | [], _, x1 => j1 x1
  | y1 :: ys1, i1, x1 => Join (fun (x2 : List ByteArray) =>
  record_For_l1 p_s j1 ys1 (i1 + 1) x2) (fun j2 =>
  Join (fun (x3 : List ByteArray) =>
  j2 x3) (fun j3 =>
  if (record_isFor y1 p_s) then
  Chk (room x1.length) (
  j3 (x1 ++ [y1.Key]))
  else
  j3 x1))
def record_For (p_l : List GKind) (p_s : GStep) : Option ((List ByteArray) × Int) :=
  Option.bind (record_CheckKinds p_l) (fun r1 =>
  if !decide (r1 = 0) then
  some (([] : List ByteArray), r1)
  else
  Option.bind (record_checkSwum p_s) (fun r2 =>
  if !decide (r2 = 0) then
  some (([] : List ByteArray), r2)
  else
  Join (fun (x1 : List ByteArray) =>
  some (x1, 0)) (fun j1 =>
  record_For_l1 p_s j1 p_l 0 ([] : List ByteArray))))
def tumbkeep2_ready : Option Bool :=
  Option.bind (swimmer_DayOf (GDate.mk 2024 3 1)) (fun r1 =>
  Option.bind (session_Ends [(GItem.mk k_a 2 10 5 0)] 0) (fun r2 =>
  Option.bind (points_ByTime [(GBase.mk k_r 3000)] k_r 6000) (fun r3 =>
  Option.bind (record_For ([(GKind.mk k_k k_r ([] : List ByteArray) 0 9)] : List GKind) (GStep.mk 0 1 k_i k_a k_empty k_r 0 5)) (fun r4 =>
  some (((((decide ((tumbkeep2_errs [r1.2, r2.2, r3.2, r4.2]) = 0)) && (decide (r1.1 = 60))) && (decide (r2.1 = 25))) && (decide (r3.1 = 125))) && (decide ((r4.1.length : Int) = 1)))))))
def tumbkeep2_RestsAddUp_l2 (j2 : Int → Option Bool) : List GSlot → Nat → Int → Option Bool
  | [], _, x1 => j2 x1
  | y2 :: ys2, i2, x1 => tumbkeep2_RestsAddUp_l2 j2 ys2 (i2 + 1) (W (x1 + (W (y2.Time.To - y2.Time.From))))
def tumbkeep2_RestsAddUp_l3 (y1 : ByteArray) (j3 : Int → Option Bool) : List GRest → Nat → Int → Option Bool
  | [], _, x2 => j3 x2
  | y3 :: ys3, i3, x2 => Join (fun (x3 : Int) =>
  tumbkeep2_RestsAddUp_l3 y1 j3 ys3 (i3 + 1) x3) (fun j4 =>
  Join (fun (x4 : Int) =>
  j4 x4) (fun j5 =>
  if decide (y3.Who = y1) then
  j5 (W (x2 + y3.Long))
  else
  j5 x2))
def tumbkeep2_RestsAddUp_l1 (r1 : (List GItem) × Int) (r2 : (List GCall) × Int) (r3 : Int × Int) (r5 : (List GRest) × Int) (j1 : Option Bool) : List ByteArray → Nat → Option Bool
  | [], _ => j1
  | y1 :: ys1, i1 => Option.bind (session_Calls r1.1 r2.1 y1 r3.1) (fun r9 =>
  if !decide (r9.2 = 0) then
  some false
  else
  Join (fun (x1 : Int) =>
  Join (fun (x2 : Int) =>
  Join (fun (c1 : Bool) =>
  if c1 then
  some false
  else
  tumbkeep2_RestsAddUp_l1 r1 r2 r3 r5 j1 ys1 (i1 + 1)) (fun j6 =>
  if (decide (0 < (r9.1.length : Int))) then Chk (inB (W ((r9.1.length : Int) - 1)) r9.1.length) (
  Chk (inB 0 r9.1.length) (
  j6 ((decide (0 < (r9.1.length : Int))) && (!decide (x2 = (W ((((nth r9.1 (W ((r9.1.length : Int) - 1))).Time).To) - (((nth r9.1 0).Time).From)))))))) else j6 ((decide (0 < (r9.1.length : Int))) && true))) (fun j3 =>
  tumbkeep2_RestsAddUp_l3 y1 j3 r5.1 0 x1)) (fun j2 =>
  tumbkeep2_RestsAddUp_l2 j2 r9.1 0 0))
def tumbkeep2_RestsAddUp (p_l : List Int) : Option Bool :=
  Option.bind (Stream_RightItems p_l 0 5) (fun r1 =>
  Option.bind (Stream_RightCalls p_l r1.2 r1.1) (fun r2 =>
  Option.bind (Stream_Range p_l r2.2 0 1000) (fun r3 =>
  Option.bind (Stream_Range p_l r3.2 0 300) (fun r4 =>
  Option.bind (session_Rests r1.1 r2.1 r3.1) (fun r5 =>
  Option.bind (session_Short r1.1 r2.1 r3.1 r4.1) (fun r6 =>
  Option.bind (Stream_Range p_l r4.2 0 300) (fun r7 =>
  Option.bind (session_Short r1.1 r2.1 r3.1 (W (r4.1 + r7.1))) (fun r8 =>
  if (((!decide ((tumbkeep2_errs [r5.2, r6.2, r8.2]) = 0)) || (decide ((r8.1.length : Int) < (r6.1.length : Int)))) || (decide ((r5.1.length : Int) < (r8.1.length : Int)))) then
  some false
  else
  Join (Option.bind (tumbkeep2_ready) (fun r10 =>
  some r10)) (fun j1 =>
  tumbkeep2_RestsAddUp_l1 r1 r2 r3 r5 j1 ([k_ann, k_bea, k_cid] : List ByteArray) 0)))))))))
/-- The loops' equations are made here, once. -/
theorem twin_eqs : True := by
  have h := @Stream_RightItems_l1.eq_def; clear h; have h := @Stream_RightItems_l1.eq_1; clear h; have h := @Stream_RightItems_l1.eq_2; clear h
  have h := @slices_insertionSortCmpFunc_Item_Stream_RightCalls_c1_l2.eq_def; clear h; have h := @slices_insertionSortCmpFunc_Item_Stream_RightCalls_c1_l2.eq_1; clear h; have h := @slices_insertionSortCmpFunc_Item_Stream_RightCalls_c1_l2.eq_2; clear h
  have h := @slices_insertionSortCmpFunc_Item_Stream_RightCalls_c1_l1.eq_def; clear h; have h := @slices_insertionSortCmpFunc_Item_Stream_RightCalls_c1_l1.eq_1; clear h; have h := @slices_insertionSortCmpFunc_Item_Stream_RightCalls_c1_l1.eq_2; clear h
  have h := @slices_pdqsortCmpFunc_Item_Stream_RightCalls_c1_l1.eq_def; clear h; have h := @slices_pdqsortCmpFunc_Item_Stream_RightCalls_c1_l1.eq_1; clear h; have h := @slices_pdqsortCmpFunc_Item_Stream_RightCalls_c1_l1.eq_2; clear h
  have h := @Stream_RightCalls_l2.eq_def; clear h; have h := @Stream_RightCalls_l2.eq_1; clear h; have h := @Stream_RightCalls_l2.eq_2; clear h
  have h := @Stream_RightCalls_l1.eq_def; clear h; have h := @Stream_RightCalls_l1.eq_1; clear h; have h := @Stream_RightCalls_l1.eq_2; clear h
  have h := @session_CheckItems_l1.eq_def; clear h; have h := @session_CheckItems_l1.eq_1; clear h; have h := @session_CheckItems_l1.eq_2; clear h
  have h := @slices_IndexFunc_Item_session_itemAt_c1_l1.eq_def; clear h; have h := @slices_IndexFunc_Item_session_itemAt_c1_l1.eq_1; clear h; have h := @slices_IndexFunc_Item_session_itemAt_c1_l1.eq_2; clear h
  have h := @cmp_Or_int_l1.eq_def; clear h; have h := @cmp_Or_int_l1.eq_1; clear h; have h := @cmp_Or_int_l1.eq_2; clear h
  have h := @session_CheckSwims_l1.eq_def; clear h; have h := @session_CheckSwims_l1.eq_1; clear h; have h := @session_CheckSwims_l1.eq_2; clear h
  have h := @session_timetable_l2.eq_def; clear h; have h := @session_timetable_l2.eq_1; clear h; have h := @session_timetable_l2.eq_2; clear h
  have h := @session_timetable_l1.eq_def; clear h; have h := @session_timetable_l1.eq_1; clear h; have h := @session_timetable_l1.eq_2; clear h
  have h := @session_slots_l1.eq_def; clear h; have h := @session_slots_l1.eq_1; clear h; have h := @session_slots_l1.eq_2; clear h
  have h := @slices_insertionSortCmpFunc_Slot_session_calls_c1_l2.eq_def; clear h; have h := @slices_insertionSortCmpFunc_Slot_session_calls_c1_l2.eq_1; clear h; have h := @slices_insertionSortCmpFunc_Slot_session_calls_c1_l2.eq_2; clear h
  have h := @slices_insertionSortCmpFunc_Slot_session_calls_c1_l1.eq_def; clear h; have h := @slices_insertionSortCmpFunc_Slot_session_calls_c1_l1.eq_1; clear h; have h := @slices_insertionSortCmpFunc_Slot_session_calls_c1_l1.eq_2; clear h
  have h := @slices_pdqsortCmpFunc_Slot_session_calls_c1_l1.eq_def; clear h; have h := @slices_pdqsortCmpFunc_Slot_session_calls_c1_l1.eq_1; clear h; have h := @slices_pdqsortCmpFunc_Slot_session_calls_c1_l1.eq_2; clear h
  have h := @session_calls_l1.eq_def; clear h; have h := @session_calls_l1.eq_1; clear h; have h := @session_calls_l1.eq_2; clear h
  have h := @session_rests_l2.eq_def; clear h; have h := @session_rests_l2.eq_1; clear h; have h := @session_rests_l2.eq_2; clear h
  have h := @session_rests_l1.eq_def; clear h; have h := @session_rests_l1.eq_1; clear h; have h := @session_rests_l1.eq_2; clear h
  have h := @slices_IndexFunc_Rest_session_Short_c1_l1.eq_def; clear h; have h := @slices_IndexFunc_Rest_session_Short_c1_l1.eq_1; clear h; have h := @slices_IndexFunc_Rest_session_Short_c1_l1.eq_2; clear h
  have h := @slices_DeleteFunc_Rest_session_Short_c1_l1.eq_def; clear h; have h := @slices_DeleteFunc_Rest_session_Short_c1_l1.eq_1; clear h; have h := @slices_DeleteFunc_Rest_session_Short_c1_l1.eq_2; clear h
  have h := @tumbkeep2_errs_l1.eq_def; clear h; have h := @tumbkeep2_errs_l1.eq_1; clear h; have h := @tumbkeep2_errs_l1.eq_2; clear h
  have h := @swimmer_DayOf_l1.eq_def; clear h; have h := @swimmer_DayOf_l1.eq_1; clear h; have h := @swimmer_DayOf_l1.eq_2; clear h
  have h := @swimmer_DayOf_l2.eq_def; clear h; have h := @swimmer_DayOf_l2.eq_1; clear h; have h := @swimmer_DayOf_l2.eq_2; clear h
  have h := @swimmer_DayOf_l3.eq_def; clear h; have h := @swimmer_DayOf_l3.eq_1; clear h; have h := @swimmer_DayOf_l3.eq_2; clear h
  have h := @points_CheckBase_l1.eq_def; clear h; have h := @points_CheckBase_l1.eq_1; clear h; have h := @points_CheckBase_l1.eq_2; clear h
  have h := @points_baseOf_l1.eq_def; clear h; have h := @points_baseOf_l1.eq_1; clear h; have h := @points_baseOf_l1.eq_2; clear h
  have h := @bits_Div64_l1.eq_def; clear h; have h := @bits_Div64_l1.eq_1; clear h; have h := @bits_Div64_l1.eq_2; clear h
  have h := @bits_Div64_l2.eq_def; clear h; have h := @bits_Div64_l2.eq_1; clear h; have h := @bits_Div64_l2.eq_2; clear h
  have h := @record_CheckKinds_l2.eq_def; clear h; have h := @record_CheckKinds_l2.eq_1; clear h; have h := @record_CheckKinds_l2.eq_2; clear h
  have h := @record_CheckKinds_l1.eq_def; clear h; have h := @record_CheckKinds_l1.eq_1; clear h; have h := @record_CheckKinds_l1.eq_2; clear h
  have h := @slices_Index_string_l1.eq_def; clear h; have h := @slices_Index_string_l1.eq_1; clear h; have h := @slices_Index_string_l1.eq_2; clear h
  have h := @record_For_l1.eq_def; clear h; have h := @record_For_l1.eq_1; clear h; have h := @record_For_l1.eq_2; clear h
  have h := @tumbkeep2_RestsAddUp_l2.eq_def; clear h; have h := @tumbkeep2_RestsAddUp_l2.eq_1; clear h; have h := @tumbkeep2_RestsAddUp_l2.eq_2; clear h
  have h := @tumbkeep2_RestsAddUp_l3.eq_def; clear h; have h := @tumbkeep2_RestsAddUp_l3.eq_1; clear h; have h := @tumbkeep2_RestsAddUp_l3.eq_2; clear h
  have h := @tumbkeep2_RestsAddUp_l1.eq_def; clear h; have h := @tumbkeep2_RestsAddUp_l1.eq_1; clear h; have h := @tumbkeep2_RestsAddUp_l1.eq_2; clear h
  trivial
end Go.Proofs.YtolmdpjkmjfjdaaGreatDoor
