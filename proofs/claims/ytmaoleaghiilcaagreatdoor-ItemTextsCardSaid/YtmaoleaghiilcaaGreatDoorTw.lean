/- The Go functions as plain Lean functions, by program. -/
import Derived.Test.YtmaoleaghiilcaaGreatDoorBase
import Derived.Lib.Atoi
import Derived.Lib.IndexMore
import Derived.Lib.ItoaNum
import Derived.Lib.Join
import Derived.Lib.Split
import Derived.Lib.Strings
namespace Go.Proofs.YtmaoleaghiilcaaGreatDoor
open Go
structure Gtumbmake_Stream where
  L : List Int
  at_ : Int
  deriving DecidableEq, Inhabited
structure GItem where
  Key : ByteArray
  Heats : Int
  Long : Int
  Gap : Int
  Break : Int
  deriving DecidableEq, Inhabited
structure GWindow where
  From : Int
  To : Int
  deriving DecidableEq, Inhabited
structure GSlot where
  Item : ByteArray
  Heat : Int
  Time : GWindow
  deriving DecidableEq, Inhabited
def k_empty : ByteArray := ⟨#[]⟩
def k_ic : ByteArray := ⟨#[105, 99]⟩
def k_ia : ByteArray := ⟨#[105, 97]⟩
def k_id : ByteArray := ⟨#[105, 100]⟩
def k_ib : ByteArray := ⟨#[105, 98]⟩
def k_ie : ByteArray := ⟨#[105, 101]⟩
def k__20 : ByteArray := ⟨#[32]⟩
def k__0a : ByteArray := ⟨#[10]⟩
def k__20_0a0_2d9ia : ByteArray := ⟨#[32, 10, 48, 45, 57, 105, 97]⟩
def k_abcdefghijkl_h0e2e2c : ByteArray := ⟨#[97, 98, 99, 100, 101, 102, 103, 104, 105, 106, 107, 108, 109, 110, 111, 112, 113, 114, 115, 116, 117, 118, 119, 120, 121, 122, 48, 49, 50, 51, 52, 53, 54, 55, 56, 57, 45, 95]⟩
def k_abcdefghijklmnopqrstuvwxyz : ByteArray := ⟨#[97, 98, 99, 100, 101, 102, 103, 104, 105, 106, 107, 108, 109, 110, 111, 112, 113, 114, 115, 116, 117, 118, 119, 120, 121, 122]⟩
def k__2d : ByteArray := ⟨#[45]⟩
def k_0123456789 : ByteArray := ⟨#[48, 49, 50, 51, 52, 53, 54, 55, 56, 57]⟩
def k_0 : ByteArray := ⟨#[48]⟩
def k_a : ByteArray := ⟨#[97]⟩
def tumbmake_Below (p_x : Int) (p_n : Int) : Option Int :=
  if decide (p_n < 1) then
  some 0
  else
  Chk (!decide (p_n = 0)) (
  Join (fun (x1 : Int) =>
  some x1) (fun j1 =>
  if decide ((Int.tmod p_x p_n) < 0) then
  j1 (W ((Int.tmod p_x p_n) + p_n))
  else
  j1 (Int.tmod p_x p_n)))
def Stream_Next (p_s_L : List Int) (p_s_at : Int) (p_n : Int) : Option (Int × Int) :=
  if decide ((p_s_L.length : Int) = 0) then
  Option.bind (tumbmake_Below (W ((W (p_s_at + 1)) * 7919)) p_n) (fun r1 =>
  some (r1, W (p_s_at + 1)))
  else
  Chk (!decide ((p_s_L.length : Int) = 0)) (
  Chk (!decide ((p_s_L.length : Int) = 0)) (
  Chk (inB (Int.tmod (W ((W (p_s_at + 1)) - 1)) (p_s_L.length : Int)) p_s_L.length) (
  Option.bind (tumbmake_Below (nth p_s_L (Int.tmod (W ((W (p_s_at + 1)) - 1)) (p_s_L.length : Int))) 1073741824) (fun r2 =>
  Option.bind (tumbmake_Below (W (r2 + (W ((W (Int.tdiv (W ((W (p_s_at + 1)) - 1)) (p_s_L.length : Int))) * (W (7919 + (Int.tmod (W ((W (p_s_at + 1)) - 1)) (p_s_L.length : Int)))))))) p_n) (fun r3 =>
  some (r3, W (p_s_at + 1)))))))
def Stream_Flip (p_s_L : List Int) (p_s_at : Int) (p_n : Int) : Option (Bool × Int) :=
  Option.bind (Stream_Next p_s_L p_s_at p_n) (fun r1 =>
  some (decide (r1.1 = 0), r1.2))
def Stream_Pick (p_s_L : List Int) (p_s_at : Int) (p_l : List Int) : Option (Int × Int) :=
  Option.bind (Stream_Next p_s_L p_s_at (p_l.length : Int)) (fun r1 =>
  Chk (inB r1.1 p_l.length) (
  some ((nth p_l r1.1), r1.2)))
def Stream_RightItems_l1 (p_s_L : List Int) (j1 : (List GItem) → Int → Option ((List GItem) × Int)) : List ByteArray → Nat → (List GItem) → Int → Option ((List GItem) × Int)
  | [], _, x1, x2 => j1 x1 x2
  | y1 :: ys1, i1, x1, x2 => Join (fun (x3 : List GItem) (x4 : Int) =>
  Stream_RightItems_l1 p_s_L j1 ys1 (i1 + 1) x3 x4) (fun j2 =>
  Option.bind (Stream_Flip p_s_L x2 6) (fun r1 =>
  Join (fun (x5 : List GItem) (x6 : Int) =>
  j2 x5 x6) (fun j3 =>
  if !r1.1 then
  Option.bind (Stream_Pick p_s_L r1.2 [1, 1, 2, 3]) (fun r2 =>
  Option.bind (Stream_Pick p_s_L r2.2 [50, 100]) (fun r3 =>
  Option.bind (Stream_Pick p_s_L r3.2 [0, 10, 60]) (fun r4 =>
  Option.bind (Stream_Pick p_s_L r4.2 [0, 20, 50, 200]) (fun r5 =>
  Chk (room x1.length) (
  j3 (x1 ++ [(GItem.mk y1 r2.1 r3.1 r4.1 r5.1)]) r5.2)))))
  else
  j3 x1 r1.2)))
def Stream_RightItems (p_s_L : List Int) (p_s_at : Int) (p_most : Int) : Option ((List GItem) × Int) :=
  Chk (cutB 0 p_most ([k_ic, k_ia, k_id, k_ib, k_ie] : List ByteArray).length) (
  Join (fun (x1 : List GItem) (x2 : Int) =>
  some (x1, x2)) (fun j1 =>
  Stream_RightItems_l1 p_s_L j1 (cut ([k_ic, k_ia, k_id, k_ib, k_ie] : List ByteArray) 0 p_most) 0 ([] : List GItem) p_s_at))
def Stream_Some (p_s_L : List Int) (p_s_at : Int) (p_l : List ByteArray) : Option (ByteArray × Int) :=
  Option.bind (Stream_Next p_s_L p_s_at (p_l.length : Int)) (fun r1 =>
  Chk (inB r1.1 p_l.length) (
  some ((nth p_l r1.1), r1.2)))
def Stream_Range (p_s_L : List Int) (p_s_at : Int) (p_low : Int) (p_high : Int) : Option (Int × Int) :=
  if decide (p_high < p_low) then
  some (p_low, p_s_at)
  else
  Option.bind (Stream_Next p_s_L p_s_at (W ((W (p_high - p_low)) + 1))) (fun r1 =>
  some (W (p_low + r1.1), r1.2))
def Stream_Odd (p_s_L : List Int) (p_s_at : Int) (p_low : Int) (p_high : Int) : Option (Int × Int) :=
  Option.bind (Stream_Flip p_s_L p_s_at 12) (fun r1 =>
  if r1.1 then
  Option.bind (Stream_Pick p_s_L r1.2 [W (p_low - 1), W (p_high + 1), p_low, p_high, (-1099511627776), 1099511627776]) (fun r2 =>
  some (r2.1, r2.2))
  else
  Option.bind (Stream_Range p_s_L r1.2 p_low p_high) (fun r3 =>
  some (r3.1, r3.2)))
def Stream_Items (p_s_L : List Int) (p_s_at : Int) (p_most : Int) : Option ((List GItem) × Int) :=
  Option.bind (Stream_RightItems p_s_L p_s_at p_most) (fun r1 =>
  Join (fun (x1 : Int) (x2 : Bool) =>
  Join (fun (x3 : List GItem) (x4 : Int) =>
  some (x3, x4)) (fun j2 =>
  if x2 then
  Option.bind (Stream_Next p_s_L x1 (r1.1.length : Int)) (fun r3 =>
  Chk (inB r3.1 r1.1.length) (
  Option.bind (Stream_Some p_s_L r3.2 [(nth r1.1 r3.1).Key, k_empty, k_ia]) (fun r4 =>
  Option.bind (Stream_Odd p_s_L r4.2 1 60) (fun r5 =>
  Option.bind (Stream_Odd p_s_L r5.2 1 100) (fun r6 =>
  Option.bind (Stream_Odd p_s_L r6.2 0 100) (fun r7 =>
  Option.bind (Stream_Odd p_s_L r7.2 0 100) (fun r8 =>
  j2 (((((r1.1.set r3.1.toNat (GItem.mk r4.1 ((nth r1.1 r3.1).Heats) ((nth r1.1 r3.1).Long) ((nth r1.1 r3.1).Gap) ((nth r1.1 r3.1).Break))).set r3.1.toNat (GItem.mk r4.1 r5.1 ((nth r1.1 r3.1).Long) ((nth r1.1 r3.1).Gap) ((nth r1.1 r3.1).Break))).set r3.1.toNat (GItem.mk r4.1 r5.1 r6.1 ((nth r1.1 r3.1).Gap) ((nth r1.1 r3.1).Break))).set r3.1.toNat (GItem.mk r4.1 r5.1 r6.1 r7.1 ((nth r1.1 r3.1).Break))).set r3.1.toNat (GItem.mk r4.1 r5.1 r6.1 r7.1 r8.1)) r8.2)))))))
  else
  j2 r1.1 x1)) (fun j1 =>
  if (decide (0 < (r1.1.length : Int))) then
  Option.bind (Stream_Flip p_s_L r1.2 15) (fun r2 =>
  j1 r2.2 r2.1)
  else
  j1 r1.2 false))
def strconv_Itoa (n : Int) : Option ByteArray :=
  Chk (decide (-9223372036854775808 ≤ n) && decide (n ≤ 9223372036854775807)) (some (⟨(Lib.itoa n).toArray⟩))
def strings_Join (xs : List ByteArray) (sep : ByteArray) : Option ByteArray :=
  Chk (decide (xs.length ≤ 140737488355328) && decide ((Lib.join (xs.map (·.data.toList)) sep.data.toList).length ≤ 140737488355328)) (some (⟨(Lib.join (xs.map (·.data.toList)) sep.data.toList).toArray⟩))
def tumbref2_numbers_l1 (j1 : (List ByteArray) → Option ByteArray) : List Int → Nat → (List ByteArray) → Option ByteArray
  | [], _, x1 => j1 x1
  | y1 :: ys1, i1, x1 => Option.bind (strconv_Itoa y1) (fun r1 =>
  Chk (room x1.length) (
  tumbref2_numbers_l1 j1 ys1 (i1 + 1) (x1 ++ [r1])))
def tumbref2_numbers (p_l : List Int) : Option ByteArray :=
  Join (fun (x1 : List ByteArray) =>
  Option.bind (strings_Join x1 k__20) (fun r2 =>
  some r2)) (fun j1 =>
  tumbref2_numbers_l1 j1 p_l 0 ([] : List ByteArray))
def tumbref2_ItemLines_l1 (j1 : ByteArray → Option ByteArray) : List GItem → Nat → ByteArray → Option ByteArray
  | [], _, x1 => j1 x1
  | y1 :: ys1, i1, x1 => Chk (decide (y1.Key.size + k__20.size < 1073741824)) (
  Option.bind (tumbref2_numbers [y1.Heats, y1.Long, y1.Gap, y1.Break]) (fun r1 =>
  Chk (decide ((y1.Key ++ k__20).size + r1.size < 1073741824)) (
  Chk (decide (((y1.Key ++ k__20) ++ r1).size + k__0a.size < 1073741824)) (
  Chk (decide (x1.size + (((y1.Key ++ k__20) ++ r1) ++ k__0a).size < 1073741824)) (
  tumbref2_ItemLines_l1 j1 ys1 (i1 + 1) (x1 ++ (((y1.Key ++ k__20) ++ r1) ++ k__0a)))))))
def tumbref2_ItemLines (p_l : List GItem) : Option ByteArray :=
  Join (fun (x1 : ByteArray) =>
  some x1) (fun j1 =>
  tumbref2_ItemLines_l1 j1 p_l 0 k_empty)
def Stream_Changed (p_s_L : List Int) (p_s_at : Int) (p_t : ByteArray) (p_with : ByteArray) : Option (ByteArray × Int) :=
  if ((decide (p_t = k_empty)) || (decide (p_with = k_empty))) then
  some (p_with, p_s_at)
  else
  Option.bind (Stream_Next p_s_L p_s_at (p_t.size : Int)) (fun r1 =>
  Option.bind (Stream_Next p_s_L r1.2 (p_with.size : Int)) (fun r2 =>
  Chk (inB r2.1 p_with.size) (
  Option.bind (Stream_Next p_s_L r2.2 3) (fun r3 =>
  if decide (r3.1 = 0) then
  Chk (cutB 0 r1.1 p_t.size) (
  Chk (decide ((scut p_t 0 r1.1).size + (Utf8.encode (IntKind.wrap .i32 (sbyte p_with r2.1))).size < 1073741824)) (
  Chk (cutB (W (r1.1 + 1)) (p_t.size : Int) p_t.size) (
  Chk (decide (((scut p_t 0 r1.1) ++ (Utf8.encode (IntKind.wrap .i32 (sbyte p_with r2.1)))).size + (scut p_t (W (r1.1 + 1)) p_t.size).size < 1073741824)) (
  some (((scut p_t 0 r1.1) ++ (Utf8.encode (IntKind.wrap .i32 (sbyte p_with r2.1)))) ++ (scut p_t (W (r1.1 + 1)) p_t.size), r3.2)))))
  else
  if decide (r3.1 = 1) then
  Chk (cutB 0 r1.1 p_t.size) (
  Chk (decide ((scut p_t 0 r1.1).size + (Utf8.encode (IntKind.wrap .i32 (sbyte p_with r2.1))).size < 1073741824)) (
  Chk (cutB r1.1 (p_t.size : Int) p_t.size) (
  Chk (decide (((scut p_t 0 r1.1) ++ (Utf8.encode (IntKind.wrap .i32 (sbyte p_with r2.1)))).size + (scut p_t r1.1 p_t.size).size < 1073741824)) (
  some (((scut p_t 0 r1.1) ++ (Utf8.encode (IntKind.wrap .i32 (sbyte p_with r2.1)))) ++ (scut p_t r1.1 p_t.size), r3.2)))))
  else
  Chk (cutB 0 r1.1 p_t.size) (
  Chk (cutB (W (r1.1 + 1)) (p_t.size : Int) p_t.size) (
  Chk (decide ((scut p_t 0 r1.1).size + (scut p_t (W (r1.1 + 1)) p_t.size).size < 1073741824)) (
  some ((scut p_t 0 r1.1) ++ (scut p_t (W (r1.1 + 1)) p_t.size), r3.2))))))))
def Stream_ItemText_l1 (r3 : Int × Int) (p_s_L : List Int) (j1 : Int → ByteArray → Option (ByteArray × Int)) : Nat → Int → ByteArray → Int → Option (ByteArray × Int)
  | 0, _, _, _ => none
  | m1 + 1, x1, x2, x3 => if decide (x3 < r3.1) then
  Option.bind (Stream_Changed p_s_L x1 x2 k__20_0a0_2d9ia) (fun r4 =>
  Stream_ItemText_l1 r3 p_s_L j1 m1 r4.2 r4.1 (W (x3 + 1)))
  else
  j1 x1 x2
def Stream_ItemText (p_s_L : List Int) (p_s_at : Int) : Option (ByteArray × Int) :=
  Option.bind (Stream_RightItems p_s_L p_s_at 3) (fun r1 =>
  Option.bind (tumbref2_ItemLines r1.1) (fun r2 =>
  Option.bind (Stream_Pick p_s_L r1.2 [0, 0, 1, 2]) (fun r3 =>
  Join (fun (x1 : Int) (x2 : ByteArray) =>
  some (x2, x1)) (fun j1 =>
  Stream_ItemText_l1 r3 p_s_L j1 ((r3.1 - 0).toNat + 2) r3.2 r2 0))))
def strings_Trim (s c : ByteArray) : Option ByteArray :=
  Chk (decide (s.size ≤ 9223372036854775807)) (Chk (decide (c.size < 4294967281)) (Chk (c.data.toList.all fun b => decide (b.toNat < 128)) (some ⟨(Lib.trimS s.data.toList c.data.toList).toArray⟩)))
def words_IsKey (p_s : ByteArray) : Option Bool :=
  Join (fun (c1 : Bool) =>
  Join (fun (c2 : Bool) =>
  Join (fun (c3 : Bool) =>
  some c3) (fun j3 =>
  if c2 then Option.bind (strings_Trim p_s k_abcdefghijkl_h0e2e2c) (fun r1 =>
  j3 (c2 && (decide (r1 = k_empty)))) else j3 (c2 && true))) (fun j2 =>
  if c1 then Chk (inB 0 p_s.size) (
  j2 (c1 && (decide ((sbyte p_s 0) ≤ 122)))) else j2 (c1 && true))) (fun j1 =>
  if ((decide (1 ≤ (p_s.size : Int))) && (decide ((p_s.size : Int) ≤ 40))) then Chk (inB 0 p_s.size) (
  j1 (((decide (1 ≤ (p_s.size : Int))) && (decide ((p_s.size : Int) ≤ 40))) && (decide (97 ≤ (sbyte p_s 0))))) else j1 (((decide (1 ≤ (p_s.size : Int))) && (decide ((p_s.size : Int) ≤ 40))) && true))
def words_Within (p_n : Int) (p_low : Int) (p_high : Int) : Bool :=
  ((decide (p_low ≤ p_n)) && (decide (p_n ≤ p_high)))
def session_CheckItems_l1 (j1 : (List (ByteArray × Bool)) → Option Int) : List GItem → Nat → (List (ByteArray × Bool)) → Option Int
  | [], _, x1 => j1 x1
  | y1 :: ys1, i1, x1 => Option.bind (words_IsKey y1.Key) (fun r1 =>
  if !r1 then
  some 5
  else
  if mgetD x1 y1.Key false then
  some 6
  else
  if ((((!(words_Within y1.Heats 1 60)) || (!(words_Within y1.Long 1 3600000))) || (!(words_Within y1.Gap 0 3600000))) || (!(words_Within y1.Break 0 3600000))) then
  some 1
  else
  session_CheckItems_l1 j1 ys1 (i1 + 1) (mput x1 y1.Key true))
def session_CheckItems (p_l : List GItem) : Option Int :=
  if decide (100 < (p_l.length : Int)) then
  some 2
  else
  Join (fun (x1 : List (ByteArray × Bool)) =>
  some 0) (fun j1 =>
  session_CheckItems_l1 j1 p_l 0 ([] : List (ByteArray × Bool)))
def session_Text_l2 (j2 : ByteArray → Option (ByteArray × Int)) : List Int → Nat → ByteArray → Option (ByteArray × Int)
  | [], _, x3 => j2 x3
  | y2 :: ys2, i2, x3 => Option.bind (strconv_Itoa y2) (fun r2 =>
  Chk (decide (k__20.size + r2.size < 1073741824)) (
  Chk (decide (x3.size + (k__20 ++ r2).size ≤ 140737488355328)) (
  session_Text_l2 j2 ys2 (i2 + 1) (x3 ++ (k__20 ++ r2)))))
def session_Text_l1 (j1 : ByteArray → Bool → Option (ByteArray × Int)) : List GItem → Nat → ByteArray → Bool → Option (ByteArray × Int)
  | [], _, x1, x2 => j1 x1 x2
  | y1 :: ys1, i1, x1, _ => Chk (decide (x1.size + y1.Key.size ≤ 140737488355328)) (
  Join (fun (x3 : ByteArray) =>
  Chk (decide (x3.size + k__0a.size ≤ 140737488355328)) (
  session_Text_l1 j1 ys1 (i1 + 1) (x3 ++ k__0a) true)) (fun j2 =>
  session_Text_l2 j2 ([y1.Heats, y1.Long, y1.Gap, y1.Break] : List Int) 0 (x1 ++ y1.Key)))
def session_Text (p_l : List GItem) : Option (ByteArray × Int) :=
  Option.bind (session_CheckItems p_l) (fun r1 =>
  if !decide (r1 = 0) then
  some (k_empty, r1)
  else
  Join (fun (x1 : ByteArray) (x2 : Bool) =>
  if decide (200000 < (x1.size : Int)) then
  some (k_empty, 2)
  else
  some (x1, 0)) (fun j1 =>
  session_Text_l1 j1 p_l 0 ByteArray.empty false))
def tumbref2_in (p_n : Int) (p_low : Int) (p_high : Int) : Bool :=
  ((decide (p_low ≤ p_n)) && (decide (p_n ≤ p_high)))
def strings_IndexByte (s : ByteArray) (c : Int) : Int := Lib.indexByte s.data.toList c.toNat.toUInt8
def tumbref2_only_l1 (p_s : ByteArray) (p_some : ByteArray) (j1 : Option Bool) : Nat → Int → Option Bool
  | 0, _ => none
  | m1 + 1, x1 => if decide (x1 < (p_s.size : Int)) then
  Chk (inB x1 p_s.size) (
  if decide ((strings_IndexByte p_some (sbyte p_s x1)) < 0) then
  some false
  else
  tumbref2_only_l1 p_s p_some j1 m1 (W (x1 + 1)))
  else
  j1
def tumbref2_only (p_s : ByteArray) (p_some : ByteArray) : Option Bool :=
  Join (some true) (fun j1 =>
  tumbref2_only_l1 p_s p_some j1 (((p_s.size : Int) - 0).toNat + 2) 0)
def tumbref2_Key (p_s : ByteArray) : Option Bool :=
  Join (fun (c1 : Bool) =>
  Join (fun (c2 : Bool) =>
  some c2) (fun j2 =>
  if c1 then Option.bind (tumbref2_only p_s k_abcdefghijkl_h0e2e2c) (fun r2 =>
  j2 (c1 && r2)) else j2 (c1 && true))) (fun j1 =>
  if (tumbref2_in (p_s.size : Int) 1 40) then Chk (cutB 0 1 p_s.size) (
  Option.bind (tumbref2_only (scut p_s 0 1) k_abcdefghijklmnopqrstuvwxyz) (fun r1 =>
  j1 ((tumbref2_in (p_s.size : Int) 1 40) && r1))) else j1 ((tumbref2_in (p_s.size : Int) 1 40) && true))
def tumbref2_ItemAt_c1 (p_x : GItem) (p_a1 : ByteArray) : Bool :=
  decide (p_x.Key = p_a1)
def slices_IndexFunc_Item_tumbref2_ItemAt_c1_l1 (p_f_0 : ByteArray) (j1 : Int) : List GItem → Nat → Int
  | [], _ => j1
  | y1 :: ys1, i1 => if (tumbref2_ItemAt_c1 y1 p_f_0) then
  (i1 : Int)
  else
  slices_IndexFunc_Item_tumbref2_ItemAt_c1_l1 p_f_0 j1 ys1 (i1 + 1)
def slices_IndexFunc_Item_tumbref2_ItemAt_c1 (p_s : List GItem) (p_f_0 : ByteArray) : Int :=
  Join ((-1)) (fun j1 =>
  slices_IndexFunc_Item_tumbref2_ItemAt_c1_l1 p_f_0 j1 p_s 0)
def tumbref2_ItemAt (p_l : List GItem) (p_key : ByteArray) : Int :=
  (slices_IndexFunc_Item_tumbref2_ItemAt_c1 p_l p_key)
def tumbref2_ItemsFault_l1 (p_l : List GItem) (j1 : Option Int) : List GItem → Nat → Option Int
  | [], _ => j1
  | y1 :: ys1, i1 => Option.bind (tumbref2_Key y1.Key) (fun r1 =>
  if !r1 then
  some 5
  else
  Chk (cutB 0 (i1 : Int) p_l.length) (
  if decide (0 ≤ (tumbref2_ItemAt (cut p_l 0 (i1 : Int)) y1.Key)) then
  some 6
  else
  if ((((!(tumbref2_in y1.Heats 1 60)) || (!(tumbref2_in y1.Long 1 3600000))) || (!(tumbref2_in y1.Gap 0 3600000))) || (!(tumbref2_in y1.Break 0 3600000))) then
  some 1
  else
  tumbref2_ItemsFault_l1 p_l j1 ys1 (i1 + 1)))
def tumbref2_ItemsFault (p_l : List GItem) : Option Int :=
  if decide (100 < (p_l.length : Int)) then
  some 2
  else
  Join (some 0) (fun j1 =>
  tumbref2_ItemsFault_l1 p_l j1 p_l 0)
def strings_Cut (s : ByteArray) (sep : ByteArray) : Option (ByteArray × ByteArray × Bool) :=
  Chk (decide (s.size < 4294967281)) (some ((⟨(Lib.cut s.data.toList sep.data.toList).1.toArray⟩, ⟨(Lib.cut s.data.toList sep.data.toList).2.1.toArray⟩, (Lib.cut s.data.toList sep.data.toList).2.2)))
def strings_Split (s : ByteArray) (sep : ByteArray) : Option (List ByteArray) :=
  Chk (decide (s.size < 4294967281) && decide (1 ≤ sep.size)) (some (Lib.splitB sep 0 (Lib.countB s sep) s))
def words_Split_l1 (j1 : Option ((List ByteArray) × Bool)) : List ByteArray → Nat → Option ((List ByteArray) × Bool)
  | [], _ => j1
  | y1 :: ys1, i1 => if decide (y1 = k_empty) then
  some (([] : List ByteArray), false)
  else
  words_Split_l1 j1 ys1 (i1 + 1)
def words_Split (p_line : ByteArray) : Option ((List ByteArray) × Bool) :=
  Option.bind (strings_Split p_line k__20) (fun r1 =>
  Join (some (r1, true)) (fun j1 =>
  words_Split_l1 j1 r1 0))
def strings_CutPrefix (s : ByteArray) (p : ByteArray) : ByteArray × Bool :=
  (⟨(Lib.trimPrefix s.data.toList p.data.toList).toArray⟩, Lib.hasPrefix s.data.toList p.data.toList)
def strconv_Atoi (s : ByteArray) : Option Int :=
  Chk (decide (s.size ≤ 18)) (Lib.atoi s.data.toList)
def words_Number (p_s : ByteArray) (p_most : Int) : Option (Int × Bool) :=
  Join (fun (c1 : Bool) =>
  Join (fun (c2 : Bool) =>
  if c2 then
  some (0, false)
  else
  Option.bind (strconv_Atoi p_s) (fun r2 =>
  some (r2, true))) (fun j2 =>
  if c1 then j2 (c1 || true) else Chk (inB 0 ((strings_CutPrefix p_s k__2d).1).size) (
  j2 (c1 || ((decide ((sbyte ((strings_CutPrefix p_s k__2d).1) 0) = 48)) && ((!decide (((strings_CutPrefix p_s k__2d).1) = k_0)) || ((strings_CutPrefix p_s k__2d).2))))))) (fun j1 =>
  if ((decide (((strings_CutPrefix p_s k__2d).1) = k_empty)) || (decide (p_most < (((strings_CutPrefix p_s k__2d).1).size : Int)))) then j1 (((decide (((strings_CutPrefix p_s k__2d).1) = k_empty)) || (decide (p_most < (((strings_CutPrefix p_s k__2d).1).size : Int)))) || true) else Option.bind (strings_Trim ((strings_CutPrefix p_s k__2d).1) k_0123456789) (fun r1 =>
  j1 (((decide (((strings_CutPrefix p_s k__2d).1) = k_empty)) || (decide (p_most < (((strings_CutPrefix p_s k__2d).1).size : Int)))) || (!decide (r1 = k_empty)))))
def words_Numbers_l1 (p_most : Int) (j1 : (List Int) → Option ((List Int) × Bool)) : List ByteArray → Nat → (List Int) → Option ((List Int) × Bool)
  | [], _, x1 => j1 x1
  | y1 :: ys1, i1, x1 => Option.bind (words_Number y1 p_most) (fun r1 =>
  if !r1.2 then
  some (([] : List Int), false)
  else
  Chk (room x1.length) (
  words_Numbers_l1 p_most j1 ys1 (i1 + 1) (x1 ++ [r1.1])))
def words_Numbers (p_l : List ByteArray) (p_most : Int) : Option ((List Int) × Bool) :=
  Join (fun (x1 : List Int) =>
  some (x1, true)) (fun j1 =>
  words_Numbers_l1 p_most j1 p_l 0 ([] : List Int))
def session_Read_c1 (p_line : ByteArray) (p_a1 : List GItem) : Option (Bool × (List GItem)) :=
  Option.bind (words_Split p_line) (fun r1 =>
  if ((!r1.2) || (!decide ((r1.1.length : Int) = 5))) then
  some (false, p_a1)
  else
  Chk (cutB 1 (r1.1.length : Int) r1.1.length) (
  Option.bind (words_Numbers (cut r1.1 1 r1.1.length) 15) (fun r2 =>
  if !r2.2 then
  some (false, p_a1)
  else
  Chk (inB 0 r1.1.length) (
  Chk (inB 0 r2.1.length) (
  Chk (inB 1 r2.1.length) (
  Chk (inB 2 r2.1.length) (
  Chk (inB 3 r2.1.length) (
  Chk (room p_a1.length) (
  some (true, (p_a1 ++ [(GItem.mk (nth r1.1 0) (nth r2.1 0) (nth r2.1 1) (nth r2.1 2) (nth r2.1 3))])))))))))))
def words_Lines_session_Read_c1_l1 (j1 : (List GItem) → Option (Int × Bool × (List GItem))) : Nat → (List GItem) → ByteArray → Int → Option (Int × Bool × (List GItem))
  | 0, _, _, _ => none
  | m1 + 1, x1, x2, x3 => if !decide (x2 = k_empty) then
  Option.bind (strings_Cut x2 k__0a) (fun r1 =>
  Join (fun (x4 : List GItem) (x5 : Bool) =>
  if x5 then
  some (x3, false, x4)
  else
  words_Lines_session_Read_c1_l1 j1 m1 x4 r1.2.1 (W (x3 + 1))) (fun j2 =>
  if (!r1.2.2) then
  j2 x1 true
  else
  Option.bind (session_Read_c1 r1.1 x1) (fun r2 =>
  j2 r2.2 (!r2.1))))
  else
  j1 x1
def words_Lines_session_Read_c1 (p_text : ByteArray) (p_take_0 : List GItem) : Option (Int × Bool × (List GItem)) :=
  Join (fun (x1 : List GItem) =>
  some (0, true, x1)) (fun j1 =>
  words_Lines_session_Read_c1_l1 j1 4611686018427387904 p_take_0 p_text 0)
def session_Read (p_text : ByteArray) : Option ((List GItem) × Int × Int) :=
  if decide (200000 < (p_text.size : Int)) then
  some (([] : List GItem), 0, 2)
  else
  Option.bind (words_Lines_session_Read_c1 p_text ([] : List GItem)) (fun r1 =>
  if !r1.2.1 then
  some (([] : List GItem), r1.1, 9)
  else
  Option.bind (session_CheckItems r1.2.2) (fun r2 =>
  if !decide (r2 = 0) then
  some (([] : List GItem), 0, r2)
  else
  some (r1.2.2, 0, 0)))
def slices_Index_string_l1 (p_v : ByteArray) (j1 : Int) : List ByteArray → Nat → Int
  | [], _ => j1
  | y1 :: ys1, i1 => if decide (p_v = y1) then
  (i1 : Int)
  else
  slices_Index_string_l1 p_v j1 ys1 (i1 + 1)
def slices_Index_string (p_s : List ByteArray) (p_v : ByteArray) : Int :=
  Join ((-1)) (fun j1 =>
  slices_Index_string_l1 p_v j1 p_s 0)
def slices_Contains_string (p_s : List ByteArray) (p_v : ByteArray) : Bool :=
  decide (0 ≤ (slices_Index_string p_s p_v))
def strings_TrimPrefix (s : ByteArray) (p : ByteArray) : ByteArray :=
  ⟨(Lib.trimPrefix s.data.toList p.data.toList).toArray⟩
def tumbref2_Number (p_s : ByteArray) (p_most : Int) : Option (Int × Bool) :=
  Join (fun (c1 : Bool) =>
  if c1 then
  some (0, false)
  else
  Option.bind (strconv_Atoi p_s) (fun r2 =>
  Join (fun (c2 : Bool) =>
  some (r2, c2)) (fun j2 =>
  if true then Option.bind (strconv_Itoa r2) (fun r3 =>
  j2 (true && (decide (r3 = p_s)))) else j2 (true && true)))) (fun j1 =>
  if ((decide ((strings_TrimPrefix p_s k__2d) = k_empty)) || (decide (p_most < ((strings_TrimPrefix p_s k__2d).size : Int)))) then j1 (((decide ((strings_TrimPrefix p_s k__2d) = k_empty)) || (decide (p_most < ((strings_TrimPrefix p_s k__2d).size : Int)))) || true) else Option.bind (tumbref2_only (strings_TrimPrefix p_s k__2d) k_0123456789) (fun r1 =>
  j1 (((decide ((strings_TrimPrefix p_s k__2d) = k_empty)) || (decide (p_most < ((strings_TrimPrefix p_s k__2d).size : Int)))) || (!r1))))
def tumbref2_numbersIn_l1 (p_most : Int) (j1 : (List Int) → Bool → Option ((List Int) × Bool)) : List ByteArray → Nat → (List Int) → Bool → Option ((List Int) × Bool)
  | [], _, x1, x2 => j1 x1 x2
  | y1 :: ys1, i1, x1, x2 => Option.bind (tumbref2_Number y1 p_most) (fun r1 =>
  Chk (room x1.length) (
  tumbref2_numbersIn_l1 p_most j1 ys1 (i1 + 1) (x1 ++ [r1.1]) (x2 && r1.2)))
def tumbref2_numbersIn (p_l : List ByteArray) (p_most : Int) : Option ((List Int) × Bool) :=
  Join (fun (x1 : List Int) (x2 : Bool) =>
  some (x1, x2)) (fun j1 =>
  tumbref2_numbersIn_l1 p_most j1 p_l 0 ([] : List Int) true)
def tumbref2_ItemsRead_c1 (p_line : ByteArray) (p_a1 : List GItem) : Option (Bool × (List GItem)) :=
  Option.bind (strings_Split p_line k__20) (fun r1 =>
  if ((!decide ((r1.length : Int) = 5)) || (slices_Contains_string r1 k_empty)) then
  some (false, p_a1)
  else
  Chk (cutB 1 (r1.length : Int) r1.length) (
  Option.bind (tumbref2_numbersIn (cut r1 1 r1.length) 15) (fun r2 =>
  Chk (inB 0 r1.length) (
  Chk (inB 0 r2.1.length) (
  Chk (inB 1 r2.1.length) (
  Chk (inB 2 r2.1.length) (
  Chk (inB 3 r2.1.length) (
  Chk (room p_a1.length) (
  some (r2.2, (p_a1 ++ [(GItem.mk (nth r1 0) (nth r2.1 0) (nth r2.1 1) (nth r2.1 2) (nth r2.1 3))])))))))))))
def tumbref2_Lines_tumbref2_ItemsRead_c1_l1 (j1 : (List GItem) → Option (Int × Bool × (List GItem))) : Nat → (List GItem) → ByteArray → Int → Option (Int × Bool × (List GItem))
  | 0, _, _, _ => none
  | m1 + 1, x1, x2, x3 => if !decide (x2 = k_empty) then
  Option.bind (strings_Cut x2 k__0a) (fun r1 =>
  Join (fun (x4 : List GItem) (x5 : Bool) =>
  if x5 then
  some (x3, false, x4)
  else
  tumbref2_Lines_tumbref2_ItemsRead_c1_l1 j1 m1 x4 r1.2.1 (W (x3 + 1))) (fun j2 =>
  if (!r1.2.2) then
  j2 x1 true
  else
  Option.bind (tumbref2_ItemsRead_c1 r1.1 x1) (fun r2 =>
  j2 r2.2 (!r2.1))))
  else
  j1 x1
def tumbref2_Lines_tumbref2_ItemsRead_c1 (p_text : ByteArray) (p_take_0 : List GItem) : Option (Int × Bool × (List GItem)) :=
  Join (fun (x1 : List GItem) =>
  some (0, true, x1)) (fun j1 =>
  tumbref2_Lines_tumbref2_ItemsRead_c1_l1 j1 4611686018427387904 p_take_0 p_text 0)
def tumbref2_ItemsRead (p_text : ByteArray) : Option ((List GItem) × Int × Int) :=
  if decide (200000 < (p_text.size : Int)) then
  some (([] : List GItem), 0, 2)
  else
  Option.bind (tumbref2_Lines_tumbref2_ItemsRead_c1 p_text ([] : List GItem)) (fun r1 =>
  if !r1.2.1 then
  some (([] : List GItem), r1.1, 9)
  else
  Option.bind (tumbref2_ItemsFault r1.2.2) (fun r2 =>
  if !decide (r2 = 0) then
  some (([] : List GItem), 0, r2)
  else
  some (r1.2.2, 0, 0)))
def slices_Equal_Item_l1 (p_s2 : List GItem) (j1 : Option Bool) : List GItem → Nat → Option Bool
  | [], _ => j1
  | y1 :: ys1, i1 => Chk (inB (i1 : Int) p_s2.length) (
  if !decide (y1 = (nth p_s2 (i1 : Int))) then
  some false
  else
  slices_Equal_Item_l1 p_s2 j1 ys1 (i1 + 1))
def slices_Equal_Item (p_s1 : List GItem) (p_s2 : List GItem) : Option Bool :=
  if !decide ((p_s1.length : Int) = (p_s2.length : Int)) then
  some false
  else
  Join (some true) (fun j1 =>
  slices_Equal_Item_l1 p_s2 j1 p_s1 0)
def words_IsMoment (p_n : Int) : Bool :=
  ((decide (0 ≤ p_n)) && (decide (p_n < 345686400000)))
def session_timetable_l2 (y1 : GItem) (j2 : (List GSlot) → Int → Option (List GSlot)) : Nat → (List GSlot) → Int → Int → Option (List GSlot)
  | 0, _, _, _ => none
  | m1 + 1, x3, x4, x5 => if decide (x5 ≤ y1.Heats) then
  Join (fun (x6 : List GSlot) (x7 : Int) =>
  session_timetable_l2 y1 j2 m1 x6 x7 (W (x5 + 1))) (fun j3 =>
  Chk (room x3.length) (
  Join (fun (x8 : Int) =>
  j3 (x3 ++ [(GSlot.mk y1.Key x5 (GWindow.mk x4 (W (x4 + y1.Long))))]) x8) (fun j4 =>
  if decide (x5 < y1.Heats) then
  j4 (W ((W (x4 + y1.Long)) + y1.Gap))
  else
  j4 (W (x4 + y1.Long)))))
  else
  j2 x3 x4
def session_timetable_l1 (j1 : (List GSlot) → Option (List GSlot)) : List GItem → Nat → (List GSlot) → Int → Option (List GSlot)
  | [], _, x1, _ => j1 x1
  | y1 :: ys1, i1, x1, x2 => Join (fun (x3 : List GSlot) (x4 : Int) =>
  session_timetable_l1 j1 ys1 (i1 + 1) x3 (W (x4 + y1.Break))) (fun j2 =>
  session_timetable_l2 y1 j2 ((y1.Heats - 1).toNat + 2) x1 x2 1)
def session_timetable (p_l : List GItem) (p_from : Int) : Option (List GSlot) :=
  Join (fun (x1 : List GSlot) =>
  some x1) (fun j1 =>
  session_timetable_l1 j1 p_l 0 ([] : List GSlot) p_from)
def session_end (p_l : List GSlot) (p_from : Int) : Option Int :=
  if decide ((p_l.length : Int) = 0) then
  some p_from
  else
  Chk (inB (W ((p_l.length : Int) - 1)) p_l.length) (
  some (((nth p_l (W ((p_l.length : Int) - 1))).Time).To))
def session_begin (p_l : List GItem) (p_from : Int) : Option ((List GSlot) × Int) :=
  if !(words_IsMoment p_from) then
  some (([] : List GSlot), 1)
  else
  Option.bind (session_timetable p_l p_from) (fun r1 =>
  Option.bind (session_end r1 p_from) (fun r2 =>
  if decide (345686400000 < r2) then
  some (([] : List GSlot), 1)
  else
  some (r1, 0)))
def session_Timetable (p_l : List GItem) (p_from : Int) : Option ((List GSlot) × Int) :=
  Option.bind (session_CheckItems p_l) (fun r1 =>
  if !decide (r1 = 0) then
  some (([] : List GSlot), r1)
  else
  Option.bind (session_begin p_l p_from) (fun r2 =>
  some (r2.1, r2.2)))
def session_Ends (p_l : List GItem) (p_from : Int) : Option (Int × Int) :=
  Option.bind (session_Timetable p_l p_from) (fun r1 =>
  if !decide (r1.2 = 0) then
  some (0, r1.2)
  else
  Option.bind (session_end r1.1 p_from) (fun r2 =>
  some (r2, 0)))
def tumblaw2_timed : Option Bool :=
  Option.bind (session_Ends [(GItem.mk k_a 2 10 5 0)] 0) (fun r1 =>
  some ((decide (r1.2 = 0)) && (decide (r1.1 = 25))))
def tumblaw2_ItemTexts (p_l : List Int) : Option Bool :=
  Option.bind (Stream_Items p_l 0 4) (fun r1 =>
  Option.bind (Stream_ItemText p_l r1.2) (fun r2 =>
  Option.bind (session_Text r1.1) (fun r3 =>
  Option.bind (tumbref2_ItemsFault r1.1) (fun r4 =>
  Join (fun (x1 : ByteArray) =>
  Option.bind (session_Read r2.1) (fun r6 =>
  Option.bind (tumbref2_ItemsRead r2.1) (fun r7 =>
  Join (fun (c1 : Bool) =>
  Join (fun (c2 : Bool) =>
  some c2) (fun j3 =>
  if ((c1 && (decide (r6.2.1 = r7.2.1))) && (decide (r6.2.2 = r7.2.2))) then Option.bind (tumblaw2_timed) (fun r9 =>
  j3 (((c1 && (decide (r6.2.1 = r7.2.1))) && (decide (r6.2.2 = r7.2.2))) && r9)) else j3 (((c1 && (decide (r6.2.1 = r7.2.1))) && (decide (r6.2.2 = r7.2.2))) && true))) (fun j2 =>
  if ((decide (r3.2 = r4)) && (decide (r3.1 = x1))) then Option.bind (slices_Equal_Item r6.1 r7.1) (fun r8 =>
  j2 (((decide (r3.2 = r4)) && (decide (r3.1 = x1))) && r8)) else j2 (((decide (r3.2 = r4)) && (decide (r3.1 = x1))) && true))))) (fun j1 =>
  if decide (r4 = 0) then
  Option.bind (tumbref2_ItemLines r1.1) (fun r5 =>
  j1 r5)
  else
  j1 k_empty)))))
theorem twin_eqs : True := by
  have h := @Stream_RightItems_l1.eq_def; clear h; have h := @Stream_RightItems_l1.eq_1; clear h; have h := @Stream_RightItems_l1.eq_2; clear h
  have h := @tumbref2_numbers_l1.eq_def; clear h; have h := @tumbref2_numbers_l1.eq_1; clear h; have h := @tumbref2_numbers_l1.eq_2; clear h
  have h := @tumbref2_ItemLines_l1.eq_def; clear h; have h := @tumbref2_ItemLines_l1.eq_1; clear h; have h := @tumbref2_ItemLines_l1.eq_2; clear h
  have h := @Stream_ItemText_l1.eq_def; clear h; have h := @Stream_ItemText_l1.eq_1; clear h; have h := @Stream_ItemText_l1.eq_2; clear h
  have h := @session_CheckItems_l1.eq_def; clear h; have h := @session_CheckItems_l1.eq_1; clear h; have h := @session_CheckItems_l1.eq_2; clear h
  have h := @session_Text_l2.eq_def; clear h; have h := @session_Text_l2.eq_1; clear h; have h := @session_Text_l2.eq_2; clear h
  have h := @session_Text_l1.eq_def; clear h; have h := @session_Text_l1.eq_1; clear h; have h := @session_Text_l1.eq_2; clear h
  have h := @tumbref2_only_l1.eq_def; clear h; have h := @tumbref2_only_l1.eq_1; clear h; have h := @tumbref2_only_l1.eq_2; clear h
  have h := @slices_IndexFunc_Item_tumbref2_ItemAt_c1_l1.eq_def; clear h; have h := @slices_IndexFunc_Item_tumbref2_ItemAt_c1_l1.eq_1; clear h; have h := @slices_IndexFunc_Item_tumbref2_ItemAt_c1_l1.eq_2; clear h
  have h := @tumbref2_ItemsFault_l1.eq_def; clear h; have h := @tumbref2_ItemsFault_l1.eq_1; clear h; have h := @tumbref2_ItemsFault_l1.eq_2; clear h
  have h := @words_Split_l1.eq_def; clear h; have h := @words_Split_l1.eq_1; clear h; have h := @words_Split_l1.eq_2; clear h
  have h := @words_Numbers_l1.eq_def; clear h; have h := @words_Numbers_l1.eq_1; clear h; have h := @words_Numbers_l1.eq_2; clear h
  have h := @words_Lines_session_Read_c1_l1.eq_def; clear h; have h := @words_Lines_session_Read_c1_l1.eq_1; clear h; have h := @words_Lines_session_Read_c1_l1.eq_2; clear h
  have h := @slices_Index_string_l1.eq_def; clear h; have h := @slices_Index_string_l1.eq_1; clear h; have h := @slices_Index_string_l1.eq_2; clear h
  have h := @tumbref2_numbersIn_l1.eq_def; clear h; have h := @tumbref2_numbersIn_l1.eq_1; clear h; have h := @tumbref2_numbersIn_l1.eq_2; clear h
  have h := @tumbref2_Lines_tumbref2_ItemsRead_c1_l1.eq_def; clear h; have h := @tumbref2_Lines_tumbref2_ItemsRead_c1_l1.eq_1; clear h; have h := @tumbref2_Lines_tumbref2_ItemsRead_c1_l1.eq_2; clear h
  have h := @slices_Equal_Item_l1.eq_def; clear h; have h := @slices_Equal_Item_l1.eq_1; clear h; have h := @slices_Equal_Item_l1.eq_2; clear h
  have h := @session_timetable_l2.eq_def; clear h; have h := @session_timetable_l2.eq_1; clear h; have h := @session_timetable_l2.eq_2; clear h
  have h := @session_timetable_l1.eq_def; clear h; have h := @session_timetable_l1.eq_1; clear h; have h := @session_timetable_l1.eq_2; clear h
  trivial
end Go.Proofs.YtmaoleaghiilcaaGreatDoor
