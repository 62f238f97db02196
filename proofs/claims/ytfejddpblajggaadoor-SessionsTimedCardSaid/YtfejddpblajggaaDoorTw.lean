/- The Go functions as plain Lean functions, by program. -/
import Derived.Test.YtfejddpblajggaaDoorBase
namespace Go.Proofs.YtfejddpblajggaaDoor
open Go
structure GItem where
  Key : ByteArray
  Heats : Int
  Long : Int
  Gap : Int
  Break : Int
  deriving DecidableEq, Inhabited
structure GWindow where
  From : Int
  To : Int
  deriving DecidableEq, Inhabited
structure GSlot where
  Item : ByteArray
  Heat : Int
  Time : GWindow
  deriving DecidableEq, Inhabited
def k_empty : ByteArray := ⟨#[]⟩
def k_ic : ByteArray := ⟨#[105, 99]⟩
def k_ia : ByteArray := ⟨#[105, 97]⟩
def k_id : ByteArray := ⟨#[105, 100]⟩
def k_ib : ByteArray := ⟨#[105, 98]⟩
def k_ie : ByteArray := ⟨#[105, 101]⟩
def k_abcdefghijklmnopqrstuvwx : ByteArray := ⟨#[97, 98, 99, 100, 101, 102, 103, 104, 105, 106, 107, 108, 109, 110, 111, 112, 113, 114, 115, 116, 117, 118, 119, 120, 121, 122, 48, 49, 50, 51, 52, 53, 54, 55, 56, 57, 45, 95]⟩
def k_abcdefghijklmnopqrstuvwx_2 : ByteArray := ⟨#[97, 98, 99, 100, 101, 102, 103, 104, 105, 106, 107, 108, 109, 110, 111, 112, 113, 114, 115, 116, 117, 118, 119, 120, 121, 122]⟩
def k_a : ByteArray := ⟨#[97]⟩
def tumbmake_Below (p_x : Int) (p_n : Int) : Option Int :=
  if decide (p_n < 1) then
  some 0
  else
  Chk (!decide (p_n = 0)) (
  Join (fun (x1 : Int) =>
  some x1) (fun j1 =>
  if decide ((Int.tmod p_x p_n) < 0) then
  j1 (W ((Int.tmod p_x p_n) + p_n))
  else
  j1 (Int.tmod p_x p_n)))
def Stream_Next (p_s_L : List Int) (p_s_at : Int) (p_n : Int) : Option (Int × Int) :=
  if decide ((p_s_L.length : Int) = 0) then
  Option.bind (tumbmake_Below (W ((W (p_s_at + 1)) * 7919)) p_n) (fun r1 =>
  some (r1, W (p_s_at + 1)))
  else
  Chk (!decide ((p_s_L.length : Int) = 0)) (
  Chk (!decide ((p_s_L.length : Int) = 0)) (
  Chk (inB (Int.tmod (W ((W (p_s_at + 1)) - 1)) (p_s_L.length : Int)) p_s_L.length) (
  Option.bind (tumbmake_Below (nth p_s_L (Int.tmod (W ((W (p_s_at + 1)) - 1)) (p_s_L.length : Int))) 1073741824) (fun r2 =>
  Option.bind (tumbmake_Below (W (r2 + (W ((W (Int.tdiv (W ((W (p_s_at + 1)) - 1)) (p_s_L.length : Int))) * (W (7919 + (Int.tmod (W ((W (p_s_at + 1)) - 1)) (p_s_L.length : Int)))))))) p_n) (fun r3 =>
  some (r3, W (p_s_at + 1)))))))
def Stream_Flip (p_s_L : List Int) (p_s_at : Int) (p_n : Int) : Option (Bool × Int) :=
  Option.bind (Stream_Next p_s_L p_s_at p_n) (fun r1 =>
  some (decide (r1.1 = 0), r1.2))
def Stream_Pick (p_s_L : List Int) (p_s_at : Int) (p_l : List Int) : Option (Int × Int) :=
  Option.bind (Stream_Next p_s_L p_s_at (p_l.length : Int)) (fun r1 =>
  Chk (inB r1.1 p_l.length) (
  some ((nth p_l r1.1), r1.2)))
def Stream_RightItems_l1 (p_s_L : List Int) (j1 : (List GItem) → Int → Option ((List GItem) × Int)) : List ByteArray → Nat → (List GItem) → Int → Option ((List GItem) × Int)
  | [], i1, x1, x2 => j1 x1 x2
  | y1 :: ys1, i1, x1, x2 => Join (fun (x3 : List GItem) (x4 : Int) =>
  Stream_RightItems_l1 p_s_L j1 ys1 (i1 + 1) x3 x4) (fun j2 =>
  Option.bind (Stream_Flip p_s_L x2 6) (fun r1 =>
  Join (fun (x5 : List GItem) (x6 : Int) =>
  j2 x5 x6) (fun j3 =>
  if !r1.1 then
  Option.bind (Stream_Pick p_s_L r1.2 [1, 1, 2, 3]) (fun r2 =>
  Option.bind (Stream_Pick p_s_L r2.2 [50, 100]) (fun r3 =>
  Option.bind (Stream_Pick p_s_L r3.2 [0, 10, 60]) (fun r4 =>
  Option.bind (Stream_Pick p_s_L r4.2 [0, 20, 50, 200]) (fun r5 =>
  Chk (room x1.length) (
  j3 (x1 ++ [(GItem.mk y1 r2.1 r3.1 r4.1 r5.1)]) r5.2)))))
  else
  j3 x1 r1.2)))
def Stream_RightItems (p_s_L : List Int) (p_s_at : Int) (p_most : Int) : Option ((List GItem) × Int) :=
  Chk (cutB 0 p_most ([k_ic, k_ia, k_id, k_ib, k_ie] : List ByteArray).length) (
  Join (fun (x1 : List GItem) (x2 : Int) =>
  some (x1, x2)) (fun j1 =>
  Stream_RightItems_l1 p_s_L j1 (cut ([k_ic, k_ia, k_id, k_ib, k_ie] : List ByteArray) 0 p_most) 0 ([] : List GItem) p_s_at))
def Stream_Some (p_s_L : List Int) (p_s_at : Int) (p_l : List ByteArray) : Option (ByteArray × Int) :=
  Option.bind (Stream_Next p_s_L p_s_at (p_l.length : Int)) (fun r1 =>
  Chk (inB r1.1 p_l.length) (
  some ((nth p_l r1.1), r1.2)))
def Stream_Range (p_s_L : List Int) (p_s_at : Int) (p_low : Int) (p_high : Int) : Option (Int × Int) :=
  if decide (p_high < p_low) then
  some (p_low, p_s_at)
  else
  Option.bind (Stream_Next p_s_L p_s_at (W ((W (p_high - p_low)) + 1))) (fun r1 =>
  some (W (p_low + r1.1), r1.2))
def Stream_Odd (p_s_L : List Int) (p_s_at : Int) (p_low : Int) (p_high : Int) : Option (Int × Int) :=
  Option.bind (Stream_Flip p_s_L p_s_at 12) (fun r1 =>
  if r1.1 then
  Option.bind (Stream_Pick p_s_L r1.2 [W (p_low - 1), W (p_high + 1), p_low, p_high, (-1099511627776), 1099511627776]) (fun r2 =>
  some (r2.1, r2.2))
  else
  Option.bind (Stream_Range p_s_L r1.2 p_low p_high) (fun r3 =>
  some (r3.1, r3.2)))
def Stream_Items (p_s_L : List Int) (p_s_at : Int) (p_most : Int) : Option ((List GItem) × Int) :=
  Option.bind (Stream_RightItems p_s_L p_s_at p_most) (fun r1 =>
  Join (fun (x1 : Int) (x2 : Bool) =>
  Join (fun (x3 : List GItem) (x4 : Int) =>
  some (x3, x4)) (fun j2 =>
  if x2 then
  Option.bind (Stream_Next p_s_L x1 (r1.1.length : Int)) (fun r3 =>
  Chk (inB r3.1 r1.1.length) (
  Option.bind (Stream_Some p_s_L r3.2 [(nth r1.1 r3.1).Key, k_empty, k_ia]) (fun r4 =>
  Option.bind (Stream_Odd p_s_L r4.2 1 60) (fun r5 =>
  Option.bind (Stream_Odd p_s_L r5.2 1 100) (fun r6 =>
  Option.bind (Stream_Odd p_s_L r6.2 0 100) (fun r7 =>
  Option.bind (Stream_Odd p_s_L r7.2 0 100) (fun r8 =>
  j2 (((((r1.1.set r3.1.toNat (GItem.mk r4.1 ((nth r1.1 r3.1).Heats) ((nth r1.1 r3.1).Long) ((nth r1.1 r3.1).Gap) ((nth r1.1 r3.1).Break))).set r3.1.toNat (GItem.mk r4.1 r5.1 ((nth r1.1 r3.1).Long) ((nth r1.1 r3.1).Gap) ((nth r1.1 r3.1).Break))).set r3.1.toNat (GItem.mk r4.1 r5.1 r6.1 ((nth r1.1 r3.1).Gap) ((nth r1.1 r3.1).Break))).set r3.1.toNat (GItem.mk r4.1 r5.1 r6.1 r7.1 ((nth r1.1 r3.1).Break))).set r3.1.toNat (GItem.mk r4.1 r5.1 r6.1 r7.1 r8.1)) r8.2)))))))
  else
  j2 r1.1 x1)) (fun j1 =>
  if (decide (0 < (r1.1.length : Int))) then
  Option.bind (Stream_Flip p_s_L r1.2 15) (fun r2 =>
  j1 r2.2 r2.1)
  else
  j1 r1.2 false))
def Stream_SessionStart (p_s_L : List Int) (p_s_at : Int) : Option (Int × Int) :=
  Option.bind (Stream_Pick p_s_L p_s_at [0, 0, 30, 1000, (-1), 345686399999, 345686399700, 345686400000]) (fun r1 =>
  some (r1.1, r1.2))
def strings_Trim (s c : ByteArray) : Option ByteArray :=
  Chk (decide (s.size ≤ 9223372036854775807)) (Chk (decide (c.size < 4294967281)) (Chk (c.data.toList.all fun b => decide (b.toNat < 128)) (some ⟨(Lib.trimS s.data.toList c.data.toList).toArray⟩)))
def words_IsKey (p_s : ByteArray) : Option Bool :=
  Join (fun (c1 : Bool) =>
  Join (fun (c2 : Bool) =>
  Join (fun (c3 : Bool) =>
  some c3) (fun j3 =>
  if c2 then Option.bind (strings_Trim p_s k_abcdefghijklmnopqrstuvwx) (fun r1 =>
  j3 (c2 && (decide (r1 = k_empty)))) else j3 (c2 && true))) (fun j2 =>
  if c1 then Chk (inB 0 p_s.size) (
  j2 (c1 && (decide ((sbyte p_s 0) ≤ 122)))) else j2 (c1 && true))) (fun j1 =>
  if ((decide (1 ≤ (p_s.size : Int))) && (decide ((p_s.size : Int) ≤ 40))) then Chk (inB 0 p_s.size) (
  j1 (((decide (1 ≤ (p_s.size : Int))) && (decide ((p_s.size : Int) ≤ 40))) && (decide (97 ≤ (sbyte p_s 0))))) else j1 (((decide (1 ≤ (p_s.size : Int))) && (decide ((p_s.size : Int) ≤ 40))) && true))
def words_Within (p_n : Int) (p_low : Int) (p_high : Int) : Bool :=
  ((decide (p_low ≤ p_n)) && (decide (p_n ≤ p_high)))
def session_CheckItems_l1 (j1 : (List (ByteArray × Bool)) → Option Int) : List GItem → Nat → (List (ByteArray × Bool)) → Option Int
  | [], i1, x1 => j1 x1
  | y1 :: ys1, i1, x1 => Option.bind (words_IsKey y1.Key) (fun r1 =>
  if !r1 then
  some 5
  else
  if mgetD x1 y1.Key false then
  some 6
  else
  if ((((!(words_Within y1.Heats 1 60)) || (!(words_Within y1.Long 1 3600000))) || (!(words_Within y1.Gap 0 3600000))) || (!(words_Within y1.Break 0 3600000))) then
  some 1
  else
  session_CheckItems_l1 j1 ys1 (i1 + 1) (mput x1 y1.Key true))
def session_CheckItems (p_l : List GItem) : Option Int :=
  if decide (100 < (p_l.length : Int)) then
  some 2
  else
  Join (fun (x1 : List (ByteArray × Bool)) =>
  some 0) (fun j1 =>
  session_CheckItems_l1 j1 p_l 0 ([] : List (ByteArray × Bool)))
def words_IsMoment (p_n : Int) : Bool :=
  ((decide (0 ≤ p_n)) && (decide (p_n < 345686400000)))
def session_timetable_l2 (y1 : GItem) (j2 : (List GSlot) → Int → Option (List GSlot)) : Nat → (List GSlot) → Int → Int → Option (List GSlot)
  | 0, _, _, _ => none
  | m1 + 1, x3, x4, x5 => if decide (x5 ≤ y1.Heats) then
  Join (fun (x6 : List GSlot) (x7 : Int) =>
  session_timetable_l2 y1 j2 m1 x6 x7 (W (x5 + 1))) (fun j3 =>
  Chk (room x3.length) (
  Join (fun (x8 : Int) =>
  j3 (x3 ++ [(GSlot.mk y1.Key x5 (GWindow.mk x4 (W (x4 + y1.Long))))]) x8) (fun j4 =>
  if decide (x5 < y1.Heats) then
  j4 (W ((W (x4 + y1.Long)) + y1.Gap))
  else
  j4 (W (x4 + y1.Long)))))
  else
  j2 x3 x4
def session_timetable_l1 (j1 : (List GSlot) → Option (List GSlot)) : List GItem → Nat → (List GSlot) → Int → Option (List GSlot)
  | [], i1, x1, x2 => j1 x1
  | y1 :: ys1, i1, x1, x2 => Join (fun (x3 : List GSlot) (x4 : Int) =>
  session_timetable_l1 j1 ys1 (i1 + 1) x3 (W (x4 + y1.Break))) (fun j2 =>
  session_timetable_l2 y1 j2 ((y1.Heats - 1).toNat + 2) x1 x2 1)
def session_timetable (p_l : List GItem) (p_from : Int) : Option (List GSlot) :=
  Join (fun (x1 : List GSlot) =>
  some x1) (fun j1 =>
  session_timetable_l1 j1 p_l 0 ([] : List GSlot) p_from)
def session_end (p_l : List GSlot) (p_from : Int) : Option Int :=
  if decide ((p_l.length : Int) = 0) then
  some p_from
  else
  Chk (inB (W ((p_l.length : Int) - 1)) p_l.length) (
  some (((nth p_l (W ((p_l.length : Int) - 1))).Time).To))
def session_begin (p_l : List GItem) (p_from : Int) : Option ((List GSlot) × Int) :=
  if !(words_IsMoment p_from) then
  some (([] : List GSlot), 1)
  else
  Option.bind (session_timetable p_l p_from) (fun r1 =>
  Option.bind (session_end r1 p_from) (fun r2 =>
  if decide (345686400000 < r2) then
  some (([] : List GSlot), 1)
  else
  some (r1, 0)))
def session_Timetable (p_l : List GItem) (p_from : Int) : Option ((List GSlot) × Int) :=
  Option.bind (session_CheckItems p_l) (fun r1 =>
  if !decide (r1 = 0) then
  some (([] : List GSlot), r1)
  else
  Option.bind (session_begin p_l p_from) (fun r2 =>
  some (r2.1, r2.2)))
def session_Ends (p_l : List GItem) (p_from : Int) : Option (Int × Int) :=
  Option.bind (session_Timetable p_l p_from) (fun r1 =>
  if !decide (r1.2 = 0) then
  some (0, r1.2)
  else
  Option.bind (session_end r1.1 p_from) (fun r2 =>
  some (r2, 0)))
def session_Fits_l1 (p_items : List GItem) (p_w : GWindow) (j1 : Int → Option (Int × Int)) : Nat → Int → Option (Int × Int)
  | 0, _ => none
  | m1 + 1, x1 => Join (fun (x2 : Bool) =>
  if x2 then
  session_Fits_l1 p_items p_w j1 m1 (W (x1 + 1))
  else
  j1 x1) (fun j2 =>
  if decide (x1 < (p_items.length : Int)) then
  Chk (cutB 0 (W (x1 + 1)) p_items.length) (
  Option.bind (session_timetable (cut p_items 0 (W (x1 + 1))) p_w.From) (fun r2 =>
  Option.bind (session_end r2 p_w.From) (fun r3 =>
  j2 (decide (r3 ≤ p_w.To)))))
  else
  j2 false)
def session_Fits (p_items : List GItem) (p_w : GWindow) : Option (Int × Int) :=
  Option.bind (session_CheckItems p_items) (fun r1 =>
  if !decide (r1 = 0) then
  some (0, r1)
  else
  if (((decide (p_w.From < 0)) || (decide (p_w.To < p_w.From))) || (decide (345686400000 < p_w.To))) then
  some (0, 1)
  else
  Join (fun (x1 : Int) =>
  some (x1, 0)) (fun j1 =>
  session_Fits_l1 p_items p_w j1 (((p_items.length : Int) - 0).toNat + 2) 0))
def session_Pauses_l1 (r1 : (List GSlot) × Int) (p_least : Int) (j1 : (List GWindow) → Option ((List GWindow) × Int)) : Nat → (List GWindow) → Int → Option ((List GWindow) × Int)
  | 0, _, _ => none
  | m1 + 1, x1, x2 => if decide (x2 < (r1.1.length : Int)) then
  Join (fun (x3 : List GWindow) =>
  session_Pauses_l1 r1 p_least j1 m1 x3 (W (x2 + 1))) (fun j2 =>
  Chk (inB (W (x2 - 1)) r1.1.length) (
  Chk (inB x2 r1.1.length) (
  Join (fun (x4 : List GWindow) =>
  j2 x4) (fun j3 =>
  if decide (p_least ≤ (W ((((nth r1.1 x2).Time).From) - (((nth r1.1 (W (x2 - 1))).Time).To)))) then
  Chk (room x1.length) (
  j3 (x1 ++ [(GWindow.mk (((nth r1.1 (W (x2 - 1))).Time).To) (((nth r1.1 x2).Time).From))]))
  else
  j3 x1))))
  else
  j1 x1
def session_Pauses (p_items : List GItem) (p_from : Int) (p_least : Int) : Option ((List GWindow) × Int) :=
  Option.bind (session_Timetable p_items p_from) (fun r1 =>
  if !decide (r1.2 = 0) then
  some (([] : List GWindow), r1.2)
  else
  if !(words_Within p_least 1 3600000) then
  some (([] : List GWindow), 1)
  else
  Join (fun (x1 : List GWindow) =>
  some (x1, 0)) (fun j1 =>
  session_Pauses_l1 r1 p_least j1 (((r1.1.length : Int) - 1).toNat + 2) ([] : List GWindow) 1))
def tumbref2_in (p_n : Int) (p_low : Int) (p_high : Int) : Bool :=
  ((decide (p_low ≤ p_n)) && (decide (p_n ≤ p_high)))
def strings_IndexByte (s : ByteArray) (c : Int) : Int := Lib.indexByte s.data.toList c.toNat.toUInt8
def tumbref2_only_l1 (p_s : ByteArray) (p_some : ByteArray) (j1 : Option Bool) : Nat → Int → Option Bool
  | 0, _ => none
  | m1 + 1, x1 => if decide (x1 < (p_s.size : Int)) then
  Chk (inB x1 p_s.size) (
  if decide ((strings_IndexByte p_some (sbyte p_s x1)) < 0) then
  some false
  else
  tumbref2_only_l1 p_s p_some j1 m1 (W (x1 + 1)))
  else
  j1
def tumbref2_only (p_s : ByteArray) (p_some : ByteArray) : Option Bool :=
  Join (some true) (fun j1 =>
  tumbref2_only_l1 p_s p_some j1 (((p_s.size : Int) - 0).toNat + 2) 0)
def tumbref2_Key (p_s : ByteArray) : Option Bool :=
  Join (fun (c1 : Bool) =>
  Join (fun (c2 : Bool) =>
  some c2) (fun j2 =>
  if c1 then Option.bind (tumbref2_only p_s k_abcdefghijklmnopqrstuvwx) (fun r2 =>
  j2 (c1 && r2)) else j2 (c1 && true))) (fun j1 =>
  if (tumbref2_in (p_s.size : Int) 1 40) then Chk (cutB 0 1 p_s.size) (
  Option.bind (tumbref2_only (scut p_s 0 1) k_abcdefghijklmnopqrstuvwx_2) (fun r1 =>
  j1 ((tumbref2_in (p_s.size : Int) 1 40) && r1))) else j1 ((tumbref2_in (p_s.size : Int) 1 40) && true))
def tumbref2_ItemAt_c1 (p_x : GItem) (p_a1 : ByteArray) : Bool :=
  decide (p_x.Key = p_a1)
def slices_IndexFunc_Item_tumbref2_ItemAt_c1_l1 (p_f_0 : ByteArray) (j1 : Int) : List GItem → Nat → Int
  | [], i1 => j1
  | y1 :: ys1, i1 => if (tumbref2_ItemAt_c1 y1 p_f_0) then
  (i1 : Int)
  else
  slices_IndexFunc_Item_tumbref2_ItemAt_c1_l1 p_f_0 j1 ys1 (i1 + 1)
def slices_IndexFunc_Item_tumbref2_ItemAt_c1 (p_s : List GItem) (p_f_0 : ByteArray) : Int :=
  Join ((-1)) (fun j1 =>
  slices_IndexFunc_Item_tumbref2_ItemAt_c1_l1 p_f_0 j1 p_s 0)
def tumbref2_ItemAt (p_l : List GItem) (p_key : ByteArray) : Int :=
  (slices_IndexFunc_Item_tumbref2_ItemAt_c1 p_l p_key)
def tumbref2_ItemsFault_l1 (p_l : List GItem) (j1 : Option Int) : List GItem → Nat → Option Int
  | [], i1 => j1
  | y1 :: ys1, i1 => Option.bind (tumbref2_Key y1.Key) (fun r1 =>
  if !r1 then
  some 5
  else
  Chk (cutB 0 (i1 : Int) p_l.length) (
  if decide (0 ≤ (tumbref2_ItemAt (cut p_l 0 (i1 : Int)) y1.Key)) then
  some 6
  else
  if ((((!(tumbref2_in y1.Heats 1 60)) || (!(tumbref2_in y1.Long 1 3600000))) || (!(tumbref2_in y1.Gap 0 3600000))) || (!(tumbref2_in y1.Break 0 3600000))) then
  some 1
  else
  tumbref2_ItemsFault_l1 p_l j1 ys1 (i1 + 1)))
def tumbref2_ItemsFault (p_l : List GItem) : Option Int :=
  if decide (100 < (p_l.length : Int)) then
  some 2
  else
  Join (some 0) (fun j1 =>
  tumbref2_ItemsFault_l1 p_l j1 p_l 0)
def tumbref2_Moment (p_at : Int) : Bool :=
  (tumbref2_in p_at 0 345686399999)
def tumbref2_SlotsOf_l2 (y1 : GItem) (i1 : Nat) (p_l : List GItem) (p_from : Int) (j2 : (List GSlot) → Option (List GSlot)) : Nat → (List GSlot) → Int → Option (List GSlot)
  | 0, _, _ => none
  | m1 + 1, x2, x3 => if decide (x3 ≤ y1.Heats) then
  Join (fun (x4 : Int) =>
  Chk (room x2.length) (
  tumbref2_SlotsOf_l2 y1 i1 p_l p_from j2 m1 (x2 ++ [(GSlot.mk y1.Key x3 (GWindow.mk x4 (W (x4 + y1.Long))))]) (W (x3 + 1)))) (fun j3 =>
  if decide (0 < (x2.length : Int)) then
  Chk (inB (W ((x2.length : Int) - 1)) x2.length) (
  Join (fun (x5 : Int) =>
  j3 x5) (fun j4 =>
  if decide (x3 = 1) then
  Chk (inB (W ((x2.length : Int) - 1)) x2.length) (
  Chk (inB (W ((i1 : Int) - 1)) p_l.length) (
  j4 (W ((((nth x2 (W ((x2.length : Int) - 1))).Time).To) + ((nth p_l (W ((i1 : Int) - 1))).Break)))))
  else
  j4 (W ((((nth x2 (W ((x2.length : Int) - 1))).Time).To) + y1.Gap))))
  else
  j3 p_from)
  else
  j2 x2
def tumbref2_SlotsOf_l1 (p_l : List GItem) (p_from : Int) (j1 : (List GSlot) → Option (List GSlot)) : List GItem → Nat → (List GSlot) → Option (List GSlot)
  | [], i1, x1 => j1 x1
  | y1 :: ys1, i1, x1 => Join (fun (x2 : List GSlot) =>
  tumbref2_SlotsOf_l1 p_l p_from j1 ys1 (i1 + 1) x2) (fun j2 =>
  tumbref2_SlotsOf_l2 y1 i1 p_l p_from j2 ((y1.Heats - 1).toNat + 2) x1 1)
def tumbref2_SlotsOf (p_l : List GItem) (p_from : Int) : Option (List GSlot) :=
  Join (fun (x1 : List GSlot) =>
  some x1) (fun j1 =>
  tumbref2_SlotsOf_l1 p_l p_from j1 p_l 0 ([] : List GSlot))
def tumbref2_EndOf_l1 (j1 : Int → Option Int) : List GSlot → Nat → Int → Option Int
  | [], i1, x1 => j1 x1
  | y1 :: ys1, i1, x1 => tumbref2_EndOf_l1 j1 ys1 (i1 + 1) y1.Time.To
def tumbref2_EndOf (p_l : List GItem) (p_from : Int) : Option Int :=
  Option.bind (tumbref2_SlotsOf p_l p_from) (fun r1 =>
  Join (fun (x1 : Int) =>
  some x1) (fun j1 =>
  tumbref2_EndOf_l1 j1 r1 0 p_from))
def tumbref2_FromFault (p_l : List GItem) (p_from : Int) : Option Int :=
  Join (fun (c1 : Bool) =>
  if c1 then
  some 1
  else
  some 0) (fun j1 =>
  if (!(tumbref2_Moment p_from)) then j1 ((!(tumbref2_Moment p_from)) || true) else Option.bind (tumbref2_EndOf p_l p_from) (fun r1 =>
  j1 ((!(tumbref2_Moment p_from)) || (decide (345686400000 < r1)))))
def tumbref2_WindowFault (p_w : GWindow) : Int :=
  if ((!(tumbref2_in p_w.From 0 p_w.To)) || (decide (345686400000 < p_w.To))) then
  1
  else
  0
def tumblaw2_errs_l1 (j1 : Int) : List Int → Nat → Int
  | [], i1 => j1
  | y1 :: ys1, i1 => if !decide (y1 = 0) then
  y1
  else
  tumblaw2_errs_l1 j1 ys1 (i1 + 1)
def tumblaw2_errs (p_l : List Int) : Int :=
  Join (0) (fun j1 =>
  tumblaw2_errs_l1 j1 p_l 0)
def tumblaw2_when (p_is : Bool) (p_e : Int) : Int :=
  if p_is then
  p_e
  else
  0
def tumbref2_FitsOf_l1 (p_l : List GItem) (p_w : GWindow) (j1 : Int → Option Int) : List GItem → Nat → Int → Option Int
  | [], i1, x1 => j1 x1
  | y1 :: ys1, i1, x1 => Join (fun (x2 : Int) =>
  tumbref2_FitsOf_l1 p_l p_w j1 ys1 (i1 + 1) x2) (fun j2 =>
  Chk (cutB 0 (W ((i1 : Int) + 1)) p_l.length) (
  Option.bind (tumbref2_EndOf (cut p_l 0 (W ((i1 : Int) + 1))) p_w.From) (fun r1 =>
  Join (fun (x3 : Int) =>
  j2 x3) (fun j3 =>
  if decide (r1 ≤ p_w.To) then
  j3 (W ((i1 : Int) + 1))
  else
  j3 x1))))
def tumbref2_FitsOf (p_l : List GItem) (p_w : GWindow) : Option Int :=
  Join (fun (x1 : Int) =>
  some x1) (fun j1 =>
  tumbref2_FitsOf_l1 p_l p_w j1 p_l 0 0)
def tumbref2_PausesOf_l1 (r1 : (List GSlot)) (p_least : Int) (j1 : (List GWindow) → Option (List GWindow)) : List GSlot → Nat → (List GWindow) → Option (List GWindow)
  | [], i1, x1 => j1 x1
  | y1 :: ys1, i1, x1 => Join (fun (x2 : List GWindow) =>
  tumbref2_PausesOf_l1 r1 p_least j1 ys1 (i1 + 1) x2) (fun j2 =>
  Join (fun (x3 : Bool) =>
  Join (fun (x4 : List GWindow) =>
  j2 x4) (fun j4 =>
  if x3 then
  Chk (inB (W ((i1 : Int) - 1)) r1.length) (
  Chk (room x1.length) (
  j4 (x1 ++ [(GWindow.mk (((nth r1 (W ((i1 : Int) - 1))).Time).To) y1.Time.From)])))
  else
  j4 x1)) (fun j3 =>
  if decide (0 < (i1 : Int)) then
  Chk (inB (W ((i1 : Int) - 1)) r1.length) (
  j3 (decide (p_least ≤ (W (y1.Time.From - (((nth r1 (W ((i1 : Int) - 1))).Time).To))))))
  else
  j3 false))
def tumbref2_PausesOf (p_l : List GItem) (p_from : Int) (p_least : Int) : Option (List GWindow) :=
  Option.bind (tumbref2_SlotsOf p_l p_from) (fun r1 =>
  Join (fun (x1 : List GWindow) =>
  some x1) (fun j1 =>
  tumbref2_PausesOf_l1 r1 p_least j1 r1 0 ([] : List GWindow)))
def slices_Equal_Slot_l1 (p_s2 : List GSlot) (j1 : Option Bool) : List GSlot → Nat → Option Bool
  | [], i1 => j1
  | y1 :: ys1, i1 => Chk (inB (i1 : Int) p_s2.length) (
  if !decide (y1 = (GSlot.mk ((nth p_s2 (i1 : Int)).Item) ((nth p_s2 (i1 : Int)).Heat) ((nth p_s2 (i1 : Int)).Time))) then
  some false
  else
  slices_Equal_Slot_l1 p_s2 j1 ys1 (i1 + 1))
def slices_Equal_Slot (p_s1 : List GSlot) (p_s2 : List GSlot) : Option Bool :=
  if !decide ((p_s1.length : Int) = (p_s2.length : Int)) then
  some false
  else
  Join (some true) (fun j1 =>
  slices_Equal_Slot_l1 p_s2 j1 p_s1 0)
def slices_Equal_Window_l1 (p_s2 : List GWindow) (j1 : Option Bool) : List GWindow → Nat → Option Bool
  | [], i1 => j1
  | y1 :: ys1, i1 => Chk (inB (i1 : Int) p_s2.length) (
  if !decide (y1 = (nth p_s2 (i1 : Int))) then
  some false
  else
  slices_Equal_Window_l1 p_s2 j1 ys1 (i1 + 1))
def slices_Equal_Window (p_s1 : List GWindow) (p_s2 : List GWindow) : Option Bool :=
  if !decide ((p_s1.length : Int) = (p_s2.length : Int)) then
  some false
  else
  Join (some true) (fun j1 =>
  slices_Equal_Window_l1 p_s2 j1 p_s1 0)
def tumblaw2_timed : Option Bool :=
  Option.bind (session_Ends [(GItem.mk k_a 2 10 5 0)] 0) (fun r1 =>
  some ((decide (r1.2 = 0)) && (decide (r1.1 = 25))))
def tumblaw2_SessionsTimed (p_l : List Int) : Option Bool :=
  Option.bind (Stream_Items p_l 0 5) (fun r1 =>
  Option.bind (Stream_SessionStart p_l r1.2) (fun r2 =>
  Option.bind (Stream_Pick p_l r2.2 [1, 10, 50, 100, 0, 3600001]) (fun r3 =>
  Option.bind (Stream_Pick p_l r3.2 [0, 100, 500, (-1)]) (fun r4 =>
  Option.bind (Stream_Pick p_l r4.2 [0, 300, 700, 2000, 345686400000, 345686400001]) (fun r5 =>
  Option.bind (session_Timetable r1.1 r2.1) (fun r6 =>
  Option.bind (session_Ends r1.1 r2.1) (fun r7 =>
  Option.bind (session_Fits r1.1 (GWindow.mk r4.1 r5.1)) (fun r8 =>
  Option.bind (session_Pauses r1.1 r2.1 r3.1) (fun r9 =>
  Option.bind (tumbref2_ItemsFault r1.1) (fun r10 =>
  Join (fun (x1 : Int) =>
  Join (fun (x2 : Int) (x3 : List GSlot) =>
  Join (fun (x4 : Int) =>
  Join (fun (x5 : List GWindow) =>
  Option.bind (session_CheckItems r1.1) (fun r16 =>
  Join (fun (c1 : Bool) =>
  Join (fun (c2 : Bool) =>
  Join (fun (c3 : Bool) =>
  some c3) (fun j7 =>
  if c2 then Option.bind (tumblaw2_timed) (fun r19 =>
  j7 (c2 && r19)) else j7 (c2 && true))) (fun j6 =>
  if (((((c1 && (decide (r7.2 = x1))) && (decide (r7.1 = x2))) && (decide (r8.2 = (tumblaw2_errs [r10, (tumbref2_WindowFault (GWindow.mk r4.1 r5.1))])))) && (decide (r8.1 = x4))) && (decide (r9.2 = (tumblaw2_errs [x1, (tumblaw2_when ((decide (r3.1 < 1)) || (decide (3600000 < r3.1))) 1)])))) then Option.bind (slices_Equal_Window r9.1 x5) (fun r18 =>
  j6 ((((((c1 && (decide (r7.2 = x1))) && (decide (r7.1 = x2))) && (decide (r8.2 = (tumblaw2_errs [r10, (tumbref2_WindowFault (GWindow.mk r4.1 r5.1))])))) && (decide (r8.1 = x4))) && (decide (r9.2 = (tumblaw2_errs [x1, (tumblaw2_when ((decide (r3.1 < 1)) || (decide (3600000 < r3.1))) 1)])))) && r18)) else j6 ((((((c1 && (decide (r7.2 = x1))) && (decide (r7.1 = x2))) && (decide (r8.2 = (tumblaw2_errs [r10, (tumbref2_WindowFault (GWindow.mk r4.1 r5.1))])))) && (decide (r8.1 = x4))) && (decide (r9.2 = (tumblaw2_errs [x1, (tumblaw2_when ((decide (r3.1 < 1)) || (decide (3600000 < r3.1))) 1)])))) && true))) (fun j5 =>
  if ((decide (r16 = r10)) && (decide (r6.2 = x1))) then Option.bind (slices_Equal_Slot r6.1 x3) (fun r17 =>
  j5 (((decide (r16 = r10)) && (decide (r6.2 = x1))) && r17)) else j5 (((decide (r16 = r10)) && (decide (r6.2 = x1))) && true)))) (fun j4 =>
  if decide ((tumblaw2_errs [x1, (tumblaw2_when ((decide (r3.1 < 1)) || (decide (3600000 < r3.1))) 1)]) = 0) then
  Option.bind (tumbref2_PausesOf r1.1 r2.1 r3.1) (fun r15 =>
  j4 r15)
  else
  j4 ([] : List GWindow))) (fun j3 =>
  if decide ((tumblaw2_errs [r10, (tumbref2_WindowFault (GWindow.mk r4.1 r5.1))]) = 0) then
  Option.bind (tumbref2_FitsOf r1.1 (GWindow.mk r4.1 r5.1)) (fun r14 =>
  j3 r14)
  else
  j3 0)) (fun j2 =>
  if decide (x1 = 0) then
  Option.bind (tumbref2_SlotsOf r1.1 r2.1) (fun r12 =>
  Option.bind (tumbref2_EndOf r1.1 r2.1) (fun r13 =>
  j2 r13 r12))
  else
  j2 0 ([] : List GSlot))) (fun j1 =>
  if decide (r10 = 0) then
  Option.bind (tumbref2_FromFault r1.1 r2.1) (fun r11 =>
  j1 r11)
  else
  j1 r10)))))))))))
end Go.Proofs.YtfejddpblajggaaDoor
