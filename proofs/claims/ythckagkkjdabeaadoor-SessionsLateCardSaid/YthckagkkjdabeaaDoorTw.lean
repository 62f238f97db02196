/- The Go functions as plain Lean functions, by program. -/
import Derived.Test.YthckagkkjdabeaaDoorBase
namespace Go.Proofs.YthckagkkjdabeaaDoor
open Go
structure GItem where
  Key : ByteArray
  Heats : Int
  Long : Int
  Gap : Int
  Break : Int
  deriving DecidableEq, Inhabited
structure GHeld where
  Item : ByteArray
  Heat : Int
  At : Int
  deriving DecidableEq, Inhabited
structure GWindow where
  From : Int
  To : Int
  deriving DecidableEq, Inhabited
structure GSlot where
  Item : ByteArray
  Heat : Int
  Time : GWindow
  deriving DecidableEq, Inhabited
structure Gsession_heat where
  item_ : ByteArray
  heat_ : Int
  deriving DecidableEq, Inhabited
def k_empty : ByteArray := ⟨#[]⟩
def k_ic : ByteArray := ⟨#[105, 99]⟩
def k_ia : ByteArray := ⟨#[105, 97]⟩
def k_id : ByteArray := ⟨#[105, 100]⟩
def k_ib : ByteArray := ⟨#[105, 98]⟩
def k_ie : ByteArray := ⟨#[105, 101]⟩
def k_zz : ByteArray := ⟨#[122, 122]⟩
def k_abcdefghijkl_h0e2e2c : ByteArray := ⟨#[97, 98, 99, 100, 101, 102, 103, 104, 105, 106, 107, 108, 109, 110, 111, 112, 113, 114, 115, 116, 117, 118, 119, 120, 121, 122, 48, 49, 50, 51, 52, 53, 54, 55, 56, 57, 45, 95]⟩
def k_abcdefghijklmnopqrstuvwxyz : ByteArray := ⟨#[97, 98, 99, 100, 101, 102, 103, 104, 105, 106, 107, 108, 109, 110, 111, 112, 113, 114, 115, 116, 117, 118, 119, 120, 121, 122]⟩
def k_a : ByteArray := ⟨#[97]⟩
def tumbmake_Below (p_x : Int) (p_n : Int) : Option Int :=
  if decide (p_n < 1) then
  some 0
  else
  Chk (!decide (p_n = 0)) (
  Join (fun (x1 : Int) =>
  some x1) (fun j1 =>
  if decide ((Int.tmod p_x p_n) < 0) then
  j1 (W ((Int.tmod p_x p_n) + p_n))
  else
  j1 (Int.tmod p_x p_n)))
def Stream_Next (p_s_L : List Int) (p_s_at : Int) (p_n : Int) : Option (Int × Int) :=
  if decide ((p_s_L.length : Int) = 0) then
  Option.bind (tumbmake_Below (W ((W (p_s_at + 1)) * 7919)) p_n) (fun r1 =>
  some (r1, W (p_s_at + 1)))
  else
  Chk (!decide ((p_s_L.length : Int) = 0)) (
  Chk (!decide ((p_s_L.length : Int) = 0)) (
  Chk (inB (Int.tmod (W ((W (p_s_at + 1)) - 1)) (p_s_L.length : Int)) p_s_L.length) (
  Option.bind (tumbmake_Below (nth p_s_L (Int.tmod (W ((W (p_s_at + 1)) - 1)) (p_s_L.length : Int))) 1073741824) (fun r2 =>
  Option.bind (tumbmake_Below (W (r2 + (W ((W (Int.tdiv (W ((W (p_s_at + 1)) - 1)) (p_s_L.length : Int))) * (W (7919 + (Int.tmod (W ((W (p_s_at + 1)) - 1)) (p_s_L.length : Int)))))))) p_n) (fun r3 =>
  some (r3, W (p_s_at + 1)))))))
def Stream_Flip (p_s_L : List Int) (p_s_at : Int) (p_n : Int) : Option (Bool × Int) :=
  Option.bind (Stream_Next p_s_L p_s_at p_n) (fun r1 =>
  some (decide (r1.1 = 0), r1.2))
def Stream_Pick (p_s_L : List Int) (p_s_at : Int) (p_l : List Int) : Option (Int × Int) :=
  Option.bind (Stream_Next p_s_L p_s_at (p_l.length : Int)) (fun r1 =>
  Chk (inB r1.1 p_l.length) (
  some ((nth p_l r1.1), r1.2)))
def Stream_RightItems_l1 (p_s_L : List Int) (j1 : (List GItem) → Int → Option ((List GItem) × Int)) : List ByteArray → Nat → (List GItem) → Int → Option ((List GItem) × Int)
  | [], i1, x1, x2 => j1 x1 x2
  | y1 :: ys1, i1, x1, x2 => Join (fun (x3 : List GItem) (x4 : Int) =>
  Stream_RightItems_l1 p_s_L j1 ys1 (i1 + 1) x3 x4) (fun j2 =>
  Option.bind (Stream_Flip p_s_L x2 6) (fun r1 =>
  Join (fun (x5 : List GItem) (x6 : Int) =>
  j2 x5 x6) (fun j3 =>
  if !r1.1 then
  Option.bind (Stream_Pick p_s_L r1.2 [1, 1, 2, 3]) (fun r2 =>
  Option.bind (Stream_Pick p_s_L r2.2 [50, 100]) (fun r3 =>
  Option.bind (Stream_Pick p_s_L r3.2 [0, 10, 60]) (fun r4 =>
  Option.bind (Stream_Pick p_s_L r4.2 [0, 20, 50, 200]) (fun r5 =>
  Chk (room x1.length) (
  j3 (x1 ++ [(GItem.mk y1 r2.1 r3.1 r4.1 r5.1)]) r5.2)))))
  else
  j3 x1 r1.2)))
def Stream_RightItems (p_s_L : List Int) (p_s_at : Int) (p_most : Int) : Option ((List GItem) × Int) :=
  Chk (cutB 0 p_most ([k_ic, k_ia, k_id, k_ib, k_ie] : List ByteArray).length) (
  Join (fun (x1 : List GItem) (x2 : Int) =>
  some (x1, x2)) (fun j1 =>
  Stream_RightItems_l1 p_s_L j1 (cut ([k_ic, k_ia, k_id, k_ib, k_ie] : List ByteArray) 0 p_most) 0 ([] : List GItem) p_s_at))
def Stream_Some (p_s_L : List Int) (p_s_at : Int) (p_l : List ByteArray) : Option (ByteArray × Int) :=
  Option.bind (Stream_Next p_s_L p_s_at (p_l.length : Int)) (fun r1 =>
  Chk (inB r1.1 p_l.length) (
  some ((nth p_l r1.1), r1.2)))
def Stream_Range (p_s_L : List Int) (p_s_at : Int) (p_low : Int) (p_high : Int) : Option (Int × Int) :=
  if decide (p_high < p_low) then
  some (p_low, p_s_at)
  else
  Option.bind (Stream_Next p_s_L p_s_at (W ((W (p_high - p_low)) + 1))) (fun r1 =>
  some (W (p_low + r1.1), r1.2))
def Stream_Odd (p_s_L : List Int) (p_s_at : Int) (p_low : Int) (p_high : Int) : Option (Int × Int) :=
  Option.bind (Stream_Flip p_s_L p_s_at 12) (fun r1 =>
  if r1.1 then
  Option.bind (Stream_Pick p_s_L r1.2 [W (p_low - 1), W (p_high + 1), p_low, p_high, (-1099511627776), 1099511627776]) (fun r2 =>
  some (r2.1, r2.2))
  else
  Option.bind (Stream_Range p_s_L r1.2 p_low p_high) (fun r3 =>
  some (r3.1, r3.2)))
def Stream_Items (p_s_L : List Int) (p_s_at : Int) (p_most : Int) : Option ((List GItem) × Int) :=
  Option.bind (Stream_RightItems p_s_L p_s_at p_most) (fun r1 =>
  Join (fun (x1 : Int) (x2 : Bool) =>
  Join (fun (x3 : List GItem) (x4 : Int) =>
  some (x3, x4)) (fun j2 =>
  if x2 then
  Option.bind (Stream_Next p_s_L x1 (r1.1.length : Int)) (fun r3 =>
  Chk (inB r3.1 r1.1.length) (
  Option.bind (Stream_Some p_s_L r3.2 [(nth r1.1 r3.1).Key, k_empty, k_ia]) (fun r4 =>
  Option.bind (Stream_Odd p_s_L r4.2 1 60) (fun r5 =>
  Option.bind (Stream_Odd p_s_L r5.2 1 100) (fun r6 =>
  Option.bind (Stream_Odd p_s_L r6.2 0 100) (fun r7 =>
  Option.bind (Stream_Odd p_s_L r7.2 0 100) (fun r8 =>
  j2 (((((r1.1.set r3.1.toNat (GItem.mk r4.1 ((nth r1.1 r3.1).Heats) ((nth r1.1 r3.1).Long) ((nth r1.1 r3.1).Gap) ((nth r1.1 r3.1).Break))).set r3.1.toNat (GItem.mk r4.1 r5.1 ((nth r1.1 r3.1).Long) ((nth r1.1 r3.1).Gap) ((nth r1.1 r3.1).Break))).set r3.1.toNat (GItem.mk r4.1 r5.1 r6.1 ((nth r1.1 r3.1).Gap) ((nth r1.1 r3.1).Break))).set r3.1.toNat (GItem.mk r4.1 r5.1 r6.1 r7.1 ((nth r1.1 r3.1).Break))).set r3.1.toNat (GItem.mk r4.1 r5.1 r6.1 r7.1 r8.1)) r8.2)))))))
  else
  j2 r1.1 x1)) (fun j1 =>
  if (decide (0 < (r1.1.length : Int))) then
  Option.bind (Stream_Flip p_s_L r1.2 15) (fun r2 =>
  j1 r2.2 r2.1)
  else
  j1 r1.2 false))
def Stream_SessionStart (p_s_L : List Int) (p_s_at : Int) : Option (Int × Int) :=
  Option.bind (Stream_Pick p_s_L p_s_at [0, 0, 30, 1000, (-1), 345686399999, 345686399700, 345686400000]) (fun r1 =>
  some (r1.1, r1.2))
def Stream_Helds_l2 (y1 : GItem) (p_s_L : List Int) (j2 : (List GHeld) → Int → Int → Option ((List GHeld) × Int)) : Nat → (List GHeld) → Int → Int → Int → Option ((List GHeld) × Int)
  | 0, _, _, _, _ => none
  | m1 + 1, x4, x5, x6, x7 => if decide (x7 ≤ (imin y1.Heats 3)) then
  Join (fun (x8 : List GHeld) (x9 : Int) (x10 : Int) =>
  Stream_Helds_l2 y1 p_s_L j2 m1 x8 x9 x10 (W (x7 + 1))) (fun j3 =>
  Option.bind (Stream_Pick p_s_L x5 [0, 50, 100, 200]) (fun r1 =>
  Option.bind (Stream_Flip p_s_L r1.2 3) (fun r2 =>
  Join (fun (x11 : List GHeld) =>
  j3 x11 r2.2 (W (x6 + r1.1))) (fun j4 =>
  if r2.1 then
  Chk (room x4.length) (
  j4 (x4 ++ [(GHeld.mk y1.Key x7 (W (x6 + r1.1)))]))
  else
  j4 x4))))
  else
  j2 x4 x5 x6
def Stream_Helds_l1 (p_s_L : List Int) (j1 : (List GHeld) → Int → Option ((List GHeld) × Int)) : List GItem → Nat → (List GHeld) → Int → Int → Option ((List GHeld) × Int)
  | [], i1, x1, x2, x3 => j1 x1 x2
  | y1 :: ys1, i1, x1, x2, x3 => Join (fun (x4 : List GHeld) (x5 : Int) (x6 : Int) =>
  Stream_Helds_l1 p_s_L j1 ys1 (i1 + 1) x4 x5 x6) (fun j2 =>
  Stream_Helds_l2 y1 p_s_L j2 (((imin y1.Heats 3) - 1).toNat + 2) x1 x2 x3 1)
def Stream_Helds (p_s_L : List Int) (p_s_at : Int) (p_items : List GItem) : Option ((List GHeld) × Int) :=
  Join (fun (x1 : List GHeld) (x2 : Int) =>
  Join (fun (x12 : Int) (x13 : Bool) =>
  Join (fun (x14 : List GHeld) (x15 : Int) =>
  some (x14, x15)) (fun j6 =>
  if x13 then
  Option.bind (Stream_Next p_s_L x12 (x1.length : Int)) (fun r4 =>
  Chk (inB r4.1 x1.length) (
  Option.bind (Stream_Some p_s_L r4.2 [(nth x1 r4.1).Item, k_zz]) (fun r5 =>
  Option.bind (Stream_Odd p_s_L r5.2 1 3) (fun r6 =>
  Option.bind (Stream_Odd p_s_L r6.2 0 500) (fun r7 =>
  j6 (((x1.set r4.1.toNat (GHeld.mk r5.1 ((nth x1 r4.1).Heat) ((nth x1 r4.1).At))).set r4.1.toNat (GHeld.mk r5.1 r6.1 ((nth x1 r4.1).At))).set r4.1.toNat (GHeld.mk r5.1 r6.1 r7.1)) r7.2)))))
  else
  j6 x1 x12)) (fun j5 =>
  if (decide (0 < (x1.length : Int))) then
  Option.bind (Stream_Flip p_s_L x2 12) (fun r3 =>
  j5 r3.2 r3.1)
  else
  j5 x2 false)) (fun j1 =>
  Stream_Helds_l1 p_s_L j1 p_items 0 ([] : List GHeld) p_s_at 0)
def strings_Trim (s c : ByteArray) : Option ByteArray :=
  Chk (decide (s.size ≤ 9223372036854775807)) (Chk (decide (c.size < 4294967281)) (Chk (c.data.toList.all fun b => decide (b.toNat < 128)) (some ⟨(Lib.trimS s.data.toList c.data.toList).toArray⟩)))
def words_IsKey (p_s : ByteArray) : Option Bool :=
  Join (fun (c1 : Bool) =>
  Join (fun (c2 : Bool) =>
  Join (fun (c3 : Bool) =>
  some c3) (fun j3 =>
  if c2 then Option.bind (strings_Trim p_s k_abcdefghijkl_h0e2e2c) (fun r1 =>
  j3 (c2 && (decide (r1 = k_empty)))) else j3 (c2 && true))) (fun j2 =>
  if c1 then Chk (inB 0 p_s.size) (
  j2 (c1 && (decide ((sbyte p_s 0) ≤ 122)))) else j2 (c1 && true))) (fun j1 =>
  if ((decide (1 ≤ (p_s.size : Int))) && (decide ((p_s.size : Int) ≤ 40))) then Chk (inB 0 p_s.size) (
  j1 (((decide (1 ≤ (p_s.size : Int))) && (decide ((p_s.size : Int) ≤ 40))) && (decide (97 ≤ (sbyte p_s 0))))) else j1 (((decide (1 ≤ (p_s.size : Int))) && (decide ((p_s.size : Int) ≤ 40))) && true))
def words_Within (p_n : Int) (p_low : Int) (p_high : Int) : Bool :=
  ((decide (p_low ≤ p_n)) && (decide (p_n ≤ p_high)))
def session_CheckItems_l1 (j1 : (List (ByteArray × Bool)) → Option Int) : List GItem → Nat → (List (ByteArray × Bool)) → Option Int
  | [], i1, x1 => j1 x1
  | y1 :: ys1, i1, x1 => Option.bind (words_IsKey y1.Key) (fun r1 =>
  if !r1 then
  some 5
  else
  if mgetD x1 y1.Key false then
  some 6
  else
  if ((((!(words_Within y1.Heats 1 60)) || (!(words_Within y1.Long 1 3600000))) || (!(words_Within y1.Gap 0 3600000))) || (!(words_Within y1.Break 0 3600000))) then
  some 1
  else
  session_CheckItems_l1 j1 ys1 (i1 + 1) (mput x1 y1.Key true))
def session_CheckItems (p_l : List GItem) : Option Int :=
  if decide (100 < (p_l.length : Int)) then
  some 2
  else
  Join (fun (x1 : List (ByteArray × Bool)) =>
  some 0) (fun j1 =>
  session_CheckItems_l1 j1 p_l 0 ([] : List (ByteArray × Bool)))
def session_itemAt_c1 (p_x : GItem) (p_a1 : ByteArray) : Bool :=
  decide (p_x.Key = p_a1)
def slices_IndexFunc_Item_session_itemAt_c1_l1 (p_f_0 : ByteArray) (j1 : Int) : List GItem → Nat → Int
  | [], i1 => j1
  | y1 :: ys1, i1 => if (session_itemAt_c1 y1 p_f_0) then
  (i1 : Int)
  else
  slices_IndexFunc_Item_session_itemAt_c1_l1 p_f_0 j1 ys1 (i1 + 1)
def slices_IndexFunc_Item_session_itemAt_c1 (p_s : List GItem) (p_f_0 : ByteArray) : Int :=
  Join ((-1)) (fun j1 =>
  slices_IndexFunc_Item_session_itemAt_c1_l1 p_f_0 j1 p_s 0)
def session_itemAt (p_l : List GItem) (p_key : ByteArray) : Int :=
  (slices_IndexFunc_Item_session_itemAt_c1 p_l p_key)
def words_IsMoment (p_n : Int) : Bool :=
  ((decide (0 ≤ p_n)) && (decide (p_n < 345686400000)))
def session_CheckHeld_l1 (p_items : List GItem) (p_l : List GHeld) (j1 : Option Int) : List GHeld → Nat → Int → Option Int
  | [], i1, x1 => j1
  | y1 :: ys1, i1, x1 => if decide ((session_itemAt p_items y1.Item) < 0) then
  some 8
  else
  Join (fun (x2 : Bool) =>
  if x2 then
  some 1
  else
  Join (fun (c1 : Bool) =>
  if c1 then
  some 7
  else
  session_CheckHeld_l1 p_items p_l j1 ys1 (i1 + 1) (W ((W ((session_itemAt p_items y1.Item) * 61)) + y1.Heat))) (fun j3 =>
  if (decide ((W ((W ((session_itemAt p_items y1.Item) * 61)) + y1.Heat)) ≤ x1)) then j3 ((decide ((W ((W ((session_itemAt p_items y1.Item) * 61)) + y1.Heat)) ≤ x1)) || true) else Join (fun (c2 : Bool) =>
  j3 ((decide ((W ((W ((session_itemAt p_items y1.Item) * 61)) + y1.Heat)) ≤ x1)) || c2)) (fun j4 =>
  if (decide (0 < (i1 : Int))) then Chk (inB (W ((i1 : Int) - 1)) p_l.length) (
  j4 ((decide (0 < (i1 : Int))) && (decide (y1.At < ((nth p_l (W ((i1 : Int) - 1))).At))))) else j4 ((decide (0 < (i1 : Int))) && true)))) (fun j2 =>
  Chk (inB (session_itemAt p_items y1.Item) p_items.length) (
  if !(words_Within y1.Heat 1 ((nth p_items (session_itemAt p_items y1.Item)).Heats)) then
  j2 true
  else
  j2 (!(words_IsMoment y1.At))))
def session_CheckHeld (p_items : List GItem) (p_l : List GHeld) : Option Int :=
  Option.bind (session_CheckItems p_items) (fun r1 =>
  if !decide (r1 = 0) then
  some r1
  else
  if decide (100 < (p_l.length : Int)) then
  some 2
  else
  Join (some 0) (fun j1 =>
  session_CheckHeld_l1 p_items p_l j1 p_l 0 (-1)))
def session_timetable_l2 (y1 : GItem) (j2 : (List GSlot) → Int → Option (List GSlot)) : Nat → (List GSlot) → Int → Int → Option (List GSlot)
  | 0, _, _, _ => none
  | m1 + 1, x3, x4, x5 => if decide (x5 ≤ y1.Heats) then
  Join (fun (x6 : List GSlot) (x7 : Int) =>
  session_timetable_l2 y1 j2 m1 x6 x7 (W (x5 + 1))) (fun j3 =>
  Chk (room x3.length) (
  Join (fun (x8 : Int) =>
  j3 (x3 ++ [(GSlot.mk y1.Key x5 (GWindow.mk x4 (W (x4 + y1.Long))))]) x8) (fun j4 =>
  if decide (x5 < y1.Heats) then
  j4 (W ((W (x4 + y1.Long)) + y1.Gap))
  else
  j4 (W (x4 + y1.Long)))))
  else
  j2 x3 x4
def session_timetable_l1 (j1 : (List GSlot) → Option (List GSlot)) : List GItem → Nat → (List GSlot) → Int → Option (List GSlot)
  | [], i1, x1, x2 => j1 x1
  | y1 :: ys1, i1, x1, x2 => Join (fun (x3 : List GSlot) (x4 : Int) =>
  session_timetable_l1 j1 ys1 (i1 + 1) x3 (W (x4 + y1.Break))) (fun j2 =>
  session_timetable_l2 y1 j2 ((y1.Heats - 1).toNat + 2) x1 x2 1)
def session_timetable (p_l : List GItem) (p_from : Int) : Option (List GSlot) :=
  Join (fun (x1 : List GSlot) =>
  some x1) (fun j1 =>
  session_timetable_l1 j1 p_l 0 ([] : List GSlot) p_from)
def session_live_l1 (j1 : (List (Gsession_heat × Bool)) → (List (Gsession_heat × Int)) → Option ((List GSlot) × (List GSlot))) : List GHeld → Nat → (List (Gsession_heat × Bool)) → (List (Gsession_heat × Int)) → Option ((List GSlot) × (List GSlot))
  | [], i1, x1, x2 => j1 x1 x2
  | y1 :: ys1, i1, x1, x2 => session_live_l1 j1 ys1 (i1 + 1) (mput x1 (Gsession_heat.mk y1.Item y1.Heat) true) (mput x2 (Gsession_heat.mk y1.Item y1.Heat) y1.At)
def session_live_l2 (x1 : List (Gsession_heat × Bool)) (x2 : List (Gsession_heat × Int)) (r1 : (List GSlot)) (j2 : (List GSlot) → Option ((List GSlot) × (List GSlot))) : List GSlot → Nat → (List GSlot) → Option ((List GSlot) × (List GSlot))
  | [], i2, x3 => j2 x3
  | y2 :: ys2, i2, x3 => Join (fun (x4 : Int) =>
  Join (fun (x5 : Int) =>
  Chk (room x3.length) (
  session_live_l2 x1 x2 r1 j2 ys2 (i2 + 1) (x3 ++ [(GSlot.mk y2.Item y2.Heat (GWindow.mk x5 (W (x5 + (W (y2.Time.To - y2.Time.From))))))]))) (fun j4 =>
  if mgetD x1 (Gsession_heat.mk y2.Item y2.Heat) false then
  Join (fun (x6 : Int) =>
  j4 x6) (fun j5 =>
  if decide (0 < (i2 : Int)) then
  Chk (inB (W ((i2 : Int) - 1)) x3.length) (
  j5 (imax (mgetD x2 (Gsession_heat.mk y2.Item y2.Heat) 0) (((nth x3 (W ((i2 : Int) - 1))).Time).To)))
  else
  j5 (mgetD x2 (Gsession_heat.mk y2.Item y2.Heat) 0))
  else
  j4 x4)) (fun j3 =>
  if decide (0 < (i2 : Int)) then
  Chk (inB (W ((i2 : Int) - 1)) x3.length) (
  Chk (inB (W ((i2 : Int) - 1)) r1.length) (
  j3 (imax y2.Time.From (W ((W ((((nth x3 (W ((i2 : Int) - 1))).Time).To) + y2.Time.From)) - (((nth r1 (W ((i2 : Int) - 1))).Time).To))))))
  else
  j3 y2.Time.From)
def session_live (p_items : List GItem) (p_from : Int) (p_l : List GHeld) : Option ((List GSlot) × (List GSlot)) :=
  Option.bind (session_timetable p_items p_from) (fun r1 =>
  Join (fun (x1 : List (Gsession_heat × Bool)) (x2 : List (Gsession_heat × Int)) =>
  Join (fun (x3 : List GSlot) =>
  some (x3, r1)) (fun j2 =>
  session_live_l2 x1 x2 r1 j2 r1 0 ([] : List GSlot))) (fun j1 =>
  session_live_l1 j1 p_l 0 ([] : List (Gsession_heat × Bool)) ([] : List (Gsession_heat × Int))))
def session_end (p_l : List GSlot) (p_from : Int) : Option Int :=
  if decide ((p_l.length : Int) = 0) then
  some p_from
  else
  Chk (inB (W ((p_l.length : Int) - 1)) p_l.length) (
  some (((nth p_l (W ((p_l.length : Int) - 1))).Time).To))
def session_checkLive (p_items : List GItem) (p_from : Int) (p_l : List GHeld) : Option ((List GSlot) × (List GSlot) × Int) :=
  Option.bind (session_CheckHeld p_items p_l) (fun r1 =>
  if !decide (r1 = 0) then
  some (([] : List GSlot), ([] : List GSlot), r1)
  else
  if !(words_IsMoment p_from) then
  some (([] : List GSlot), ([] : List GSlot), 1)
  else
  Option.bind (session_live p_items p_from p_l) (fun r2 =>
  Option.bind (session_end r2.1 p_from) (fun r3 =>
  if decide (345686400000 < r3) then
  some (([] : List GSlot), ([] : List GSlot), 1)
  else
  some (r2.1, r2.2, 0))))
def session_Live (p_items : List GItem) (p_from : Int) (p_l : List GHeld) : Option ((List GSlot) × Int) :=
  Option.bind (session_checkLive p_items p_from p_l) (fun r1 =>
  some (r1.1, r1.2.2))
def session_Behind (p_items : List GItem) (p_from : Int) (p_l : List GHeld) : Option (Int × Int) :=
  Option.bind (session_checkLive p_items p_from p_l) (fun r1 =>
  if !decide (r1.2.2 = 0) then
  some (0, r1.2.2)
  else
  Option.bind (session_end r1.1 p_from) (fun r2 =>
  Option.bind (session_end r1.2.1 p_from) (fun r3 =>
  some (W (r2 - r3), 0))))
def session_Now_l1 (p_at : Int) (j1 : Option (GSlot × Bool × Int)) : List GSlot → Nat → Option (GSlot × Bool × Int)
  | [], i1 => j1
  | y1 :: ys1, i1 => if decide (p_at < y1.Time.To) then
  some (y1, true, 0)
  else
  session_Now_l1 p_at j1 ys1 (i1 + 1)
def session_Now (p_items : List GItem) (p_from : Int) (p_l : List GHeld) (p_at : Int) : Option (GSlot × Bool × Int) :=
  Option.bind (session_checkLive p_items p_from p_l) (fun r1 =>
  if !decide (r1.2.2 = 0) then
  some ((GSlot.mk k_empty 0 (GWindow.mk 0 0)), false, r1.2.2)
  else
  if !(words_IsMoment p_at) then
  some ((GSlot.mk k_empty 0 (GWindow.mk 0 0)), false, 1)
  else
  Join (some ((GSlot.mk k_empty 0 (GWindow.mk 0 0)), false, 0)) (fun j1 =>
  session_Now_l1 p_at j1 r1.1 0))
def tumbref2_in (p_n : Int) (p_low : Int) (p_high : Int) : Bool :=
  ((decide (p_low ≤ p_n)) && (decide (p_n ≤ p_high)))
def strings_IndexByte (s : ByteArray) (c : Int) : Int := Lib.indexByte s.data.toList c.toNat.toUInt8
def tumbref2_only_l1 (p_s : ByteArray) (p_some : ByteArray) (j1 : Option Bool) : Nat → Int → Option Bool
  | 0, _ => none
  | m1 + 1, x1 => if decide (x1 < (p_s.size : Int)) then
  Chk (inB x1 p_s.size) (
  if decide ((strings_IndexByte p_some (sbyte p_s x1)) < 0) then
  some false
  else
  tumbref2_only_l1 p_s p_some j1 m1 (W (x1 + 1)))
  else
  j1
def tumbref2_only (p_s : ByteArray) (p_some : ByteArray) : Option Bool :=
  Join (some true) (fun j1 =>
  tumbref2_only_l1 p_s p_some j1 (((p_s.size : Int) - 0).toNat + 2) 0)
def tumbref2_Key (p_s : ByteArray) : Option Bool :=
  Join (fun (c1 : Bool) =>
  Join (fun (c2 : Bool) =>
  some c2) (fun j2 =>
  if c1 then Option.bind (tumbref2_only p_s k_abcdefghijkl_h0e2e2c) (fun r2 =>
  j2 (c1 && r2)) else j2 (c1 && true))) (fun j1 =>
  if (tumbref2_in (p_s.size : Int) 1 40) then Chk (cutB 0 1 p_s.size) (
  Option.bind (tumbref2_only (scut p_s 0 1) k_abcdefghijklmnopqrstuvwxyz) (fun r1 =>
  j1 ((tumbref2_in (p_s.size : Int) 1 40) && r1))) else j1 ((tumbref2_in (p_s.size : Int) 1 40) && true))
def tumbref2_ItemAt_c1 (p_x : GItem) (p_a1 : ByteArray) : Bool :=
  decide (p_x.Key = p_a1)
def slices_IndexFunc_Item_tumbref2_ItemAt_c1_l1 (p_f_0 : ByteArray) (j1 : Int) : List GItem → Nat → Int
  | [], i1 => j1
  | y1 :: ys1, i1 => if (tumbref2_ItemAt_c1 y1 p_f_0) then
  (i1 : Int)
  else
  slices_IndexFunc_Item_tumbref2_ItemAt_c1_l1 p_f_0 j1 ys1 (i1 + 1)
def slices_IndexFunc_Item_tumbref2_ItemAt_c1 (p_s : List GItem) (p_f_0 : ByteArray) : Int :=
  Join ((-1)) (fun j1 =>
  slices_IndexFunc_Item_tumbref2_ItemAt_c1_l1 p_f_0 j1 p_s 0)
def tumbref2_ItemAt (p_l : List GItem) (p_key : ByteArray) : Int :=
  (slices_IndexFunc_Item_tumbref2_ItemAt_c1 p_l p_key)
def tumbref2_ItemsFault_l1 (p_l : List GItem) (j1 : Option Int) : List GItem → Nat → Option Int
  | [], i1 => j1
  | y1 :: ys1, i1 => Option.bind (tumbref2_Key y1.Key) (fun r1 =>
  if !r1 then
  some 5
  else
  Chk (cutB 0 (i1 : Int) p_l.length) (
  if decide (0 ≤ (tumbref2_ItemAt (cut p_l 0 (i1 : Int)) y1.Key)) then
  some 6
  else
  if ((((!(tumbref2_in y1.Heats 1 60)) || (!(tumbref2_in y1.Long 1 3600000))) || (!(tumbref2_in y1.Gap 0 3600000))) || (!(tumbref2_in y1.Break 0 3600000))) then
  some 1
  else
  tumbref2_ItemsFault_l1 p_l j1 ys1 (i1 + 1)))
def tumbref2_ItemsFault (p_l : List GItem) : Option Int :=
  if decide (100 < (p_l.length : Int)) then
  some 2
  else
  Join (some 0) (fun j1 =>
  tumbref2_ItemsFault_l1 p_l j1 p_l 0)
def tumbref2_SlotsOf_l2 (y1 : GItem) (i1 : Nat) (p_l : List GItem) (p_from : Int) (j2 : (List GSlot) → Option (List GSlot)) : Nat → (List GSlot) → Int → Option (List GSlot)
  | 0, _, _ => none
  | m1 + 1, x2, x3 => if decide (x3 ≤ y1.Heats) then
  Join (fun (x4 : Int) =>
  Chk (room x2.length) (
  tumbref2_SlotsOf_l2 y1 i1 p_l p_from j2 m1 (x2 ++ [(GSlot.mk y1.Key x3 (GWindow.mk x4 (W (x4 + y1.Long))))]) (W (x3 + 1)))) (fun j3 =>
  if decide (0 < (x2.length : Int)) then
  Chk (inB (W ((x2.length : Int) - 1)) x2.length) (
  Join (fun (x5 : Int) =>
  j3 x5) (fun j4 =>
  if decide (x3 = 1) then
  Chk (inB (W ((x2.length : Int) - 1)) x2.length) (
  Chk (inB (W ((i1 : Int) - 1)) p_l.length) (
  j4 (W ((((nth x2 (W ((x2.length : Int) - 1))).Time).To) + ((nth p_l (W ((i1 : Int) - 1))).Break)))))
  else
  j4 (W ((((nth x2 (W ((x2.length : Int) - 1))).Time).To) + y1.Gap))))
  else
  j3 p_from)
  else
  j2 x2
def tumbref2_SlotsOf_l1 (p_l : List GItem) (p_from : Int) (j1 : (List GSlot) → Option (List GSlot)) : List GItem → Nat → (List GSlot) → Option (List GSlot)
  | [], i1, x1 => j1 x1
  | y1 :: ys1, i1, x1 => Join (fun (x2 : List GSlot) =>
  tumbref2_SlotsOf_l1 p_l p_from j1 ys1 (i1 + 1) x2) (fun j2 =>
  tumbref2_SlotsOf_l2 y1 i1 p_l p_from j2 ((y1.Heats - 1).toNat + 2) x1 1)
def tumbref2_SlotsOf (p_l : List GItem) (p_from : Int) : Option (List GSlot) :=
  Join (fun (x1 : List GSlot) =>
  some x1) (fun j1 =>
  tumbref2_SlotsOf_l1 p_l p_from j1 p_l 0 ([] : List GSlot))
def tumbref2_Moment (p_at : Int) : Bool :=
  (tumbref2_in p_at 0 345686399999)
def tumbref2_heatAt_c1 (p_s : GSlot) (p_a1 : ByteArray) (p_a2 : Int) : Bool :=
  ((decide (p_s.Item = p_a1)) && (decide (p_s.Heat = p_a2)))
def slices_IndexFunc_Slot_tumbref2_heatAt_c1_l1 (p_f_0 : ByteArray) (p_f_1 : Int) (j1 : Int) : List GSlot → Nat → Int
  | [], i1 => j1
  | y1 :: ys1, i1 => if (tumbref2_heatAt_c1 y1 p_f_0 p_f_1) then
  (i1 : Int)
  else
  slices_IndexFunc_Slot_tumbref2_heatAt_c1_l1 p_f_0 p_f_1 j1 ys1 (i1 + 1)
def slices_IndexFunc_Slot_tumbref2_heatAt_c1 (p_s : List GSlot) (p_f_0 : ByteArray) (p_f_1 : Int) : Int :=
  Join ((-1)) (fun j1 =>
  slices_IndexFunc_Slot_tumbref2_heatAt_c1_l1 p_f_0 p_f_1 j1 p_s 0)
def tumbref2_heatAt (p_l : List GSlot) (p_item : ByteArray) (p_heat : Int) : Int :=
  (slices_IndexFunc_Slot_tumbref2_heatAt_c1 p_l p_item p_heat)
def tumbref2_HeldFault_l1 (p_items : List GItem) (p_l : List GHeld) (r2 : (List GSlot)) (j1 : Option Int) : List GHeld → Nat → Option Int
  | [], i1 => j1
  | y1 :: ys1, i1 => if decide ((tumbref2_ItemAt p_items y1.Item) < 0) then
  some 8
  else
  Join (fun (x1 : Bool) =>
  if x1 then
  some 1
  else
  Join (fun (x2 : Bool) =>
  if x2 then
  some 7
  else
  tumbref2_HeldFault_l1 p_items p_l r2 j1 ys1 (i1 + 1)) (fun j3 =>
  if decide (0 < (i1 : Int)) then
  Chk (inB (W ((i1 : Int) - 1)) p_l.length) (
  Chk (inB (W ((i1 : Int) - 1)) p_l.length) (
  Join (fun (c1 : Bool) =>
  j3 c1) (fun j4 =>
  if (decide ((tumbref2_heatAt r2 y1.Item y1.Heat) ≤ (tumbref2_heatAt r2 ((nth p_l (W ((i1 : Int) - 1))).Item) ((nth p_l (W ((i1 : Int) - 1))).Heat)))) then j4 ((decide ((tumbref2_heatAt r2 y1.Item y1.Heat) ≤ (tumbref2_heatAt r2 ((nth p_l (W ((i1 : Int) - 1))).Item) ((nth p_l (W ((i1 : Int) - 1))).Heat)))) || true) else Chk (inB (W ((i1 : Int) - 1)) p_l.length) (
  j4 ((decide ((tumbref2_heatAt r2 y1.Item y1.Heat) ≤ (tumbref2_heatAt r2 ((nth p_l (W ((i1 : Int) - 1))).Item) ((nth p_l (W ((i1 : Int) - 1))).Heat)))) || (decide (y1.At < ((nth p_l (W ((i1 : Int) - 1))).At))))))))
  else
  j3 false)) (fun j2 =>
  Chk (inB (tumbref2_ItemAt p_items y1.Item) p_items.length) (
  if !(tumbref2_in y1.Heat 1 ((nth p_items (tumbref2_ItemAt p_items y1.Item)).Heats)) then
  j2 true
  else
  j2 (!(tumbref2_Moment y1.At))))
def tumbref2_HeldFault (p_items : List GItem) (p_l : List GHeld) : Option Int :=
  Option.bind (tumbref2_ItemsFault p_items) (fun r1 =>
  if !decide (r1 = 0) then
  some r1
  else
  if decide (100 < (p_l.length : Int)) then
  some 2
  else
  Option.bind (tumbref2_SlotsOf p_items 0) (fun r2 =>
  Join (some 0) (fun j1 =>
  tumbref2_HeldFault_l1 p_items p_l r2 j1 p_l 0)))
def slices_Clone_Slot (p_s : List GSlot) : Option (List GSlot) :=
  Chk (decide ((([] : List GSlot) : List GSlot).length + p_s.length < 1073741824)) (
  some ((([] : List GSlot) : List GSlot) ++ p_s))
def tumbref2_LiveOf_l2 (y1 : GSlot) (i1 : Nat) (x1 : List GSlot) (j3 : Int → Option (List GSlot)) : List GHeld → Nat → Int → Option (List GSlot)
  | [], i2, x3 => j3 x3
  | y2 :: ys2, i2, x3 => Join (fun (x4 : Int) =>
  tumbref2_LiveOf_l2 y1 i1 x1 j3 ys2 (i2 + 1) x4) (fun j4 =>
  Join (fun (x5 : Int) =>
  j4 x5) (fun j5 =>
  if ((decide (y2.Item = y1.Item)) && (decide (y2.Heat = y1.Heat))) then
  Join (fun (x6 : Int) =>
  j5 x6) (fun j6 =>
  if decide (0 < (i1 : Int)) then
  Chk (inB (W ((i1 : Int) - 1)) x1.length) (
  j6 (imax y2.At (((nth x1 (W ((i1 : Int) - 1))).Time).To)))
  else
  j6 y2.At)
  else
  j5 x3))
def tumbref2_LiveOf_l1 (p_l : List GHeld) (r1 : (List GSlot)) (j1 : (List GSlot) → Option (List GSlot)) : List GSlot → Nat → (List GSlot) → Option (List GSlot)
  | [], i1, x1 => j1 x1
  | y1 :: ys1, i1, x1 => Join (fun (x2 : Int) =>
  Join (fun (x3 : Int) =>
  Chk (inB (i1 : Int) x1.length) (
  tumbref2_LiveOf_l1 p_l r1 j1 ys1 (i1 + 1) (x1.set ((i1 : Int).toNat) (GSlot.mk ((nth x1 (i1 : Int)).Item) ((nth x1 (i1 : Int)).Heat) (GWindow.mk x3 (W ((W (x3 + y1.Time.To)) - y1.Time.From))))))) (fun j3 =>
  tumbref2_LiveOf_l2 y1 i1 x1 j3 p_l 0 x2)) (fun j2 =>
  if decide (0 < (i1 : Int)) then
  Chk (inB (W ((i1 : Int) - 1)) x1.length) (
  Chk (inB (W ((i1 : Int) - 1)) r1.length) (
  j2 (imax y1.Time.From (W ((W ((((nth x1 (W ((i1 : Int) - 1))).Time).To) + y1.Time.From)) - (((nth r1 (W ((i1 : Int) - 1))).Time).To))))))
  else
  j2 y1.Time.From)
def tumbref2_LiveOf (p_items : List GItem) (p_from : Int) (p_l : List GHeld) : Option (List GSlot) :=
  Option.bind (tumbref2_SlotsOf p_items p_from) (fun r1 =>
  Option.bind (slices_Clone_Slot r1) (fun r2 =>
  Join (fun (x1 : List GSlot) =>
  some x1) (fun j1 =>
  tumbref2_LiveOf_l1 p_l r1 j1 r1 0 r2)))
def tumbref2_LiveFault_l1 (j1 : Option Int) : List GSlot → Nat → Option Int
  | [], i1 => j1
  | y1 :: ys1, i1 => if decide (345686400000 < y1.Time.To) then
  some 1
  else
  tumbref2_LiveFault_l1 j1 ys1 (i1 + 1)
def tumbref2_LiveFault (p_items : List GItem) (p_from : Int) (p_l : List GHeld) : Option Int :=
  Option.bind (tumbref2_HeldFault p_items p_l) (fun r1 =>
  if !decide (r1 = 0) then
  some r1
  else
  if !(tumbref2_Moment p_from) then
  some 1
  else
  Option.bind (tumbref2_LiveOf p_items p_from p_l) (fun r2 =>
  Join (some 0) (fun j1 =>
  tumbref2_LiveFault_l1 j1 r2 0)))
def tumblaw2_when (p_is : Bool) (p_e : Int) : Int :=
  if p_is then
  p_e
  else
  0
def tumblaw2_momentFault (p_at : Int) : Int :=
  (tumblaw2_when (!(tumbref2_Moment p_at)) 1)
def tumblaw2_errs_l1 (j1 : Int) : List Int → Nat → Int
  | [], i1 => j1
  | y1 :: ys1, i1 => if !decide (y1 = 0) then
  y1
  else
  tumblaw2_errs_l1 j1 ys1 (i1 + 1)
def tumblaw2_errs (p_l : List Int) : Int :=
  Join (0) (fun j1 =>
  tumblaw2_errs_l1 j1 p_l 0)
def tumbref2_EndOf_l1 (j1 : Int → Option Int) : List GSlot → Nat → Int → Option Int
  | [], i1, x1 => j1 x1
  | y1 :: ys1, i1, x1 => tumbref2_EndOf_l1 j1 ys1 (i1 + 1) y1.Time.To
def tumbref2_EndOf (p_l : List GItem) (p_from : Int) : Option Int :=
  Option.bind (tumbref2_SlotsOf p_l p_from) (fun r1 =>
  Join (fun (x1 : Int) =>
  some x1) (fun j1 =>
  tumbref2_EndOf_l1 j1 r1 0 p_from))
def tumbref2_BehindOf_l1 (p_items : List GItem) (p_from : Int) (j1 : Int → Option Int) : List GSlot → Nat → Int → Option Int
  | [], i1, x1 => j1 x1
  | y1 :: ys1, i1, x1 => Option.bind (tumbref2_EndOf p_items p_from) (fun r2 =>
  tumbref2_BehindOf_l1 p_items p_from j1 ys1 (i1 + 1) (W (y1.Time.To - r2)))
def tumbref2_BehindOf (p_items : List GItem) (p_from : Int) (p_l : List GHeld) : Option Int :=
  Option.bind (tumbref2_LiveOf p_items p_from p_l) (fun r1 =>
  Join (fun (x1 : Int) =>
  some x1) (fun j1 =>
  tumbref2_BehindOf_l1 p_items p_from j1 r1 0 0))
def tumbref2_NowOf_l1 (p_at : Int) (j1 : Option (GSlot × Bool)) : List GSlot → Nat → Option (GSlot × Bool)
  | [], i1 => j1
  | y1 :: ys1, i1 => if decide (p_at < y1.Time.To) then
  some (y1, true)
  else
  tumbref2_NowOf_l1 p_at j1 ys1 (i1 + 1)
def tumbref2_NowOf (p_items : List GItem) (p_from : Int) (p_l : List GHeld) (p_at : Int) : Option (GSlot × Bool) :=
  Option.bind (tumbref2_LiveOf p_items p_from p_l) (fun r1 =>
  Join (some ((GSlot.mk k_empty 0 (GWindow.mk 0 0)), false)) (fun j1 =>
  tumbref2_NowOf_l1 p_at j1 r1 0))
def slices_Equal_Slot_l1 (p_s2 : List GSlot) (j1 : Option Bool) : List GSlot → Nat → Option Bool
  | [], i1 => j1
  | y1 :: ys1, i1 => Chk (inB (i1 : Int) p_s2.length) (
  if !decide (y1 = (GSlot.mk ((nth p_s2 (i1 : Int)).Item) ((nth p_s2 (i1 : Int)).Heat) ((nth p_s2 (i1 : Int)).Time))) then
  some false
  else
  slices_Equal_Slot_l1 p_s2 j1 ys1 (i1 + 1))
def slices_Equal_Slot (p_s1 : List GSlot) (p_s2 : List GSlot) : Option Bool :=
  if !decide ((p_s1.length : Int) = (p_s2.length : Int)) then
  some false
  else
  Join (some true) (fun j1 =>
  slices_Equal_Slot_l1 p_s2 j1 p_s1 0)
def session_begin (p_l : List GItem) (p_from : Int) : Option ((List GSlot) × Int) :=
  if !(words_IsMoment p_from) then
  some (([] : List GSlot), 1)
  else
  Option.bind (session_timetable p_l p_from) (fun r1 =>
  Option.bind (session_end r1 p_from) (fun r2 =>
  if decide (345686400000 < r2) then
  some (([] : List GSlot), 1)
  else
  some (r1, 0)))
def session_Timetable (p_l : List GItem) (p_from : Int) : Option ((List GSlot) × Int) :=
  Option.bind (session_CheckItems p_l) (fun r1 =>
  if !decide (r1 = 0) then
  some (([] : List GSlot), r1)
  else
  Option.bind (session_begin p_l p_from) (fun r2 =>
  some (r2.1, r2.2)))
def session_Ends (p_l : List GItem) (p_from : Int) : Option (Int × Int) :=
  Option.bind (session_Timetable p_l p_from) (fun r1 =>
  if !decide (r1.2 = 0) then
  some (0, r1.2)
  else
  Option.bind (session_end r1.1 p_from) (fun r2 =>
  some (r2, 0)))
def tumblaw2_timed : Option Bool :=
  Option.bind (session_Ends [(GItem.mk k_a 2 10 5 0)] 0) (fun r1 =>
  some ((decide (r1.2 = 0)) && (decide (r1.1 = 25))))
def tumblaw2_SessionsLate (p_l : List Int) : Option Bool :=
  Option.bind (Stream_Items p_l 0 4) (fun r1 =>
  Option.bind (Stream_SessionStart p_l r1.2) (fun r2 =>
  Option.bind (Stream_Pick p_l r2.2 [0, 50, 150, 400, 2000, (-1)]) (fun r3 =>
  Option.bind (Stream_Helds p_l r3.2 r1.1) (fun r4 =>
  Option.bind (session_Live r1.1 r2.1 r4.1) (fun r5 =>
  Option.bind (session_Behind r1.1 r2.1 r4.1) (fun r6 =>
  Option.bind (session_Now r1.1 r2.1 r4.1 r3.1) (fun r7 =>
  Option.bind (tumbref2_LiveFault r1.1 r2.1 r4.1) (fun r8 =>
  Join (fun (x1 : List GSlot) (x2 : Int) =>
  Join (fun (x3 : ByteArray) (x4 : Int) (x5 : Int) (x6 : Int) (x7 : Bool) =>
  Option.bind (session_CheckHeld r1.1 r4.1) (fun r12 =>
  Option.bind (tumbref2_HeldFault r1.1 r4.1) (fun r13 =>
  Join (fun (c1 : Bool) =>
  Join (fun (c2 : Bool) =>
  some c2) (fun j4 =>
  if (((((c1 && (decide (r6.2 = r8))) && (decide (r6.1 = x2))) && (decide (r7.2.2 = (tumblaw2_errs [r8, (tumblaw2_momentFault r3.1)])))) && (decide (r7.1 = (GSlot.mk x3 x4 (GWindow.mk x5 x6))))) && (decide (r7.2.1 = x7))) then Option.bind (tumblaw2_timed) (fun r15 =>
  j4 ((((((c1 && (decide (r6.2 = r8))) && (decide (r6.1 = x2))) && (decide (r7.2.2 = (tumblaw2_errs [r8, (tumblaw2_momentFault r3.1)])))) && (decide (r7.1 = (GSlot.mk x3 x4 (GWindow.mk x5 x6))))) && (decide (r7.2.1 = x7))) && r15)) else j4 ((((((c1 && (decide (r6.2 = r8))) && (decide (r6.1 = x2))) && (decide (r7.2.2 = (tumblaw2_errs [r8, (tumblaw2_momentFault r3.1)])))) && (decide (r7.1 = (GSlot.mk x3 x4 (GWindow.mk x5 x6))))) && (decide (r7.2.1 = x7))) && true))) (fun j3 =>
  if ((decide (r12 = r13)) && (decide (r5.2 = r8))) then Option.bind (slices_Equal_Slot r5.1 x1) (fun r14 =>
  j3 (((decide (r12 = r13)) && (decide (r5.2 = r8))) && r14)) else j3 (((decide (r12 = r13)) && (decide (r5.2 = r8))) && true))))) (fun j2 =>
  if decide ((tumblaw2_errs [r8, (tumblaw2_momentFault r3.1)]) = 0) then
  Option.bind (tumbref2_NowOf r1.1 r2.1 r4.1 r3.1) (fun r11 =>
  j2 r11.1.Item r11.1.Heat r11.1.Time.From r11.1.Time.To r11.2)
  else
  j2 k_empty 0 0 0 false)) (fun j1 =>
  if decide (r8 = 0) then
  Option.bind (tumbref2_LiveOf r1.1 r2.1 r4.1) (fun r9 =>
  Option.bind (tumbref2_BehindOf r1.1 r2.1 r4.1) (fun r10 =>
  j1 r9 r10))
  else
  j1 ([] : List GSlot) 0)))))))))
end Go.Proofs.YthckagkkjdabeaaDoor
