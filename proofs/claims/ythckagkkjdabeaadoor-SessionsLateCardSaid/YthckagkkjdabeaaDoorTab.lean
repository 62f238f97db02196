/- The program's tables, by program. -/
import Derived.Test.YthckagkkjdabeaaDoorTw
import Derived.Test.YthckagkkjdabeaaDoorLib
import Derived.Test.YthckagkkjdabeaaDoorProg
namespace Go.Proofs.YthckagkkjdabeaaDoor
open Go
def GItem.enc (x : GItem) : List Value := [.string x.Key, .int .i64 x.Heats, .int .i64 x.Long, .int .i64 x.Gap, .int .i64 x.Break]
theorem GItem.enc_ok : Enc 5 GItem.enc := ⟨fun _ => rfl, fun _ u h => by simp [GItem.enc] at h; rcases h with rfl | rfl | rfl | rfl | rfl <;> rfl⟩
def GHeld.enc (x : GHeld) : List Value := [.string x.Item, .int .i64 x.Heat, .int .i64 x.At]
theorem GHeld.enc_ok : Enc 3 GHeld.enc := ⟨fun _ => rfl, fun _ u h => by simp [GHeld.enc] at h; rcases h with rfl | rfl | rfl <;> rfl⟩
def GWindow.enc (x : GWindow) : List Value := [.int .i64 x.From, .int .i64 x.To]
theorem GWindow.enc_ok : Enc 2 GWindow.enc := ⟨fun _ => rfl, fun _ u h => by simp [GWindow.enc] at h; rcases h with rfl | rfl <;> rfl⟩
def GSlot.enc (x : GSlot) : List Value := [.string x.Item, .int .i64 x.Heat, .int .i64 x.Time.From, .int .i64 x.Time.To]
theorem GSlot.enc_ok : Enc 4 GSlot.enc := ⟨fun _ => rfl, fun _ u h => by simp [GSlot.enc] at h; rcases h with rfl | rfl | rfl | rfl <;> rfl⟩
def Gsession_heat.enc (x : Gsession_heat) : List Value := [.string x.item_, .int .i64 x.heat_]
theorem Gsession_heat.enc_ok : Enc 2 Gsession_heat.enc := ⟨fun _ => rfl, fun _ u h => by simp [Gsession_heat.enc] at h; rcases h with rfl | rfl <;> rfl⟩
theorem Tryd.mixed : Tryd.prog.follows .mixedOrders = true := by kernel_rfl
theorem sl_22 : SlT Tryd.prog 22 3 1 8 := slT_of (z := (.int .i64 0)) Tryd.underlying22 Tryd.sizeOf3 (by kernel_rfl) rfl
theorem sl_26 : SlT Tryd.prog 26 58 5 48 := slT_of (z := (.agg #[.string k_empty, .int .i64 0, .int .i64 0, .int .i64 0, .int .i64 0])) Tryd.underlying26 Tryd.sizeOf58 (by kernel_rfl) rfl
theorem sl_30 : SlT Tryd.prog 30 63 3 32 := slT_of (z := (.agg #[.string k_empty, .int .i64 0, .int .i64 0])) Tryd.underlying30 Tryd.sizeOf63 (by kernel_rfl) rfl
theorem sl_32 : SlT Tryd.prog 32 41 4 40 := slT_of (z := (.agg #[.string k_empty, .int .i64 0, .int .i64 0, .int .i64 0])) Tryd.underlying32 Tryd.sizeOf41 (by kernel_rfl) rfl
theorem sl_68 : SlT Tryd.prog 68 33 1 8 := slT_of (z := (.int .i64 0)) Tryd.underlying68 Tryd.sizeOf33 (by kernel_rfl) rfl
theorem sl_78 : SlT Tryd.prog 78 9 1 16 := slT_of (z := (.string k_empty)) Tryd.underlying78 Tryd.sizeOf9 (by kernel_rfl) rfl
theorem fa_25_0 : FldT Tryd.prog 25 0 0 := ⟨_, _, _, Tryd.underlying25, rfl, Tryd.sizeOf22, rfl, rfl⟩
theorem fa_25_1 : FldT Tryd.prog 25 1 1 := ⟨_, _, _, Tryd.underlying25, rfl, Tryd.sizeOf3, rfl, rfl⟩
theorem fa_39_0 : FldT Tryd.prog 39 0 0 := ⟨_, _, _, Tryd.underlying39, rfl, Tryd.sizeOf3, rfl, rfl⟩
theorem fa_39_1 : FldT Tryd.prog 39 1 1 := ⟨_, _, _, Tryd.underlying39, rfl, Tryd.sizeOf3, rfl, rfl⟩
theorem fa_41_0 : FldT Tryd.prog 41 0 0 := ⟨_, _, _, Tryd.underlying41, rfl, Tryd.sizeOf9, rfl, rfl⟩
theorem fa_41_1 : FldT Tryd.prog 41 1 1 := ⟨_, _, _, Tryd.underlying41, rfl, Tryd.sizeOf3, rfl, rfl⟩
theorem fa_41_2 : FldT Tryd.prog 41 2 2 := ⟨_, _, _, Tryd.underlying41, rfl, Tryd.sizeOf39, rfl, rfl⟩
theorem fa_58_0 : FldT Tryd.prog 58 0 0 := ⟨_, _, _, Tryd.underlying58, rfl, Tryd.sizeOf9, rfl, rfl⟩
theorem fa_58_1 : FldT Tryd.prog 58 1 1 := ⟨_, _, _, Tryd.underlying58, rfl, Tryd.sizeOf3, rfl, rfl⟩
theorem fa_58_2 : FldT Tryd.prog 58 2 2 := ⟨_, _, _, Tryd.underlying58, rfl, Tryd.sizeOf3, rfl, rfl⟩
theorem fa_58_3 : FldT Tryd.prog 58 3 3 := ⟨_, _, _, Tryd.underlying58, rfl, Tryd.sizeOf3, rfl, rfl⟩
theorem fa_58_4 : FldT Tryd.prog 58 4 4 := ⟨_, _, _, Tryd.underlying58, rfl, Tryd.sizeOf3, rfl, rfl⟩
theorem fa_63_0 : FldT Tryd.prog 63 0 0 := ⟨_, _, _, Tryd.underlying63, rfl, Tryd.sizeOf9, rfl, rfl⟩
theorem fa_63_1 : FldT Tryd.prog 63 1 1 := ⟨_, _, _, Tryd.underlying63, rfl, Tryd.sizeOf3, rfl, rfl⟩
theorem fa_63_2 : FldT Tryd.prog 63 2 2 := ⟨_, _, _, Tryd.underlying63, rfl, Tryd.sizeOf3, rfl, rfl⟩
theorem eq_39 (dd : Nat) (x y : GWindow) (w : World) : (Op.equalIn (dd + 2) 39 (.agg (GWindow.enc x).toArray) (.agg (GWindow.enc y).toArray)).run Tryd.prog w = .ok (decide (x = y)) w := by
  refine eq_of_fields (dd := dd + 1) (fs := (Tryd.prog.fieldsOf 39).toList) (by kernel_rfl) rfl (by kernel_rfl) (?_ : _ = Result.ok (decide (x.From = y.From) && (decide (x.To = y.To) && true)) w) (by cases x; cases y; simp [Bool.decide_and])
  simp only [Program.fieldsOf, Tryd.underlying39]
  exact (eqF_cons (by decide) (part_cell Tryd.isAgg3 rfl) (part_cell Tryd.isAgg3 rfl) (eq_cell_int Tryd.underlying3) (eqF_cons (by decide) (part_cell Tryd.isAgg3 rfl) (part_cell Tryd.isAgg3 rfl) (eq_cell_int Tryd.underlying3) eqF_nil))
theorem rn_eql_39 {a : Act} {w : World} {x y : Operand} {u ty : TypeId} {m n : GWindow} (hx : a.eval x = .agg (GWindow.enc m).toArray) (hy : a.eval y = .agg (GWindow.enc n).toArray) : Rn Tryd.prog a w (.binOp .eql 39 x y u) ty (.bool (decide (m = n))) :=
  rn_aeql 2 (by kernel_rfl) (fun w => eq_39 _ m n w) rfl hx hy
theorem rn_neq_39 {a : Act} {w : World} {x y : Operand} {u ty : TypeId} {m n : GWindow} (hx : a.eval x = .agg (GWindow.enc m).toArray) (hy : a.eval y = .agg (GWindow.enc n).toArray) : Rn Tryd.prog a w (.binOp .neq 39 x y u) ty (.bool (!decide (m = n))) :=
  rn_aneq 2 (by kernel_rfl) (fun w => eq_39 _ m n w) rfl hx hy
theorem eq_41 (dd : Nat) (x y : GSlot) (w : World) : (Op.equalIn (dd + 3) 41 (.agg (GSlot.enc x).toArray) (.agg (GSlot.enc y).toArray)).run Tryd.prog w = .ok (decide (x = y)) w := by
  refine eq_of_fields (dd := dd + 2) (fs := (Tryd.prog.fieldsOf 41).toList) (by kernel_rfl) rfl (by kernel_rfl) (?_ : _ = Result.ok (decide (x.Item = y.Item) && (decide (x.Heat = y.Heat) && (decide (x.Time = y.Time) && true))) w) (by cases x; cases y; simp [Bool.decide_and])
  simp only [Program.fieldsOf, Tryd.underlying41]
  exact (eqF_cons (by decide) (part_cell Tryd.isAgg9 rfl) (part_cell Tryd.isAgg9 rfl) (eq_cell_str Tryd.underlying9) (eqF_cons (by decide) (part_cell Tryd.isAgg3 rfl) (part_cell Tryd.isAgg3 rfl) (eq_cell_int Tryd.underlying3) (eqF_cons (by decide) (part_agg (cs := GWindow.enc x.Time) Tryd.isAgg39 Tryd.sizeOf39 rfl) (part_agg (cs := GWindow.enc y.Time) Tryd.isAgg39 Tryd.sizeOf39 rfl) (eq_39 (dd + 0) x.Time y.Time w) eqF_nil)))
theorem rn_eql_41 {a : Act} {w : World} {x y : Operand} {u ty : TypeId} {m n : GSlot} (hx : a.eval x = .agg (GSlot.enc m).toArray) (hy : a.eval y = .agg (GSlot.enc n).toArray) : Rn Tryd.prog a w (.binOp .eql 41 x y u) ty (.bool (decide (m = n))) :=
  rn_aeql 3 (by kernel_rfl) (fun w => eq_41 _ m n w) rfl hx hy
theorem rn_neq_41 {a : Act} {w : World} {x y : Operand} {u ty : TypeId} {m n : GSlot} (hx : a.eval x = .agg (GSlot.enc m).toArray) (hy : a.eval y = .agg (GSlot.enc n).toArray) : Rn Tryd.prog a w (.binOp .neq 41 x y u) ty (.bool (!decide (m = n))) :=
  rn_aneq 3 (by kernel_rfl) (fun w => eq_41 _ m n w) rfl hx hy
theorem eq_91 (dd : Nat) (x y : Gsession_heat) (w : World) : (Op.equalIn (dd + 2) 91 (.agg (Gsession_heat.enc x).toArray) (.agg (Gsession_heat.enc y).toArray)).run Tryd.prog w = .ok (decide (x = y)) w := by
  refine eq_of_fields (dd := dd + 1) (fs := (Tryd.prog.fieldsOf 91).toList) (by kernel_rfl) rfl (by kernel_rfl) (?_ : _ = Result.ok (decide (x.item_ = y.item_) && (decide (x.heat_ = y.heat_) && true)) w) (by cases x; cases y; simp [Bool.decide_and])
  simp only [Program.fieldsOf, Tryd.underlying91]
  exact (eqF_cons (by decide) (part_cell Tryd.isAgg9 rfl) (part_cell Tryd.isAgg9 rfl) (eq_cell_str Tryd.underlying9) (eqF_cons (by decide) (part_cell Tryd.isAgg3 rfl) (part_cell Tryd.isAgg3 rfl) (eq_cell_int Tryd.underlying3) eqF_nil))
theorem rn_eql_91 {a : Act} {w : World} {x y : Operand} {u ty : TypeId} {m n : Gsession_heat} (hx : a.eval x = .agg (Gsession_heat.enc m).toArray) (hy : a.eval y = .agg (Gsession_heat.enc n).toArray) : Rn Tryd.prog a w (.binOp .eql 91 x y u) ty (.bool (decide (m = n))) :=
  rn_aeql 2 (by kernel_rfl) (fun w => eq_91 _ m n w) rfl hx hy
theorem rn_neq_91 {a : Act} {w : World} {x y : Operand} {u ty : TypeId} {m n : Gsession_heat} (hx : a.eval x = .agg (Gsession_heat.enc m).toArray) (hy : a.eval y = .agg (Gsession_heat.enc n).toArray) : Rn Tryd.prog a w (.binOp .neq 91 x y u) ty (.bool (!decide (m = n))) :=
  rn_aneq 2 (by kernel_rfl) (fun w => eq_91 _ m n w) rfl hx hy
theorem keyT_91 : KeyT Tryd.prog 91 (fun x => Value.agg (Gsession_heat.enc x).toArray) :=
  keyT_agg 2 rfl Tryd.underlying91 (fun em x w => chk_agg Tryd.underlying91 (by
    intro f hf _
    simp only [List.mem_cons, List.not_mem_nil, or_false] at hf
    rcases hf with rfl | rfl
    · exact ⟨_, fun w => part_cell Tryd.isAgg9 rfl, fun w => chk_str Tryd.underlying9⟩
    · exact ⟨_, fun w => part_cell Tryd.isAgg3 rfl, fun w => chk_int Tryd.underlying3⟩)) eq_91 (fun x => by simp [Instr.sameBits, Gsession_heat.enc, beq_selfB])
theorem bt_25 : BldT Tryd.prog 25 (.agg #[.slice none 0 0, .int .i64 0]) [(0, 1), (1, 1)] := ⟨_, Tryd.underlying25, Tryd.zeroValue25, fun _ => by kernel_rfl⟩
theorem bt_39 : BldT Tryd.prog 39 (.agg #[.int .i64 0, .int .i64 0]) [(0, 1), (1, 1)] := ⟨_, Tryd.underlying39, Tryd.zeroValue39, fun _ => by kernel_rfl⟩
theorem bt_41 : BldT Tryd.prog 41 (.agg #[.string k_empty, .int .i64 0, .int .i64 0, .int .i64 0]) [(0, 1), (1, 1), (2, 2)] := ⟨_, Tryd.underlying41, Tryd.zeroValue41, fun _ => by kernel_rfl⟩
theorem bt_58 : BldT Tryd.prog 58 (.agg #[.string k_empty, .int .i64 0, .int .i64 0, .int .i64 0, .int .i64 0]) [(0, 1), (1, 1), (2, 1), (3, 1), (4, 1)] := ⟨_, Tryd.underlying58, Tryd.zeroValue58, fun _ => by kernel_rfl⟩
theorem bt_63 : BldT Tryd.prog 63 (.agg #[.string k_empty, .int .i64 0, .int .i64 0]) [(0, 1), (1, 1), (2, 1)] := ⟨_, Tryd.underlying63, Tryd.zeroValue63, fun _ => by kernel_rfl⟩
theorem bt_91 : BldT Tryd.prog 91 (.agg #[.string k_empty, .int .i64 0]) [(0, 1), (1, 1)] := ⟨_, Tryd.underlying91, Tryd.zeroValue91, fun _ => by kernel_rfl⟩
end Go.Proofs.YthckagkkjdabeaaDoor
