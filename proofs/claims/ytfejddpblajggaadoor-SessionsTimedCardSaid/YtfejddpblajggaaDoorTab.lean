/- The program's tables, by program. -/
import Derived.Test.YtfejddpblajggaaDoorTw
import Derived.Test.YtfejddpblajggaaDoorMap
import Derived.Test.YtfejddpblajggaaDoorProg
namespace Go.Proofs.YtfejddpblajggaaDoor
open Go
def GItem.enc (x : GItem) : List Value := [.string x.Key, .int .i64 x.Heats, .int .i64 x.Long, .int .i64 x.Gap, .int .i64 x.Break]
theorem GItem.enc_ok : Enc 5 GItem.enc := ⟨fun _ => rfl, fun _ u h => by simp [GItem.enc] at h; rcases h with rfl | rfl | rfl | rfl | rfl <;> rfl⟩
def GWindow.enc (x : GWindow) : List Value := [.int .i64 x.From, .int .i64 x.To]
theorem GWindow.enc_ok : Enc 2 GWindow.enc := ⟨fun _ => rfl, fun _ u h => by simp [GWindow.enc] at h; rcases h with rfl | rfl <;> rfl⟩
def GSlot.enc (x : GSlot) : List Value := [.string x.Item, .int .i64 x.Heat, .int .i64 x.Time.From, .int .i64 x.Time.To]
theorem GSlot.enc_ok : Enc 4 GSlot.enc := ⟨fun _ => rfl, fun _ u h => by simp [GSlot.enc] at h; rcases h with rfl | rfl | rfl | rfl <;> rfl⟩
theorem Tryd.mixed : Tryd.prog.follows .mixedOrders = true := by kernel_rfl
theorem sl_22 : SlT Tryd.prog 22 3 1 8 := slT_of (z := (.int .i64 0)) Tryd.underlying22 Tryd.sizeOf3 (by kernel_rfl) rfl
theorem sl_26 : SlT Tryd.prog 26 60 5 48 := slT_of (z := (.agg #[.string k_empty, .int .i64 0, .int .i64 0, .int .i64 0, .int .i64 0])) Tryd.underlying26 Tryd.sizeOf60 (by kernel_rfl) rfl
theorem sl_32 : SlT Tryd.prog 32 53 4 40 := slT_of (z := (.agg #[.string k_empty, .int .i64 0, .int .i64 0, .int .i64 0])) Tryd.underlying32 Tryd.sizeOf53 (by kernel_rfl) rfl
theorem sl_39 : SlT Tryd.prog 39 31 2 16 := slT_of (z := (.agg #[.int .i64 0, .int .i64 0])) Tryd.underlying39 Tryd.sizeOf31 (by kernel_rfl) rfl
theorem sl_68 : SlT Tryd.prog 68 33 1 8 := slT_of (z := (.int .i64 0)) Tryd.underlying68 Tryd.sizeOf33 (by kernel_rfl) rfl
theorem sl_70 : SlT Tryd.prog 70 9 1 16 := slT_of (z := (.string k_empty)) Tryd.underlying70 Tryd.sizeOf9 (by kernel_rfl) rfl
theorem fa_25_0 : FldT Tryd.prog 25 0 0 := ⟨_, _, _, Tryd.underlying25, rfl, Tryd.sizeOf22, rfl, rfl⟩
theorem fa_25_1 : FldT Tryd.prog 25 1 1 := ⟨_, _, _, Tryd.underlying25, rfl, Tryd.sizeOf3, rfl, rfl⟩
theorem fa_31_0 : FldT Tryd.prog 31 0 0 := ⟨_, _, _, Tryd.underlying31, rfl, Tryd.sizeOf3, rfl, rfl⟩
theorem fa_31_1 : FldT Tryd.prog 31 1 1 := ⟨_, _, _, Tryd.underlying31, rfl, Tryd.sizeOf3, rfl, rfl⟩
theorem fa_53_2 : FldT Tryd.prog 53 2 2 := ⟨_, _, _, Tryd.underlying53, rfl, Tryd.sizeOf31, rfl, rfl⟩
theorem fa_60_0 : FldT Tryd.prog 60 0 0 := ⟨_, _, _, Tryd.underlying60, rfl, Tryd.sizeOf9, rfl, rfl⟩
theorem fa_60_1 : FldT Tryd.prog 60 1 1 := ⟨_, _, _, Tryd.underlying60, rfl, Tryd.sizeOf3, rfl, rfl⟩
theorem fa_60_2 : FldT Tryd.prog 60 2 2 := ⟨_, _, _, Tryd.underlying60, rfl, Tryd.sizeOf3, rfl, rfl⟩
theorem fa_60_3 : FldT Tryd.prog 60 3 3 := ⟨_, _, _, Tryd.underlying60, rfl, Tryd.sizeOf3, rfl, rfl⟩
theorem fa_60_4 : FldT Tryd.prog 60 4 4 := ⟨_, _, _, Tryd.underlying60, rfl, Tryd.sizeOf3, rfl, rfl⟩
theorem eq_31 (dd : Nat) (x y : GWindow) (w : World) : (Op.equalIn (dd + 2) 31 (.agg (GWindow.enc x).toArray) (.agg (GWindow.enc y).toArray)).run Tryd.prog w = .ok (decide (x = y)) w := by
  refine eq_of_fields (dd := dd + 1) (fs := (Tryd.prog.fieldsOf 31).toList) (by kernel_rfl) rfl (by kernel_rfl) (?_ : _ = Result.ok (decide (x.From = y.From) && (decide (x.To = y.To) && true)) w) (by cases x; cases y; simp [Bool.decide_and])
  simp only [Program.fieldsOf, Tryd.underlying31]
  exact (eqF_cons (by decide) (part_cell Tryd.isAgg3 rfl) (part_cell Tryd.isAgg3 rfl) (eq_cell_int Tryd.underlying3) (eqF_cons (by decide) (part_cell Tryd.isAgg3 rfl) (part_cell Tryd.isAgg3 rfl) (eq_cell_int Tryd.underlying3) eqF_nil))
theorem rn_eql_31 {a : Act} {w : World} {x y : Operand} {u ty : TypeId} {m n : GWindow} (hx : a.eval x = .agg (GWindow.enc m).toArray) (hy : a.eval y = .agg (GWindow.enc n).toArray) : Rn Tryd.prog a w (.binOp .eql 31 x y u) ty (.bool (decide (m = n))) :=
  rn_aeql 2 (by kernel_rfl) (fun w => eq_31 _ m n w) rfl hx hy
theorem rn_neq_31 {a : Act} {w : World} {x y : Operand} {u ty : TypeId} {m n : GWindow} (hx : a.eval x = .agg (GWindow.enc m).toArray) (hy : a.eval y = .agg (GWindow.enc n).toArray) : Rn Tryd.prog a w (.binOp .neq 31 x y u) ty (.bool (!decide (m = n))) :=
  rn_aneq 2 (by kernel_rfl) (fun w => eq_31 _ m n w) rfl hx hy
theorem eq_53 (dd : Nat) (x y : GSlot) (w : World) : (Op.equalIn (dd + 3) 53 (.agg (GSlot.enc x).toArray) (.agg (GSlot.enc y).toArray)).run Tryd.prog w = .ok (decide (x = y)) w := by
  refine eq_of_fields (dd := dd + 2) (fs := (Tryd.prog.fieldsOf 53).toList) (by kernel_rfl) rfl (by kernel_rfl) (?_ : _ = Result.ok (decide (x.Item = y.Item) && (decide (x.Heat = y.Heat) && (decide (x.Time = y.Time) && true))) w) (by cases x; cases y; simp [Bool.decide_and])
  simp only [Program.fieldsOf, Tryd.underlying53]
  exact (eqF_cons (by decide) (part_cell Tryd.isAgg9 rfl) (part_cell Tryd.isAgg9 rfl) (eq_cell_str Tryd.underlying9) (eqF_cons (by decide) (part_cell Tryd.isAgg3 rfl) (part_cell Tryd.isAgg3 rfl) (eq_cell_int Tryd.underlying3) (eqF_cons (by decide) (part_agg (cs := GWindow.enc x.Time) Tryd.isAgg31 Tryd.sizeOf31 rfl) (part_agg (cs := GWindow.enc y.Time) Tryd.isAgg31 Tryd.sizeOf31 rfl) (eq_31 (dd + 0) x.Time y.Time w) eqF_nil)))
theorem rn_eql_53 {a : Act} {w : World} {x y : Operand} {u ty : TypeId} {m n : GSlot} (hx : a.eval x = .agg (GSlot.enc m).toArray) (hy : a.eval y = .agg (GSlot.enc n).toArray) : Rn Tryd.prog a w (.binOp .eql 53 x y u) ty (.bool (decide (m = n))) :=
  rn_aeql 3 (by kernel_rfl) (fun w => eq_53 _ m n w) rfl hx hy
theorem rn_neq_53 {a : Act} {w : World} {x y : Operand} {u ty : TypeId} {m n : GSlot} (hx : a.eval x = .agg (GSlot.enc m).toArray) (hy : a.eval y = .agg (GSlot.enc n).toArray) : Rn Tryd.prog a w (.binOp .neq 53 x y u) ty (.bool (!decide (m = n))) :=
  rn_aneq 3 (by kernel_rfl) (fun w => eq_53 _ m n w) rfl hx hy
theorem bt_25 : BldT Tryd.prog 25 (.agg #[.slice none 0 0, .int .i64 0]) [(0, 1), (1, 1)] := ⟨_, Tryd.underlying25, Tryd.zeroValue25, fun _ => by kernel_rfl⟩
theorem bt_31 : BldT Tryd.prog 31 (.agg #[.int .i64 0, .int .i64 0]) [(0, 1), (1, 1)] := ⟨_, Tryd.underlying31, Tryd.zeroValue31, fun _ => by kernel_rfl⟩
theorem bt_53 : BldT Tryd.prog 53 (.agg #[.string k_empty, .int .i64 0, .int .i64 0, .int .i64 0]) [(0, 1), (1, 1), (2, 2)] := ⟨_, Tryd.underlying53, Tryd.zeroValue53, fun _ => by kernel_rfl⟩
theorem bt_60 : BldT Tryd.prog 60 (.agg #[.string k_empty, .int .i64 0, .int .i64 0, .int .i64 0, .int .i64 0]) [(0, 1), (1, 1), (2, 1), (3, 1), (4, 1)] := ⟨_, Tryd.underlying60, Tryd.zeroValue60, fun _ => by kernel_rfl⟩
end Go.Proofs.YtfejddpblajggaaDoor
