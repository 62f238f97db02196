/- The program's tables, by program. -/
import Derived.Test.YtbpakaifdbeapaaDoorTw
import Derived.Test.YtbpakaifdbeapaaDoorLib
import Derived.Test.YtbpakaifdbeapaaDoorProg
namespace Go.Proofs.YtbpakaifdbeapaaDoor
open Go
def GDate.enc (x : GDate) : List Value := [.int .i64 x.Year, .int .i64 x.Month, .int .i64 x.Day]
theorem GDate.enc_ok : Enc 3 GDate.enc := ⟨fun _ => rfl, fun _ u h => by simp [GDate.enc] at h; rcases h with rfl | rfl | rfl <;> rfl⟩
def GItem.enc (x : GItem) : List Value := [.string x.Key, .int .i64 x.Heats, .int .i64 x.Long, .int .i64 x.Gap, .int .i64 x.Break]
theorem GItem.enc_ok : Enc 5 GItem.enc := ⟨fun _ => rfl, fun _ u h => by simp [GItem.enc] at h; rcases h with rfl | rfl | rfl | rfl | rfl <;> rfl⟩
def GWindow.enc (x : GWindow) : List Value := [.int .i64 x.From, .int .i64 x.To]
theorem GWindow.enc_ok : Enc 2 GWindow.enc := ⟨fun _ => rfl, fun _ u h => by simp [GWindow.enc] at h; rcases h with rfl | rfl <;> rfl⟩
def GSlot.enc (x : GSlot) : List Value := [.string x.Item, .int .i64 x.Heat, .int .i64 x.Time.From, .int .i64 x.Time.To]
theorem GSlot.enc_ok : Enc 4 GSlot.enc := ⟨fun _ => rfl, fun _ u h => by simp [GSlot.enc] at h; rcases h with rfl | rfl | rfl | rfl <;> rfl⟩
def GBase.enc (x : GBase) : List Value := [.string x.Race, .int .i64 x.Time]
theorem GBase.enc_ok : Enc 2 GBase.enc := ⟨fun _ => rfl, fun _ u h => by simp [GBase.enc] at h; rcases h with rfl | rfl <;> rfl⟩
def GKind.enc (x : GKind) : List Value := [.string x.Key, .string x.Race, .slice none 0 0, .int .i64 x.Young, .int .i64 x.Old]
theorem GKind.enc_ok : Enc 5 GKind.enc := ⟨fun _ => rfl, fun _ u h => by simp [GKind.enc] at h; rcases h with rfl | rfl | rfl | rfl | rfl <;> rfl⟩
def GStep.enc (x : GStep) : List Value := [.int .i64 x.At, .int .i64 x.Kind, .string x.Id, .string x.Who, .string x.Club, .string x.Race, .int .i64 x.Age, .int .i64 x.Time]
theorem GStep.enc_ok : Enc 8 GStep.enc := ⟨fun _ => rfl, fun _ u h => by simp [GStep.enc] at h; rcases h with rfl | rfl | rfl | rfl | rfl | rfl | rfl | rfl <;> rfl⟩
theorem Tryd.mixed : Tryd.prog.follows .mixedOrders = true := by kernel_rfl
theorem sl_22 : SlT Tryd.prog 22 3 1 8 := slT_of (z := (.int .i64 0)) Tryd.underlying22 Tryd.sizeOf3 (by kernel_rfl) rfl
theorem sl_41 : SlT Tryd.prog 41 29 1 8 := slT_of (z := (.int .i64 0)) Tryd.underlying41 Tryd.sizeOf29 (by kernel_rfl) rfl
theorem sl_45 : SlT Tryd.prog 45 44 5 48 := slT_of (z := (.agg #[.string k_empty, .int .i64 0, .int .i64 0, .int .i64 0, .int .i64 0])) Tryd.underlying45 Tryd.sizeOf44 (by kernel_rfl) rfl
theorem sl_49 : SlT Tryd.prog 49 48 2 24 := slT_of (z := (.agg #[.string k_empty, .int .i64 0])) Tryd.underlying49 Tryd.sizeOf48 (by kernel_rfl) rfl
theorem sl_50 : SlT Tryd.prog 50 9 1 16 := slT_of (z := (.string k_empty)) Tryd.underlying50 Tryd.sizeOf9 (by kernel_rfl) rfl
theorem sl_55 : SlT Tryd.prog 55 54 5 72 := slT_of (z := (.agg #[.string k_empty, .string k_empty, .slice none 0 0, .int .i64 0, .int .i64 0])) Tryd.underlying55 Tryd.sizeOf54 (by kernel_rfl) rfl
theorem sl_58 : SlT Tryd.prog 58 71 4 40 := slT_of (z := (.agg #[.string k_empty, .int .i64 0, .int .i64 0, .int .i64 0])) Tryd.underlying58 Tryd.sizeOf71 (by kernel_rfl) rfl
theorem fa_25_0 : FldT Tryd.prog 25 0 0 := ⟨_, _, _, Tryd.underlying25, rfl, Tryd.sizeOf22, rfl, rfl⟩
theorem fa_25_1 : FldT Tryd.prog 25 1 1 := ⟨_, _, _, Tryd.underlying25, rfl, Tryd.sizeOf3, rfl, rfl⟩
theorem fa_28_0 : FldT Tryd.prog 28 0 0 := ⟨_, _, _, Tryd.underlying28, rfl, Tryd.sizeOf3, rfl, rfl⟩
theorem fa_28_1 : FldT Tryd.prog 28 1 1 := ⟨_, _, _, Tryd.underlying28, rfl, Tryd.sizeOf3, rfl, rfl⟩
theorem fa_28_2 : FldT Tryd.prog 28 2 2 := ⟨_, _, _, Tryd.underlying28, rfl, Tryd.sizeOf3, rfl, rfl⟩
theorem fa_44_0 : FldT Tryd.prog 44 0 0 := ⟨_, _, _, Tryd.underlying44, rfl, Tryd.sizeOf9, rfl, rfl⟩
theorem fa_44_1 : FldT Tryd.prog 44 1 1 := ⟨_, _, _, Tryd.underlying44, rfl, Tryd.sizeOf3, rfl, rfl⟩
theorem fa_44_2 : FldT Tryd.prog 44 2 2 := ⟨_, _, _, Tryd.underlying44, rfl, Tryd.sizeOf3, rfl, rfl⟩
theorem fa_44_3 : FldT Tryd.prog 44 3 3 := ⟨_, _, _, Tryd.underlying44, rfl, Tryd.sizeOf3, rfl, rfl⟩
theorem fa_44_4 : FldT Tryd.prog 44 4 4 := ⟨_, _, _, Tryd.underlying44, rfl, Tryd.sizeOf3, rfl, rfl⟩
theorem fa_48_0 : FldT Tryd.prog 48 0 0 := ⟨_, _, _, Tryd.underlying48, rfl, Tryd.sizeOf9, rfl, rfl⟩
theorem fa_48_1 : FldT Tryd.prog 48 1 1 := ⟨_, _, _, Tryd.underlying48, rfl, Tryd.sizeOf3, rfl, rfl⟩
theorem fa_54_0 : FldT Tryd.prog 54 0 0 := ⟨_, _, _, Tryd.underlying54, rfl, Tryd.sizeOf9, rfl, rfl⟩
theorem fa_54_1 : FldT Tryd.prog 54 1 1 := ⟨_, _, _, Tryd.underlying54, rfl, Tryd.sizeOf9, rfl, rfl⟩
theorem fa_54_2 : FldT Tryd.prog 54 2 2 := ⟨_, _, _, Tryd.underlying54, rfl, Tryd.sizeOf50, rfl, rfl⟩
theorem fa_54_3 : FldT Tryd.prog 54 3 3 := ⟨_, _, _, Tryd.underlying54, rfl, Tryd.sizeOf3, rfl, rfl⟩
theorem fa_54_4 : FldT Tryd.prog 54 4 4 := ⟨_, _, _, Tryd.underlying54, rfl, Tryd.sizeOf3, rfl, rfl⟩
theorem fa_57_0 : FldT Tryd.prog 57 0 0 := ⟨_, _, _, Tryd.underlying57, rfl, Tryd.sizeOf3, rfl, rfl⟩
theorem fa_57_1 : FldT Tryd.prog 57 1 1 := ⟨_, _, _, Tryd.underlying57, rfl, Tryd.sizeOf3, rfl, rfl⟩
theorem fa_57_2 : FldT Tryd.prog 57 2 2 := ⟨_, _, _, Tryd.underlying57, rfl, Tryd.sizeOf9, rfl, rfl⟩
theorem fa_57_3 : FldT Tryd.prog 57 3 3 := ⟨_, _, _, Tryd.underlying57, rfl, Tryd.sizeOf9, rfl, rfl⟩
theorem fa_57_4 : FldT Tryd.prog 57 4 4 := ⟨_, _, _, Tryd.underlying57, rfl, Tryd.sizeOf9, rfl, rfl⟩
theorem fa_57_5 : FldT Tryd.prog 57 5 5 := ⟨_, _, _, Tryd.underlying57, rfl, Tryd.sizeOf9, rfl, rfl⟩
theorem fa_57_6 : FldT Tryd.prog 57 6 6 := ⟨_, _, _, Tryd.underlying57, rfl, Tryd.sizeOf3, rfl, rfl⟩
theorem fa_57_7 : FldT Tryd.prog 57 7 7 := ⟨_, _, _, Tryd.underlying57, rfl, Tryd.sizeOf3, rfl, rfl⟩
theorem fa_69_1 : FldT Tryd.prog 69 1 1 := ⟨_, _, _, Tryd.underlying69, rfl, Tryd.sizeOf3, rfl, rfl⟩
theorem fa_71_2 : FldT Tryd.prog 71 2 2 := ⟨_, _, _, Tryd.underlying71, rfl, Tryd.sizeOf69, rfl, rfl⟩
theorem eq_57 (dd : Nat) (x y : GStep) (w : World) : (Op.equalIn (dd + 2) 57 (.agg (GStep.enc x).toArray) (.agg (GStep.enc y).toArray)).run Tryd.prog w = .ok (decide (x = y)) w := by
  refine eq_of_fields (dd := dd + 1) (fs := (Tryd.prog.fieldsOf 57).toList) (by kernel_rfl) rfl (by kernel_rfl) (?_ : _ = Result.ok (decide (x.At = y.At) && (decide (x.Kind = y.Kind) && (decide (x.Id = y.Id) && (decide (x.Who = y.Who) && (decide (x.Club = y.Club) && (decide (x.Race = y.Race) && (decide (x.Age = y.Age) && (decide (x.Time = y.Time) && true)))))))) w) (by cases x; cases y; simp [Bool.decide_and])
  simp only [Program.fieldsOf, Tryd.underlying57]
  exact (eqF_cons (by decide) (part_cell Tryd.isAgg3 rfl) (part_cell Tryd.isAgg3 rfl) (eq_cell_int Tryd.underlying3) (eqF_cons (by decide) (part_cell Tryd.isAgg3 rfl) (part_cell Tryd.isAgg3 rfl) (eq_cell_int Tryd.underlying3) (eqF_cons (by decide) (part_cell Tryd.isAgg9 rfl) (part_cell Tryd.isAgg9 rfl) (eq_cell_str Tryd.underlying9) (eqF_cons (by decide) (part_cell Tryd.isAgg9 rfl) (part_cell Tryd.isAgg9 rfl) (eq_cell_str Tryd.underlying9) (eqF_cons (by decide) (part_cell Tryd.isAgg9 rfl) (part_cell Tryd.isAgg9 rfl) (eq_cell_str Tryd.underlying9) (eqF_cons (by decide) (part_cell Tryd.isAgg9 rfl) (part_cell Tryd.isAgg9 rfl) (eq_cell_str Tryd.underlying9) (eqF_cons (by decide) (part_cell Tryd.isAgg3 rfl) (part_cell Tryd.isAgg3 rfl) (eq_cell_int Tryd.underlying3) (eqF_cons (by decide) (part_cell Tryd.isAgg3 rfl) (part_cell Tryd.isAgg3 rfl) (eq_cell_int Tryd.underlying3) eqF_nil))))))))
theorem rn_eql_57 {a : Act} {w : World} {x y : Operand} {u ty : TypeId} {m n : GStep} (hx : a.eval x = .agg (GStep.enc m).toArray) (hy : a.eval y = .agg (GStep.enc n).toArray) : Rn Tryd.prog a w (.binOp .eql 57 x y u) ty (.bool (decide (m = n))) :=
  rn_aeql 2 (by kernel_rfl) (fun w => eq_57 _ m n w) rfl hx hy
theorem rn_neq_57 {a : Act} {w : World} {x y : Operand} {u ty : TypeId} {m n : GStep} (hx : a.eval x = .agg (GStep.enc m).toArray) (hy : a.eval y = .agg (GStep.enc n).toArray) : Rn Tryd.prog a w (.binOp .neq 57 x y u) ty (.bool (!decide (m = n))) :=
  rn_aneq 2 (by kernel_rfl) (fun w => eq_57 _ m n w) rfl hx hy
theorem bt_25 : BldT Tryd.prog 25 (.agg #[.slice none 0 0, .int .i64 0]) [(0, 1), (1, 1)] := ⟨_, Tryd.underlying25, Tryd.zeroValue25, fun _ => by kernel_rfl⟩
theorem bt_28 : BldT Tryd.prog 28 (.agg #[.int .i64 0, .int .i64 0, .int .i64 0]) [(0, 1), (1, 1), (2, 1)] := ⟨_, Tryd.underlying28, Tryd.zeroValue28, fun _ => by kernel_rfl⟩
theorem bt_44 : BldT Tryd.prog 44 (.agg #[.string k_empty, .int .i64 0, .int .i64 0, .int .i64 0, .int .i64 0]) [(0, 1), (1, 1), (2, 1), (3, 1), (4, 1)] := ⟨_, Tryd.underlying44, Tryd.zeroValue44, fun _ => by kernel_rfl⟩
theorem bt_48 : BldT Tryd.prog 48 (.agg #[.string k_empty, .int .i64 0]) [(0, 1), (1, 1)] := ⟨_, Tryd.underlying48, Tryd.zeroValue48, fun _ => by kernel_rfl⟩
theorem bt_54 : BldT Tryd.prog 54 (.agg #[.string k_empty, .string k_empty, .slice none 0 0, .int .i64 0, .int .i64 0]) [(0, 1), (1, 1), (2, 1), (3, 1), (4, 1)] := ⟨_, Tryd.underlying54, Tryd.zeroValue54, fun _ => by kernel_rfl⟩
theorem bt_57 : BldT Tryd.prog 57 (.agg #[.int .i64 0, .int .i64 0, .string k_empty, .string k_empty, .string k_empty, .string k_empty, .int .i64 0, .int .i64 0]) [(0, 1), (1, 1), (2, 1), (3, 1), (4, 1), (5, 1), (6, 1), (7, 1)] := ⟨_, Tryd.underlying57, Tryd.zeroValue57, fun _ => by kernel_rfl⟩
theorem bt_69 : BldT Tryd.prog 69 (.agg #[.int .i64 0, .int .i64 0]) [(0, 1), (1, 1)] := ⟨_, Tryd.underlying69, Tryd.zeroValue69, fun _ => by kernel_rfl⟩
theorem bt_71 : BldT Tryd.prog 71 (.agg #[.string k_empty, .int .i64 0, .int .i64 0, .int .i64 0]) [(0, 1), (1, 1), (2, 2)] := ⟨_, Tryd.underlying71, Tryd.zeroValue71, fun _ => by kernel_rfl⟩
end Go.Proofs.YtbpakaifdbeapaaDoor
