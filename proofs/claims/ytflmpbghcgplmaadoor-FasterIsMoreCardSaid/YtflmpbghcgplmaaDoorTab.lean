/- The program's tables, by program. -/
import Derived.Test.YtflmpbghcgplmaaDoorTw
import Derived.Test.YtflmpbghcgplmaaDoorLib
import Derived.Test.YtflmpbghcgplmaaDoorProg
namespace Go.Proofs.YtflmpbghcgplmaaDoor
open Go
def GBase.enc (x : GBase) : List Value := [.string x.Race, .int .i64 x.Time]
theorem GBase.enc_ok : Enc 2 GBase.enc := ⟨fun _ => rfl, fun _ u h => by simp [GBase.enc] at h; rcases h with rfl | rfl <;> rfl⟩
def GDate.enc (x : GDate) : List Value := [.int .i64 x.Year, .int .i64 x.Month, .int .i64 x.Day]
theorem GDate.enc_ok : Enc 3 GDate.enc := ⟨fun _ => rfl, fun _ u h => by simp [GDate.enc] at h; rcases h with rfl | rfl | rfl <;> rfl⟩
def GItem.enc (x : GItem) : List Value := [.string x.Key, .int .i64 x.Heats, .int .i64 x.Long, .int .i64 x.Gap, .int .i64 x.Break]
theorem GItem.enc_ok : Enc 5 GItem.enc := ⟨fun _ => rfl, fun _ u h => by simp [GItem.enc] at h; rcases h with rfl | rfl | rfl | rfl | rfl <;> rfl⟩
def GWindow.enc (x : GWindow) : List Value := [.int .i64 x.From, .int .i64 x.To]
theorem GWindow.enc_ok : Enc 2 GWindow.enc := ⟨fun _ => rfl, fun _ u h => by simp [GWindow.enc] at h; rcases h with rfl | rfl <;> rfl⟩
def GSlot.enc (x : GSlot) : List Value := [.string x.Item, .int .i64 x.Heat, .int .i64 x.Time.From, .int .i64 x.Time.To]
theorem GSlot.enc_ok : Enc 4 GSlot.enc := ⟨fun _ => rfl, fun _ u h => by simp [GSlot.enc] at h; rcases h with rfl | rfl | rfl | rfl <;> rfl⟩
def GKind.enc (x : GKind) : List Value := [.string x.Key, .string x.Race, .slice none 0 0, .int .i64 x.Young, .int .i64 x.Old]
theorem GKind.enc_ok : Enc 5 GKind.enc := ⟨fun _ => rfl, fun _ u h => by simp [GKind.enc] at h; rcases h with rfl | rfl | rfl | rfl | rfl <;> rfl⟩
def GStep.enc (x : GStep) : List Value := [.int .i64 x.At, .int .i64 x.Kind, .string x.Id, .string x.Who, .string x.Club, .string x.Race, .int .i64 x.Age, .int .i64 x.Time]
theorem GStep.enc_ok : Enc 8 GStep.enc := ⟨fun _ => rfl, fun _ u h => by simp [GStep.enc] at h; rcases h with rfl | rfl | rfl | rfl | rfl | rfl | rfl | rfl <;> rfl⟩
theorem Tryd.mixed : Tryd.prog.follows .mixedOrders = true := by kernel_rfl
theorem sl_22 : SlT Tryd.prog 22 3 1 8 := slT_of (z := (.int .i64 0)) Tryd.underlying22 Tryd.sizeOf3 (by kernel_rfl) rfl
theorem sl_29 : SlT Tryd.prog 29 28 2 24 := slT_of (z := (.agg #[.string k_empty, .int .i64 0])) Tryd.underlying29 Tryd.sizeOf28 (by kernel_rfl) rfl
theorem sl_42 : SlT Tryd.prog 42 30 1 8 := slT_of (z := (.int .i64 0)) Tryd.underlying42 Tryd.sizeOf30 (by kernel_rfl) rfl
theorem sl_50 : SlT Tryd.prog 50 49 5 48 := slT_of (z := (.agg #[.string k_empty, .int .i64 0, .int .i64 0, .int .i64 0, .int .i64 0])) Tryd.underlying50 Tryd.sizeOf49 (by kernel_rfl) rfl
theorem sl_51 : SlT Tryd.prog 51 9 1 16 := slT_of (z := (.string k_empty)) Tryd.underlying51 Tryd.sizeOf9 (by kernel_rfl) rfl
theorem sl_56 : SlT Tryd.prog 56 55 5 72 := slT_of (z := (.agg #[.string k_empty, .string k_empty, .slice none 0 0, .int .i64 0, .int .i64 0])) Tryd.underlying56 Tryd.sizeOf55 (by kernel_rfl) rfl
theorem sl_64 : SlT Tryd.prog 64 80 4 40 := slT_of (z := (.agg #[.string k_empty, .int .i64 0, .int .i64 0, .int .i64 0])) Tryd.underlying64 Tryd.sizeOf80 (by kernel_rfl) rfl
theorem fa_25_0 : FldT Tryd.prog 25 0 0 := ⟨_, _, _, Tryd.underlying25, rfl, Tryd.sizeOf22, rfl, rfl⟩
theorem fa_25_1 : FldT Tryd.prog 25 1 1 := ⟨_, _, _, Tryd.underlying25, rfl, Tryd.sizeOf3, rfl, rfl⟩
theorem fa_28_0 : FldT Tryd.prog 28 0 0 := ⟨_, _, _, Tryd.underlying28, rfl, Tryd.sizeOf9, rfl, rfl⟩
theorem fa_28_1 : FldT Tryd.prog 28 1 1 := ⟨_, _, _, Tryd.underlying28, rfl, Tryd.sizeOf3, rfl, rfl⟩
theorem fa_46_0 : FldT Tryd.prog 46 0 0 := ⟨_, _, _, Tryd.underlying46, rfl, Tryd.sizeOf3, rfl, rfl⟩
theorem fa_46_1 : FldT Tryd.prog 46 1 1 := ⟨_, _, _, Tryd.underlying46, rfl, Tryd.sizeOf3, rfl, rfl⟩
theorem fa_46_2 : FldT Tryd.prog 46 2 2 := ⟨_, _, _, Tryd.underlying46, rfl, Tryd.sizeOf3, rfl, rfl⟩
theorem fa_49_0 : FldT Tryd.prog 49 0 0 := ⟨_, _, _, Tryd.underlying49, rfl, Tryd.sizeOf9, rfl, rfl⟩
theorem fa_49_1 : FldT Tryd.prog 49 1 1 := ⟨_, _, _, Tryd.underlying49, rfl, Tryd.sizeOf3, rfl, rfl⟩
theorem fa_49_2 : FldT Tryd.prog 49 2 2 := ⟨_, _, _, Tryd.underlying49, rfl, Tryd.sizeOf3, rfl, rfl⟩
theorem fa_49_3 : FldT Tryd.prog 49 3 3 := ⟨_, _, _, Tryd.underlying49, rfl, Tryd.sizeOf3, rfl, rfl⟩
theorem fa_49_4 : FldT Tryd.prog 49 4 4 := ⟨_, _, _, Tryd.underlying49, rfl, Tryd.sizeOf3, rfl, rfl⟩
theorem fa_55_0 : FldT Tryd.prog 55 0 0 := ⟨_, _, _, Tryd.underlying55, rfl, Tryd.sizeOf9, rfl, rfl⟩
theorem fa_55_1 : FldT Tryd.prog 55 1 1 := ⟨_, _, _, Tryd.underlying55, rfl, Tryd.sizeOf9, rfl, rfl⟩
theorem fa_55_2 : FldT Tryd.prog 55 2 2 := ⟨_, _, _, Tryd.underlying55, rfl, Tryd.sizeOf51, rfl, rfl⟩
theorem fa_55_3 : FldT Tryd.prog 55 3 3 := ⟨_, _, _, Tryd.underlying55, rfl, Tryd.sizeOf3, rfl, rfl⟩
theorem fa_55_4 : FldT Tryd.prog 55 4 4 := ⟨_, _, _, Tryd.underlying55, rfl, Tryd.sizeOf3, rfl, rfl⟩
theorem fa_58_0 : FldT Tryd.prog 58 0 0 := ⟨_, _, _, Tryd.underlying58, rfl, Tryd.sizeOf3, rfl, rfl⟩
theorem fa_58_1 : FldT Tryd.prog 58 1 1 := ⟨_, _, _, Tryd.underlying58, rfl, Tryd.sizeOf3, rfl, rfl⟩
theorem fa_58_2 : FldT Tryd.prog 58 2 2 := ⟨_, _, _, Tryd.underlying58, rfl, Tryd.sizeOf9, rfl, rfl⟩
theorem fa_58_3 : FldT Tryd.prog 58 3 3 := ⟨_, _, _, Tryd.underlying58, rfl, Tryd.sizeOf9, rfl, rfl⟩
theorem fa_58_4 : FldT Tryd.prog 58 4 4 := ⟨_, _, _, Tryd.underlying58, rfl, Tryd.sizeOf9, rfl, rfl⟩
theorem fa_58_5 : FldT Tryd.prog 58 5 5 := ⟨_, _, _, Tryd.underlying58, rfl, Tryd.sizeOf9, rfl, rfl⟩
theorem fa_58_6 : FldT Tryd.prog 58 6 6 := ⟨_, _, _, Tryd.underlying58, rfl, Tryd.sizeOf3, rfl, rfl⟩
theorem fa_58_7 : FldT Tryd.prog 58 7 7 := ⟨_, _, _, Tryd.underlying58, rfl, Tryd.sizeOf3, rfl, rfl⟩
theorem fa_78_1 : FldT Tryd.prog 78 1 1 := ⟨_, _, _, Tryd.underlying78, rfl, Tryd.sizeOf3, rfl, rfl⟩
theorem fa_80_2 : FldT Tryd.prog 80 2 2 := ⟨_, _, _, Tryd.underlying80, rfl, Tryd.sizeOf78, rfl, rfl⟩
theorem eq_58 (dd : Nat) (x y : GStep) (w : World) : (Op.equalIn (dd + 2) 58 (.agg (GStep.enc x).toArray) (.agg (GStep.enc y).toArray)).run Tryd.prog w = .ok (decide (x = y)) w := by
  refine eq_of_fields (dd := dd + 1) (fs := (Tryd.prog.fieldsOf 58).toList) (by kernel_rfl) rfl (by kernel_rfl) (?_ : _ = Result.ok (decide (x.At = y.At) && (decide (x.Kind = y.Kind) && (decide (x.Id = y.Id) && (decide (x.Who = y.Who) && (decide (x.Club = y.Club) && (decide (x.Race = y.Race) && (decide (x.Age = y.Age) && (decide (x.Time = y.Time) && true)))))))) w) (by cases x; cases y; simp [Bool.decide_and])
  simp only [Program.fieldsOf, Tryd.underlying58]
  exact (eqF_cons (by decide) (part_cell Tryd.isAgg3 rfl) (part_cell Tryd.isAgg3 rfl) (eq_cell_int Tryd.underlying3) (eqF_cons (by decide) (part_cell Tryd.isAgg3 rfl) (part_cell Tryd.isAgg3 rfl) (eq_cell_int Tryd.underlying3) (eqF_cons (by decide) (part_cell Tryd.isAgg9 rfl) (part_cell Tryd.isAgg9 rfl) (eq_cell_str Tryd.underlying9) (eqF_cons (by decide) (part_cell Tryd.isAgg9 rfl) (part_cell Tryd.isAgg9 rfl) (eq_cell_str Tryd.underlying9) (eqF_cons (by decide) (part_cell Tryd.isAgg9 rfl) (part_cell Tryd.isAgg9 rfl) (eq_cell_str Tryd.underlying9) (eqF_cons (by decide) (part_cell Tryd.isAgg9 rfl) (part_cell Tryd.isAgg9 rfl) (eq_cell_str Tryd.underlying9) (eqF_cons (by decide) (part_cell Tryd.isAgg3 rfl) (part_cell Tryd.isAgg3 rfl) (eq_cell_int Tryd.underlying3) (eqF_cons (by decide) (part_cell Tryd.isAgg3 rfl) (part_cell Tryd.isAgg3 rfl) (eq_cell_int Tryd.underlying3) eqF_nil))))))))
theorem rn_eql_58 {a : Act} {w : World} {x y : Operand} {u ty : TypeId} {m n : GStep} (hx : a.eval x = .agg (GStep.enc m).toArray) (hy : a.eval y = .agg (GStep.enc n).toArray) : Rn Tryd.prog a w (.binOp .eql 58 x y u) ty (.bool (decide (m = n))) :=
  rn_aeql 2 (by kernel_rfl) (fun w => eq_58 _ m n w) rfl hx hy
theorem rn_neq_58 {a : Act} {w : World} {x y : Operand} {u ty : TypeId} {m n : GStep} (hx : a.eval x = .agg (GStep.enc m).toArray) (hy : a.eval y = .agg (GStep.enc n).toArray) : Rn Tryd.prog a w (.binOp .neq 58 x y u) ty (.bool (!decide (m = n))) :=
  rn_aneq 2 (by kernel_rfl) (fun w => eq_58 _ m n w) rfl hx hy
theorem bt_25 : BldT Tryd.prog 25 (.agg #[.slice none 0 0, .int .i64 0]) [(0, 1), (1, 1)] := ⟨_, Tryd.underlying25, Tryd.zeroValue25, fun _ => by kernel_rfl⟩
theorem bt_28 : BldT Tryd.prog 28 (.agg #[.string k_empty, .int .i64 0]) [(0, 1), (1, 1)] := ⟨_, Tryd.underlying28, Tryd.zeroValue28, fun _ => by kernel_rfl⟩
theorem bt_46 : BldT Tryd.prog 46 (.agg #[.int .i64 0, .int .i64 0, .int .i64 0]) [(0, 1), (1, 1), (2, 1)] := ⟨_, Tryd.underlying46, Tryd.zeroValue46, fun _ => by kernel_rfl⟩
theorem bt_49 : BldT Tryd.prog 49 (.agg #[.string k_empty, .int .i64 0, .int .i64 0, .int .i64 0, .int .i64 0]) [(0, 1), (1, 1), (2, 1), (3, 1), (4, 1)] := ⟨_, Tryd.underlying49, Tryd.zeroValue49, fun _ => by kernel_rfl⟩
theorem bt_55 : BldT Tryd.prog 55 (.agg #[.string k_empty, .string k_empty, .slice none 0 0, .int .i64 0, .int .i64 0]) [(0, 1), (1, 1), (2, 1), (3, 1), (4, 1)] := ⟨_, Tryd.underlying55, Tryd.zeroValue55, fun _ => by kernel_rfl⟩
theorem bt_58 : BldT Tryd.prog 58 (.agg #[.int .i64 0, .int .i64 0, .string k_empty, .string k_empty, .string k_empty, .string k_empty, .int .i64 0, .int .i64 0]) [(0, 1), (1, 1), (2, 1), (3, 1), (4, 1), (5, 1), (6, 1), (7, 1)] := ⟨_, Tryd.underlying58, Tryd.zeroValue58, fun _ => by kernel_rfl⟩
theorem bt_78 : BldT Tryd.prog 78 (.agg #[.int .i64 0, .int .i64 0]) [(0, 1), (1, 1)] := ⟨_, Tryd.underlying78, Tryd.zeroValue78, fun _ => by kernel_rfl⟩
theorem bt_80 : BldT Tryd.prog 80 (.agg #[.string k_empty, .int .i64 0, .int .i64 0, .int .i64 0]) [(0, 1), (1, 1), (2, 2)] := ⟨_, Tryd.underlying80, Tryd.zeroValue80, fun _ => by kernel_rfl⟩
end Go.Proofs.YtflmpbghcgplmaaDoor
