/- The program's tables, by program. -/
import Derived.Test.YtmlmcmdccgcbmaaDoorTw
import Derived.Test.YtmlmcmdccgcbmaaDoorLib
import Derived.Test.YtmlmcmdccgcbmaaDoorProg
namespace Go.Proofs.YtmlmcmdccgcbmaaDoor
open Go
def GMove.enc (x : GMove) : List Value := [.string x.Who, .string x.Club, .int .i64 x.Day]
theorem GMove.enc_ok : Enc 3 GMove.enc := ⟨fun _ => rfl, fun _ u h => by simp [GMove.enc] at h; rcases h with rfl | rfl | rfl <;> rfl⟩
def GDate.enc (x : GDate) : List Value := [.int .i64 x.Year, .int .i64 x.Month, .int .i64 x.Day]
theorem GDate.enc_ok : Enc 3 GDate.enc := ⟨fun _ => rfl, fun _ u h => by simp [GDate.enc] at h; rcases h with rfl | rfl | rfl <;> rfl⟩
def GItem.enc (x : GItem) : List Value := [.string x.Key, .int .i64 x.Heats, .int .i64 x.Long, .int .i64 x.Gap, .int .i64 x.Break]
theorem GItem.enc_ok : Enc 5 GItem.enc := ⟨fun _ => rfl, fun _ u h => by simp [GItem.enc] at h; rcases h with rfl | rfl | rfl | rfl | rfl <;> rfl⟩
def GWindow.enc (x : GWindow) : List Value := [.int .i64 x.From, .int .i64 x.To]
theorem GWindow.enc_ok : Enc 2 GWindow.enc := ⟨fun _ => rfl, fun _ u h => by simp [GWindow.enc] at h; rcases h with rfl | rfl <;> rfl⟩
def GSlot.enc (x : GSlot) : List Value := [.string x.Item, .int .i64 x.Heat, .int .i64 x.Time.From, .int .i64 x.Time.To]
theorem GSlot.enc_ok : Enc 4 GSlot.enc := ⟨fun _ => rfl, fun _ u h => by simp [GSlot.enc] at h; rcases h with rfl | rfl | rfl | rfl <;> rfl⟩
def GBase.enc (x : GBase) : List Value := [.string x.Race, .int .i64 x.Time]
theorem GBase.enc_ok : Enc 2 GBase.enc := ⟨fun _ => rfl, fun _ u h => by simp [GBase.enc] at h; rcases h with rfl | rfl <;> rfl⟩
def GKind.enc (x : GKind) : List Value := [.string x.Key, .string x.Race, .slice none 0 0, .int .i64 x.Young, .int .i64 x.Old]
theorem GKind.enc_ok : Enc 5 GKind.enc := ⟨fun _ => rfl, fun _ u h => by simp [GKind.enc] at h; rcases h with rfl | rfl | rfl | rfl | rfl <;> rfl⟩
def GStep.enc (x : GStep) : List Value := [.int .i64 x.At, .int .i64 x.Kind, .string x.Id, .string x.Who, .string x.Club, .string x.Race, .int .i64 x.Age, .int .i64 x.Time]
theorem GStep.enc_ok : Enc 8 GStep.enc := ⟨fun _ => rfl, fun _ u h => by simp [GStep.enc] at h; rcases h with rfl | rfl | rfl | rfl | rfl | rfl | rfl | rfl <;> rfl⟩
theorem Tryd.mixed : Tryd.prog.follows .mixedOrders = true := by kernel_rfl
theorem sl_22 : SlT Tryd.prog 22 3 1 8 := slT_of (z := (.int .i64 0)) Tryd.underlying22 Tryd.sizeOf3 (by kernel_rfl) rfl
theorem sl_26 : SlT Tryd.prog 26 42 3 40 := slT_of (z := (.agg #[.string k_empty, .string k_empty, .int .i64 0])) Tryd.underlying26 Tryd.sizeOf42 (by kernel_rfl) rfl
theorem sl_29 : SlT Tryd.prog 29 9 1 16 := slT_of (z := (.string k_empty)) Tryd.underlying29 Tryd.sizeOf9 (by kernel_rfl) rfl
theorem sl_46 : SlT Tryd.prog 46 30 1 8 := slT_of (z := (.int .i64 0)) Tryd.underlying46 Tryd.sizeOf30 (by kernel_rfl) rfl
theorem sl_55 : SlT Tryd.prog 55 54 5 48 := slT_of (z := (.agg #[.string k_empty, .int .i64 0, .int .i64 0, .int .i64 0, .int .i64 0])) Tryd.underlying55 Tryd.sizeOf54 (by kernel_rfl) rfl
theorem sl_59 : SlT Tryd.prog 59 58 2 24 := slT_of (z := (.agg #[.string k_empty, .int .i64 0])) Tryd.underlying59 Tryd.sizeOf58 (by kernel_rfl) rfl
theorem sl_63 : SlT Tryd.prog 63 62 5 72 := slT_of (z := (.agg #[.string k_empty, .string k_empty, .slice none 0 0, .int .i64 0, .int .i64 0])) Tryd.underlying63 Tryd.sizeOf62 (by kernel_rfl) rfl
theorem sl_70 : SlT Tryd.prog 70 85 4 40 := slT_of (z := (.agg #[.string k_empty, .int .i64 0, .int .i64 0, .int .i64 0])) Tryd.underlying70 Tryd.sizeOf85 (by kernel_rfl) rfl
theorem fa_25_0 : FldT Tryd.prog 25 0 0 := ⟨_, _, _, Tryd.underlying25, rfl, Tryd.sizeOf22, rfl, rfl⟩
theorem fa_25_1 : FldT Tryd.prog 25 1 1 := ⟨_, _, _, Tryd.underlying25, rfl, Tryd.sizeOf3, rfl, rfl⟩
theorem fa_42_0 : FldT Tryd.prog 42 0 0 := ⟨_, _, _, Tryd.underlying42, rfl, Tryd.sizeOf9, rfl, rfl⟩
theorem fa_42_1 : FldT Tryd.prog 42 1 1 := ⟨_, _, _, Tryd.underlying42, rfl, Tryd.sizeOf9, rfl, rfl⟩
theorem fa_42_2 : FldT Tryd.prog 42 2 2 := ⟨_, _, _, Tryd.underlying42, rfl, Tryd.sizeOf3, rfl, rfl⟩
theorem fa_51_0 : FldT Tryd.prog 51 0 0 := ⟨_, _, _, Tryd.underlying51, rfl, Tryd.sizeOf3, rfl, rfl⟩
theorem fa_51_1 : FldT Tryd.prog 51 1 1 := ⟨_, _, _, Tryd.underlying51, rfl, Tryd.sizeOf3, rfl, rfl⟩
theorem fa_51_2 : FldT Tryd.prog 51 2 2 := ⟨_, _, _, Tryd.underlying51, rfl, Tryd.sizeOf3, rfl, rfl⟩
theorem fa_54_0 : FldT Tryd.prog 54 0 0 := ⟨_, _, _, Tryd.underlying54, rfl, Tryd.sizeOf9, rfl, rfl⟩
theorem fa_54_1 : FldT Tryd.prog 54 1 1 := ⟨_, _, _, Tryd.underlying54, rfl, Tryd.sizeOf3, rfl, rfl⟩
theorem fa_54_2 : FldT Tryd.prog 54 2 2 := ⟨_, _, _, Tryd.underlying54, rfl, Tryd.sizeOf3, rfl, rfl⟩
theorem fa_54_3 : FldT Tryd.prog 54 3 3 := ⟨_, _, _, Tryd.underlying54, rfl, Tryd.sizeOf3, rfl, rfl⟩
theorem fa_54_4 : FldT Tryd.prog 54 4 4 := ⟨_, _, _, Tryd.underlying54, rfl, Tryd.sizeOf3, rfl, rfl⟩
theorem fa_58_0 : FldT Tryd.prog 58 0 0 := ⟨_, _, _, Tryd.underlying58, rfl, Tryd.sizeOf9, rfl, rfl⟩
theorem fa_58_1 : FldT Tryd.prog 58 1 1 := ⟨_, _, _, Tryd.underlying58, rfl, Tryd.sizeOf3, rfl, rfl⟩
theorem fa_62_0 : FldT Tryd.prog 62 0 0 := ⟨_, _, _, Tryd.underlying62, rfl, Tryd.sizeOf9, rfl, rfl⟩
theorem fa_62_1 : FldT Tryd.prog 62 1 1 := ⟨_, _, _, Tryd.underlying62, rfl, Tryd.sizeOf9, rfl, rfl⟩
theorem fa_62_2 : FldT Tryd.prog 62 2 2 := ⟨_, _, _, Tryd.underlying62, rfl, Tryd.sizeOf29, rfl, rfl⟩
theorem fa_62_3 : FldT Tryd.prog 62 3 3 := ⟨_, _, _, Tryd.underlying62, rfl, Tryd.sizeOf3, rfl, rfl⟩
theorem fa_62_4 : FldT Tryd.prog 62 4 4 := ⟨_, _, _, Tryd.underlying62, rfl, Tryd.sizeOf3, rfl, rfl⟩
theorem fa_65_0 : FldT Tryd.prog 65 0 0 := ⟨_, _, _, Tryd.underlying65, rfl, Tryd.sizeOf3, rfl, rfl⟩
theorem fa_65_1 : FldT Tryd.prog 65 1 1 := ⟨_, _, _, Tryd.underlying65, rfl, Tryd.sizeOf3, rfl, rfl⟩
theorem fa_65_2 : FldT Tryd.prog 65 2 2 := ⟨_, _, _, Tryd.underlying65, rfl, Tryd.sizeOf9, rfl, rfl⟩
theorem fa_65_3 : FldT Tryd.prog 65 3 3 := ⟨_, _, _, Tryd.underlying65, rfl, Tryd.sizeOf9, rfl, rfl⟩
theorem fa_65_4 : FldT Tryd.prog 65 4 4 := ⟨_, _, _, Tryd.underlying65, rfl, Tryd.sizeOf9, rfl, rfl⟩
theorem fa_65_5 : FldT Tryd.prog 65 5 5 := ⟨_, _, _, Tryd.underlying65, rfl, Tryd.sizeOf9, rfl, rfl⟩
theorem fa_65_6 : FldT Tryd.prog 65 6 6 := ⟨_, _, _, Tryd.underlying65, rfl, Tryd.sizeOf3, rfl, rfl⟩
theorem fa_65_7 : FldT Tryd.prog 65 7 7 := ⟨_, _, _, Tryd.underlying65, rfl, Tryd.sizeOf3, rfl, rfl⟩
theorem fa_83_1 : FldT Tryd.prog 83 1 1 := ⟨_, _, _, Tryd.underlying83, rfl, Tryd.sizeOf3, rfl, rfl⟩
theorem fa_85_2 : FldT Tryd.prog 85 2 2 := ⟨_, _, _, Tryd.underlying85, rfl, Tryd.sizeOf83, rfl, rfl⟩
theorem eq_65 (dd : Nat) (x y : GStep) (w : World) : (Op.equalIn (dd + 2) 65 (.agg (GStep.enc x).toArray) (.agg (GStep.enc y).toArray)).run Tryd.prog w = .ok (decide (x = y)) w := by
  refine eq_of_fields (dd := dd + 1) (fs := (Tryd.prog.fieldsOf 65).toList) (by kernel_rfl) rfl (by kernel_rfl) (?_ : _ = Result.ok (decide (x.At = y.At) && (decide (x.Kind = y.Kind) && (decide (x.Id = y.Id) && (decide (x.Who = y.Who) && (decide (x.Club = y.Club) && (decide (x.Race = y.Race) && (decide (x.Age = y.Age) && (decide (x.Time = y.Time) && true)))))))) w) (by cases x; cases y; simp [Bool.decide_and])
  simp only [Program.fieldsOf, Tryd.underlying65]
  exact (eqF_cons (by decide) (part_cell Tryd.isAgg3 rfl) (part_cell Tryd.isAgg3 rfl) (eq_cell_int Tryd.underlying3) (eqF_cons (by decide) (part_cell Tryd.isAgg3 rfl) (part_cell Tryd.isAgg3 rfl) (eq_cell_int Tryd.underlying3) (eqF_cons (by decide) (part_cell Tryd.isAgg9 rfl) (part_cell Tryd.isAgg9 rfl) (eq_cell_str Tryd.underlying9) (eqF_cons (by decide) (part_cell Tryd.isAgg9 rfl) (part_cell Tryd.isAgg9 rfl) (eq_cell_str Tryd.underlying9) (eqF_cons (by decide) (part_cell Tryd.isAgg9 rfl) (part_cell Tryd.isAgg9 rfl) (eq_cell_str Tryd.underlying9) (eqF_cons (by decide) (part_cell Tryd.isAgg9 rfl) (part_cell Tryd.isAgg9 rfl) (eq_cell_str Tryd.underlying9) (eqF_cons (by decide) (part_cell Tryd.isAgg3 rfl) (part_cell Tryd.isAgg3 rfl) (eq_cell_int Tryd.underlying3) (eqF_cons (by decide) (part_cell Tryd.isAgg3 rfl) (part_cell Tryd.isAgg3 rfl) (eq_cell_int Tryd.underlying3) eqF_nil))))))))
theorem rn_eql_65 {a : Act} {w : World} {x y : Operand} {u ty : TypeId} {m n : GStep} (hx : a.eval x = .agg (GStep.enc m).toArray) (hy : a.eval y = .agg (GStep.enc n).toArray) : Rn Tryd.prog a w (.binOp .eql 65 x y u) ty (.bool (decide (m = n))) :=
  rn_aeql 2 (by kernel_rfl) (fun w => eq_65 _ m n w) rfl hx hy
theorem rn_neq_65 {a : Act} {w : World} {x y : Operand} {u ty : TypeId} {m n : GStep} (hx : a.eval x = .agg (GStep.enc m).toArray) (hy : a.eval y = .agg (GStep.enc n).toArray) : Rn Tryd.prog a w (.binOp .neq 65 x y u) ty (.bool (!decide (m = n))) :=
  rn_aneq 2 (by kernel_rfl) (fun w => eq_65 _ m n w) rfl hx hy
theorem bt_25 : BldT Tryd.prog 25 (.agg #[.slice none 0 0, .int .i64 0]) [(0, 1), (1, 1)] := ⟨_, Tryd.underlying25, Tryd.zeroValue25, fun _ => by kernel_rfl⟩
theorem bt_42 : BldT Tryd.prog 42 (.agg #[.string k_empty, .string k_empty, .int .i64 0]) [(0, 1), (1, 1), (2, 1)] := ⟨_, Tryd.underlying42, Tryd.zeroValue42, fun _ => by kernel_rfl⟩
theorem bt_51 : BldT Tryd.prog 51 (.agg #[.int .i64 0, .int .i64 0, .int .i64 0]) [(0, 1), (1, 1), (2, 1)] := ⟨_, Tryd.underlying51, Tryd.zeroValue51, fun _ => by kernel_rfl⟩
theorem bt_54 : BldT Tryd.prog 54 (.agg #[.string k_empty, .int .i64 0, .int .i64 0, .int .i64 0, .int .i64 0]) [(0, 1), (1, 1), (2, 1), (3, 1), (4, 1)] := ⟨_, Tryd.underlying54, Tryd.zeroValue54, fun _ => by kernel_rfl⟩
theorem bt_58 : BldT Tryd.prog 58 (.agg #[.string k_empty, .int .i64 0]) [(0, 1), (1, 1)] := ⟨_, Tryd.underlying58, Tryd.zeroValue58, fun _ => by kernel_rfl⟩
theorem bt_62 : BldT Tryd.prog 62 (.agg #[.string k_empty, .string k_empty, .slice none 0 0, .int .i64 0, .int .i64 0]) [(0, 1), (1, 1), (2, 1), (3, 1), (4, 1)] := ⟨_, Tryd.underlying62, Tryd.zeroValue62, fun _ => by kernel_rfl⟩
theorem bt_65 : BldT Tryd.prog 65 (.agg #[.int .i64 0, .int .i64 0, .string k_empty, .string k_empty, .string k_empty, .string k_empty, .int .i64 0, .int .i64 0]) [(0, 1), (1, 1), (2, 1), (3, 1), (4, 1), (5, 1), (6, 1), (7, 1)] := ⟨_, Tryd.underlying65, Tryd.zeroValue65, fun _ => by kernel_rfl⟩
theorem bt_83 : BldT Tryd.prog 83 (.agg #[.int .i64 0, .int .i64 0]) [(0, 1), (1, 1)] := ⟨_, Tryd.underlying83, Tryd.zeroValue83, fun _ => by kernel_rfl⟩
theorem bt_85 : BldT Tryd.prog 85 (.agg #[.string k_empty, .int .i64 0, .int .i64 0, .int .i64 0]) [(0, 1), (1, 1), (2, 2)] := ⟨_, Tryd.underlying85, Tryd.zeroValue85, fun _ => by kernel_rfl⟩
end Go.Proofs.YtmlmcmdccgcbmaaDoor
