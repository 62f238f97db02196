/- The program's tables, by program. -/
import Derived.Test.YtfajklagapggoaaDoorTw
import Derived.Test.YtfajklagapggoaaDoorOwn
import Derived.Test.YtfajklagapggoaaDoorProg
namespace Go.Proofs.YtfajklagapggoaaDoor
open Go
def GMark.enc (x : GMark) : List Value := [.string x.Who, .string x.Race, .int .i64 x.Day, .int .i64 x.Time]
theorem GMark.enc_ok : Enc 4 GMark.enc := ⟨fun _ => rfl, fun _ u h => by simp [GMark.enc] at h; rcases h with rfl | rfl | rfl | rfl <;> rfl⟩
def GStandard.enc (x : GStandard) : List Value := [.string x.Race, .int .i64 x.Time, .int .i64 x.From, .int .i64 x.To]
theorem GStandard.enc_ok : Enc 4 GStandard.enc := ⟨fun _ => rfl, fun _ u h => by simp [GStandard.enc] at h; rcases h with rfl | rfl | rfl | rfl <;> rfl⟩
def GDate.enc (x : GDate) : List Value := [.int .i64 x.Year, .int .i64 x.Month, .int .i64 x.Day]
theorem GDate.enc_ok : Enc 3 GDate.enc := ⟨fun _ => rfl, fun _ u h => by simp [GDate.enc] at h; rcases h with rfl | rfl | rfl <;> rfl⟩
theorem Tryd.mixed : Tryd.prog.follows .mixedOrders = true := by kernel_rfl
theorem sl_22 : SlT Tryd.prog 22 3 1 8 := slT_of (z := (.int .i64 0)) Tryd.underlying22 Tryd.sizeOf3 (by kernel_rfl) rfl
theorem sl_26 : SlT Tryd.prog 26 34 4 48 := slT_of (z := (.agg #[.string k_empty, .string k_empty, .int .i64 0, .int .i64 0])) Tryd.underlying26 Tryd.sizeOf34 (by kernel_rfl) rfl
theorem sl_29 : SlT Tryd.prog 29 54 4 40 := slT_of (z := (.agg #[.string k_empty, .int .i64 0, .int .i64 0, .int .i64 0])) Tryd.underlying29 Tryd.sizeOf54 (by kernel_rfl) rfl
theorem sl_52 : SlT Tryd.prog 52 9 1 16 := slT_of (z := (.string k_empty)) Tryd.underlying52 Tryd.sizeOf9 (by kernel_rfl) rfl
theorem sl_57 : SlT Tryd.prog 57 35 1 8 := slT_of (z := (.int .i64 0)) Tryd.underlying57 Tryd.sizeOf35 (by kernel_rfl) rfl
theorem fa_25_0 : FldT Tryd.prog 25 0 0 := ⟨_, _, _, Tryd.underlying25, rfl, Tryd.sizeOf22, rfl, rfl⟩
theorem fa_25_1 : FldT Tryd.prog 25 1 1 := ⟨_, _, _, Tryd.underlying25, rfl, Tryd.sizeOf3, rfl, rfl⟩
theorem fa_34_0 : FldT Tryd.prog 34 0 0 := ⟨_, _, _, Tryd.underlying34, rfl, Tryd.sizeOf9, rfl, rfl⟩
theorem fa_34_1 : FldT Tryd.prog 34 1 1 := ⟨_, _, _, Tryd.underlying34, rfl, Tryd.sizeOf9, rfl, rfl⟩
theorem fa_34_2 : FldT Tryd.prog 34 2 2 := ⟨_, _, _, Tryd.underlying34, rfl, Tryd.sizeOf3, rfl, rfl⟩
theorem fa_34_3 : FldT Tryd.prog 34 3 3 := ⟨_, _, _, Tryd.underlying34, rfl, Tryd.sizeOf3, rfl, rfl⟩
theorem fa_54_0 : FldT Tryd.prog 54 0 0 := ⟨_, _, _, Tryd.underlying54, rfl, Tryd.sizeOf9, rfl, rfl⟩
theorem fa_54_1 : FldT Tryd.prog 54 1 1 := ⟨_, _, _, Tryd.underlying54, rfl, Tryd.sizeOf3, rfl, rfl⟩
theorem fa_54_2 : FldT Tryd.prog 54 2 2 := ⟨_, _, _, Tryd.underlying54, rfl, Tryd.sizeOf3, rfl, rfl⟩
theorem fa_54_3 : FldT Tryd.prog 54 3 3 := ⟨_, _, _, Tryd.underlying54, rfl, Tryd.sizeOf3, rfl, rfl⟩
theorem fa_67_0 : FldT Tryd.prog 67 0 0 := ⟨_, _, _, Tryd.underlying67, rfl, Tryd.sizeOf3, rfl, rfl⟩
theorem fa_67_1 : FldT Tryd.prog 67 1 1 := ⟨_, _, _, Tryd.underlying67, rfl, Tryd.sizeOf3, rfl, rfl⟩
theorem fa_67_2 : FldT Tryd.prog 67 2 2 := ⟨_, _, _, Tryd.underlying67, rfl, Tryd.sizeOf3, rfl, rfl⟩
theorem eq_34 (dd : Nat) (x y : GMark) (w : World) : (Op.equalIn (dd + 2) 34 (.agg (GMark.enc x).toArray) (.agg (GMark.enc y).toArray)).run Tryd.prog w = .ok (decide (x = y)) w := by
  refine eq_of_fields (dd := dd + 1) (fs := (Tryd.prog.fieldsOf 34).toList) (by kernel_rfl) rfl (by kernel_rfl) (?_ : _ = Result.ok (decide (x.Who = y.Who) && (decide (x.Race = y.Race) && (decide (x.Day = y.Day) && (decide (x.Time = y.Time) && true)))) w) (by cases x; cases y; simp [Bool.decide_and])
  simp only [Program.fieldsOf, Tryd.underlying34]
  exact (eqF_cons (by decide) (part_cell Tryd.isAgg9 rfl) (part_cell Tryd.isAgg9 rfl) (eq_cell_str Tryd.underlying9) (eqF_cons (by decide) (part_cell Tryd.isAgg9 rfl) (part_cell Tryd.isAgg9 rfl) (eq_cell_str Tryd.underlying9) (eqF_cons (by decide) (part_cell Tryd.isAgg3 rfl) (part_cell Tryd.isAgg3 rfl) (eq_cell_int Tryd.underlying3) (eqF_cons (by decide) (part_cell Tryd.isAgg3 rfl) (part_cell Tryd.isAgg3 rfl) (eq_cell_int Tryd.underlying3) eqF_nil))))
theorem rn_eql_34 {a : Act} {w : World} {x y : Operand} {u ty : TypeId} {m n : GMark} (hx : a.eval x = .agg (GMark.enc m).toArray) (hy : a.eval y = .agg (GMark.enc n).toArray) : Rn Tryd.prog a w (.binOp .eql 34 x y u) ty (.bool (decide (m = n))) :=
  rn_aeql 2 (by kernel_rfl) (fun w => eq_34 _ m n w) rfl hx hy
theorem rn_neq_34 {a : Act} {w : World} {x y : Operand} {u ty : TypeId} {m n : GMark} (hx : a.eval x = .agg (GMark.enc m).toArray) (hy : a.eval y = .agg (GMark.enc n).toArray) : Rn Tryd.prog a w (.binOp .neq 34 x y u) ty (.bool (!decide (m = n))) :=
  rn_aneq 2 (by kernel_rfl) (fun w => eq_34 _ m n w) rfl hx hy
theorem bt_25 : BldT Tryd.prog 25 (.agg #[.slice none 0 0, .int .i64 0]) [(0, 1), (1, 1)] := ⟨_, Tryd.underlying25, Tryd.zeroValue25, fun _ => by kernel_rfl⟩
theorem bt_34 : BldT Tryd.prog 34 (.agg #[.string k_empty, .string k_empty, .int .i64 0, .int .i64 0]) [(0, 1), (1, 1), (2, 1), (3, 1)] := ⟨_, Tryd.underlying34, Tryd.zeroValue34, fun _ => by kernel_rfl⟩
theorem bt_54 : BldT Tryd.prog 54 (.agg #[.string k_empty, .int .i64 0, .int .i64 0, .int .i64 0]) [(0, 1), (1, 1), (2, 1), (3, 1)] := ⟨_, Tryd.underlying54, Tryd.zeroValue54, fun _ => by kernel_rfl⟩
theorem bt_67 : BldT Tryd.prog 67 (.agg #[.int .i64 0, .int .i64 0, .int .i64 0]) [(0, 1), (1, 1), (2, 1)] := ⟨_, Tryd.underlying67, Tryd.zeroValue67, fun _ => by kernel_rfl⟩
end Go.Proofs.YtfajklagapggoaaDoor
