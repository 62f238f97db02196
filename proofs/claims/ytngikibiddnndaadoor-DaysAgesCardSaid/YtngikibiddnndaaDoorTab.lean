/- The program's tables, by program. -/
import Derived.Test.YtngikibiddnndaaDoorTw
import Derived.Test.YtngikibiddnndaaDoorLib
import Derived.Test.YtngikibiddnndaaDoorProg
namespace Go.Proofs.YtngikibiddnndaaDoor
open Go
def GDate.enc (x : GDate) : List Value := [.int .i64 x.Year, .int .i64 x.Month, .int .i64 x.Day]
theorem GDate.enc_ok : Enc 3 GDate.enc := ⟨fun _ => rfl, fun _ u h => by simp [GDate.enc] at h; rcases h with rfl | rfl | rfl <;> rfl⟩
def GSwimmer.enc (x : GSwimmer) : List Value := [.string x.Key, .int .i64 x.Sex, .int .i64 x.Born]
theorem GSwimmer.enc_ok : Enc 3 GSwimmer.enc := ⟨fun _ => rfl, fun _ u h => by simp [GSwimmer.enc] at h; rcases h with rfl | rfl | rfl <;> rfl⟩
theorem Tryd.mixed : Tryd.prog.follows .mixedOrders = true := by kernel_rfl
theorem sl_22 : SlT Tryd.prog 22 3 1 8 := slT_of (z := (.int .i64 0)) Tryd.underlying22 Tryd.sizeOf3 (by kernel_rfl) rfl
theorem sl_30 : SlT Tryd.prog 30 43 3 32 := slT_of (z := (.agg #[.string k_empty, .int .i64 0, .int .i64 0])) Tryd.underlying30 Tryd.sizeOf43 (by kernel_rfl) rfl
theorem sl_57 : SlT Tryd.prog 57 9 1 16 := slT_of (z := (.string k_empty)) Tryd.underlying57 Tryd.sizeOf9 (by kernel_rfl) rfl
theorem fa_25_0 : FldT Tryd.prog 25 0 0 := ⟨_, _, _, Tryd.underlying25, rfl, Tryd.sizeOf22, rfl, rfl⟩
theorem fa_25_1 : FldT Tryd.prog 25 1 1 := ⟨_, _, _, Tryd.underlying25, rfl, Tryd.sizeOf3, rfl, rfl⟩
theorem fa_28_0 : FldT Tryd.prog 28 0 0 := ⟨_, _, _, Tryd.underlying28, rfl, Tryd.sizeOf3, rfl, rfl⟩
theorem fa_28_1 : FldT Tryd.prog 28 1 1 := ⟨_, _, _, Tryd.underlying28, rfl, Tryd.sizeOf3, rfl, rfl⟩
theorem fa_28_2 : FldT Tryd.prog 28 2 2 := ⟨_, _, _, Tryd.underlying28, rfl, Tryd.sizeOf3, rfl, rfl⟩
theorem fa_43_0 : FldT Tryd.prog 43 0 0 := ⟨_, _, _, Tryd.underlying43, rfl, Tryd.sizeOf9, rfl, rfl⟩
theorem fa_43_1 : FldT Tryd.prog 43 1 1 := ⟨_, _, _, Tryd.underlying43, rfl, Tryd.sizeOf3, rfl, rfl⟩
theorem fa_43_2 : FldT Tryd.prog 43 2 2 := ⟨_, _, _, Tryd.underlying43, rfl, Tryd.sizeOf3, rfl, rfl⟩
theorem eq_28 (dd : Nat) (x y : GDate) (w : World) : (Op.equalIn (dd + 2) 28 (.agg (GDate.enc x).toArray) (.agg (GDate.enc y).toArray)).run Tryd.prog w = .ok (decide (x = y)) w := by
  refine eq_of_fields (dd := dd + 1) (fs := (Tryd.prog.fieldsOf 28).toList) (by kernel_rfl) rfl (by kernel_rfl) (?_ : _ = Result.ok (decide (x.Year = y.Year) && (decide (x.Month = y.Month) && (decide (x.Day = y.Day) && true))) w) (by cases x; cases y; simp [Bool.decide_and])
  simp only [Program.fieldsOf, Tryd.underlying28]
  exact (eqF_cons (by decide) (part_cell Tryd.isAgg3 rfl) (part_cell Tryd.isAgg3 rfl) (eq_cell_int Tryd.underlying3) (eqF_cons (by decide) (part_cell Tryd.isAgg3 rfl) (part_cell Tryd.isAgg3 rfl) (eq_cell_int Tryd.underlying3) (eqF_cons (by decide) (part_cell Tryd.isAgg3 rfl) (part_cell Tryd.isAgg3 rfl) (eq_cell_int Tryd.underlying3) eqF_nil)))
theorem rn_eql_28 {a : Act} {w : World} {x y : Operand} {u ty : TypeId} {m n : GDate} (hx : a.eval x = .agg (GDate.enc m).toArray) (hy : a.eval y = .agg (GDate.enc n).toArray) : Rn Tryd.prog a w (.binOp .eql 28 x y u) ty (.bool (decide (m = n))) :=
  rn_aeql 2 (by kernel_rfl) (fun w => eq_28 _ m n w) rfl hx hy
theorem rn_neq_28 {a : Act} {w : World} {x y : Operand} {u ty : TypeId} {m n : GDate} (hx : a.eval x = .agg (GDate.enc m).toArray) (hy : a.eval y = .agg (GDate.enc n).toArray) : Rn Tryd.prog a w (.binOp .neq 28 x y u) ty (.bool (!decide (m = n))) :=
  rn_aneq 2 (by kernel_rfl) (fun w => eq_28 _ m n w) rfl hx hy
theorem bt_25 : BldT Tryd.prog 25 (.agg #[.slice none 0 0, .int .i64 0]) [(0, 1), (1, 1)] := ⟨_, Tryd.underlying25, Tryd.zeroValue25, fun _ => by kernel_rfl⟩
theorem bt_28 : BldT Tryd.prog 28 (.agg #[.int .i64 0, .int .i64 0, .int .i64 0]) [(0, 1), (1, 1), (2, 1)] := ⟨_, Tryd.underlying28, Tryd.zeroValue28, fun _ => by kernel_rfl⟩
theorem bt_43 : BldT Tryd.prog 43 (.agg #[.string k_empty, .int .i64 0, .int .i64 0]) [(0, 1), (1, 1), (2, 1)] := ⟨_, Tryd.underlying43, Tryd.zeroValue43, fun _ => by kernel_rfl⟩
end Go.Proofs.YtngikibiddnndaaDoor
