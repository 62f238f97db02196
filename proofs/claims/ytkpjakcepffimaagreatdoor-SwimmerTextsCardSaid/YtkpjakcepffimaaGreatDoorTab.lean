/- The program's tables, by program. -/
import Derived.Test.YtkpjakcepffimaaGreatDoorTw
import Derived.Test.YtkpjakcepffimaaGreatDoorArena
import Derived.Test.YtkpjakcepffimaaGreatDoorProg
namespace Go.Proofs.YtkpjakcepffimaaGreatDoor
open Go
def GSwimmer.enc (x : GSwimmer) : List Value := [sV x.Key, iV x.Sex, iV x.Born]
theorem GSwimmer.enc_ok : Enc 3 GSwimmer.enc := ⟨fun _ => rfl, fun _ u h => by simp [GSwimmer.enc] at h; rcases h with rfl | rfl | rfl <;> rfl⟩
def GDate.enc (x : GDate) : List Value := [iV x.Year, iV x.Month, iV x.Day]
theorem GDate.enc_ok : Enc 3 GDate.enc := ⟨fun _ => rfl, fun _ u h => by simp [GDate.enc] at h; rcases h with rfl | rfl | rfl <;> rfl⟩

theorem Tryz.mixed : Tryz.prog.follows .mixedOrders = true := by kernel_rfl
theorem sl_22 : SlT Tryz.prog 22 3 1 8 := slT_of (z := (iV 0)) Tryz.underlying22 Tryz.sizeOf3 (by kernel_rfl) rfl
theorem sl_26 : SlT Tryz.prog 26 38 3 32 := slT_of (z := (.agg #[sV k_empty, iV 0, iV 0])) Tryz.underlying26 Tryz.sizeOf38 (by kernel_rfl) rfl
theorem sl_65 : SlT Tryz.prog 65 9 1 16 := slT_of (z := (sV k_empty)) Tryz.underlying65 Tryz.sizeOf9 (by kernel_rfl) rfl
theorem fa_25_0 : FldT Tryz.prog 25 0 0 := ⟨_, _, _, Tryz.underlying25, rfl, Tryz.sizeOf22, rfl, rfl⟩
theorem fa_25_1 : FldT Tryz.prog 25 1 1 := ⟨_, _, _, Tryz.underlying25, rfl, Tryz.sizeOf3, rfl, rfl⟩
theorem fa_38_0 : FldT Tryz.prog 38 0 0 := ⟨_, _, _, Tryz.underlying38, rfl, Tryz.sizeOf9, rfl, rfl⟩
theorem fa_38_1 : FldT Tryz.prog 38 1 1 := ⟨_, _, _, Tryz.underlying38, rfl, Tryz.sizeOf3, rfl, rfl⟩
theorem fa_38_2 : FldT Tryz.prog 38 2 2 := ⟨_, _, _, Tryz.underlying38, rfl, Tryz.sizeOf3, rfl, rfl⟩
theorem fa_53_0 : FldT Tryz.prog 53 0 0 := ⟨_, _, _, Tryz.underlying53, rfl, Tryz.sizeOf3, rfl, rfl⟩
theorem fa_53_1 : FldT Tryz.prog 53 1 1 := ⟨_, _, _, Tryz.underlying53, rfl, Tryz.sizeOf3, rfl, rfl⟩
theorem fa_53_2 : FldT Tryz.prog 53 2 2 := ⟨_, _, _, Tryz.underlying53, rfl, Tryz.sizeOf3, rfl, rfl⟩
theorem eq_38 (dd : Nat) (x y : GSwimmer) (w : World) : (Op.equalIn (dd + 2) 38 (.agg (GSwimmer.enc x).toArray) (.agg (GSwimmer.enc y).toArray)).run Tryz.prog w = .ok (decide (x = y)) w := by
  refine eq_of_fields (dd := dd + 1) (fs := (Tryz.prog.fieldsOf 38).toList) (by kernel_rfl) rfl (by kernel_rfl) (?_ : _ = Result.ok (decide (x.Key = y.Key) && (decide (x.Sex = y.Sex) && (decide (x.Born = y.Born) && true))) w) (by cases x; cases y; simp [Bool.decide_and])
  simp only [Program.fieldsOf, Tryz.underlying38]
  exact (eqF_cons (by decide) (part_cell Tryz.isAgg9 rfl) (part_cell Tryz.isAgg9 rfl) (eq_cell_str Tryz.underlying9) (eqF_cons (by decide) (part_cell Tryz.isAgg3 rfl) (part_cell Tryz.isAgg3 rfl) (eq_cell_int Tryz.underlying3) (eqF_cons (by decide) (part_cell Tryz.isAgg3 rfl) (part_cell Tryz.isAgg3 rfl) (eq_cell_int Tryz.underlying3) eqF_nil)))
theorem rn_eql_38 {a : Act} {w : World} {x y : Operand} {u ty : TypeId} {m n : GSwimmer} (hx : a.eval x = .agg (GSwimmer.enc m).toArray) (hy : a.eval y = .agg (GSwimmer.enc n).toArray) : Rn Tryz.prog a w (.binOp .eql 38 x y u) ty (.bool (decide (m = n))) :=
  rn_aeql 2 (by kernel_rfl) (fun w => eq_38 _ m n w) rfl hx hy
theorem rn_neq_38 {a : Act} {w : World} {x y : Operand} {u ty : TypeId} {m n : GSwimmer} (hx : a.eval x = .agg (GSwimmer.enc m).toArray) (hy : a.eval y = .agg (GSwimmer.enc n).toArray) : Rn Tryz.prog a w (.binOp .neq 38 x y u) ty (.bool (!decide (m = n))) :=
  rn_aneq 2 (by kernel_rfl) (fun w => eq_38 _ m n w) rfl hx hy
theorem eq_53 (dd : Nat) (x y : GDate) (w : World) : (Op.equalIn (dd + 2) 53 (.agg (GDate.enc x).toArray) (.agg (GDate.enc y).toArray)).run Tryz.prog w = .ok (decide (x = y)) w := by
  refine eq_of_fields (dd := dd + 1) (fs := (Tryz.prog.fieldsOf 53).toList) (by kernel_rfl) rfl (by kernel_rfl) (?_ : _ = Result.ok (decide (x.Year = y.Year) && (decide (x.Month = y.Month) && (decide (x.Day = y.Day) && true))) w) (by cases x; cases y; simp [Bool.decide_and])
  simp only [Program.fieldsOf, Tryz.underlying53]
  exact (eqF_cons (by decide) (part_cell Tryz.isAgg3 rfl) (part_cell Tryz.isAgg3 rfl) (eq_cell_int Tryz.underlying3) (eqF_cons (by decide) (part_cell Tryz.isAgg3 rfl) (part_cell Tryz.isAgg3 rfl) (eq_cell_int Tryz.underlying3) (eqF_cons (by decide) (part_cell Tryz.isAgg3 rfl) (part_cell Tryz.isAgg3 rfl) (eq_cell_int Tryz.underlying3) eqF_nil)))
theorem rn_eql_53 {a : Act} {w : World} {x y : Operand} {u ty : TypeId} {m n : GDate} (hx : a.eval x = .agg (GDate.enc m).toArray) (hy : a.eval y = .agg (GDate.enc n).toArray) : Rn Tryz.prog a w (.binOp .eql 53 x y u) ty (.bool (decide (m = n))) :=
  rn_aeql 2 (by kernel_rfl) (fun w => eq_53 _ m n w) rfl hx hy
theorem rn_neq_53 {a : Act} {w : World} {x y : Operand} {u ty : TypeId} {m n : GDate} (hx : a.eval x = .agg (GDate.enc m).toArray) (hy : a.eval y = .agg (GDate.enc n).toArray) : Rn Tryz.prog a w (.binOp .neq 53 x y u) ty (.bool (!decide (m = n))) :=
  rn_aneq 2 (by kernel_rfl) (fun w => eq_53 _ m n w) rfl hx hy
theorem bt_25 : BldT Tryz.prog 25 (.agg #[.slice none 0 0, iV 0]) [(0, 1), (1, 1)] := ⟨_, Tryz.underlying25, Tryz.zeroValue25, fun _ => by kernel_rfl⟩
theorem bt_38 : BldT Tryz.prog 38 (.agg #[sV k_empty, iV 0, iV 0]) [(0, 1), (1, 1), (2, 1)] := ⟨_, Tryz.underlying38, Tryz.zeroValue38, fun _ => by kernel_rfl⟩
theorem bt_53 : BldT Tryz.prog 53 (.agg #[iV 0, iV 0, iV 0]) [(0, 1), (1, 1), (2, 1)] := ⟨_, Tryz.underlying53, Tryz.zeroValue53, fun _ => by kernel_rfl⟩
end Go.Proofs.YtkpjakcepffimaaGreatDoor
