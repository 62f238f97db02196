/- The program's tables, by program. -/
import Derived.Test.YtmaoleaghiilcaaGreatDoorTw
import Derived.Test.YtmaoleaghiilcaaGreatDoorArena
import Derived.Test.YtmaoleaghiilcaaGreatDoorProg
namespace Go.Proofs.YtmaoleaghiilcaaGreatDoor
open Go
def GItem.enc (x : GItem) : List Value := [sV x.Key, iV x.Heats, iV x.Long, iV x.Gap, iV x.Break]
theorem GItem.enc_ok : Enc 5 GItem.enc := ⟨fun _ => rfl, fun _ u h => by simp [GItem.enc] at h; rcases h with rfl | rfl | rfl | rfl | rfl <;> rfl⟩
def GWindow.enc (x : GWindow) : List Value := [iV x.From, iV x.To]
theorem GWindow.enc_ok : Enc 2 GWindow.enc := ⟨fun _ => rfl, fun _ u h => by simp [GWindow.enc] at h; rcases h with rfl | rfl <;> rfl⟩
def GSlot.enc (x : GSlot) : List Value := [sV x.Item, iV x.Heat, iV x.Time.From, iV x.Time.To]
theorem GSlot.enc_ok : Enc 4 GSlot.enc := ⟨fun _ => rfl, fun _ u h => by simp [GSlot.enc] at h; rcases h with rfl | rfl | rfl | rfl <;> rfl⟩

theorem Tryz.mixed : Tryz.prog.follows .mixedOrders = true := by kernel_rfl
theorem sl_22 : SlT Tryz.prog 22 3 1 8 := slT_of (z := (iV 0)) Tryz.underlying22 Tryz.sizeOf3 (by kernel_rfl) rfl
theorem sl_26 : SlT Tryz.prog 26 38 5 48 := slT_of (z := (.agg #[sV k_empty, iV 0, iV 0, iV 0, iV 0])) Tryz.underlying26 Tryz.sizeOf38 (by kernel_rfl) rfl
theorem sl_64 : SlT Tryz.prog 64 9 1 16 := slT_of (z := (sV k_empty)) Tryz.underlying64 Tryz.sizeOf9 (by kernel_rfl) rfl
theorem sl_84 : SlT Tryz.prog 84 100 4 40 := slT_of (z := (.agg #[sV k_empty, iV 0, iV 0, iV 0])) Tryz.underlying84 Tryz.sizeOf100 (by kernel_rfl) rfl
theorem fa_25_0 : FldT Tryz.prog 25 0 0 := ⟨_, _, _, Tryz.underlying25, rfl, Tryz.sizeOf22, rfl, rfl⟩
theorem fa_25_1 : FldT Tryz.prog 25 1 1 := ⟨_, _, _, Tryz.underlying25, rfl, Tryz.sizeOf3, rfl, rfl⟩
theorem fa_38_0 : FldT Tryz.prog 38 0 0 := ⟨_, _, _, Tryz.underlying38, rfl, Tryz.sizeOf9, rfl, rfl⟩
theorem fa_38_1 : FldT Tryz.prog 38 1 1 := ⟨_, _, _, Tryz.underlying38, rfl, Tryz.sizeOf3, rfl, rfl⟩
theorem fa_38_2 : FldT Tryz.prog 38 2 2 := ⟨_, _, _, Tryz.underlying38, rfl, Tryz.sizeOf3, rfl, rfl⟩
theorem fa_38_3 : FldT Tryz.prog 38 3 3 := ⟨_, _, _, Tryz.underlying38, rfl, Tryz.sizeOf3, rfl, rfl⟩
theorem fa_38_4 : FldT Tryz.prog 38 4 4 := ⟨_, _, _, Tryz.underlying38, rfl, Tryz.sizeOf3, rfl, rfl⟩
theorem fa_98_1 : FldT Tryz.prog 98 1 1 := ⟨_, _, _, Tryz.underlying98, rfl, Tryz.sizeOf3, rfl, rfl⟩
theorem fa_100_2 : FldT Tryz.prog 100 2 2 := ⟨_, _, _, Tryz.underlying100, rfl, Tryz.sizeOf98, rfl, rfl⟩
theorem eq_38 (dd : Nat) (x y : GItem) (w : World) : (Op.equalIn (dd + 2) 38 (.agg (GItem.enc x).toArray) (.agg (GItem.enc y).toArray)).run Tryz.prog w = .ok (decide (x = y)) w := by
  refine eq_of_fields (dd := dd + 1) (fs := (Tryz.prog.fieldsOf 38).toList) (by kernel_rfl) rfl (by kernel_rfl) (?_ : _ = Result.ok (decide (x.Key = y.Key) && (decide (x.Heats = y.Heats) && (decide (x.Long = y.Long) && (decide (x.Gap = y.Gap) && (decide (x.Break = y.Break) && true))))) w) (by cases x; cases y; simp [Bool.decide_and])
  simp only [Program.fieldsOf, Tryz.underlying38]
  exact (eqF_cons (by decide) (part_cell Tryz.isAgg9 rfl) (part_cell Tryz.isAgg9 rfl) (eq_cell_str Tryz.underlying9) (eqF_cons (by decide) (part_cell Tryz.isAgg3 rfl) (part_cell Tryz.isAgg3 rfl) (eq_cell_int Tryz.underlying3) (eqF_cons (by decide) (part_cell Tryz.isAgg3 rfl) (part_cell Tryz.isAgg3 rfl) (eq_cell_int Tryz.underlying3) (eqF_cons (by decide) (part_cell Tryz.isAgg3 rfl) (part_cell Tryz.isAgg3 rfl) (eq_cell_int Tryz.underlying3) (eqF_cons (by decide) (part_cell Tryz.isAgg3 rfl) (part_cell Tryz.isAgg3 rfl) (eq_cell_int Tryz.underlying3) eqF_nil)))))
theorem rn_eql_38 {a : Act} {w : World} {x y : Operand} {u ty : TypeId} {m n : GItem} (hx : a.eval x = .agg (GItem.enc m).toArray) (hy : a.eval y = .agg (GItem.enc n).toArray) : Rn Tryz.prog a w (.binOp .eql 38 x y u) ty (.bool (decide (m = n))) :=
  rn_aeql 2 (by kernel_rfl) (fun w => eq_38 _ m n w) rfl hx hy
theorem rn_neq_38 {a : Act} {w : World} {x y : Operand} {u ty : TypeId} {m n : GItem} (hx : a.eval x = .agg (GItem.enc m).toArray) (hy : a.eval y = .agg (GItem.enc n).toArray) : Rn Tryz.prog a w (.binOp .neq 38 x y u) ty (.bool (!decide (m = n))) :=
  rn_aneq 2 (by kernel_rfl) (fun w => eq_38 _ m n w) rfl hx hy
theorem bt_25 : BldT Tryz.prog 25 (.agg #[.slice none 0 0, iV 0]) [(0, 1), (1, 1)] := ⟨_, Tryz.underlying25, Tryz.zeroValue25, fun _ => by kernel_rfl⟩
theorem bt_38 : BldT Tryz.prog 38 (.agg #[sV k_empty, iV 0, iV 0, iV 0, iV 0]) [(0, 1), (1, 1), (2, 1), (3, 1), (4, 1)] := ⟨_, Tryz.underlying38, Tryz.zeroValue38, fun _ => by kernel_rfl⟩
theorem bt_98 : BldT Tryz.prog 98 (.agg #[iV 0, iV 0]) [(0, 1), (1, 1)] := ⟨_, Tryz.underlying98, Tryz.zeroValue98, fun _ => by kernel_rfl⟩
theorem bt_100 : BldT Tryz.prog 100 (.agg #[sV k_empty, iV 0, iV 0, iV 0]) [(0, 1), (1, 1), (2, 2)] := ⟨_, Tryz.underlying100, Tryz.zeroValue100, fun _ => by kernel_rfl⟩
end Go.Proofs.YtmaoleaghiilcaaGreatDoor
