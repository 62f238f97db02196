/- The program's tables, by program. -/
import Derived.Test.YtlfacnkbjmilpaaDoorTw
import Derived.Test.YtlfacnkbjmilpaaDoorLib
import Derived.Test.YtlfacnkbjmilpaaDoorProg
namespace Go.Proofs.YtlfacnkbjmilpaaDoor
open Go
def GRace.enc (x : GRace) : List Value := [.string x.Key, .int .i64 x.Metres, .int .i64 x.Stroke, .int .i64 x.Course, .int .i64 x.Legs, .int .i64 x.Sex, .int .i64 x.Young, .int .i64 x.Old]
theorem GRace.enc_ok : Enc 8 GRace.enc := ⟨fun _ => rfl, fun _ u h => by simp [GRace.enc] at h; rcases h with rfl | rfl | rfl | rfl | rfl | rfl | rfl | rfl <;> rfl⟩
def GKind.enc (x : GKind) : List Value := [.string x.Key, .string x.Race, .slice none 0 0, .int .i64 x.Young, .int .i64 x.Old]
theorem GKind.enc_ok : Enc 5 GKind.enc := ⟨fun _ => rfl, fun _ u h => by simp [GKind.enc] at h; rcases h with rfl | rfl | rfl | rfl | rfl <;> rfl⟩
def GStep.enc (x : GStep) : List Value := [.int .i64 x.At, .int .i64 x.Kind, .string x.Id, .string x.Who, .string x.Club, .string x.Race, .int .i64 x.Age, .int .i64 x.Time]
theorem GStep.enc_ok : Enc 8 GStep.enc := ⟨fun _ => rfl, fun _ u h => by simp [GStep.enc] at h; rcases h with rfl | rfl | rfl | rfl | rfl | rfl | rfl | rfl <;> rfl⟩
theorem Tryd.mixed : Tryd.prog.follows .mixedOrders = true := by kernel_rfl
theorem sl_22 : SlT Tryd.prog 22 3 1 8 := slT_of (z := (.int .i64 0)) Tryd.underlying22 Tryd.sizeOf3 (by kernel_rfl) rfl
theorem sl_43 : SlT Tryd.prog 43 9 1 16 := slT_of (z := (.string k_empty)) Tryd.underlying43 Tryd.sizeOf9 (by kernel_rfl) rfl
theorem sl_48 : SlT Tryd.prog 48 47 5 72 := slT_of (z := (.agg #[.string k_empty, .string k_empty, .slice none 0 0, .int .i64 0, .int .i64 0])) Tryd.underlying48 Tryd.sizeOf47 (by kernel_rfl) rfl
theorem fa_25_0 : FldT Tryd.prog 25 0 0 := ⟨_, _, _, Tryd.underlying25, rfl, Tryd.sizeOf22, rfl, rfl⟩
theorem fa_25_1 : FldT Tryd.prog 25 1 1 := ⟨_, _, _, Tryd.underlying25, rfl, Tryd.sizeOf3, rfl, rfl⟩
theorem fa_27_0 : FldT Tryd.prog 27 0 0 := ⟨_, _, _, Tryd.underlying27, rfl, Tryd.sizeOf9, rfl, rfl⟩
theorem fa_27_1 : FldT Tryd.prog 27 1 1 := ⟨_, _, _, Tryd.underlying27, rfl, Tryd.sizeOf3, rfl, rfl⟩
theorem fa_27_2 : FldT Tryd.prog 27 2 2 := ⟨_, _, _, Tryd.underlying27, rfl, Tryd.sizeOf3, rfl, rfl⟩
theorem fa_27_3 : FldT Tryd.prog 27 3 3 := ⟨_, _, _, Tryd.underlying27, rfl, Tryd.sizeOf3, rfl, rfl⟩
theorem fa_27_4 : FldT Tryd.prog 27 4 4 := ⟨_, _, _, Tryd.underlying27, rfl, Tryd.sizeOf3, rfl, rfl⟩
theorem fa_27_5 : FldT Tryd.prog 27 5 5 := ⟨_, _, _, Tryd.underlying27, rfl, Tryd.sizeOf3, rfl, rfl⟩
theorem fa_27_6 : FldT Tryd.prog 27 6 6 := ⟨_, _, _, Tryd.underlying27, rfl, Tryd.sizeOf3, rfl, rfl⟩
theorem fa_27_7 : FldT Tryd.prog 27 7 7 := ⟨_, _, _, Tryd.underlying27, rfl, Tryd.sizeOf3, rfl, rfl⟩
theorem fa_47_0 : FldT Tryd.prog 47 0 0 := ⟨_, _, _, Tryd.underlying47, rfl, Tryd.sizeOf9, rfl, rfl⟩
theorem fa_47_1 : FldT Tryd.prog 47 1 1 := ⟨_, _, _, Tryd.underlying47, rfl, Tryd.sizeOf9, rfl, rfl⟩
theorem fa_47_2 : FldT Tryd.prog 47 2 2 := ⟨_, _, _, Tryd.underlying47, rfl, Tryd.sizeOf43, rfl, rfl⟩
theorem fa_47_3 : FldT Tryd.prog 47 3 3 := ⟨_, _, _, Tryd.underlying47, rfl, Tryd.sizeOf3, rfl, rfl⟩
theorem fa_47_4 : FldT Tryd.prog 47 4 4 := ⟨_, _, _, Tryd.underlying47, rfl, Tryd.sizeOf3, rfl, rfl⟩
theorem fa_50_0 : FldT Tryd.prog 50 0 0 := ⟨_, _, _, Tryd.underlying50, rfl, Tryd.sizeOf3, rfl, rfl⟩
theorem fa_50_1 : FldT Tryd.prog 50 1 1 := ⟨_, _, _, Tryd.underlying50, rfl, Tryd.sizeOf3, rfl, rfl⟩
theorem fa_50_2 : FldT Tryd.prog 50 2 2 := ⟨_, _, _, Tryd.underlying50, rfl, Tryd.sizeOf9, rfl, rfl⟩
theorem fa_50_3 : FldT Tryd.prog 50 3 3 := ⟨_, _, _, Tryd.underlying50, rfl, Tryd.sizeOf9, rfl, rfl⟩
theorem fa_50_4 : FldT Tryd.prog 50 4 4 := ⟨_, _, _, Tryd.underlying50, rfl, Tryd.sizeOf9, rfl, rfl⟩
theorem fa_50_5 : FldT Tryd.prog 50 5 5 := ⟨_, _, _, Tryd.underlying50, rfl, Tryd.sizeOf9, rfl, rfl⟩
theorem fa_50_6 : FldT Tryd.prog 50 6 6 := ⟨_, _, _, Tryd.underlying50, rfl, Tryd.sizeOf3, rfl, rfl⟩
theorem fa_50_7 : FldT Tryd.prog 50 7 7 := ⟨_, _, _, Tryd.underlying50, rfl, Tryd.sizeOf3, rfl, rfl⟩
theorem eq_50 (dd : Nat) (x y : GStep) (w : World) : (Op.equalIn (dd + 2) 50 (.agg (GStep.enc x).toArray) (.agg (GStep.enc y).toArray)).run Tryd.prog w = .ok (decide (x = y)) w := by
  refine eq_of_fields (dd := dd + 1) (fs := (Tryd.prog.fieldsOf 50).toList) (by kernel_rfl) rfl (by kernel_rfl) (?_ : _ = Result.ok (decide (x.At = y.At) && (decide (x.Kind = y.Kind) && (decide (x.Id = y.Id) && (decide (x.Who = y.Who) && (decide (x.Club = y.Club) && (decide (x.Race = y.Race) && (decide (x.Age = y.Age) && (decide (x.Time = y.Time) && true)))))))) w) (by cases x; cases y; simp [Bool.decide_and])
  simp only [Program.fieldsOf, Tryd.underlying50]
  exact (eqF_cons (by decide) (part_cell Tryd.isAgg3 rfl) (part_cell Tryd.isAgg3 rfl) (eq_cell_int Tryd.underlying3) (eqF_cons (by decide) (part_cell Tryd.isAgg3 rfl) (part_cell Tryd.isAgg3 rfl) (eq_cell_int Tryd.underlying3) (eqF_cons (by decide) (part_cell Tryd.isAgg9 rfl) (part_cell Tryd.isAgg9 rfl) (eq_cell_str Tryd.underlying9) (eqF_cons (by decide) (part_cell Tryd.isAgg9 rfl) (part_cell Tryd.isAgg9 rfl) (eq_cell_str Tryd.underlying9) (eqF_cons (by decide) (part_cell Tryd.isAgg9 rfl) (part_cell Tryd.isAgg9 rfl) (eq_cell_str Tryd.underlying9) (eqF_cons (by decide) (part_cell Tryd.isAgg9 rfl) (part_cell Tryd.isAgg9 rfl) (eq_cell_str Tryd.underlying9) (eqF_cons (by decide) (part_cell Tryd.isAgg3 rfl) (part_cell Tryd.isAgg3 rfl) (eq_cell_int Tryd.underlying3) (eqF_cons (by decide) (part_cell Tryd.isAgg3 rfl) (part_cell Tryd.isAgg3 rfl) (eq_cell_int Tryd.underlying3) eqF_nil))))))))
theorem rn_eql_50 {a : Act} {w : World} {x y : Operand} {u ty : TypeId} {m n : GStep} (hx : a.eval x = .agg (GStep.enc m).toArray) (hy : a.eval y = .agg (GStep.enc n).toArray) : Rn Tryd.prog a w (.binOp .eql 50 x y u) ty (.bool (decide (m = n))) :=
  rn_aeql 2 (by kernel_rfl) (fun w => eq_50 _ m n w) rfl hx hy
theorem rn_neq_50 {a : Act} {w : World} {x y : Operand} {u ty : TypeId} {m n : GStep} (hx : a.eval x = .agg (GStep.enc m).toArray) (hy : a.eval y = .agg (GStep.enc n).toArray) : Rn Tryd.prog a w (.binOp .neq 50 x y u) ty (.bool (!decide (m = n))) :=
  rn_aneq 2 (by kernel_rfl) (fun w => eq_50 _ m n w) rfl hx hy
theorem bt_25 : BldT Tryd.prog 25 (.agg #[.slice none 0 0, .int .i64 0]) [(0, 1), (1, 1)] := ⟨_, Tryd.underlying25, Tryd.zeroValue25, fun _ => by kernel_rfl⟩
theorem bt_27 : BldT Tryd.prog 27 (.agg #[.string k_empty, .int .i64 0, .int .i64 0, .int .i64 0, .int .i64 0, .int .i64 0, .int .i64 0, .int .i64 0]) [(0, 1), (1, 1), (2, 1), (3, 1), (4, 1), (5, 1), (6, 1), (7, 1)] := ⟨_, Tryd.underlying27, Tryd.zeroValue27, fun _ => by kernel_rfl⟩
theorem bt_47 : BldT Tryd.prog 47 (.agg #[.string k_empty, .string k_empty, .slice none 0 0, .int .i64 0, .int .i64 0]) [(0, 1), (1, 1), (2, 1), (3, 1), (4, 1)] := ⟨_, Tryd.underlying47, Tryd.zeroValue47, fun _ => by kernel_rfl⟩
theorem bt_50 : BldT Tryd.prog 50 (.agg #[.int .i64 0, .int .i64 0, .string k_empty, .string k_empty, .string k_empty, .string k_empty, .int .i64 0, .int .i64 0]) [(0, 1), (1, 1), (2, 1), (3, 1), (4, 1), (5, 1), (6, 1), (7, 1)] := ⟨_, Tryd.underlying50, Tryd.zeroValue50, fun _ => by kernel_rfl⟩
end Go.Proofs.YtlfacnkbjmilpaaDoor
