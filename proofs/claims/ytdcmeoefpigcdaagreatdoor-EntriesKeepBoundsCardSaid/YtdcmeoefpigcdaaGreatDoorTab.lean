/- The program's tables, by program. -/
import Derived.Test.YtdcmeoefpigcdaaGreatDoorTw
import Derived.Test.YtdcmeoefpigcdaaGreatDoorLib
import Derived.Test.YtdcmeoefpigcdaaGreatDoorProg
namespace Go.Proofs.YtdcmeoefpigcdaaGreatDoor
open Go
def GRace.enc (x : GRace) : List Value := [.string x.Key, .int .i64 x.Metres, .int .i64 x.Stroke, .int .i64 x.Course, .int .i64 x.Legs, .int .i64 x.Sex, .int .i64 x.Young, .int .i64 x.Old]
theorem GRace.enc_ok : Enc 8 GRace.enc := ⟨fun _ => rfl, fun _ u h => by simp [GRace.enc] at h; rcases h with rfl | rfl | rfl | rfl | rfl | rfl | rfl | rfl <;> rfl⟩
def GSwimmer.enc (x : GSwimmer) : List Value := [.string x.Key, .int .i64 x.Sex, .int .i64 x.Born]
theorem GSwimmer.enc_ok : Enc 3 GSwimmer.enc := ⟨fun _ => rfl, fun _ u h => by simp [GSwimmer.enc] at h; rcases h with rfl | rfl | rfl <;> rfl⟩
def GMove.enc (x : GMove) : List Value := [.string x.Who, .string x.Club, .int .i64 x.Day]
theorem GMove.enc_ok : Enc 3 GMove.enc := ⟨fun _ => rfl, fun _ u h => by simp [GMove.enc] at h; rcases h with rfl | rfl | rfl <;> rfl⟩
def GBounds.enc (x : GBounds) : List Value := [.int .i64 x.Races, .int .i64 x.Club, .int .i64 x.Age, .int .i64 x.Day]
theorem GBounds.enc_ok : Enc 4 GBounds.enc := ⟨fun _ => rfl, fun _ u h => by simp [GBounds.enc] at h; rcases h with rfl | rfl | rfl | rfl <;> rfl⟩
def GEntry.enc (x : GEntry) : List Value := [.string x.Who, .string x.Race]
theorem GEntry.enc_ok : Enc 2 GEntry.enc := ⟨fun _ => rfl, fun _ u h => by simp [GEntry.enc] at h; rcases h with rfl | rfl <;> rfl⟩
def GDate.enc (x : GDate) : List Value := [.int .i64 x.Year, .int .i64 x.Month, .int .i64 x.Day]
theorem GDate.enc_ok : Enc 3 GDate.enc := ⟨fun _ => rfl, fun _ u h => by simp [GDate.enc] at h; rcases h with rfl | rfl | rfl <;> rfl⟩
def GItem.enc (x : GItem) : List Value := [.string x.Key, .int .i64 x.Heats, .int .i64 x.Long, .int .i64 x.Gap, .int .i64 x.Break]
theorem GItem.enc_ok : Enc 5 GItem.enc := ⟨fun _ => rfl, fun _ u h => by simp [GItem.enc] at h; rcases h with rfl | rfl | rfl | rfl | rfl <;> rfl⟩
def GWindow.enc (x : GWindow) : List Value := [.int .i64 x.From, .int .i64 x.To]
theorem GWindow.enc_ok : Enc 2 GWindow.enc := ⟨fun _ => rfl, fun _ u h => by simp [GWindow.enc] at h; rcases h with rfl | rfl <;> rfl⟩
def GSlot.enc (x : GSlot) : List Value := [.string x.Item, .int .i64 x.Heat, .int .i64 x.Time.From, .int .i64 x.Time.To]
theorem GSlot.enc_ok : Enc 4 GSlot.enc := ⟨fun _ => rfl, fun _ u h => by simp [GSlot.enc] at h; rcases h with rfl | rfl | rfl | rfl <;> rfl⟩
def GBase.enc (x : GBase) : List Value := [.string x.Race, .int .i64 x.Time]
theorem GBase.enc_ok : Enc 2 GBase.enc := ⟨fun _ => rfl, fun _ u h => by simp [GBase.enc] at h; rcases h with rfl | rfl <;> rfl⟩
def GKind.enc (x : GKind) : List Value := [.string x.Key, .string x.Race, .slice none 0 0, .int .i64 x.Young, .int .i64 x.Old]
theorem GKind.enc_ok : Enc 5 GKind.enc := ⟨fun _ => rfl, fun _ u h => by simp [GKind.enc] at h; rcases h with rfl | rfl | rfl | rfl | rfl <;> rfl⟩
def GStep.enc (x : GStep) : List Value := [.int .i64 x.At, .int .i64 x.Kind, .string x.Id, .string x.Who, .string x.Club, .string x.Race, .int .i64 x.Age, .int .i64 x.Time]
theorem GStep.enc_ok : Enc 8 GStep.enc := ⟨fun _ => rfl, fun _ u h => by simp [GStep.enc] at h; rcases h with rfl | rfl | rfl | rfl | rfl | rfl | rfl | rfl <;> rfl⟩
def Gswimmer_place.enc (x : Gswimmer_place) : List Value := [.string x.club_, .string x.race_]
theorem Gswimmer_place.enc_ok : Enc 2 Gswimmer_place.enc := ⟨fun _ => rfl, fun _ u h => by simp [Gswimmer_place.enc] at h; rcases h with rfl | rfl <;> rfl⟩
theorem Tryz.mixed : Tryz.prog.follows .mixedOrders = true := by kernel_rfl
theorem sl_22 : SlT Tryz.prog 22 3 1 8 := slT_of (z := (.int .i64 0)) Tryz.underlying22 Tryz.sizeOf3 (by kernel_rfl) rfl
theorem sl_26 : SlT Tryz.prog 26 52 8 72 := slT_of (z := (.agg #[.string k_empty, .int .i64 0, .int .i64 0, .int .i64 0, .int .i64 0, .int .i64 0, .int .i64 0, .int .i64 0])) Tryz.underlying26 Tryz.sizeOf52 (by kernel_rfl) rfl
theorem sl_28 : SlT Tryz.prog 28 56 3 32 := slT_of (z := (.agg #[.string k_empty, .int .i64 0, .int .i64 0])) Tryz.underlying28 Tryz.sizeOf56 (by kernel_rfl) rfl
theorem sl_30 : SlT Tryz.prog 30 58 3 40 := slT_of (z := (.agg #[.string k_empty, .string k_empty, .int .i64 0])) Tryz.underlying30 Tryz.sizeOf58 (by kernel_rfl) rfl
theorem sl_35 : SlT Tryz.prog 35 45 2 32 := slT_of (z := (.agg #[.string k_empty, .string k_empty])) Tryz.underlying35 Tryz.sizeOf45 (by kernel_rfl) rfl
theorem sl_49 : SlT Tryz.prog 49 9 1 16 := slT_of (z := (.string k_empty)) Tryz.underlying49 Tryz.sizeOf9 (by kernel_rfl) rfl
theorem sl_71 : SlT Tryz.prog 71 70 5 48 := slT_of (z := (.agg #[.string k_empty, .int .i64 0, .int .i64 0, .int .i64 0, .int .i64 0])) Tryz.underlying71 Tryz.sizeOf70 (by kernel_rfl) rfl
theorem sl_75 : SlT Tryz.prog 75 74 2 24 := slT_of (z := (.agg #[.string k_empty, .int .i64 0])) Tryz.underlying75 Tryz.sizeOf74 (by kernel_rfl) rfl
theorem sl_80 : SlT Tryz.prog 80 79 5 72 := slT_of (z := (.agg #[.string k_empty, .string k_empty, .slice none 0 0, .int .i64 0, .int .i64 0])) Tryz.underlying80 Tryz.sizeOf79 (by kernel_rfl) rfl
theorem sl_95 : SlT Tryz.prog 95 38 1 8 := slT_of (z := (.int .i64 0)) Tryz.underlying95 Tryz.sizeOf38 (by kernel_rfl) rfl
theorem sl_98 : SlT Tryz.prog 98 121 4 40 := slT_of (z := (.agg #[.string k_empty, .int .i64 0, .int .i64 0, .int .i64 0])) Tryz.underlying98 Tryz.sizeOf121 (by kernel_rfl) rfl
theorem fa_25_0 : FldT Tryz.prog 25 0 0 := ⟨_, _, _, Tryz.underlying25, rfl, Tryz.sizeOf22, rfl, rfl⟩
theorem fa_25_1 : FldT Tryz.prog 25 1 1 := ⟨_, _, _, Tryz.underlying25, rfl, Tryz.sizeOf3, rfl, rfl⟩
theorem fa_33_0 : FldT Tryz.prog 33 0 0 := ⟨_, _, _, Tryz.underlying33, rfl, Tryz.sizeOf3, rfl, rfl⟩
theorem fa_33_1 : FldT Tryz.prog 33 1 1 := ⟨_, _, _, Tryz.underlying33, rfl, Tryz.sizeOf3, rfl, rfl⟩
theorem fa_33_2 : FldT Tryz.prog 33 2 2 := ⟨_, _, _, Tryz.underlying33, rfl, Tryz.sizeOf3, rfl, rfl⟩
theorem fa_33_3 : FldT Tryz.prog 33 3 3 := ⟨_, _, _, Tryz.underlying33, rfl, Tryz.sizeOf3, rfl, rfl⟩
theorem fa_45_0 : FldT Tryz.prog 45 0 0 := ⟨_, _, _, Tryz.underlying45, rfl, Tryz.sizeOf9, rfl, rfl⟩
theorem fa_45_1 : FldT Tryz.prog 45 1 1 := ⟨_, _, _, Tryz.underlying45, rfl, Tryz.sizeOf9, rfl, rfl⟩
theorem fa_52_0 : FldT Tryz.prog 52 0 0 := ⟨_, _, _, Tryz.underlying52, rfl, Tryz.sizeOf9, rfl, rfl⟩
theorem fa_52_1 : FldT Tryz.prog 52 1 1 := ⟨_, _, _, Tryz.underlying52, rfl, Tryz.sizeOf3, rfl, rfl⟩
theorem fa_52_2 : FldT Tryz.prog 52 2 2 := ⟨_, _, _, Tryz.underlying52, rfl, Tryz.sizeOf3, rfl, rfl⟩
theorem fa_52_3 : FldT Tryz.prog 52 3 3 := ⟨_, _, _, Tryz.underlying52, rfl, Tryz.sizeOf3, rfl, rfl⟩
theorem fa_52_4 : FldT Tryz.prog 52 4 4 := ⟨_, _, _, Tryz.underlying52, rfl, Tryz.sizeOf3, rfl, rfl⟩
theorem fa_52_5 : FldT Tryz.prog 52 5 5 := ⟨_, _, _, Tryz.underlying52, rfl, Tryz.sizeOf3, rfl, rfl⟩
theorem fa_52_6 : FldT Tryz.prog 52 6 6 := ⟨_, _, _, Tryz.underlying52, rfl, Tryz.sizeOf3, rfl, rfl⟩
theorem fa_52_7 : FldT Tryz.prog 52 7 7 := ⟨_, _, _, Tryz.underlying52, rfl, Tryz.sizeOf3, rfl, rfl⟩
theorem fa_56_0 : FldT Tryz.prog 56 0 0 := ⟨_, _, _, Tryz.underlying56, rfl, Tryz.sizeOf9, rfl, rfl⟩
theorem fa_56_1 : FldT Tryz.prog 56 1 1 := ⟨_, _, _, Tryz.underlying56, rfl, Tryz.sizeOf3, rfl, rfl⟩
theorem fa_56_2 : FldT Tryz.prog 56 2 2 := ⟨_, _, _, Tryz.underlying56, rfl, Tryz.sizeOf3, rfl, rfl⟩
theorem fa_58_0 : FldT Tryz.prog 58 0 0 := ⟨_, _, _, Tryz.underlying58, rfl, Tryz.sizeOf9, rfl, rfl⟩
theorem fa_58_1 : FldT Tryz.prog 58 1 1 := ⟨_, _, _, Tryz.underlying58, rfl, Tryz.sizeOf9, rfl, rfl⟩
theorem fa_58_2 : FldT Tryz.prog 58 2 2 := ⟨_, _, _, Tryz.underlying58, rfl, Tryz.sizeOf3, rfl, rfl⟩
theorem fa_67_0 : FldT Tryz.prog 67 0 0 := ⟨_, _, _, Tryz.underlying67, rfl, Tryz.sizeOf3, rfl, rfl⟩
theorem fa_67_1 : FldT Tryz.prog 67 1 1 := ⟨_, _, _, Tryz.underlying67, rfl, Tryz.sizeOf3, rfl, rfl⟩
theorem fa_67_2 : FldT Tryz.prog 67 2 2 := ⟨_, _, _, Tryz.underlying67, rfl, Tryz.sizeOf3, rfl, rfl⟩
theorem fa_70_0 : FldT Tryz.prog 70 0 0 := ⟨_, _, _, Tryz.underlying70, rfl, Tryz.sizeOf9, rfl, rfl⟩
theorem fa_70_1 : FldT Tryz.prog 70 1 1 := ⟨_, _, _, Tryz.underlying70, rfl, Tryz.sizeOf3, rfl, rfl⟩
theorem fa_70_2 : FldT Tryz.prog 70 2 2 := ⟨_, _, _, Tryz.underlying70, rfl, Tryz.sizeOf3, rfl, rfl⟩
theorem fa_70_3 : FldT Tryz.prog 70 3 3 := ⟨_, _, _, Tryz.underlying70, rfl, Tryz.sizeOf3, rfl, rfl⟩
theorem fa_70_4 : FldT Tryz.prog 70 4 4 := ⟨_, _, _, Tryz.underlying70, rfl, Tryz.sizeOf3, rfl, rfl⟩
theorem fa_74_0 : FldT Tryz.prog 74 0 0 := ⟨_, _, _, Tryz.underlying74, rfl, Tryz.sizeOf9, rfl, rfl⟩
theorem fa_74_1 : FldT Tryz.prog 74 1 1 := ⟨_, _, _, Tryz.underlying74, rfl, Tryz.sizeOf3, rfl, rfl⟩
theorem fa_79_0 : FldT Tryz.prog 79 0 0 := ⟨_, _, _, Tryz.underlying79, rfl, Tryz.sizeOf9, rfl, rfl⟩
theorem fa_79_1 : FldT Tryz.prog 79 1 1 := ⟨_, _, _, Tryz.underlying79, rfl, Tryz.sizeOf9, rfl, rfl⟩
theorem fa_79_2 : FldT Tryz.prog 79 2 2 := ⟨_, _, _, Tryz.underlying79, rfl, Tryz.sizeOf49, rfl, rfl⟩
theorem fa_79_3 : FldT Tryz.prog 79 3 3 := ⟨_, _, _, Tryz.underlying79, rfl, Tryz.sizeOf3, rfl, rfl⟩
theorem fa_79_4 : FldT Tryz.prog 79 4 4 := ⟨_, _, _, Tryz.underlying79, rfl, Tryz.sizeOf3, rfl, rfl⟩
theorem fa_82_0 : FldT Tryz.prog 82 0 0 := ⟨_, _, _, Tryz.underlying82, rfl, Tryz.sizeOf3, rfl, rfl⟩
theorem fa_82_1 : FldT Tryz.prog 82 1 1 := ⟨_, _, _, Tryz.underlying82, rfl, Tryz.sizeOf3, rfl, rfl⟩
theorem fa_82_2 : FldT Tryz.prog 82 2 2 := ⟨_, _, _, Tryz.underlying82, rfl, Tryz.sizeOf9, rfl, rfl⟩
theorem fa_82_3 : FldT Tryz.prog 82 3 3 := ⟨_, _, _, Tryz.underlying82, rfl, Tryz.sizeOf9, rfl, rfl⟩
theorem fa_82_4 : FldT Tryz.prog 82 4 4 := ⟨_, _, _, Tryz.underlying82, rfl, Tryz.sizeOf9, rfl, rfl⟩
theorem fa_82_5 : FldT Tryz.prog 82 5 5 := ⟨_, _, _, Tryz.underlying82, rfl, Tryz.sizeOf9, rfl, rfl⟩
theorem fa_82_6 : FldT Tryz.prog 82 6 6 := ⟨_, _, _, Tryz.underlying82, rfl, Tryz.sizeOf3, rfl, rfl⟩
theorem fa_82_7 : FldT Tryz.prog 82 7 7 := ⟨_, _, _, Tryz.underlying82, rfl, Tryz.sizeOf3, rfl, rfl⟩
theorem fa_92_0 : FldT Tryz.prog 92 0 0 := ⟨_, _, _, Tryz.underlying92, rfl, Tryz.sizeOf9, rfl, rfl⟩
theorem fa_119_1 : FldT Tryz.prog 119 1 1 := ⟨_, _, _, Tryz.underlying119, rfl, Tryz.sizeOf3, rfl, rfl⟩
theorem fa_121_2 : FldT Tryz.prog 121 2 2 := ⟨_, _, _, Tryz.underlying121, rfl, Tryz.sizeOf119, rfl, rfl⟩
theorem eq_45 (dd : Nat) (x y : GEntry) (w : World) : (Op.equalIn (dd + 2) 45 (.agg (GEntry.enc x).toArray) (.agg (GEntry.enc y).toArray)).run Tryz.prog w = .ok (decide (x = y)) w := by
  refine eq_of_fields (dd := dd + 1) (fs := (Tryz.prog.fieldsOf 45).toList) (by kernel_rfl) rfl (by kernel_rfl) (?_ : _ = Result.ok (decide (x.Who = y.Who) && (decide (x.Race = y.Race) && true)) w) (by cases x; cases y; simp [Bool.decide_and])
  simp only [Program.fieldsOf, Tryz.underlying45]
  exact (eqF_cons (by decide) (part_cell Tryz.isAgg9 rfl) (part_cell Tryz.isAgg9 rfl) (eq_cell_str Tryz.underlying9) (eqF_cons (by decide) (part_cell Tryz.isAgg9 rfl) (part_cell Tryz.isAgg9 rfl) (eq_cell_str Tryz.underlying9) eqF_nil))
theorem rn_eql_45 {a : Act} {w : World} {x y : Operand} {u ty : TypeId} {m n : GEntry} (hx : a.eval x = .agg (GEntry.enc m).toArray) (hy : a.eval y = .agg (GEntry.enc n).toArray) : Rn Tryz.prog a w (.binOp .eql 45 x y u) ty (.bool (decide (m = n))) :=
  rn_aeql 2 (by kernel_rfl) (fun w => eq_45 _ m n w) rfl hx hy
theorem rn_neq_45 {a : Act} {w : World} {x y : Operand} {u ty : TypeId} {m n : GEntry} (hx : a.eval x = .agg (GEntry.enc m).toArray) (hy : a.eval y = .agg (GEntry.enc n).toArray) : Rn Tryz.prog a w (.binOp .neq 45 x y u) ty (.bool (!decide (m = n))) :=
  rn_aneq 2 (by kernel_rfl) (fun w => eq_45 _ m n w) rfl hx hy
theorem eq_82 (dd : Nat) (x y : GStep) (w : World) : (Op.equalIn (dd + 2) 82 (.agg (GStep.enc x).toArray) (.agg (GStep.enc y).toArray)).run Tryz.prog w = .ok (decide (x = y)) w := by
  refine eq_of_fields (dd := dd + 1) (fs := (Tryz.prog.fieldsOf 82).toList) (by kernel_rfl) rfl (by kernel_rfl) (?_ : _ = Result.ok (decide (x.At = y.At) && (decide (x.Kind = y.Kind) && (decide (x.Id = y.Id) && (decide (x.Who = y.Who) && (decide (x.Club = y.Club) && (decide (x.Race = y.Race) && (decide (x.Age = y.Age) && (decide (x.Time = y.Time) && true)))))))) w) (by cases x; cases y; simp [Bool.decide_and])
  simp only [Program.fieldsOf, Tryz.underlying82]
  exact (eqF_cons (by decide) (part_cell Tryz.isAgg3 rfl) (part_cell Tryz.isAgg3 rfl) (eq_cell_int Tryz.underlying3) (eqF_cons (by decide) (part_cell Tryz.isAgg3 rfl) (part_cell Tryz.isAgg3 rfl) (eq_cell_int Tryz.underlying3) (eqF_cons (by decide) (part_cell Tryz.isAgg9 rfl) (part_cell Tryz.isAgg9 rfl) (eq_cell_str Tryz.underlying9) (eqF_cons (by decide) (part_cell Tryz.isAgg9 rfl) (part_cell Tryz.isAgg9 rfl) (eq_cell_str Tryz.underlying9) (eqF_cons (by decide) (part_cell Tryz.isAgg9 rfl) (part_cell Tryz.isAgg9 rfl) (eq_cell_str Tryz.underlying9) (eqF_cons (by decide) (part_cell Tryz.isAgg9 rfl) (part_cell Tryz.isAgg9 rfl) (eq_cell_str Tryz.underlying9) (eqF_cons (by decide) (part_cell Tryz.isAgg3 rfl) (part_cell Tryz.isAgg3 rfl) (eq_cell_int Tryz.underlying3) (eqF_cons (by decide) (part_cell Tryz.isAgg3 rfl) (part_cell Tryz.isAgg3 rfl) (eq_cell_int Tryz.underlying3) eqF_nil))))))))
theorem rn_eql_82 {a : Act} {w : World} {x y : Operand} {u ty : TypeId} {m n : GStep} (hx : a.eval x = .agg (GStep.enc m).toArray) (hy : a.eval y = .agg (GStep.enc n).toArray) : Rn Tryz.prog a w (.binOp .eql 82 x y u) ty (.bool (decide (m = n))) :=
  rn_aeql 2 (by kernel_rfl) (fun w => eq_82 _ m n w) rfl hx hy
theorem rn_neq_82 {a : Act} {w : World} {x y : Operand} {u ty : TypeId} {m n : GStep} (hx : a.eval x = .agg (GStep.enc m).toArray) (hy : a.eval y = .agg (GStep.enc n).toArray) : Rn Tryz.prog a w (.binOp .neq 82 x y u) ty (.bool (!decide (m = n))) :=
  rn_aneq 2 (by kernel_rfl) (fun w => eq_82 _ m n w) rfl hx hy
theorem eq_92 (dd : Nat) (x y : Gswimmer_place) (w : World) : (Op.equalIn (dd + 2) 92 (.agg (Gswimmer_place.enc x).toArray) (.agg (Gswimmer_place.enc y).toArray)).run Tryz.prog w = .ok (decide (x = y)) w := by
  refine eq_of_fields (dd := dd + 1) (fs := (Tryz.prog.fieldsOf 92).toList) (by kernel_rfl) rfl (by kernel_rfl) (?_ : _ = Result.ok (decide (x.club_ = y.club_) && (decide (x.race_ = y.race_) && true)) w) (by cases x; cases y; simp [Bool.decide_and])
  simp only [Program.fieldsOf, Tryz.underlying92]
  exact (eqF_cons (by decide) (part_cell Tryz.isAgg9 rfl) (part_cell Tryz.isAgg9 rfl) (eq_cell_str Tryz.underlying9) (eqF_cons (by decide) (part_cell Tryz.isAgg9 rfl) (part_cell Tryz.isAgg9 rfl) (eq_cell_str Tryz.underlying9) eqF_nil))
theorem rn_eql_92 {a : Act} {w : World} {x y : Operand} {u ty : TypeId} {m n : Gswimmer_place} (hx : a.eval x = .agg (Gswimmer_place.enc m).toArray) (hy : a.eval y = .agg (Gswimmer_place.enc n).toArray) : Rn Tryz.prog a w (.binOp .eql 92 x y u) ty (.bool (decide (m = n))) :=
  rn_aeql 2 (by kernel_rfl) (fun w => eq_92 _ m n w) rfl hx hy
theorem rn_neq_92 {a : Act} {w : World} {x y : Operand} {u ty : TypeId} {m n : Gswimmer_place} (hx : a.eval x = .agg (Gswimmer_place.enc m).toArray) (hy : a.eval y = .agg (Gswimmer_place.enc n).toArray) : Rn Tryz.prog a w (.binOp .neq 92 x y u) ty (.bool (!decide (m = n))) :=
  rn_aneq 2 (by kernel_rfl) (fun w => eq_92 _ m n w) rfl hx hy
theorem keyT_45 : KeyT Tryz.prog 45 (fun x => Value.agg (GEntry.enc x).toArray) :=
  keyT_agg 2 rfl Tryz.underlying45 (fun em x w => chk_agg Tryz.underlying45 (by
    intro f hf _
    simp only [List.mem_cons, List.not_mem_nil, or_false] at hf
    rcases hf with rfl | rfl
    · exact ⟨_, fun w => part_cell Tryz.isAgg9 rfl, fun w => chk_str Tryz.underlying9⟩
    · exact ⟨_, fun w => part_cell Tryz.isAgg9 rfl, fun w => chk_str Tryz.underlying9⟩)) eq_45 (fun x => by simp [Instr.sameBits, GEntry.enc, beq_selfB])
theorem keyT_92 : KeyT Tryz.prog 92 (fun x => Value.agg (Gswimmer_place.enc x).toArray) :=
  keyT_agg 2 rfl Tryz.underlying92 (fun em x w => chk_agg Tryz.underlying92 (by
    intro f hf _
    simp only [List.mem_cons, List.not_mem_nil, or_false] at hf
    rcases hf with rfl | rfl
    · exact ⟨_, fun w => part_cell Tryz.isAgg9 rfl, fun w => chk_str Tryz.underlying9⟩
    · exact ⟨_, fun w => part_cell Tryz.isAgg9 rfl, fun w => chk_str Tryz.underlying9⟩)) eq_92 (fun x => by simp [Instr.sameBits, Gswimmer_place.enc, beq_selfB])
theorem bt_25 : BldT Tryz.prog 25 (.agg #[.slice none 0 0, .int .i64 0]) [(0, 1), (1, 1)] := ⟨_, Tryz.underlying25, Tryz.zeroValue25, fun _ => by kernel_rfl⟩
theorem bt_33 : BldT Tryz.prog 33 (.agg #[.int .i64 0, .int .i64 0, .int .i64 0, .int .i64 0]) [(0, 1), (1, 1), (2, 1), (3, 1)] := ⟨_, Tryz.underlying33, Tryz.zeroValue33, fun _ => by kernel_rfl⟩
theorem bt_45 : BldT Tryz.prog 45 (.agg #[.string k_empty, .string k_empty]) [(0, 1), (1, 1)] := ⟨_, Tryz.underlying45, Tryz.zeroValue45, fun _ => by kernel_rfl⟩
theorem bt_52 : BldT Tryz.prog 52 (.agg #[.string k_empty, .int .i64 0, .int .i64 0, .int .i64 0, .int .i64 0, .int .i64 0, .int .i64 0, .int .i64 0]) [(0, 1), (1, 1), (2, 1), (3, 1), (4, 1), (5, 1), (6, 1), (7, 1)] := ⟨_, Tryz.underlying52, Tryz.zeroValue52, fun _ => by kernel_rfl⟩
theorem bt_56 : BldT Tryz.prog 56 (.agg #[.string k_empty, .int .i64 0, .int .i64 0]) [(0, 1), (1, 1), (2, 1)] := ⟨_, Tryz.underlying56, Tryz.zeroValue56, fun _ => by kernel_rfl⟩
theorem bt_58 : BldT Tryz.prog 58 (.agg #[.string k_empty, .string k_empty, .int .i64 0]) [(0, 1), (1, 1), (2, 1)] := ⟨_, Tryz.underlying58, Tryz.zeroValue58, fun _ => by kernel_rfl⟩
theorem bt_67 : BldT Tryz.prog 67 (.agg #[.int .i64 0, .int .i64 0, .int .i64 0]) [(0, 1), (1, 1), (2, 1)] := ⟨_, Tryz.underlying67, Tryz.zeroValue67, fun _ => by kernel_rfl⟩
theorem bt_70 : BldT Tryz.prog 70 (.agg #[.string k_empty, .int .i64 0, .int .i64 0, .int .i64 0, .int .i64 0]) [(0, 1), (1, 1), (2, 1), (3, 1), (4, 1)] := ⟨_, Tryz.underlying70, Tryz.zeroValue70, fun _ => by kernel_rfl⟩
theorem bt_74 : BldT Tryz.prog 74 (.agg #[.string k_empty, .int .i64 0]) [(0, 1), (1, 1)] := ⟨_, Tryz.underlying74, Tryz.zeroValue74, fun _ => by kernel_rfl⟩
theorem bt_79 : BldT Tryz.prog 79 (.agg #[.string k_empty, .string k_empty, .slice none 0 0, .int .i64 0, .int .i64 0]) [(0, 1), (1, 1), (2, 1), (3, 1), (4, 1)] := ⟨_, Tryz.underlying79, Tryz.zeroValue79, fun _ => by kernel_rfl⟩
theorem bt_82 : BldT Tryz.prog 82 (.agg #[.int .i64 0, .int .i64 0, .string k_empty, .string k_empty, .string k_empty, .string k_empty, .int .i64 0, .int .i64 0]) [(0, 1), (1, 1), (2, 1), (3, 1), (4, 1), (5, 1), (6, 1), (7, 1)] := ⟨_, Tryz.underlying82, Tryz.zeroValue82, fun _ => by kernel_rfl⟩
theorem bt_92 : BldT Tryz.prog 92 (.agg #[.string k_empty, .string k_empty]) [(0, 1), (1, 1)] := ⟨_, Tryz.underlying92, Tryz.zeroValue92, fun _ => by kernel_rfl⟩
theorem bt_119 : BldT Tryz.prog 119 (.agg #[.int .i64 0, .int .i64 0]) [(0, 1), (1, 1)] := ⟨_, Tryz.underlying119, Tryz.zeroValue119, fun _ => by kernel_rfl⟩
theorem bt_121 : BldT Tryz.prog 121 (.agg #[.string k_empty, .int .i64 0, .int .i64 0, .int .i64 0]) [(0, 1), (1, 1), (2, 2)] := ⟨_, Tryz.underlying121, Tryz.zeroValue121, fun _ => by kernel_rfl⟩
end Go.Proofs.YtdcmeoefpigcdaaGreatDoor
