/- The program's tables, by program. -/
import Derived.Test.YtoffbgomfcmfmaaGreatDoorTw
import Derived.Test.YtoffbgomfcmfmaaGreatDoorArena
import Derived.Test.YtoffbgomfcmfmaaGreatDoorProg
namespace Go.Proofs.YtoffbgomfcmfmaaGreatDoor
open Go
def GItem.enc (x : GItem) : List Value := [sV x.Key, iV x.Heats, iV x.Long, iV x.Gap, iV x.Break]
theorem GItem.enc_ok : Enc 5 GItem.enc := ⟨fun _ => rfl, fun _ u h => by simp [GItem.enc] at h; rcases h with rfl | rfl | rfl | rfl | rfl <;> rfl⟩
def GCall.enc (x : GCall) : List Value := [sV x.Who, sV x.Item, iV x.Heat]
theorem GCall.enc_ok : Enc 3 GCall.enc := ⟨fun _ => rfl, fun _ u h => by simp [GCall.enc] at h; rcases h with rfl | rfl | rfl <;> rfl⟩
def GWindow.enc (x : GWindow) : List Value := [iV x.From, iV x.To]
theorem GWindow.enc_ok : Enc 2 GWindow.enc := ⟨fun _ => rfl, fun _ u h => by simp [GWindow.enc] at h; rcases h with rfl | rfl <;> rfl⟩
def GSlot.enc (x : GSlot) : List Value := [sV x.Item, iV x.Heat, iV x.Time.From, iV x.Time.To]
theorem GSlot.enc_ok : Enc 4 GSlot.enc := ⟨fun _ => rfl, fun _ u h => by simp [GSlot.enc] at h; rcases h with rfl | rfl | rfl | rfl <;> rfl⟩
def Gsession_heat.enc (x : Gsession_heat) : List Value := [sV x.item_, iV x.heat_]
theorem Gsession_heat.enc_ok : Enc 2 Gsession_heat.enc := ⟨fun _ => rfl, fun _ u h => by simp [Gsession_heat.enc] at h; rcases h with rfl | rfl <;> rfl⟩
def GRest.enc (x : GRest) : List Value := [sV x.Who, sV x.From.Item, iV x.From.Heat, iV x.From.Time.From, iV x.From.Time.To, sV x.To.Item, iV x.To.Heat, iV x.To.Time.From, iV x.To.Time.To, iV x.Long]
theorem GRest.enc_ok : Enc 10 GRest.enc := ⟨fun _ => rfl, fun _ u h => by simp [GRest.enc] at h; rcases h with rfl | rfl | rfl | rfl | rfl | rfl | rfl | rfl | rfl | rfl <;> rfl⟩
def GPair.enc (x : GPair) : List Go.Value := [sV x.Name, sV x.Value]
theorem GPair.enc_ok : Enc 2 GPair.enc := ⟨fun _ => rfl, fun _ u h => by simp [GPair.enc] at h; rcases h with rfl | rfl <;> rfl⟩

theorem Tryz.mixed : Tryz.prog.follows .mixedOrders = true := by kernel_rfl
theorem sl_22 : SlT Tryz.prog 22 3 1 8 := slT_of (z := (iV 0)) Tryz.underlying22 Tryz.sizeOf3 (by kernel_rfl) rfl
theorem sl_26 : SlT Tryz.prog 26 69 5 48 := slT_of (z := (.agg #[sV k_empty, iV 0, iV 0, iV 0, iV 0])) Tryz.underlying26 Tryz.sizeOf69 (by kernel_rfl) rfl
theorem sl_30 : SlT Tryz.prog 30 74 3 40 := slT_of (z := (.agg #[sV k_empty, sV k_empty, iV 0])) Tryz.underlying30 Tryz.sizeOf74 (by kernel_rfl) rfl
theorem sl_33 : SlT Tryz.prog 33 57 4 40 := slT_of (z := (.agg #[sV k_empty, iV 0, iV 0, iV 0])) Tryz.underlying33 Tryz.sizeOf57 (by kernel_rfl) rfl
theorem sl_37 : SlT Tryz.prog 37 60 10 104 := slT_of (z := (.agg #[sV k_empty, sV k_empty, iV 0, iV 0, iV 0, sV k_empty, iV 0, iV 0, iV 0, iV 0])) Tryz.underlying37 Tryz.sizeOf60 (by kernel_rfl) rfl
theorem sl_41 : SlT Tryz.prog 41 63 2 32 := slT_of (z := (.agg #[sV k_empty, sV k_empty])) Tryz.underlying41 Tryz.sizeOf63 (by kernel_rfl) rfl
theorem sl_75 : SlT Tryz.prog 75 9 1 16 := slT_of (z := (sV k_empty)) Tryz.underlying75 Tryz.sizeOf9 (by kernel_rfl) rfl
theorem sl_93 : SlT Tryz.prog 93 34 1 8 := slT_of (z := (iV 0)) Tryz.underlying93 Tryz.sizeOf34 (by kernel_rfl) rfl
theorem fa_25_0 : FldT Tryz.prog 25 0 0 := ⟨_, _, _, Tryz.underlying25, rfl, Tryz.sizeOf22, rfl, rfl⟩
theorem fa_25_1 : FldT Tryz.prog 25 1 1 := ⟨_, _, _, Tryz.underlying25, rfl, Tryz.sizeOf3, rfl, rfl⟩
theorem fa_55_0 : FldT Tryz.prog 55 0 0 := ⟨_, _, _, Tryz.underlying55, rfl, Tryz.sizeOf3, rfl, rfl⟩
theorem fa_55_1 : FldT Tryz.prog 55 1 1 := ⟨_, _, _, Tryz.underlying55, rfl, Tryz.sizeOf3, rfl, rfl⟩
theorem fa_57_0 : FldT Tryz.prog 57 0 0 := ⟨_, _, _, Tryz.underlying57, rfl, Tryz.sizeOf9, rfl, rfl⟩
theorem fa_57_1 : FldT Tryz.prog 57 1 1 := ⟨_, _, _, Tryz.underlying57, rfl, Tryz.sizeOf3, rfl, rfl⟩
theorem fa_57_2 : FldT Tryz.prog 57 2 2 := ⟨_, _, _, Tryz.underlying57, rfl, Tryz.sizeOf55, rfl, rfl⟩
theorem fa_60_3 : FldT Tryz.prog 60 3 9 := ⟨_, _, _, Tryz.underlying60, rfl, Tryz.sizeOf3, rfl, rfl⟩
theorem fa_63_0 : FldT Tryz.prog 63 0 0 := ⟨_, _, _, Tryz.underlying63, rfl, Tryz.sizeOf9, rfl, rfl⟩
theorem fa_63_1 : FldT Tryz.prog 63 1 1 := ⟨_, _, _, Tryz.underlying63, rfl, Tryz.sizeOf9, rfl, rfl⟩
theorem fa_69_0 : FldT Tryz.prog 69 0 0 := ⟨_, _, _, Tryz.underlying69, rfl, Tryz.sizeOf9, rfl, rfl⟩
theorem fa_69_1 : FldT Tryz.prog 69 1 1 := ⟨_, _, _, Tryz.underlying69, rfl, Tryz.sizeOf3, rfl, rfl⟩
theorem fa_69_2 : FldT Tryz.prog 69 2 2 := ⟨_, _, _, Tryz.underlying69, rfl, Tryz.sizeOf3, rfl, rfl⟩
theorem fa_69_3 : FldT Tryz.prog 69 3 3 := ⟨_, _, _, Tryz.underlying69, rfl, Tryz.sizeOf3, rfl, rfl⟩
theorem fa_69_4 : FldT Tryz.prog 69 4 4 := ⟨_, _, _, Tryz.underlying69, rfl, Tryz.sizeOf3, rfl, rfl⟩
theorem fa_74_0 : FldT Tryz.prog 74 0 0 := ⟨_, _, _, Tryz.underlying74, rfl, Tryz.sizeOf9, rfl, rfl⟩
theorem fa_74_1 : FldT Tryz.prog 74 1 1 := ⟨_, _, _, Tryz.underlying74, rfl, Tryz.sizeOf9, rfl, rfl⟩
theorem fa_74_2 : FldT Tryz.prog 74 2 2 := ⟨_, _, _, Tryz.underlying74, rfl, Tryz.sizeOf3, rfl, rfl⟩
theorem eq_55 (dd : Nat) (x y : GWindow) (w : World) : (Op.equalIn (dd + 2) 55 (.agg (GWindow.enc x).toArray) (.agg (GWindow.enc y).toArray)).run Tryz.prog w = .ok (decide (x = y)) w := by
  refine eq_of_fields (dd := dd + 1) (fs := (Tryz.prog.fieldsOf 55).toList) (by kernel_rfl) rfl (by kernel_rfl) (?_ : _ = Result.ok (decide (x.From = y.From) && (decide (x.To = y.To) && true)) w) (by cases x; cases y; simp [Bool.decide_and])
  simp only [Program.fieldsOf, Tryz.underlying55]
  exact (eqF_cons (by decide) (part_cell Tryz.isAgg3 rfl) (part_cell Tryz.isAgg3 rfl) (eq_cell_int Tryz.underlying3) (eqF_cons (by decide) (part_cell Tryz.isAgg3 rfl) (part_cell Tryz.isAgg3 rfl) (eq_cell_int Tryz.underlying3) eqF_nil))
theorem rn_eql_55 {a : Act} {w : World} {x y : Operand} {u ty : TypeId} {m n : GWindow} (hx : a.eval x = .agg (GWindow.enc m).toArray) (hy : a.eval y = .agg (GWindow.enc n).toArray) : Rn Tryz.prog a w (.binOp .eql 55 x y u) ty (.bool (decide (m = n))) :=
  rn_aeql 2 (by kernel_rfl) (fun w => eq_55 _ m n w) rfl hx hy
theorem rn_neq_55 {a : Act} {w : World} {x y : Operand} {u ty : TypeId} {m n : GWindow} (hx : a.eval x = .agg (GWindow.enc m).toArray) (hy : a.eval y = .agg (GWindow.enc n).toArray) : Rn Tryz.prog a w (.binOp .neq 55 x y u) ty (.bool (!decide (m = n))) :=
  rn_aneq 2 (by kernel_rfl) (fun w => eq_55 _ m n w) rfl hx hy
theorem eq_57 (dd : Nat) (x y : GSlot) (w : World) : (Op.equalIn (dd + 3) 57 (.agg (GSlot.enc x).toArray) (.agg (GSlot.enc y).toArray)).run Tryz.prog w = .ok (decide (x = y)) w := by
  refine eq_of_fields (dd := dd + 2) (fs := (Tryz.prog.fieldsOf 57).toList) (by kernel_rfl) rfl (by kernel_rfl) (?_ : _ = Result.ok (decide (x.Item = y.Item) && (decide (x.Heat = y.Heat) && (decide (x.Time = y.Time) && true))) w) (by cases x; cases y; simp [Bool.decide_and])
  simp only [Program.fieldsOf, Tryz.underlying57]
  exact (eqF_cons (by decide) (part_cell Tryz.isAgg9 rfl) (part_cell Tryz.isAgg9 rfl) (eq_cell_str Tryz.underlying9) (eqF_cons (by decide) (part_cell Tryz.isAgg3 rfl) (part_cell Tryz.isAgg3 rfl) (eq_cell_int Tryz.underlying3) (eqF_cons (by decide) (part_agg (cs := GWindow.enc x.Time) Tryz.isAgg55 Tryz.sizeOf55 rfl) (part_agg (cs := GWindow.enc y.Time) Tryz.isAgg55 Tryz.sizeOf55 rfl) (eq_55 (dd + 0) x.Time y.Time w) eqF_nil)))
theorem rn_eql_57 {a : Act} {w : World} {x y : Operand} {u ty : TypeId} {m n : GSlot} (hx : a.eval x = .agg (GSlot.enc m).toArray) (hy : a.eval y = .agg (GSlot.enc n).toArray) : Rn Tryz.prog a w (.binOp .eql 57 x y u) ty (.bool (decide (m = n))) :=
  rn_aeql 3 (by kernel_rfl) (fun w => eq_57 _ m n w) rfl hx hy
theorem rn_neq_57 {a : Act} {w : World} {x y : Operand} {u ty : TypeId} {m n : GSlot} (hx : a.eval x = .agg (GSlot.enc m).toArray) (hy : a.eval y = .agg (GSlot.enc n).toArray) : Rn Tryz.prog a w (.binOp .neq 57 x y u) ty (.bool (!decide (m = n))) :=
  rn_aneq 3 (by kernel_rfl) (fun w => eq_57 _ m n w) rfl hx hy
theorem eq_60 (dd : Nat) (x y : GRest) (w : World) : (Op.equalIn (dd + 4) 60 (.agg (GRest.enc x).toArray) (.agg (GRest.enc y).toArray)).run Tryz.prog w = .ok (decide (x = y)) w := by
  refine eq_of_fields (dd := dd + 3) (fs := (Tryz.prog.fieldsOf 60).toList) (by kernel_rfl) rfl (by kernel_rfl) (?_ : _ = Result.ok (decide (x.Who = y.Who) && (decide (x.From = y.From) && (decide (x.To = y.To) && (decide (x.Long = y.Long) && true)))) w) (by cases x; cases y; simp [Bool.decide_and])
  simp only [Program.fieldsOf, Tryz.underlying60]
  exact (eqF_cons (by decide) (part_cell Tryz.isAgg9 rfl) (part_cell Tryz.isAgg9 rfl) (eq_cell_str Tryz.underlying9) (eqF_cons (by decide) (part_agg (cs := GSlot.enc x.From) Tryz.isAgg57 Tryz.sizeOf57 rfl) (part_agg (cs := GSlot.enc y.From) Tryz.isAgg57 Tryz.sizeOf57 rfl) (eq_57 (dd + 0) x.From y.From w) (eqF_cons (by decide) (part_agg (cs := GSlot.enc x.To) Tryz.isAgg57 Tryz.sizeOf57 rfl) (part_agg (cs := GSlot.enc y.To) Tryz.isAgg57 Tryz.sizeOf57 rfl) (eq_57 (dd + 0) x.To y.To w) (eqF_cons (by decide) (part_cell Tryz.isAgg3 rfl) (part_cell Tryz.isAgg3 rfl) (eq_cell_int Tryz.underlying3) eqF_nil))))
theorem rn_eql_60 {a : Act} {w : World} {x y : Operand} {u ty : TypeId} {m n : GRest} (hx : a.eval x = .agg (GRest.enc m).toArray) (hy : a.eval y = .agg (GRest.enc n).toArray) : Rn Tryz.prog a w (.binOp .eql 60 x y u) ty (.bool (decide (m = n))) :=
  rn_aeql 4 (by kernel_rfl) (fun w => eq_60 _ m n w) rfl hx hy
theorem rn_neq_60 {a : Act} {w : World} {x y : Operand} {u ty : TypeId} {m n : GRest} (hx : a.eval x = .agg (GRest.enc m).toArray) (hy : a.eval y = .agg (GRest.enc n).toArray) : Rn Tryz.prog a w (.binOp .neq 60 x y u) ty (.bool (!decide (m = n))) :=
  rn_aneq 4 (by kernel_rfl) (fun w => eq_60 _ m n w) rfl hx hy
theorem eq_63 (dd : Nat) (x y : GPair) (w : World) : (Op.equalIn (dd + 2) 63 (.agg (GPair.enc x).toArray) (.agg (GPair.enc y).toArray)).run Tryz.prog w = .ok (decide (x = y)) w := by
  refine eq_of_fields (dd := dd + 1) (fs := (Tryz.prog.fieldsOf 63).toList) (by kernel_rfl) rfl (by kernel_rfl) (?_ : _ = Result.ok (decide (x.Name = y.Name) && (decide (x.Value = y.Value) && true)) w) (by cases x; cases y; simp [Bool.decide_and])
  simp only [Program.fieldsOf, Tryz.underlying63]
  exact (eqF_cons (by decide) (part_cell Tryz.isAgg9 rfl) (part_cell Tryz.isAgg9 rfl) (eq_cell_str Tryz.underlying9) (eqF_cons (by decide) (part_cell Tryz.isAgg9 rfl) (part_cell Tryz.isAgg9 rfl) (eq_cell_str Tryz.underlying9) eqF_nil))
theorem rn_eql_63 {a : Act} {w : World} {x y : Operand} {u ty : TypeId} {m n : GPair} (hx : a.eval x = .agg (GPair.enc m).toArray) (hy : a.eval y = .agg (GPair.enc n).toArray) : Rn Tryz.prog a w (.binOp .eql 63 x y u) ty (.bool (decide (m = n))) :=
  rn_aeql 2 (by kernel_rfl) (fun w => eq_63 _ m n w) rfl hx hy
theorem rn_neq_63 {a : Act} {w : World} {x y : Operand} {u ty : TypeId} {m n : GPair} (hx : a.eval x = .agg (GPair.enc m).toArray) (hy : a.eval y = .agg (GPair.enc n).toArray) : Rn Tryz.prog a w (.binOp .neq 63 x y u) ty (.bool (!decide (m = n))) :=
  rn_aneq 2 (by kernel_rfl) (fun w => eq_63 _ m n w) rfl hx hy
theorem eq_74 (dd : Nat) (x y : GCall) (w : World) : (Op.equalIn (dd + 2) 74 (.agg (GCall.enc x).toArray) (.agg (GCall.enc y).toArray)).run Tryz.prog w = .ok (decide (x = y)) w := by
  refine eq_of_fields (dd := dd + 1) (fs := (Tryz.prog.fieldsOf 74).toList) (by kernel_rfl) rfl (by kernel_rfl) (?_ : _ = Result.ok (decide (x.Who = y.Who) && (decide (x.Item = y.Item) && (decide (x.Heat = y.Heat) && true))) w) (by cases x; cases y; simp [Bool.decide_and])
  simp only [Program.fieldsOf, Tryz.underlying74]
  exact (eqF_cons (by decide) (part_cell Tryz.isAgg9 rfl) (part_cell Tryz.isAgg9 rfl) (eq_cell_str Tryz.underlying9) (eqF_cons (by decide) (part_cell Tryz.isAgg9 rfl) (part_cell Tryz.isAgg9 rfl) (eq_cell_str Tryz.underlying9) (eqF_cons (by decide) (part_cell Tryz.isAgg3 rfl) (part_cell Tryz.isAgg3 rfl) (eq_cell_int Tryz.underlying3) eqF_nil)))
theorem rn_eql_74 {a : Act} {w : World} {x y : Operand} {u ty : TypeId} {m n : GCall} (hx : a.eval x = .agg (GCall.enc m).toArray) (hy : a.eval y = .agg (GCall.enc n).toArray) : Rn Tryz.prog a w (.binOp .eql 74 x y u) ty (.bool (decide (m = n))) :=
  rn_aeql 2 (by kernel_rfl) (fun w => eq_74 _ m n w) rfl hx hy
theorem rn_neq_74 {a : Act} {w : World} {x y : Operand} {u ty : TypeId} {m n : GCall} (hx : a.eval x = .agg (GCall.enc m).toArray) (hy : a.eval y = .agg (GCall.enc n).toArray) : Rn Tryz.prog a w (.binOp .neq 74 x y u) ty (.bool (!decide (m = n))) :=
  rn_aneq 2 (by kernel_rfl) (fun w => eq_74 _ m n w) rfl hx hy
theorem eq_109 (dd : Nat) (x y : Gsession_heat) (w : World) : (Op.equalIn (dd + 2) 109 (.agg (Gsession_heat.enc x).toArray) (.agg (Gsession_heat.enc y).toArray)).run Tryz.prog w = .ok (decide (x = y)) w := by
  refine eq_of_fields (dd := dd + 1) (fs := (Tryz.prog.fieldsOf 109).toList) (by kernel_rfl) rfl (by kernel_rfl) (?_ : _ = Result.ok (decide (x.item_ = y.item_) && (decide (x.heat_ = y.heat_) && true)) w) (by cases x; cases y; simp [Bool.decide_and])
  simp only [Program.fieldsOf, Tryz.underlying109]
  exact (eqF_cons (by decide) (part_cell Tryz.isAgg9 rfl) (part_cell Tryz.isAgg9 rfl) (eq_cell_str Tryz.underlying9) (eqF_cons (by decide) (part_cell Tryz.isAgg3 rfl) (part_cell Tryz.isAgg3 rfl) (eq_cell_int Tryz.underlying3) eqF_nil))
theorem rn_eql_109 {a : Act} {w : World} {x y : Operand} {u ty : TypeId} {m n : Gsession_heat} (hx : a.eval x = .agg (Gsession_heat.enc m).toArray) (hy : a.eval y = .agg (Gsession_heat.enc n).toArray) : Rn Tryz.prog a w (.binOp .eql 109 x y u) ty (.bool (decide (m = n))) :=
  rn_aeql 2 (by kernel_rfl) (fun w => eq_109 _ m n w) rfl hx hy
theorem rn_neq_109 {a : Act} {w : World} {x y : Operand} {u ty : TypeId} {m n : Gsession_heat} (hx : a.eval x = .agg (Gsession_heat.enc m).toArray) (hy : a.eval y = .agg (Gsession_heat.enc n).toArray) : Rn Tryz.prog a w (.binOp .neq 109 x y u) ty (.bool (!decide (m = n))) :=
  rn_aneq 2 (by kernel_rfl) (fun w => eq_109 _ m n w) rfl hx hy
theorem keyT_63 : KeyT Tryz.prog 63 (fun x => Value.agg (GPair.enc x).toArray) :=
  keyT_agg 2 rfl Tryz.underlying63 (fun em x w => chk_agg Tryz.underlying63 (by
    intro f hf _
    simp only [List.mem_cons, List.not_mem_nil, or_false] at hf
    rcases hf with rfl | rfl
    · exact ⟨_, fun w => part_cell Tryz.isAgg9 rfl, fun w => chk_str Tryz.underlying9⟩
    · exact ⟨_, fun w => part_cell Tryz.isAgg9 rfl, fun w => chk_str Tryz.underlying9⟩)) eq_63 (fun x => by simp [Instr.sameBits, GPair.enc, beq_selfB])
theorem keyT_109 : KeyT Tryz.prog 109 (fun x => Value.agg (Gsession_heat.enc x).toArray) :=
  keyT_agg 2 rfl Tryz.underlying109 (fun em x w => chk_agg Tryz.underlying109 (by
    intro f hf _
    simp only [List.mem_cons, List.not_mem_nil, or_false] at hf
    rcases hf with rfl | rfl
    · exact ⟨_, fun w => part_cell Tryz.isAgg9 rfl, fun w => chk_str Tryz.underlying9⟩
    · exact ⟨_, fun w => part_cell Tryz.isAgg3 rfl, fun w => chk_int Tryz.underlying3⟩)) eq_109 (fun x => by simp [Instr.sameBits, Gsession_heat.enc, beq_selfB])
theorem bt_25 : BldT Tryz.prog 25 (.agg #[.slice none 0 0, iV 0]) [(0, 1), (1, 1)] := ⟨_, Tryz.underlying25, Tryz.zeroValue25, fun _ => by kernel_rfl⟩
theorem bt_55 : BldT Tryz.prog 55 (.agg #[iV 0, iV 0]) [(0, 1), (1, 1)] := ⟨_, Tryz.underlying55, Tryz.zeroValue55, fun _ => by kernel_rfl⟩
theorem bt_57 : BldT Tryz.prog 57 (.agg #[sV k_empty, iV 0, iV 0, iV 0]) [(0, 1), (1, 1), (2, 2)] := ⟨_, Tryz.underlying57, Tryz.zeroValue57, fun _ => by kernel_rfl⟩
theorem bt_60 : BldT Tryz.prog 60 (.agg #[sV k_empty, sV k_empty, iV 0, iV 0, iV 0, sV k_empty, iV 0, iV 0, iV 0, iV 0]) [(0, 1), (1, 4), (5, 4), (9, 1)] := ⟨_, Tryz.underlying60, Tryz.zeroValue60, fun _ => by kernel_rfl⟩
theorem bt_63 : BldT Tryz.prog 63 (.agg #[sV k_empty, sV k_empty]) [(0, 1), (1, 1)] := ⟨_, Tryz.underlying63, Tryz.zeroValue63, fun _ => by kernel_rfl⟩
theorem bt_69 : BldT Tryz.prog 69 (.agg #[sV k_empty, iV 0, iV 0, iV 0, iV 0]) [(0, 1), (1, 1), (2, 1), (3, 1), (4, 1)] := ⟨_, Tryz.underlying69, Tryz.zeroValue69, fun _ => by kernel_rfl⟩
theorem bt_74 : BldT Tryz.prog 74 (.agg #[sV k_empty, sV k_empty, iV 0]) [(0, 1), (1, 1), (2, 1)] := ⟨_, Tryz.underlying74, Tryz.zeroValue74, fun _ => by kernel_rfl⟩
theorem bt_109 : BldT Tryz.prog 109 (.agg #[sV k_empty, iV 0]) [(0, 1), (1, 1)] := ⟨_, Tryz.underlying109, Tryz.zeroValue109, fun _ => by kernel_rfl⟩
end Go.Proofs.YtoffbgomfcmfmaaGreatDoor
