/- The program's tables, by program. -/
import Derived.Test.YtefddponhjhdgaaDoorTw
import Derived.Test.YtefddponhjhdgaaDoorLib
import Derived.Test.YtefddponhjhdgaaDoorProg
namespace Go.Proofs.YtefddponhjhdgaaDoor
open Go
def GItem.enc (x : GItem) : List Value := [.string x.Key, .int .i64 x.Heats, .int .i64 x.Long, .int .i64 x.Gap, .int .i64 x.Break]
theorem GItem.enc_ok : Enc 5 GItem.enc := ⟨fun _ => rfl, fun _ u h => by simp [GItem.enc] at h; rcases h with rfl | rfl | rfl | rfl | rfl <;> rfl⟩
def GWindow.enc (x : GWindow) : List Value := [.int .i64 x.From, .int .i64 x.To]
theorem GWindow.enc_ok : Enc 2 GWindow.enc := ⟨fun _ => rfl, fun _ u h => by simp [GWindow.enc] at h; rcases h with rfl | rfl <;> rfl⟩
def GSlot.enc (x : GSlot) : List Value := [.string x.Item, .int .i64 x.Heat, .int .i64 x.Time.From, .int .i64 x.Time.To]
theorem GSlot.enc_ok : Enc 4 GSlot.enc := ⟨fun _ => rfl, fun _ u h => by simp [GSlot.enc] at h; rcases h with rfl | rfl | rfl | rfl <;> rfl⟩
def GHeld.enc (x : GHeld) : List Value := [.string x.Item, .int .i64 x.Heat, .int .i64 x.At]
theorem GHeld.enc_ok : Enc 3 GHeld.enc := ⟨fun _ => rfl, fun _ u h => by simp [GHeld.enc] at h; rcases h with rfl | rfl | rfl <;> rfl⟩
def Gsession_heat.enc (x : Gsession_heat) : List Value := [.string x.item_, .int .i64 x.heat_]
theorem Gsession_heat.enc_ok : Enc 2 Gsession_heat.enc := ⟨fun _ => rfl, fun _ u h => by simp [Gsession_heat.enc] at h; rcases h with rfl | rfl <;> rfl⟩
def GDate.enc (x : GDate) : List Value := [.int .i64 x.Year, .int .i64 x.Month, .int .i64 x.Day]
theorem GDate.enc_ok : Enc 3 GDate.enc := ⟨fun _ => rfl, fun _ u h => by simp [GDate.enc] at h; rcases h with rfl | rfl | rfl <;> rfl⟩
def GBase.enc (x : GBase) : List Value := [.string x.Race, .int .i64 x.Time]
theorem GBase.enc_ok : Enc 2 GBase.enc := ⟨fun _ => rfl, fun _ u h => by simp [GBase.enc] at h; rcases h with rfl | rfl <;> rfl⟩
def GKind.enc (x : GKind) : List Value := [.string x.Key, .string x.Race, .slice none 0 0, .int .i64 x.Young, .int .i64 x.Old]
theorem GKind.enc_ok : Enc 5 GKind.enc := ⟨fun _ => rfl, fun _ u h => by simp [GKind.enc] at h; rcases h with rfl | rfl | rfl | rfl | rfl <;> rfl⟩
def GStep.enc (x : GStep) : List Value := [.int .i64 x.At, .int .i64 x.Kind, .string x.Id, .string x.Who, .string x.Club, .string x.Race, .int .i64 x.Age, .int .i64 x.Time]
theorem GStep.enc_ok : Enc 8 GStep.enc := ⟨fun _ => rfl, fun _ u h => by simp [GStep.enc] at h; rcases h with rfl | rfl | rfl | rfl | rfl | rfl | rfl | rfl <;> rfl⟩
theorem Tryd.mixed : Tryd.prog.follows .mixedOrders = true := by kernel_rfl
theorem sl_22 : SlT Tryd.prog 22 3 1 8 := slT_of (z := (.int .i64 0)) Tryd.underlying22 Tryd.sizeOf3 (by kernel_rfl) rfl
theorem sl_26 : SlT Tryd.prog 26 37 5 48 := slT_of (z := (.agg #[.string k_empty, .int .i64 0, .int .i64 0, .int .i64 0, .int .i64 0])) Tryd.underlying26 Tryd.sizeOf37 (by kernel_rfl) rfl
theorem sl_29 : SlT Tryd.prog 29 43 4 40 := slT_of (z := (.agg #[.string k_empty, .int .i64 0, .int .i64 0, .int .i64 0])) Tryd.underlying29 Tryd.sizeOf43 (by kernel_rfl) rfl
theorem sl_34 : SlT Tryd.prog 34 48 3 32 := slT_of (z := (.agg #[.string k_empty, .int .i64 0, .int .i64 0])) Tryd.underlying34 Tryd.sizeOf48 (by kernel_rfl) rfl
theorem sl_51 : SlT Tryd.prog 51 9 1 16 := slT_of (z := (.string k_empty)) Tryd.underlying51 Tryd.sizeOf9 (by kernel_rfl) rfl
theorem sl_60 : SlT Tryd.prog 60 30 1 8 := slT_of (z := (.int .i64 0)) Tryd.underlying60 Tryd.sizeOf30 (by kernel_rfl) rfl
theorem sl_73 : SlT Tryd.prog 73 72 2 24 := slT_of (z := (.agg #[.string k_empty, .int .i64 0])) Tryd.underlying73 Tryd.sizeOf72 (by kernel_rfl) rfl
theorem sl_78 : SlT Tryd.prog 78 77 5 72 := slT_of (z := (.agg #[.string k_empty, .string k_empty, .slice none 0 0, .int .i64 0, .int .i64 0])) Tryd.underlying78 Tryd.sizeOf77 (by kernel_rfl) rfl
theorem fa_25_0 : FldT Tryd.prog 25 0 0 := ⟨_, _, _, Tryd.underlying25, rfl, Tryd.sizeOf22, rfl, rfl⟩
theorem fa_25_1 : FldT Tryd.prog 25 1 1 := ⟨_, _, _, Tryd.underlying25, rfl, Tryd.sizeOf3, rfl, rfl⟩
theorem fa_37_0 : FldT Tryd.prog 37 0 0 := ⟨_, _, _, Tryd.underlying37, rfl, Tryd.sizeOf9, rfl, rfl⟩
theorem fa_37_1 : FldT Tryd.prog 37 1 1 := ⟨_, _, _, Tryd.underlying37, rfl, Tryd.sizeOf3, rfl, rfl⟩
theorem fa_37_2 : FldT Tryd.prog 37 2 2 := ⟨_, _, _, Tryd.underlying37, rfl, Tryd.sizeOf3, rfl, rfl⟩
theorem fa_37_3 : FldT Tryd.prog 37 3 3 := ⟨_, _, _, Tryd.underlying37, rfl, Tryd.sizeOf3, rfl, rfl⟩
theorem fa_37_4 : FldT Tryd.prog 37 4 4 := ⟨_, _, _, Tryd.underlying37, rfl, Tryd.sizeOf3, rfl, rfl⟩
theorem fa_41_0 : FldT Tryd.prog 41 0 0 := ⟨_, _, _, Tryd.underlying41, rfl, Tryd.sizeOf3, rfl, rfl⟩
theorem fa_41_1 : FldT Tryd.prog 41 1 1 := ⟨_, _, _, Tryd.underlying41, rfl, Tryd.sizeOf3, rfl, rfl⟩
theorem fa_43_0 : FldT Tryd.prog 43 0 0 := ⟨_, _, _, Tryd.underlying43, rfl, Tryd.sizeOf9, rfl, rfl⟩
theorem fa_43_1 : FldT Tryd.prog 43 1 1 := ⟨_, _, _, Tryd.underlying43, rfl, Tryd.sizeOf3, rfl, rfl⟩
theorem fa_43_2 : FldT Tryd.prog 43 2 2 := ⟨_, _, _, Tryd.underlying43, rfl, Tryd.sizeOf41, rfl, rfl⟩
theorem fa_48_0 : FldT Tryd.prog 48 0 0 := ⟨_, _, _, Tryd.underlying48, rfl, Tryd.sizeOf9, rfl, rfl⟩
theorem fa_48_1 : FldT Tryd.prog 48 1 1 := ⟨_, _, _, Tryd.underlying48, rfl, Tryd.sizeOf3, rfl, rfl⟩
theorem fa_48_2 : FldT Tryd.prog 48 2 2 := ⟨_, _, _, Tryd.underlying48, rfl, Tryd.sizeOf3, rfl, rfl⟩
theorem fa_68_0 : FldT Tryd.prog 68 0 0 := ⟨_, _, _, Tryd.underlying68, rfl, Tryd.sizeOf3, rfl, rfl⟩
theorem fa_68_1 : FldT Tryd.prog 68 1 1 := ⟨_, _, _, Tryd.underlying68, rfl, Tryd.sizeOf3, rfl, rfl⟩
theorem fa_68_2 : FldT Tryd.prog 68 2 2 := ⟨_, _, _, Tryd.underlying68, rfl, Tryd.sizeOf3, rfl, rfl⟩
theorem fa_72_0 : FldT Tryd.prog 72 0 0 := ⟨_, _, _, Tryd.underlying72, rfl, Tryd.sizeOf9, rfl, rfl⟩
theorem fa_72_1 : FldT Tryd.prog 72 1 1 := ⟨_, _, _, Tryd.underlying72, rfl, Tryd.sizeOf3, rfl, rfl⟩
theorem fa_77_0 : FldT Tryd.prog 77 0 0 := ⟨_, _, _, Tryd.underlying77, rfl, Tryd.sizeOf9, rfl, rfl⟩
theorem fa_77_1 : FldT Tryd.prog 77 1 1 := ⟨_, _, _, Tryd.underlying77, rfl, Tryd.sizeOf9, rfl, rfl⟩
theorem fa_77_2 : FldT Tryd.prog 77 2 2 := ⟨_, _, _, Tryd.underlying77, rfl, Tryd.sizeOf51, rfl, rfl⟩
theorem fa_77_3 : FldT Tryd.prog 77 3 3 := ⟨_, _, _, Tryd.underlying77, rfl, Tryd.sizeOf3, rfl, rfl⟩
theorem fa_77_4 : FldT Tryd.prog 77 4 4 := ⟨_, _, _, Tryd.underlying77, rfl, Tryd.sizeOf3, rfl, rfl⟩
theorem fa_80_0 : FldT Tryd.prog 80 0 0 := ⟨_, _, _, Tryd.underlying80, rfl, Tryd.sizeOf3, rfl, rfl⟩
theorem fa_80_1 : FldT Tryd.prog 80 1 1 := ⟨_, _, _, Tryd.underlying80, rfl, Tryd.sizeOf3, rfl, rfl⟩
theorem fa_80_2 : FldT Tryd.prog 80 2 2 := ⟨_, _, _, Tryd.underlying80, rfl, Tryd.sizeOf9, rfl, rfl⟩
theorem fa_80_3 : FldT Tryd.prog 80 3 3 := ⟨_, _, _, Tryd.underlying80, rfl, Tryd.sizeOf9, rfl, rfl⟩
theorem fa_80_4 : FldT Tryd.prog 80 4 4 := ⟨_, _, _, Tryd.underlying80, rfl, Tryd.sizeOf9, rfl, rfl⟩
theorem fa_80_5 : FldT Tryd.prog 80 5 5 := ⟨_, _, _, Tryd.underlying80, rfl, Tryd.sizeOf9, rfl, rfl⟩
theorem fa_80_6 : FldT Tryd.prog 80 6 6 := ⟨_, _, _, Tryd.underlying80, rfl, Tryd.sizeOf3, rfl, rfl⟩
theorem fa_80_7 : FldT Tryd.prog 80 7 7 := ⟨_, _, _, Tryd.underlying80, rfl, Tryd.sizeOf3, rfl, rfl⟩
theorem eq_41 (dd : Nat) (x y : GWindow) (w : World) : (Op.equalIn (dd + 2) 41 (.agg (GWindow.enc x).toArray) (.agg (GWindow.enc y).toArray)).run Tryd.prog w = .ok (decide (x = y)) w := by
  refine eq_of_fields (dd := dd + 1) (fs := (Tryd.prog.fieldsOf 41).toList) (by kernel_rfl) rfl (by kernel_rfl) (?_ : _ = Result.ok (decide (x.From = y.From) && (decide (x.To = y.To) && true)) w) (by cases x; cases y; simp [Bool.decide_and])
  simp only [Program.fieldsOf, Tryd.underlying41]
  exact (eqF_cons (by decide) (part_cell Tryd.isAgg3 rfl) (part_cell Tryd.isAgg3 rfl) (eq_cell_int Tryd.underlying3) (eqF_cons (by decide) (part_cell Tryd.isAgg3 rfl) (part_cell Tryd.isAgg3 rfl) (eq_cell_int Tryd.underlying3) eqF_nil))
theorem rn_eql_41 {a : Act} {w : World} {x y : Operand} {u ty : TypeId} {m n : GWindow} (hx : a.eval x = .agg (GWindow.enc m).toArray) (hy : a.eval y = .agg (GWindow.enc n).toArray) : Rn Tryd.prog a w (.binOp .eql 41 x y u) ty (.bool (decide (m = n))) :=
  rn_aeql 2 (by kernel_rfl) (fun w => eq_41 _ m n w) rfl hx hy
theorem rn_neq_41 {a : Act} {w : World} {x y : Operand} {u ty : TypeId} {m n : GWindow} (hx : a.eval x = .agg (GWindow.enc m).toArray) (hy : a.eval y = .agg (GWindow.enc n).toArray) : Rn Tryd.prog a w (.binOp .neq 41 x y u) ty (.bool (!decide (m = n))) :=
  rn_aneq 2 (by kernel_rfl) (fun w => eq_41 _ m n w) rfl hx hy
theorem eq_43 (dd : Nat) (x y : GSlot) (w : World) : (Op.equalIn (dd + 3) 43 (.agg (GSlot.enc x).toArray) (.agg (GSlot.enc y).toArray)).run Tryd.prog w = .ok (decide (x = y)) w := by
  refine eq_of_fields (dd := dd + 2) (fs := (Tryd.prog.fieldsOf 43).toList) (by kernel_rfl) rfl (by kernel_rfl) (?_ : _ = Result.ok (decide (x.Item = y.Item) && (decide (x.Heat = y.Heat) && (decide (x.Time = y.Time) && true))) w) (by cases x; cases y; simp [Bool.decide_and])
  simp only [Program.fieldsOf, Tryd.underlying43]
  exact (eqF_cons (by decide) (part_cell Tryd.isAgg9 rfl) (part_cell Tryd.isAgg9 rfl) (eq_cell_str Tryd.underlying9) (eqF_cons (by decide) (part_cell Tryd.isAgg3 rfl) (part_cell Tryd.isAgg3 rfl) (eq_cell_int Tryd.underlying3) (eqF_cons (by decide) (part_agg (cs := GWindow.enc x.Time) Tryd.isAgg41 Tryd.sizeOf41 rfl) (part_agg (cs := GWindow.enc y.Time) Tryd.isAgg41 Tryd.sizeOf41 rfl) (eq_41 (dd + 0) x.Time y.Time w) eqF_nil)))
theorem rn_eql_43 {a : Act} {w : World} {x y : Operand} {u ty : TypeId} {m n : GSlot} (hx : a.eval x = .agg (GSlot.enc m).toArray) (hy : a.eval y = .agg (GSlot.enc n).toArray) : Rn Tryd.prog a w (.binOp .eql 43 x y u) ty (.bool (decide (m = n))) :=
  rn_aeql 3 (by kernel_rfl) (fun w => eq_43 _ m n w) rfl hx hy
theorem rn_neq_43 {a : Act} {w : World} {x y : Operand} {u ty : TypeId} {m n : GSlot} (hx : a.eval x = .agg (GSlot.enc m).toArray) (hy : a.eval y = .agg (GSlot.enc n).toArray) : Rn Tryd.prog a w (.binOp .neq 43 x y u) ty (.bool (!decide (m = n))) :=
  rn_aneq 3 (by kernel_rfl) (fun w => eq_43 _ m n w) rfl hx hy
theorem eq_80 (dd : Nat) (x y : GStep) (w : World) : (Op.equalIn (dd + 2) 80 (.agg (GStep.enc x).toArray) (.agg (GStep.enc y).toArray)).run Tryd.prog w = .ok (decide (x = y)) w := by
  refine eq_of_fields (dd := dd + 1) (fs := (Tryd.prog.fieldsOf 80).toList) (by kernel_rfl) rfl (by kernel_rfl) (?_ : _ = Result.ok (decide (x.At = y.At) && (decide (x.Kind = y.Kind) && (decide (x.Id = y.Id) && (decide (x.Who = y.Who) && (decide (x.Club = y.Club) && (decide (x.Race = y.Race) && (decide (x.Age = y.Age) && (decide (x.Time = y.Time) && true)))))))) w) (by cases x; cases y; simp [Bool.decide_and])
  simp only [Program.fieldsOf, Tryd.underlying80]
  exact (eqF_cons (by decide) (part_cell Tryd.isAgg3 rfl) (part_cell Tryd.isAgg3 rfl) (eq_cell_int Tryd.underlying3) (eqF_cons (by decide) (part_cell Tryd.isAgg3 rfl) (part_cell Tryd.isAgg3 rfl) (eq_cell_int Tryd.underlying3) (eqF_cons (by decide) (part_cell Tryd.isAgg9 rfl) (part_cell Tryd.isAgg9 rfl) (eq_cell_str Tryd.underlying9) (eqF_cons (by decide) (part_cell Tryd.isAgg9 rfl) (part_cell Tryd.isAgg9 rfl) (eq_cell_str Tryd.underlying9) (eqF_cons (by decide) (part_cell Tryd.isAgg9 rfl) (part_cell Tryd.isAgg9 rfl) (eq_cell_str Tryd.underlying9) (eqF_cons (by decide) (part_cell Tryd.isAgg9 rfl) (part_cell Tryd.isAgg9 rfl) (eq_cell_str Tryd.underlying9) (eqF_cons (by decide) (part_cell Tryd.isAgg3 rfl) (part_cell Tryd.isAgg3 rfl) (eq_cell_int Tryd.underlying3) (eqF_cons (by decide) (part_cell Tryd.isAgg3 rfl) (part_cell Tryd.isAgg3 rfl) (eq_cell_int Tryd.underlying3) eqF_nil))))))))
theorem rn_eql_80 {a : Act} {w : World} {x y : Operand} {u ty : TypeId} {m n : GStep} (hx : a.eval x = .agg (GStep.enc m).toArray) (hy : a.eval y = .agg (GStep.enc n).toArray) : Rn Tryd.prog a w (.binOp .eql 80 x y u) ty (.bool (decide (m = n))) :=
  rn_aeql 2 (by kernel_rfl) (fun w => eq_80 _ m n w) rfl hx hy
theorem rn_neq_80 {a : Act} {w : World} {x y : Operand} {u ty : TypeId} {m n : GStep} (hx : a.eval x = .agg (GStep.enc m).toArray) (hy : a.eval y = .agg (GStep.enc n).toArray) : Rn Tryd.prog a w (.binOp .neq 80 x y u) ty (.bool (!decide (m = n))) :=
  rn_aneq 2 (by kernel_rfl) (fun w => eq_80 _ m n w) rfl hx hy
theorem eq_100 (dd : Nat) (x y : Gsession_heat) (w : World) : (Op.equalIn (dd + 2) 100 (.agg (Gsession_heat.enc x).toArray) (.agg (Gsession_heat.enc y).toArray)).run Tryd.prog w = .ok (decide (x = y)) w := by
  refine eq_of_fields (dd := dd + 1) (fs := (Tryd.prog.fieldsOf 100).toList) (by kernel_rfl) rfl (by kernel_rfl) (?_ : _ = Result.ok (decide (x.item_ = y.item_) && (decide (x.heat_ = y.heat_) && true)) w) (by cases x; cases y; simp [Bool.decide_and])
  simp only [Program.fieldsOf, Tryd.underlying100]
  exact (eqF_cons (by decide) (part_cell Tryd.isAgg9 rfl) (part_cell Tryd.isAgg9 rfl) (eq_cell_str Tryd.underlying9) (eqF_cons (by decide) (part_cell Tryd.isAgg3 rfl) (part_cell Tryd.isAgg3 rfl) (eq_cell_int Tryd.underlying3) eqF_nil))
theorem rn_eql_100 {a : Act} {w : World} {x y : Operand} {u ty : TypeId} {m n : Gsession_heat} (hx : a.eval x = .agg (Gsession_heat.enc m).toArray) (hy : a.eval y = .agg (Gsession_heat.enc n).toArray) : Rn Tryd.prog a w (.binOp .eql 100 x y u) ty (.bool (decide (m = n))) :=
  rn_aeql 2 (by kernel_rfl) (fun w => eq_100 _ m n w) rfl hx hy
theorem rn_neq_100 {a : Act} {w : World} {x y : Operand} {u ty : TypeId} {m n : Gsession_heat} (hx : a.eval x = .agg (Gsession_heat.enc m).toArray) (hy : a.eval y = .agg (Gsession_heat.enc n).toArray) : Rn Tryd.prog a w (.binOp .neq 100 x y u) ty (.bool (!decide (m = n))) :=
  rn_aneq 2 (by kernel_rfl) (fun w => eq_100 _ m n w) rfl hx hy
theorem keyT_100 : KeyT Tryd.prog 100 (fun x => Value.agg (Gsession_heat.enc x).toArray) :=
  keyT_agg 2 rfl Tryd.underlying100 (fun em x w => chk_agg Tryd.underlying100 (by
    intro f hf _
    simp only [List.mem_cons, List.not_mem_nil, or_false] at hf
    rcases hf with rfl | rfl
    · exact ⟨_, fun w => part_cell Tryd.isAgg9 rfl, fun w => chk_str Tryd.underlying9⟩
    · exact ⟨_, fun w => part_cell Tryd.isAgg3 rfl, fun w => chk_int Tryd.underlying3⟩)) eq_100 (fun x => by simp [Instr.sameBits, Gsession_heat.enc, beq_selfB])
theorem bt_25 : BldT Tryd.prog 25 (.agg #[.slice none 0 0, .int .i64 0]) [(0, 1), (1, 1)] := ⟨_, Tryd.underlying25, Tryd.zeroValue25, fun _ => by kernel_rfl⟩
theorem bt_37 : BldT Tryd.prog 37 (.agg #[.string k_empty, .int .i64 0, .int .i64 0, .int .i64 0, .int .i64 0]) [(0, 1), (1, 1), (2, 1), (3, 1), (4, 1)] := ⟨_, Tryd.underlying37, Tryd.zeroValue37, fun _ => by kernel_rfl⟩
theorem bt_41 : BldT Tryd.prog 41 (.agg #[.int .i64 0, .int .i64 0]) [(0, 1), (1, 1)] := ⟨_, Tryd.underlying41, Tryd.zeroValue41, fun _ => by kernel_rfl⟩
theorem bt_43 : BldT Tryd.prog 43 (.agg #[.string k_empty, .int .i64 0, .int .i64 0, .int .i64 0]) [(0, 1), (1, 1), (2, 2)] := ⟨_, Tryd.underlying43, Tryd.zeroValue43, fun _ => by kernel_rfl⟩
theorem bt_48 : BldT Tryd.prog 48 (.agg #[.string k_empty, .int .i64 0, .int .i64 0]) [(0, 1), (1, 1), (2, 1)] := ⟨_, Tryd.underlying48, Tryd.zeroValue48, fun _ => by kernel_rfl⟩
theorem bt_68 : BldT Tryd.prog 68 (.agg #[.int .i64 0, .int .i64 0, .int .i64 0]) [(0, 1), (1, 1), (2, 1)] := ⟨_, Tryd.underlying68, Tryd.zeroValue68, fun _ => by kernel_rfl⟩
theorem bt_72 : BldT Tryd.prog 72 (.agg #[.string k_empty, .int .i64 0]) [(0, 1), (1, 1)] := ⟨_, Tryd.underlying72, Tryd.zeroValue72, fun _ => by kernel_rfl⟩
theorem bt_77 : BldT Tryd.prog 77 (.agg #[.string k_empty, .string k_empty, .slice none 0 0, .int .i64 0, .int .i64 0]) [(0, 1), (1, 1), (2, 1), (3, 1), (4, 1)] := ⟨_, Tryd.underlying77, Tryd.zeroValue77, fun _ => by kernel_rfl⟩
theorem bt_80 : BldT Tryd.prog 80 (.agg #[.int .i64 0, .int .i64 0, .string k_empty, .string k_empty, .string k_empty, .string k_empty, .int .i64 0, .int .i64 0]) [(0, 1), (1, 1), (2, 1), (3, 1), (4, 1), (5, 1), (6, 1), (7, 1)] := ⟨_, Tryd.underlying80, Tryd.zeroValue80, fun _ => by kernel_rfl⟩
theorem bt_100 : BldT Tryd.prog 100 (.agg #[.string k_empty, .int .i64 0]) [(0, 1), (1, 1)] := ⟨_, Tryd.underlying100, Tryd.zeroValue100, fun _ => by kernel_rfl⟩
end Go.Proofs.YtefddponhjhdgaaDoor
