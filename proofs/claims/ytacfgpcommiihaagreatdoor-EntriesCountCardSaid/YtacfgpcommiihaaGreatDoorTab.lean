/- The program's tables, by program. -/
import Derived.Test.YtacfgpcommiihaaGreatDoorTw
import Derived.Test.YtacfgpcommiihaaGreatDoorLib
import Derived.Test.YtacfgpcommiihaaGreatDoorProg
namespace Go.Proofs.YtacfgpcommiihaaGreatDoor
open Go
def GRace.enc (x : GRace) : List Value := [.string x.Key, .int .i64 x.Metres, .int .i64 x.Stroke, .int .i64 x.Course, .int .i64 x.Legs, .int .i64 x.Sex, .int .i64 x.Young, .int .i64 x.Old]
theorem GRace.enc_ok : Enc 8 GRace.enc := ⟨fun _ => rfl, fun _ u h => by simp [GRace.enc] at h; rcases h with rfl | rfl | rfl | rfl | rfl | rfl | rfl | rfl <;> rfl⟩
def GSwimmer.enc (x : GSwimmer) : List Value := [.string x.Key, .int .i64 x.Sex, .int .i64 x.Born]
theorem GSwimmer.enc_ok : Enc 3 GSwimmer.enc := ⟨fun _ => rfl, fun _ u h => by simp [GSwimmer.enc] at h; rcases h with rfl | rfl | rfl <;> rfl⟩
def GMove.enc (x : GMove) : List Value := [.string x.Who, .string x.Club, .int .i64 x.Day]
theorem GMove.enc_ok : Enc 3 GMove.enc := ⟨fun _ => rfl, fun _ u h => by simp [GMove.enc] at h; rcases h with rfl | rfl | rfl <;> rfl⟩
def GBounds.enc (x : GBounds) : List Value := [.int .i64 x.Races, .int .i64 x.Club, .int .i64 x.Age, .int .i64 x.Day]
theorem GBounds.enc_ok : Enc 4 GBounds.enc := ⟨fun _ => rfl, fun _ u h => by simp [GBounds.enc] at h; rcases h with rfl | rfl | rfl | rfl <;> rfl⟩
def GEntry.enc (x : GEntry) : List Value := [.string x.Who, .string x.Race]
theorem GEntry.enc_ok : Enc 2 GEntry.enc := ⟨fun _ => rfl, fun _ u h => by simp [GEntry.enc] at h; rcases h with rfl | rfl <;> rfl⟩
def Gswimmer_place.enc (x : Gswimmer_place) : List Value := [.string x.club_, .string x.race_]
theorem Gswimmer_place.enc_ok : Enc 2 Gswimmer_place.enc := ⟨fun _ => rfl, fun _ u h => by simp [Gswimmer_place.enc] at h; rcases h with rfl | rfl <;> rfl⟩
def GDate.enc (x : GDate) : List Value := [.int .i64 x.Year, .int .i64 x.Month, .int .i64 x.Day]
theorem GDate.enc_ok : Enc 3 GDate.enc := ⟨fun _ => rfl, fun _ u h => by simp [GDate.enc] at h; rcases h with rfl | rfl | rfl <;> rfl⟩
theorem Tryz.mixed : Tryz.prog.follows .mixedOrders = true := by kernel_rfl
theorem sl_22 : SlT Tryz.prog 22 3 1 8 := slT_of (z := (.int .i64 0)) Tryz.underlying22 Tryz.sizeOf3 (by kernel_rfl) rfl
theorem sl_26 : SlT Tryz.prog 26 54 8 72 := slT_of (z := (.agg #[.string k_empty, .int .i64 0, .int .i64 0, .int .i64 0, .int .i64 0, .int .i64 0, .int .i64 0, .int .i64 0])) Tryz.underlying26 Tryz.sizeOf54 (by kernel_rfl) rfl
theorem sl_28 : SlT Tryz.prog 28 60 3 32 := slT_of (z := (.agg #[.string k_empty, .int .i64 0, .int .i64 0])) Tryz.underlying28 Tryz.sizeOf60 (by kernel_rfl) rfl
theorem sl_30 : SlT Tryz.prog 30 63 3 40 := slT_of (z := (.agg #[.string k_empty, .string k_empty, .int .i64 0])) Tryz.underlying30 Tryz.sizeOf63 (by kernel_rfl) rfl
theorem sl_35 : SlT Tryz.prog 35 65 2 32 := slT_of (z := (.agg #[.string k_empty, .string k_empty])) Tryz.underlying35 Tryz.sizeOf65 (by kernel_rfl) rfl
theorem sl_67 : SlT Tryz.prog 67 9 1 16 := slT_of (z := (.string k_empty)) Tryz.underlying67 Tryz.sizeOf9 (by kernel_rfl) rfl
theorem sl_79 : SlT Tryz.prog 79 39 1 8 := slT_of (z := (.int .i64 0)) Tryz.underlying79 Tryz.sizeOf39 (by kernel_rfl) rfl
theorem fa_25_0 : FldT Tryz.prog 25 0 0 := ⟨_, _, _, Tryz.underlying25, rfl, Tryz.sizeOf22, rfl, rfl⟩
theorem fa_25_1 : FldT Tryz.prog 25 1 1 := ⟨_, _, _, Tryz.underlying25, rfl, Tryz.sizeOf3, rfl, rfl⟩
theorem fa_33_0 : FldT Tryz.prog 33 0 0 := ⟨_, _, _, Tryz.underlying33, rfl, Tryz.sizeOf3, rfl, rfl⟩
theorem fa_33_1 : FldT Tryz.prog 33 1 1 := ⟨_, _, _, Tryz.underlying33, rfl, Tryz.sizeOf3, rfl, rfl⟩
theorem fa_33_2 : FldT Tryz.prog 33 2 2 := ⟨_, _, _, Tryz.underlying33, rfl, Tryz.sizeOf3, rfl, rfl⟩
theorem fa_33_3 : FldT Tryz.prog 33 3 3 := ⟨_, _, _, Tryz.underlying33, rfl, Tryz.sizeOf3, rfl, rfl⟩
theorem fa_54_0 : FldT Tryz.prog 54 0 0 := ⟨_, _, _, Tryz.underlying54, rfl, Tryz.sizeOf9, rfl, rfl⟩
theorem fa_54_1 : FldT Tryz.prog 54 1 1 := ⟨_, _, _, Tryz.underlying54, rfl, Tryz.sizeOf3, rfl, rfl⟩
theorem fa_54_2 : FldT Tryz.prog 54 2 2 := ⟨_, _, _, Tryz.underlying54, rfl, Tryz.sizeOf3, rfl, rfl⟩
theorem fa_54_3 : FldT Tryz.prog 54 3 3 := ⟨_, _, _, Tryz.underlying54, rfl, Tryz.sizeOf3, rfl, rfl⟩
theorem fa_54_4 : FldT Tryz.prog 54 4 4 := ⟨_, _, _, Tryz.underlying54, rfl, Tryz.sizeOf3, rfl, rfl⟩
theorem fa_54_5 : FldT Tryz.prog 54 5 5 := ⟨_, _, _, Tryz.underlying54, rfl, Tryz.sizeOf3, rfl, rfl⟩
theorem fa_54_6 : FldT Tryz.prog 54 6 6 := ⟨_, _, _, Tryz.underlying54, rfl, Tryz.sizeOf3, rfl, rfl⟩
theorem fa_54_7 : FldT Tryz.prog 54 7 7 := ⟨_, _, _, Tryz.underlying54, rfl, Tryz.sizeOf3, rfl, rfl⟩
theorem fa_60_0 : FldT Tryz.prog 60 0 0 := ⟨_, _, _, Tryz.underlying60, rfl, Tryz.sizeOf9, rfl, rfl⟩
theorem fa_60_1 : FldT Tryz.prog 60 1 1 := ⟨_, _, _, Tryz.underlying60, rfl, Tryz.sizeOf3, rfl, rfl⟩
theorem fa_60_2 : FldT Tryz.prog 60 2 2 := ⟨_, _, _, Tryz.underlying60, rfl, Tryz.sizeOf3, rfl, rfl⟩
theorem fa_63_0 : FldT Tryz.prog 63 0 0 := ⟨_, _, _, Tryz.underlying63, rfl, Tryz.sizeOf9, rfl, rfl⟩
theorem fa_63_1 : FldT Tryz.prog 63 1 1 := ⟨_, _, _, Tryz.underlying63, rfl, Tryz.sizeOf9, rfl, rfl⟩
theorem fa_63_2 : FldT Tryz.prog 63 2 2 := ⟨_, _, _, Tryz.underlying63, rfl, Tryz.sizeOf3, rfl, rfl⟩
theorem fa_65_0 : FldT Tryz.prog 65 0 0 := ⟨_, _, _, Tryz.underlying65, rfl, Tryz.sizeOf9, rfl, rfl⟩
theorem fa_65_1 : FldT Tryz.prog 65 1 1 := ⟨_, _, _, Tryz.underlying65, rfl, Tryz.sizeOf9, rfl, rfl⟩
theorem fa_77_0 : FldT Tryz.prog 77 0 0 := ⟨_, _, _, Tryz.underlying77, rfl, Tryz.sizeOf9, rfl, rfl⟩
theorem fa_89_0 : FldT Tryz.prog 89 0 0 := ⟨_, _, _, Tryz.underlying89, rfl, Tryz.sizeOf3, rfl, rfl⟩
theorem fa_89_1 : FldT Tryz.prog 89 1 1 := ⟨_, _, _, Tryz.underlying89, rfl, Tryz.sizeOf3, rfl, rfl⟩
theorem fa_89_2 : FldT Tryz.prog 89 2 2 := ⟨_, _, _, Tryz.underlying89, rfl, Tryz.sizeOf3, rfl, rfl⟩
theorem eq_65 (dd : Nat) (x y : GEntry) (w : World) : (Op.equalIn (dd + 2) 65 (.agg (GEntry.enc x).toArray) (.agg (GEntry.enc y).toArray)).run Tryz.prog w = .ok (decide (x = y)) w := by
  refine eq_of_fields (dd := dd + 1) (fs := (Tryz.prog.fieldsOf 65).toList) (by kernel_rfl) rfl (by kernel_rfl) (?_ : _ = Result.ok (decide (x.Who = y.Who) && (decide (x.Race = y.Race) && true)) w) (by cases x; cases y; simp [Bool.decide_and])
  simp only [Program.fieldsOf, Tryz.underlying65]
  exact (eqF_cons (by decide) (part_cell Tryz.isAgg9 rfl) (part_cell Tryz.isAgg9 rfl) (eq_cell_str Tryz.underlying9) (eqF_cons (by decide) (part_cell Tryz.isAgg9 rfl) (part_cell Tryz.isAgg9 rfl) (eq_cell_str Tryz.underlying9) eqF_nil))
theorem rn_eql_65 {a : Act} {w : World} {x y : Operand} {u ty : TypeId} {m n : GEntry} (hx : a.eval x = .agg (GEntry.enc m).toArray) (hy : a.eval y = .agg (GEntry.enc n).toArray) : Rn Tryz.prog a w (.binOp .eql 65 x y u) ty (.bool (decide (m = n))) :=
  rn_aeql 2 (by kernel_rfl) (fun w => eq_65 _ m n w) rfl hx hy
theorem rn_neq_65 {a : Act} {w : World} {x y : Operand} {u ty : TypeId} {m n : GEntry} (hx : a.eval x = .agg (GEntry.enc m).toArray) (hy : a.eval y = .agg (GEntry.enc n).toArray) : Rn Tryz.prog a w (.binOp .neq 65 x y u) ty (.bool (!decide (m = n))) :=
  rn_aneq 2 (by kernel_rfl) (fun w => eq_65 _ m n w) rfl hx hy
theorem eq_77 (dd : Nat) (x y : Gswimmer_place) (w : World) : (Op.equalIn (dd + 2) 77 (.agg (Gswimmer_place.enc x).toArray) (.agg (Gswimmer_place.enc y).toArray)).run Tryz.prog w = .ok (decide (x = y)) w := by
  refine eq_of_fields (dd := dd + 1) (fs := (Tryz.prog.fieldsOf 77).toList) (by kernel_rfl) rfl (by kernel_rfl) (?_ : _ = Result.ok (decide (x.club_ = y.club_) && (decide (x.race_ = y.race_) && true)) w) (by cases x; cases y; simp [Bool.decide_and])
  simp only [Program.fieldsOf, Tryz.underlying77]
  exact (eqF_cons (by decide) (part_cell Tryz.isAgg9 rfl) (part_cell Tryz.isAgg9 rfl) (eq_cell_str Tryz.underlying9) (eqF_cons (by decide) (part_cell Tryz.isAgg9 rfl) (part_cell Tryz.isAgg9 rfl) (eq_cell_str Tryz.underlying9) eqF_nil))
theorem rn_eql_77 {a : Act} {w : World} {x y : Operand} {u ty : TypeId} {m n : Gswimmer_place} (hx : a.eval x = .agg (Gswimmer_place.enc m).toArray) (hy : a.eval y = .agg (Gswimmer_place.enc n).toArray) : Rn Tryz.prog a w (.binOp .eql 77 x y u) ty (.bool (decide (m = n))) :=
  rn_aeql 2 (by kernel_rfl) (fun w => eq_77 _ m n w) rfl hx hy
theorem rn_neq_77 {a : Act} {w : World} {x y : Operand} {u ty : TypeId} {m n : Gswimmer_place} (hx : a.eval x = .agg (Gswimmer_place.enc m).toArray) (hy : a.eval y = .agg (Gswimmer_place.enc n).toArray) : Rn Tryz.prog a w (.binOp .neq 77 x y u) ty (.bool (!decide (m = n))) :=
  rn_aneq 2 (by kernel_rfl) (fun w => eq_77 _ m n w) rfl hx hy
theorem keyT_65 : KeyT Tryz.prog 65 (fun x => Value.agg (GEntry.enc x).toArray) :=
  keyT_agg 2 rfl Tryz.underlying65 (fun em x w => chk_agg Tryz.underlying65 (by
    intro f hf _
    simp only [List.mem_cons, List.not_mem_nil, or_false] at hf
    rcases hf with rfl | rfl
    · exact ⟨_, fun w => part_cell Tryz.isAgg9 rfl, fun w => chk_str Tryz.underlying9⟩
    · exact ⟨_, fun w => part_cell Tryz.isAgg9 rfl, fun w => chk_str Tryz.underlying9⟩)) eq_65 (fun x => by simp [Instr.sameBits, GEntry.enc, beq_selfB])
theorem keyT_77 : KeyT Tryz.prog 77 (fun x => Value.agg (Gswimmer_place.enc x).toArray) :=
  keyT_agg 2 rfl Tryz.underlying77 (fun em x w => chk_agg Tryz.underlying77 (by
    intro f hf _
    simp only [List.mem_cons, List.not_mem_nil, or_false] at hf
    rcases hf with rfl | rfl
    · exact ⟨_, fun w => part_cell Tryz.isAgg9 rfl, fun w => chk_str Tryz.underlying9⟩
    · exact ⟨_, fun w => part_cell Tryz.isAgg9 rfl, fun w => chk_str Tryz.underlying9⟩)) eq_77 (fun x => by simp [Instr.sameBits, Gswimmer_place.enc, beq_selfB])
theorem bt_25 : BldT Tryz.prog 25 (.agg #[.slice none 0 0, .int .i64 0]) [(0, 1), (1, 1)] := ⟨_, Tryz.underlying25, Tryz.zeroValue25, fun _ => by kernel_rfl⟩
theorem bt_33 : BldT Tryz.prog 33 (.agg #[.int .i64 0, .int .i64 0, .int .i64 0, .int .i64 0]) [(0, 1), (1, 1), (2, 1), (3, 1)] := ⟨_, Tryz.underlying33, Tryz.zeroValue33, fun _ => by kernel_rfl⟩
theorem bt_54 : BldT Tryz.prog 54 (.agg #[.string k_empty, .int .i64 0, .int .i64 0, .int .i64 0, .int .i64 0, .int .i64 0, .int .i64 0, .int .i64 0]) [(0, 1), (1, 1), (2, 1), (3, 1), (4, 1), (5, 1), (6, 1), (7, 1)] := ⟨_, Tryz.underlying54, Tryz.zeroValue54, fun _ => by kernel_rfl⟩
theorem bt_60 : BldT Tryz.prog 60 (.agg #[.string k_empty, .int .i64 0, .int .i64 0]) [(0, 1), (1, 1), (2, 1)] := ⟨_, Tryz.underlying60, Tryz.zeroValue60, fun _ => by kernel_rfl⟩
theorem bt_63 : BldT Tryz.prog 63 (.agg #[.string k_empty, .string k_empty, .int .i64 0]) [(0, 1), (1, 1), (2, 1)] := ⟨_, Tryz.underlying63, Tryz.zeroValue63, fun _ => by kernel_rfl⟩
theorem bt_65 : BldT Tryz.prog 65 (.agg #[.string k_empty, .string k_empty]) [(0, 1), (1, 1)] := ⟨_, Tryz.underlying65, Tryz.zeroValue65, fun _ => by kernel_rfl⟩
theorem bt_77 : BldT Tryz.prog 77 (.agg #[.string k_empty, .string k_empty]) [(0, 1), (1, 1)] := ⟨_, Tryz.underlying77, Tryz.zeroValue77, fun _ => by kernel_rfl⟩
theorem bt_89 : BldT Tryz.prog 89 (.agg #[.int .i64 0, .int .i64 0, .int .i64 0]) [(0, 1), (1, 1), (2, 1)] := ⟨_, Tryz.underlying89, Tryz.zeroValue89, fun _ => by kernel_rfl⟩
end Go.Proofs.YtacfgpcommiihaaGreatDoor
