/- The program's tables, by program. -/
import Derived.Test.YtolmdpjkmjfjdaaGreatDoorTw
import Derived.Test.YtolmdpjkmjfjdaaGreatDoorArena
import Derived.Test.YtolmdpjkmjfjdaaGreatDoorProg
namespace Go.Proofs.YtolmdpjkmjfjdaaGreatDoor
open Go
def GItem.enc (x : GItem) : List Value := [sV x.Key, iV x.Heats, iV x.Long, iV x.Gap, iV x.Break]
theorem GItem.enc_ok : Enc 5 GItem.enc := ⟨fun _ => rfl, fun _ u h => by simp [GItem.enc] at h; rcases h with rfl | rfl | rfl | rfl | rfl <;> rfl⟩
def GCall.enc (x : GCall) : List Value := [sV x.Who, sV x.Item, iV x.Heat]
theorem GCall.enc_ok : Enc 3 GCall.enc := ⟨fun _ => rfl, fun _ u h => by simp [GCall.enc] at h; rcases h with rfl | rfl | rfl <;> rfl⟩
def GWindow.enc (x : GWindow) : List Value := [iV x.From, iV x.To]
theorem GWindow.enc_ok : Enc 2 GWindow.enc := ⟨fun _ => rfl, fun _ u h => by simp [GWindow.enc] at h; rcases h with rfl | rfl <;> rfl⟩
def GSlot.enc (x : GSlot) : List Value := [sV x.Item, iV x.Heat, iV x.Time.From, iV x.Time.To]
theorem GSlot.enc_ok : Enc 4 GSlot.enc := ⟨fun _ => rfl, fun _ u h => by simp [GSlot.enc] at h; rcases h with rfl | rfl | rfl | rfl <;> rfl⟩
def GRest.enc (x : GRest) : List Value := [sV x.Who, sV x.From.Item, iV x.From.Heat, iV x.From.Time.From, iV x.From.Time.To, sV x.To.Item, iV x.To.Heat, iV x.To.Time.From, iV x.To.Time.To, iV x.Long]
theorem GRest.enc_ok : Enc 10 GRest.enc := ⟨fun _ => rfl, fun _ u h => by simp [GRest.enc] at h; rcases h with rfl | rfl | rfl | rfl | rfl | rfl | rfl | rfl | rfl | rfl <;> rfl⟩
def Gsession_heat.enc (x : Gsession_heat) : List Value := [sV x.item_, iV x.heat_]
theorem Gsession_heat.enc_ok : Enc 2 Gsession_heat.enc := ⟨fun _ => rfl, fun _ u h => by simp [Gsession_heat.enc] at h; rcases h with rfl | rfl <;> rfl⟩
def GDate.enc (x : GDate) : List Value := [iV x.Year, iV x.Month, iV x.Day]
theorem GDate.enc_ok : Enc 3 GDate.enc := ⟨fun _ => rfl, fun _ u h => by simp [GDate.enc] at h; rcases h with rfl | rfl | rfl <;> rfl⟩
def GBase.enc (x : GBase) : List Value := [sV x.Race, iV x.Time]
theorem GBase.enc_ok : Enc 2 GBase.enc := ⟨fun _ => rfl, fun _ u h => by simp [GBase.enc] at h; rcases h with rfl | rfl <;> rfl⟩
def GStep.enc (x : GStep) : List Value := [iV x.At, iV x.Kind, sV x.Id, sV x.Who, sV x.Club, sV x.Race, iV x.Age, iV x.Time]
theorem GStep.enc_ok : Enc 8 GStep.enc := ⟨fun _ => rfl, fun _ u h => by simp [GStep.enc] at h; rcases h with rfl | rfl | rfl | rfl | rfl | rfl | rfl | rfl <;> rfl⟩
structure R82 where
  mk ::
  (Key : ByteArray)
  (Race : ByteArray)
  (Clubs : RS)
  (Young : Int)
  (Old : Int)
def R82.enc (x : R82) : List Value := [sV x.Key, sV x.Race, x.Clubs.val, iV x.Young, iV x.Old]
theorem R82.enc_ok : Enc 5 R82.enc := ⟨fun _ => rfl, fun x u h => by
    simp only [R82.enc, List.mem_cons, List.not_mem_nil, or_false] at h
    rcases h with rfl | rfl | rfl | rfl | rfl
    · exact rfl
    · exact rfl
    · exact x.Clubs.property
    · exact rfl
    · exact rfl⟩
def rel_82 (φ : View) (x : GKind) (r : R82) : Prop := ∃ u1 : RS, r = ⟨x.Key, x.Race, u1, x.Young, x.Old⟩ ∧ Slc φ 1 u1.val (x.Clubs.map eStr)
theorem rel_82_mono {φ ψ : View} (l : View.le φ ψ) (x : GKind) (r : R82) (h : rel_82 φ x r) : rel_82 ψ x r := by
  obtain ⟨u1, e, h1⟩ := h
  exact ⟨u1, e, h1.mono l⟩
theorem rels_82 {φ ψ : View} (l : View.le φ ψ) {xs : List GKind} {rs : List R82} (h : All2 (rel_82 φ) xs rs) : All2 (rel_82 ψ) xs rs := h.chg (rel_82_mono l)
theorem Tryz.mixed : Tryz.prog.follows .mixedOrders = true := by kernel_rfl
theorem sl_22 : SlT Tryz.prog 22 3 1 8 := slT_of (z := (iV 0)) Tryz.underlying22 Tryz.sizeOf3 (by kernel_rfl) rfl
theorem sl_26 : SlT Tryz.prog 26 52 5 48 := slT_of (z := (.agg #[sV k_empty, iV 0, iV 0, iV 0, iV 0])) Tryz.underlying26 Tryz.sizeOf52 (by kernel_rfl) rfl
theorem sl_28 : SlT Tryz.prog 28 57 3 40 := slT_of (z := (.agg #[sV k_empty, sV k_empty, iV 0])) Tryz.underlying28 Tryz.sizeOf57 (by kernel_rfl) rfl
theorem sl_31 : SlT Tryz.prog 31 46 10 104 := slT_of (z := (.agg #[sV k_empty, sV k_empty, iV 0, iV 0, iV 0, sV k_empty, iV 0, iV 0, iV 0, iV 0])) Tryz.underlying31 Tryz.sizeOf46 (by kernel_rfl) rfl
theorem sl_37 : SlT Tryz.prog 37 9 1 16 := slT_of (z := (sV k_empty)) Tryz.underlying37 Tryz.sizeOf9 (by kernel_rfl) rfl
theorem sl_38 : SlT Tryz.prog 38 44 4 40 := slT_of (z := (.agg #[sV k_empty, iV 0, iV 0, iV 0])) Tryz.underlying38 Tryz.sizeOf44 (by kernel_rfl) rfl
theorem sl_65 : SlT Tryz.prog 65 32 1 8 := slT_of (z := (iV 0)) Tryz.underlying65 Tryz.sizeOf32 (by kernel_rfl) rfl
theorem sl_78 : SlT Tryz.prog 78 77 2 24 := slT_of (z := (.agg #[sV k_empty, iV 0])) Tryz.underlying78 Tryz.sizeOf77 (by kernel_rfl) rfl
theorem sl_83 : SlT Tryz.prog 83 82 5 72 := slT_of (z := (.agg #[sV k_empty, sV k_empty, .slice none 0 0, iV 0, iV 0])) Tryz.underlying83 Tryz.sizeOf82 (by kernel_rfl) rfl
theorem fa_25_0 : FldT Tryz.prog 25 0 0 := ⟨_, _, _, Tryz.underlying25, rfl, Tryz.sizeOf22, rfl, rfl⟩
theorem fa_25_1 : FldT Tryz.prog 25 1 1 := ⟨_, _, _, Tryz.underlying25, rfl, Tryz.sizeOf3, rfl, rfl⟩
theorem fa_42_0 : FldT Tryz.prog 42 0 0 := ⟨_, _, _, Tryz.underlying42, rfl, Tryz.sizeOf3, rfl, rfl⟩
theorem fa_42_1 : FldT Tryz.prog 42 1 1 := ⟨_, _, _, Tryz.underlying42, rfl, Tryz.sizeOf3, rfl, rfl⟩
theorem fa_44_0 : FldT Tryz.prog 44 0 0 := ⟨_, _, _, Tryz.underlying44, rfl, Tryz.sizeOf9, rfl, rfl⟩
theorem fa_44_1 : FldT Tryz.prog 44 1 1 := ⟨_, _, _, Tryz.underlying44, rfl, Tryz.sizeOf3, rfl, rfl⟩
theorem fa_44_2 : FldT Tryz.prog 44 2 2 := ⟨_, _, _, Tryz.underlying44, rfl, Tryz.sizeOf42, rfl, rfl⟩
theorem fa_46_0 : FldT Tryz.prog 46 0 0 := ⟨_, _, _, Tryz.underlying46, rfl, Tryz.sizeOf9, rfl, rfl⟩
theorem fa_46_3 : FldT Tryz.prog 46 3 9 := ⟨_, _, _, Tryz.underlying46, rfl, Tryz.sizeOf3, rfl, rfl⟩
theorem fa_52_0 : FldT Tryz.prog 52 0 0 := ⟨_, _, _, Tryz.underlying52, rfl, Tryz.sizeOf9, rfl, rfl⟩
theorem fa_52_1 : FldT Tryz.prog 52 1 1 := ⟨_, _, _, Tryz.underlying52, rfl, Tryz.sizeOf3, rfl, rfl⟩
theorem fa_52_2 : FldT Tryz.prog 52 2 2 := ⟨_, _, _, Tryz.underlying52, rfl, Tryz.sizeOf3, rfl, rfl⟩
theorem fa_52_3 : FldT Tryz.prog 52 3 3 := ⟨_, _, _, Tryz.underlying52, rfl, Tryz.sizeOf3, rfl, rfl⟩
theorem fa_52_4 : FldT Tryz.prog 52 4 4 := ⟨_, _, _, Tryz.underlying52, rfl, Tryz.sizeOf3, rfl, rfl⟩
theorem fa_57_0 : FldT Tryz.prog 57 0 0 := ⟨_, _, _, Tryz.underlying57, rfl, Tryz.sizeOf9, rfl, rfl⟩
theorem fa_57_1 : FldT Tryz.prog 57 1 1 := ⟨_, _, _, Tryz.underlying57, rfl, Tryz.sizeOf9, rfl, rfl⟩
theorem fa_57_2 : FldT Tryz.prog 57 2 2 := ⟨_, _, _, Tryz.underlying57, rfl, Tryz.sizeOf3, rfl, rfl⟩
theorem fa_73_0 : FldT Tryz.prog 73 0 0 := ⟨_, _, _, Tryz.underlying73, rfl, Tryz.sizeOf3, rfl, rfl⟩
theorem fa_73_1 : FldT Tryz.prog 73 1 1 := ⟨_, _, _, Tryz.underlying73, rfl, Tryz.sizeOf3, rfl, rfl⟩
theorem fa_73_2 : FldT Tryz.prog 73 2 2 := ⟨_, _, _, Tryz.underlying73, rfl, Tryz.sizeOf3, rfl, rfl⟩
theorem fa_77_0 : FldT Tryz.prog 77 0 0 := ⟨_, _, _, Tryz.underlying77, rfl, Tryz.sizeOf9, rfl, rfl⟩
theorem fa_77_1 : FldT Tryz.prog 77 1 1 := ⟨_, _, _, Tryz.underlying77, rfl, Tryz.sizeOf3, rfl, rfl⟩
theorem fa_82_0 : FldT Tryz.prog 82 0 0 := ⟨_, _, _, Tryz.underlying82, rfl, Tryz.sizeOf9, rfl, rfl⟩
theorem fa_82_1 : FldT Tryz.prog 82 1 1 := ⟨_, _, _, Tryz.underlying82, rfl, Tryz.sizeOf9, rfl, rfl⟩
theorem fa_82_2 : FldT Tryz.prog 82 2 2 := ⟨_, _, _, Tryz.underlying82, rfl, Tryz.sizeOf37, rfl, rfl⟩
theorem fa_82_3 : FldT Tryz.prog 82 3 3 := ⟨_, _, _, Tryz.underlying82, rfl, Tryz.sizeOf3, rfl, rfl⟩
theorem fa_82_4 : FldT Tryz.prog 82 4 4 := ⟨_, _, _, Tryz.underlying82, rfl, Tryz.sizeOf3, rfl, rfl⟩
theorem fa_85_0 : FldT Tryz.prog 85 0 0 := ⟨_, _, _, Tryz.underlying85, rfl, Tryz.sizeOf3, rfl, rfl⟩
theorem fa_85_1 : FldT Tryz.prog 85 1 1 := ⟨_, _, _, Tryz.underlying85, rfl, Tryz.sizeOf3, rfl, rfl⟩
theorem fa_85_2 : FldT Tryz.prog 85 2 2 := ⟨_, _, _, Tryz.underlying85, rfl, Tryz.sizeOf9, rfl, rfl⟩
theorem fa_85_3 : FldT Tryz.prog 85 3 3 := ⟨_, _, _, Tryz.underlying85, rfl, Tryz.sizeOf9, rfl, rfl⟩
theorem fa_85_4 : FldT Tryz.prog 85 4 4 := ⟨_, _, _, Tryz.underlying85, rfl, Tryz.sizeOf9, rfl, rfl⟩
theorem fa_85_5 : FldT Tryz.prog 85 5 5 := ⟨_, _, _, Tryz.underlying85, rfl, Tryz.sizeOf9, rfl, rfl⟩
theorem fa_85_6 : FldT Tryz.prog 85 6 6 := ⟨_, _, _, Tryz.underlying85, rfl, Tryz.sizeOf3, rfl, rfl⟩
theorem fa_85_7 : FldT Tryz.prog 85 7 7 := ⟨_, _, _, Tryz.underlying85, rfl, Tryz.sizeOf3, rfl, rfl⟩
theorem eq_85 (dd : Nat) (x y : GStep) (w : World) : (Op.equalIn (dd + 2) 85 (.agg (GStep.enc x).toArray) (.agg (GStep.enc y).toArray)).run Tryz.prog w = .ok (decide (x = y)) w := by
  refine eq_of_fields (dd := dd + 1) (fs := (Tryz.prog.fieldsOf 85).toList) (by kernel_rfl) rfl (by kernel_rfl) (?_ : _ = Result.ok (decide (x.At = y.At) && (decide (x.Kind = y.Kind) && (decide (x.Id = y.Id) && (decide (x.Who = y.Who) && (decide (x.Club = y.Club) && (decide (x.Race = y.Race) && (decide (x.Age = y.Age) && (decide (x.Time = y.Time) && true)))))))) w) (by cases x; cases y; simp [Bool.decide_and])
  simp only [Program.fieldsOf, Tryz.underlying85]
  exact (eqF_cons (by decide) (part_cell Tryz.isAgg3 rfl) (part_cell Tryz.isAgg3 rfl) (eq_cell_int Tryz.underlying3) (eqF_cons (by decide) (part_cell Tryz.isAgg3 rfl) (part_cell Tryz.isAgg3 rfl) (eq_cell_int Tryz.underlying3) (eqF_cons (by decide) (part_cell Tryz.isAgg9 rfl) (part_cell Tryz.isAgg9 rfl) (eq_cell_str Tryz.underlying9) (eqF_cons (by decide) (part_cell Tryz.isAgg9 rfl) (part_cell Tryz.isAgg9 rfl) (eq_cell_str Tryz.underlying9) (eqF_cons (by decide) (part_cell Tryz.isAgg9 rfl) (part_cell Tryz.isAgg9 rfl) (eq_cell_str Tryz.underlying9) (eqF_cons (by decide) (part_cell Tryz.isAgg9 rfl) (part_cell Tryz.isAgg9 rfl) (eq_cell_str Tryz.underlying9) (eqF_cons (by decide) (part_cell Tryz.isAgg3 rfl) (part_cell Tryz.isAgg3 rfl) (eq_cell_int Tryz.underlying3) (eqF_cons (by decide) (part_cell Tryz.isAgg3 rfl) (part_cell Tryz.isAgg3 rfl) (eq_cell_int Tryz.underlying3) eqF_nil))))))))
theorem rn_eql_85 {a : Act} {w : World} {x y : Operand} {u ty : TypeId} {m n : GStep} (hx : a.eval x = .agg (GStep.enc m).toArray) (hy : a.eval y = .agg (GStep.enc n).toArray) : Rn Tryz.prog a w (.binOp .eql 85 x y u) ty (.bool (decide (m = n))) :=
  rn_aeql 2 (by kernel_rfl) (fun w => eq_85 _ m n w) rfl hx hy
theorem rn_neq_85 {a : Act} {w : World} {x y : Operand} {u ty : TypeId} {m n : GStep} (hx : a.eval x = .agg (GStep.enc m).toArray) (hy : a.eval y = .agg (GStep.enc n).toArray) : Rn Tryz.prog a w (.binOp .neq 85 x y u) ty (.bool (!decide (m = n))) :=
  rn_aneq 2 (by kernel_rfl) (fun w => eq_85 _ m n w) rfl hx hy
theorem eq_97 (dd : Nat) (x y : Gsession_heat) (w : World) : (Op.equalIn (dd + 2) 97 (.agg (Gsession_heat.enc x).toArray) (.agg (Gsession_heat.enc y).toArray)).run Tryz.prog w = .ok (decide (x = y)) w := by
  refine eq_of_fields (dd := dd + 1) (fs := (Tryz.prog.fieldsOf 97).toList) (by kernel_rfl) rfl (by kernel_rfl) (?_ : _ = Result.ok (decide (x.item_ = y.item_) && (decide (x.heat_ = y.heat_) && true)) w) (by cases x; cases y; simp [Bool.decide_and])
  simp only [Program.fieldsOf, Tryz.underlying97]
  exact (eqF_cons (by decide) (part_cell Tryz.isAgg9 rfl) (part_cell Tryz.isAgg9 rfl) (eq_cell_str Tryz.underlying9) (eqF_cons (by decide) (part_cell Tryz.isAgg3 rfl) (part_cell Tryz.isAgg3 rfl) (eq_cell_int Tryz.underlying3) eqF_nil))
theorem rn_eql_97 {a : Act} {w : World} {x y : Operand} {u ty : TypeId} {m n : Gsession_heat} (hx : a.eval x = .agg (Gsession_heat.enc m).toArray) (hy : a.eval y = .agg (Gsession_heat.enc n).toArray) : Rn Tryz.prog a w (.binOp .eql 97 x y u) ty (.bool (decide (m = n))) :=
  rn_aeql 2 (by kernel_rfl) (fun w => eq_97 _ m n w) rfl hx hy
theorem rn_neq_97 {a : Act} {w : World} {x y : Operand} {u ty : TypeId} {m n : Gsession_heat} (hx : a.eval x = .agg (Gsession_heat.enc m).toArray) (hy : a.eval y = .agg (Gsession_heat.enc n).toArray) : Rn Tryz.prog a w (.binOp .neq 97 x y u) ty (.bool (!decide (m = n))) :=
  rn_aneq 2 (by kernel_rfl) (fun w => eq_97 _ m n w) rfl hx hy
theorem keyT_97 : KeyT Tryz.prog 97 (fun x => Value.agg (Gsession_heat.enc x).toArray) :=
  keyT_agg 2 rfl Tryz.underlying97 (fun em x w => chk_agg Tryz.underlying97 (by
    intro f hf _
    simp only [List.mem_cons, List.not_mem_nil, or_false] at hf
    rcases hf with rfl | rfl
    · exact ⟨_, fun w => part_cell Tryz.isAgg9 rfl, fun w => chk_str Tryz.underlying9⟩
    · exact ⟨_, fun w => part_cell Tryz.isAgg3 rfl, fun w => chk_int Tryz.underlying3⟩)) eq_97 (fun x => by simp [Instr.sameBits, Gsession_heat.enc, beq_selfB])
theorem bt_25 : BldT Tryz.prog 25 (.agg #[.slice none 0 0, iV 0]) [(0, 1), (1, 1)] := ⟨_, Tryz.underlying25, Tryz.zeroValue25, fun _ => by kernel_rfl⟩
theorem bt_42 : BldT Tryz.prog 42 (.agg #[iV 0, iV 0]) [(0, 1), (1, 1)] := ⟨_, Tryz.underlying42, Tryz.zeroValue42, fun _ => by kernel_rfl⟩
theorem bt_44 : BldT Tryz.prog 44 (.agg #[sV k_empty, iV 0, iV 0, iV 0]) [(0, 1), (1, 1), (2, 2)] := ⟨_, Tryz.underlying44, Tryz.zeroValue44, fun _ => by kernel_rfl⟩
theorem bt_46 : BldT Tryz.prog 46 (.agg #[sV k_empty, sV k_empty, iV 0, iV 0, iV 0, sV k_empty, iV 0, iV 0, iV 0, iV 0]) [(0, 1), (1, 4), (5, 4), (9, 1)] := ⟨_, Tryz.underlying46, Tryz.zeroValue46, fun _ => by kernel_rfl⟩
theorem bt_52 : BldT Tryz.prog 52 (.agg #[sV k_empty, iV 0, iV 0, iV 0, iV 0]) [(0, 1), (1, 1), (2, 1), (3, 1), (4, 1)] := ⟨_, Tryz.underlying52, Tryz.zeroValue52, fun _ => by kernel_rfl⟩
theorem bt_57 : BldT Tryz.prog 57 (.agg #[sV k_empty, sV k_empty, iV 0]) [(0, 1), (1, 1), (2, 1)] := ⟨_, Tryz.underlying57, Tryz.zeroValue57, fun _ => by kernel_rfl⟩
theorem bt_73 : BldT Tryz.prog 73 (.agg #[iV 0, iV 0, iV 0]) [(0, 1), (1, 1), (2, 1)] := ⟨_, Tryz.underlying73, Tryz.zeroValue73, fun _ => by kernel_rfl⟩
theorem bt_77 : BldT Tryz.prog 77 (.agg #[sV k_empty, iV 0]) [(0, 1), (1, 1)] := ⟨_, Tryz.underlying77, Tryz.zeroValue77, fun _ => by kernel_rfl⟩
theorem bt_82 : BldT Tryz.prog 82 (.agg #[sV k_empty, sV k_empty, .slice none 0 0, iV 0, iV 0]) [(0, 1), (1, 1), (2, 1), (3, 1), (4, 1)] := ⟨_, Tryz.underlying82, Tryz.zeroValue82, fun _ => by kernel_rfl⟩
theorem bt_85 : BldT Tryz.prog 85 (.agg #[iV 0, iV 0, sV k_empty, sV k_empty, sV k_empty, sV k_empty, iV 0, iV 0]) [(0, 1), (1, 1), (2, 1), (3, 1), (4, 1), (5, 1), (6, 1), (7, 1)] := ⟨_, Tryz.underlying85, Tryz.zeroValue85, fun _ => by kernel_rfl⟩
theorem bt_97 : BldT Tryz.prog 97 (.agg #[sV k_empty, iV 0]) [(0, 1), (1, 1)] := ⟨_, Tryz.underlying97, Tryz.zeroValue97, fun _ => by kernel_rfl⟩
end Go.Proofs.YtolmdpjkmjfjdaaGreatDoor
