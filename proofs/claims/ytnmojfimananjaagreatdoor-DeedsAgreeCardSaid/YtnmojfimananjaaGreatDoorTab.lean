/- The program's tables, by program. -/
import Derived.Test.YtnmojfimananjaaGreatDoorTw
import Derived.Test.YtnmojfimananjaaGreatDoorArena
import Derived.Test.YtnmojfimananjaaGreatDoorProg
namespace Go.Proofs.YtnmojfimananjaaGreatDoor
open Go
def GDeed.enc (x : GDeed) : List Value := [sV x.Site, iV x.No, iV x.At, iV x.Kind, sV x.Who, sV x.Club, sV x.Race, iV x.Time, iV x.Fault, sV x.Of, iV x.Other]
theorem GDeed.enc_ok : Enc 11 GDeed.enc := ⟨fun _ => rfl, fun _ u h => by simp [GDeed.enc] at h; rcases h with rfl | rfl | rfl | rfl | rfl | rfl | rfl | rfl | rfl | rfl | rfl <;> rfl⟩
def Gmeet_place.enc (x : Gmeet_place) : List Value := [sV x.site_, iV x.no_]
theorem Gmeet_place.enc_ok : Enc 2 Gmeet_place.enc := ⟨fun _ => rfl, fun _ u h => by simp [Gmeet_place.enc] at h; rcases h with rfl | rfl <;> rfl⟩
def GDate.enc (x : GDate) : List Value := [iV x.Year, iV x.Month, iV x.Day]
theorem GDate.enc_ok : Enc 3 GDate.enc := ⟨fun _ => rfl, fun _ u h => by simp [GDate.enc] at h; rcases h with rfl | rfl | rfl <;> rfl⟩
def GItem.enc (x : GItem) : List Value := [sV x.Key, iV x.Heats, iV x.Long, iV x.Gap, iV x.Break]
theorem GItem.enc_ok : Enc 5 GItem.enc := ⟨fun _ => rfl, fun _ u h => by simp [GItem.enc] at h; rcases h with rfl | rfl | rfl | rfl | rfl <;> rfl⟩
def GWindow.enc (x : GWindow) : List Value := [iV x.From, iV x.To]
theorem GWindow.enc_ok : Enc 2 GWindow.enc := ⟨fun _ => rfl, fun _ u h => by simp [GWindow.enc] at h; rcases h with rfl | rfl <;> rfl⟩
def GSlot.enc (x : GSlot) : List Value := [sV x.Item, iV x.Heat, iV x.Time.From, iV x.Time.To]
theorem GSlot.enc_ok : Enc 4 GSlot.enc := ⟨fun _ => rfl, fun _ u h => by simp [GSlot.enc] at h; rcases h with rfl | rfl | rfl | rfl <;> rfl⟩
def GBase.enc (x : GBase) : List Value := [sV x.Race, iV x.Time]
theorem GBase.enc_ok : Enc 2 GBase.enc := ⟨fun _ => rfl, fun _ u h => by simp [GBase.enc] at h; rcases h with rfl | rfl <;> rfl⟩
def GStep.enc (x : GStep) : List Value := [iV x.At, iV x.Kind, sV x.Id, sV x.Who, sV x.Club, sV x.Race, iV x.Age, iV x.Time]
theorem GStep.enc_ok : Enc 8 GStep.enc := ⟨fun _ => rfl, fun _ u h => by simp [GStep.enc] at h; rcases h with rfl | rfl | rfl | rfl | rfl | rfl | rfl | rfl <;> rfl⟩
structure R99 where
  mk ::
  (Key : ByteArray)
  (Race : ByteArray)
  (Clubs : RS)
  (Young : Int)
  (Old : Int)
def R99.enc (x : R99) : List Value := [sV x.Key, sV x.Race, x.Clubs.val, iV x.Young, iV x.Old]
theorem R99.enc_ok : Enc 5 R99.enc := ⟨fun _ => rfl, fun x u h => by
    simp only [R99.enc, List.mem_cons, List.not_mem_nil, or_false] at h
    rcases h with rfl | rfl | rfl | rfl | rfl
    · exact rfl
    · exact rfl
    · exact x.Clubs.property
    · exact rfl
    · exact rfl⟩
def rel_99 (φ : View) (x : GKind) (r : R99) : Prop := ∃ u1 : RS, r = ⟨x.Key, x.Race, u1, x.Young, x.Old⟩ ∧ Slc φ 1 u1.val (x.Clubs.map eStr)
theorem rel_99_mono {φ ψ : View} (l : View.le φ ψ) (x : GKind) (r : R99) (h : rel_99 φ x r) : rel_99 ψ x r := by
  obtain ⟨u1, e, h1⟩ := h
  exact ⟨u1, e, h1.mono l⟩
theorem rels_99 {φ ψ : View} (l : View.le φ ψ) {xs : List GKind} {rs : List R99} (h : All2 (rel_99 φ) xs rs) : All2 (rel_99 ψ) xs rs := h.chg (rel_99_mono l)
theorem Tryz.mixed : Tryz.prog.follows .mixedOrders = true := by kernel_rfl
theorem sl_22 : SlT Tryz.prog 22 3 1 8 := slT_of (z := (iV 0)) Tryz.underlying22 Tryz.sizeOf3 (by kernel_rfl) rfl
theorem sl_26 : SlT Tryz.prog 26 32 11 128 := slT_of (z := (.agg #[sV k_empty, iV 0, iV 0, iV 0, sV k_empty, sV k_empty, sV k_empty, iV 0, iV 0, sV k_empty, iV 0])) Tryz.underlying26 Tryz.sizeOf32 (by kernel_rfl) rfl
theorem sl_61 : SlT Tryz.prog 61 9 1 16 := slT_of (z := (sV k_empty)) Tryz.underlying61 Tryz.sizeOf9 (by kernel_rfl) rfl
theorem sl_81 : SlT Tryz.prog 81 33 1 8 := slT_of (z := (iV 0)) Tryz.underlying81 Tryz.sizeOf33 (by kernel_rfl) rfl
theorem sl_91 : SlT Tryz.prog 91 90 5 48 := slT_of (z := (.agg #[sV k_empty, iV 0, iV 0, iV 0, iV 0])) Tryz.underlying91 Tryz.sizeOf90 (by kernel_rfl) rfl
theorem sl_95 : SlT Tryz.prog 95 94 2 24 := slT_of (z := (.agg #[sV k_empty, iV 0])) Tryz.underlying95 Tryz.sizeOf94 (by kernel_rfl) rfl
theorem sl_100 : SlT Tryz.prog 100 99 5 72 := slT_of (z := (.agg #[sV k_empty, sV k_empty, .slice none 0 0, iV 0, iV 0])) Tryz.underlying100 Tryz.sizeOf99 (by kernel_rfl) rfl
theorem sl_126 : SlT Tryz.prog 126 160 4 40 := slT_of (z := (.agg #[sV k_empty, iV 0, iV 0, iV 0])) Tryz.underlying126 Tryz.sizeOf160 (by kernel_rfl) rfl
theorem fa_25_0 : FldT Tryz.prog 25 0 0 := ⟨_, _, _, Tryz.underlying25, rfl, Tryz.sizeOf22, rfl, rfl⟩
theorem fa_25_1 : FldT Tryz.prog 25 1 1 := ⟨_, _, _, Tryz.underlying25, rfl, Tryz.sizeOf3, rfl, rfl⟩
theorem fa_32_0 : FldT Tryz.prog 32 0 0 := ⟨_, _, _, Tryz.underlying32, rfl, Tryz.sizeOf9, rfl, rfl⟩
theorem fa_32_1 : FldT Tryz.prog 32 1 1 := ⟨_, _, _, Tryz.underlying32, rfl, Tryz.sizeOf3, rfl, rfl⟩
theorem fa_32_2 : FldT Tryz.prog 32 2 2 := ⟨_, _, _, Tryz.underlying32, rfl, Tryz.sizeOf3, rfl, rfl⟩
theorem fa_32_3 : FldT Tryz.prog 32 3 3 := ⟨_, _, _, Tryz.underlying32, rfl, Tryz.sizeOf3, rfl, rfl⟩
theorem fa_32_4 : FldT Tryz.prog 32 4 4 := ⟨_, _, _, Tryz.underlying32, rfl, Tryz.sizeOf9, rfl, rfl⟩
theorem fa_32_5 : FldT Tryz.prog 32 5 5 := ⟨_, _, _, Tryz.underlying32, rfl, Tryz.sizeOf9, rfl, rfl⟩
theorem fa_32_6 : FldT Tryz.prog 32 6 6 := ⟨_, _, _, Tryz.underlying32, rfl, Tryz.sizeOf9, rfl, rfl⟩
theorem fa_32_7 : FldT Tryz.prog 32 7 7 := ⟨_, _, _, Tryz.underlying32, rfl, Tryz.sizeOf3, rfl, rfl⟩
theorem fa_32_8 : FldT Tryz.prog 32 8 8 := ⟨_, _, _, Tryz.underlying32, rfl, Tryz.sizeOf3, rfl, rfl⟩
theorem fa_32_9 : FldT Tryz.prog 32 9 9 := ⟨_, _, _, Tryz.underlying32, rfl, Tryz.sizeOf9, rfl, rfl⟩
theorem fa_32_10 : FldT Tryz.prog 32 10 10 := ⟨_, _, _, Tryz.underlying32, rfl, Tryz.sizeOf3, rfl, rfl⟩
theorem fa_87_0 : FldT Tryz.prog 87 0 0 := ⟨_, _, _, Tryz.underlying87, rfl, Tryz.sizeOf3, rfl, rfl⟩
theorem fa_87_1 : FldT Tryz.prog 87 1 1 := ⟨_, _, _, Tryz.underlying87, rfl, Tryz.sizeOf3, rfl, rfl⟩
theorem fa_87_2 : FldT Tryz.prog 87 2 2 := ⟨_, _, _, Tryz.underlying87, rfl, Tryz.sizeOf3, rfl, rfl⟩
theorem fa_90_0 : FldT Tryz.prog 90 0 0 := ⟨_, _, _, Tryz.underlying90, rfl, Tryz.sizeOf9, rfl, rfl⟩
theorem fa_90_1 : FldT Tryz.prog 90 1 1 := ⟨_, _, _, Tryz.underlying90, rfl, Tryz.sizeOf3, rfl, rfl⟩
theorem fa_90_2 : FldT Tryz.prog 90 2 2 := ⟨_, _, _, Tryz.underlying90, rfl, Tryz.sizeOf3, rfl, rfl⟩
theorem fa_90_3 : FldT Tryz.prog 90 3 3 := ⟨_, _, _, Tryz.underlying90, rfl, Tryz.sizeOf3, rfl, rfl⟩
theorem fa_90_4 : FldT Tryz.prog 90 4 4 := ⟨_, _, _, Tryz.underlying90, rfl, Tryz.sizeOf3, rfl, rfl⟩
theorem fa_94_0 : FldT Tryz.prog 94 0 0 := ⟨_, _, _, Tryz.underlying94, rfl, Tryz.sizeOf9, rfl, rfl⟩
theorem fa_94_1 : FldT Tryz.prog 94 1 1 := ⟨_, _, _, Tryz.underlying94, rfl, Tryz.sizeOf3, rfl, rfl⟩
theorem fa_99_0 : FldT Tryz.prog 99 0 0 := ⟨_, _, _, Tryz.underlying99, rfl, Tryz.sizeOf9, rfl, rfl⟩
theorem fa_99_1 : FldT Tryz.prog 99 1 1 := ⟨_, _, _, Tryz.underlying99, rfl, Tryz.sizeOf9, rfl, rfl⟩
theorem fa_99_2 : FldT Tryz.prog 99 2 2 := ⟨_, _, _, Tryz.underlying99, rfl, Tryz.sizeOf61, rfl, rfl⟩
theorem fa_99_3 : FldT Tryz.prog 99 3 3 := ⟨_, _, _, Tryz.underlying99, rfl, Tryz.sizeOf3, rfl, rfl⟩
theorem fa_99_4 : FldT Tryz.prog 99 4 4 := ⟨_, _, _, Tryz.underlying99, rfl, Tryz.sizeOf3, rfl, rfl⟩
theorem fa_102_0 : FldT Tryz.prog 102 0 0 := ⟨_, _, _, Tryz.underlying102, rfl, Tryz.sizeOf3, rfl, rfl⟩
theorem fa_102_1 : FldT Tryz.prog 102 1 1 := ⟨_, _, _, Tryz.underlying102, rfl, Tryz.sizeOf3, rfl, rfl⟩
theorem fa_102_2 : FldT Tryz.prog 102 2 2 := ⟨_, _, _, Tryz.underlying102, rfl, Tryz.sizeOf9, rfl, rfl⟩
theorem fa_102_3 : FldT Tryz.prog 102 3 3 := ⟨_, _, _, Tryz.underlying102, rfl, Tryz.sizeOf9, rfl, rfl⟩
theorem fa_102_4 : FldT Tryz.prog 102 4 4 := ⟨_, _, _, Tryz.underlying102, rfl, Tryz.sizeOf9, rfl, rfl⟩
theorem fa_102_5 : FldT Tryz.prog 102 5 5 := ⟨_, _, _, Tryz.underlying102, rfl, Tryz.sizeOf9, rfl, rfl⟩
theorem fa_102_6 : FldT Tryz.prog 102 6 6 := ⟨_, _, _, Tryz.underlying102, rfl, Tryz.sizeOf3, rfl, rfl⟩
theorem fa_102_7 : FldT Tryz.prog 102 7 7 := ⟨_, _, _, Tryz.underlying102, rfl, Tryz.sizeOf3, rfl, rfl⟩
theorem fa_158_1 : FldT Tryz.prog 158 1 1 := ⟨_, _, _, Tryz.underlying158, rfl, Tryz.sizeOf3, rfl, rfl⟩
theorem fa_160_2 : FldT Tryz.prog 160 2 2 := ⟨_, _, _, Tryz.underlying160, rfl, Tryz.sizeOf158, rfl, rfl⟩
theorem eq_32 (dd : Nat) (x y : GDeed) (w : World) : (Op.equalIn (dd + 2) 32 (.agg (GDeed.enc x).toArray) (.agg (GDeed.enc y).toArray)).run Tryz.prog w = .ok (decide (x = y)) w := by
  refine eq_of_fields (dd := dd + 1) (fs := (Tryz.prog.fieldsOf 32).toList) (by kernel_rfl) rfl (by kernel_rfl) (?_ : _ = Result.ok (decide (x.Site = y.Site) && (decide (x.No = y.No) && (decide (x.At = y.At) && (decide (x.Kind = y.Kind) && (decide (x.Who = y.Who) && (decide (x.Club = y.Club) && (decide (x.Race = y.Race) && (decide (x.Time = y.Time) && (decide (x.Fault = y.Fault) && (decide (x.Of = y.Of) && (decide (x.Other = y.Other) && true))))))))))) w) (by cases x; cases y; simp [Bool.decide_and])
  simp only [Program.fieldsOf, Tryz.underlying32]
  exact (eqF_cons (by decide) (part_cell Tryz.isAgg9 rfl) (part_cell Tryz.isAgg9 rfl) (eq_cell_str Tryz.underlying9) (eqF_cons (by decide) (part_cell Tryz.isAgg3 rfl) (part_cell Tryz.isAgg3 rfl) (eq_cell_int Tryz.underlying3) (eqF_cons (by decide) (part_cell Tryz.isAgg3 rfl) (part_cell Tryz.isAgg3 rfl) (eq_cell_int Tryz.underlying3) (eqF_cons (by decide) (part_cell Tryz.isAgg3 rfl) (part_cell Tryz.isAgg3 rfl) (eq_cell_int Tryz.underlying3) (eqF_cons (by decide) (part_cell Tryz.isAgg9 rfl) (part_cell Tryz.isAgg9 rfl) (eq_cell_str Tryz.underlying9) (eqF_cons (by decide) (part_cell Tryz.isAgg9 rfl) (part_cell Tryz.isAgg9 rfl) (eq_cell_str Tryz.underlying9) (eqF_cons (by decide) (part_cell Tryz.isAgg9 rfl) (part_cell Tryz.isAgg9 rfl) (eq_cell_str Tryz.underlying9) (eqF_cons (by decide) (part_cell Tryz.isAgg3 rfl) (part_cell Tryz.isAgg3 rfl) (eq_cell_int Tryz.underlying3) (eqF_cons (by decide) (part_cell Tryz.isAgg3 rfl) (part_cell Tryz.isAgg3 rfl) (eq_cell_int Tryz.underlying3) (eqF_cons (by decide) (part_cell Tryz.isAgg9 rfl) (part_cell Tryz.isAgg9 rfl) (eq_cell_str Tryz.underlying9) (eqF_cons (by decide) (part_cell Tryz.isAgg3 rfl) (part_cell Tryz.isAgg3 rfl) (eq_cell_int Tryz.underlying3) eqF_nil)))))))))))
theorem rn_eql_32 {a : Act} {w : World} {x y : Operand} {u ty : TypeId} {m n : GDeed} (hx : a.eval x = .agg (GDeed.enc m).toArray) (hy : a.eval y = .agg (GDeed.enc n).toArray) : Rn Tryz.prog a w (.binOp .eql 32 x y u) ty (.bool (decide (m = n))) :=
  rn_aeql 2 (by kernel_rfl) (fun w => eq_32 _ m n w) rfl hx hy
theorem rn_neq_32 {a : Act} {w : World} {x y : Operand} {u ty : TypeId} {m n : GDeed} (hx : a.eval x = .agg (GDeed.enc m).toArray) (hy : a.eval y = .agg (GDeed.enc n).toArray) : Rn Tryz.prog a w (.binOp .neq 32 x y u) ty (.bool (!decide (m = n))) :=
  rn_aneq 2 (by kernel_rfl) (fun w => eq_32 _ m n w) rfl hx hy
theorem eq_50 (dd : Nat) (x y : Gmeet_place) (w : World) : (Op.equalIn (dd + 2) 50 (.agg (Gmeet_place.enc x).toArray) (.agg (Gmeet_place.enc y).toArray)).run Tryz.prog w = .ok (decide (x = y)) w := by
  refine eq_of_fields (dd := dd + 1) (fs := (Tryz.prog.fieldsOf 50).toList) (by kernel_rfl) rfl (by kernel_rfl) (?_ : _ = Result.ok (decide (x.site_ = y.site_) && (decide (x.no_ = y.no_) && true)) w) (by cases x; cases y; simp [Bool.decide_and])
  simp only [Program.fieldsOf, Tryz.underlying50]
  exact (eqF_cons (by decide) (part_cell Tryz.isAgg9 rfl) (part_cell Tryz.isAgg9 rfl) (eq_cell_str Tryz.underlying9) (eqF_cons (by decide) (part_cell Tryz.isAgg3 rfl) (part_cell Tryz.isAgg3 rfl) (eq_cell_int Tryz.underlying3) eqF_nil))
theorem rn_eql_50 {a : Act} {w : World} {x y : Operand} {u ty : TypeId} {m n : Gmeet_place} (hx : a.eval x = .agg (Gmeet_place.enc m).toArray) (hy : a.eval y = .agg (Gmeet_place.enc n).toArray) : Rn Tryz.prog a w (.binOp .eql 50 x y u) ty (.bool (decide (m = n))) :=
  rn_aeql 2 (by kernel_rfl) (fun w => eq_50 _ m n w) rfl hx hy
theorem rn_neq_50 {a : Act} {w : World} {x y : Operand} {u ty : TypeId} {m n : Gmeet_place} (hx : a.eval x = .agg (Gmeet_place.enc m).toArray) (hy : a.eval y = .agg (Gmeet_place.enc n).toArray) : Rn Tryz.prog a w (.binOp .neq 50 x y u) ty (.bool (!decide (m = n))) :=
  rn_aneq 2 (by kernel_rfl) (fun w => eq_50 _ m n w) rfl hx hy
theorem eq_102 (dd : Nat) (x y : GStep) (w : World) : (Op.equalIn (dd + 2) 102 (.agg (GStep.enc x).toArray) (.agg (GStep.enc y).toArray)).run Tryz.prog w = .ok (decide (x = y)) w := by
  refine eq_of_fields (dd := dd + 1) (fs := (Tryz.prog.fieldsOf 102).toList) (by kernel_rfl) rfl (by kernel_rfl) (?_ : _ = Result.ok (decide (x.At = y.At) && (decide (x.Kind = y.Kind) && (decide (x.Id = y.Id) && (decide (x.Who = y.Who) && (decide (x.Club = y.Club) && (decide (x.Race = y.Race) && (decide (x.Age = y.Age) && (decide (x.Time = y.Time) && true)))))))) w) (by cases x; cases y; simp [Bool.decide_and])
  simp only [Program.fieldsOf, Tryz.underlying102]
  exact (eqF_cons (by decide) (part_cell Tryz.isAgg3 rfl) (part_cell Tryz.isAgg3 rfl) (eq_cell_int Tryz.underlying3) (eqF_cons (by decide) (part_cell Tryz.isAgg3 rfl) (part_cell Tryz.isAgg3 rfl) (eq_cell_int Tryz.underlying3) (eqF_cons (by decide) (part_cell Tryz.isAgg9 rfl) (part_cell Tryz.isAgg9 rfl) (eq_cell_str Tryz.underlying9) (eqF_cons (by decide) (part_cell Tryz.isAgg9 rfl) (part_cell Tryz.isAgg9 rfl) (eq_cell_str Tryz.underlying9) (eqF_cons (by decide) (part_cell Tryz.isAgg9 rfl) (part_cell Tryz.isAgg9 rfl) (eq_cell_str Tryz.underlying9) (eqF_cons (by decide) (part_cell Tryz.isAgg9 rfl) (part_cell Tryz.isAgg9 rfl) (eq_cell_str Tryz.underlying9) (eqF_cons (by decide) (part_cell Tryz.isAgg3 rfl) (part_cell Tryz.isAgg3 rfl) (eq_cell_int Tryz.underlying3) (eqF_cons (by decide) (part_cell Tryz.isAgg3 rfl) (part_cell Tryz.isAgg3 rfl) (eq_cell_int Tryz.underlying3) eqF_nil))))))))
theorem rn_eql_102 {a : Act} {w : World} {x y : Operand} {u ty : TypeId} {m n : GStep} (hx : a.eval x = .agg (GStep.enc m).toArray) (hy : a.eval y = .agg (GStep.enc n).toArray) : Rn Tryz.prog a w (.binOp .eql 102 x y u) ty (.bool (decide (m = n))) :=
  rn_aeql 2 (by kernel_rfl) (fun w => eq_102 _ m n w) rfl hx hy
theorem rn_neq_102 {a : Act} {w : World} {x y : Operand} {u ty : TypeId} {m n : GStep} (hx : a.eval x = .agg (GStep.enc m).toArray) (hy : a.eval y = .agg (GStep.enc n).toArray) : Rn Tryz.prog a w (.binOp .neq 102 x y u) ty (.bool (!decide (m = n))) :=
  rn_aneq 2 (by kernel_rfl) (fun w => eq_102 _ m n w) rfl hx hy
theorem keyT_50 : KeyT Tryz.prog 50 (fun x => Value.agg (Gmeet_place.enc x).toArray) :=
  keyT_agg 2 rfl Tryz.underlying50 (fun em x w => chk_agg Tryz.underlying50 (by
    intro f hf _
    simp only [List.mem_cons, List.not_mem_nil, or_false] at hf
    rcases hf with rfl | rfl
    · exact ⟨_, fun w => part_cell Tryz.isAgg9 rfl, fun w => chk_str Tryz.underlying9⟩
    · exact ⟨_, fun w => part_cell Tryz.isAgg3 rfl, fun w => chk_int Tryz.underlying3⟩)) eq_50 (fun x => by simp [Instr.sameBits, Gmeet_place.enc, beq_selfB])
theorem bt_25 : BldT Tryz.prog 25 (.agg #[.slice none 0 0, iV 0]) [(0, 1), (1, 1)] := ⟨_, Tryz.underlying25, Tryz.zeroValue25, fun _ => by kernel_rfl⟩
theorem bt_32 : BldT Tryz.prog 32 (.agg #[sV k_empty, iV 0, iV 0, iV 0, sV k_empty, sV k_empty, sV k_empty, iV 0, iV 0, sV k_empty, iV 0]) [(0, 1), (1, 1), (2, 1), (3, 1), (4, 1), (5, 1), (6, 1), (7, 1), (8, 1), (9, 1), (10, 1)] := ⟨_, Tryz.underlying32, Tryz.zeroValue32, fun _ => by kernel_rfl⟩
theorem bt_50 : BldT Tryz.prog 50 (.agg #[sV k_empty, iV 0]) [(0, 1), (1, 1)] := ⟨_, Tryz.underlying50, Tryz.zeroValue50, fun _ => by kernel_rfl⟩
theorem bt_87 : BldT Tryz.prog 87 (.agg #[iV 0, iV 0, iV 0]) [(0, 1), (1, 1), (2, 1)] := ⟨_, Tryz.underlying87, Tryz.zeroValue87, fun _ => by kernel_rfl⟩
theorem bt_90 : BldT Tryz.prog 90 (.agg #[sV k_empty, iV 0, iV 0, iV 0, iV 0]) [(0, 1), (1, 1), (2, 1), (3, 1), (4, 1)] := ⟨_, Tryz.underlying90, Tryz.zeroValue90, fun _ => by kernel_rfl⟩
theorem bt_94 : BldT Tryz.prog 94 (.agg #[sV k_empty, iV 0]) [(0, 1), (1, 1)] := ⟨_, Tryz.underlying94, Tryz.zeroValue94, fun _ => by kernel_rfl⟩
theorem bt_99 : BldT Tryz.prog 99 (.agg #[sV k_empty, sV k_empty, .slice none 0 0, iV 0, iV 0]) [(0, 1), (1, 1), (2, 1), (3, 1), (4, 1)] := ⟨_, Tryz.underlying99, Tryz.zeroValue99, fun _ => by kernel_rfl⟩
theorem bt_102 : BldT Tryz.prog 102 (.agg #[iV 0, iV 0, sV k_empty, sV k_empty, sV k_empty, sV k_empty, iV 0, iV 0]) [(0, 1), (1, 1), (2, 1), (3, 1), (4, 1), (5, 1), (6, 1), (7, 1)] := ⟨_, Tryz.underlying102, Tryz.zeroValue102, fun _ => by kernel_rfl⟩
theorem bt_158 : BldT Tryz.prog 158 (.agg #[iV 0, iV 0]) [(0, 1), (1, 1)] := ⟨_, Tryz.underlying158, Tryz.zeroValue158, fun _ => by kernel_rfl⟩
theorem bt_160 : BldT Tryz.prog 160 (.agg #[sV k_empty, iV 0, iV 0, iV 0]) [(0, 1), (1, 1), (2, 2)] := ⟨_, Tryz.underlying160, Tryz.zeroValue160, fun _ => by kernel_rfl⟩
end Go.Proofs.YtnmojfimananjaaGreatDoor
