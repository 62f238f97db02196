/- The program's tables, by program. -/
import Derived.Test.YtmdjmbbmlohnlaaGreatDoorTw
import Derived.Test.YtmdjmbbmlohnlaaGreatDoorArena
import Derived.Test.YtmdjmbbmlohnlaaGreatDoorProg
namespace Go.Proofs.YtmdjmbbmlohnlaaGreatDoor
open Go
def GScored.enc (x : GScored) : List Value := [sV x.Race, sV x.Who, sV x.Club, iV x.Rank, bV x.Relay]
theorem GScored.enc_ok : Enc 5 GScored.enc := ⟨fun _ => rfl, fun _ u h => by simp [GScored.enc] at h; rcases h with rfl | rfl | rfl | rfl | rfl <;> rfl⟩
def Gpoints_entry.enc (x : Gpoints_entry) : List Value := [sV x.race_, sV x.who_]
theorem Gpoints_entry.enc_ok : Enc 2 Gpoints_entry.enc := ⟨fun _ => rfl, fun _ u h => by simp [Gpoints_entry.enc] at h; rcases h with rfl | rfl <;> rfl⟩
def GFraction.enc (x : GFraction) : List Value := [iV x.Num, iV x.Den]
theorem GFraction.enc_ok : Enc 2 GFraction.enc := ⟨fun _ => rfl, fun _ u h => by simp [GFraction.enc] at h; rcases h with rfl | rfl <;> rfl⟩
def GGiven.enc (x : GGiven) : List Value := [sV x.Key, iV x.Points.Num, iV x.Points.Den]
theorem GGiven.enc_ok : Enc 3 GGiven.enc := ⟨fun _ => rfl, fun _ u h => by simp [GGiven.enc] at h; rcases h with rfl | rfl | rfl <;> rfl⟩
def Gpoints_row.enc (x : Gpoints_row) : List Value := [sV x.x_.Race, sV x.x_.Who, sV x.x_.Club, iV x.x_.Rank, bV x.x_.Relay, iV x.points_.Num, iV x.points_.Den]
theorem Gpoints_row.enc_ok : Enc 7 Gpoints_row.enc := ⟨fun _ => rfl, fun _ u h => by simp [Gpoints_row.enc] at h; rcases h with rfl | rfl | rfl | rfl | rfl | rfl | rfl <;> rfl⟩
def Gno_is_e.enc (x : Gno_is_e) : List Value := [bV x.is_, iV x.e_]
theorem Gno_is_e.enc_ok : Enc 2 Gno_is_e.enc := ⟨fun _ => rfl, fun _ u h => by simp [Gno_is_e.enc] at h; rcases h with rfl | rfl <;> rfl⟩
def GBase.enc (x : GBase) : List Value := [sV x.Race, iV x.Time]
theorem GBase.enc_ok : Enc 2 GBase.enc := ⟨fun _ => rfl, fun _ u h => by simp [GBase.enc] at h; rcases h with rfl | rfl <;> rfl⟩
structure R27 where
  mk ::
  (Points : RS)
  (Relay : Int)
  (Most : Int)
def R27.enc (x : R27) : List Value := [x.Points.val, iV x.Relay, iV x.Most]
theorem R27.enc_ok : Enc 3 R27.enc := ⟨fun _ => rfl, fun x u h => by
    simp only [R27.enc, List.mem_cons, List.not_mem_nil, or_false] at h
    rcases h with rfl | rfl | rfl
    · exact x.Points.property
    · exact rfl
    · exact rfl⟩
def rel_27 (φ : View) (x : GTable) (r : R27) : Prop := ∃ u1 : RS, r = ⟨u1, x.Relay, x.Most⟩ ∧ Slc φ 1 u1.val (x.Points.map eInt)
theorem rel_27_mono {φ ψ : View} (l : View.le φ ψ) (x : GTable) (r : R27) (h : rel_27 φ x r) : rel_27 ψ x r := by
  obtain ⟨u1, e, h1⟩ := h
  exact ⟨u1, e, h1.mono l⟩
theorem rels_27 {φ ψ : View} (l : View.le φ ψ) {xs : List GTable} {rs : List R27} (h : All2 (rel_27 φ) xs rs) : All2 (rel_27 ψ) xs rs := h.chg (rel_27_mono l)
def rel_29 (φ : View) (x : (List GScored)) (r : RS) : Prop := Slc φ 5 r.val (x.map GScored.enc)
theorem rel_29_mono {φ ψ : View} (l : View.le φ ψ) (x : (List GScored)) (r : RS) (h : rel_29 φ x r) : rel_29 ψ x r := Slc.mono h l
theorem rels_29 {φ ψ : View} (l : View.le φ ψ) {xs : List (List GScored)} {rs : List RS} (h : All2 (rel_29 φ) xs rs) : All2 (rel_29 ψ) xs rs := h.chg (rel_29_mono l)
theorem Tryz.mixed : Tryz.prog.follows .mixedOrders = true := by kernel_rfl
theorem sl_22 : SlT Tryz.prog 22 3 1 8 := slT_of (z := (iV 0)) Tryz.underlying22 Tryz.sizeOf3 (by kernel_rfl) rfl
theorem sl_29 : SlT Tryz.prog 29 54 5 64 := slT_of (z := (.agg #[sV k_empty, sV k_empty, sV k_empty, iV 0, bV false])) Tryz.underlying29 Tryz.sizeOf54 (by kernel_rfl) rfl
theorem sl_31 : SlT Tryz.prog 31 45 3 32 := slT_of (z := (.agg #[sV k_empty, iV 0, iV 0])) Tryz.underlying31 Tryz.sizeOf45 (by kernel_rfl) rfl
theorem sl_58 : SlT Tryz.prog 58 61 7 80 := slT_of (z := (.agg #[sV k_empty, sV k_empty, sV k_empty, iV 0, bV false, iV 0, iV 0])) Tryz.underlying58 Tryz.sizeOf61 (by kernel_rfl) rfl
theorem sl_68 : SlT Tryz.prog 68 32 1 8 := slT_of (z := (iV 0)) Tryz.underlying68 Tryz.sizeOf32 (by kernel_rfl) rfl
theorem sl_73 : SlT Tryz.prog 73 72 2 16 := slT_of (z := (.agg #[bV false, iV 0])) Tryz.underlying73 Tryz.sizeOf72 (by kernel_rfl) rfl
theorem sl_78 : SlT Tryz.prog 78 77 2 24 := slT_of (z := (.agg #[sV k_empty, iV 0])) Tryz.underlying78 Tryz.sizeOf77 (by kernel_rfl) rfl
theorem sl_81 : SlT Tryz.prog 81 9 1 16 := slT_of (z := (sV k_empty)) Tryz.underlying81 Tryz.sizeOf9 (by kernel_rfl) rfl
theorem sl_87 : SlT Tryz.prog 87 29 1 24 := slT_of (z := (.slice none 0 0)) Tryz.underlying87 Tryz.sizeOf29 (by kernel_rfl) rfl
theorem fa_25_0 : FldT Tryz.prog 25 0 0 := ⟨_, _, _, Tryz.underlying25, rfl, Tryz.sizeOf22, rfl, rfl⟩
theorem fa_25_1 : FldT Tryz.prog 25 1 1 := ⟨_, _, _, Tryz.underlying25, rfl, Tryz.sizeOf3, rfl, rfl⟩
theorem fa_27_0 : FldT Tryz.prog 27 0 0 := ⟨_, _, _, Tryz.underlying27, rfl, Tryz.sizeOf22, rfl, rfl⟩
theorem fa_27_1 : FldT Tryz.prog 27 1 1 := ⟨_, _, _, Tryz.underlying27, rfl, Tryz.sizeOf3, rfl, rfl⟩
theorem fa_27_2 : FldT Tryz.prog 27 2 2 := ⟨_, _, _, Tryz.underlying27, rfl, Tryz.sizeOf3, rfl, rfl⟩
theorem fa_36_0 : FldT Tryz.prog 36 0 0 := ⟨_, _, _, Tryz.underlying36, rfl, Tryz.sizeOf3, rfl, rfl⟩
theorem fa_36_1 : FldT Tryz.prog 36 1 1 := ⟨_, _, _, Tryz.underlying36, rfl, Tryz.sizeOf3, rfl, rfl⟩
theorem fa_45_0 : FldT Tryz.prog 45 0 0 := ⟨_, _, _, Tryz.underlying45, rfl, Tryz.sizeOf9, rfl, rfl⟩
theorem fa_54_0 : FldT Tryz.prog 54 0 0 := ⟨_, _, _, Tryz.underlying54, rfl, Tryz.sizeOf9, rfl, rfl⟩
theorem fa_54_1 : FldT Tryz.prog 54 1 1 := ⟨_, _, _, Tryz.underlying54, rfl, Tryz.sizeOf9, rfl, rfl⟩
theorem fa_54_2 : FldT Tryz.prog 54 2 2 := ⟨_, _, _, Tryz.underlying54, rfl, Tryz.sizeOf9, rfl, rfl⟩
theorem fa_54_3 : FldT Tryz.prog 54 3 3 := ⟨_, _, _, Tryz.underlying54, rfl, Tryz.sizeOf3, rfl, rfl⟩
theorem fa_54_4 : FldT Tryz.prog 54 4 4 := ⟨_, _, _, Tryz.underlying54, rfl, Tryz.sizeOf4, rfl, rfl⟩
theorem fa_61_0 : FldT Tryz.prog 61 0 0 := ⟨_, _, _, Tryz.underlying61, rfl, Tryz.sizeOf54, rfl, rfl⟩
theorem fa_61_1 : FldT Tryz.prog 61 1 5 := ⟨_, _, _, Tryz.underlying61, rfl, Tryz.sizeOf36, rfl, rfl⟩
theorem fa_72_0 : FldT Tryz.prog 72 0 0 := ⟨_, _, _, Tryz.underlying72, rfl, Tryz.sizeOf4, rfl, rfl⟩
theorem fa_72_1 : FldT Tryz.prog 72 1 1 := ⟨_, _, _, Tryz.underlying72, rfl, Tryz.sizeOf32, rfl, rfl⟩
theorem fa_77_0 : FldT Tryz.prog 77 0 0 := ⟨_, _, _, Tryz.underlying77, rfl, Tryz.sizeOf9, rfl, rfl⟩
theorem fa_77_1 : FldT Tryz.prog 77 1 1 := ⟨_, _, _, Tryz.underlying77, rfl, Tryz.sizeOf3, rfl, rfl⟩
theorem eq_36 (dd : Nat) (x y : GFraction) (w : World) : (Op.equalIn (dd + 2) 36 (.agg (GFraction.enc x).toArray) (.agg (GFraction.enc y).toArray)).run Tryz.prog w = .ok (decide (x = y)) w := by
  refine eq_of_fields (dd := dd + 1) (fs := (Tryz.prog.fieldsOf 36).toList) (by kernel_rfl) rfl (by kernel_rfl) (?_ : _ = Result.ok (decide (x.Num = y.Num) && (decide (x.Den = y.Den) && true)) w) (by cases x; cases y; simp [Bool.decide_and])
  simp only [Program.fieldsOf, Tryz.underlying36]
  exact (eqF_cons (by decide) (part_cell Tryz.isAgg3 rfl) (part_cell Tryz.isAgg3 rfl) (eq_cell_int Tryz.underlying3) (eqF_cons (by decide) (part_cell Tryz.isAgg3 rfl) (part_cell Tryz.isAgg3 rfl) (eq_cell_int Tryz.underlying3) eqF_nil))
theorem rn_eql_36 {a : Act} {w : World} {x y : Operand} {u ty : TypeId} {m n : GFraction} (hx : a.eval x = .agg (GFraction.enc m).toArray) (hy : a.eval y = .agg (GFraction.enc n).toArray) : Rn Tryz.prog a w (.binOp .eql 36 x y u) ty (.bool (decide (m = n))) :=
  rn_aeql 2 (by kernel_rfl) (fun w => eq_36 _ m n w) rfl hx hy
theorem rn_neq_36 {a : Act} {w : World} {x y : Operand} {u ty : TypeId} {m n : GFraction} (hx : a.eval x = .agg (GFraction.enc m).toArray) (hy : a.eval y = .agg (GFraction.enc n).toArray) : Rn Tryz.prog a w (.binOp .neq 36 x y u) ty (.bool (!decide (m = n))) :=
  rn_aneq 2 (by kernel_rfl) (fun w => eq_36 _ m n w) rfl hx hy
theorem eq_45 (dd : Nat) (x y : GGiven) (w : World) : (Op.equalIn (dd + 3) 45 (.agg (GGiven.enc x).toArray) (.agg (GGiven.enc y).toArray)).run Tryz.prog w = .ok (decide (x = y)) w := by
  refine eq_of_fields (dd := dd + 2) (fs := (Tryz.prog.fieldsOf 45).toList) (by kernel_rfl) rfl (by kernel_rfl) (?_ : _ = Result.ok (decide (x.Key = y.Key) && (decide (x.Points = y.Points) && true)) w) (by cases x; cases y; simp [Bool.decide_and])
  simp only [Program.fieldsOf, Tryz.underlying45]
  exact (eqF_cons (by decide) (part_cell Tryz.isAgg9 rfl) (part_cell Tryz.isAgg9 rfl) (eq_cell_str Tryz.underlying9) (eqF_cons (by decide) (part_agg (cs := GFraction.enc x.Points) Tryz.isAgg36 Tryz.sizeOf36 rfl) (part_agg (cs := GFraction.enc y.Points) Tryz.isAgg36 Tryz.sizeOf36 rfl) (eq_36 (dd + 0) x.Points y.Points w) eqF_nil))
theorem rn_eql_45 {a : Act} {w : World} {x y : Operand} {u ty : TypeId} {m n : GGiven} (hx : a.eval x = .agg (GGiven.enc m).toArray) (hy : a.eval y = .agg (GGiven.enc n).toArray) : Rn Tryz.prog a w (.binOp .eql 45 x y u) ty (.bool (decide (m = n))) :=
  rn_aeql 3 (by kernel_rfl) (fun w => eq_45 _ m n w) rfl hx hy
theorem rn_neq_45 {a : Act} {w : World} {x y : Operand} {u ty : TypeId} {m n : GGiven} (hx : a.eval x = .agg (GGiven.enc m).toArray) (hy : a.eval y = .agg (GGiven.enc n).toArray) : Rn Tryz.prog a w (.binOp .neq 45 x y u) ty (.bool (!decide (m = n))) :=
  rn_aneq 3 (by kernel_rfl) (fun w => eq_45 _ m n w) rfl hx hy
theorem eq_54 (dd : Nat) (x y : GScored) (w : World) : (Op.equalIn (dd + 2) 54 (.agg (GScored.enc x).toArray) (.agg (GScored.enc y).toArray)).run Tryz.prog w = .ok (decide (x = y)) w := by
  refine eq_of_fields (dd := dd + 1) (fs := (Tryz.prog.fieldsOf 54).toList) (by kernel_rfl) rfl (by kernel_rfl) (?_ : _ = Result.ok (decide (x.Race = y.Race) && (decide (x.Who = y.Who) && (decide (x.Club = y.Club) && (decide (x.Rank = y.Rank) && (decide (x.Relay = y.Relay) && true))))) w) (by cases x; cases y; simp [Bool.decide_and])
  simp only [Program.fieldsOf, Tryz.underlying54]
  exact (eqF_cons (by decide) (part_cell Tryz.isAgg9 rfl) (part_cell Tryz.isAgg9 rfl) (eq_cell_str Tryz.underlying9) (eqF_cons (by decide) (part_cell Tryz.isAgg9 rfl) (part_cell Tryz.isAgg9 rfl) (eq_cell_str Tryz.underlying9) (eqF_cons (by decide) (part_cell Tryz.isAgg9 rfl) (part_cell Tryz.isAgg9 rfl) (eq_cell_str Tryz.underlying9) (eqF_cons (by decide) (part_cell Tryz.isAgg3 rfl) (part_cell Tryz.isAgg3 rfl) (eq_cell_int Tryz.underlying3) (eqF_cons (by decide) (part_cell Tryz.isAgg4 rfl) (part_cell Tryz.isAgg4 rfl) (eq_cell_bool Tryz.underlying4) eqF_nil)))))
theorem rn_eql_54 {a : Act} {w : World} {x y : Operand} {u ty : TypeId} {m n : GScored} (hx : a.eval x = .agg (GScored.enc m).toArray) (hy : a.eval y = .agg (GScored.enc n).toArray) : Rn Tryz.prog a w (.binOp .eql 54 x y u) ty (.bool (decide (m = n))) :=
  rn_aeql 2 (by kernel_rfl) (fun w => eq_54 _ m n w) rfl hx hy
theorem rn_neq_54 {a : Act} {w : World} {x y : Operand} {u ty : TypeId} {m n : GScored} (hx : a.eval x = .agg (GScored.enc m).toArray) (hy : a.eval y = .agg (GScored.enc n).toArray) : Rn Tryz.prog a w (.binOp .neq 54 x y u) ty (.bool (!decide (m = n))) :=
  rn_aneq 2 (by kernel_rfl) (fun w => eq_54 _ m n w) rfl hx hy
theorem eq_98 (dd : Nat) (x y : Gpoints_entry) (w : World) : (Op.equalIn (dd + 2) 98 (.agg (Gpoints_entry.enc x).toArray) (.agg (Gpoints_entry.enc y).toArray)).run Tryz.prog w = .ok (decide (x = y)) w := by
  refine eq_of_fields (dd := dd + 1) (fs := (Tryz.prog.fieldsOf 98).toList) (by kernel_rfl) rfl (by kernel_rfl) (?_ : _ = Result.ok (decide (x.race_ = y.race_) && (decide (x.who_ = y.who_) && true)) w) (by cases x; cases y; simp [Bool.decide_and])
  simp only [Program.fieldsOf, Tryz.underlying98]
  exact (eqF_cons (by decide) (part_cell Tryz.isAgg9 rfl) (part_cell Tryz.isAgg9 rfl) (eq_cell_str Tryz.underlying9) (eqF_cons (by decide) (part_cell Tryz.isAgg9 rfl) (part_cell Tryz.isAgg9 rfl) (eq_cell_str Tryz.underlying9) eqF_nil))
theorem rn_eql_98 {a : Act} {w : World} {x y : Operand} {u ty : TypeId} {m n : Gpoints_entry} (hx : a.eval x = .agg (Gpoints_entry.enc m).toArray) (hy : a.eval y = .agg (Gpoints_entry.enc n).toArray) : Rn Tryz.prog a w (.binOp .eql 98 x y u) ty (.bool (decide (m = n))) :=
  rn_aeql 2 (by kernel_rfl) (fun w => eq_98 _ m n w) rfl hx hy
theorem rn_neq_98 {a : Act} {w : World} {x y : Operand} {u ty : TypeId} {m n : Gpoints_entry} (hx : a.eval x = .agg (Gpoints_entry.enc m).toArray) (hy : a.eval y = .agg (Gpoints_entry.enc n).toArray) : Rn Tryz.prog a w (.binOp .neq 98 x y u) ty (.bool (!decide (m = n))) :=
  rn_aneq 2 (by kernel_rfl) (fun w => eq_98 _ m n w) rfl hx hy
theorem keyT_98 : KeyT Tryz.prog 98 (fun x => Value.agg (Gpoints_entry.enc x).toArray) :=
  keyT_agg 2 rfl Tryz.underlying98 (fun em x w => chk_agg Tryz.underlying98 (by
    intro f hf _
    simp only [List.mem_cons, List.not_mem_nil, or_false] at hf
    rcases hf with rfl | rfl
    · exact ⟨_, fun w => part_cell Tryz.isAgg9 rfl, fun w => chk_str Tryz.underlying9⟩
    · exact ⟨_, fun w => part_cell Tryz.isAgg9 rfl, fun w => chk_str Tryz.underlying9⟩)) eq_98 (fun x => by simp [Instr.sameBits, Gpoints_entry.enc, beq_selfB])
theorem bt_25 : BldT Tryz.prog 25 (.agg #[.slice none 0 0, iV 0]) [(0, 1), (1, 1)] := ⟨_, Tryz.underlying25, Tryz.zeroValue25, fun _ => by kernel_rfl⟩
theorem bt_27 : BldT Tryz.prog 27 (.agg #[.slice none 0 0, iV 0, iV 0]) [(0, 1), (1, 1), (2, 1)] := ⟨_, Tryz.underlying27, Tryz.zeroValue27, fun _ => by kernel_rfl⟩
theorem bt_36 : BldT Tryz.prog 36 (.agg #[iV 0, iV 0]) [(0, 1), (1, 1)] := ⟨_, Tryz.underlying36, Tryz.zeroValue36, fun _ => by kernel_rfl⟩
theorem bt_45 : BldT Tryz.prog 45 (.agg #[sV k_empty, iV 0, iV 0]) [(0, 1), (1, 2)] := ⟨_, Tryz.underlying45, Tryz.zeroValue45, fun _ => by kernel_rfl⟩
theorem bt_54 : BldT Tryz.prog 54 (.agg #[sV k_empty, sV k_empty, sV k_empty, iV 0, bV false]) [(0, 1), (1, 1), (2, 1), (3, 1), (4, 1)] := ⟨_, Tryz.underlying54, Tryz.zeroValue54, fun _ => by kernel_rfl⟩
theorem bt_61 : BldT Tryz.prog 61 (.agg #[sV k_empty, sV k_empty, sV k_empty, iV 0, bV false, iV 0, iV 0]) [(0, 5), (5, 2)] := ⟨_, Tryz.underlying61, Tryz.zeroValue61, fun _ => by kernel_rfl⟩
theorem bt_72 : BldT Tryz.prog 72 (.agg #[bV false, iV 0]) [(0, 1), (1, 1)] := ⟨_, Tryz.underlying72, Tryz.zeroValue72, fun _ => by kernel_rfl⟩
theorem bt_77 : BldT Tryz.prog 77 (.agg #[sV k_empty, iV 0]) [(0, 1), (1, 1)] := ⟨_, Tryz.underlying77, Tryz.zeroValue77, fun _ => by kernel_rfl⟩
theorem bt_98 : BldT Tryz.prog 98 (.agg #[sV k_empty, sV k_empty]) [(0, 1), (1, 1)] := ⟨_, Tryz.underlying98, Tryz.zeroValue98, fun _ => by kernel_rfl⟩
end Go.Proofs.YtmdjmbbmlohnlaaGreatDoor
