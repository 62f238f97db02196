/- The program's tables, by program. -/
import Derived.Test.YtkkaficomcpalaaGreatDoorTw
import Derived.Test.YtkkaficomcpalaaGreatDoorArena
import Derived.Test.YtkkaficomcpalaaGreatDoorProg
namespace Go.Proofs.YtkkaficomcpalaaGreatDoor
open Go
def GScored.enc (x : GScored) : List Value := [sV x.Race, sV x.Who, sV x.Club, iV x.Rank, bV x.Relay]
theorem GScored.enc_ok : Enc 5 GScored.enc := ⟨fun _ => rfl, fun _ u h => by simp [GScored.enc] at h; rcases h with rfl | rfl | rfl | rfl | rfl <;> rfl⟩
def Gpoints_entry.enc (x : Gpoints_entry) : List Value := [sV x.race_, sV x.who_]
theorem Gpoints_entry.enc_ok : Enc 2 Gpoints_entry.enc := ⟨fun _ => rfl, fun _ u h => by simp [Gpoints_entry.enc] at h; rcases h with rfl | rfl <;> rfl⟩
def GFraction.enc (x : GFraction) : List Value := [iV x.Num, iV x.Den]
theorem GFraction.enc_ok : Enc 2 GFraction.enc := ⟨fun _ => rfl, fun _ u h => by simp [GFraction.enc] at h; rcases h with rfl | rfl <;> rfl⟩
def Gpoints_row.enc (x : Gpoints_row) : List Value := [sV x.x_.Race, sV x.x_.Who, sV x.x_.Club, iV x.x_.Rank, bV x.x_.Relay, iV x.points_.Num, iV x.points_.Den]
theorem Gpoints_row.enc_ok : Enc 7 Gpoints_row.enc := ⟨fun _ => rfl, fun _ u h => by simp [Gpoints_row.enc] at h; rcases h with rfl | rfl | rfl | rfl | rfl | rfl | rfl <;> rfl⟩
def GGiven.enc (x : GGiven) : List Value := [sV x.Key, iV x.Points.Num, iV x.Points.Den]
theorem GGiven.enc_ok : Enc 3 GGiven.enc := ⟨fun _ => rfl, fun _ u h => by simp [GGiven.enc] at h; rcases h with rfl | rfl | rfl <;> rfl⟩
def Gno_is_e.enc (x : Gno_is_e) : List Value := [bV x.is_, iV x.e_]
theorem Gno_is_e.enc_ok : Enc 2 Gno_is_e.enc := ⟨fun _ => rfl, fun _ u h => by simp [Gno_is_e.enc] at h; rcases h with rfl | rfl <;> rfl⟩
def GBase.enc (x : GBase) : List Value := [sV x.Race, iV x.Time]
theorem GBase.enc_ok : Enc 2 GBase.enc := ⟨fun _ => rfl, fun _ u h => by simp [GBase.enc] at h; rcases h with rfl | rfl <;> rfl⟩
structure R27 where
  mk ::
  (Points : RS)
  (Relay : Int)
  (Most : Int)
def R27.enc (x : R27) : List Value := [x.Points.val, iV x.Relay, iV x.Most]
theorem R27.enc_ok : Enc 3 R27.enc := ⟨fun _ => rfl, fun x u h => by
    simp only [R27.enc, List.mem_cons, List.not_mem_nil, or_false] at h
    rcases h with rfl | rfl | rfl
    · exact x.Points.property
    · exact rfl
    · exact rfl⟩
def rel_27 (φ : View) (x : GTable) (r : R27) : Prop := ∃ u1 : RS, r = ⟨u1, x.Relay, x.Most⟩ ∧ Slc φ 1 u1.val (x.Points.map eInt)
theorem rel_27_mono {φ ψ : View} (l : View.le φ ψ) (x : GTable) (r : R27) (h : rel_27 φ x r) : rel_27 ψ x r := by
  obtain ⟨u1, e, h1⟩ := h
  exact ⟨u1, e, h1.mono l⟩
theorem rels_27 {φ ψ : View} (l : View.le φ ψ) {xs : List GTable} {rs : List R27} (h : All2 (rel_27 φ) xs rs) : All2 (rel_27 ψ) xs rs := h.chg (rel_27_mono l)
def rel_29 (φ : View) (x : (List GScored)) (r : RS) : Prop := Slc φ 5 r.val (x.map GScored.enc)
theorem rel_29_mono {φ ψ : View} (l : View.le φ ψ) (x : (List GScored)) (r : RS) (h : rel_29 φ x r) : rel_29 ψ x r := Slc.mono h l
theorem rels_29 {φ ψ : View} (l : View.le φ ψ) {xs : List (List GScored)} {rs : List RS} (h : All2 (rel_29 φ) xs rs) : All2 (rel_29 ψ) xs rs := h.chg (rel_29_mono l)
theorem Tryz.mixed : Tryz.prog.follows .mixedOrders = true := by kernel_rfl
theorem sl_22 : SlT Tryz.prog 22 3 1 8 := slT_of (z := (iV 0)) Tryz.underlying22 Tryz.sizeOf3 (by kernel_rfl) rfl
theorem sl_29 : SlT Tryz.prog 29 52 5 64 := slT_of (z := (.agg #[sV k_empty, sV k_empty, sV k_empty, iV 0, bV false])) Tryz.underlying29 Tryz.sizeOf52 (by kernel_rfl) rfl
theorem sl_35 : SlT Tryz.prog 35 9 1 16 := slT_of (z := (sV k_empty)) Tryz.underlying35 Tryz.sizeOf9 (by kernel_rfl) rfl
theorem sl_58 : SlT Tryz.prog 58 63 3 32 := slT_of (z := (.agg #[sV k_empty, iV 0, iV 0])) Tryz.underlying58 Tryz.sizeOf63 (by kernel_rfl) rfl
theorem sl_68 : SlT Tryz.prog 68 32 1 8 := slT_of (z := (iV 0)) Tryz.underlying68 Tryz.sizeOf32 (by kernel_rfl) rfl
theorem sl_73 : SlT Tryz.prog 73 72 2 16 := slT_of (z := (.agg #[bV false, iV 0])) Tryz.underlying73 Tryz.sizeOf72 (by kernel_rfl) rfl
theorem sl_78 : SlT Tryz.prog 78 77 2 24 := slT_of (z := (.agg #[sV k_empty, iV 0])) Tryz.underlying78 Tryz.sizeOf77 (by kernel_rfl) rfl
theorem sl_84 : SlT Tryz.prog 84 87 7 80 := slT_of (z := (.agg #[sV k_empty, sV k_empty, sV k_empty, iV 0, bV false, iV 0, iV 0])) Tryz.underlying84 Tryz.sizeOf87 (by kernel_rfl) rfl
theorem sl_102 : SlT Tryz.prog 102 29 1 24 := slT_of (z := (.slice none 0 0)) Tryz.underlying102 Tryz.sizeOf29 (by kernel_rfl) rfl
theorem fa_25_0 : FldT Tryz.prog 25 0 0 := ⟨_, _, _, Tryz.underlying25, rfl, Tryz.sizeOf22, rfl, rfl⟩
theorem fa_25_1 : FldT Tryz.prog 25 1 1 := ⟨_, _, _, Tryz.underlying25, rfl, Tryz.sizeOf3, rfl, rfl⟩
theorem fa_27_0 : FldT Tryz.prog 27 0 0 := ⟨_, _, _, Tryz.underlying27, rfl, Tryz.sizeOf22, rfl, rfl⟩
theorem fa_27_1 : FldT Tryz.prog 27 1 1 := ⟨_, _, _, Tryz.underlying27, rfl, Tryz.sizeOf3, rfl, rfl⟩
theorem fa_27_2 : FldT Tryz.prog 27 2 2 := ⟨_, _, _, Tryz.underlying27, rfl, Tryz.sizeOf3, rfl, rfl⟩
theorem fa_52_0 : FldT Tryz.prog 52 0 0 := ⟨_, _, _, Tryz.underlying52, rfl, Tryz.sizeOf9, rfl, rfl⟩
theorem fa_52_1 : FldT Tryz.prog 52 1 1 := ⟨_, _, _, Tryz.underlying52, rfl, Tryz.sizeOf9, rfl, rfl⟩
theorem fa_52_2 : FldT Tryz.prog 52 2 2 := ⟨_, _, _, Tryz.underlying52, rfl, Tryz.sizeOf9, rfl, rfl⟩
theorem fa_52_3 : FldT Tryz.prog 52 3 3 := ⟨_, _, _, Tryz.underlying52, rfl, Tryz.sizeOf3, rfl, rfl⟩
theorem fa_52_4 : FldT Tryz.prog 52 4 4 := ⟨_, _, _, Tryz.underlying52, rfl, Tryz.sizeOf4, rfl, rfl⟩
theorem fa_57_0 : FldT Tryz.prog 57 0 0 := ⟨_, _, _, Tryz.underlying57, rfl, Tryz.sizeOf3, rfl, rfl⟩
theorem fa_57_1 : FldT Tryz.prog 57 1 1 := ⟨_, _, _, Tryz.underlying57, rfl, Tryz.sizeOf3, rfl, rfl⟩
theorem fa_63_0 : FldT Tryz.prog 63 0 0 := ⟨_, _, _, Tryz.underlying63, rfl, Tryz.sizeOf9, rfl, rfl⟩
theorem fa_63_1 : FldT Tryz.prog 63 1 1 := ⟨_, _, _, Tryz.underlying63, rfl, Tryz.sizeOf57, rfl, rfl⟩
theorem fa_72_0 : FldT Tryz.prog 72 0 0 := ⟨_, _, _, Tryz.underlying72, rfl, Tryz.sizeOf4, rfl, rfl⟩
theorem fa_72_1 : FldT Tryz.prog 72 1 1 := ⟨_, _, _, Tryz.underlying72, rfl, Tryz.sizeOf32, rfl, rfl⟩
theorem fa_77_0 : FldT Tryz.prog 77 0 0 := ⟨_, _, _, Tryz.underlying77, rfl, Tryz.sizeOf9, rfl, rfl⟩
theorem fa_77_1 : FldT Tryz.prog 77 1 1 := ⟨_, _, _, Tryz.underlying77, rfl, Tryz.sizeOf3, rfl, rfl⟩
theorem fa_87_0 : FldT Tryz.prog 87 0 0 := ⟨_, _, _, Tryz.underlying87, rfl, Tryz.sizeOf52, rfl, rfl⟩
theorem fa_87_1 : FldT Tryz.prog 87 1 5 := ⟨_, _, _, Tryz.underlying87, rfl, Tryz.sizeOf57, rfl, rfl⟩
theorem eq_52 (dd : Nat) (x y : GScored) (w : World) : (Op.equalIn (dd + 2) 52 (.agg (GScored.enc x).toArray) (.agg (GScored.enc y).toArray)).run Tryz.prog w = .ok (decide (x = y)) w := by
  refine eq_of_fields (dd := dd + 1) (fs := (Tryz.prog.fieldsOf 52).toList) (by kernel_rfl) rfl (by kernel_rfl) (?_ : _ = Result.ok (decide (x.Race = y.Race) && (decide (x.Who = y.Who) && (decide (x.Club = y.Club) && (decide (x.Rank = y.Rank) && (decide (x.Relay = y.Relay) && true))))) w) (by cases x; cases y; simp [Bool.decide_and])
  simp only [Program.fieldsOf, Tryz.underlying52]
  exact (eqF_cons (by decide) (part_cell Tryz.isAgg9 rfl) (part_cell Tryz.isAgg9 rfl) (eq_cell_str Tryz.underlying9) (eqF_cons (by decide) (part_cell Tryz.isAgg9 rfl) (part_cell Tryz.isAgg9 rfl) (eq_cell_str Tryz.underlying9) (eqF_cons (by decide) (part_cell Tryz.isAgg9 rfl) (part_cell Tryz.isAgg9 rfl) (eq_cell_str Tryz.underlying9) (eqF_cons (by decide) (part_cell Tryz.isAgg3 rfl) (part_cell Tryz.isAgg3 rfl) (eq_cell_int Tryz.underlying3) (eqF_cons (by decide) (part_cell Tryz.isAgg4 rfl) (part_cell Tryz.isAgg4 rfl) (eq_cell_bool Tryz.underlying4) eqF_nil)))))
theorem rn_eql_52 {a : Act} {w : World} {x y : Operand} {u ty : TypeId} {m n : GScored} (hx : a.eval x = .agg (GScored.enc m).toArray) (hy : a.eval y = .agg (GScored.enc n).toArray) : Rn Tryz.prog a w (.binOp .eql 52 x y u) ty (.bool (decide (m = n))) :=
  rn_aeql 2 (by kernel_rfl) (fun w => eq_52 _ m n w) rfl hx hy
theorem rn_neq_52 {a : Act} {w : World} {x y : Operand} {u ty : TypeId} {m n : GScored} (hx : a.eval x = .agg (GScored.enc m).toArray) (hy : a.eval y = .agg (GScored.enc n).toArray) : Rn Tryz.prog a w (.binOp .neq 52 x y u) ty (.bool (!decide (m = n))) :=
  rn_aneq 2 (by kernel_rfl) (fun w => eq_52 _ m n w) rfl hx hy
theorem eq_126 (dd : Nat) (x y : Gpoints_entry) (w : World) : (Op.equalIn (dd + 2) 126 (.agg (Gpoints_entry.enc x).toArray) (.agg (Gpoints_entry.enc y).toArray)).run Tryz.prog w = .ok (decide (x = y)) w := by
  refine eq_of_fields (dd := dd + 1) (fs := (Tryz.prog.fieldsOf 126).toList) (by kernel_rfl) rfl (by kernel_rfl) (?_ : _ = Result.ok (decide (x.race_ = y.race_) && (decide (x.who_ = y.who_) && true)) w) (by cases x; cases y; simp [Bool.decide_and])
  simp only [Program.fieldsOf, Tryz.underlying126]
  exact (eqF_cons (by decide) (part_cell Tryz.isAgg9 rfl) (part_cell Tryz.isAgg9 rfl) (eq_cell_str Tryz.underlying9) (eqF_cons (by decide) (part_cell Tryz.isAgg9 rfl) (part_cell Tryz.isAgg9 rfl) (eq_cell_str Tryz.underlying9) eqF_nil))
theorem rn_eql_126 {a : Act} {w : World} {x y : Operand} {u ty : TypeId} {m n : Gpoints_entry} (hx : a.eval x = .agg (Gpoints_entry.enc m).toArray) (hy : a.eval y = .agg (Gpoints_entry.enc n).toArray) : Rn Tryz.prog a w (.binOp .eql 126 x y u) ty (.bool (decide (m = n))) :=
  rn_aeql 2 (by kernel_rfl) (fun w => eq_126 _ m n w) rfl hx hy
theorem rn_neq_126 {a : Act} {w : World} {x y : Operand} {u ty : TypeId} {m n : Gpoints_entry} (hx : a.eval x = .agg (Gpoints_entry.enc m).toArray) (hy : a.eval y = .agg (Gpoints_entry.enc n).toArray) : Rn Tryz.prog a w (.binOp .neq 126 x y u) ty (.bool (!decide (m = n))) :=
  rn_aneq 2 (by kernel_rfl) (fun w => eq_126 _ m n w) rfl hx hy
theorem keyT_126 : KeyT Tryz.prog 126 (fun x => Value.agg (Gpoints_entry.enc x).toArray) :=
  keyT_agg 2 rfl Tryz.underlying126 (fun em x w => chk_agg Tryz.underlying126 (by
    intro f hf _
    simp only [List.mem_cons, List.not_mem_nil, or_false] at hf
    rcases hf with rfl | rfl
    · exact ⟨_, fun w => part_cell Tryz.isAgg9 rfl, fun w => chk_str Tryz.underlying9⟩
    · exact ⟨_, fun w => part_cell Tryz.isAgg9 rfl, fun w => chk_str Tryz.underlying9⟩)) eq_126 (fun x => by simp [Instr.sameBits, Gpoints_entry.enc, beq_selfB])
theorem bt_25 : BldT Tryz.prog 25 (.agg #[.slice none 0 0, iV 0]) [(0, 1), (1, 1)] := ⟨_, Tryz.underlying25, Tryz.zeroValue25, fun _ => by kernel_rfl⟩
theorem bt_27 : BldT Tryz.prog 27 (.agg #[.slice none 0 0, iV 0, iV 0]) [(0, 1), (1, 1), (2, 1)] := ⟨_, Tryz.underlying27, Tryz.zeroValue27, fun _ => by kernel_rfl⟩
theorem bt_52 : BldT Tryz.prog 52 (.agg #[sV k_empty, sV k_empty, sV k_empty, iV 0, bV false]) [(0, 1), (1, 1), (2, 1), (3, 1), (4, 1)] := ⟨_, Tryz.underlying52, Tryz.zeroValue52, fun _ => by kernel_rfl⟩
theorem bt_57 : BldT Tryz.prog 57 (.agg #[iV 0, iV 0]) [(0, 1), (1, 1)] := ⟨_, Tryz.underlying57, Tryz.zeroValue57, fun _ => by kernel_rfl⟩
theorem bt_63 : BldT Tryz.prog 63 (.agg #[sV k_empty, iV 0, iV 0]) [(0, 1), (1, 2)] := ⟨_, Tryz.underlying63, Tryz.zeroValue63, fun _ => by kernel_rfl⟩
theorem bt_72 : BldT Tryz.prog 72 (.agg #[bV false, iV 0]) [(0, 1), (1, 1)] := ⟨_, Tryz.underlying72, Tryz.zeroValue72, fun _ => by kernel_rfl⟩
theorem bt_77 : BldT Tryz.prog 77 (.agg #[sV k_empty, iV 0]) [(0, 1), (1, 1)] := ⟨_, Tryz.underlying77, Tryz.zeroValue77, fun _ => by kernel_rfl⟩
theorem bt_87 : BldT Tryz.prog 87 (.agg #[sV k_empty, sV k_empty, sV k_empty, iV 0, bV false, iV 0, iV 0]) [(0, 5), (5, 2)] := ⟨_, Tryz.underlying87, Tryz.zeroValue87, fun _ => by kernel_rfl⟩
theorem bt_126 : BldT Tryz.prog 126 (.agg #[sV k_empty, sV k_empty]) [(0, 1), (1, 1)] := ⟨_, Tryz.underlying126, Tryz.zeroValue126, fun _ => by kernel_rfl⟩
end Go.Proofs.YtkkaficomcpalaaGreatDoor
