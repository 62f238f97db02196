/- The program's tables, by program. -/
import Derived.Test.YtcnneeipmadakaaGreatDoorTw
import Derived.Test.YtcnneeipmadakaaGreatDoorArena
import Derived.Test.YtcnneeipmadakaaGreatDoorProg
namespace Go.Proofs.YtcnneeipmadakaaGreatDoor
open Go
def GScored.enc (x : GScored) : List Value := [sV x.Race, sV x.Who, sV x.Club, iV x.Rank, bV x.Relay]
theorem GScored.enc_ok : Enc 5 GScored.enc := ⟨fun _ => rfl, fun _ u h => by simp [GScored.enc] at h; rcases h with rfl | rfl | rfl | rfl | rfl <;> rfl⟩
def Gpoints_entry.enc (x : Gpoints_entry) : List Value := [sV x.race_, sV x.who_]
theorem Gpoints_entry.enc_ok : Enc 2 Gpoints_entry.enc := ⟨fun _ => rfl, fun _ u h => by simp [Gpoints_entry.enc] at h; rcases h with rfl | rfl <;> rfl⟩
def Gno_is_e.enc (x : Gno_is_e) : List Value := [bV x.is_, iV x.e_]
theorem Gno_is_e.enc_ok : Enc 2 Gno_is_e.enc := ⟨fun _ => rfl, fun _ u h => by simp [Gno_is_e.enc] at h; rcases h with rfl | rfl <;> rfl⟩
def GBase.enc (x : GBase) : List Value := [sV x.Race, iV x.Time]
theorem GBase.enc_ok : Enc 2 GBase.enc := ⟨fun _ => rfl, fun _ u h => by simp [GBase.enc] at h; rcases h with rfl | rfl <;> rfl⟩
def rel_26 (φ : View) (x : (List GScored)) (r : RS) : Prop := Slc φ 5 r.val (x.map GScored.enc)
theorem rel_26_mono {φ ψ : View} (l : View.le φ ψ) (x : (List GScored)) (r : RS) (h : rel_26 φ x r) : rel_26 ψ x r := Slc.mono h l
theorem rels_26 {φ ψ : View} (l : View.le φ ψ) {xs : List (List GScored)} {rs : List RS} (h : All2 (rel_26 φ) xs rs) : All2 (rel_26 ψ) xs rs := h.chg (rel_26_mono l)
theorem Tryz.mixed : Tryz.prog.follows .mixedOrders = true := by kernel_rfl
theorem sl_22 : SlT Tryz.prog 22 3 1 8 := slT_of (z := (iV 0)) Tryz.underlying22 Tryz.sizeOf3 (by kernel_rfl) rfl
theorem sl_26 : SlT Tryz.prog 26 38 5 64 := slT_of (z := (.agg #[sV k_empty, sV k_empty, sV k_empty, iV 0, bV false])) Tryz.underlying26 Tryz.sizeOf38 (by kernel_rfl) rfl
theorem sl_59 : SlT Tryz.prog 59 9 1 16 := slT_of (z := (sV k_empty)) Tryz.underlying59 Tryz.sizeOf9 (by kernel_rfl) rfl
theorem sl_65 : SlT Tryz.prog 65 64 2 16 := slT_of (z := (.agg #[bV false, iV 0])) Tryz.underlying65 Tryz.sizeOf64 (by kernel_rfl) rfl
theorem sl_75 : SlT Tryz.prog 75 74 2 24 := slT_of (z := (.agg #[sV k_empty, iV 0])) Tryz.underlying75 Tryz.sizeOf74 (by kernel_rfl) rfl
theorem sl_96 : SlT Tryz.prog 96 26 1 24 := slT_of (z := (.slice none 0 0)) Tryz.underlying96 Tryz.sizeOf26 (by kernel_rfl) rfl
theorem fa_25_0 : FldT Tryz.prog 25 0 0 := ⟨_, _, _, Tryz.underlying25, rfl, Tryz.sizeOf22, rfl, rfl⟩
theorem fa_25_1 : FldT Tryz.prog 25 1 1 := ⟨_, _, _, Tryz.underlying25, rfl, Tryz.sizeOf3, rfl, rfl⟩
theorem fa_38_0 : FldT Tryz.prog 38 0 0 := ⟨_, _, _, Tryz.underlying38, rfl, Tryz.sizeOf9, rfl, rfl⟩
theorem fa_38_1 : FldT Tryz.prog 38 1 1 := ⟨_, _, _, Tryz.underlying38, rfl, Tryz.sizeOf9, rfl, rfl⟩
theorem fa_38_2 : FldT Tryz.prog 38 2 2 := ⟨_, _, _, Tryz.underlying38, rfl, Tryz.sizeOf9, rfl, rfl⟩
theorem fa_38_3 : FldT Tryz.prog 38 3 3 := ⟨_, _, _, Tryz.underlying38, rfl, Tryz.sizeOf3, rfl, rfl⟩
theorem fa_38_4 : FldT Tryz.prog 38 4 4 := ⟨_, _, _, Tryz.underlying38, rfl, Tryz.sizeOf4, rfl, rfl⟩
theorem fa_64_0 : FldT Tryz.prog 64 0 0 := ⟨_, _, _, Tryz.underlying64, rfl, Tryz.sizeOf4, rfl, rfl⟩
theorem fa_64_1 : FldT Tryz.prog 64 1 1 := ⟨_, _, _, Tryz.underlying64, rfl, Tryz.sizeOf29, rfl, rfl⟩
theorem fa_74_0 : FldT Tryz.prog 74 0 0 := ⟨_, _, _, Tryz.underlying74, rfl, Tryz.sizeOf9, rfl, rfl⟩
theorem fa_74_1 : FldT Tryz.prog 74 1 1 := ⟨_, _, _, Tryz.underlying74, rfl, Tryz.sizeOf3, rfl, rfl⟩
theorem eq_38 (dd : Nat) (x y : GScored) (w : World) : (Op.equalIn (dd + 2) 38 (.agg (GScored.enc x).toArray) (.agg (GScored.enc y).toArray)).run Tryz.prog w = .ok (decide (x = y)) w := by
  refine eq_of_fields (dd := dd + 1) (fs := (Tryz.prog.fieldsOf 38).toList) (by kernel_rfl) rfl (by kernel_rfl) (?_ : _ = Result.ok (decide (x.Race = y.Race) && (decide (x.Who = y.Who) && (decide (x.Club = y.Club) && (decide (x.Rank = y.Rank) && (decide (x.Relay = y.Relay) && true))))) w) (by cases x; cases y; simp [Bool.decide_and])
  simp only [Program.fieldsOf, Tryz.underlying38]
  exact (eqF_cons (by decide) (part_cell Tryz.isAgg9 rfl) (part_cell Tryz.isAgg9 rfl) (eq_cell_str Tryz.underlying9) (eqF_cons (by decide) (part_cell Tryz.isAgg9 rfl) (part_cell Tryz.isAgg9 rfl) (eq_cell_str Tryz.underlying9) (eqF_cons (by decide) (part_cell Tryz.isAgg9 rfl) (part_cell Tryz.isAgg9 rfl) (eq_cell_str Tryz.underlying9) (eqF_cons (by decide) (part_cell Tryz.isAgg3 rfl) (part_cell Tryz.isAgg3 rfl) (eq_cell_int Tryz.underlying3) (eqF_cons (by decide) (part_cell Tryz.isAgg4 rfl) (part_cell Tryz.isAgg4 rfl) (eq_cell_bool Tryz.underlying4) eqF_nil)))))
theorem rn_eql_38 {a : Act} {w : World} {x y : Operand} {u ty : TypeId} {m n : GScored} (hx : a.eval x = .agg (GScored.enc m).toArray) (hy : a.eval y = .agg (GScored.enc n).toArray) : Rn Tryz.prog a w (.binOp .eql 38 x y u) ty (.bool (decide (m = n))) :=
  rn_aeql 2 (by kernel_rfl) (fun w => eq_38 _ m n w) rfl hx hy
theorem rn_neq_38 {a : Act} {w : World} {x y : Operand} {u ty : TypeId} {m n : GScored} (hx : a.eval x = .agg (GScored.enc m).toArray) (hy : a.eval y = .agg (GScored.enc n).toArray) : Rn Tryz.prog a w (.binOp .neq 38 x y u) ty (.bool (!decide (m = n))) :=
  rn_aneq 2 (by kernel_rfl) (fun w => eq_38 _ m n w) rfl hx hy
theorem eq_95 (dd : Nat) (x y : Gpoints_entry) (w : World) : (Op.equalIn (dd + 2) 95 (.agg (Gpoints_entry.enc x).toArray) (.agg (Gpoints_entry.enc y).toArray)).run Tryz.prog w = .ok (decide (x = y)) w := by
  refine eq_of_fields (dd := dd + 1) (fs := (Tryz.prog.fieldsOf 95).toList) (by kernel_rfl) rfl (by kernel_rfl) (?_ : _ = Result.ok (decide (x.race_ = y.race_) && (decide (x.who_ = y.who_) && true)) w) (by cases x; cases y; simp [Bool.decide_and])
  simp only [Program.fieldsOf, Tryz.underlying95]
  exact (eqF_cons (by decide) (part_cell Tryz.isAgg9 rfl) (part_cell Tryz.isAgg9 rfl) (eq_cell_str Tryz.underlying9) (eqF_cons (by decide) (part_cell Tryz.isAgg9 rfl) (part_cell Tryz.isAgg9 rfl) (eq_cell_str Tryz.underlying9) eqF_nil))
theorem rn_eql_95 {a : Act} {w : World} {x y : Operand} {u ty : TypeId} {m n : Gpoints_entry} (hx : a.eval x = .agg (Gpoints_entry.enc m).toArray) (hy : a.eval y = .agg (Gpoints_entry.enc n).toArray) : Rn Tryz.prog a w (.binOp .eql 95 x y u) ty (.bool (decide (m = n))) :=
  rn_aeql 2 (by kernel_rfl) (fun w => eq_95 _ m n w) rfl hx hy
theorem rn_neq_95 {a : Act} {w : World} {x y : Operand} {u ty : TypeId} {m n : Gpoints_entry} (hx : a.eval x = .agg (Gpoints_entry.enc m).toArray) (hy : a.eval y = .agg (Gpoints_entry.enc n).toArray) : Rn Tryz.prog a w (.binOp .neq 95 x y u) ty (.bool (!decide (m = n))) :=
  rn_aneq 2 (by kernel_rfl) (fun w => eq_95 _ m n w) rfl hx hy
theorem keyT_95 : KeyT Tryz.prog 95 (fun x => Value.agg (Gpoints_entry.enc x).toArray) :=
  keyT_agg 2 rfl Tryz.underlying95 (fun em x w => chk_agg Tryz.underlying95 (by
    intro f hf _
    simp only [List.mem_cons, List.not_mem_nil, or_false] at hf
    rcases hf with rfl | rfl
    · exact ⟨_, fun w => part_cell Tryz.isAgg9 rfl, fun w => chk_str Tryz.underlying9⟩
    · exact ⟨_, fun w => part_cell Tryz.isAgg9 rfl, fun w => chk_str Tryz.underlying9⟩)) eq_95 (fun x => by simp [Instr.sameBits, Gpoints_entry.enc, beq_selfB])
theorem bt_25 : BldT Tryz.prog 25 (.agg #[.slice none 0 0, iV 0]) [(0, 1), (1, 1)] := ⟨_, Tryz.underlying25, Tryz.zeroValue25, fun _ => by kernel_rfl⟩
theorem bt_38 : BldT Tryz.prog 38 (.agg #[sV k_empty, sV k_empty, sV k_empty, iV 0, bV false]) [(0, 1), (1, 1), (2, 1), (3, 1), (4, 1)] := ⟨_, Tryz.underlying38, Tryz.zeroValue38, fun _ => by kernel_rfl⟩
theorem bt_64 : BldT Tryz.prog 64 (.agg #[bV false, iV 0]) [(0, 1), (1, 1)] := ⟨_, Tryz.underlying64, Tryz.zeroValue64, fun _ => by kernel_rfl⟩
theorem bt_74 : BldT Tryz.prog 74 (.agg #[sV k_empty, iV 0]) [(0, 1), (1, 1)] := ⟨_, Tryz.underlying74, Tryz.zeroValue74, fun _ => by kernel_rfl⟩
theorem bt_95 : BldT Tryz.prog 95 (.agg #[sV k_empty, sV k_empty]) [(0, 1), (1, 1)] := ⟨_, Tryz.underlying95, Tryz.zeroValue95, fun _ => by kernel_rfl⟩
end Go.Proofs.YtcnneeipmadakaaGreatDoor
