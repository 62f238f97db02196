/- The program's tables, by program. -/
import Derived.Test.YtdkpfiinkodbfaaGreatDoorTw
import Derived.Test.YtdkpfiinkodbfaaGreatDoorArena
import Derived.Test.YtdkpfiinkodbfaaGreatDoorProg
namespace Go.Proofs.YtdkpfiinkodbfaaGreatDoor
open Go
def GStep.enc (x : GStep) : List Value := [iV x.At, iV x.Kind, sV x.Id, sV x.Who, sV x.Club, sV x.Race, iV x.Age, iV x.Time]
theorem GStep.enc_ok : Enc 8 GStep.enc := ⟨fun _ => rfl, fun _ u h => by simp [GStep.enc] at h; rcases h with rfl | rfl | rfl | rfl | rfl | rfl | rfl | rfl <;> rfl⟩
def Grecord_swum.enc (x : Grecord_swum) : List Value := [iV x.s_.At, iV x.s_.Kind, sV x.s_.Id, sV x.s_.Who, sV x.s_.Club, sV x.s_.Race, iV x.s_.Age, iV x.s_.Time, bV x.sure_, bV x.void_]
theorem Grecord_swum.enc_ok : Enc 10 Grecord_swum.enc := ⟨fun _ => rfl, fun _ u h => by simp [Grecord_swum.enc] at h; rcases h with rfl | rfl | rfl | rfl | rfl | rfl | rfl | rfl | rfl | rfl <;> rfl⟩
def GBest.enc (x : GBest) : List Value := [sV x.Kind, sV x.Id, sV x.Who, iV x.Time, iV x.Since, bV x.Sure]
theorem GBest.enc_ok : Enc 6 GBest.enc := ⟨fun _ => rfl, fun _ u h => by simp [GBest.enc] at h; rcases h with rfl | rfl | rfl | rfl | rfl | rfl <;> rfl⟩
structure R57 where
  mk ::
  (Key : ByteArray)
  (Race : ByteArray)
  (Clubs : RS)
  (Young : Int)
  (Old : Int)
def R57.enc (x : R57) : List Value := [sV x.Key, sV x.Race, x.Clubs.val, iV x.Young, iV x.Old]
theorem R57.enc_ok : Enc 5 R57.enc := ⟨fun _ => rfl, fun x u h => by
    simp only [R57.enc, List.mem_cons, List.not_mem_nil, or_false] at h
    rcases h with rfl | rfl | rfl | rfl | rfl
    · exact rfl
    · exact rfl
    · exact x.Clubs.property
    · exact rfl
    · exact rfl⟩
def rel_57 (φ : View) (x : GKind) (r : R57) : Prop := ∃ u1 : RS, r = ⟨x.Key, x.Race, u1, x.Young, x.Old⟩ ∧ Slc φ 1 u1.val (x.Clubs.map eStr)
theorem rel_57_mono {φ ψ : View} (l : View.le φ ψ) (x : GKind) (r : R57) (h : rel_57 φ x r) : rel_57 ψ x r := by
  obtain ⟨u1, e, h1⟩ := h
  exact ⟨u1, e, h1.mono l⟩
theorem rels_57 {φ ψ : View} (l : View.le φ ψ) {xs : List GKind} {rs : List R57} (h : All2 (rel_57 φ) xs rs) : All2 (rel_57 ψ) xs rs := h.imp (rel_57_mono l)
def rel_100 (φ : View) (x : Grecord_swum) (r : Nat) : Prop := φ r = some (.cells (Grecord_swum.enc x).toArray 102 (0, 0))
theorem rel_100_mono {φ ψ : View} (l : View.le φ ψ) (x : Grecord_swum) (r : Nat) (h : rel_100 φ x r) : rel_100 ψ x r := l _ _ h
theorem rels_100 {φ ψ : View} (l : View.le φ ψ) {xs : List Grecord_swum} {rs : List Nat} (h : All2 (rel_100 φ) xs rs) : All2 (rel_100 ψ) xs rs := h.imp (rel_100_mono l)
theorem Tryz.mixed : Tryz.prog.follows .mixedOrders = true := by kernel_rfl
theorem sl_22 : SlT Tryz.prog 22 3 1 8 := slT_of (z := (iV 0)) Tryz.underlying22 Tryz.sizeOf3 (by kernel_rfl) rfl
theorem sl_26 : SlT Tryz.prog 26 57 5 72 := slT_of (z := (.agg #[sV k_empty, sV k_empty, .slice none 0 0, iV 0, iV 0])) Tryz.underlying26 Tryz.sizeOf57 (by kernel_rfl) rfl
theorem sl_28 : SlT Tryz.prog 28 34 8 96 := slT_of (z := (.agg #[iV 0, iV 0, sV k_empty, sV k_empty, sV k_empty, sV k_empty, iV 0, iV 0])) Tryz.underlying28 Tryz.sizeOf34 (by kernel_rfl) rfl
theorem sl_37 : SlT Tryz.prog 37 9 1 16 := slT_of (z := (sV k_empty)) Tryz.underlying37 Tryz.sizeOf9 (by kernel_rfl) rfl
theorem sl_73 : SlT Tryz.prog 73 100 1 8 := slT_of (z := (.pointer none)) Tryz.underlying73 Tryz.sizeOf100 (by kernel_rfl) rfl
theorem sl_78 : SlT Tryz.prog 78 80 6 72 := slT_of (z := (.agg #[sV k_empty, sV k_empty, sV k_empty, iV 0, iV 0, bV false])) Tryz.underlying78 Tryz.sizeOf80 (by kernel_rfl) rfl
theorem sl_87 : SlT Tryz.prog 87 38 1 8 := slT_of (z := (iV 0)) Tryz.underlying87 Tryz.sizeOf38 (by kernel_rfl) rfl
theorem fa_25_0 : FldT Tryz.prog 25 0 0 := ⟨_, _, _, Tryz.underlying25, rfl, Tryz.sizeOf22, rfl, rfl⟩
theorem fa_25_1 : FldT Tryz.prog 25 1 1 := ⟨_, _, _, Tryz.underlying25, rfl, Tryz.sizeOf3, rfl, rfl⟩
theorem fa_34_0 : FldT Tryz.prog 34 0 0 := ⟨_, _, _, Tryz.underlying34, rfl, Tryz.sizeOf3, rfl, rfl⟩
theorem fa_34_1 : FldT Tryz.prog 34 1 1 := ⟨_, _, _, Tryz.underlying34, rfl, Tryz.sizeOf3, rfl, rfl⟩
theorem fa_34_2 : FldT Tryz.prog 34 2 2 := ⟨_, _, _, Tryz.underlying34, rfl, Tryz.sizeOf9, rfl, rfl⟩
theorem fa_34_3 : FldT Tryz.prog 34 3 3 := ⟨_, _, _, Tryz.underlying34, rfl, Tryz.sizeOf9, rfl, rfl⟩
theorem fa_34_4 : FldT Tryz.prog 34 4 4 := ⟨_, _, _, Tryz.underlying34, rfl, Tryz.sizeOf9, rfl, rfl⟩
theorem fa_34_5 : FldT Tryz.prog 34 5 5 := ⟨_, _, _, Tryz.underlying34, rfl, Tryz.sizeOf9, rfl, rfl⟩
theorem fa_34_6 : FldT Tryz.prog 34 6 6 := ⟨_, _, _, Tryz.underlying34, rfl, Tryz.sizeOf3, rfl, rfl⟩
theorem fa_34_7 : FldT Tryz.prog 34 7 7 := ⟨_, _, _, Tryz.underlying34, rfl, Tryz.sizeOf3, rfl, rfl⟩
theorem fa_57_0 : FldT Tryz.prog 57 0 0 := ⟨_, _, _, Tryz.underlying57, rfl, Tryz.sizeOf9, rfl, rfl⟩
theorem fa_57_1 : FldT Tryz.prog 57 1 1 := ⟨_, _, _, Tryz.underlying57, rfl, Tryz.sizeOf9, rfl, rfl⟩
theorem fa_57_2 : FldT Tryz.prog 57 2 2 := ⟨_, _, _, Tryz.underlying57, rfl, Tryz.sizeOf37, rfl, rfl⟩
theorem fa_57_3 : FldT Tryz.prog 57 3 3 := ⟨_, _, _, Tryz.underlying57, rfl, Tryz.sizeOf3, rfl, rfl⟩
theorem fa_57_4 : FldT Tryz.prog 57 4 4 := ⟨_, _, _, Tryz.underlying57, rfl, Tryz.sizeOf3, rfl, rfl⟩
theorem fa_80_1 : FldT Tryz.prog 80 1 1 := ⟨_, _, _, Tryz.underlying80, rfl, Tryz.sizeOf9, rfl, rfl⟩
theorem fa_80_3 : FldT Tryz.prog 80 3 3 := ⟨_, _, _, Tryz.underlying80, rfl, Tryz.sizeOf3, rfl, rfl⟩
theorem fa_80_4 : FldT Tryz.prog 80 4 4 := ⟨_, _, _, Tryz.underlying80, rfl, Tryz.sizeOf3, rfl, rfl⟩
theorem fa_102_0 : FldT Tryz.prog 102 0 0 := ⟨_, _, _, Tryz.underlying102, rfl, Tryz.sizeOf34, rfl, rfl⟩
theorem fa_102_1 : FldT Tryz.prog 102 1 8 := ⟨_, _, _, Tryz.underlying102, rfl, Tryz.sizeOf4, rfl, rfl⟩
theorem fa_102_2 : FldT Tryz.prog 102 2 9 := ⟨_, _, _, Tryz.underlying102, rfl, Tryz.sizeOf4, rfl, rfl⟩
theorem eq_34 (dd : Nat) (x y : GStep) (w : World) : (Op.equalIn (dd + 2) 34 (.agg (GStep.enc x).toArray) (.agg (GStep.enc y).toArray)).run Tryz.prog w = .ok (decide (x = y)) w := by
  refine eq_of_fields (dd := dd + 1) (fs := (Tryz.prog.fieldsOf 34).toList) (by kernel_rfl) rfl (by kernel_rfl) (?_ : _ = Result.ok (decide (x.At = y.At) && (decide (x.Kind = y.Kind) && (decide (x.Id = y.Id) && (decide (x.Who = y.Who) && (decide (x.Club = y.Club) && (decide (x.Race = y.Race) && (decide (x.Age = y.Age) && (decide (x.Time = y.Time) && true)))))))) w) (by cases x; cases y; simp [Bool.decide_and])
  simp only [Program.fieldsOf, Tryz.underlying34]
  exact (eqF_cons (by decide) (part_cell Tryz.isAgg3 rfl) (part_cell Tryz.isAgg3 rfl) (eq_cell_int Tryz.underlying3) (eqF_cons (by decide) (part_cell Tryz.isAgg3 rfl) (part_cell Tryz.isAgg3 rfl) (eq_cell_int Tryz.underlying3) (eqF_cons (by decide) (part_cell Tryz.isAgg9 rfl) (part_cell Tryz.isAgg9 rfl) (eq_cell_str Tryz.underlying9) (eqF_cons (by decide) (part_cell Tryz.isAgg9 rfl) (part_cell Tryz.isAgg9 rfl) (eq_cell_str Tryz.underlying9) (eqF_cons (by decide) (part_cell Tryz.isAgg9 rfl) (part_cell Tryz.isAgg9 rfl) (eq_cell_str Tryz.underlying9) (eqF_cons (by decide) (part_cell Tryz.isAgg9 rfl) (part_cell Tryz.isAgg9 rfl) (eq_cell_str Tryz.underlying9) (eqF_cons (by decide) (part_cell Tryz.isAgg3 rfl) (part_cell Tryz.isAgg3 rfl) (eq_cell_int Tryz.underlying3) (eqF_cons (by decide) (part_cell Tryz.isAgg3 rfl) (part_cell Tryz.isAgg3 rfl) (eq_cell_int Tryz.underlying3) eqF_nil))))))))
theorem rn_eql_34 {a : Act} {w : World} {x y : Operand} {u ty : TypeId} {m n : GStep} (hx : a.eval x = .agg (GStep.enc m).toArray) (hy : a.eval y = .agg (GStep.enc n).toArray) : Rn Tryz.prog a w (.binOp .eql 34 x y u) ty (.bool (decide (m = n))) :=
  rn_aeql 2 (by kernel_rfl) (fun w => eq_34 _ m n w) rfl hx hy
theorem rn_neq_34 {a : Act} {w : World} {x y : Operand} {u ty : TypeId} {m n : GStep} (hx : a.eval x = .agg (GStep.enc m).toArray) (hy : a.eval y = .agg (GStep.enc n).toArray) : Rn Tryz.prog a w (.binOp .neq 34 x y u) ty (.bool (!decide (m = n))) :=
  rn_aneq 2 (by kernel_rfl) (fun w => eq_34 _ m n w) rfl hx hy
theorem bt_25 : BldT Tryz.prog 25 (.agg #[.slice none 0 0, iV 0]) [(0, 1), (1, 1)] := ⟨_, Tryz.underlying25, Tryz.zeroValue25, fun _ => by kernel_rfl⟩
theorem bt_34 : BldT Tryz.prog 34 (.agg #[iV 0, iV 0, sV k_empty, sV k_empty, sV k_empty, sV k_empty, iV 0, iV 0]) [(0, 1), (1, 1), (2, 1), (3, 1), (4, 1), (5, 1), (6, 1), (7, 1)] := ⟨_, Tryz.underlying34, Tryz.zeroValue34, fun _ => by kernel_rfl⟩
theorem bt_57 : BldT Tryz.prog 57 (.agg #[sV k_empty, sV k_empty, .slice none 0 0, iV 0, iV 0]) [(0, 1), (1, 1), (2, 1), (3, 1), (4, 1)] := ⟨_, Tryz.underlying57, Tryz.zeroValue57, fun _ => by kernel_rfl⟩
theorem bt_80 : BldT Tryz.prog 80 (.agg #[sV k_empty, sV k_empty, sV k_empty, iV 0, iV 0, bV false]) [(0, 1), (1, 1), (2, 1), (3, 1), (4, 1), (5, 1)] := ⟨_, Tryz.underlying80, Tryz.zeroValue80, fun _ => by kernel_rfl⟩
theorem bt_102 : BldT Tryz.prog 102 (.agg #[iV 0, iV 0, sV k_empty, sV k_empty, sV k_empty, sV k_empty, iV 0, iV 0, bV false, bV false]) [(0, 8), (8, 1), (9, 1)] := ⟨_, Tryz.underlying102, Tryz.zeroValue102, fun _ => by kernel_rfl⟩
end Go.Proofs.YtdkpfiinkodbfaaGreatDoor
