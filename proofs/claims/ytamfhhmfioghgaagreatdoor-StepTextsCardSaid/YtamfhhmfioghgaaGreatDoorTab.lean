/- The program's tables, by program. -/
import Derived.Test.YtamfhhmfioghgaaGreatDoorTw
import Derived.Test.YtamfhhmfioghgaaGreatDoorArena
import Derived.Test.YtamfhhmfioghgaaGreatDoorProg
namespace Go.Proofs.YtamfhhmfioghgaaGreatDoor
open Go
def GStep.enc (x : GStep) : List Value := [iV x.At, iV x.Kind, sV x.Id, sV x.Who, sV x.Club, sV x.Race, iV x.Age, iV x.Time]
theorem GStep.enc_ok : Enc 8 GStep.enc := ⟨fun _ => rfl, fun _ u h => by simp [GStep.enc] at h; rcases h with rfl | rfl | rfl | rfl | rfl | rfl | rfl | rfl <;> rfl⟩
structure R82 where
  mk ::
  (Key : ByteArray)
  (Race : ByteArray)
  (Clubs : RS)
  (Young : Int)
  (Old : Int)
def R82.enc (x : R82) : List Value := [sV x.Key, sV x.Race, x.Clubs.val, iV x.Young, iV x.Old]
theorem R82.enc_ok : Enc 5 R82.enc := ⟨fun _ => rfl, fun x u h => by
    simp only [R82.enc, List.mem_cons, List.not_mem_nil, or_false] at h
    rcases h with rfl | rfl | rfl | rfl | rfl
    · exact rfl
    · exact rfl
    · exact x.Clubs.property
    · exact rfl
    · exact rfl⟩
def rel_82 (φ : View) (x : GKind) (r : R82) : Prop := ∃ u1 : RS, r = ⟨x.Key, x.Race, u1, x.Young, x.Old⟩ ∧ Slc φ 1 u1.val (x.Clubs.map eStr)
theorem rel_82_mono {φ ψ : View} (l : View.le φ ψ) (x : GKind) (r : R82) (h : rel_82 φ x r) : rel_82 ψ x r := by
  obtain ⟨u1, e, h1⟩ := h
  exact ⟨u1, e, h1.mono l⟩
theorem rels_82 {φ ψ : View} (l : View.le φ ψ) {xs : List GKind} {rs : List R82} (h : All2 (rel_82 φ) xs rs) : All2 (rel_82 ψ) xs rs := h.chg (rel_82_mono l)
theorem Tryz.mixed : Tryz.prog.follows .mixedOrders = true := by kernel_rfl
theorem sl_22 : SlT Tryz.prog 22 3 1 8 := slT_of (z := (iV 0)) Tryz.underlying22 Tryz.sizeOf3 (by kernel_rfl) rfl
theorem sl_26 : SlT Tryz.prog 26 39 8 96 := slT_of (z := (.agg #[iV 0, iV 0, sV k_empty, sV k_empty, sV k_empty, sV k_empty, iV 0, iV 0])) Tryz.underlying26 Tryz.sizeOf39 (by kernel_rfl) rfl
theorem sl_57 : SlT Tryz.prog 57 9 1 16 := slT_of (z := (sV k_empty)) Tryz.underlying57 Tryz.sizeOf9 (by kernel_rfl) rfl
theorem sl_83 : SlT Tryz.prog 83 82 5 72 := slT_of (z := (.agg #[sV k_empty, sV k_empty, .slice none 0 0, iV 0, iV 0])) Tryz.underlying83 Tryz.sizeOf82 (by kernel_rfl) rfl
theorem fa_25_0 : FldT Tryz.prog 25 0 0 := ⟨_, _, _, Tryz.underlying25, rfl, Tryz.sizeOf22, rfl, rfl⟩
theorem fa_25_1 : FldT Tryz.prog 25 1 1 := ⟨_, _, _, Tryz.underlying25, rfl, Tryz.sizeOf3, rfl, rfl⟩
theorem fa_39_0 : FldT Tryz.prog 39 0 0 := ⟨_, _, _, Tryz.underlying39, rfl, Tryz.sizeOf3, rfl, rfl⟩
theorem fa_39_1 : FldT Tryz.prog 39 1 1 := ⟨_, _, _, Tryz.underlying39, rfl, Tryz.sizeOf3, rfl, rfl⟩
theorem fa_39_2 : FldT Tryz.prog 39 2 2 := ⟨_, _, _, Tryz.underlying39, rfl, Tryz.sizeOf9, rfl, rfl⟩
theorem fa_39_3 : FldT Tryz.prog 39 3 3 := ⟨_, _, _, Tryz.underlying39, rfl, Tryz.sizeOf9, rfl, rfl⟩
theorem fa_39_4 : FldT Tryz.prog 39 4 4 := ⟨_, _, _, Tryz.underlying39, rfl, Tryz.sizeOf9, rfl, rfl⟩
theorem fa_39_5 : FldT Tryz.prog 39 5 5 := ⟨_, _, _, Tryz.underlying39, rfl, Tryz.sizeOf9, rfl, rfl⟩
theorem fa_39_6 : FldT Tryz.prog 39 6 6 := ⟨_, _, _, Tryz.underlying39, rfl, Tryz.sizeOf3, rfl, rfl⟩
theorem fa_39_7 : FldT Tryz.prog 39 7 7 := ⟨_, _, _, Tryz.underlying39, rfl, Tryz.sizeOf3, rfl, rfl⟩
theorem fa_82_0 : FldT Tryz.prog 82 0 0 := ⟨_, _, _, Tryz.underlying82, rfl, Tryz.sizeOf9, rfl, rfl⟩
theorem fa_82_1 : FldT Tryz.prog 82 1 1 := ⟨_, _, _, Tryz.underlying82, rfl, Tryz.sizeOf9, rfl, rfl⟩
theorem fa_82_2 : FldT Tryz.prog 82 2 2 := ⟨_, _, _, Tryz.underlying82, rfl, Tryz.sizeOf57, rfl, rfl⟩
theorem fa_82_3 : FldT Tryz.prog 82 3 3 := ⟨_, _, _, Tryz.underlying82, rfl, Tryz.sizeOf3, rfl, rfl⟩
theorem fa_82_4 : FldT Tryz.prog 82 4 4 := ⟨_, _, _, Tryz.underlying82, rfl, Tryz.sizeOf3, rfl, rfl⟩
theorem eq_39 (dd : Nat) (x y : GStep) (w : World) : (Op.equalIn (dd + 2) 39 (.agg (GStep.enc x).toArray) (.agg (GStep.enc y).toArray)).run Tryz.prog w = .ok (decide (x = y)) w := by
  refine eq_of_fields (dd := dd + 1) (fs := (Tryz.prog.fieldsOf 39).toList) (by kernel_rfl) rfl (by kernel_rfl) (?_ : _ = Result.ok (decide (x.At = y.At) && (decide (x.Kind = y.Kind) && (decide (x.Id = y.Id) && (decide (x.Who = y.Who) && (decide (x.Club = y.Club) && (decide (x.Race = y.Race) && (decide (x.Age = y.Age) && (decide (x.Time = y.Time) && true)))))))) w) (by cases x; cases y; simp [Bool.decide_and])
  simp only [Program.fieldsOf, Tryz.underlying39]
  exact (eqF_cons (by decide) (part_cell Tryz.isAgg3 rfl) (part_cell Tryz.isAgg3 rfl) (eq_cell_int Tryz.underlying3) (eqF_cons (by decide) (part_cell Tryz.isAgg3 rfl) (part_cell Tryz.isAgg3 rfl) (eq_cell_int Tryz.underlying3) (eqF_cons (by decide) (part_cell Tryz.isAgg9 rfl) (part_cell Tryz.isAgg9 rfl) (eq_cell_str Tryz.underlying9) (eqF_cons (by decide) (part_cell Tryz.isAgg9 rfl) (part_cell Tryz.isAgg9 rfl) (eq_cell_str Tryz.underlying9) (eqF_cons (by decide) (part_cell Tryz.isAgg9 rfl) (part_cell Tryz.isAgg9 rfl) (eq_cell_str Tryz.underlying9) (eqF_cons (by decide) (part_cell Tryz.isAgg9 rfl) (part_cell Tryz.isAgg9 rfl) (eq_cell_str Tryz.underlying9) (eqF_cons (by decide) (part_cell Tryz.isAgg3 rfl) (part_cell Tryz.isAgg3 rfl) (eq_cell_int Tryz.underlying3) (eqF_cons (by decide) (part_cell Tryz.isAgg3 rfl) (part_cell Tryz.isAgg3 rfl) (eq_cell_int Tryz.underlying3) eqF_nil))))))))
theorem rn_eql_39 {a : Act} {w : World} {x y : Operand} {u ty : TypeId} {m n : GStep} (hx : a.eval x = .agg (GStep.enc m).toArray) (hy : a.eval y = .agg (GStep.enc n).toArray) : Rn Tryz.prog a w (.binOp .eql 39 x y u) ty (.bool (decide (m = n))) :=
  rn_aeql 2 (by kernel_rfl) (fun w => eq_39 _ m n w) rfl hx hy
theorem rn_neq_39 {a : Act} {w : World} {x y : Operand} {u ty : TypeId} {m n : GStep} (hx : a.eval x = .agg (GStep.enc m).toArray) (hy : a.eval y = .agg (GStep.enc n).toArray) : Rn Tryz.prog a w (.binOp .neq 39 x y u) ty (.bool (!decide (m = n))) :=
  rn_aneq 2 (by kernel_rfl) (fun w => eq_39 _ m n w) rfl hx hy
theorem bt_25 : BldT Tryz.prog 25 (.agg #[.slice none 0 0, iV 0]) [(0, 1), (1, 1)] := ⟨_, Tryz.underlying25, Tryz.zeroValue25, fun _ => by kernel_rfl⟩
theorem bt_39 : BldT Tryz.prog 39 (.agg #[iV 0, iV 0, sV k_empty, sV k_empty, sV k_empty, sV k_empty, iV 0, iV 0]) [(0, 1), (1, 1), (2, 1), (3, 1), (4, 1), (5, 1), (6, 1), (7, 1)] := ⟨_, Tryz.underlying39, Tryz.zeroValue39, fun _ => by kernel_rfl⟩
theorem bt_82 : BldT Tryz.prog 82 (.agg #[sV k_empty, sV k_empty, .slice none 0 0, iV 0, iV 0]) [(0, 1), (1, 1), (2, 1), (3, 1), (4, 1)] := ⟨_, Tryz.underlying82, Tryz.zeroValue82, fun _ => by kernel_rfl⟩
end Go.Proofs.YtamfhhmfioghgaaGreatDoor
