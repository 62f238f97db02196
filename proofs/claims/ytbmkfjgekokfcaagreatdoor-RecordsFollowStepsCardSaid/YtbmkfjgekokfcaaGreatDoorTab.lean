/- The program's tables, by program. -/
import Derived.Test.YtbmkfjgekokfcaaGreatDoorTw
import Derived.Test.YtbmkfjgekokfcaaGreatDoorArena
import Derived.Test.YtbmkfjgekokfcaaGreatDoorProg
namespace Go.Proofs.YtbmkfjgekokfcaaGreatDoor
open Go
def GStep.enc (x : GStep) : List Value := [iV x.At, iV x.Kind, sV x.Id, sV x.Who, sV x.Club, sV x.Race, iV x.Age, iV x.Time]
theorem GStep.enc_ok : Enc 8 GStep.enc := ⟨fun _ => rfl, fun _ u h => by simp [GStep.enc] at h; rcases h with rfl | rfl | rfl | rfl | rfl | rfl | rfl | rfl <;> rfl⟩
def Grecord_swum.enc (x : Grecord_swum) : List Value := [iV x.s_.At, iV x.s_.Kind, sV x.s_.Id, sV x.s_.Who, sV x.s_.Club, sV x.s_.Race, iV x.s_.Age, iV x.s_.Time, bV x.sure_, bV x.void_]
theorem Grecord_swum.enc_ok : Enc 10 Grecord_swum.enc := ⟨fun _ => rfl, fun _ u h => by simp [Grecord_swum.enc] at h; rcases h with rfl | rfl | rfl | rfl | rfl | rfl | rfl | rfl | rfl | rfl <;> rfl⟩
def GBest.enc (x : GBest) : List Value := [sV x.Kind, sV x.Id, sV x.Who, iV x.Time, iV x.Since, bV x.Sure]
theorem GBest.enc_ok : Enc 6 GBest.enc := ⟨fun _ => rfl, fun _ u h => by simp [GBest.enc] at h; rcases h with rfl | rfl | rfl | rfl | rfl | rfl <;> rfl⟩
def GDate.enc (x : GDate) : List Value := [iV x.Year, iV x.Month, iV x.Day]
theorem GDate.enc_ok : Enc 3 GDate.enc := ⟨fun _ => rfl, fun _ u h => by simp [GDate.enc] at h; rcases h with rfl | rfl | rfl <;> rfl⟩
def GItem.enc (x : GItem) : List Value := [sV x.Key, iV x.Heats, iV x.Long, iV x.Gap, iV x.Break]
theorem GItem.enc_ok : Enc 5 GItem.enc := ⟨fun _ => rfl, fun _ u h => by simp [GItem.enc] at h; rcases h with rfl | rfl | rfl | rfl | rfl <;> rfl⟩
def GWindow.enc (x : GWindow) : List Value := [iV x.From, iV x.To]
theorem GWindow.enc_ok : Enc 2 GWindow.enc := ⟨fun _ => rfl, fun _ u h => by simp [GWindow.enc] at h; rcases h with rfl | rfl <;> rfl⟩
def GSlot.enc (x : GSlot) : List Value := [sV x.Item, iV x.Heat, iV x.Time.From, iV x.Time.To]
theorem GSlot.enc_ok : Enc 4 GSlot.enc := ⟨fun _ => rfl, fun _ u h => by simp [GSlot.enc] at h; rcases h with rfl | rfl | rfl | rfl <;> rfl⟩
def GBase.enc (x : GBase) : List Value := [sV x.Race, iV x.Time]
theorem GBase.enc_ok : Enc 2 GBase.enc := ⟨fun _ => rfl, fun _ u h => by simp [GBase.enc] at h; rcases h with rfl | rfl <;> rfl⟩
structure R56 where
  mk ::
  (Key : ByteArray)
  (Race : ByteArray)
  (Clubs : RS)
  (Young : Int)
  (Old : Int)
def R56.enc (x : R56) : List Value := [sV x.Key, sV x.Race, x.Clubs.val, iV x.Young, iV x.Old]
theorem R56.enc_ok : Enc 5 R56.enc := ⟨fun _ => rfl, fun x u h => by
    simp only [R56.enc, List.mem_cons, List.not_mem_nil, or_false] at h
    rcases h with rfl | rfl | rfl | rfl | rfl
    · exact rfl
    · exact rfl
    · exact x.Clubs.property
    · exact rfl
    · exact rfl⟩
def rel_56 (φ : View) (x : GKind) (r : R56) : Prop := ∃ u1 : RS, r = ⟨x.Key, x.Race, u1, x.Young, x.Old⟩ ∧ Slc φ 1 u1.val (x.Clubs.map eStr)
theorem rel_56_mono {φ ψ : View} (l : View.le φ ψ) (x : GKind) (r : R56) (h : rel_56 φ x r) : rel_56 ψ x r := by
  obtain ⟨u1, e, h1⟩ := h
  exact ⟨u1, e, h1.mono l⟩
theorem rels_56 {φ ψ : View} (l : View.le φ ψ) {xs : List GKind} {rs : List R56} (h : All2 (rel_56 φ) xs rs) : All2 (rel_56 ψ) xs rs := h.chg (rel_56_mono l)
def rel_90 (φ : View) (x : Grecord_swum) (r : Nat) : Prop := φ r = some (.cells (Grecord_swum.enc x).toArray 92 (0, 0))
theorem rel_90_mono {φ ψ : View} (l : View.le φ ψ) (x : Grecord_swum) (r : Nat) (h : rel_90 φ x r) : rel_90 ψ x r := l _ _ h
theorem rels_90 {φ ψ : View} (l : View.le φ ψ) {xs : List Grecord_swum} {rs : List Nat} (h : All2 (rel_90 φ) xs rs) : All2 (rel_90 ψ) xs rs := h.chg (rel_90_mono l)
theorem Tryz.mixed : Tryz.prog.follows .mixedOrders = true := by kernel_rfl
theorem sl_22 : SlT Tryz.prog 22 3 1 8 := slT_of (z := (iV 0)) Tryz.underlying22 Tryz.sizeOf3 (by kernel_rfl) rfl
theorem sl_26 : SlT Tryz.prog 26 56 5 72 := slT_of (z := (.agg #[sV k_empty, sV k_empty, .slice none 0 0, iV 0, iV 0])) Tryz.underlying26 Tryz.sizeOf56 (by kernel_rfl) rfl
theorem sl_28 : SlT Tryz.prog 28 35 8 96 := slT_of (z := (.agg #[iV 0, iV 0, sV k_empty, sV k_empty, sV k_empty, sV k_empty, iV 0, iV 0])) Tryz.underlying28 Tryz.sizeOf35 (by kernel_rfl) rfl
theorem sl_37 : SlT Tryz.prog 37 47 6 72 := slT_of (z := (.agg #[sV k_empty, sV k_empty, sV k_empty, iV 0, iV 0, bV false])) Tryz.underlying37 Tryz.sizeOf47 (by kernel_rfl) rfl
theorem sl_51 : SlT Tryz.prog 51 9 1 16 := slT_of (z := (sV k_empty)) Tryz.underlying51 Tryz.sizeOf9 (by kernel_rfl) rfl
theorem sl_59 : SlT Tryz.prog 59 90 1 8 := slT_of (z := (.pointer none)) Tryz.underlying59 Tryz.sizeOf90 (by kernel_rfl) rfl
theorem sl_70 : SlT Tryz.prog 70 31 1 8 := slT_of (z := (iV 0)) Tryz.underlying70 Tryz.sizeOf31 (by kernel_rfl) rfl
theorem sl_78 : SlT Tryz.prog 78 77 5 48 := slT_of (z := (.agg #[sV k_empty, iV 0, iV 0, iV 0, iV 0])) Tryz.underlying78 Tryz.sizeOf77 (by kernel_rfl) rfl
theorem sl_82 : SlT Tryz.prog 82 81 2 24 := slT_of (z := (.agg #[sV k_empty, iV 0])) Tryz.underlying82 Tryz.sizeOf81 (by kernel_rfl) rfl
theorem sl_99 : SlT Tryz.prog 99 124 4 40 := slT_of (z := (.agg #[sV k_empty, iV 0, iV 0, iV 0])) Tryz.underlying99 Tryz.sizeOf124 (by kernel_rfl) rfl
theorem fa_25_0 : FldT Tryz.prog 25 0 0 := ⟨_, _, _, Tryz.underlying25, rfl, Tryz.sizeOf22, rfl, rfl⟩
theorem fa_25_1 : FldT Tryz.prog 25 1 1 := ⟨_, _, _, Tryz.underlying25, rfl, Tryz.sizeOf3, rfl, rfl⟩
theorem fa_35_0 : FldT Tryz.prog 35 0 0 := ⟨_, _, _, Tryz.underlying35, rfl, Tryz.sizeOf3, rfl, rfl⟩
theorem fa_35_1 : FldT Tryz.prog 35 1 1 := ⟨_, _, _, Tryz.underlying35, rfl, Tryz.sizeOf3, rfl, rfl⟩
theorem fa_35_2 : FldT Tryz.prog 35 2 2 := ⟨_, _, _, Tryz.underlying35, rfl, Tryz.sizeOf9, rfl, rfl⟩
theorem fa_35_3 : FldT Tryz.prog 35 3 3 := ⟨_, _, _, Tryz.underlying35, rfl, Tryz.sizeOf9, rfl, rfl⟩
theorem fa_35_4 : FldT Tryz.prog 35 4 4 := ⟨_, _, _, Tryz.underlying35, rfl, Tryz.sizeOf9, rfl, rfl⟩
theorem fa_35_5 : FldT Tryz.prog 35 5 5 := ⟨_, _, _, Tryz.underlying35, rfl, Tryz.sizeOf9, rfl, rfl⟩
theorem fa_35_6 : FldT Tryz.prog 35 6 6 := ⟨_, _, _, Tryz.underlying35, rfl, Tryz.sizeOf3, rfl, rfl⟩
theorem fa_35_7 : FldT Tryz.prog 35 7 7 := ⟨_, _, _, Tryz.underlying35, rfl, Tryz.sizeOf3, rfl, rfl⟩
theorem fa_47_3 : FldT Tryz.prog 47 3 3 := ⟨_, _, _, Tryz.underlying47, rfl, Tryz.sizeOf3, rfl, rfl⟩
theorem fa_56_0 : FldT Tryz.prog 56 0 0 := ⟨_, _, _, Tryz.underlying56, rfl, Tryz.sizeOf9, rfl, rfl⟩
theorem fa_56_1 : FldT Tryz.prog 56 1 1 := ⟨_, _, _, Tryz.underlying56, rfl, Tryz.sizeOf9, rfl, rfl⟩
theorem fa_56_2 : FldT Tryz.prog 56 2 2 := ⟨_, _, _, Tryz.underlying56, rfl, Tryz.sizeOf51, rfl, rfl⟩
theorem fa_56_3 : FldT Tryz.prog 56 3 3 := ⟨_, _, _, Tryz.underlying56, rfl, Tryz.sizeOf3, rfl, rfl⟩
theorem fa_56_4 : FldT Tryz.prog 56 4 4 := ⟨_, _, _, Tryz.underlying56, rfl, Tryz.sizeOf3, rfl, rfl⟩
theorem fa_74_0 : FldT Tryz.prog 74 0 0 := ⟨_, _, _, Tryz.underlying74, rfl, Tryz.sizeOf3, rfl, rfl⟩
theorem fa_74_1 : FldT Tryz.prog 74 1 1 := ⟨_, _, _, Tryz.underlying74, rfl, Tryz.sizeOf3, rfl, rfl⟩
theorem fa_74_2 : FldT Tryz.prog 74 2 2 := ⟨_, _, _, Tryz.underlying74, rfl, Tryz.sizeOf3, rfl, rfl⟩
theorem fa_77_0 : FldT Tryz.prog 77 0 0 := ⟨_, _, _, Tryz.underlying77, rfl, Tryz.sizeOf9, rfl, rfl⟩
theorem fa_77_1 : FldT Tryz.prog 77 1 1 := ⟨_, _, _, Tryz.underlying77, rfl, Tryz.sizeOf3, rfl, rfl⟩
theorem fa_77_2 : FldT Tryz.prog 77 2 2 := ⟨_, _, _, Tryz.underlying77, rfl, Tryz.sizeOf3, rfl, rfl⟩
theorem fa_77_3 : FldT Tryz.prog 77 3 3 := ⟨_, _, _, Tryz.underlying77, rfl, Tryz.sizeOf3, rfl, rfl⟩
theorem fa_77_4 : FldT Tryz.prog 77 4 4 := ⟨_, _, _, Tryz.underlying77, rfl, Tryz.sizeOf3, rfl, rfl⟩
theorem fa_81_0 : FldT Tryz.prog 81 0 0 := ⟨_, _, _, Tryz.underlying81, rfl, Tryz.sizeOf9, rfl, rfl⟩
theorem fa_81_1 : FldT Tryz.prog 81 1 1 := ⟨_, _, _, Tryz.underlying81, rfl, Tryz.sizeOf3, rfl, rfl⟩
theorem fa_92_0 : FldT Tryz.prog 92 0 0 := ⟨_, _, _, Tryz.underlying92, rfl, Tryz.sizeOf35, rfl, rfl⟩
theorem fa_92_1 : FldT Tryz.prog 92 1 8 := ⟨_, _, _, Tryz.underlying92, rfl, Tryz.sizeOf4, rfl, rfl⟩
theorem fa_92_2 : FldT Tryz.prog 92 2 9 := ⟨_, _, _, Tryz.underlying92, rfl, Tryz.sizeOf4, rfl, rfl⟩
theorem fa_122_1 : FldT Tryz.prog 122 1 1 := ⟨_, _, _, Tryz.underlying122, rfl, Tryz.sizeOf3, rfl, rfl⟩
theorem fa_124_2 : FldT Tryz.prog 124 2 2 := ⟨_, _, _, Tryz.underlying124, rfl, Tryz.sizeOf122, rfl, rfl⟩
theorem eq_35 (dd : Nat) (x y : GStep) (w : World) : (Op.equalIn (dd + 2) 35 (.agg (GStep.enc x).toArray) (.agg (GStep.enc y).toArray)).run Tryz.prog w = .ok (decide (x = y)) w := by
  refine eq_of_fields (dd := dd + 1) (fs := (Tryz.prog.fieldsOf 35).toList) (by kernel_rfl) rfl (by kernel_rfl) (?_ : _ = Result.ok (decide (x.At = y.At) && (decide (x.Kind = y.Kind) && (decide (x.Id = y.Id) && (decide (x.Who = y.Who) && (decide (x.Club = y.Club) && (decide (x.Race = y.Race) && (decide (x.Age = y.Age) && (decide (x.Time = y.Time) && true)))))))) w) (by cases x; cases y; simp [Bool.decide_and])
  simp only [Program.fieldsOf, Tryz.underlying35]
  exact (eqF_cons (by decide) (part_cell Tryz.isAgg3 rfl) (part_cell Tryz.isAgg3 rfl) (eq_cell_int Tryz.underlying3) (eqF_cons (by decide) (part_cell Tryz.isAgg3 rfl) (part_cell Tryz.isAgg3 rfl) (eq_cell_int Tryz.underlying3) (eqF_cons (by decide) (part_cell Tryz.isAgg9 rfl) (part_cell Tryz.isAgg9 rfl) (eq_cell_str Tryz.underlying9) (eqF_cons (by decide) (part_cell Tryz.isAgg9 rfl) (part_cell Tryz.isAgg9 rfl) (eq_cell_str Tryz.underlying9) (eqF_cons (by decide) (part_cell Tryz.isAgg9 rfl) (part_cell Tryz.isAgg9 rfl) (eq_cell_str Tryz.underlying9) (eqF_cons (by decide) (part_cell Tryz.isAgg9 rfl) (part_cell Tryz.isAgg9 rfl) (eq_cell_str Tryz.underlying9) (eqF_cons (by decide) (part_cell Tryz.isAgg3 rfl) (part_cell Tryz.isAgg3 rfl) (eq_cell_int Tryz.underlying3) (eqF_cons (by decide) (part_cell Tryz.isAgg3 rfl) (part_cell Tryz.isAgg3 rfl) (eq_cell_int Tryz.underlying3) eqF_nil))))))))
theorem rn_eql_35 {a : Act} {w : World} {x y : Operand} {u ty : TypeId} {m n : GStep} (hx : a.eval x = .agg (GStep.enc m).toArray) (hy : a.eval y = .agg (GStep.enc n).toArray) : Rn Tryz.prog a w (.binOp .eql 35 x y u) ty (.bool (decide (m = n))) :=
  rn_aeql 2 (by kernel_rfl) (fun w => eq_35 _ m n w) rfl hx hy
theorem rn_neq_35 {a : Act} {w : World} {x y : Operand} {u ty : TypeId} {m n : GStep} (hx : a.eval x = .agg (GStep.enc m).toArray) (hy : a.eval y = .agg (GStep.enc n).toArray) : Rn Tryz.prog a w (.binOp .neq 35 x y u) ty (.bool (!decide (m = n))) :=
  rn_aneq 2 (by kernel_rfl) (fun w => eq_35 _ m n w) rfl hx hy
theorem eq_47 (dd : Nat) (x y : GBest) (w : World) : (Op.equalIn (dd + 2) 47 (.agg (GBest.enc x).toArray) (.agg (GBest.enc y).toArray)).run Tryz.prog w = .ok (decide (x = y)) w := by
  refine eq_of_fields (dd := dd + 1) (fs := (Tryz.prog.fieldsOf 47).toList) (by kernel_rfl) rfl (by kernel_rfl) (?_ : _ = Result.ok (decide (x.Kind = y.Kind) && (decide (x.Id = y.Id) && (decide (x.Who = y.Who) && (decide (x.Time = y.Time) && (decide (x.Since = y.Since) && (decide (x.Sure = y.Sure) && true)))))) w) (by cases x; cases y; simp [Bool.decide_and])
  simp only [Program.fieldsOf, Tryz.underlying47]
  exact (eqF_cons (by decide) (part_cell Tryz.isAgg9 rfl) (part_cell Tryz.isAgg9 rfl) (eq_cell_str Tryz.underlying9) (eqF_cons (by decide) (part_cell Tryz.isAgg9 rfl) (part_cell Tryz.isAgg9 rfl) (eq_cell_str Tryz.underlying9) (eqF_cons (by decide) (part_cell Tryz.isAgg9 rfl) (part_cell Tryz.isAgg9 rfl) (eq_cell_str Tryz.underlying9) (eqF_cons (by decide) (part_cell Tryz.isAgg3 rfl) (part_cell Tryz.isAgg3 rfl) (eq_cell_int Tryz.underlying3) (eqF_cons (by decide) (part_cell Tryz.isAgg3 rfl) (part_cell Tryz.isAgg3 rfl) (eq_cell_int Tryz.underlying3) (eqF_cons (by decide) (part_cell Tryz.isAgg4 rfl) (part_cell Tryz.isAgg4 rfl) (eq_cell_bool Tryz.underlying4) eqF_nil))))))
theorem rn_eql_47 {a : Act} {w : World} {x y : Operand} {u ty : TypeId} {m n : GBest} (hx : a.eval x = .agg (GBest.enc m).toArray) (hy : a.eval y = .agg (GBest.enc n).toArray) : Rn Tryz.prog a w (.binOp .eql 47 x y u) ty (.bool (decide (m = n))) :=
  rn_aeql 2 (by kernel_rfl) (fun w => eq_47 _ m n w) rfl hx hy
theorem rn_neq_47 {a : Act} {w : World} {x y : Operand} {u ty : TypeId} {m n : GBest} (hx : a.eval x = .agg (GBest.enc m).toArray) (hy : a.eval y = .agg (GBest.enc n).toArray) : Rn Tryz.prog a w (.binOp .neq 47 x y u) ty (.bool (!decide (m = n))) :=
  rn_aneq 2 (by kernel_rfl) (fun w => eq_47 _ m n w) rfl hx hy
theorem bt_25 : BldT Tryz.prog 25 (.agg #[.slice none 0 0, iV 0]) [(0, 1), (1, 1)] := ⟨_, Tryz.underlying25, Tryz.zeroValue25, fun _ => by kernel_rfl⟩
theorem bt_35 : BldT Tryz.prog 35 (.agg #[iV 0, iV 0, sV k_empty, sV k_empty, sV k_empty, sV k_empty, iV 0, iV 0]) [(0, 1), (1, 1), (2, 1), (3, 1), (4, 1), (5, 1), (6, 1), (7, 1)] := ⟨_, Tryz.underlying35, Tryz.zeroValue35, fun _ => by kernel_rfl⟩
theorem bt_47 : BldT Tryz.prog 47 (.agg #[sV k_empty, sV k_empty, sV k_empty, iV 0, iV 0, bV false]) [(0, 1), (1, 1), (2, 1), (3, 1), (4, 1), (5, 1)] := ⟨_, Tryz.underlying47, Tryz.zeroValue47, fun _ => by kernel_rfl⟩
theorem bt_56 : BldT Tryz.prog 56 (.agg #[sV k_empty, sV k_empty, .slice none 0 0, iV 0, iV 0]) [(0, 1), (1, 1), (2, 1), (3, 1), (4, 1)] := ⟨_, Tryz.underlying56, Tryz.zeroValue56, fun _ => by kernel_rfl⟩
theorem bt_74 : BldT Tryz.prog 74 (.agg #[iV 0, iV 0, iV 0]) [(0, 1), (1, 1), (2, 1)] := ⟨_, Tryz.underlying74, Tryz.zeroValue74, fun _ => by kernel_rfl⟩
theorem bt_77 : BldT Tryz.prog 77 (.agg #[sV k_empty, iV 0, iV 0, iV 0, iV 0]) [(0, 1), (1, 1), (2, 1), (3, 1), (4, 1)] := ⟨_, Tryz.underlying77, Tryz.zeroValue77, fun _ => by kernel_rfl⟩
theorem bt_81 : BldT Tryz.prog 81 (.agg #[sV k_empty, iV 0]) [(0, 1), (1, 1)] := ⟨_, Tryz.underlying81, Tryz.zeroValue81, fun _ => by kernel_rfl⟩
theorem bt_92 : BldT Tryz.prog 92 (.agg #[iV 0, iV 0, sV k_empty, sV k_empty, sV k_empty, sV k_empty, iV 0, iV 0, bV false, bV false]) [(0, 8), (8, 1), (9, 1)] := ⟨_, Tryz.underlying92, Tryz.zeroValue92, fun _ => by kernel_rfl⟩
theorem bt_122 : BldT Tryz.prog 122 (.agg #[iV 0, iV 0]) [(0, 1), (1, 1)] := ⟨_, Tryz.underlying122, Tryz.zeroValue122, fun _ => by kernel_rfl⟩
theorem bt_124 : BldT Tryz.prog 124 (.agg #[sV k_empty, iV 0, iV 0, iV 0]) [(0, 1), (1, 1), (2, 2)] := ⟨_, Tryz.underlying124, Tryz.zeroValue124, fun _ => by kernel_rfl⟩
end Go.Proofs.YtbmkfjgekokfcaaGreatDoor
