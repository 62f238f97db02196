/- The program's tables, by program. -/
import Derived.Test.YtikobclhcfiadaaGreatDoorTw
import Derived.Test.YtikobclhcfiadaaGreatDoorArena
import Derived.Test.YtikobclhcfiadaaGreatDoorProg
namespace Go.Proofs.YtikobclhcfiadaaGreatDoor
open Go
def GStep.enc (x : GStep) : List Value := [iV x.At, iV x.Kind, sV x.Id, sV x.Who, sV x.Club, sV x.Race, iV x.Age, iV x.Time]
theorem GStep.enc_ok : Enc 8 GStep.enc := ⟨fun _ => rfl, fun _ u h => by simp [GStep.enc] at h; rcases h with rfl | rfl | rfl | rfl | rfl | rfl | rfl | rfl <;> rfl⟩
def Grecord_swum.enc (x : Grecord_swum) : List Value := [iV x.s_.At, iV x.s_.Kind, sV x.s_.Id, sV x.s_.Who, sV x.s_.Club, sV x.s_.Race, iV x.s_.Age, iV x.s_.Time, bV x.sure_, bV x.void_]
theorem Grecord_swum.enc_ok : Enc 10 Grecord_swum.enc := ⟨fun _ => rfl, fun _ u h => by simp [Grecord_swum.enc] at h; rcases h with rfl | rfl | rfl | rfl | rfl | rfl | rfl | rfl | rfl | rfl <;> rfl⟩
def GBest.enc (x : GBest) : List Value := [sV x.Kind, sV x.Id, sV x.Who, iV x.Time, iV x.Since, bV x.Sure]
theorem GBest.enc_ok : Enc 6 GBest.enc := ⟨fun _ => rfl, fun _ u h => by simp [GBest.enc] at h; rcases h with rfl | rfl | rfl | rfl | rfl | rfl <;> rfl⟩
def GDate.enc (x : GDate) : List Value := [iV x.Year, iV x.Month, iV x.Day]
theorem GDate.enc_ok : Enc 3 GDate.enc := ⟨fun _ => rfl, fun _ u h => by simp [GDate.enc] at h; rcases h with rfl | rfl | rfl <;> rfl⟩
def GItem.enc (x : GItem) : List Value := [sV x.Key, iV x.Heats, iV x.Long, iV x.Gap, iV x.Break]
theorem GItem.enc_ok : Enc 5 GItem.enc := ⟨fun _ => rfl, fun _ u h => by simp [GItem.enc] at h; rcases h with rfl | rfl | rfl | rfl | rfl <;> rfl⟩
def GWindow.enc (x : GWindow) : List Value := [iV x.From, iV x.To]
theorem GWindow.enc_ok : Enc 2 GWindow.enc := ⟨fun _ => rfl, fun _ u h => by simp [GWindow.enc] at h; rcases h with rfl | rfl <;> rfl⟩
def GSlot.enc (x : GSlot) : List Value := [sV x.Item, iV x.Heat, iV x.Time.From, iV x.Time.To]
theorem GSlot.enc_ok : Enc 4 GSlot.enc := ⟨fun _ => rfl, fun _ u h => by simp [GSlot.enc] at h; rcases h with rfl | rfl | rfl | rfl <;> rfl⟩
def GBase.enc (x : GBase) : List Value := [sV x.Race, iV x.Time]
theorem GBase.enc_ok : Enc 2 GBase.enc := ⟨fun _ => rfl, fun _ u h => by simp [GBase.enc] at h; rcases h with rfl | rfl <;> rfl⟩
structure R33 where
  mk ::
  (Key : ByteArray)
  (Race : ByteArray)
  (Clubs : RS)
  (Young : Int)
  (Old : Int)
def R33.enc (x : R33) : List Value := [sV x.Key, sV x.Race, x.Clubs.val, iV x.Young, iV x.Old]
theorem R33.enc_ok : Enc 5 R33.enc := ⟨fun _ => rfl, fun x u h => by
    simp only [R33.enc, List.mem_cons, List.not_mem_nil, or_false] at h
    rcases h with rfl | rfl | rfl | rfl | rfl
    · exact rfl
    · exact rfl
    · exact x.Clubs.property
    · exact rfl
    · exact rfl⟩
def rel_33 (φ : View) (x : GKind) (r : R33) : Prop := ∃ u1 : RS, r = ⟨x.Key, x.Race, u1, x.Young, x.Old⟩ ∧ Slc φ 1 u1.val (x.Clubs.map eStr)
theorem rel_33_mono {φ ψ : View} (l : View.le φ ψ) (x : GKind) (r : R33) (h : rel_33 φ x r) : rel_33 ψ x r := by
  obtain ⟨u1, e, h1⟩ := h
  exact ⟨u1, e, h1.mono l⟩
theorem rels_33 {φ ψ : View} (l : View.le φ ψ) {xs : List GKind} {rs : List R33} (h : All2 (rel_33 φ) xs rs) : All2 (rel_33 ψ) xs rs := h.chg (rel_33_mono l)
def rel_85 (φ : View) (x : Grecord_swum) (r : Nat) : Prop := φ r = some (.cells (Grecord_swum.enc x).toArray 87 (0, 0))
theorem rel_85_mono {φ ψ : View} (l : View.le φ ψ) (x : Grecord_swum) (r : Nat) (h : rel_85 φ x r) : rel_85 ψ x r := l _ _ h
theorem rels_85 {φ ψ : View} (l : View.le φ ψ) {xs : List Grecord_swum} {rs : List Nat} (h : All2 (rel_85 φ) xs rs) : All2 (rel_85 ψ) xs rs := h.chg (rel_85_mono l)
theorem Tryz.mixed : Tryz.prog.follows .mixedOrders = true := by kernel_rfl
theorem sl_22 : SlT Tryz.prog 22 3 1 8 := slT_of (z := (iV 0)) Tryz.underlying22 Tryz.sizeOf3 (by kernel_rfl) rfl
theorem sl_26 : SlT Tryz.prog 26 33 5 72 := slT_of (z := (.agg #[sV k_empty, sV k_empty, .slice none 0 0, iV 0, iV 0])) Tryz.underlying26 Tryz.sizeOf33 (by kernel_rfl) rfl
theorem sl_28 : SlT Tryz.prog 28 45 8 96 := slT_of (z := (.agg #[iV 0, iV 0, sV k_empty, sV k_empty, sV k_empty, sV k_empty, iV 0, iV 0])) Tryz.underlying28 Tryz.sizeOf45 (by kernel_rfl) rfl
theorem sl_31 : SlT Tryz.prog 31 9 1 16 := slT_of (z := (sV k_empty)) Tryz.underlying31 Tryz.sizeOf9 (by kernel_rfl) rfl
theorem sl_34 : SlT Tryz.prog 34 42 6 72 := slT_of (z := (.agg #[sV k_empty, sV k_empty, sV k_empty, iV 0, iV 0, bV false])) Tryz.underlying34 Tryz.sizeOf42 (by kernel_rfl) rfl
theorem sl_54 : SlT Tryz.prog 54 85 1 8 := slT_of (z := (.pointer none)) Tryz.underlying54 Tryz.sizeOf85 (by kernel_rfl) rfl
theorem sl_59 : SlT Tryz.prog 59 35 1 8 := slT_of (z := (iV 0)) Tryz.underlying59 Tryz.sizeOf35 (by kernel_rfl) rfl
theorem sl_68 : SlT Tryz.prog 68 67 5 48 := slT_of (z := (.agg #[sV k_empty, iV 0, iV 0, iV 0, iV 0])) Tryz.underlying68 Tryz.sizeOf67 (by kernel_rfl) rfl
theorem sl_72 : SlT Tryz.prog 72 71 2 24 := slT_of (z := (.agg #[sV k_empty, iV 0])) Tryz.underlying72 Tryz.sizeOf71 (by kernel_rfl) rfl
theorem sl_91 : SlT Tryz.prog 91 109 4 40 := slT_of (z := (.agg #[sV k_empty, iV 0, iV 0, iV 0])) Tryz.underlying91 Tryz.sizeOf109 (by kernel_rfl) rfl
theorem fa_25_0 : FldT Tryz.prog 25 0 0 := ⟨_, _, _, Tryz.underlying25, rfl, Tryz.sizeOf22, rfl, rfl⟩
theorem fa_25_1 : FldT Tryz.prog 25 1 1 := ⟨_, _, _, Tryz.underlying25, rfl, Tryz.sizeOf3, rfl, rfl⟩
theorem fa_33_0 : FldT Tryz.prog 33 0 0 := ⟨_, _, _, Tryz.underlying33, rfl, Tryz.sizeOf9, rfl, rfl⟩
theorem fa_33_1 : FldT Tryz.prog 33 1 1 := ⟨_, _, _, Tryz.underlying33, rfl, Tryz.sizeOf9, rfl, rfl⟩
theorem fa_33_2 : FldT Tryz.prog 33 2 2 := ⟨_, _, _, Tryz.underlying33, rfl, Tryz.sizeOf31, rfl, rfl⟩
theorem fa_33_3 : FldT Tryz.prog 33 3 3 := ⟨_, _, _, Tryz.underlying33, rfl, Tryz.sizeOf3, rfl, rfl⟩
theorem fa_33_4 : FldT Tryz.prog 33 4 4 := ⟨_, _, _, Tryz.underlying33, rfl, Tryz.sizeOf3, rfl, rfl⟩
theorem fa_42_1 : FldT Tryz.prog 42 1 1 := ⟨_, _, _, Tryz.underlying42, rfl, Tryz.sizeOf9, rfl, rfl⟩
theorem fa_42_3 : FldT Tryz.prog 42 3 3 := ⟨_, _, _, Tryz.underlying42, rfl, Tryz.sizeOf3, rfl, rfl⟩
theorem fa_42_4 : FldT Tryz.prog 42 4 4 := ⟨_, _, _, Tryz.underlying42, rfl, Tryz.sizeOf3, rfl, rfl⟩
theorem fa_45_0 : FldT Tryz.prog 45 0 0 := ⟨_, _, _, Tryz.underlying45, rfl, Tryz.sizeOf3, rfl, rfl⟩
theorem fa_45_1 : FldT Tryz.prog 45 1 1 := ⟨_, _, _, Tryz.underlying45, rfl, Tryz.sizeOf3, rfl, rfl⟩
theorem fa_45_2 : FldT Tryz.prog 45 2 2 := ⟨_, _, _, Tryz.underlying45, rfl, Tryz.sizeOf9, rfl, rfl⟩
theorem fa_45_3 : FldT Tryz.prog 45 3 3 := ⟨_, _, _, Tryz.underlying45, rfl, Tryz.sizeOf9, rfl, rfl⟩
theorem fa_45_4 : FldT Tryz.prog 45 4 4 := ⟨_, _, _, Tryz.underlying45, rfl, Tryz.sizeOf9, rfl, rfl⟩
theorem fa_45_5 : FldT Tryz.prog 45 5 5 := ⟨_, _, _, Tryz.underlying45, rfl, Tryz.sizeOf9, rfl, rfl⟩
theorem fa_45_6 : FldT Tryz.prog 45 6 6 := ⟨_, _, _, Tryz.underlying45, rfl, Tryz.sizeOf3, rfl, rfl⟩
theorem fa_45_7 : FldT Tryz.prog 45 7 7 := ⟨_, _, _, Tryz.underlying45, rfl, Tryz.sizeOf3, rfl, rfl⟩
theorem fa_64_0 : FldT Tryz.prog 64 0 0 := ⟨_, _, _, Tryz.underlying64, rfl, Tryz.sizeOf3, rfl, rfl⟩
theorem fa_64_1 : FldT Tryz.prog 64 1 1 := ⟨_, _, _, Tryz.underlying64, rfl, Tryz.sizeOf3, rfl, rfl⟩
theorem fa_64_2 : FldT Tryz.prog 64 2 2 := ⟨_, _, _, Tryz.underlying64, rfl, Tryz.sizeOf3, rfl, rfl⟩
theorem fa_67_0 : FldT Tryz.prog 67 0 0 := ⟨_, _, _, Tryz.underlying67, rfl, Tryz.sizeOf9, rfl, rfl⟩
theorem fa_67_1 : FldT Tryz.prog 67 1 1 := ⟨_, _, _, Tryz.underlying67, rfl, Tryz.sizeOf3, rfl, rfl⟩
theorem fa_67_2 : FldT Tryz.prog 67 2 2 := ⟨_, _, _, Tryz.underlying67, rfl, Tryz.sizeOf3, rfl, rfl⟩
theorem fa_67_3 : FldT Tryz.prog 67 3 3 := ⟨_, _, _, Tryz.underlying67, rfl, Tryz.sizeOf3, rfl, rfl⟩
theorem fa_67_4 : FldT Tryz.prog 67 4 4 := ⟨_, _, _, Tryz.underlying67, rfl, Tryz.sizeOf3, rfl, rfl⟩
theorem fa_71_0 : FldT Tryz.prog 71 0 0 := ⟨_, _, _, Tryz.underlying71, rfl, Tryz.sizeOf9, rfl, rfl⟩
theorem fa_71_1 : FldT Tryz.prog 71 1 1 := ⟨_, _, _, Tryz.underlying71, rfl, Tryz.sizeOf3, rfl, rfl⟩
theorem fa_87_0 : FldT Tryz.prog 87 0 0 := ⟨_, _, _, Tryz.underlying87, rfl, Tryz.sizeOf45, rfl, rfl⟩
theorem fa_87_1 : FldT Tryz.prog 87 1 8 := ⟨_, _, _, Tryz.underlying87, rfl, Tryz.sizeOf4, rfl, rfl⟩
theorem fa_87_2 : FldT Tryz.prog 87 2 9 := ⟨_, _, _, Tryz.underlying87, rfl, Tryz.sizeOf4, rfl, rfl⟩
theorem fa_107_1 : FldT Tryz.prog 107 1 1 := ⟨_, _, _, Tryz.underlying107, rfl, Tryz.sizeOf3, rfl, rfl⟩
theorem fa_109_2 : FldT Tryz.prog 109 2 2 := ⟨_, _, _, Tryz.underlying109, rfl, Tryz.sizeOf107, rfl, rfl⟩
theorem eq_45 (dd : Nat) (x y : GStep) (w : World) : (Op.equalIn (dd + 2) 45 (.agg (GStep.enc x).toArray) (.agg (GStep.enc y).toArray)).run Tryz.prog w = .ok (decide (x = y)) w := by
  refine eq_of_fields (dd := dd + 1) (fs := (Tryz.prog.fieldsOf 45).toList) (by kernel_rfl) rfl (by kernel_rfl) (?_ : _ = Result.ok (decide (x.At = y.At) && (decide (x.Kind = y.Kind) && (decide (x.Id = y.Id) && (decide (x.Who = y.Who) && (decide (x.Club = y.Club) && (decide (x.Race = y.Race) && (decide (x.Age = y.Age) && (decide (x.Time = y.Time) && true)))))))) w) (by cases x; cases y; simp [Bool.decide_and])
  simp only [Program.fieldsOf, Tryz.underlying45]
  exact (eqF_cons (by decide) (part_cell Tryz.isAgg3 rfl) (part_cell Tryz.isAgg3 rfl) (eq_cell_int Tryz.underlying3) (eqF_cons (by decide) (part_cell Tryz.isAgg3 rfl) (part_cell Tryz.isAgg3 rfl) (eq_cell_int Tryz.underlying3) (eqF_cons (by decide) (part_cell Tryz.isAgg9 rfl) (part_cell Tryz.isAgg9 rfl) (eq_cell_str Tryz.underlying9) (eqF_cons (by decide) (part_cell Tryz.isAgg9 rfl) (part_cell Tryz.isAgg9 rfl) (eq_cell_str Tryz.underlying9) (eqF_cons (by decide) (part_cell Tryz.isAgg9 rfl) (part_cell Tryz.isAgg9 rfl) (eq_cell_str Tryz.underlying9) (eqF_cons (by decide) (part_cell Tryz.isAgg9 rfl) (part_cell Tryz.isAgg9 rfl) (eq_cell_str Tryz.underlying9) (eqF_cons (by decide) (part_cell Tryz.isAgg3 rfl) (part_cell Tryz.isAgg3 rfl) (eq_cell_int Tryz.underlying3) (eqF_cons (by decide) (part_cell Tryz.isAgg3 rfl) (part_cell Tryz.isAgg3 rfl) (eq_cell_int Tryz.underlying3) eqF_nil))))))))
theorem rn_eql_45 {a : Act} {w : World} {x y : Operand} {u ty : TypeId} {m n : GStep} (hx : a.eval x = .agg (GStep.enc m).toArray) (hy : a.eval y = .agg (GStep.enc n).toArray) : Rn Tryz.prog a w (.binOp .eql 45 x y u) ty (.bool (decide (m = n))) :=
  rn_aeql 2 (by kernel_rfl) (fun w => eq_45 _ m n w) rfl hx hy
theorem rn_neq_45 {a : Act} {w : World} {x y : Operand} {u ty : TypeId} {m n : GStep} (hx : a.eval x = .agg (GStep.enc m).toArray) (hy : a.eval y = .agg (GStep.enc n).toArray) : Rn Tryz.prog a w (.binOp .neq 45 x y u) ty (.bool (!decide (m = n))) :=
  rn_aneq 2 (by kernel_rfl) (fun w => eq_45 _ m n w) rfl hx hy
theorem bt_25 : BldT Tryz.prog 25 (.agg #[.slice none 0 0, iV 0]) [(0, 1), (1, 1)] := ⟨_, Tryz.underlying25, Tryz.zeroValue25, fun _ => by kernel_rfl⟩
theorem bt_33 : BldT Tryz.prog 33 (.agg #[sV k_empty, sV k_empty, .slice none 0 0, iV 0, iV 0]) [(0, 1), (1, 1), (2, 1), (3, 1), (4, 1)] := ⟨_, Tryz.underlying33, Tryz.zeroValue33, fun _ => by kernel_rfl⟩
theorem bt_42 : BldT Tryz.prog 42 (.agg #[sV k_empty, sV k_empty, sV k_empty, iV 0, iV 0, bV false]) [(0, 1), (1, 1), (2, 1), (3, 1), (4, 1), (5, 1)] := ⟨_, Tryz.underlying42, Tryz.zeroValue42, fun _ => by kernel_rfl⟩
theorem bt_45 : BldT Tryz.prog 45 (.agg #[iV 0, iV 0, sV k_empty, sV k_empty, sV k_empty, sV k_empty, iV 0, iV 0]) [(0, 1), (1, 1), (2, 1), (3, 1), (4, 1), (5, 1), (6, 1), (7, 1)] := ⟨_, Tryz.underlying45, Tryz.zeroValue45, fun _ => by kernel_rfl⟩
theorem bt_64 : BldT Tryz.prog 64 (.agg #[iV 0, iV 0, iV 0]) [(0, 1), (1, 1), (2, 1)] := ⟨_, Tryz.underlying64, Tryz.zeroValue64, fun _ => by kernel_rfl⟩
theorem bt_67 : BldT Tryz.prog 67 (.agg #[sV k_empty, iV 0, iV 0, iV 0, iV 0]) [(0, 1), (1, 1), (2, 1), (3, 1), (4, 1)] := ⟨_, Tryz.underlying67, Tryz.zeroValue67, fun _ => by kernel_rfl⟩
theorem bt_71 : BldT Tryz.prog 71 (.agg #[sV k_empty, iV 0]) [(0, 1), (1, 1)] := ⟨_, Tryz.underlying71, Tryz.zeroValue71, fun _ => by kernel_rfl⟩
theorem bt_87 : BldT Tryz.prog 87 (.agg #[iV 0, iV 0, sV k_empty, sV k_empty, sV k_empty, sV k_empty, iV 0, iV 0, bV false, bV false]) [(0, 8), (8, 1), (9, 1)] := ⟨_, Tryz.underlying87, Tryz.zeroValue87, fun _ => by kernel_rfl⟩
theorem bt_107 : BldT Tryz.prog 107 (.agg #[iV 0, iV 0]) [(0, 1), (1, 1)] := ⟨_, Tryz.underlying107, Tryz.zeroValue107, fun _ => by kernel_rfl⟩
theorem bt_109 : BldT Tryz.prog 109 (.agg #[sV k_empty, iV 0, iV 0, iV 0]) [(0, 1), (1, 1), (2, 2)] := ⟨_, Tryz.underlying109, Tryz.zeroValue109, fun _ => by kernel_rfl⟩
end Go.Proofs.YtikobclhcfiadaaGreatDoor
