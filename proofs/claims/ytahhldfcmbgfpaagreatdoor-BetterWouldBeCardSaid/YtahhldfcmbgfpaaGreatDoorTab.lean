/- The program's tables, by program. -/
import Derived.Test.YtahhldfcmbgfpaaGreatDoorTw
import Derived.Test.YtahhldfcmbgfpaaGreatDoorArena
import Derived.Test.YtahhldfcmbgfpaaGreatDoorProg
namespace Go.Proofs.YtahhldfcmbgfpaaGreatDoor
open Go
def GStep.enc (x : GStep) : List Value := [iV x.At, iV x.Kind, sV x.Id, sV x.Who, sV x.Club, sV x.Race, iV x.Age, iV x.Time]
theorem GStep.enc_ok : Enc 8 GStep.enc := ⟨fun _ => rfl, fun _ u h => by simp [GStep.enc] at h; rcases h with rfl | rfl | rfl | rfl | rfl | rfl | rfl | rfl <;> rfl⟩
def Grecord_swum.enc (x : Grecord_swum) : List Value := [iV x.s_.At, iV x.s_.Kind, sV x.s_.Id, sV x.s_.Who, sV x.s_.Club, sV x.s_.Race, iV x.s_.Age, iV x.s_.Time, bV x.sure_, bV x.void_]
theorem Grecord_swum.enc_ok : Enc 10 Grecord_swum.enc := ⟨fun _ => rfl, fun _ u h => by simp [Grecord_swum.enc] at h; rcases h with rfl | rfl | rfl | rfl | rfl | rfl | rfl | rfl | rfl | rfl <;> rfl⟩
def GBest.enc (x : GBest) : List Value := [sV x.Kind, sV x.Id, sV x.Who, iV x.Time, iV x.Since, bV x.Sure]
theorem GBest.enc_ok : Enc 6 GBest.enc := ⟨fun _ => rfl, fun _ u h => by simp [GBest.enc] at h; rcases h with rfl | rfl | rfl | rfl | rfl | rfl <;> rfl⟩
def GDate.enc (x : GDate) : List Value := [iV x.Year, iV x.Month, iV x.Day]
theorem GDate.enc_ok : Enc 3 GDate.enc := ⟨fun _ => rfl, fun _ u h => by simp [GDate.enc] at h; rcases h with rfl | rfl | rfl <;> rfl⟩
def GItem.enc (x : GItem) : List Value := [sV x.Key, iV x.Heats, iV x.Long, iV x.Gap, iV x.Break]
theorem GItem.enc_ok : Enc 5 GItem.enc := ⟨fun _ => rfl, fun _ u h => by simp [GItem.enc] at h; rcases h with rfl | rfl | rfl | rfl | rfl <;> rfl⟩
def GWindow.enc (x : GWindow) : List Value := [iV x.From, iV x.To]
theorem GWindow.enc_ok : Enc 2 GWindow.enc := ⟨fun _ => rfl, fun _ u h => by simp [GWindow.enc] at h; rcases h with rfl | rfl <;> rfl⟩
def GSlot.enc (x : GSlot) : List Value := [sV x.Item, iV x.Heat, iV x.Time.From, iV x.Time.To]
theorem GSlot.enc_ok : Enc 4 GSlot.enc := ⟨fun _ => rfl, fun _ u h => by simp [GSlot.enc] at h; rcases h with rfl | rfl | rfl | rfl <;> rfl⟩
def GBase.enc (x : GBase) : List Value := [sV x.Race, iV x.Time]
theorem GBase.enc_ok : Enc 2 GBase.enc := ⟨fun _ => rfl, fun _ u h => by simp [GBase.enc] at h; rcases h with rfl | rfl <;> rfl⟩
structure R48 where
  mk ::
  (Key : ByteArray)
  (Race : ByteArray)
  (Clubs : RS)
  (Young : Int)
  (Old : Int)
def R48.enc (x : R48) : List Value := [sV x.Key, sV x.Race, x.Clubs.val, iV x.Young, iV x.Old]
theorem R48.enc_ok : Enc 5 R48.enc := ⟨fun _ => rfl, fun x u h => by
    simp only [R48.enc, List.mem_cons, List.not_mem_nil, or_false] at h
    rcases h with rfl | rfl | rfl | rfl | rfl
    · exact rfl
    · exact rfl
    · exact x.Clubs.property
    · exact rfl
    · exact rfl⟩
def rel_48 (φ : View) (x : GKind) (r : R48) : Prop := ∃ u1 : RS, r = ⟨x.Key, x.Race, u1, x.Young, x.Old⟩ ∧ Slc φ 1 u1.val (x.Clubs.map eStr)
theorem rel_48_mono {φ ψ : View} (l : View.le φ ψ) (x : GKind) (r : R48) (h : rel_48 φ x r) : rel_48 ψ x r := by
  obtain ⟨u1, e, h1⟩ := h
  exact ⟨u1, e, h1.mono l⟩
theorem rels_48 {φ ψ : View} (l : View.le φ ψ) {xs : List GKind} {rs : List R48} (h : All2 (rel_48 φ) xs rs) : All2 (rel_48 ψ) xs rs := h.chg (rel_48_mono l)
def rel_84 (φ : View) (x : Grecord_swum) (r : Nat) : Prop := φ r = some (.cells (Grecord_swum.enc x).toArray 86 (0, 0))
theorem rel_84_mono {φ ψ : View} (l : View.le φ ψ) (x : Grecord_swum) (r : Nat) (h : rel_84 φ x r) : rel_84 ψ x r := l _ _ h
theorem rels_84 {φ ψ : View} (l : View.le φ ψ) {xs : List Grecord_swum} {rs : List Nat} (h : All2 (rel_84 φ) xs rs) : All2 (rel_84 ψ) xs rs := h.chg (rel_84_mono l)
theorem Tryz.mixed : Tryz.prog.follows .mixedOrders = true := by kernel_rfl
theorem sl_22 : SlT Tryz.prog 22 3 1 8 := slT_of (z := (iV 0)) Tryz.underlying22 Tryz.sizeOf3 (by kernel_rfl) rfl
theorem sl_26 : SlT Tryz.prog 26 48 5 72 := slT_of (z := (.agg #[sV k_empty, sV k_empty, .slice none 0 0, iV 0, iV 0])) Tryz.underlying26 Tryz.sizeOf48 (by kernel_rfl) rfl
theorem sl_28 : SlT Tryz.prog 28 32 8 96 := slT_of (z := (.agg #[iV 0, iV 0, sV k_empty, sV k_empty, sV k_empty, sV k_empty, iV 0, iV 0])) Tryz.underlying28 Tryz.sizeOf32 (by kernel_rfl) rfl
theorem sl_34 : SlT Tryz.prog 34 9 1 16 := slT_of (z := (sV k_empty)) Tryz.underlying34 Tryz.sizeOf9 (by kernel_rfl) rfl
theorem sl_53 : SlT Tryz.prog 53 84 1 8 := slT_of (z := (.pointer none)) Tryz.underlying53 Tryz.sizeOf84 (by kernel_rfl) rfl
theorem sl_57 : SlT Tryz.prog 57 61 6 72 := slT_of (z := (.agg #[sV k_empty, sV k_empty, sV k_empty, iV 0, iV 0, bV false])) Tryz.underlying57 Tryz.sizeOf61 (by kernel_rfl) rfl
theorem sl_64 : SlT Tryz.prog 64 35 1 8 := slT_of (z := (iV 0)) Tryz.underlying64 Tryz.sizeOf35 (by kernel_rfl) rfl
theorem sl_72 : SlT Tryz.prog 72 71 5 48 := slT_of (z := (.agg #[sV k_empty, iV 0, iV 0, iV 0, iV 0])) Tryz.underlying72 Tryz.sizeOf71 (by kernel_rfl) rfl
theorem sl_76 : SlT Tryz.prog 76 75 2 24 := slT_of (z := (.agg #[sV k_empty, iV 0])) Tryz.underlying76 Tryz.sizeOf75 (by kernel_rfl) rfl
theorem sl_92 : SlT Tryz.prog 92 108 4 40 := slT_of (z := (.agg #[sV k_empty, iV 0, iV 0, iV 0])) Tryz.underlying92 Tryz.sizeOf108 (by kernel_rfl) rfl
theorem fa_25_0 : FldT Tryz.prog 25 0 0 := ⟨_, _, _, Tryz.underlying25, rfl, Tryz.sizeOf22, rfl, rfl⟩
theorem fa_25_1 : FldT Tryz.prog 25 1 1 := ⟨_, _, _, Tryz.underlying25, rfl, Tryz.sizeOf3, rfl, rfl⟩
theorem fa_32_0 : FldT Tryz.prog 32 0 0 := ⟨_, _, _, Tryz.underlying32, rfl, Tryz.sizeOf3, rfl, rfl⟩
theorem fa_32_1 : FldT Tryz.prog 32 1 1 := ⟨_, _, _, Tryz.underlying32, rfl, Tryz.sizeOf3, rfl, rfl⟩
theorem fa_32_2 : FldT Tryz.prog 32 2 2 := ⟨_, _, _, Tryz.underlying32, rfl, Tryz.sizeOf9, rfl, rfl⟩
theorem fa_32_3 : FldT Tryz.prog 32 3 3 := ⟨_, _, _, Tryz.underlying32, rfl, Tryz.sizeOf9, rfl, rfl⟩
theorem fa_32_4 : FldT Tryz.prog 32 4 4 := ⟨_, _, _, Tryz.underlying32, rfl, Tryz.sizeOf9, rfl, rfl⟩
theorem fa_32_5 : FldT Tryz.prog 32 5 5 := ⟨_, _, _, Tryz.underlying32, rfl, Tryz.sizeOf9, rfl, rfl⟩
theorem fa_32_6 : FldT Tryz.prog 32 6 6 := ⟨_, _, _, Tryz.underlying32, rfl, Tryz.sizeOf3, rfl, rfl⟩
theorem fa_32_7 : FldT Tryz.prog 32 7 7 := ⟨_, _, _, Tryz.underlying32, rfl, Tryz.sizeOf3, rfl, rfl⟩
theorem fa_48_0 : FldT Tryz.prog 48 0 0 := ⟨_, _, _, Tryz.underlying48, rfl, Tryz.sizeOf9, rfl, rfl⟩
theorem fa_48_1 : FldT Tryz.prog 48 1 1 := ⟨_, _, _, Tryz.underlying48, rfl, Tryz.sizeOf9, rfl, rfl⟩
theorem fa_48_2 : FldT Tryz.prog 48 2 2 := ⟨_, _, _, Tryz.underlying48, rfl, Tryz.sizeOf34, rfl, rfl⟩
theorem fa_48_3 : FldT Tryz.prog 48 3 3 := ⟨_, _, _, Tryz.underlying48, rfl, Tryz.sizeOf3, rfl, rfl⟩
theorem fa_48_4 : FldT Tryz.prog 48 4 4 := ⟨_, _, _, Tryz.underlying48, rfl, Tryz.sizeOf3, rfl, rfl⟩
theorem fa_61_1 : FldT Tryz.prog 61 1 1 := ⟨_, _, _, Tryz.underlying61, rfl, Tryz.sizeOf9, rfl, rfl⟩
theorem fa_61_3 : FldT Tryz.prog 61 3 3 := ⟨_, _, _, Tryz.underlying61, rfl, Tryz.sizeOf3, rfl, rfl⟩
theorem fa_68_0 : FldT Tryz.prog 68 0 0 := ⟨_, _, _, Tryz.underlying68, rfl, Tryz.sizeOf3, rfl, rfl⟩
theorem fa_68_1 : FldT Tryz.prog 68 1 1 := ⟨_, _, _, Tryz.underlying68, rfl, Tryz.sizeOf3, rfl, rfl⟩
theorem fa_68_2 : FldT Tryz.prog 68 2 2 := ⟨_, _, _, Tryz.underlying68, rfl, Tryz.sizeOf3, rfl, rfl⟩
theorem fa_71_0 : FldT Tryz.prog 71 0 0 := ⟨_, _, _, Tryz.underlying71, rfl, Tryz.sizeOf9, rfl, rfl⟩
theorem fa_71_1 : FldT Tryz.prog 71 1 1 := ⟨_, _, _, Tryz.underlying71, rfl, Tryz.sizeOf3, rfl, rfl⟩
theorem fa_71_2 : FldT Tryz.prog 71 2 2 := ⟨_, _, _, Tryz.underlying71, rfl, Tryz.sizeOf3, rfl, rfl⟩
theorem fa_71_3 : FldT Tryz.prog 71 3 3 := ⟨_, _, _, Tryz.underlying71, rfl, Tryz.sizeOf3, rfl, rfl⟩
theorem fa_71_4 : FldT Tryz.prog 71 4 4 := ⟨_, _, _, Tryz.underlying71, rfl, Tryz.sizeOf3, rfl, rfl⟩
theorem fa_75_0 : FldT Tryz.prog 75 0 0 := ⟨_, _, _, Tryz.underlying75, rfl, Tryz.sizeOf9, rfl, rfl⟩
theorem fa_75_1 : FldT Tryz.prog 75 1 1 := ⟨_, _, _, Tryz.underlying75, rfl, Tryz.sizeOf3, rfl, rfl⟩
theorem fa_86_0 : FldT Tryz.prog 86 0 0 := ⟨_, _, _, Tryz.underlying86, rfl, Tryz.sizeOf32, rfl, rfl⟩
theorem fa_86_1 : FldT Tryz.prog 86 1 8 := ⟨_, _, _, Tryz.underlying86, rfl, Tryz.sizeOf4, rfl, rfl⟩
theorem fa_86_2 : FldT Tryz.prog 86 2 9 := ⟨_, _, _, Tryz.underlying86, rfl, Tryz.sizeOf4, rfl, rfl⟩
theorem fa_106_1 : FldT Tryz.prog 106 1 1 := ⟨_, _, _, Tryz.underlying106, rfl, Tryz.sizeOf3, rfl, rfl⟩
theorem fa_108_2 : FldT Tryz.prog 108 2 2 := ⟨_, _, _, Tryz.underlying108, rfl, Tryz.sizeOf106, rfl, rfl⟩
theorem eq_32 (dd : Nat) (x y : GStep) (w : World) : (Op.equalIn (dd + 2) 32 (.agg (GStep.enc x).toArray) (.agg (GStep.enc y).toArray)).run Tryz.prog w = .ok (decide (x = y)) w := by
  refine eq_of_fields (dd := dd + 1) (fs := (Tryz.prog.fieldsOf 32).toList) (by kernel_rfl) rfl (by kernel_rfl) (?_ : _ = Result.ok (decide (x.At = y.At) && (decide (x.Kind = y.Kind) && (decide (x.Id = y.Id) && (decide (x.Who = y.Who) && (decide (x.Club = y.Club) && (decide (x.Race = y.Race) && (decide (x.Age = y.Age) && (decide (x.Time = y.Time) && true)))))))) w) (by cases x; cases y; simp [Bool.decide_and])
  simp only [Program.fieldsOf, Tryz.underlying32]
  exact (eqF_cons (by decide) (part_cell Tryz.isAgg3 rfl) (part_cell Tryz.isAgg3 rfl) (eq_cell_int Tryz.underlying3) (eqF_cons (by decide) (part_cell Tryz.isAgg3 rfl) (part_cell Tryz.isAgg3 rfl) (eq_cell_int Tryz.underlying3) (eqF_cons (by decide) (part_cell Tryz.isAgg9 rfl) (part_cell Tryz.isAgg9 rfl) (eq_cell_str Tryz.underlying9) (eqF_cons (by decide) (part_cell Tryz.isAgg9 rfl) (part_cell Tryz.isAgg9 rfl) (eq_cell_str Tryz.underlying9) (eqF_cons (by decide) (part_cell Tryz.isAgg9 rfl) (part_cell Tryz.isAgg9 rfl) (eq_cell_str Tryz.underlying9) (eqF_cons (by decide) (part_cell Tryz.isAgg9 rfl) (part_cell Tryz.isAgg9 rfl) (eq_cell_str Tryz.underlying9) (eqF_cons (by decide) (part_cell Tryz.isAgg3 rfl) (part_cell Tryz.isAgg3 rfl) (eq_cell_int Tryz.underlying3) (eqF_cons (by decide) (part_cell Tryz.isAgg3 rfl) (part_cell Tryz.isAgg3 rfl) (eq_cell_int Tryz.underlying3) eqF_nil))))))))
theorem rn_eql_32 {a : Act} {w : World} {x y : Operand} {u ty : TypeId} {m n : GStep} (hx : a.eval x = .agg (GStep.enc m).toArray) (hy : a.eval y = .agg (GStep.enc n).toArray) : Rn Tryz.prog a w (.binOp .eql 32 x y u) ty (.bool (decide (m = n))) :=
  rn_aeql 2 (by kernel_rfl) (fun w => eq_32 _ m n w) rfl hx hy
theorem rn_neq_32 {a : Act} {w : World} {x y : Operand} {u ty : TypeId} {m n : GStep} (hx : a.eval x = .agg (GStep.enc m).toArray) (hy : a.eval y = .agg (GStep.enc n).toArray) : Rn Tryz.prog a w (.binOp .neq 32 x y u) ty (.bool (!decide (m = n))) :=
  rn_aneq 2 (by kernel_rfl) (fun w => eq_32 _ m n w) rfl hx hy
theorem bt_25 : BldT Tryz.prog 25 (.agg #[.slice none 0 0, iV 0]) [(0, 1), (1, 1)] := ⟨_, Tryz.underlying25, Tryz.zeroValue25, fun _ => by kernel_rfl⟩
theorem bt_32 : BldT Tryz.prog 32 (.agg #[iV 0, iV 0, sV k_empty, sV k_empty, sV k_empty, sV k_empty, iV 0, iV 0]) [(0, 1), (1, 1), (2, 1), (3, 1), (4, 1), (5, 1), (6, 1), (7, 1)] := ⟨_, Tryz.underlying32, Tryz.zeroValue32, fun _ => by kernel_rfl⟩
theorem bt_48 : BldT Tryz.prog 48 (.agg #[sV k_empty, sV k_empty, .slice none 0 0, iV 0, iV 0]) [(0, 1), (1, 1), (2, 1), (3, 1), (4, 1)] := ⟨_, Tryz.underlying48, Tryz.zeroValue48, fun _ => by kernel_rfl⟩
theorem bt_61 : BldT Tryz.prog 61 (.agg #[sV k_empty, sV k_empty, sV k_empty, iV 0, iV 0, bV false]) [(0, 1), (1, 1), (2, 1), (3, 1), (4, 1), (5, 1)] := ⟨_, Tryz.underlying61, Tryz.zeroValue61, fun _ => by kernel_rfl⟩
theorem bt_68 : BldT Tryz.prog 68 (.agg #[iV 0, iV 0, iV 0]) [(0, 1), (1, 1), (2, 1)] := ⟨_, Tryz.underlying68, Tryz.zeroValue68, fun _ => by kernel_rfl⟩
theorem bt_71 : BldT Tryz.prog 71 (.agg #[sV k_empty, iV 0, iV 0, iV 0, iV 0]) [(0, 1), (1, 1), (2, 1), (3, 1), (4, 1)] := ⟨_, Tryz.underlying71, Tryz.zeroValue71, fun _ => by kernel_rfl⟩
theorem bt_75 : BldT Tryz.prog 75 (.agg #[sV k_empty, iV 0]) [(0, 1), (1, 1)] := ⟨_, Tryz.underlying75, Tryz.zeroValue75, fun _ => by kernel_rfl⟩
theorem bt_86 : BldT Tryz.prog 86 (.agg #[iV 0, iV 0, sV k_empty, sV k_empty, sV k_empty, sV k_empty, iV 0, iV 0, bV false, bV false]) [(0, 8), (8, 1), (9, 1)] := ⟨_, Tryz.underlying86, Tryz.zeroValue86, fun _ => by kernel_rfl⟩
theorem bt_106 : BldT Tryz.prog 106 (.agg #[iV 0, iV 0]) [(0, 1), (1, 1)] := ⟨_, Tryz.underlying106, Tryz.zeroValue106, fun _ => by kernel_rfl⟩
theorem bt_108 : BldT Tryz.prog 108 (.agg #[sV k_empty, iV 0, iV 0, iV 0]) [(0, 1), (1, 1), (2, 2)] := ⟨_, Tryz.underlying108, Tryz.zeroValue108, fun _ => by kernel_rfl⟩
end Go.Proofs.YtahhldfcmbgfpaaGreatDoor
