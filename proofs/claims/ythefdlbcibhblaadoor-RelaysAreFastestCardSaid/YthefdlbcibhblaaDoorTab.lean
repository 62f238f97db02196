/- The program's tables, by program. -/
import Derived.Test.YthefdlbcibhblaaDoorTw
import Derived.Test.YthefdlbcibhblaaDoorArena
import Derived.Test.YthefdlbcibhblaaDoorProg
namespace Go.Proofs.YthefdlbcibhblaaDoor
open Go
def GDate.enc (x : GDate) : List Value := [iV x.Year, iV x.Month, iV x.Day]
theorem GDate.enc_ok : Enc 3 GDate.enc := ⟨fun _ => rfl, fun _ u h => by simp [GDate.enc] at h; rcases h with rfl | rfl | rfl <;> rfl⟩
def GItem.enc (x : GItem) : List Value := [sV x.Key, iV x.Heats, iV x.Long, iV x.Gap, iV x.Break]
theorem GItem.enc_ok : Enc 5 GItem.enc := ⟨fun _ => rfl, fun _ u h => by simp [GItem.enc] at h; rcases h with rfl | rfl | rfl | rfl | rfl <;> rfl⟩
def GWindow.enc (x : GWindow) : List Value := [iV x.From, iV x.To]
theorem GWindow.enc_ok : Enc 2 GWindow.enc := ⟨fun _ => rfl, fun _ u h => by simp [GWindow.enc] at h; rcases h with rfl | rfl <;> rfl⟩
def GSlot.enc (x : GSlot) : List Value := [sV x.Item, iV x.Heat, iV x.Time.From, iV x.Time.To]
theorem GSlot.enc_ok : Enc 4 GSlot.enc := ⟨fun _ => rfl, fun _ u h => by simp [GSlot.enc] at h; rcases h with rfl | rfl | rfl | rfl <;> rfl⟩
def GBase.enc (x : GBase) : List Value := [sV x.Race, iV x.Time]
theorem GBase.enc_ok : Enc 2 GBase.enc := ⟨fun _ => rfl, fun _ u h => by simp [GBase.enc] at h; rcases h with rfl | rfl <;> rfl⟩
def GStep.enc (x : GStep) : List Value := [iV x.At, iV x.Kind, sV x.Id, sV x.Who, sV x.Club, sV x.Race, iV x.Age, iV x.Time]
theorem GStep.enc_ok : Enc 8 GStep.enc := ⟨fun _ => rfl, fun _ u h => by simp [GStep.enc] at h; rcases h with rfl | rfl | rfl | rfl | rfl | rfl | rfl | rfl <;> rfl⟩
structure R36 where
  mk ::
  (Who : ByteArray)
  (Times : RS)
def R36.enc (x : R36) : List Value := [sV x.Who, x.Times.val]
theorem R36.enc_ok : Enc 2 R36.enc := ⟨fun _ => rfl, fun x u h => by
    simp only [R36.enc, List.mem_cons, List.not_mem_nil, or_false] at h
    rcases h with rfl | rfl
    · exact rfl
    · exact x.Times.property⟩
def rel_36 (φ : View) (x : GLeg) (r : R36) : Prop := ∃ u1 : RS, r = ⟨x.Who, u1⟩ ∧ Slc φ 1 u1.val (x.Times.map eInt)
theorem rel_36_mono {φ ψ : View} (l : View.le φ ψ) (x : GLeg) (r : R36) (h : rel_36 φ x r) : rel_36 ψ x r := by
  obtain ⟨u1, e, h1⟩ := h
  exact ⟨u1, e, h1.mono l⟩
theorem rels_36 {φ ψ : View} (l : View.le φ ψ) {xs : List GLeg} {rs : List R36} (h : All2 (rel_36 φ) xs rs) : All2 (rel_36 ψ) xs rs := h.chg (rel_36_mono l)
structure R63 where
  mk ::
  (Key : ByteArray)
  (Race : ByteArray)
  (Clubs : RS)
  (Young : Int)
  (Old : Int)
def R63.enc (x : R63) : List Value := [sV x.Key, sV x.Race, x.Clubs.val, iV x.Young, iV x.Old]
theorem R63.enc_ok : Enc 5 R63.enc := ⟨fun _ => rfl, fun x u h => by
    simp only [R63.enc, List.mem_cons, List.not_mem_nil, or_false] at h
    rcases h with rfl | rfl | rfl | rfl | rfl
    · exact rfl
    · exact rfl
    · exact x.Clubs.property
    · exact rfl
    · exact rfl⟩
def rel_63 (φ : View) (x : GKind) (r : R63) : Prop := ∃ u1 : RS, r = ⟨x.Key, x.Race, u1, x.Young, x.Old⟩ ∧ Slc φ 1 u1.val (x.Clubs.map eStr)
theorem rel_63_mono {φ ψ : View} (l : View.le φ ψ) (x : GKind) (r : R63) (h : rel_63 φ x r) : rel_63 ψ x r := by
  obtain ⟨u1, e, h1⟩ := h
  exact ⟨u1, e, h1.mono l⟩
theorem rels_63 {φ ψ : View} (l : View.le φ ψ) {xs : List GKind} {rs : List R63} (h : All2 (rel_63 φ) xs rs) : All2 (rel_63 ψ) xs rs := h.chg (rel_63_mono l)
theorem Tryd.mixed : Tryd.prog.follows .mixedOrders = true := by kernel_rfl
theorem sl_22 : SlT Tryd.prog 22 3 1 8 := slT_of (z := (iV 0)) Tryd.underlying22 Tryd.sizeOf3 (by kernel_rfl) rfl
theorem sl_26 : SlT Tryd.prog 26 36 2 40 := slT_of (z := (.agg #[sV k_empty, .slice none 0 0])) Tryd.underlying26 Tryd.sizeOf36 (by kernel_rfl) rfl
theorem sl_31 : SlT Tryd.prog 31 9 1 16 := slT_of (z := (sV k_empty)) Tryd.underlying31 Tryd.sizeOf9 (by kernel_rfl) rfl
theorem sl_55 : SlT Tryd.prog 55 54 5 48 := slT_of (z := (.agg #[sV k_empty, iV 0, iV 0, iV 0, iV 0])) Tryd.underlying55 Tryd.sizeOf54 (by kernel_rfl) rfl
theorem sl_59 : SlT Tryd.prog 59 58 2 24 := slT_of (z := (.agg #[sV k_empty, iV 0])) Tryd.underlying59 Tryd.sizeOf58 (by kernel_rfl) rfl
theorem sl_64 : SlT Tryd.prog 64 63 5 72 := slT_of (z := (.agg #[sV k_empty, sV k_empty, .slice none 0 0, iV 0, iV 0])) Tryd.underlying64 Tryd.sizeOf63 (by kernel_rfl) rfl
theorem sl_76 : SlT Tryd.prog 76 92 4 40 := slT_of (z := (.agg #[sV k_empty, iV 0, iV 0, iV 0])) Tryd.underlying76 Tryd.sizeOf92 (by kernel_rfl) rfl
theorem sl_85 : SlT Tryd.prog 85 28 1 8 := slT_of (z := (iV 0)) Tryd.underlying85 Tryd.sizeOf28 (by kernel_rfl) rfl
theorem fa_25_0 : FldT Tryd.prog 25 0 0 := ⟨_, _, _, Tryd.underlying25, rfl, Tryd.sizeOf22, rfl, rfl⟩
theorem fa_25_1 : FldT Tryd.prog 25 1 1 := ⟨_, _, _, Tryd.underlying25, rfl, Tryd.sizeOf3, rfl, rfl⟩
theorem fa_36_0 : FldT Tryd.prog 36 0 0 := ⟨_, _, _, Tryd.underlying36, rfl, Tryd.sizeOf9, rfl, rfl⟩
theorem fa_36_1 : FldT Tryd.prog 36 1 1 := ⟨_, _, _, Tryd.underlying36, rfl, Tryd.sizeOf22, rfl, rfl⟩
theorem fa_51_0 : FldT Tryd.prog 51 0 0 := ⟨_, _, _, Tryd.underlying51, rfl, Tryd.sizeOf3, rfl, rfl⟩
theorem fa_51_1 : FldT Tryd.prog 51 1 1 := ⟨_, _, _, Tryd.underlying51, rfl, Tryd.sizeOf3, rfl, rfl⟩
theorem fa_51_2 : FldT Tryd.prog 51 2 2 := ⟨_, _, _, Tryd.underlying51, rfl, Tryd.sizeOf3, rfl, rfl⟩
theorem fa_54_0 : FldT Tryd.prog 54 0 0 := ⟨_, _, _, Tryd.underlying54, rfl, Tryd.sizeOf9, rfl, rfl⟩
theorem fa_54_1 : FldT Tryd.prog 54 1 1 := ⟨_, _, _, Tryd.underlying54, rfl, Tryd.sizeOf3, rfl, rfl⟩
theorem fa_54_2 : FldT Tryd.prog 54 2 2 := ⟨_, _, _, Tryd.underlying54, rfl, Tryd.sizeOf3, rfl, rfl⟩
theorem fa_54_3 : FldT Tryd.prog 54 3 3 := ⟨_, _, _, Tryd.underlying54, rfl, Tryd.sizeOf3, rfl, rfl⟩
theorem fa_54_4 : FldT Tryd.prog 54 4 4 := ⟨_, _, _, Tryd.underlying54, rfl, Tryd.sizeOf3, rfl, rfl⟩
theorem fa_58_0 : FldT Tryd.prog 58 0 0 := ⟨_, _, _, Tryd.underlying58, rfl, Tryd.sizeOf9, rfl, rfl⟩
theorem fa_58_1 : FldT Tryd.prog 58 1 1 := ⟨_, _, _, Tryd.underlying58, rfl, Tryd.sizeOf3, rfl, rfl⟩
theorem fa_63_0 : FldT Tryd.prog 63 0 0 := ⟨_, _, _, Tryd.underlying63, rfl, Tryd.sizeOf9, rfl, rfl⟩
theorem fa_63_1 : FldT Tryd.prog 63 1 1 := ⟨_, _, _, Tryd.underlying63, rfl, Tryd.sizeOf9, rfl, rfl⟩
theorem fa_63_2 : FldT Tryd.prog 63 2 2 := ⟨_, _, _, Tryd.underlying63, rfl, Tryd.sizeOf31, rfl, rfl⟩
theorem fa_63_3 : FldT Tryd.prog 63 3 3 := ⟨_, _, _, Tryd.underlying63, rfl, Tryd.sizeOf3, rfl, rfl⟩
theorem fa_63_4 : FldT Tryd.prog 63 4 4 := ⟨_, _, _, Tryd.underlying63, rfl, Tryd.sizeOf3, rfl, rfl⟩
theorem fa_66_0 : FldT Tryd.prog 66 0 0 := ⟨_, _, _, Tryd.underlying66, rfl, Tryd.sizeOf3, rfl, rfl⟩
theorem fa_66_1 : FldT Tryd.prog 66 1 1 := ⟨_, _, _, Tryd.underlying66, rfl, Tryd.sizeOf3, rfl, rfl⟩
theorem fa_66_2 : FldT Tryd.prog 66 2 2 := ⟨_, _, _, Tryd.underlying66, rfl, Tryd.sizeOf9, rfl, rfl⟩
theorem fa_66_3 : FldT Tryd.prog 66 3 3 := ⟨_, _, _, Tryd.underlying66, rfl, Tryd.sizeOf9, rfl, rfl⟩
theorem fa_66_4 : FldT Tryd.prog 66 4 4 := ⟨_, _, _, Tryd.underlying66, rfl, Tryd.sizeOf9, rfl, rfl⟩
theorem fa_66_5 : FldT Tryd.prog 66 5 5 := ⟨_, _, _, Tryd.underlying66, rfl, Tryd.sizeOf9, rfl, rfl⟩
theorem fa_66_6 : FldT Tryd.prog 66 6 6 := ⟨_, _, _, Tryd.underlying66, rfl, Tryd.sizeOf3, rfl, rfl⟩
theorem fa_66_7 : FldT Tryd.prog 66 7 7 := ⟨_, _, _, Tryd.underlying66, rfl, Tryd.sizeOf3, rfl, rfl⟩
theorem fa_70_0 : FldT Tryd.prog 70 0 0 := ⟨_, _, _, Tryd.underlying70, rfl, Tryd.sizeOf26, rfl, rfl⟩
theorem fa_70_1 : FldT Tryd.prog 70 1 1 := ⟨_, _, _, Tryd.underlying70, rfl, Tryd.sizeOf3, rfl, rfl⟩
theorem fa_70_2 : FldT Tryd.prog 70 2 2 := ⟨_, _, _, Tryd.underlying70, rfl, Tryd.sizeOf31, rfl, rfl⟩
theorem fa_70_3 : FldT Tryd.prog 70 3 3 := ⟨_, _, _, Tryd.underlying70, rfl, Tryd.sizeOf31, rfl, rfl⟩
theorem fa_70_4 : FldT Tryd.prog 70 4 4 := ⟨_, _, _, Tryd.underlying70, rfl, Tryd.sizeOf3, rfl, rfl⟩
theorem fa_70_5 : FldT Tryd.prog 70 5 5 := ⟨_, _, _, Tryd.underlying70, rfl, Tryd.sizeOf4, rfl, rfl⟩
theorem fa_90_1 : FldT Tryd.prog 90 1 1 := ⟨_, _, _, Tryd.underlying90, rfl, Tryd.sizeOf3, rfl, rfl⟩
theorem fa_92_2 : FldT Tryd.prog 92 2 2 := ⟨_, _, _, Tryd.underlying92, rfl, Tryd.sizeOf90, rfl, rfl⟩
theorem eq_66 (dd : Nat) (x y : GStep) (w : World) : (Op.equalIn (dd + 2) 66 (.agg (GStep.enc x).toArray) (.agg (GStep.enc y).toArray)).run Tryd.prog w = .ok (decide (x = y)) w := by
  refine eq_of_fields (dd := dd + 1) (fs := (Tryd.prog.fieldsOf 66).toList) (by kernel_rfl) rfl (by kernel_rfl) (?_ : _ = Result.ok (decide (x.At = y.At) && (decide (x.Kind = y.Kind) && (decide (x.Id = y.Id) && (decide (x.Who = y.Who) && (decide (x.Club = y.Club) && (decide (x.Race = y.Race) && (decide (x.Age = y.Age) && (decide (x.Time = y.Time) && true)))))))) w) (by cases x; cases y; simp [Bool.decide_and])
  simp only [Program.fieldsOf, Tryd.underlying66]
  exact (eqF_cons (by decide) (part_cell Tryd.isAgg3 rfl) (part_cell Tryd.isAgg3 rfl) (eq_cell_int Tryd.underlying3) (eqF_cons (by decide) (part_cell Tryd.isAgg3 rfl) (part_cell Tryd.isAgg3 rfl) (eq_cell_int Tryd.underlying3) (eqF_cons (by decide) (part_cell Tryd.isAgg9 rfl) (part_cell Tryd.isAgg9 rfl) (eq_cell_str Tryd.underlying9) (eqF_cons (by decide) (part_cell Tryd.isAgg9 rfl) (part_cell Tryd.isAgg9 rfl) (eq_cell_str Tryd.underlying9) (eqF_cons (by decide) (part_cell Tryd.isAgg9 rfl) (part_cell Tryd.isAgg9 rfl) (eq_cell_str Tryd.underlying9) (eqF_cons (by decide) (part_cell Tryd.isAgg9 rfl) (part_cell Tryd.isAgg9 rfl) (eq_cell_str Tryd.underlying9) (eqF_cons (by decide) (part_cell Tryd.isAgg3 rfl) (part_cell Tryd.isAgg3 rfl) (eq_cell_int Tryd.underlying3) (eqF_cons (by decide) (part_cell Tryd.isAgg3 rfl) (part_cell Tryd.isAgg3 rfl) (eq_cell_int Tryd.underlying3) eqF_nil))))))))
theorem rn_eql_66 {a : Act} {w : World} {x y : Operand} {u ty : TypeId} {m n : GStep} (hx : a.eval x = .agg (GStep.enc m).toArray) (hy : a.eval y = .agg (GStep.enc n).toArray) : Rn Tryd.prog a w (.binOp .eql 66 x y u) ty (.bool (decide (m = n))) :=
  rn_aeql 2 (by kernel_rfl) (fun w => eq_66 _ m n w) rfl hx hy
theorem rn_neq_66 {a : Act} {w : World} {x y : Operand} {u ty : TypeId} {m n : GStep} (hx : a.eval x = .agg (GStep.enc m).toArray) (hy : a.eval y = .agg (GStep.enc n).toArray) : Rn Tryd.prog a w (.binOp .neq 66 x y u) ty (.bool (!decide (m = n))) :=
  rn_aneq 2 (by kernel_rfl) (fun w => eq_66 _ m n w) rfl hx hy
theorem bt_25 : BldT Tryd.prog 25 (.agg #[.slice none 0 0, iV 0]) [(0, 1), (1, 1)] := ⟨_, Tryd.underlying25, Tryd.zeroValue25, fun _ => by kernel_rfl⟩
theorem bt_36 : BldT Tryd.prog 36 (.agg #[sV k_empty, .slice none 0 0]) [(0, 1), (1, 1)] := ⟨_, Tryd.underlying36, Tryd.zeroValue36, fun _ => by kernel_rfl⟩
theorem bt_51 : BldT Tryd.prog 51 (.agg #[iV 0, iV 0, iV 0]) [(0, 1), (1, 1), (2, 1)] := ⟨_, Tryd.underlying51, Tryd.zeroValue51, fun _ => by kernel_rfl⟩
theorem bt_54 : BldT Tryd.prog 54 (.agg #[sV k_empty, iV 0, iV 0, iV 0, iV 0]) [(0, 1), (1, 1), (2, 1), (3, 1), (4, 1)] := ⟨_, Tryd.underlying54, Tryd.zeroValue54, fun _ => by kernel_rfl⟩
theorem bt_58 : BldT Tryd.prog 58 (.agg #[sV k_empty, iV 0]) [(0, 1), (1, 1)] := ⟨_, Tryd.underlying58, Tryd.zeroValue58, fun _ => by kernel_rfl⟩
theorem bt_63 : BldT Tryd.prog 63 (.agg #[sV k_empty, sV k_empty, .slice none 0 0, iV 0, iV 0]) [(0, 1), (1, 1), (2, 1), (3, 1), (4, 1)] := ⟨_, Tryd.underlying63, Tryd.zeroValue63, fun _ => by kernel_rfl⟩
theorem bt_66 : BldT Tryd.prog 66 (.agg #[iV 0, iV 0, sV k_empty, sV k_empty, sV k_empty, sV k_empty, iV 0, iV 0]) [(0, 1), (1, 1), (2, 1), (3, 1), (4, 1), (5, 1), (6, 1), (7, 1)] := ⟨_, Tryd.underlying66, Tryd.zeroValue66, fun _ => by kernel_rfl⟩
theorem bt_70 : BldT Tryd.prog 70 (.agg #[.slice none 0 0, iV 0, .slice none 0 0, .slice none 0 0, iV 0, bV false]) [(0, 1), (1, 1), (2, 1), (3, 1), (4, 1), (5, 1)] := ⟨_, Tryd.underlying70, Tryd.zeroValue70, fun _ => by kernel_rfl⟩
theorem bt_90 : BldT Tryd.prog 90 (.agg #[iV 0, iV 0]) [(0, 1), (1, 1)] := ⟨_, Tryd.underlying90, Tryd.zeroValue90, fun _ => by kernel_rfl⟩
theorem bt_92 : BldT Tryd.prog 92 (.agg #[sV k_empty, iV 0, iV 0, iV 0]) [(0, 1), (1, 1), (2, 2)] := ⟨_, Tryd.underlying92, Tryd.zeroValue92, fun _ => by kernel_rfl⟩
end Go.Proofs.YthefdlbcibhblaaDoor
