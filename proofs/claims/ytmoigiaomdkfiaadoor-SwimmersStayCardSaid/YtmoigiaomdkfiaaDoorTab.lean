/- The program's tables, by program. -/
import Derived.Test.YtmoigiaomdkfiaaDoorTw
import Derived.Test.YtmoigiaomdkfiaaDoorArena
import Derived.Test.YtmoigiaomdkfiaaDoorProg
namespace Go.Proofs.YtmoigiaomdkfiaaDoor
open Go
def GMove.enc (x : GMove) : List Value := [sV x.Who, sV x.Club, iV x.Day]
theorem GMove.enc_ok : Enc 3 GMove.enc := ⟨fun _ => rfl, fun _ u h => by simp [GMove.enc] at h; rcases h with rfl | rfl | rfl <;> rfl⟩
def GMark.enc (x : GMark) : List Value := [sV x.Who, sV x.Race, iV x.Day, iV x.Time]
theorem GMark.enc_ok : Enc 4 GMark.enc := ⟨fun _ => rfl, fun _ u h => by simp [GMark.enc] at h; rcases h with rfl | rfl | rfl | rfl <;> rfl⟩
def GDate.enc (x : GDate) : List Value := [iV x.Year, iV x.Month, iV x.Day]
theorem GDate.enc_ok : Enc 3 GDate.enc := ⟨fun _ => rfl, fun _ u h => by simp [GDate.enc] at h; rcases h with rfl | rfl | rfl <;> rfl⟩
def GItem.enc (x : GItem) : List Value := [sV x.Key, iV x.Heats, iV x.Long, iV x.Gap, iV x.Break]
theorem GItem.enc_ok : Enc 5 GItem.enc := ⟨fun _ => rfl, fun _ u h => by simp [GItem.enc] at h; rcases h with rfl | rfl | rfl | rfl | rfl <;> rfl⟩
def GWindow.enc (x : GWindow) : List Value := [iV x.From, iV x.To]
theorem GWindow.enc_ok : Enc 2 GWindow.enc := ⟨fun _ => rfl, fun _ u h => by simp [GWindow.enc] at h; rcases h with rfl | rfl <;> rfl⟩
def GSlot.enc (x : GSlot) : List Value := [sV x.Item, iV x.Heat, iV x.Time.From, iV x.Time.To]
theorem GSlot.enc_ok : Enc 4 GSlot.enc := ⟨fun _ => rfl, fun _ u h => by simp [GSlot.enc] at h; rcases h with rfl | rfl | rfl | rfl <;> rfl⟩
def GBase.enc (x : GBase) : List Value := [sV x.Race, iV x.Time]
theorem GBase.enc_ok : Enc 2 GBase.enc := ⟨fun _ => rfl, fun _ u h => by simp [GBase.enc] at h; rcases h with rfl | rfl <;> rfl⟩
def GStep.enc (x : GStep) : List Value := [iV x.At, iV x.Kind, sV x.Id, sV x.Who, sV x.Club, sV x.Race, iV x.Age, iV x.Time]
theorem GStep.enc_ok : Enc 8 GStep.enc := ⟨fun _ => rfl, fun _ u h => by simp [GStep.enc] at h; rcases h with rfl | rfl | rfl | rfl | rfl | rfl | rfl | rfl <;> rfl⟩
structure R49 where
  mk ::
  (Who : ByteArray)
  (Times : RS)
def R49.enc (x : R49) : List Value := [sV x.Who, x.Times.val]
theorem R49.enc_ok : Enc 2 R49.enc := ⟨fun _ => rfl, fun x u h => by
    simp only [R49.enc, List.mem_cons, List.not_mem_nil, or_false] at h
    rcases h with rfl | rfl
    · exact rfl
    · exact x.Times.property⟩
def rel_49 (φ : View) (x : GLeg) (r : R49) : Prop := ∃ u1 : RS, r = ⟨x.Who, u1⟩ ∧ Slc φ 1 u1.val (x.Times.map eInt)
theorem rel_49_mono {φ ψ : View} (l : View.le φ ψ) (x : GLeg) (r : R49) (h : rel_49 φ x r) : rel_49 ψ x r := by
  obtain ⟨u1, e, h1⟩ := h
  exact ⟨u1, e, h1.mono l⟩
theorem rels_49 {φ ψ : View} (l : View.le φ ψ) {xs : List GLeg} {rs : List R49} (h : All2 (rel_49 φ) xs rs) : All2 (rel_49 ψ) xs rs := h.chg (rel_49_mono l)
structure R84 where
  mk ::
  (Key : ByteArray)
  (Race : ByteArray)
  (Clubs : RS)
  (Young : Int)
  (Old : Int)
def R84.enc (x : R84) : List Value := [sV x.Key, sV x.Race, x.Clubs.val, iV x.Young, iV x.Old]
theorem R84.enc_ok : Enc 5 R84.enc := ⟨fun _ => rfl, fun x u h => by
    simp only [R84.enc, List.mem_cons, List.not_mem_nil, or_false] at h
    rcases h with rfl | rfl | rfl | rfl | rfl
    · exact rfl
    · exact rfl
    · exact x.Clubs.property
    · exact rfl
    · exact rfl⟩
def rel_84 (φ : View) (x : GKind) (r : R84) : Prop := ∃ u1 : RS, r = ⟨x.Key, x.Race, u1, x.Young, x.Old⟩ ∧ Slc φ 1 u1.val (x.Clubs.map eStr)
theorem rel_84_mono {φ ψ : View} (l : View.le φ ψ) (x : GKind) (r : R84) (h : rel_84 φ x r) : rel_84 ψ x r := by
  obtain ⟨u1, e, h1⟩ := h
  exact ⟨u1, e, h1.mono l⟩
theorem rels_84 {φ ψ : View} (l : View.le φ ψ) {xs : List GKind} {rs : List R84} (h : All2 (rel_84 φ) xs rs) : All2 (rel_84 ψ) xs rs := h.chg (rel_84_mono l)
theorem Tryd.mixed : Tryd.prog.follows .mixedOrders = true := by kernel_rfl
theorem sl_22 : SlT Tryd.prog 22 3 1 8 := slT_of (z := (iV 0)) Tryd.underlying22 Tryd.sizeOf3 (by kernel_rfl) rfl
theorem sl_26 : SlT Tryd.prog 26 45 3 40 := slT_of (z := (.agg #[sV k_empty, sV k_empty, iV 0])) Tryd.underlying26 Tryd.sizeOf45 (by kernel_rfl) rfl
theorem sl_28 : SlT Tryd.prog 28 38 4 48 := slT_of (z := (.agg #[sV k_empty, sV k_empty, iV 0, iV 0])) Tryd.underlying28 Tryd.sizeOf38 (by kernel_rfl) rfl
theorem sl_30 : SlT Tryd.prog 30 49 2 40 := slT_of (z := (.agg #[sV k_empty, .slice none 0 0])) Tryd.underlying30 Tryd.sizeOf49 (by kernel_rfl) rfl
theorem sl_32 : SlT Tryd.prog 32 9 1 16 := slT_of (z := (sV k_empty)) Tryd.underlying32 Tryd.sizeOf9 (by kernel_rfl) rfl
theorem sl_77 : SlT Tryd.prog 77 76 5 48 := slT_of (z := (.agg #[sV k_empty, iV 0, iV 0, iV 0, iV 0])) Tryd.underlying77 Tryd.sizeOf76 (by kernel_rfl) rfl
theorem sl_81 : SlT Tryd.prog 81 80 2 24 := slT_of (z := (.agg #[sV k_empty, iV 0])) Tryd.underlying81 Tryd.sizeOf80 (by kernel_rfl) rfl
theorem sl_85 : SlT Tryd.prog 85 84 5 72 := slT_of (z := (.agg #[sV k_empty, sV k_empty, .slice none 0 0, iV 0, iV 0])) Tryd.underlying85 Tryd.sizeOf84 (by kernel_rfl) rfl
theorem sl_95 : SlT Tryd.prog 95 118 4 40 := slT_of (z := (.agg #[sV k_empty, iV 0, iV 0, iV 0])) Tryd.underlying95 Tryd.sizeOf118 (by kernel_rfl) rfl
theorem sl_104 : SlT Tryd.prog 104 33 1 8 := slT_of (z := (iV 0)) Tryd.underlying104 Tryd.sizeOf33 (by kernel_rfl) rfl
theorem fa_25_0 : FldT Tryd.prog 25 0 0 := ⟨_, _, _, Tryd.underlying25, rfl, Tryd.sizeOf22, rfl, rfl⟩
theorem fa_25_1 : FldT Tryd.prog 25 1 1 := ⟨_, _, _, Tryd.underlying25, rfl, Tryd.sizeOf3, rfl, rfl⟩
theorem fa_38_0 : FldT Tryd.prog 38 0 0 := ⟨_, _, _, Tryd.underlying38, rfl, Tryd.sizeOf9, rfl, rfl⟩
theorem fa_38_1 : FldT Tryd.prog 38 1 1 := ⟨_, _, _, Tryd.underlying38, rfl, Tryd.sizeOf9, rfl, rfl⟩
theorem fa_38_2 : FldT Tryd.prog 38 2 2 := ⟨_, _, _, Tryd.underlying38, rfl, Tryd.sizeOf3, rfl, rfl⟩
theorem fa_38_3 : FldT Tryd.prog 38 3 3 := ⟨_, _, _, Tryd.underlying38, rfl, Tryd.sizeOf3, rfl, rfl⟩
theorem fa_45_0 : FldT Tryd.prog 45 0 0 := ⟨_, _, _, Tryd.underlying45, rfl, Tryd.sizeOf9, rfl, rfl⟩
theorem fa_45_1 : FldT Tryd.prog 45 1 1 := ⟨_, _, _, Tryd.underlying45, rfl, Tryd.sizeOf9, rfl, rfl⟩
theorem fa_45_2 : FldT Tryd.prog 45 2 2 := ⟨_, _, _, Tryd.underlying45, rfl, Tryd.sizeOf3, rfl, rfl⟩
theorem fa_49_0 : FldT Tryd.prog 49 0 0 := ⟨_, _, _, Tryd.underlying49, rfl, Tryd.sizeOf9, rfl, rfl⟩
theorem fa_49_1 : FldT Tryd.prog 49 1 1 := ⟨_, _, _, Tryd.underlying49, rfl, Tryd.sizeOf22, rfl, rfl⟩
theorem fa_68_0 : FldT Tryd.prog 68 0 0 := ⟨_, _, _, Tryd.underlying68, rfl, Tryd.sizeOf30, rfl, rfl⟩
theorem fa_68_1 : FldT Tryd.prog 68 1 1 := ⟨_, _, _, Tryd.underlying68, rfl, Tryd.sizeOf3, rfl, rfl⟩
theorem fa_68_2 : FldT Tryd.prog 68 2 2 := ⟨_, _, _, Tryd.underlying68, rfl, Tryd.sizeOf32, rfl, rfl⟩
theorem fa_68_3 : FldT Tryd.prog 68 3 3 := ⟨_, _, _, Tryd.underlying68, rfl, Tryd.sizeOf32, rfl, rfl⟩
theorem fa_68_4 : FldT Tryd.prog 68 4 4 := ⟨_, _, _, Tryd.underlying68, rfl, Tryd.sizeOf3, rfl, rfl⟩
theorem fa_68_5 : FldT Tryd.prog 68 5 5 := ⟨_, _, _, Tryd.underlying68, rfl, Tryd.sizeOf4, rfl, rfl⟩
theorem fa_73_0 : FldT Tryd.prog 73 0 0 := ⟨_, _, _, Tryd.underlying73, rfl, Tryd.sizeOf3, rfl, rfl⟩
theorem fa_73_1 : FldT Tryd.prog 73 1 1 := ⟨_, _, _, Tryd.underlying73, rfl, Tryd.sizeOf3, rfl, rfl⟩
theorem fa_73_2 : FldT Tryd.prog 73 2 2 := ⟨_, _, _, Tryd.underlying73, rfl, Tryd.sizeOf3, rfl, rfl⟩
theorem fa_76_0 : FldT Tryd.prog 76 0 0 := ⟨_, _, _, Tryd.underlying76, rfl, Tryd.sizeOf9, rfl, rfl⟩
theorem fa_76_1 : FldT Tryd.prog 76 1 1 := ⟨_, _, _, Tryd.underlying76, rfl, Tryd.sizeOf3, rfl, rfl⟩
theorem fa_76_2 : FldT Tryd.prog 76 2 2 := ⟨_, _, _, Tryd.underlying76, rfl, Tryd.sizeOf3, rfl, rfl⟩
theorem fa_76_3 : FldT Tryd.prog 76 3 3 := ⟨_, _, _, Tryd.underlying76, rfl, Tryd.sizeOf3, rfl, rfl⟩
theorem fa_76_4 : FldT Tryd.prog 76 4 4 := ⟨_, _, _, Tryd.underlying76, rfl, Tryd.sizeOf3, rfl, rfl⟩
theorem fa_80_0 : FldT Tryd.prog 80 0 0 := ⟨_, _, _, Tryd.underlying80, rfl, Tryd.sizeOf9, rfl, rfl⟩
theorem fa_80_1 : FldT Tryd.prog 80 1 1 := ⟨_, _, _, Tryd.underlying80, rfl, Tryd.sizeOf3, rfl, rfl⟩
theorem fa_84_0 : FldT Tryd.prog 84 0 0 := ⟨_, _, _, Tryd.underlying84, rfl, Tryd.sizeOf9, rfl, rfl⟩
theorem fa_84_1 : FldT Tryd.prog 84 1 1 := ⟨_, _, _, Tryd.underlying84, rfl, Tryd.sizeOf9, rfl, rfl⟩
theorem fa_84_2 : FldT Tryd.prog 84 2 2 := ⟨_, _, _, Tryd.underlying84, rfl, Tryd.sizeOf32, rfl, rfl⟩
theorem fa_84_3 : FldT Tryd.prog 84 3 3 := ⟨_, _, _, Tryd.underlying84, rfl, Tryd.sizeOf3, rfl, rfl⟩
theorem fa_84_4 : FldT Tryd.prog 84 4 4 := ⟨_, _, _, Tryd.underlying84, rfl, Tryd.sizeOf3, rfl, rfl⟩
theorem fa_87_0 : FldT Tryd.prog 87 0 0 := ⟨_, _, _, Tryd.underlying87, rfl, Tryd.sizeOf3, rfl, rfl⟩
theorem fa_87_1 : FldT Tryd.prog 87 1 1 := ⟨_, _, _, Tryd.underlying87, rfl, Tryd.sizeOf3, rfl, rfl⟩
theorem fa_87_2 : FldT Tryd.prog 87 2 2 := ⟨_, _, _, Tryd.underlying87, rfl, Tryd.sizeOf9, rfl, rfl⟩
theorem fa_87_3 : FldT Tryd.prog 87 3 3 := ⟨_, _, _, Tryd.underlying87, rfl, Tryd.sizeOf9, rfl, rfl⟩
theorem fa_87_4 : FldT Tryd.prog 87 4 4 := ⟨_, _, _, Tryd.underlying87, rfl, Tryd.sizeOf9, rfl, rfl⟩
theorem fa_87_5 : FldT Tryd.prog 87 5 5 := ⟨_, _, _, Tryd.underlying87, rfl, Tryd.sizeOf9, rfl, rfl⟩
theorem fa_87_6 : FldT Tryd.prog 87 6 6 := ⟨_, _, _, Tryd.underlying87, rfl, Tryd.sizeOf3, rfl, rfl⟩
theorem fa_87_7 : FldT Tryd.prog 87 7 7 := ⟨_, _, _, Tryd.underlying87, rfl, Tryd.sizeOf3, rfl, rfl⟩
theorem fa_116_1 : FldT Tryd.prog 116 1 1 := ⟨_, _, _, Tryd.underlying116, rfl, Tryd.sizeOf3, rfl, rfl⟩
theorem fa_118_2 : FldT Tryd.prog 118 2 2 := ⟨_, _, _, Tryd.underlying118, rfl, Tryd.sizeOf116, rfl, rfl⟩
theorem eq_38 (dd : Nat) (x y : GMark) (w : World) : (Op.equalIn (dd + 2) 38 (.agg (GMark.enc x).toArray) (.agg (GMark.enc y).toArray)).run Tryd.prog w = .ok (decide (x = y)) w := by
  refine eq_of_fields (dd := dd + 1) (fs := (Tryd.prog.fieldsOf 38).toList) (by kernel_rfl) rfl (by kernel_rfl) (?_ : _ = Result.ok (decide (x.Who = y.Who) && (decide (x.Race = y.Race) && (decide (x.Day = y.Day) && (decide (x.Time = y.Time) && true)))) w) (by cases x; cases y; simp [Bool.decide_and])
  simp only [Program.fieldsOf, Tryd.underlying38]
  exact (eqF_cons (by decide) (part_cell Tryd.isAgg9 rfl) (part_cell Tryd.isAgg9 rfl) (eq_cell_str Tryd.underlying9) (eqF_cons (by decide) (part_cell Tryd.isAgg9 rfl) (part_cell Tryd.isAgg9 rfl) (eq_cell_str Tryd.underlying9) (eqF_cons (by decide) (part_cell Tryd.isAgg3 rfl) (part_cell Tryd.isAgg3 rfl) (eq_cell_int Tryd.underlying3) (eqF_cons (by decide) (part_cell Tryd.isAgg3 rfl) (part_cell Tryd.isAgg3 rfl) (eq_cell_int Tryd.underlying3) eqF_nil))))
theorem rn_eql_38 {a : Act} {w : World} {x y : Operand} {u ty : TypeId} {m n : GMark} (hx : a.eval x = .agg (GMark.enc m).toArray) (hy : a.eval y = .agg (GMark.enc n).toArray) : Rn Tryd.prog a w (.binOp .eql 38 x y u) ty (.bool (decide (m = n))) :=
  rn_aeql 2 (by kernel_rfl) (fun w => eq_38 _ m n w) rfl hx hy
theorem rn_neq_38 {a : Act} {w : World} {x y : Operand} {u ty : TypeId} {m n : GMark} (hx : a.eval x = .agg (GMark.enc m).toArray) (hy : a.eval y = .agg (GMark.enc n).toArray) : Rn Tryd.prog a w (.binOp .neq 38 x y u) ty (.bool (!decide (m = n))) :=
  rn_aneq 2 (by kernel_rfl) (fun w => eq_38 _ m n w) rfl hx hy
theorem eq_45 (dd : Nat) (x y : GMove) (w : World) : (Op.equalIn (dd + 2) 45 (.agg (GMove.enc x).toArray) (.agg (GMove.enc y).toArray)).run Tryd.prog w = .ok (decide (x = y)) w := by
  refine eq_of_fields (dd := dd + 1) (fs := (Tryd.prog.fieldsOf 45).toList) (by kernel_rfl) rfl (by kernel_rfl) (?_ : _ = Result.ok (decide (x.Who = y.Who) && (decide (x.Club = y.Club) && (decide (x.Day = y.Day) && true))) w) (by cases x; cases y; simp [Bool.decide_and])
  simp only [Program.fieldsOf, Tryd.underlying45]
  exact (eqF_cons (by decide) (part_cell Tryd.isAgg9 rfl) (part_cell Tryd.isAgg9 rfl) (eq_cell_str Tryd.underlying9) (eqF_cons (by decide) (part_cell Tryd.isAgg9 rfl) (part_cell Tryd.isAgg9 rfl) (eq_cell_str Tryd.underlying9) (eqF_cons (by decide) (part_cell Tryd.isAgg3 rfl) (part_cell Tryd.isAgg3 rfl) (eq_cell_int Tryd.underlying3) eqF_nil)))
theorem rn_eql_45 {a : Act} {w : World} {x y : Operand} {u ty : TypeId} {m n : GMove} (hx : a.eval x = .agg (GMove.enc m).toArray) (hy : a.eval y = .agg (GMove.enc n).toArray) : Rn Tryd.prog a w (.binOp .eql 45 x y u) ty (.bool (decide (m = n))) :=
  rn_aeql 2 (by kernel_rfl) (fun w => eq_45 _ m n w) rfl hx hy
theorem rn_neq_45 {a : Act} {w : World} {x y : Operand} {u ty : TypeId} {m n : GMove} (hx : a.eval x = .agg (GMove.enc m).toArray) (hy : a.eval y = .agg (GMove.enc n).toArray) : Rn Tryd.prog a w (.binOp .neq 45 x y u) ty (.bool (!decide (m = n))) :=
  rn_aneq 2 (by kernel_rfl) (fun w => eq_45 _ m n w) rfl hx hy
theorem eq_87 (dd : Nat) (x y : GStep) (w : World) : (Op.equalIn (dd + 2) 87 (.agg (GStep.enc x).toArray) (.agg (GStep.enc y).toArray)).run Tryd.prog w = .ok (decide (x = y)) w := by
  refine eq_of_fields (dd := dd + 1) (fs := (Tryd.prog.fieldsOf 87).toList) (by kernel_rfl) rfl (by kernel_rfl) (?_ : _ = Result.ok (decide (x.At = y.At) && (decide (x.Kind = y.Kind) && (decide (x.Id = y.Id) && (decide (x.Who = y.Who) && (decide (x.Club = y.Club) && (decide (x.Race = y.Race) && (decide (x.Age = y.Age) && (decide (x.Time = y.Time) && true)))))))) w) (by cases x; cases y; simp [Bool.decide_and])
  simp only [Program.fieldsOf, Tryd.underlying87]
  exact (eqF_cons (by decide) (part_cell Tryd.isAgg3 rfl) (part_cell Tryd.isAgg3 rfl) (eq_cell_int Tryd.underlying3) (eqF_cons (by decide) (part_cell Tryd.isAgg3 rfl) (part_cell Tryd.isAgg3 rfl) (eq_cell_int Tryd.underlying3) (eqF_cons (by decide) (part_cell Tryd.isAgg9 rfl) (part_cell Tryd.isAgg9 rfl) (eq_cell_str Tryd.underlying9) (eqF_cons (by decide) (part_cell Tryd.isAgg9 rfl) (part_cell Tryd.isAgg9 rfl) (eq_cell_str Tryd.underlying9) (eqF_cons (by decide) (part_cell Tryd.isAgg9 rfl) (part_cell Tryd.isAgg9 rfl) (eq_cell_str Tryd.underlying9) (eqF_cons (by decide) (part_cell Tryd.isAgg9 rfl) (part_cell Tryd.isAgg9 rfl) (eq_cell_str Tryd.underlying9) (eqF_cons (by decide) (part_cell Tryd.isAgg3 rfl) (part_cell Tryd.isAgg3 rfl) (eq_cell_int Tryd.underlying3) (eqF_cons (by decide) (part_cell Tryd.isAgg3 rfl) (part_cell Tryd.isAgg3 rfl) (eq_cell_int Tryd.underlying3) eqF_nil))))))))
theorem rn_eql_87 {a : Act} {w : World} {x y : Operand} {u ty : TypeId} {m n : GStep} (hx : a.eval x = .agg (GStep.enc m).toArray) (hy : a.eval y = .agg (GStep.enc n).toArray) : Rn Tryd.prog a w (.binOp .eql 87 x y u) ty (.bool (decide (m = n))) :=
  rn_aeql 2 (by kernel_rfl) (fun w => eq_87 _ m n w) rfl hx hy
theorem rn_neq_87 {a : Act} {w : World} {x y : Operand} {u ty : TypeId} {m n : GStep} (hx : a.eval x = .agg (GStep.enc m).toArray) (hy : a.eval y = .agg (GStep.enc n).toArray) : Rn Tryd.prog a w (.binOp .neq 87 x y u) ty (.bool (!decide (m = n))) :=
  rn_aneq 2 (by kernel_rfl) (fun w => eq_87 _ m n w) rfl hx hy
theorem bt_25 : BldT Tryd.prog 25 (.agg #[.slice none 0 0, iV 0]) [(0, 1), (1, 1)] := ⟨_, Tryd.underlying25, Tryd.zeroValue25, fun _ => by kernel_rfl⟩
theorem bt_38 : BldT Tryd.prog 38 (.agg #[sV k_empty, sV k_empty, iV 0, iV 0]) [(0, 1), (1, 1), (2, 1), (3, 1)] := ⟨_, Tryd.underlying38, Tryd.zeroValue38, fun _ => by kernel_rfl⟩
theorem bt_45 : BldT Tryd.prog 45 (.agg #[sV k_empty, sV k_empty, iV 0]) [(0, 1), (1, 1), (2, 1)] := ⟨_, Tryd.underlying45, Tryd.zeroValue45, fun _ => by kernel_rfl⟩
theorem bt_49 : BldT Tryd.prog 49 (.agg #[sV k_empty, .slice none 0 0]) [(0, 1), (1, 1)] := ⟨_, Tryd.underlying49, Tryd.zeroValue49, fun _ => by kernel_rfl⟩
theorem bt_68 : BldT Tryd.prog 68 (.agg #[.slice none 0 0, iV 0, .slice none 0 0, .slice none 0 0, iV 0, bV false]) [(0, 1), (1, 1), (2, 1), (3, 1), (4, 1), (5, 1)] := ⟨_, Tryd.underlying68, Tryd.zeroValue68, fun _ => by kernel_rfl⟩
theorem bt_73 : BldT Tryd.prog 73 (.agg #[iV 0, iV 0, iV 0]) [(0, 1), (1, 1), (2, 1)] := ⟨_, Tryd.underlying73, Tryd.zeroValue73, fun _ => by kernel_rfl⟩
theorem bt_76 : BldT Tryd.prog 76 (.agg #[sV k_empty, iV 0, iV 0, iV 0, iV 0]) [(0, 1), (1, 1), (2, 1), (3, 1), (4, 1)] := ⟨_, Tryd.underlying76, Tryd.zeroValue76, fun _ => by kernel_rfl⟩
theorem bt_80 : BldT Tryd.prog 80 (.agg #[sV k_empty, iV 0]) [(0, 1), (1, 1)] := ⟨_, Tryd.underlying80, Tryd.zeroValue80, fun _ => by kernel_rfl⟩
theorem bt_84 : BldT Tryd.prog 84 (.agg #[sV k_empty, sV k_empty, .slice none 0 0, iV 0, iV 0]) [(0, 1), (1, 1), (2, 1), (3, 1), (4, 1)] := ⟨_, Tryd.underlying84, Tryd.zeroValue84, fun _ => by kernel_rfl⟩
theorem bt_87 : BldT Tryd.prog 87 (.agg #[iV 0, iV 0, sV k_empty, sV k_empty, sV k_empty, sV k_empty, iV 0, iV 0]) [(0, 1), (1, 1), (2, 1), (3, 1), (4, 1), (5, 1), (6, 1), (7, 1)] := ⟨_, Tryd.underlying87, Tryd.zeroValue87, fun _ => by kernel_rfl⟩
theorem bt_116 : BldT Tryd.prog 116 (.agg #[iV 0, iV 0]) [(0, 1), (1, 1)] := ⟨_, Tryd.underlying116, Tryd.zeroValue116, fun _ => by kernel_rfl⟩
theorem bt_118 : BldT Tryd.prog 118 (.agg #[sV k_empty, iV 0, iV 0, iV 0]) [(0, 1), (1, 1), (2, 2)] := ⟨_, Tryd.underlying118, Tryd.zeroValue118, fun _ => by kernel_rfl⟩
end Go.Proofs.YtmoigiaomdkfiaaDoor
