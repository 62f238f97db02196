/- The program's tables, by program. -/
import Derived.Test.YtdfmfioglndohaaGreatDoorTw
import Derived.Test.YtdfmfioglndohaaGreatDoorArena
import Derived.Test.YtdfmfioglndohaaGreatDoorProg
namespace Go.Proofs.YtdfmfioglndohaaGreatDoor
open Go
def GScored.enc (x : GScored) : List Value := [sV x.Race, sV x.Who, sV x.Club, iV x.Rank, bV x.Relay]
theorem GScored.enc_ok : Enc 5 GScored.enc := ⟨fun _ => rfl, fun _ u h => by simp [GScored.enc] at h; rcases h with rfl | rfl | rfl | rfl | rfl <;> rfl⟩
def Gpoints_entry.enc (x : Gpoints_entry) : List Value := [sV x.race_, sV x.who_]
theorem Gpoints_entry.enc_ok : Enc 2 Gpoints_entry.enc := ⟨fun _ => rfl, fun _ u h => by simp [Gpoints_entry.enc] at h; rcases h with rfl | rfl <;> rfl⟩
def GFraction.enc (x : GFraction) : List Value := [iV x.Num, iV x.Den]
theorem GFraction.enc_ok : Enc 2 GFraction.enc := ⟨fun _ => rfl, fun _ u h => by simp [GFraction.enc] at h; rcases h with rfl | rfl <;> rfl⟩
def GGiven.enc (x : GGiven) : List Value := [sV x.Key, iV x.Points.Num, iV x.Points.Den]
theorem GGiven.enc_ok : Enc 3 GGiven.enc := ⟨fun _ => rfl, fun _ u h => by simp [GGiven.enc] at h; rcases h with rfl | rfl | rfl <;> rfl⟩
def Gpoints_row.enc (x : Gpoints_row) : List Value := [sV x.x_.Race, sV x.x_.Who, sV x.x_.Club, iV x.x_.Rank, bV x.x_.Relay, iV x.points_.Num, iV x.points_.Den]
theorem Gpoints_row.enc_ok : Enc 7 Gpoints_row.enc := ⟨fun _ => rfl, fun _ u h => by simp [Gpoints_row.enc] at h; rcases h with rfl | rfl | rfl | rfl | rfl | rfl | rfl <;> rfl⟩
def GDate.enc (x : GDate) : List Value := [iV x.Year, iV x.Month, iV x.Day]
theorem GDate.enc_ok : Enc 3 GDate.enc := ⟨fun _ => rfl, fun _ u h => by simp [GDate.enc] at h; rcases h with rfl | rfl | rfl <;> rfl⟩
def GItem.enc (x : GItem) : List Value := [sV x.Key, iV x.Heats, iV x.Long, iV x.Gap, iV x.Break]
theorem GItem.enc_ok : Enc 5 GItem.enc := ⟨fun _ => rfl, fun _ u h => by simp [GItem.enc] at h; rcases h with rfl | rfl | rfl | rfl | rfl <;> rfl⟩
def GWindow.enc (x : GWindow) : List Value := [iV x.From, iV x.To]
theorem GWindow.enc_ok : Enc 2 GWindow.enc := ⟨fun _ => rfl, fun _ u h => by simp [GWindow.enc] at h; rcases h with rfl | rfl <;> rfl⟩
def GSlot.enc (x : GSlot) : List Value := [sV x.Item, iV x.Heat, iV x.Time.From, iV x.Time.To]
theorem GSlot.enc_ok : Enc 4 GSlot.enc := ⟨fun _ => rfl, fun _ u h => by simp [GSlot.enc] at h; rcases h with rfl | rfl | rfl | rfl <;> rfl⟩
def GBase.enc (x : GBase) : List Value := [sV x.Race, iV x.Time]
theorem GBase.enc_ok : Enc 2 GBase.enc := ⟨fun _ => rfl, fun _ u h => by simp [GBase.enc] at h; rcases h with rfl | rfl <;> rfl⟩
def GStep.enc (x : GStep) : List Value := [iV x.At, iV x.Kind, sV x.Id, sV x.Who, sV x.Club, sV x.Race, iV x.Age, iV x.Time]
theorem GStep.enc_ok : Enc 8 GStep.enc := ⟨fun _ => rfl, fun _ u h => by simp [GStep.enc] at h; rcases h with rfl | rfl | rfl | rfl | rfl | rfl | rfl | rfl <;> rfl⟩
structure R27 where
  mk ::
  (Points : RS)
  (Relay : Int)
  (Most : Int)
def R27.enc (x : R27) : List Value := [x.Points.val, iV x.Relay, iV x.Most]
theorem R27.enc_ok : Enc 3 R27.enc := ⟨fun _ => rfl, fun x u h => by
    simp only [R27.enc, List.mem_cons, List.not_mem_nil, or_false] at h
    rcases h with rfl | rfl | rfl
    · exact x.Points.property
    · exact rfl
    · exact rfl⟩
def rel_27 (φ : View) (x : GTable) (r : R27) : Prop := ∃ u1 : RS, r = ⟨u1, x.Relay, x.Most⟩ ∧ Slc φ 1 u1.val (x.Points.map eInt)
theorem rel_27_mono {φ ψ : View} (l : View.le φ ψ) (x : GTable) (r : R27) (h : rel_27 φ x r) : rel_27 ψ x r := by
  obtain ⟨u1, e, h1⟩ := h
  exact ⟨u1, e, h1.mono l⟩
theorem rels_27 {φ ψ : View} (l : View.le φ ψ) {xs : List GTable} {rs : List R27} (h : All2 (rel_27 φ) xs rs) : All2 (rel_27 ψ) xs rs := h.chg (rel_27_mono l)
def rel_29 (φ : View) (x : (List GScored)) (r : RS) : Prop := Slc φ 5 r.val (x.map GScored.enc)
theorem rel_29_mono {φ ψ : View} (l : View.le φ ψ) (x : (List GScored)) (r : RS) (h : rel_29 φ x r) : rel_29 ψ x r := Slc.mono h l
theorem rels_29 {φ ψ : View} (l : View.le φ ψ) {xs : List (List GScored)} {rs : List RS} (h : All2 (rel_29 φ) xs rs) : All2 (rel_29 ψ) xs rs := h.chg (rel_29_mono l)
structure R80 where
  mk ::
  (Key : ByteArray)
  (Race : ByteArray)
  (Clubs : RS)
  (Young : Int)
  (Old : Int)
def R80.enc (x : R80) : List Value := [sV x.Key, sV x.Race, x.Clubs.val, iV x.Young, iV x.Old]
theorem R80.enc_ok : Enc 5 R80.enc := ⟨fun _ => rfl, fun x u h => by
    simp only [R80.enc, List.mem_cons, List.not_mem_nil, or_false] at h
    rcases h with rfl | rfl | rfl | rfl | rfl
    · exact rfl
    · exact rfl
    · exact x.Clubs.property
    · exact rfl
    · exact rfl⟩
def rel_80 (φ : View) (x : GKind) (r : R80) : Prop := ∃ u1 : RS, r = ⟨x.Key, x.Race, u1, x.Young, x.Old⟩ ∧ Slc φ 1 u1.val (x.Clubs.map eStr)
theorem rel_80_mono {φ ψ : View} (l : View.le φ ψ) (x : GKind) (r : R80) (h : rel_80 φ x r) : rel_80 ψ x r := by
  obtain ⟨u1, e, h1⟩ := h
  exact ⟨u1, e, h1.mono l⟩
theorem rels_80 {φ ψ : View} (l : View.le φ ψ) {xs : List GKind} {rs : List R80} (h : All2 (rel_80 φ) xs rs) : All2 (rel_80 ψ) xs rs := h.chg (rel_80_mono l)
theorem Tryz.mixed : Tryz.prog.follows .mixedOrders = true := by kernel_rfl
theorem sl_22 : SlT Tryz.prog 22 3 1 8 := slT_of (z := (iV 0)) Tryz.underlying22 Tryz.sizeOf3 (by kernel_rfl) rfl
theorem sl_29 : SlT Tryz.prog 29 51 5 64 := slT_of (z := (.agg #[sV k_empty, sV k_empty, sV k_empty, iV 0, bV false])) Tryz.underlying29 Tryz.sizeOf51 (by kernel_rfl) rfl
theorem sl_31 : SlT Tryz.prog 31 41 3 32 := slT_of (z := (.agg #[sV k_empty, iV 0, iV 0])) Tryz.underlying31 Tryz.sizeOf41 (by kernel_rfl) rfl
theorem sl_47 : SlT Tryz.prog 47 9 1 16 := slT_of (z := (sV k_empty)) Tryz.underlying47 Tryz.sizeOf9 (by kernel_rfl) rfl
theorem sl_58 : SlT Tryz.prog 58 61 7 80 := slT_of (z := (.agg #[sV k_empty, sV k_empty, sV k_empty, iV 0, bV false, iV 0, iV 0])) Tryz.underlying58 Tryz.sizeOf61 (by kernel_rfl) rfl
theorem sl_64 : SlT Tryz.prog 64 32 1 8 := slT_of (z := (iV 0)) Tryz.underlying64 Tryz.sizeOf32 (by kernel_rfl) rfl
theorem sl_72 : SlT Tryz.prog 72 71 5 48 := slT_of (z := (.agg #[sV k_empty, iV 0, iV 0, iV 0, iV 0])) Tryz.underlying72 Tryz.sizeOf71 (by kernel_rfl) rfl
theorem sl_76 : SlT Tryz.prog 76 75 2 24 := slT_of (z := (.agg #[sV k_empty, iV 0])) Tryz.underlying76 Tryz.sizeOf75 (by kernel_rfl) rfl
theorem sl_81 : SlT Tryz.prog 81 80 5 72 := slT_of (z := (.agg #[sV k_empty, sV k_empty, .slice none 0 0, iV 0, iV 0])) Tryz.underlying81 Tryz.sizeOf80 (by kernel_rfl) rfl
theorem sl_94 : SlT Tryz.prog 94 29 1 24 := slT_of (z := (.slice none 0 0)) Tryz.underlying94 Tryz.sizeOf29 (by kernel_rfl) rfl
theorem sl_97 : SlT Tryz.prog 97 125 4 40 := slT_of (z := (.agg #[sV k_empty, iV 0, iV 0, iV 0])) Tryz.underlying97 Tryz.sizeOf125 (by kernel_rfl) rfl
theorem fa_25_0 : FldT Tryz.prog 25 0 0 := ⟨_, _, _, Tryz.underlying25, rfl, Tryz.sizeOf22, rfl, rfl⟩
theorem fa_25_1 : FldT Tryz.prog 25 1 1 := ⟨_, _, _, Tryz.underlying25, rfl, Tryz.sizeOf3, rfl, rfl⟩
theorem fa_27_0 : FldT Tryz.prog 27 0 0 := ⟨_, _, _, Tryz.underlying27, rfl, Tryz.sizeOf22, rfl, rfl⟩
theorem fa_27_1 : FldT Tryz.prog 27 1 1 := ⟨_, _, _, Tryz.underlying27, rfl, Tryz.sizeOf3, rfl, rfl⟩
theorem fa_27_2 : FldT Tryz.prog 27 2 2 := ⟨_, _, _, Tryz.underlying27, rfl, Tryz.sizeOf3, rfl, rfl⟩
theorem fa_36_0 : FldT Tryz.prog 36 0 0 := ⟨_, _, _, Tryz.underlying36, rfl, Tryz.sizeOf3, rfl, rfl⟩
theorem fa_36_1 : FldT Tryz.prog 36 1 1 := ⟨_, _, _, Tryz.underlying36, rfl, Tryz.sizeOf3, rfl, rfl⟩
theorem fa_41_0 : FldT Tryz.prog 41 0 0 := ⟨_, _, _, Tryz.underlying41, rfl, Tryz.sizeOf9, rfl, rfl⟩
theorem fa_41_1 : FldT Tryz.prog 41 1 1 := ⟨_, _, _, Tryz.underlying41, rfl, Tryz.sizeOf36, rfl, rfl⟩
theorem fa_51_0 : FldT Tryz.prog 51 0 0 := ⟨_, _, _, Tryz.underlying51, rfl, Tryz.sizeOf9, rfl, rfl⟩
theorem fa_51_1 : FldT Tryz.prog 51 1 1 := ⟨_, _, _, Tryz.underlying51, rfl, Tryz.sizeOf9, rfl, rfl⟩
theorem fa_51_2 : FldT Tryz.prog 51 2 2 := ⟨_, _, _, Tryz.underlying51, rfl, Tryz.sizeOf9, rfl, rfl⟩
theorem fa_51_3 : FldT Tryz.prog 51 3 3 := ⟨_, _, _, Tryz.underlying51, rfl, Tryz.sizeOf3, rfl, rfl⟩
theorem fa_51_4 : FldT Tryz.prog 51 4 4 := ⟨_, _, _, Tryz.underlying51, rfl, Tryz.sizeOf4, rfl, rfl⟩
theorem fa_61_0 : FldT Tryz.prog 61 0 0 := ⟨_, _, _, Tryz.underlying61, rfl, Tryz.sizeOf51, rfl, rfl⟩
theorem fa_61_1 : FldT Tryz.prog 61 1 5 := ⟨_, _, _, Tryz.underlying61, rfl, Tryz.sizeOf36, rfl, rfl⟩
theorem fa_68_0 : FldT Tryz.prog 68 0 0 := ⟨_, _, _, Tryz.underlying68, rfl, Tryz.sizeOf3, rfl, rfl⟩
theorem fa_68_1 : FldT Tryz.prog 68 1 1 := ⟨_, _, _, Tryz.underlying68, rfl, Tryz.sizeOf3, rfl, rfl⟩
theorem fa_68_2 : FldT Tryz.prog 68 2 2 := ⟨_, _, _, Tryz.underlying68, rfl, Tryz.sizeOf3, rfl, rfl⟩
theorem fa_71_0 : FldT Tryz.prog 71 0 0 := ⟨_, _, _, Tryz.underlying71, rfl, Tryz.sizeOf9, rfl, rfl⟩
theorem fa_71_1 : FldT Tryz.prog 71 1 1 := ⟨_, _, _, Tryz.underlying71, rfl, Tryz.sizeOf3, rfl, rfl⟩
theorem fa_71_2 : FldT Tryz.prog 71 2 2 := ⟨_, _, _, Tryz.underlying71, rfl, Tryz.sizeOf3, rfl, rfl⟩
theorem fa_71_3 : FldT Tryz.prog 71 3 3 := ⟨_, _, _, Tryz.underlying71, rfl, Tryz.sizeOf3, rfl, rfl⟩
theorem fa_71_4 : FldT Tryz.prog 71 4 4 := ⟨_, _, _, Tryz.underlying71, rfl, Tryz.sizeOf3, rfl, rfl⟩
theorem fa_75_0 : FldT Tryz.prog 75 0 0 := ⟨_, _, _, Tryz.underlying75, rfl, Tryz.sizeOf9, rfl, rfl⟩
theorem fa_75_1 : FldT Tryz.prog 75 1 1 := ⟨_, _, _, Tryz.underlying75, rfl, Tryz.sizeOf3, rfl, rfl⟩
theorem fa_80_0 : FldT Tryz.prog 80 0 0 := ⟨_, _, _, Tryz.underlying80, rfl, Tryz.sizeOf9, rfl, rfl⟩
theorem fa_80_1 : FldT Tryz.prog 80 1 1 := ⟨_, _, _, Tryz.underlying80, rfl, Tryz.sizeOf9, rfl, rfl⟩
theorem fa_80_2 : FldT Tryz.prog 80 2 2 := ⟨_, _, _, Tryz.underlying80, rfl, Tryz.sizeOf47, rfl, rfl⟩
theorem fa_80_3 : FldT Tryz.prog 80 3 3 := ⟨_, _, _, Tryz.underlying80, rfl, Tryz.sizeOf3, rfl, rfl⟩
theorem fa_80_4 : FldT Tryz.prog 80 4 4 := ⟨_, _, _, Tryz.underlying80, rfl, Tryz.sizeOf3, rfl, rfl⟩
theorem fa_83_0 : FldT Tryz.prog 83 0 0 := ⟨_, _, _, Tryz.underlying83, rfl, Tryz.sizeOf3, rfl, rfl⟩
theorem fa_83_1 : FldT Tryz.prog 83 1 1 := ⟨_, _, _, Tryz.underlying83, rfl, Tryz.sizeOf3, rfl, rfl⟩
theorem fa_83_2 : FldT Tryz.prog 83 2 2 := ⟨_, _, _, Tryz.underlying83, rfl, Tryz.sizeOf9, rfl, rfl⟩
theorem fa_83_3 : FldT Tryz.prog 83 3 3 := ⟨_, _, _, Tryz.underlying83, rfl, Tryz.sizeOf9, rfl, rfl⟩
theorem fa_83_4 : FldT Tryz.prog 83 4 4 := ⟨_, _, _, Tryz.underlying83, rfl, Tryz.sizeOf9, rfl, rfl⟩
theorem fa_83_5 : FldT Tryz.prog 83 5 5 := ⟨_, _, _, Tryz.underlying83, rfl, Tryz.sizeOf9, rfl, rfl⟩
theorem fa_83_6 : FldT Tryz.prog 83 6 6 := ⟨_, _, _, Tryz.underlying83, rfl, Tryz.sizeOf3, rfl, rfl⟩
theorem fa_83_7 : FldT Tryz.prog 83 7 7 := ⟨_, _, _, Tryz.underlying83, rfl, Tryz.sizeOf3, rfl, rfl⟩
theorem fa_123_1 : FldT Tryz.prog 123 1 1 := ⟨_, _, _, Tryz.underlying123, rfl, Tryz.sizeOf3, rfl, rfl⟩
theorem fa_125_2 : FldT Tryz.prog 125 2 2 := ⟨_, _, _, Tryz.underlying125, rfl, Tryz.sizeOf123, rfl, rfl⟩
theorem eq_36 (dd : Nat) (x y : GFraction) (w : World) : (Op.equalIn (dd + 2) 36 (.agg (GFraction.enc x).toArray) (.agg (GFraction.enc y).toArray)).run Tryz.prog w = .ok (decide (x = y)) w := by
  refine eq_of_fields (dd := dd + 1) (fs := (Tryz.prog.fieldsOf 36).toList) (by kernel_rfl) rfl (by kernel_rfl) (?_ : _ = Result.ok (decide (x.Num = y.Num) && (decide (x.Den = y.Den) && true)) w) (by cases x; cases y; simp [Bool.decide_and])
  simp only [Program.fieldsOf, Tryz.underlying36]
  exact (eqF_cons (by decide) (part_cell Tryz.isAgg3 rfl) (part_cell Tryz.isAgg3 rfl) (eq_cell_int Tryz.underlying3) (eqF_cons (by decide) (part_cell Tryz.isAgg3 rfl) (part_cell Tryz.isAgg3 rfl) (eq_cell_int Tryz.underlying3) eqF_nil))
theorem rn_eql_36 {a : Act} {w : World} {x y : Operand} {u ty : TypeId} {m n : GFraction} (hx : a.eval x = .agg (GFraction.enc m).toArray) (hy : a.eval y = .agg (GFraction.enc n).toArray) : Rn Tryz.prog a w (.binOp .eql 36 x y u) ty (.bool (decide (m = n))) :=
  rn_aeql 2 (by kernel_rfl) (fun w => eq_36 _ m n w) rfl hx hy
theorem rn_neq_36 {a : Act} {w : World} {x y : Operand} {u ty : TypeId} {m n : GFraction} (hx : a.eval x = .agg (GFraction.enc m).toArray) (hy : a.eval y = .agg (GFraction.enc n).toArray) : Rn Tryz.prog a w (.binOp .neq 36 x y u) ty (.bool (!decide (m = n))) :=
  rn_aneq 2 (by kernel_rfl) (fun w => eq_36 _ m n w) rfl hx hy
theorem eq_83 (dd : Nat) (x y : GStep) (w : World) : (Op.equalIn (dd + 2) 83 (.agg (GStep.enc x).toArray) (.agg (GStep.enc y).toArray)).run Tryz.prog w = .ok (decide (x = y)) w := by
  refine eq_of_fields (dd := dd + 1) (fs := (Tryz.prog.fieldsOf 83).toList) (by kernel_rfl) rfl (by kernel_rfl) (?_ : _ = Result.ok (decide (x.At = y.At) && (decide (x.Kind = y.Kind) && (decide (x.Id = y.Id) && (decide (x.Who = y.Who) && (decide (x.Club = y.Club) && (decide (x.Race = y.Race) && (decide (x.Age = y.Age) && (decide (x.Time = y.Time) && true)))))))) w) (by cases x; cases y; simp [Bool.decide_and])
  simp only [Program.fieldsOf, Tryz.underlying83]
  exact (eqF_cons (by decide) (part_cell Tryz.isAgg3 rfl) (part_cell Tryz.isAgg3 rfl) (eq_cell_int Tryz.underlying3) (eqF_cons (by decide) (part_cell Tryz.isAgg3 rfl) (part_cell Tryz.isAgg3 rfl) (eq_cell_int Tryz.underlying3) (eqF_cons (by decide) (part_cell Tryz.isAgg9 rfl) (part_cell Tryz.isAgg9 rfl) (eq_cell_str Tryz.underlying9) (eqF_cons (by decide) (part_cell Tryz.isAgg9 rfl) (part_cell Tryz.isAgg9 rfl) (eq_cell_str Tryz.underlying9) (eqF_cons (by decide) (part_cell Tryz.isAgg9 rfl) (part_cell Tryz.isAgg9 rfl) (eq_cell_str Tryz.underlying9) (eqF_cons (by decide) (part_cell Tryz.isAgg9 rfl) (part_cell Tryz.isAgg9 rfl) (eq_cell_str Tryz.underlying9) (eqF_cons (by decide) (part_cell Tryz.isAgg3 rfl) (part_cell Tryz.isAgg3 rfl) (eq_cell_int Tryz.underlying3) (eqF_cons (by decide) (part_cell Tryz.isAgg3 rfl) (part_cell Tryz.isAgg3 rfl) (eq_cell_int Tryz.underlying3) eqF_nil))))))))
theorem rn_eql_83 {a : Act} {w : World} {x y : Operand} {u ty : TypeId} {m n : GStep} (hx : a.eval x = .agg (GStep.enc m).toArray) (hy : a.eval y = .agg (GStep.enc n).toArray) : Rn Tryz.prog a w (.binOp .eql 83 x y u) ty (.bool (decide (m = n))) :=
  rn_aeql 2 (by kernel_rfl) (fun w => eq_83 _ m n w) rfl hx hy
theorem rn_neq_83 {a : Act} {w : World} {x y : Operand} {u ty : TypeId} {m n : GStep} (hx : a.eval x = .agg (GStep.enc m).toArray) (hy : a.eval y = .agg (GStep.enc n).toArray) : Rn Tryz.prog a w (.binOp .neq 83 x y u) ty (.bool (!decide (m = n))) :=
  rn_aneq 2 (by kernel_rfl) (fun w => eq_83 _ m n w) rfl hx hy
theorem eq_139 (dd : Nat) (x y : Gpoints_entry) (w : World) : (Op.equalIn (dd + 2) 139 (.agg (Gpoints_entry.enc x).toArray) (.agg (Gpoints_entry.enc y).toArray)).run Tryz.prog w = .ok (decide (x = y)) w := by
  refine eq_of_fields (dd := dd + 1) (fs := (Tryz.prog.fieldsOf 139).toList) (by kernel_rfl) rfl (by kernel_rfl) (?_ : _ = Result.ok (decide (x.race_ = y.race_) && (decide (x.who_ = y.who_) && true)) w) (by cases x; cases y; simp [Bool.decide_and])
  simp only [Program.fieldsOf, Tryz.underlying139]
  exact (eqF_cons (by decide) (part_cell Tryz.isAgg9 rfl) (part_cell Tryz.isAgg9 rfl) (eq_cell_str Tryz.underlying9) (eqF_cons (by decide) (part_cell Tryz.isAgg9 rfl) (part_cell Tryz.isAgg9 rfl) (eq_cell_str Tryz.underlying9) eqF_nil))
theorem rn_eql_139 {a : Act} {w : World} {x y : Operand} {u ty : TypeId} {m n : Gpoints_entry} (hx : a.eval x = .agg (Gpoints_entry.enc m).toArray) (hy : a.eval y = .agg (Gpoints_entry.enc n).toArray) : Rn Tryz.prog a w (.binOp .eql 139 x y u) ty (.bool (decide (m = n))) :=
  rn_aeql 2 (by kernel_rfl) (fun w => eq_139 _ m n w) rfl hx hy
theorem rn_neq_139 {a : Act} {w : World} {x y : Operand} {u ty : TypeId} {m n : Gpoints_entry} (hx : a.eval x = .agg (Gpoints_entry.enc m).toArray) (hy : a.eval y = .agg (Gpoints_entry.enc n).toArray) : Rn Tryz.prog a w (.binOp .neq 139 x y u) ty (.bool (!decide (m = n))) :=
  rn_aneq 2 (by kernel_rfl) (fun w => eq_139 _ m n w) rfl hx hy
theorem keyT_139 : KeyT Tryz.prog 139 (fun x => Value.agg (Gpoints_entry.enc x).toArray) :=
  keyT_agg 2 rfl Tryz.underlying139 (fun em x w => chk_agg Tryz.underlying139 (by
    intro f hf _
    simp only [List.mem_cons, List.not_mem_nil, or_false] at hf
    rcases hf with rfl | rfl
    · exact ⟨_, fun w => part_cell Tryz.isAgg9 rfl, fun w => chk_str Tryz.underlying9⟩
    · exact ⟨_, fun w => part_cell Tryz.isAgg9 rfl, fun w => chk_str Tryz.underlying9⟩)) eq_139 (fun x => by simp [Instr.sameBits, Gpoints_entry.enc, beq_selfB])
theorem bt_25 : BldT Tryz.prog 25 (.agg #[.slice none 0 0, iV 0]) [(0, 1), (1, 1)] := ⟨_, Tryz.underlying25, Tryz.zeroValue25, fun _ => by kernel_rfl⟩
theorem bt_27 : BldT Tryz.prog 27 (.agg #[.slice none 0 0, iV 0, iV 0]) [(0, 1), (1, 1), (2, 1)] := ⟨_, Tryz.underlying27, Tryz.zeroValue27, fun _ => by kernel_rfl⟩
theorem bt_36 : BldT Tryz.prog 36 (.agg #[iV 0, iV 0]) [(0, 1), (1, 1)] := ⟨_, Tryz.underlying36, Tryz.zeroValue36, fun _ => by kernel_rfl⟩
theorem bt_41 : BldT Tryz.prog 41 (.agg #[sV k_empty, iV 0, iV 0]) [(0, 1), (1, 2)] := ⟨_, Tryz.underlying41, Tryz.zeroValue41, fun _ => by kernel_rfl⟩
theorem bt_51 : BldT Tryz.prog 51 (.agg #[sV k_empty, sV k_empty, sV k_empty, iV 0, bV false]) [(0, 1), (1, 1), (2, 1), (3, 1), (4, 1)] := ⟨_, Tryz.underlying51, Tryz.zeroValue51, fun _ => by kernel_rfl⟩
theorem bt_61 : BldT Tryz.prog 61 (.agg #[sV k_empty, sV k_empty, sV k_empty, iV 0, bV false, iV 0, iV 0]) [(0, 5), (5, 2)] := ⟨_, Tryz.underlying61, Tryz.zeroValue61, fun _ => by kernel_rfl⟩
theorem bt_68 : BldT Tryz.prog 68 (.agg #[iV 0, iV 0, iV 0]) [(0, 1), (1, 1), (2, 1)] := ⟨_, Tryz.underlying68, Tryz.zeroValue68, fun _ => by kernel_rfl⟩
theorem bt_71 : BldT Tryz.prog 71 (.agg #[sV k_empty, iV 0, iV 0, iV 0, iV 0]) [(0, 1), (1, 1), (2, 1), (3, 1), (4, 1)] := ⟨_, Tryz.underlying71, Tryz.zeroValue71, fun _ => by kernel_rfl⟩
theorem bt_75 : BldT Tryz.prog 75 (.agg #[sV k_empty, iV 0]) [(0, 1), (1, 1)] := ⟨_, Tryz.underlying75, Tryz.zeroValue75, fun _ => by kernel_rfl⟩
theorem bt_80 : BldT Tryz.prog 80 (.agg #[sV k_empty, sV k_empty, .slice none 0 0, iV 0, iV 0]) [(0, 1), (1, 1), (2, 1), (3, 1), (4, 1)] := ⟨_, Tryz.underlying80, Tryz.zeroValue80, fun _ => by kernel_rfl⟩
theorem bt_83 : BldT Tryz.prog 83 (.agg #[iV 0, iV 0, sV k_empty, sV k_empty, sV k_empty, sV k_empty, iV 0, iV 0]) [(0, 1), (1, 1), (2, 1), (3, 1), (4, 1), (5, 1), (6, 1), (7, 1)] := ⟨_, Tryz.underlying83, Tryz.zeroValue83, fun _ => by kernel_rfl⟩
theorem bt_123 : BldT Tryz.prog 123 (.agg #[iV 0, iV 0]) [(0, 1), (1, 1)] := ⟨_, Tryz.underlying123, Tryz.zeroValue123, fun _ => by kernel_rfl⟩
theorem bt_125 : BldT Tryz.prog 125 (.agg #[sV k_empty, iV 0, iV 0, iV 0]) [(0, 1), (1, 1), (2, 2)] := ⟨_, Tryz.underlying125, Tryz.zeroValue125, fun _ => by kernel_rfl⟩
theorem bt_139 : BldT Tryz.prog 139 (.agg #[sV k_empty, sV k_empty]) [(0, 1), (1, 1)] := ⟨_, Tryz.underlying139, Tryz.zeroValue139, fun _ => by kernel_rfl⟩
end Go.Proofs.YtdfmfioglndohaaGreatDoor
