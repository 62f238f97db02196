/- The program's tables, by program. -/
import Derived.Test.YteppmbaanjlmmaaGreatDoorTw
import Derived.Test.YteppmbaanjlmmaaGreatDoorArena
import Derived.Test.YteppmbaanjlmmaaGreatDoorProg
namespace Go.Proofs.YteppmbaanjlmmaaGreatDoor
open Go
def GScored.enc (x : GScored) : List Value := [sV x.Race, sV x.Who, sV x.Club, iV x.Rank, bV x.Relay]
theorem GScored.enc_ok : Enc 5 GScored.enc := ⟨fun _ => rfl, fun _ u h => by simp [GScored.enc] at h; rcases h with rfl | rfl | rfl | rfl | rfl <;> rfl⟩
def Gpoints_entry.enc (x : Gpoints_entry) : List Value := [sV x.race_, sV x.who_]
theorem Gpoints_entry.enc_ok : Enc 2 Gpoints_entry.enc := ⟨fun _ => rfl, fun _ u h => by simp [Gpoints_entry.enc] at h; rcases h with rfl | rfl <;> rfl⟩
def GFraction.enc (x : GFraction) : List Value := [iV x.Num, iV x.Den]
theorem GFraction.enc_ok : Enc 2 GFraction.enc := ⟨fun _ => rfl, fun _ u h => by simp [GFraction.enc] at h; rcases h with rfl | rfl <;> rfl⟩
def GGiven.enc (x : GGiven) : List Value := [sV x.Key, iV x.Points.Num, iV x.Points.Den]
theorem GGiven.enc_ok : Enc 3 GGiven.enc := ⟨fun _ => rfl, fun _ u h => by simp [GGiven.enc] at h; rcases h with rfl | rfl | rfl <;> rfl⟩
def Gpoints_row.enc (x : Gpoints_row) : List Value := [sV x.x_.Race, sV x.x_.Who, sV x.x_.Club, iV x.x_.Rank, bV x.x_.Relay, iV x.points_.Num, iV x.points_.Den]
theorem Gpoints_row.enc_ok : Enc 7 Gpoints_row.enc := ⟨fun _ => rfl, fun _ u h => by simp [Gpoints_row.enc] at h; rcases h with rfl | rfl | rfl | rfl | rfl | rfl | rfl <;> rfl⟩
def GDate.enc (x : GDate) : List Value := [iV x.Year, iV x.Month, iV x.Day]
theorem GDate.enc_ok : Enc 3 GDate.enc := ⟨fun _ => rfl, fun _ u h => by simp [GDate.enc] at h; rcases h with rfl | rfl | rfl <;> rfl⟩
def GItem.enc (x : GItem) : List Value := [sV x.Key, iV x.Heats, iV x.Long, iV x.Gap, iV x.Break]
theorem GItem.enc_ok : Enc 5 GItem.enc := ⟨fun _ => rfl, fun _ u h => by simp [GItem.enc] at h; rcases h with rfl | rfl | rfl | rfl | rfl <;> rfl⟩
def GWindow.enc (x : GWindow) : List Value := [iV x.From, iV x.To]
theorem GWindow.enc_ok : Enc 2 GWindow.enc := ⟨fun _ => rfl, fun _ u h => by simp [GWindow.enc] at h; rcases h with rfl | rfl <;> rfl⟩
def GSlot.enc (x : GSlot) : List Value := [sV x.Item, iV x.Heat, iV x.Time.From, iV x.Time.To]
theorem GSlot.enc_ok : Enc 4 GSlot.enc := ⟨fun _ => rfl, fun _ u h => by simp [GSlot.enc] at h; rcases h with rfl | rfl | rfl | rfl <;> rfl⟩
def GBase.enc (x : GBase) : List Value := [sV x.Race, iV x.Time]
theorem GBase.enc_ok : Enc 2 GBase.enc := ⟨fun _ => rfl, fun _ u h => by simp [GBase.enc] at h; rcases h with rfl | rfl <;> rfl⟩
def GStep.enc (x : GStep) : List Value := [iV x.At, iV x.Kind, sV x.Id, sV x.Who, sV x.Club, sV x.Race, iV x.Age, iV x.Time]
theorem GStep.enc_ok : Enc 8 GStep.enc := ⟨fun _ => rfl, fun _ u h => by simp [GStep.enc] at h; rcases h with rfl | rfl | rfl | rfl | rfl | rfl | rfl | rfl <;> rfl⟩
structure R27 where
  mk ::
  (Points : RS)
  (Relay : Int)
  (Most : Int)
def R27.enc (x : R27) : List Value := [x.Points.val, iV x.Relay, iV x.Most]
theorem R27.enc_ok : Enc 3 R27.enc := ⟨fun _ => rfl, fun x u h => by
    simp only [R27.enc, List.mem_cons, List.not_mem_nil, or_false] at h
    rcases h with rfl | rfl | rfl
    · exact x.Points.property
    · exact rfl
    · exact rfl⟩
def rel_27 (φ : View) (x : GTable) (r : R27) : Prop := ∃ u1 : RS, r = ⟨u1, x.Relay, x.Most⟩ ∧ Slc φ 1 u1.val (x.Points.map eInt)
theorem rel_27_mono {φ ψ : View} (l : View.le φ ψ) (x : GTable) (r : R27) (h : rel_27 φ x r) : rel_27 ψ x r := by
  obtain ⟨u1, e, h1⟩ := h
  exact ⟨u1, e, h1.mono l⟩
theorem rels_27 {φ ψ : View} (l : View.le φ ψ) {xs : List GTable} {rs : List R27} (h : All2 (rel_27 φ) xs rs) : All2 (rel_27 ψ) xs rs := h.chg (rel_27_mono l)
def rel_29 (φ : View) (x : (List GScored)) (r : RS) : Prop := Slc φ 5 r.val (x.map GScored.enc)
theorem rel_29_mono {φ ψ : View} (l : View.le φ ψ) (x : (List GScored)) (r : RS) (h : rel_29 φ x r) : rel_29 ψ x r := Slc.mono h l
theorem rels_29 {φ ψ : View} (l : View.le φ ψ) {xs : List (List GScored)} {rs : List RS} (h : All2 (rel_29 φ) xs rs) : All2 (rel_29 ψ) xs rs := h.chg (rel_29_mono l)
structure R84 where
  mk ::
  (Key : ByteArray)
  (Race : ByteArray)
  (Clubs : RS)
  (Young : Int)
  (Old : Int)
def R84.enc (x : R84) : List Value := [sV x.Key, sV x.Race, x.Clubs.val, iV x.Young, iV x.Old]
theorem R84.enc_ok : Enc 5 R84.enc := ⟨fun _ => rfl, fun x u h => by
    simp only [R84.enc, List.mem_cons, List.not_mem_nil, or_false] at h
    rcases h with rfl | rfl | rfl | rfl | rfl
    · exact rfl
    · exact rfl
    · exact x.Clubs.property
    · exact rfl
    · exact rfl⟩
def rel_84 (φ : View) (x : GKind) (r : R84) : Prop := ∃ u1 : RS, r = ⟨x.Key, x.Race, u1, x.Young, x.Old⟩ ∧ Slc φ 1 u1.val (x.Clubs.map eStr)
theorem rel_84_mono {φ ψ : View} (l : View.le φ ψ) (x : GKind) (r : R84) (h : rel_84 φ x r) : rel_84 ψ x r := by
  obtain ⟨u1, e, h1⟩ := h
  exact ⟨u1, e, h1.mono l⟩
theorem rels_84 {φ ψ : View} (l : View.le φ ψ) {xs : List GKind} {rs : List R84} (h : All2 (rel_84 φ) xs rs) : All2 (rel_84 ψ) xs rs := h.chg (rel_84_mono l)
theorem Tryz.mixed : Tryz.prog.follows .mixedOrders = true := by kernel_rfl
theorem sl_22 : SlT Tryz.prog 22 3 1 8 := slT_of (z := (iV 0)) Tryz.underlying22 Tryz.sizeOf3 (by kernel_rfl) rfl
theorem sl_29 : SlT Tryz.prog 29 53 5 64 := slT_of (z := (.agg #[sV k_empty, sV k_empty, sV k_empty, iV 0, bV false])) Tryz.underlying29 Tryz.sizeOf53 (by kernel_rfl) rfl
theorem sl_31 : SlT Tryz.prog 31 45 3 32 := slT_of (z := (.agg #[sV k_empty, iV 0, iV 0])) Tryz.underlying31 Tryz.sizeOf45 (by kernel_rfl) rfl
theorem sl_37 : SlT Tryz.prog 37 9 1 16 := slT_of (z := (sV k_empty)) Tryz.underlying37 Tryz.sizeOf9 (by kernel_rfl) rfl
theorem sl_68 : SlT Tryz.prog 68 32 1 8 := slT_of (z := (iV 0)) Tryz.underlying68 Tryz.sizeOf32 (by kernel_rfl) rfl
theorem sl_77 : SlT Tryz.prog 77 76 5 48 := slT_of (z := (.agg #[sV k_empty, iV 0, iV 0, iV 0, iV 0])) Tryz.underlying77 Tryz.sizeOf76 (by kernel_rfl) rfl
theorem sl_81 : SlT Tryz.prog 81 80 2 24 := slT_of (z := (.agg #[sV k_empty, iV 0])) Tryz.underlying81 Tryz.sizeOf80 (by kernel_rfl) rfl
theorem sl_85 : SlT Tryz.prog 85 84 5 72 := slT_of (z := (.agg #[sV k_empty, sV k_empty, .slice none 0 0, iV 0, iV 0])) Tryz.underlying85 Tryz.sizeOf84 (by kernel_rfl) rfl
theorem sl_98 : SlT Tryz.prog 98 101 7 80 := slT_of (z := (.agg #[sV k_empty, sV k_empty, sV k_empty, iV 0, bV false, iV 0, iV 0])) Tryz.underlying98 Tryz.sizeOf101 (by kernel_rfl) rfl
theorem sl_104 : SlT Tryz.prog 104 133 4 40 := slT_of (z := (.agg #[sV k_empty, iV 0, iV 0, iV 0])) Tryz.underlying104 Tryz.sizeOf133 (by kernel_rfl) rfl
theorem sl_127 : SlT Tryz.prog 127 29 1 24 := slT_of (z := (.slice none 0 0)) Tryz.underlying127 Tryz.sizeOf29 (by kernel_rfl) rfl
theorem fa_25_0 : FldT Tryz.prog 25 0 0 := ⟨_, _, _, Tryz.underlying25, rfl, Tryz.sizeOf22, rfl, rfl⟩
theorem fa_25_1 : FldT Tryz.prog 25 1 1 := ⟨_, _, _, Tryz.underlying25, rfl, Tryz.sizeOf3, rfl, rfl⟩
theorem fa_27_0 : FldT Tryz.prog 27 0 0 := ⟨_, _, _, Tryz.underlying27, rfl, Tryz.sizeOf22, rfl, rfl⟩
theorem fa_27_1 : FldT Tryz.prog 27 1 1 := ⟨_, _, _, Tryz.underlying27, rfl, Tryz.sizeOf3, rfl, rfl⟩
theorem fa_27_2 : FldT Tryz.prog 27 2 2 := ⟨_, _, _, Tryz.underlying27, rfl, Tryz.sizeOf3, rfl, rfl⟩
theorem fa_43_0 : FldT Tryz.prog 43 0 0 := ⟨_, _, _, Tryz.underlying43, rfl, Tryz.sizeOf3, rfl, rfl⟩
theorem fa_43_1 : FldT Tryz.prog 43 1 1 := ⟨_, _, _, Tryz.underlying43, rfl, Tryz.sizeOf3, rfl, rfl⟩
theorem fa_45_0 : FldT Tryz.prog 45 0 0 := ⟨_, _, _, Tryz.underlying45, rfl, Tryz.sizeOf9, rfl, rfl⟩
theorem fa_45_1 : FldT Tryz.prog 45 1 1 := ⟨_, _, _, Tryz.underlying45, rfl, Tryz.sizeOf43, rfl, rfl⟩
theorem fa_53_0 : FldT Tryz.prog 53 0 0 := ⟨_, _, _, Tryz.underlying53, rfl, Tryz.sizeOf9, rfl, rfl⟩
theorem fa_53_1 : FldT Tryz.prog 53 1 1 := ⟨_, _, _, Tryz.underlying53, rfl, Tryz.sizeOf9, rfl, rfl⟩
theorem fa_53_2 : FldT Tryz.prog 53 2 2 := ⟨_, _, _, Tryz.underlying53, rfl, Tryz.sizeOf9, rfl, rfl⟩
theorem fa_53_3 : FldT Tryz.prog 53 3 3 := ⟨_, _, _, Tryz.underlying53, rfl, Tryz.sizeOf3, rfl, rfl⟩
theorem fa_53_4 : FldT Tryz.prog 53 4 4 := ⟨_, _, _, Tryz.underlying53, rfl, Tryz.sizeOf4, rfl, rfl⟩
theorem fa_73_0 : FldT Tryz.prog 73 0 0 := ⟨_, _, _, Tryz.underlying73, rfl, Tryz.sizeOf3, rfl, rfl⟩
theorem fa_73_1 : FldT Tryz.prog 73 1 1 := ⟨_, _, _, Tryz.underlying73, rfl, Tryz.sizeOf3, rfl, rfl⟩
theorem fa_73_2 : FldT Tryz.prog 73 2 2 := ⟨_, _, _, Tryz.underlying73, rfl, Tryz.sizeOf3, rfl, rfl⟩
theorem fa_76_0 : FldT Tryz.prog 76 0 0 := ⟨_, _, _, Tryz.underlying76, rfl, Tryz.sizeOf9, rfl, rfl⟩
theorem fa_76_1 : FldT Tryz.prog 76 1 1 := ⟨_, _, _, Tryz.underlying76, rfl, Tryz.sizeOf3, rfl, rfl⟩
theorem fa_76_2 : FldT Tryz.prog 76 2 2 := ⟨_, _, _, Tryz.underlying76, rfl, Tryz.sizeOf3, rfl, rfl⟩
theorem fa_76_3 : FldT Tryz.prog 76 3 3 := ⟨_, _, _, Tryz.underlying76, rfl, Tryz.sizeOf3, rfl, rfl⟩
theorem fa_76_4 : FldT Tryz.prog 76 4 4 := ⟨_, _, _, Tryz.underlying76, rfl, Tryz.sizeOf3, rfl, rfl⟩
theorem fa_80_0 : FldT Tryz.prog 80 0 0 := ⟨_, _, _, Tryz.underlying80, rfl, Tryz.sizeOf9, rfl, rfl⟩
theorem fa_80_1 : FldT Tryz.prog 80 1 1 := ⟨_, _, _, Tryz.underlying80, rfl, Tryz.sizeOf3, rfl, rfl⟩
theorem fa_84_0 : FldT Tryz.prog 84 0 0 := ⟨_, _, _, Tryz.underlying84, rfl, Tryz.sizeOf9, rfl, rfl⟩
theorem fa_84_1 : FldT Tryz.prog 84 1 1 := ⟨_, _, _, Tryz.underlying84, rfl, Tryz.sizeOf9, rfl, rfl⟩
theorem fa_84_2 : FldT Tryz.prog 84 2 2 := ⟨_, _, _, Tryz.underlying84, rfl, Tryz.sizeOf37, rfl, rfl⟩
theorem fa_84_3 : FldT Tryz.prog 84 3 3 := ⟨_, _, _, Tryz.underlying84, rfl, Tryz.sizeOf3, rfl, rfl⟩
theorem fa_84_4 : FldT Tryz.prog 84 4 4 := ⟨_, _, _, Tryz.underlying84, rfl, Tryz.sizeOf3, rfl, rfl⟩
theorem fa_87_0 : FldT Tryz.prog 87 0 0 := ⟨_, _, _, Tryz.underlying87, rfl, Tryz.sizeOf3, rfl, rfl⟩
theorem fa_87_1 : FldT Tryz.prog 87 1 1 := ⟨_, _, _, Tryz.underlying87, rfl, Tryz.sizeOf3, rfl, rfl⟩
theorem fa_87_2 : FldT Tryz.prog 87 2 2 := ⟨_, _, _, Tryz.underlying87, rfl, Tryz.sizeOf9, rfl, rfl⟩
theorem fa_87_3 : FldT Tryz.prog 87 3 3 := ⟨_, _, _, Tryz.underlying87, rfl, Tryz.sizeOf9, rfl, rfl⟩
theorem fa_87_4 : FldT Tryz.prog 87 4 4 := ⟨_, _, _, Tryz.underlying87, rfl, Tryz.sizeOf9, rfl, rfl⟩
theorem fa_87_5 : FldT Tryz.prog 87 5 5 := ⟨_, _, _, Tryz.underlying87, rfl, Tryz.sizeOf9, rfl, rfl⟩
theorem fa_87_6 : FldT Tryz.prog 87 6 6 := ⟨_, _, _, Tryz.underlying87, rfl, Tryz.sizeOf3, rfl, rfl⟩
theorem fa_87_7 : FldT Tryz.prog 87 7 7 := ⟨_, _, _, Tryz.underlying87, rfl, Tryz.sizeOf3, rfl, rfl⟩
theorem fa_101_0 : FldT Tryz.prog 101 0 0 := ⟨_, _, _, Tryz.underlying101, rfl, Tryz.sizeOf53, rfl, rfl⟩
theorem fa_101_1 : FldT Tryz.prog 101 1 5 := ⟨_, _, _, Tryz.underlying101, rfl, Tryz.sizeOf43, rfl, rfl⟩
theorem fa_131_1 : FldT Tryz.prog 131 1 1 := ⟨_, _, _, Tryz.underlying131, rfl, Tryz.sizeOf3, rfl, rfl⟩
theorem fa_133_2 : FldT Tryz.prog 133 2 2 := ⟨_, _, _, Tryz.underlying133, rfl, Tryz.sizeOf131, rfl, rfl⟩
theorem eq_87 (dd : Nat) (x y : GStep) (w : World) : (Op.equalIn (dd + 2) 87 (.agg (GStep.enc x).toArray) (.agg (GStep.enc y).toArray)).run Tryz.prog w = .ok (decide (x = y)) w := by
  refine eq_of_fields (dd := dd + 1) (fs := (Tryz.prog.fieldsOf 87).toList) (by kernel_rfl) rfl (by kernel_rfl) (?_ : _ = Result.ok (decide (x.At = y.At) && (decide (x.Kind = y.Kind) && (decide (x.Id = y.Id) && (decide (x.Who = y.Who) && (decide (x.Club = y.Club) && (decide (x.Race = y.Race) && (decide (x.Age = y.Age) && (decide (x.Time = y.Time) && true)))))))) w) (by cases x; cases y; simp [Bool.decide_and])
  simp only [Program.fieldsOf, Tryz.underlying87]
  exact (eqF_cons (by decide) (part_cell Tryz.isAgg3 rfl) (part_cell Tryz.isAgg3 rfl) (eq_cell_int Tryz.underlying3) (eqF_cons (by decide) (part_cell Tryz.isAgg3 rfl) (part_cell Tryz.isAgg3 rfl) (eq_cell_int Tryz.underlying3) (eqF_cons (by decide) (part_cell Tryz.isAgg9 rfl) (part_cell Tryz.isAgg9 rfl) (eq_cell_str Tryz.underlying9) (eqF_cons (by decide) (part_cell Tryz.isAgg9 rfl) (part_cell Tryz.isAgg9 rfl) (eq_cell_str Tryz.underlying9) (eqF_cons (by decide) (part_cell Tryz.isAgg9 rfl) (part_cell Tryz.isAgg9 rfl) (eq_cell_str Tryz.underlying9) (eqF_cons (by decide) (part_cell Tryz.isAgg9 rfl) (part_cell Tryz.isAgg9 rfl) (eq_cell_str Tryz.underlying9) (eqF_cons (by decide) (part_cell Tryz.isAgg3 rfl) (part_cell Tryz.isAgg3 rfl) (eq_cell_int Tryz.underlying3) (eqF_cons (by decide) (part_cell Tryz.isAgg3 rfl) (part_cell Tryz.isAgg3 rfl) (eq_cell_int Tryz.underlying3) eqF_nil))))))))
theorem rn_eql_87 {a : Act} {w : World} {x y : Operand} {u ty : TypeId} {m n : GStep} (hx : a.eval x = .agg (GStep.enc m).toArray) (hy : a.eval y = .agg (GStep.enc n).toArray) : Rn Tryz.prog a w (.binOp .eql 87 x y u) ty (.bool (decide (m = n))) :=
  rn_aeql 2 (by kernel_rfl) (fun w => eq_87 _ m n w) rfl hx hy
theorem rn_neq_87 {a : Act} {w : World} {x y : Operand} {u ty : TypeId} {m n : GStep} (hx : a.eval x = .agg (GStep.enc m).toArray) (hy : a.eval y = .agg (GStep.enc n).toArray) : Rn Tryz.prog a w (.binOp .neq 87 x y u) ty (.bool (!decide (m = n))) :=
  rn_aneq 2 (by kernel_rfl) (fun w => eq_87 _ m n w) rfl hx hy
theorem eq_146 (dd : Nat) (x y : Gpoints_entry) (w : World) : (Op.equalIn (dd + 2) 146 (.agg (Gpoints_entry.enc x).toArray) (.agg (Gpoints_entry.enc y).toArray)).run Tryz.prog w = .ok (decide (x = y)) w := by
  refine eq_of_fields (dd := dd + 1) (fs := (Tryz.prog.fieldsOf 146).toList) (by kernel_rfl) rfl (by kernel_rfl) (?_ : _ = Result.ok (decide (x.race_ = y.race_) && (decide (x.who_ = y.who_) && true)) w) (by cases x; cases y; simp [Bool.decide_and])
  simp only [Program.fieldsOf, Tryz.underlying146]
  exact (eqF_cons (by decide) (part_cell Tryz.isAgg9 rfl) (part_cell Tryz.isAgg9 rfl) (eq_cell_str Tryz.underlying9) (eqF_cons (by decide) (part_cell Tryz.isAgg9 rfl) (part_cell Tryz.isAgg9 rfl) (eq_cell_str Tryz.underlying9) eqF_nil))
theorem rn_eql_146 {a : Act} {w : World} {x y : Operand} {u ty : TypeId} {m n : Gpoints_entry} (hx : a.eval x = .agg (Gpoints_entry.enc m).toArray) (hy : a.eval y = .agg (Gpoints_entry.enc n).toArray) : Rn Tryz.prog a w (.binOp .eql 146 x y u) ty (.bool (decide (m = n))) :=
  rn_aeql 2 (by kernel_rfl) (fun w => eq_146 _ m n w) rfl hx hy
theorem rn_neq_146 {a : Act} {w : World} {x y : Operand} {u ty : TypeId} {m n : Gpoints_entry} (hx : a.eval x = .agg (Gpoints_entry.enc m).toArray) (hy : a.eval y = .agg (Gpoints_entry.enc n).toArray) : Rn Tryz.prog a w (.binOp .neq 146 x y u) ty (.bool (!decide (m = n))) :=
  rn_aneq 2 (by kernel_rfl) (fun w => eq_146 _ m n w) rfl hx hy
theorem keyT_146 : KeyT Tryz.prog 146 (fun x => Value.agg (Gpoints_entry.enc x).toArray) :=
  keyT_agg 2 rfl Tryz.underlying146 (fun em x w => chk_agg Tryz.underlying146 (by
    intro f hf _
    simp only [List.mem_cons, List.not_mem_nil, or_false] at hf
    rcases hf with rfl | rfl
    · exact ⟨_, fun w => part_cell Tryz.isAgg9 rfl, fun w => chk_str Tryz.underlying9⟩
    · exact ⟨_, fun w => part_cell Tryz.isAgg9 rfl, fun w => chk_str Tryz.underlying9⟩)) eq_146 (fun x => by simp [Instr.sameBits, Gpoints_entry.enc, beq_selfB])
theorem bt_25 : BldT Tryz.prog 25 (.agg #[.slice none 0 0, iV 0]) [(0, 1), (1, 1)] := ⟨_, Tryz.underlying25, Tryz.zeroValue25, fun _ => by kernel_rfl⟩
theorem bt_27 : BldT Tryz.prog 27 (.agg #[.slice none 0 0, iV 0, iV 0]) [(0, 1), (1, 1), (2, 1)] := ⟨_, Tryz.underlying27, Tryz.zeroValue27, fun _ => by kernel_rfl⟩
theorem bt_43 : BldT Tryz.prog 43 (.agg #[iV 0, iV 0]) [(0, 1), (1, 1)] := ⟨_, Tryz.underlying43, Tryz.zeroValue43, fun _ => by kernel_rfl⟩
theorem bt_45 : BldT Tryz.prog 45 (.agg #[sV k_empty, iV 0, iV 0]) [(0, 1), (1, 2)] := ⟨_, Tryz.underlying45, Tryz.zeroValue45, fun _ => by kernel_rfl⟩
theorem bt_53 : BldT Tryz.prog 53 (.agg #[sV k_empty, sV k_empty, sV k_empty, iV 0, bV false]) [(0, 1), (1, 1), (2, 1), (3, 1), (4, 1)] := ⟨_, Tryz.underlying53, Tryz.zeroValue53, fun _ => by kernel_rfl⟩
theorem bt_73 : BldT Tryz.prog 73 (.agg #[iV 0, iV 0, iV 0]) [(0, 1), (1, 1), (2, 1)] := ⟨_, Tryz.underlying73, Tryz.zeroValue73, fun _ => by kernel_rfl⟩
theorem bt_76 : BldT Tryz.prog 76 (.agg #[sV k_empty, iV 0, iV 0, iV 0, iV 0]) [(0, 1), (1, 1), (2, 1), (3, 1), (4, 1)] := ⟨_, Tryz.underlying76, Tryz.zeroValue76, fun _ => by kernel_rfl⟩
theorem bt_80 : BldT Tryz.prog 80 (.agg #[sV k_empty, iV 0]) [(0, 1), (1, 1)] := ⟨_, Tryz.underlying80, Tryz.zeroValue80, fun _ => by kernel_rfl⟩
theorem bt_84 : BldT Tryz.prog 84 (.agg #[sV k_empty, sV k_empty, .slice none 0 0, iV 0, iV 0]) [(0, 1), (1, 1), (2, 1), (3, 1), (4, 1)] := ⟨_, Tryz.underlying84, Tryz.zeroValue84, fun _ => by kernel_rfl⟩
theorem bt_87 : BldT Tryz.prog 87 (.agg #[iV 0, iV 0, sV k_empty, sV k_empty, sV k_empty, sV k_empty, iV 0, iV 0]) [(0, 1), (1, 1), (2, 1), (3, 1), (4, 1), (5, 1), (6, 1), (7, 1)] := ⟨_, Tryz.underlying87, Tryz.zeroValue87, fun _ => by kernel_rfl⟩
theorem bt_101 : BldT Tryz.prog 101 (.agg #[sV k_empty, sV k_empty, sV k_empty, iV 0, bV false, iV 0, iV 0]) [(0, 5), (5, 2)] := ⟨_, Tryz.underlying101, Tryz.zeroValue101, fun _ => by kernel_rfl⟩
theorem bt_131 : BldT Tryz.prog 131 (.agg #[iV 0, iV 0]) [(0, 1), (1, 1)] := ⟨_, Tryz.underlying131, Tryz.zeroValue131, fun _ => by kernel_rfl⟩
theorem bt_133 : BldT Tryz.prog 133 (.agg #[sV k_empty, iV 0, iV 0, iV 0]) [(0, 1), (1, 1), (2, 2)] := ⟨_, Tryz.underlying133, Tryz.zeroValue133, fun _ => by kernel_rfl⟩
theorem bt_146 : BldT Tryz.prog 146 (.agg #[sV k_empty, sV k_empty]) [(0, 1), (1, 1)] := ⟨_, Tryz.underlying146, Tryz.zeroValue146, fun _ => by kernel_rfl⟩
end Go.Proofs.YteppmbaanjlmmaaGreatDoor
