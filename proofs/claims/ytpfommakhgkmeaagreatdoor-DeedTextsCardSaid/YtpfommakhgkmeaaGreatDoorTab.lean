/- The program's tables, by program. -/
import Derived.Test.YtpfommakhgkmeaaGreatDoorTw
import Derived.Test.YtpfommakhgkmeaaGreatDoorArena
import Derived.Test.YtpfommakhgkmeaaGreatDoorProg
namespace Go.Proofs.YtpfommakhgkmeaaGreatDoor
open Go
def GDeed.enc (x : GDeed) : List Value := [sV x.Site, iV x.No, iV x.At, iV x.Kind, sV x.Who, sV x.Club, sV x.Race, iV x.Time, iV x.Fault, sV x.Of, iV x.Other]
theorem GDeed.enc_ok : Enc 11 GDeed.enc := ⟨fun _ => rfl, fun _ u h => by simp [GDeed.enc] at h; rcases h with rfl | rfl | rfl | rfl | rfl | rfl | rfl | rfl | rfl | rfl | rfl <;> rfl⟩
def Gmeet_place.enc (x : Gmeet_place) : List Value := [sV x.site_, iV x.no_]
theorem Gmeet_place.enc_ok : Enc 2 Gmeet_place.enc := ⟨fun _ => rfl, fun _ u h => by simp [Gmeet_place.enc] at h; rcases h with rfl | rfl <;> rfl⟩
def GRace.enc (x : GRace) : List Value := [sV x.Key, iV x.Metres, iV x.Stroke, iV x.Course, iV x.Legs, iV x.Sex, iV x.Young, iV x.Old]
theorem GRace.enc_ok : Enc 8 GRace.enc := ⟨fun _ => rfl, fun _ u h => by simp [GRace.enc] at h; rcases h with rfl | rfl | rfl | rfl | rfl | rfl | rfl | rfl <;> rfl⟩
def GFinal.enc (x : GFinal) : List Value := [iV x.Size, iV x.Many, iV x.Reserves]
theorem GFinal.enc_ok : Enc 3 GFinal.enc := ⟨fun _ => rfl, fun _ u h => by simp [GFinal.enc] at h; rcases h with rfl | rfl | rfl <;> rfl⟩
def GSeed.enc (x : GSeed) : List Value := [sV x.Who, iV x.Time]
theorem GSeed.enc_ok : Enc 2 GSeed.enc := ⟨fun _ => rfl, fun _ u h => by simp [GSeed.enc] at h; rcases h with rfl | rfl <;> rfl⟩
structure R83 where
  mk ::
  (Points : RS)
  (Relay : Int)
  (Most : Int)
def R83.enc (x : R83) : List Value := [x.Points.val, iV x.Relay, iV x.Most]
theorem R83.enc_ok : Enc 3 R83.enc := ⟨fun _ => rfl, fun x u h => by
    simp only [R83.enc, List.mem_cons, List.not_mem_nil, or_false] at h
    rcases h with rfl | rfl | rfl
    · exact x.Points.property
    · exact rfl
    · exact rfl⟩
def rel_83 (φ : View) (x : GTable) (r : R83) : Prop := ∃ u1 : RS, r = ⟨u1, x.Relay, x.Most⟩ ∧ Slc φ 1 u1.val (x.Points.map eInt)
theorem rel_83_mono {φ ψ : View} (l : View.le φ ψ) (x : GTable) (r : R83) (h : rel_83 φ x r) : rel_83 ψ x r := by
  obtain ⟨u1, e, h1⟩ := h
  exact ⟨u1, e, h1.mono l⟩
theorem rels_83 {φ ψ : View} (l : View.le φ ψ) {xs : List GTable} {rs : List R83} (h : All2 (rel_83 φ) xs rs) : All2 (rel_83 ψ) xs rs := h.chg (rel_83_mono l)
structure R87 where
  mk ::
  (Races : RS)
  (Table : R83)
  (Final : GFinal)
def R87.enc (x : R87) : List Value := [x.Races.val] ++ R83.enc x.Table ++ [iV x.Final.Size, iV x.Final.Many, iV x.Final.Reserves]
theorem R87.enc_ok : Enc 7 R87.enc := ⟨fun x => by simp [R87.enc, R83.enc_ok.len], fun x u h => by
    simp only [R87.enc, List.mem_append, List.mem_cons, List.not_mem_nil, or_false] at h
    first
    | (rcases h with (h | h) | h
       · rcases h with rfl
         · exact x.Races.property
       · exact R83.enc_ok.one _ u h
       · rcases h with rfl | rfl | rfl
         · exact rfl
         · exact rfl
         · exact rfl)⟩
def rel_87 (φ : View) (x : GPlan) (r : R87) : Prop := ∃ u1 : RS, ∃ u2 : R83, r = ⟨u1, u2, x.Final⟩ ∧ Slc φ 8 u1.val (x.Races.map GRace.enc) ∧ rel_83 φ x.Table u2
theorem rel_87_mono {φ ψ : View} (l : View.le φ ψ) (x : GPlan) (r : R87) (h : rel_87 φ x r) : rel_87 ψ x r := by
  obtain ⟨u1, u2, e, h1, h2⟩ := h
  exact ⟨u1, u2, e, h1.mono l, rel_83_mono l _ _ h2⟩
theorem rels_87 {φ ψ : View} (l : View.le φ ψ) {xs : List GPlan} {rs : List R87} (h : All2 (rel_87 φ) xs rs) : All2 (rel_87 ψ) xs rs := h.chg (rel_87_mono l)
structure R148 where
  mk ::
  (p_ : R87)
  (deeds_ : RS)
def R148.enc (x : R148) : List Value := R87.enc x.p_ ++ [x.deeds_.val]
theorem R148.enc_ok : Enc 8 R148.enc := ⟨fun x => by simp [R148.enc, R87.enc_ok.len], fun x u h => by
    simp only [R148.enc, List.mem_append, List.mem_cons, List.not_mem_nil, or_false] at h
    first
    | (rcases h with h | h
       · exact R87.enc_ok.one _ u h
       · rcases h with rfl
         · exact x.deeds_.property)⟩
def rel_148 (φ : View) (x : Gmeet_state) (r : R148) : Prop := ∃ u1 : R87, ∃ u2 : RS, r = ⟨u1, u2⟩ ∧ rel_87 φ x.p_ u1 ∧ Slc φ 11 u2.val (x.deeds_.map GDeed.enc)
theorem rel_148_mono {φ ψ : View} (l : View.le φ ψ) (x : Gmeet_state) (r : R148) (h : rel_148 φ x r) : rel_148 ψ x r := by
  obtain ⟨u1, u2, e, h1, h2⟩ := h
  exact ⟨u1, u2, e, rel_87_mono l _ _ h1, h2.mono l⟩
theorem rels_148 {φ ψ : View} (l : View.le φ ψ) {xs : List Gmeet_state} {rs : List R148} (h : All2 (rel_148 φ) xs rs) : All2 (rel_148 ψ) xs rs := h.chg (rel_148_mono l)
theorem Tryz.mixed : Tryz.prog.follows .mixedOrders = true := by kernel_rfl
theorem sl_22 : SlT Tryz.prog 22 3 1 8 := slT_of (z := (iV 0)) Tryz.underlying22 Tryz.sizeOf3 (by kernel_rfl) rfl
theorem sl_26 : SlT Tryz.prog 26 39 11 128 := slT_of (z := (.agg #[sV k_empty, iV 0, iV 0, iV 0, sV k_empty, sV k_empty, sV k_empty, iV 0, iV 0, sV k_empty, iV 0])) Tryz.underlying26 Tryz.sizeOf39 (by kernel_rfl) rfl
theorem sl_55 : SlT Tryz.prog 55 9 1 16 := slT_of (z := (sV k_empty)) Tryz.underlying55 Tryz.sizeOf9 (by kernel_rfl) rfl
theorem sl_81 : SlT Tryz.prog 81 80 8 72 := slT_of (z := (.agg #[sV k_empty, iV 0, iV 0, iV 0, iV 0, iV 0, iV 0, iV 0])) Tryz.underlying81 Tryz.sizeOf80 (by kernel_rfl) rfl
theorem sl_88 : SlT Tryz.prog 88 92 2 24 := slT_of (z := (.agg #[sV k_empty, iV 0])) Tryz.underlying88 Tryz.sizeOf92 (by kernel_rfl) rfl
theorem fa_25_0 : FldT Tryz.prog 25 0 0 := ⟨_, _, _, Tryz.underlying25, rfl, Tryz.sizeOf22, rfl, rfl⟩
theorem fa_25_1 : FldT Tryz.prog 25 1 1 := ⟨_, _, _, Tryz.underlying25, rfl, Tryz.sizeOf3, rfl, rfl⟩
theorem fa_39_0 : FldT Tryz.prog 39 0 0 := ⟨_, _, _, Tryz.underlying39, rfl, Tryz.sizeOf9, rfl, rfl⟩
theorem fa_39_1 : FldT Tryz.prog 39 1 1 := ⟨_, _, _, Tryz.underlying39, rfl, Tryz.sizeOf3, rfl, rfl⟩
theorem fa_39_2 : FldT Tryz.prog 39 2 2 := ⟨_, _, _, Tryz.underlying39, rfl, Tryz.sizeOf3, rfl, rfl⟩
theorem fa_39_3 : FldT Tryz.prog 39 3 3 := ⟨_, _, _, Tryz.underlying39, rfl, Tryz.sizeOf3, rfl, rfl⟩
theorem fa_39_4 : FldT Tryz.prog 39 4 4 := ⟨_, _, _, Tryz.underlying39, rfl, Tryz.sizeOf9, rfl, rfl⟩
theorem fa_39_5 : FldT Tryz.prog 39 5 5 := ⟨_, _, _, Tryz.underlying39, rfl, Tryz.sizeOf9, rfl, rfl⟩
theorem fa_39_6 : FldT Tryz.prog 39 6 6 := ⟨_, _, _, Tryz.underlying39, rfl, Tryz.sizeOf9, rfl, rfl⟩
theorem fa_39_7 : FldT Tryz.prog 39 7 7 := ⟨_, _, _, Tryz.underlying39, rfl, Tryz.sizeOf3, rfl, rfl⟩
theorem fa_39_8 : FldT Tryz.prog 39 8 8 := ⟨_, _, _, Tryz.underlying39, rfl, Tryz.sizeOf3, rfl, rfl⟩
theorem fa_39_9 : FldT Tryz.prog 39 9 9 := ⟨_, _, _, Tryz.underlying39, rfl, Tryz.sizeOf9, rfl, rfl⟩
theorem fa_39_10 : FldT Tryz.prog 39 10 10 := ⟨_, _, _, Tryz.underlying39, rfl, Tryz.sizeOf3, rfl, rfl⟩
theorem fa_80_0 : FldT Tryz.prog 80 0 0 := ⟨_, _, _, Tryz.underlying80, rfl, Tryz.sizeOf9, rfl, rfl⟩
theorem fa_80_1 : FldT Tryz.prog 80 1 1 := ⟨_, _, _, Tryz.underlying80, rfl, Tryz.sizeOf3, rfl, rfl⟩
theorem fa_80_2 : FldT Tryz.prog 80 2 2 := ⟨_, _, _, Tryz.underlying80, rfl, Tryz.sizeOf3, rfl, rfl⟩
theorem fa_80_3 : FldT Tryz.prog 80 3 3 := ⟨_, _, _, Tryz.underlying80, rfl, Tryz.sizeOf3, rfl, rfl⟩
theorem fa_80_4 : FldT Tryz.prog 80 4 4 := ⟨_, _, _, Tryz.underlying80, rfl, Tryz.sizeOf3, rfl, rfl⟩
theorem fa_80_5 : FldT Tryz.prog 80 5 5 := ⟨_, _, _, Tryz.underlying80, rfl, Tryz.sizeOf3, rfl, rfl⟩
theorem fa_80_6 : FldT Tryz.prog 80 6 6 := ⟨_, _, _, Tryz.underlying80, rfl, Tryz.sizeOf3, rfl, rfl⟩
theorem fa_80_7 : FldT Tryz.prog 80 7 7 := ⟨_, _, _, Tryz.underlying80, rfl, Tryz.sizeOf3, rfl, rfl⟩
theorem fa_83_0 : FldT Tryz.prog 83 0 0 := ⟨_, _, _, Tryz.underlying83, rfl, Tryz.sizeOf22, rfl, rfl⟩
theorem fa_83_1 : FldT Tryz.prog 83 1 1 := ⟨_, _, _, Tryz.underlying83, rfl, Tryz.sizeOf3, rfl, rfl⟩
theorem fa_83_2 : FldT Tryz.prog 83 2 2 := ⟨_, _, _, Tryz.underlying83, rfl, Tryz.sizeOf3, rfl, rfl⟩
theorem fa_85_0 : FldT Tryz.prog 85 0 0 := ⟨_, _, _, Tryz.underlying85, rfl, Tryz.sizeOf3, rfl, rfl⟩
theorem fa_85_1 : FldT Tryz.prog 85 1 1 := ⟨_, _, _, Tryz.underlying85, rfl, Tryz.sizeOf3, rfl, rfl⟩
theorem fa_85_2 : FldT Tryz.prog 85 2 2 := ⟨_, _, _, Tryz.underlying85, rfl, Tryz.sizeOf3, rfl, rfl⟩
theorem fa_87_0 : FldT Tryz.prog 87 0 0 := ⟨_, _, _, Tryz.underlying87, rfl, Tryz.sizeOf81, rfl, rfl⟩
theorem fa_87_1 : FldT Tryz.prog 87 1 1 := ⟨_, _, _, Tryz.underlying87, rfl, Tryz.sizeOf83, rfl, rfl⟩
theorem fa_87_2 : FldT Tryz.prog 87 2 4 := ⟨_, _, _, Tryz.underlying87, rfl, Tryz.sizeOf85, rfl, rfl⟩
theorem fa_92_1 : FldT Tryz.prog 92 1 1 := ⟨_, _, _, Tryz.underlying92, rfl, Tryz.sizeOf3, rfl, rfl⟩
theorem fa_148_0 : FldT Tryz.prog 148 0 0 := ⟨_, _, _, Tryz.underlying148, rfl, Tryz.sizeOf87, rfl, rfl⟩
theorem fa_148_1 : FldT Tryz.prog 148 1 7 := ⟨_, _, _, Tryz.underlying148, rfl, Tryz.sizeOf26, rfl, rfl⟩
theorem eq_39 (dd : Nat) (x y : GDeed) (w : World) : (Op.equalIn (dd + 2) 39 (.agg (GDeed.enc x).toArray) (.agg (GDeed.enc y).toArray)).run Tryz.prog w = .ok (decide (x = y)) w := by
  refine eq_of_fields (dd := dd + 1) (fs := (Tryz.prog.fieldsOf 39).toList) (by kernel_rfl) rfl (by kernel_rfl) (?_ : _ = Result.ok (decide (x.Site = y.Site) && (decide (x.No = y.No) && (decide (x.At = y.At) && (decide (x.Kind = y.Kind) && (decide (x.Who = y.Who) && (decide (x.Club = y.Club) && (decide (x.Race = y.Race) && (decide (x.Time = y.Time) && (decide (x.Fault = y.Fault) && (decide (x.Of = y.Of) && (decide (x.Other = y.Other) && true))))))))))) w) (by cases x; cases y; simp [Bool.decide_and])
  simp only [Program.fieldsOf, Tryz.underlying39]
  exact (eqF_cons (by decide) (part_cell Tryz.isAgg9 rfl) (part_cell Tryz.isAgg9 rfl) (eq_cell_str Tryz.underlying9) (eqF_cons (by decide) (part_cell Tryz.isAgg3 rfl) (part_cell Tryz.isAgg3 rfl) (eq_cell_int Tryz.underlying3) (eqF_cons (by decide) (part_cell Tryz.isAgg3 rfl) (part_cell Tryz.isAgg3 rfl) (eq_cell_int Tryz.underlying3) (eqF_cons (by decide) (part_cell Tryz.isAgg3 rfl) (part_cell Tryz.isAgg3 rfl) (eq_cell_int Tryz.underlying3) (eqF_cons (by decide) (part_cell Tryz.isAgg9 rfl) (part_cell Tryz.isAgg9 rfl) (eq_cell_str Tryz.underlying9) (eqF_cons (by decide) (part_cell Tryz.isAgg9 rfl) (part_cell Tryz.isAgg9 rfl) (eq_cell_str Tryz.underlying9) (eqF_cons (by decide) (part_cell Tryz.isAgg9 rfl) (part_cell Tryz.isAgg9 rfl) (eq_cell_str Tryz.underlying9) (eqF_cons (by decide) (part_cell Tryz.isAgg3 rfl) (part_cell Tryz.isAgg3 rfl) (eq_cell_int Tryz.underlying3) (eqF_cons (by decide) (part_cell Tryz.isAgg3 rfl) (part_cell Tryz.isAgg3 rfl) (eq_cell_int Tryz.underlying3) (eqF_cons (by decide) (part_cell Tryz.isAgg9 rfl) (part_cell Tryz.isAgg9 rfl) (eq_cell_str Tryz.underlying9) (eqF_cons (by decide) (part_cell Tryz.isAgg3 rfl) (part_cell Tryz.isAgg3 rfl) (eq_cell_int Tryz.underlying3) eqF_nil)))))))))))
theorem rn_eql_39 {a : Act} {w : World} {x y : Operand} {u ty : TypeId} {m n : GDeed} (hx : a.eval x = .agg (GDeed.enc m).toArray) (hy : a.eval y = .agg (GDeed.enc n).toArray) : Rn Tryz.prog a w (.binOp .eql 39 x y u) ty (.bool (decide (m = n))) :=
  rn_aeql 2 (by kernel_rfl) (fun w => eq_39 _ m n w) rfl hx hy
theorem rn_neq_39 {a : Act} {w : World} {x y : Operand} {u ty : TypeId} {m n : GDeed} (hx : a.eval x = .agg (GDeed.enc m).toArray) (hy : a.eval y = .agg (GDeed.enc n).toArray) : Rn Tryz.prog a w (.binOp .neq 39 x y u) ty (.bool (!decide (m = n))) :=
  rn_aneq 2 (by kernel_rfl) (fun w => eq_39 _ m n w) rfl hx hy
theorem eq_97 (dd : Nat) (x y : Gmeet_place) (w : World) : (Op.equalIn (dd + 2) 97 (.agg (Gmeet_place.enc x).toArray) (.agg (Gmeet_place.enc y).toArray)).run Tryz.prog w = .ok (decide (x = y)) w := by
  refine eq_of_fields (dd := dd + 1) (fs := (Tryz.prog.fieldsOf 97).toList) (by kernel_rfl) rfl (by kernel_rfl) (?_ : _ = Result.ok (decide (x.site_ = y.site_) && (decide (x.no_ = y.no_) && true)) w) (by cases x; cases y; simp [Bool.decide_and])
  simp only [Program.fieldsOf, Tryz.underlying97]
  exact (eqF_cons (by decide) (part_cell Tryz.isAgg9 rfl) (part_cell Tryz.isAgg9 rfl) (eq_cell_str Tryz.underlying9) (eqF_cons (by decide) (part_cell Tryz.isAgg3 rfl) (part_cell Tryz.isAgg3 rfl) (eq_cell_int Tryz.underlying3) eqF_nil))
theorem rn_eql_97 {a : Act} {w : World} {x y : Operand} {u ty : TypeId} {m n : Gmeet_place} (hx : a.eval x = .agg (Gmeet_place.enc m).toArray) (hy : a.eval y = .agg (Gmeet_place.enc n).toArray) : Rn Tryz.prog a w (.binOp .eql 97 x y u) ty (.bool (decide (m = n))) :=
  rn_aeql 2 (by kernel_rfl) (fun w => eq_97 _ m n w) rfl hx hy
theorem rn_neq_97 {a : Act} {w : World} {x y : Operand} {u ty : TypeId} {m n : Gmeet_place} (hx : a.eval x = .agg (Gmeet_place.enc m).toArray) (hy : a.eval y = .agg (Gmeet_place.enc n).toArray) : Rn Tryz.prog a w (.binOp .neq 97 x y u) ty (.bool (!decide (m = n))) :=
  rn_aneq 2 (by kernel_rfl) (fun w => eq_97 _ m n w) rfl hx hy
theorem keyT_97 : KeyT Tryz.prog 97 (fun x => Value.agg (Gmeet_place.enc x).toArray) :=
  keyT_agg 2 rfl Tryz.underlying97 (fun em x w => chk_agg Tryz.underlying97 (by
    intro f hf _
    simp only [List.mem_cons, List.not_mem_nil, or_false] at hf
    rcases hf with rfl | rfl
    · exact ⟨_, fun w => part_cell Tryz.isAgg9 rfl, fun w => chk_str Tryz.underlying9⟩
    · exact ⟨_, fun w => part_cell Tryz.isAgg3 rfl, fun w => chk_int Tryz.underlying3⟩)) eq_97 (fun x => by simp [Instr.sameBits, Gmeet_place.enc, beq_selfB])
theorem bt_25 : BldT Tryz.prog 25 (.agg #[.slice none 0 0, iV 0]) [(0, 1), (1, 1)] := ⟨_, Tryz.underlying25, Tryz.zeroValue25, fun _ => by kernel_rfl⟩
theorem bt_39 : BldT Tryz.prog 39 (.agg #[sV k_empty, iV 0, iV 0, iV 0, sV k_empty, sV k_empty, sV k_empty, iV 0, iV 0, sV k_empty, iV 0]) [(0, 1), (1, 1), (2, 1), (3, 1), (4, 1), (5, 1), (6, 1), (7, 1), (8, 1), (9, 1), (10, 1)] := ⟨_, Tryz.underlying39, Tryz.zeroValue39, fun _ => by kernel_rfl⟩
theorem bt_80 : BldT Tryz.prog 80 (.agg #[sV k_empty, iV 0, iV 0, iV 0, iV 0, iV 0, iV 0, iV 0]) [(0, 1), (1, 1), (2, 1), (3, 1), (4, 1), (5, 1), (6, 1), (7, 1)] := ⟨_, Tryz.underlying80, Tryz.zeroValue80, fun _ => by kernel_rfl⟩
theorem bt_83 : BldT Tryz.prog 83 (.agg #[.slice none 0 0, iV 0, iV 0]) [(0, 1), (1, 1), (2, 1)] := ⟨_, Tryz.underlying83, Tryz.zeroValue83, fun _ => by kernel_rfl⟩
theorem bt_85 : BldT Tryz.prog 85 (.agg #[iV 0, iV 0, iV 0]) [(0, 1), (1, 1), (2, 1)] := ⟨_, Tryz.underlying85, Tryz.zeroValue85, fun _ => by kernel_rfl⟩
theorem bt_87 : BldT Tryz.prog 87 (.agg #[.slice none 0 0, .slice none 0 0, iV 0, iV 0, iV 0, iV 0, iV 0]) [(0, 1), (1, 3), (4, 3)] := ⟨_, Tryz.underlying87, Tryz.zeroValue87, fun _ => by kernel_rfl⟩
theorem bt_92 : BldT Tryz.prog 92 (.agg #[sV k_empty, iV 0]) [(0, 1), (1, 1)] := ⟨_, Tryz.underlying92, Tryz.zeroValue92, fun _ => by kernel_rfl⟩
theorem bt_97 : BldT Tryz.prog 97 (.agg #[sV k_empty, iV 0]) [(0, 1), (1, 1)] := ⟨_, Tryz.underlying97, Tryz.zeroValue97, fun _ => by kernel_rfl⟩
theorem bt_148 : BldT Tryz.prog 148 (.agg #[.slice none 0 0, .slice none 0 0, iV 0, iV 0, iV 0, iV 0, iV 0, .slice none 0 0]) [(0, 7), (7, 1)] := ⟨_, Tryz.underlying148, Tryz.zeroValue148, fun _ => by kernel_rfl⟩
end Go.Proofs.YtpfommakhgkmeaaGreatDoor
