/- The program's tables, by program. -/
import Derived.Test.YtmngaaffadcccaaGreatDoorTw
import Derived.Test.YtmngaaffadcccaaGreatDoorArena
import Derived.Test.YtmngaaffadcccaaGreatDoorProg
namespace Go.Proofs.YtmngaaffadcccaaGreatDoor
open Go
def GRace.enc (x : GRace) : List Value := [sV x.Key, iV x.Metres, iV x.Stroke, iV x.Course, iV x.Legs, iV x.Sex, iV x.Young, iV x.Old]
theorem GRace.enc_ok : Enc 8 GRace.enc := ⟨fun _ => rfl, fun _ u h => by simp [GRace.enc] at h; rcases h with rfl | rfl | rfl | rfl | rfl | rfl | rfl | rfl <;> rfl⟩
def GSwimmer.enc (x : GSwimmer) : List Value := [sV x.Key, iV x.Sex, iV x.Born]
theorem GSwimmer.enc_ok : Enc 3 GSwimmer.enc := ⟨fun _ => rfl, fun _ u h => by simp [GSwimmer.enc] at h; rcases h with rfl | rfl | rfl <;> rfl⟩
def GMove.enc (x : GMove) : List Value := [sV x.Who, sV x.Club, iV x.Day]
theorem GMove.enc_ok : Enc 3 GMove.enc := ⟨fun _ => rfl, fun _ u h => by simp [GMove.enc] at h; rcases h with rfl | rfl | rfl <;> rfl⟩
def GBounds.enc (x : GBounds) : List Value := [iV x.Races, iV x.Club, iV x.Age, iV x.Day]
theorem GBounds.enc_ok : Enc 4 GBounds.enc := ⟨fun _ => rfl, fun _ u h => by simp [GBounds.enc] at h; rcases h with rfl | rfl | rfl | rfl <;> rfl⟩
def GDate.enc (x : GDate) : List Value := [iV x.Year, iV x.Month, iV x.Day]
theorem GDate.enc_ok : Enc 3 GDate.enc := ⟨fun _ => rfl, fun _ u h => by simp [GDate.enc] at h; rcases h with rfl | rfl | rfl <;> rfl⟩
structure R37 where
  mk ::
  (Key : ByteArray)
  (Club : ByteArray)
  (Race : ByteArray)
  (Who : RS)
def R37.enc (x : R37) : List Value := [sV x.Key, sV x.Club, sV x.Race, x.Who.val]
theorem R37.enc_ok : Enc 4 R37.enc := ⟨fun _ => rfl, fun x u h => by
    simp only [R37.enc, List.mem_cons, List.not_mem_nil, or_false] at h
    rcases h with rfl | rfl | rfl | rfl
    · exact rfl
    · exact rfl
    · exact rfl
    · exact x.Who.property⟩
def rel_37 (φ : View) (x : GSquad) (r : R37) : Prop := ∃ u1 : RS, r = ⟨x.Key, x.Club, x.Race, u1⟩ ∧ Slc φ 1 u1.val (x.Who.map eStr)
theorem rel_37_mono {φ ψ : View} (l : View.le φ ψ) (x : GSquad) (r : R37) (h : rel_37 φ x r) : rel_37 ψ x r := by
  obtain ⟨u1, e, h1⟩ := h
  exact ⟨u1, e, h1.mono l⟩
theorem rels_37 {φ ψ : View} (l : View.le φ ψ) {xs : List GSquad} {rs : List R37} (h : All2 (rel_37 φ) xs rs) : All2 (rel_37 ψ) xs rs := h.chg (rel_37_mono l)
structure R91 where
  mk ::
  (Who : ByteArray)
  (Times : RS)
def R91.enc (x : R91) : List Value := [sV x.Who, x.Times.val]
theorem R91.enc_ok : Enc 2 R91.enc := ⟨fun _ => rfl, fun x u h => by
    simp only [R91.enc, List.mem_cons, List.not_mem_nil, or_false] at h
    rcases h with rfl | rfl
    · exact rfl
    · exact x.Times.property⟩
def rel_91 (φ : View) (x : GLeg) (r : R91) : Prop := ∃ u1 : RS, r = ⟨x.Who, u1⟩ ∧ Slc φ 1 u1.val (x.Times.map eInt)
theorem rel_91_mono {φ ψ : View} (l : View.le φ ψ) (x : GLeg) (r : R91) (h : rel_91 φ x r) : rel_91 ψ x r := by
  obtain ⟨u1, e, h1⟩ := h
  exact ⟨u1, e, h1.mono l⟩
theorem rels_91 {φ ψ : View} (l : View.le φ ψ) {xs : List GLeg} {rs : List R91} (h : All2 (rel_91 φ) xs rs) : All2 (rel_91 ψ) xs rs := h.chg (rel_91_mono l)
theorem Tryz.mixed : Tryz.prog.follows .mixedOrders = true := by kernel_rfl
theorem sl_22 : SlT Tryz.prog 22 3 1 8 := slT_of (z := (iV 0)) Tryz.underlying22 Tryz.sizeOf3 (by kernel_rfl) rfl
theorem sl_26 : SlT Tryz.prog 26 42 8 72 := slT_of (z := (.agg #[sV k_empty, iV 0, iV 0, iV 0, iV 0, iV 0, iV 0, iV 0])) Tryz.underlying26 Tryz.sizeOf42 (by kernel_rfl) rfl
theorem sl_28 : SlT Tryz.prog 28 71 3 32 := slT_of (z := (.agg #[sV k_empty, iV 0, iV 0])) Tryz.underlying28 Tryz.sizeOf71 (by kernel_rfl) rfl
theorem sl_30 : SlT Tryz.prog 30 74 3 40 := slT_of (z := (.agg #[sV k_empty, sV k_empty, iV 0])) Tryz.underlying30 Tryz.sizeOf74 (by kernel_rfl) rfl
theorem sl_35 : SlT Tryz.prog 35 9 1 16 := slT_of (z := (sV k_empty)) Tryz.underlying35 Tryz.sizeOf9 (by kernel_rfl) rfl
theorem sl_52 : SlT Tryz.prog 52 37 4 72 := slT_of (z := (.agg #[sV k_empty, sV k_empty, sV k_empty, .slice none 0 0])) Tryz.underlying52 Tryz.sizeOf37 (by kernel_rfl) rfl
theorem sl_54 : SlT Tryz.prog 54 91 2 40 := slT_of (z := (.agg #[sV k_empty, .slice none 0 0])) Tryz.underlying54 Tryz.sizeOf91 (by kernel_rfl) rfl
theorem sl_84 : SlT Tryz.prog 84 43 1 8 := slT_of (z := (iV 0)) Tryz.underlying84 Tryz.sizeOf43 (by kernel_rfl) rfl
theorem fa_25_0 : FldT Tryz.prog 25 0 0 := ⟨_, _, _, Tryz.underlying25, rfl, Tryz.sizeOf22, rfl, rfl⟩
theorem fa_25_1 : FldT Tryz.prog 25 1 1 := ⟨_, _, _, Tryz.underlying25, rfl, Tryz.sizeOf3, rfl, rfl⟩
theorem fa_33_0 : FldT Tryz.prog 33 0 0 := ⟨_, _, _, Tryz.underlying33, rfl, Tryz.sizeOf3, rfl, rfl⟩
theorem fa_33_1 : FldT Tryz.prog 33 1 1 := ⟨_, _, _, Tryz.underlying33, rfl, Tryz.sizeOf3, rfl, rfl⟩
theorem fa_33_2 : FldT Tryz.prog 33 2 2 := ⟨_, _, _, Tryz.underlying33, rfl, Tryz.sizeOf3, rfl, rfl⟩
theorem fa_33_3 : FldT Tryz.prog 33 3 3 := ⟨_, _, _, Tryz.underlying33, rfl, Tryz.sizeOf3, rfl, rfl⟩
theorem fa_37_0 : FldT Tryz.prog 37 0 0 := ⟨_, _, _, Tryz.underlying37, rfl, Tryz.sizeOf9, rfl, rfl⟩
theorem fa_37_1 : FldT Tryz.prog 37 1 1 := ⟨_, _, _, Tryz.underlying37, rfl, Tryz.sizeOf9, rfl, rfl⟩
theorem fa_37_2 : FldT Tryz.prog 37 2 2 := ⟨_, _, _, Tryz.underlying37, rfl, Tryz.sizeOf9, rfl, rfl⟩
theorem fa_37_3 : FldT Tryz.prog 37 3 3 := ⟨_, _, _, Tryz.underlying37, rfl, Tryz.sizeOf35, rfl, rfl⟩
theorem fa_42_0 : FldT Tryz.prog 42 0 0 := ⟨_, _, _, Tryz.underlying42, rfl, Tryz.sizeOf9, rfl, rfl⟩
theorem fa_42_1 : FldT Tryz.prog 42 1 1 := ⟨_, _, _, Tryz.underlying42, rfl, Tryz.sizeOf3, rfl, rfl⟩
theorem fa_42_2 : FldT Tryz.prog 42 2 2 := ⟨_, _, _, Tryz.underlying42, rfl, Tryz.sizeOf3, rfl, rfl⟩
theorem fa_42_3 : FldT Tryz.prog 42 3 3 := ⟨_, _, _, Tryz.underlying42, rfl, Tryz.sizeOf3, rfl, rfl⟩
theorem fa_42_4 : FldT Tryz.prog 42 4 4 := ⟨_, _, _, Tryz.underlying42, rfl, Tryz.sizeOf3, rfl, rfl⟩
theorem fa_42_5 : FldT Tryz.prog 42 5 5 := ⟨_, _, _, Tryz.underlying42, rfl, Tryz.sizeOf3, rfl, rfl⟩
theorem fa_42_6 : FldT Tryz.prog 42 6 6 := ⟨_, _, _, Tryz.underlying42, rfl, Tryz.sizeOf3, rfl, rfl⟩
theorem fa_42_7 : FldT Tryz.prog 42 7 7 := ⟨_, _, _, Tryz.underlying42, rfl, Tryz.sizeOf3, rfl, rfl⟩
theorem fa_71_0 : FldT Tryz.prog 71 0 0 := ⟨_, _, _, Tryz.underlying71, rfl, Tryz.sizeOf9, rfl, rfl⟩
theorem fa_71_1 : FldT Tryz.prog 71 1 1 := ⟨_, _, _, Tryz.underlying71, rfl, Tryz.sizeOf3, rfl, rfl⟩
theorem fa_71_2 : FldT Tryz.prog 71 2 2 := ⟨_, _, _, Tryz.underlying71, rfl, Tryz.sizeOf3, rfl, rfl⟩
theorem fa_74_0 : FldT Tryz.prog 74 0 0 := ⟨_, _, _, Tryz.underlying74, rfl, Tryz.sizeOf9, rfl, rfl⟩
theorem fa_74_1 : FldT Tryz.prog 74 1 1 := ⟨_, _, _, Tryz.underlying74, rfl, Tryz.sizeOf9, rfl, rfl⟩
theorem fa_74_2 : FldT Tryz.prog 74 2 2 := ⟨_, _, _, Tryz.underlying74, rfl, Tryz.sizeOf3, rfl, rfl⟩
theorem fa_91_0 : FldT Tryz.prog 91 0 0 := ⟨_, _, _, Tryz.underlying91, rfl, Tryz.sizeOf9, rfl, rfl⟩
theorem fa_91_1 : FldT Tryz.prog 91 1 1 := ⟨_, _, _, Tryz.underlying91, rfl, Tryz.sizeOf22, rfl, rfl⟩
theorem fa_94_0 : FldT Tryz.prog 94 0 0 := ⟨_, _, _, Tryz.underlying94, rfl, Tryz.sizeOf54, rfl, rfl⟩
theorem fa_94_1 : FldT Tryz.prog 94 1 1 := ⟨_, _, _, Tryz.underlying94, rfl, Tryz.sizeOf3, rfl, rfl⟩
theorem fa_94_2 : FldT Tryz.prog 94 2 2 := ⟨_, _, _, Tryz.underlying94, rfl, Tryz.sizeOf35, rfl, rfl⟩
theorem fa_94_3 : FldT Tryz.prog 94 3 3 := ⟨_, _, _, Tryz.underlying94, rfl, Tryz.sizeOf35, rfl, rfl⟩
theorem fa_94_4 : FldT Tryz.prog 94 4 4 := ⟨_, _, _, Tryz.underlying94, rfl, Tryz.sizeOf3, rfl, rfl⟩
theorem fa_94_5 : FldT Tryz.prog 94 5 5 := ⟨_, _, _, Tryz.underlying94, rfl, Tryz.sizeOf4, rfl, rfl⟩
theorem fa_103_0 : FldT Tryz.prog 103 0 0 := ⟨_, _, _, Tryz.underlying103, rfl, Tryz.sizeOf3, rfl, rfl⟩
theorem fa_103_1 : FldT Tryz.prog 103 1 1 := ⟨_, _, _, Tryz.underlying103, rfl, Tryz.sizeOf3, rfl, rfl⟩
theorem fa_103_2 : FldT Tryz.prog 103 2 2 := ⟨_, _, _, Tryz.underlying103, rfl, Tryz.sizeOf3, rfl, rfl⟩
theorem bt_25 : BldT Tryz.prog 25 (.agg #[.slice none 0 0, iV 0]) [(0, 1), (1, 1)] := ⟨_, Tryz.underlying25, Tryz.zeroValue25, fun _ => by kernel_rfl⟩
theorem bt_33 : BldT Tryz.prog 33 (.agg #[iV 0, iV 0, iV 0, iV 0]) [(0, 1), (1, 1), (2, 1), (3, 1)] := ⟨_, Tryz.underlying33, Tryz.zeroValue33, fun _ => by kernel_rfl⟩
theorem bt_37 : BldT Tryz.prog 37 (.agg #[sV k_empty, sV k_empty, sV k_empty, .slice none 0 0]) [(0, 1), (1, 1), (2, 1), (3, 1)] := ⟨_, Tryz.underlying37, Tryz.zeroValue37, fun _ => by kernel_rfl⟩
theorem bt_42 : BldT Tryz.prog 42 (.agg #[sV k_empty, iV 0, iV 0, iV 0, iV 0, iV 0, iV 0, iV 0]) [(0, 1), (1, 1), (2, 1), (3, 1), (4, 1), (5, 1), (6, 1), (7, 1)] := ⟨_, Tryz.underlying42, Tryz.zeroValue42, fun _ => by kernel_rfl⟩
theorem bt_71 : BldT Tryz.prog 71 (.agg #[sV k_empty, iV 0, iV 0]) [(0, 1), (1, 1), (2, 1)] := ⟨_, Tryz.underlying71, Tryz.zeroValue71, fun _ => by kernel_rfl⟩
theorem bt_74 : BldT Tryz.prog 74 (.agg #[sV k_empty, sV k_empty, iV 0]) [(0, 1), (1, 1), (2, 1)] := ⟨_, Tryz.underlying74, Tryz.zeroValue74, fun _ => by kernel_rfl⟩
theorem bt_91 : BldT Tryz.prog 91 (.agg #[sV k_empty, .slice none 0 0]) [(0, 1), (1, 1)] := ⟨_, Tryz.underlying91, Tryz.zeroValue91, fun _ => by kernel_rfl⟩
theorem bt_94 : BldT Tryz.prog 94 (.agg #[.slice none 0 0, iV 0, .slice none 0 0, .slice none 0 0, iV 0, bV false]) [(0, 1), (1, 1), (2, 1), (3, 1), (4, 1), (5, 1)] := ⟨_, Tryz.underlying94, Tryz.zeroValue94, fun _ => by kernel_rfl⟩
theorem bt_103 : BldT Tryz.prog 103 (.agg #[iV 0, iV 0, iV 0]) [(0, 1), (1, 1), (2, 1)] := ⟨_, Tryz.underlying103, Tryz.zeroValue103, fun _ => by kernel_rfl⟩
end Go.Proofs.YtmngaaffadcccaaGreatDoor
