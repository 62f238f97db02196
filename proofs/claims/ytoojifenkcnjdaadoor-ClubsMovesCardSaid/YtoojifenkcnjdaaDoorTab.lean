/- The program's tables, by program. -/
import Derived.Test.YtoojifenkcnjdaaDoorTw
import Derived.Test.YtoojifenkcnjdaaDoorLib
import Derived.Test.YtoojifenkcnjdaaDoorProg
namespace Go.Proofs.YtoojifenkcnjdaaDoor
open Go
def GMove.enc (x : GMove) : List Value := [.string x.Who, .string x.Club, .int .i64 x.Day]
theorem GMove.enc_ok : Enc 3 GMove.enc := ⟨fun _ => rfl, fun _ u h => by simp [GMove.enc] at h; rcases h with rfl | rfl | rfl <;> rfl⟩
def GRace.enc (x : GRace) : List Value := [.string x.Key, .int .i64 x.Metres, .int .i64 x.Stroke, .int .i64 x.Course, .int .i64 x.Legs, .int .i64 x.Sex, .int .i64 x.Young, .int .i64 x.Old]
theorem GRace.enc_ok : Enc 8 GRace.enc := ⟨fun _ => rfl, fun _ u h => by simp [GRace.enc] at h; rcases h with rfl | rfl | rfl | rfl | rfl | rfl | rfl | rfl <;> rfl⟩
def GSwimmer.enc (x : GSwimmer) : List Value := [.string x.Key, .int .i64 x.Sex, .int .i64 x.Born]
theorem GSwimmer.enc_ok : Enc 3 GSwimmer.enc := ⟨fun _ => rfl, fun _ u h => by simp [GSwimmer.enc] at h; rcases h with rfl | rfl | rfl <;> rfl⟩
def GDate.enc (x : GDate) : List Value := [.int .i64 x.Year, .int .i64 x.Month, .int .i64 x.Day]
theorem GDate.enc_ok : Enc 3 GDate.enc := ⟨fun _ => rfl, fun _ u h => by simp [GDate.enc] at h; rcases h with rfl | rfl | rfl <;> rfl⟩
theorem Tryd.mixed : Tryd.prog.follows .mixedOrders = true := by kernel_rfl
theorem sl_22 : SlT Tryd.prog 22 3 1 8 := slT_of (z := (.int .i64 0)) Tryd.underlying22 Tryd.sizeOf3 (by kernel_rfl) rfl
theorem sl_26 : SlT Tryd.prog 26 59 3 40 := slT_of (z := (.agg #[.string k_empty, .string k_empty, .int .i64 0])) Tryd.underlying26 Tryd.sizeOf59 (by kernel_rfl) rfl
theorem sl_33 : SlT Tryd.prog 33 9 1 16 := slT_of (z := (.string k_empty)) Tryd.underlying33 Tryd.sizeOf9 (by kernel_rfl) rfl
theorem sl_65 : SlT Tryd.prog 65 30 1 8 := slT_of (z := (.int .i64 0)) Tryd.underlying65 Tryd.sizeOf30 (by kernel_rfl) rfl
theorem sl_70 : SlT Tryd.prog 70 49 3 32 := slT_of (z := (.agg #[.string k_empty, .int .i64 0, .int .i64 0])) Tryd.underlying70 Tryd.sizeOf49 (by kernel_rfl) rfl
theorem fa_25_0 : FldT Tryd.prog 25 0 0 := ⟨_, _, _, Tryd.underlying25, rfl, Tryd.sizeOf22, rfl, rfl⟩
theorem fa_25_1 : FldT Tryd.prog 25 1 1 := ⟨_, _, _, Tryd.underlying25, rfl, Tryd.sizeOf3, rfl, rfl⟩
theorem fa_45_0 : FldT Tryd.prog 45 0 0 := ⟨_, _, _, Tryd.underlying45, rfl, Tryd.sizeOf9, rfl, rfl⟩
theorem fa_45_1 : FldT Tryd.prog 45 1 1 := ⟨_, _, _, Tryd.underlying45, rfl, Tryd.sizeOf3, rfl, rfl⟩
theorem fa_45_2 : FldT Tryd.prog 45 2 2 := ⟨_, _, _, Tryd.underlying45, rfl, Tryd.sizeOf3, rfl, rfl⟩
theorem fa_45_3 : FldT Tryd.prog 45 3 3 := ⟨_, _, _, Tryd.underlying45, rfl, Tryd.sizeOf3, rfl, rfl⟩
theorem fa_45_4 : FldT Tryd.prog 45 4 4 := ⟨_, _, _, Tryd.underlying45, rfl, Tryd.sizeOf3, rfl, rfl⟩
theorem fa_45_5 : FldT Tryd.prog 45 5 5 := ⟨_, _, _, Tryd.underlying45, rfl, Tryd.sizeOf3, rfl, rfl⟩
theorem fa_45_6 : FldT Tryd.prog 45 6 6 := ⟨_, _, _, Tryd.underlying45, rfl, Tryd.sizeOf3, rfl, rfl⟩
theorem fa_45_7 : FldT Tryd.prog 45 7 7 := ⟨_, _, _, Tryd.underlying45, rfl, Tryd.sizeOf3, rfl, rfl⟩
theorem fa_49_0 : FldT Tryd.prog 49 0 0 := ⟨_, _, _, Tryd.underlying49, rfl, Tryd.sizeOf9, rfl, rfl⟩
theorem fa_49_1 : FldT Tryd.prog 49 1 1 := ⟨_, _, _, Tryd.underlying49, rfl, Tryd.sizeOf3, rfl, rfl⟩
theorem fa_49_2 : FldT Tryd.prog 49 2 2 := ⟨_, _, _, Tryd.underlying49, rfl, Tryd.sizeOf3, rfl, rfl⟩
theorem fa_59_0 : FldT Tryd.prog 59 0 0 := ⟨_, _, _, Tryd.underlying59, rfl, Tryd.sizeOf9, rfl, rfl⟩
theorem fa_59_1 : FldT Tryd.prog 59 1 1 := ⟨_, _, _, Tryd.underlying59, rfl, Tryd.sizeOf9, rfl, rfl⟩
theorem fa_59_2 : FldT Tryd.prog 59 2 2 := ⟨_, _, _, Tryd.underlying59, rfl, Tryd.sizeOf3, rfl, rfl⟩
theorem fa_75_0 : FldT Tryd.prog 75 0 0 := ⟨_, _, _, Tryd.underlying75, rfl, Tryd.sizeOf3, rfl, rfl⟩
theorem fa_75_1 : FldT Tryd.prog 75 1 1 := ⟨_, _, _, Tryd.underlying75, rfl, Tryd.sizeOf3, rfl, rfl⟩
theorem fa_75_2 : FldT Tryd.prog 75 2 2 := ⟨_, _, _, Tryd.underlying75, rfl, Tryd.sizeOf3, rfl, rfl⟩
theorem bt_25 : BldT Tryd.prog 25 (.agg #[.slice none 0 0, .int .i64 0]) [(0, 1), (1, 1)] := ⟨_, Tryd.underlying25, Tryd.zeroValue25, fun _ => by kernel_rfl⟩
theorem bt_45 : BldT Tryd.prog 45 (.agg #[.string k_empty, .int .i64 0, .int .i64 0, .int .i64 0, .int .i64 0, .int .i64 0, .int .i64 0, .int .i64 0]) [(0, 1), (1, 1), (2, 1), (3, 1), (4, 1), (5, 1), (6, 1), (7, 1)] := ⟨_, Tryd.underlying45, Tryd.zeroValue45, fun _ => by kernel_rfl⟩
theorem bt_49 : BldT Tryd.prog 49 (.agg #[.string k_empty, .int .i64 0, .int .i64 0]) [(0, 1), (1, 1), (2, 1)] := ⟨_, Tryd.underlying49, Tryd.zeroValue49, fun _ => by kernel_rfl⟩
theorem bt_59 : BldT Tryd.prog 59 (.agg #[.string k_empty, .string k_empty, .int .i64 0]) [(0, 1), (1, 1), (2, 1)] := ⟨_, Tryd.underlying59, Tryd.zeroValue59, fun _ => by kernel_rfl⟩
theorem bt_75 : BldT Tryd.prog 75 (.agg #[.int .i64 0, .int .i64 0, .int .i64 0]) [(0, 1), (1, 1), (2, 1)] := ⟨_, Tryd.underlying75, Tryd.zeroValue75, fun _ => by kernel_rfl⟩
end Go.Proofs.YtoojifenkcnjdaaDoor
