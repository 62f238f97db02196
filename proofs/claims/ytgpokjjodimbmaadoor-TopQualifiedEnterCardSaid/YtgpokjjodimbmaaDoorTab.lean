/- The program's tables, by program. -/
import Derived.Test.YtgpokjjodimbmaaDoorTw
import Derived.Test.YtgpokjjodimbmaaDoorLib
import Derived.Test.YtgpokjjodimbmaaDoorProg
namespace Go.Proofs.YtgpokjjodimbmaaDoor
open Go
def GMark.enc (x : GMark) : List Value := [.string x.Who, .string x.Race, .int .i64 x.Day, .int .i64 x.Time]
theorem GMark.enc_ok : Enc 4 GMark.enc := ⟨fun _ => rfl, fun _ u h => by simp [GMark.enc] at h; rcases h with rfl | rfl | rfl | rfl <;> rfl⟩
def GDate.enc (x : GDate) : List Value := [.int .i64 x.Year, .int .i64 x.Month, .int .i64 x.Day]
theorem GDate.enc_ok : Enc 3 GDate.enc := ⟨fun _ => rfl, fun _ u h => by simp [GDate.enc] at h; rcases h with rfl | rfl | rfl <;> rfl⟩
def GItem.enc (x : GItem) : List Value := [.string x.Key, .int .i64 x.Heats, .int .i64 x.Long, .int .i64 x.Gap, .int .i64 x.Break]
theorem GItem.enc_ok : Enc 5 GItem.enc := ⟨fun _ => rfl, fun _ u h => by simp [GItem.enc] at h; rcases h with rfl | rfl | rfl | rfl | rfl <;> rfl⟩
def GWindow.enc (x : GWindow) : List Value := [.int .i64 x.From, .int .i64 x.To]
theorem GWindow.enc_ok : Enc 2 GWindow.enc := ⟨fun _ => rfl, fun _ u h => by simp [GWindow.enc] at h; rcases h with rfl | rfl <;> rfl⟩
def GSlot.enc (x : GSlot) : List Value := [.string x.Item, .int .i64 x.Heat, .int .i64 x.Time.From, .int .i64 x.Time.To]
theorem GSlot.enc_ok : Enc 4 GSlot.enc := ⟨fun _ => rfl, fun _ u h => by simp [GSlot.enc] at h; rcases h with rfl | rfl | rfl | rfl <;> rfl⟩
def GBase.enc (x : GBase) : List Value := [.string x.Race, .int .i64 x.Time]
theorem GBase.enc_ok : Enc 2 GBase.enc := ⟨fun _ => rfl, fun _ u h => by simp [GBase.enc] at h; rcases h with rfl | rfl <;> rfl⟩
def GStandard.enc (x : GStandard) : List Value := [.string x.Race, .int .i64 x.Time, .int .i64 x.From, .int .i64 x.To]
theorem GStandard.enc_ok : Enc 4 GStandard.enc := ⟨fun _ => rfl, fun _ u h => by simp [GStandard.enc] at h; rcases h with rfl | rfl | rfl | rfl <;> rfl⟩
theorem Tryd.mixed : Tryd.prog.follows .mixedOrders = true := by kernel_rfl
theorem sl_22 : SlT Tryd.prog 22 3 1 8 := slT_of (z := (.int .i64 0)) Tryd.underlying22 Tryd.sizeOf3 (by kernel_rfl) rfl
theorem sl_26 : SlT Tryd.prog 26 30 4 48 := slT_of (z := (.agg #[.string k_empty, .string k_empty, .int .i64 0, .int .i64 0])) Tryd.underlying26 Tryd.sizeOf30 (by kernel_rfl) rfl
theorem sl_41 : SlT Tryd.prog 41 40 4 40 := slT_of (z := (.agg #[.string k_empty, .int .i64 0, .int .i64 0, .int .i64 0])) Tryd.underlying41 Tryd.sizeOf40 (by kernel_rfl) rfl
theorem sl_60 : SlT Tryd.prog 60 59 5 48 := slT_of (z := (.agg #[.string k_empty, .int .i64 0, .int .i64 0, .int .i64 0, .int .i64 0])) Tryd.underlying60 Tryd.sizeOf59 (by kernel_rfl) rfl
theorem sl_64 : SlT Tryd.prog 64 63 2 24 := slT_of (z := (.agg #[.string k_empty, .int .i64 0])) Tryd.underlying64 Tryd.sizeOf63 (by kernel_rfl) rfl
theorem sl_66 : SlT Tryd.prog 66 9 1 16 := slT_of (z := (.string k_empty)) Tryd.underlying66 Tryd.sizeOf9 (by kernel_rfl) rfl
theorem sl_68 : SlT Tryd.prog 68 85 4 40 := slT_of (z := (.agg #[.string k_empty, .int .i64 0, .int .i64 0, .int .i64 0])) Tryd.underlying68 Tryd.sizeOf85 (by kernel_rfl) rfl
theorem fa_25_0 : FldT Tryd.prog 25 0 0 := ⟨_, _, _, Tryd.underlying25, rfl, Tryd.sizeOf22, rfl, rfl⟩
theorem fa_25_1 : FldT Tryd.prog 25 1 1 := ⟨_, _, _, Tryd.underlying25, rfl, Tryd.sizeOf3, rfl, rfl⟩
theorem fa_30_0 : FldT Tryd.prog 30 0 0 := ⟨_, _, _, Tryd.underlying30, rfl, Tryd.sizeOf9, rfl, rfl⟩
theorem fa_30_1 : FldT Tryd.prog 30 1 1 := ⟨_, _, _, Tryd.underlying30, rfl, Tryd.sizeOf9, rfl, rfl⟩
theorem fa_30_2 : FldT Tryd.prog 30 2 2 := ⟨_, _, _, Tryd.underlying30, rfl, Tryd.sizeOf3, rfl, rfl⟩
theorem fa_30_3 : FldT Tryd.prog 30 3 3 := ⟨_, _, _, Tryd.underlying30, rfl, Tryd.sizeOf3, rfl, rfl⟩
theorem fa_40_0 : FldT Tryd.prog 40 0 0 := ⟨_, _, _, Tryd.underlying40, rfl, Tryd.sizeOf9, rfl, rfl⟩
theorem fa_40_1 : FldT Tryd.prog 40 1 1 := ⟨_, _, _, Tryd.underlying40, rfl, Tryd.sizeOf3, rfl, rfl⟩
theorem fa_40_2 : FldT Tryd.prog 40 2 2 := ⟨_, _, _, Tryd.underlying40, rfl, Tryd.sizeOf3, rfl, rfl⟩
theorem fa_40_3 : FldT Tryd.prog 40 3 3 := ⟨_, _, _, Tryd.underlying40, rfl, Tryd.sizeOf3, rfl, rfl⟩
theorem fa_56_0 : FldT Tryd.prog 56 0 0 := ⟨_, _, _, Tryd.underlying56, rfl, Tryd.sizeOf3, rfl, rfl⟩
theorem fa_56_1 : FldT Tryd.prog 56 1 1 := ⟨_, _, _, Tryd.underlying56, rfl, Tryd.sizeOf3, rfl, rfl⟩
theorem fa_56_2 : FldT Tryd.prog 56 2 2 := ⟨_, _, _, Tryd.underlying56, rfl, Tryd.sizeOf3, rfl, rfl⟩
theorem fa_59_0 : FldT Tryd.prog 59 0 0 := ⟨_, _, _, Tryd.underlying59, rfl, Tryd.sizeOf9, rfl, rfl⟩
theorem fa_59_1 : FldT Tryd.prog 59 1 1 := ⟨_, _, _, Tryd.underlying59, rfl, Tryd.sizeOf3, rfl, rfl⟩
theorem fa_59_2 : FldT Tryd.prog 59 2 2 := ⟨_, _, _, Tryd.underlying59, rfl, Tryd.sizeOf3, rfl, rfl⟩
theorem fa_59_3 : FldT Tryd.prog 59 3 3 := ⟨_, _, _, Tryd.underlying59, rfl, Tryd.sizeOf3, rfl, rfl⟩
theorem fa_59_4 : FldT Tryd.prog 59 4 4 := ⟨_, _, _, Tryd.underlying59, rfl, Tryd.sizeOf3, rfl, rfl⟩
theorem fa_63_0 : FldT Tryd.prog 63 0 0 := ⟨_, _, _, Tryd.underlying63, rfl, Tryd.sizeOf9, rfl, rfl⟩
theorem fa_63_1 : FldT Tryd.prog 63 1 1 := ⟨_, _, _, Tryd.underlying63, rfl, Tryd.sizeOf3, rfl, rfl⟩
theorem fa_83_1 : FldT Tryd.prog 83 1 1 := ⟨_, _, _, Tryd.underlying83, rfl, Tryd.sizeOf3, rfl, rfl⟩
theorem fa_85_2 : FldT Tryd.prog 85 2 2 := ⟨_, _, _, Tryd.underlying85, rfl, Tryd.sizeOf83, rfl, rfl⟩
theorem bt_25 : BldT Tryd.prog 25 (.agg #[.slice none 0 0, .int .i64 0]) [(0, 1), (1, 1)] := ⟨_, Tryd.underlying25, Tryd.zeroValue25, fun _ => by kernel_rfl⟩
theorem bt_30 : BldT Tryd.prog 30 (.agg #[.string k_empty, .string k_empty, .int .i64 0, .int .i64 0]) [(0, 1), (1, 1), (2, 1), (3, 1)] := ⟨_, Tryd.underlying30, Tryd.zeroValue30, fun _ => by kernel_rfl⟩
theorem bt_40 : BldT Tryd.prog 40 (.agg #[.string k_empty, .int .i64 0, .int .i64 0, .int .i64 0]) [(0, 1), (1, 1), (2, 1), (3, 1)] := ⟨_, Tryd.underlying40, Tryd.zeroValue40, fun _ => by kernel_rfl⟩
theorem bt_56 : BldT Tryd.prog 56 (.agg #[.int .i64 0, .int .i64 0, .int .i64 0]) [(0, 1), (1, 1), (2, 1)] := ⟨_, Tryd.underlying56, Tryd.zeroValue56, fun _ => by kernel_rfl⟩
theorem bt_59 : BldT Tryd.prog 59 (.agg #[.string k_empty, .int .i64 0, .int .i64 0, .int .i64 0, .int .i64 0]) [(0, 1), (1, 1), (2, 1), (3, 1), (4, 1)] := ⟨_, Tryd.underlying59, Tryd.zeroValue59, fun _ => by kernel_rfl⟩
theorem bt_63 : BldT Tryd.prog 63 (.agg #[.string k_empty, .int .i64 0]) [(0, 1), (1, 1)] := ⟨_, Tryd.underlying63, Tryd.zeroValue63, fun _ => by kernel_rfl⟩
theorem bt_83 : BldT Tryd.prog 83 (.agg #[.int .i64 0, .int .i64 0]) [(0, 1), (1, 1)] := ⟨_, Tryd.underlying83, Tryd.zeroValue83, fun _ => by kernel_rfl⟩
theorem bt_85 : BldT Tryd.prog 85 (.agg #[.string k_empty, .int .i64 0, .int .i64 0, .int .i64 0]) [(0, 1), (1, 1), (2, 2)] := ⟨_, Tryd.underlying85, Tryd.zeroValue85, fun _ => by kernel_rfl⟩
end Go.Proofs.YtgpokjjodimbmaaDoor
