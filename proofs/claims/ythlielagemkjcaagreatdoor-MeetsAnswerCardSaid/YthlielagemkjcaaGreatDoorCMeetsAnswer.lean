/- The law MeetsAnswer: its row and its card, out of the walk (YthlielagemkjcaaGreatDoorWk..) and the plain law. -/
import Derived.Test.YthlielagemkjcaaGreatDoorWit
import Derived.Test.YthlielagemkjcaaGreatDoorWk
import Derived.Test.YthlielagemkjcaaGreatDoorPMeetsAnswer
namespace Go.Proofs.YthlielagemkjcaaGreatDoor.CMeetsAnswer
open Go Go.ChangeShapes Go.WideShapes Go.ChangeAt Go.RowKit
theorem call (W : World) (hL : laidMetH Tryz.prog Rows.meetsAnswerRow.laid W) (hS : W.ShapedOpen Tryz.prog) (v : Value) (l : List Int) (h : Slc (view W []) 1 v (l.map eInt)) : Calls Tryz.prog 3 #[v] W (Ret W [] fun _ u _ => u = .bool true) :=
  Zu W v l h (globI_of (Tryz.lays146.s1_3 W hS)) (Aht (tab W hL) (by kernel_rfl)) true (plain_MeetsAnswer l (GX h))
set_option maxRecDepth 100000 in
theorem lifted (os : Os) (started : os.Started) (H : Type) (enc : TypeId × Value → H) (F : Stop.Interp) :
    ReturnsInHanded {} Tryz.checked os 3 .any ((OpenSpec.ofChange Rows.meetsAnswerSpec).preRow enc Tryz.prog Tryz.f3 Rows.meetsAnswerRow.domain false Rows.meetsAnswerRow.laid) (((OpenSpec.ofChange Rows.meetsAnswerSpec).at F).post enc Tryz.prog Tryz.f3 false true false false) := by
  obtain ⟨places, hx⟩ := reads os enc
  refine returnsInHanded_of_row (C := Tryz.checked) (s := OpenSpec.ofChange Rows.meetsAnswerSpec) own started (by kernel_rfl) Tryz.func3
    (witness_row_atRef (enc := enc) (C := Tryz.checked) false (World.laidAll Tryz.prog os Rows.meetsAnswerRow.laid) #[.slice none 0 0] (World.laidAll_os _ _ _) (by kernel_rfl) (by kernel_rfl) (by kernel_rfl)
      (OpenSpec.preRow_of_cond 8 hx (by kernel_rfl) (fun k hk => by cases hk) (by kernel_rfl) (laid_met os))) ?_
  intro W base args ds gs AP hval hW _ _ _ hL hS _
  exact Apw Tryz.params3 (by kernel_rfl) rfl (fun _ _ => rfl) Tryz.underlying22 Tryz.underlying3 (by kernel_rfl) Tryz.underlying4 (by kernel_rfl) (by kernel_rfl) (by kernel_rfl) H enc W (call W hL hS) args ds gs AP hval hW
theorem said : Rows.MeetsAnswerSaid :=
  OpenClaim.holds_of_cond 3 Tryz.f3 rfl rfl rfl rfl rfl rfl rfl ⟨rfl, rfl, rfl, rfl, rfl⟩ rfl rfl rfl rfl rfl (by kernel_rfl) Tryz.func3 facts
    (of_decide_eq_true (by kernel_rfl)) (by unfold Func.isWrapper; first | (rw [if_pos (by decide +kernel)]; kernel_rfl) | (rw [if_neg (by decide +kernel)]; exact ⟨rfl, rfl⟩))
    (fun os started H enc _ F => by rw [OpenClaim.pre_eq_preRow]; exact lifted os started H enc F)
theorem card : Rows.MeetsAnswerCardSaid :=
  Claim7.holds_tied_plain_at .later [] _ _ _ _ said (fun _ h => by cases h) (by kernel_rfl) (fun _ h => by cases h) meetsAnswer_row_tie rfl ⟨rfl, rfl⟩ (by kernel_rfl) rfl plain (goes_by rfl noGo)
end Go.Proofs.YthlielagemkjcaaGreatDoor.CMeetsAnswer
