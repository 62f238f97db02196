/- The law MeetsShown: its row and its card, out of the walk (YtconmpkpdfidiaaGreatDoorWk..) and the plain law. -/
import Derived.Test.YtconmpkpdfidiaaGreatDoorWit
import Derived.Test.YtconmpkpdfidiaaGreatDoorWk
import Derived.Test.YtconmpkpdfidiaaGreatDoorPMeetsShown
namespace Go.Proofs.YtconmpkpdfidiaaGreatDoor.CMeetsShown
open Go Go.ChangeShapes Go.WideShapes Go.ChangeAt Go.RowKit
theorem tab (W : World) (hL : laidMetH Tryz.prog Rows.meetsShownRow.laid W) : Lib.TabIs Tryz.prog W "internal/strconv.uint64pow10" .u64 Lib.pow10Tab := by
  rw [MakeChecks.laidMetH_plain _ _ _ (by kernel_rfl)] at hL
  have h2 := hL.filter (fun x => x.1 == "internal/strconv.uint64pow10")
  have e : Rows.meetsShownRow.laid.filter (fun x => x.1 == "internal/strconv.uint64pow10") = [("internal/strconv.uint64pow10", Lib.tabData .u64 Lib.pow10Tab)] := by kernel_rfl
  rw [e] at h2
  exact Lib.tabIs_of_head (g := 1) (by kernel_rfl) (by kernel_rfl) Tryz.underlying250 Tryz.underlying223 (by kernel_rfl) (by kernel_rfl) h2
theorem call (W : World) (hL : laidMetH Tryz.prog Rows.meetsShownRow.laid W) (_ : W.ShapedOpen Tryz.prog) (v : Value) (l : List Int) (h : Slc (view W []) 1 v (l.map eInt)) : Calls Tryz.prog 3 #[v] W (Ret W [] fun _ u _ => u = .bool true) :=
  EH W v l h (UA (tab W hL) (by kernel_rfl)) true (plain_MeetsShown l (Il h))
theorem laid_met (os : Os) : laidMetH Tryz.prog Rows.meetsShownRow.laid ((World.laidAll Tryz.prog os Rows.meetsShownRow.laid).forCall (fun _ _ => 0) ⟨#[], #[.slice none 0 0], []⟩).memory := by
  rw [MakeChecks.laidMetH_plain _ _ _ (by kernel_rfl)]
  exact laidMet_laidAll _ (by kernel_rfl) (by kernel_rfl)
theorem reads (os : Os) {H : Type} (enc : TypeId × Value → H) : ∃ places, DataW.whole enc Tryz.prog ((World.laidAll Tryz.prog os Rows.meetsShownRow.laid).forCall (fun _ _ => 0) ⟨#[], #[.slice none 0 0], []⟩).memory Tryz.f3.params.toList Rows.meetsShownSpec.vars false #[Value.slice none 0 0].toList 8 = some ([.nil], [], places) :=
  ⟨[], by kernel_rfl⟩
set_option maxRecDepth 100000 in
theorem lifted (os : Os) (started : os.Started) (H : Type) (enc : TypeId × Value → H) (F : Stop.Interp) :
    ReturnsInHanded {} Tryz.checked os 3 .any ((OpenSpec.ofChange Rows.meetsShownSpec).preRow enc Tryz.prog Tryz.f3 Rows.meetsShownRow.domain false Rows.meetsShownRow.laid) (((OpenSpec.ofChange Rows.meetsShownSpec).at F).post enc Tryz.prog Tryz.f3 false true false false) := by
  obtain ⟨places, hx⟩ := reads os enc
  refine returnsInHanded_of_row (C := Tryz.checked) (s := OpenSpec.ofChange Rows.meetsShownSpec) own started (by kernel_rfl) Tryz.func3
    (witness_row_atRef (enc := enc) (C := Tryz.checked) false (World.laidAll Tryz.prog os Rows.meetsShownRow.laid) #[.slice none 0 0] (World.laidAll_os _ _ _) (by kernel_rfl) (by kernel_rfl) (by kernel_rfl)
      (OpenSpec.preRow_of_cond 8 hx (by kernel_rfl) (fun k hk => by cases hk) (by kernel_rfl) (laid_met os))) ?_
  intro W base args ds gs Wo hval hW _ _ _ hL hS _
  exact ZX Tryz.params3 (by kernel_rfl) rfl (fun _ _ => rfl) Tryz.underlying22 Tryz.underlying3 (by kernel_rfl) Tryz.underlying4 (by kernel_rfl) (by kernel_rfl) (by kernel_rfl) H enc W (call W hL hS) args ds gs Wo hval hW
theorem said : Rows.MeetsShownSaid :=
  OpenClaim.holds_of_cond 3 Tryz.f3 rfl rfl rfl rfl rfl rfl rfl ⟨rfl, rfl, rfl, rfl, rfl⟩ rfl rfl rfl rfl rfl (by kernel_rfl) Tryz.func3 (by kernel_rfl)
    (of_decide_eq_true (by kernel_rfl)) (by unfold Func.isWrapper; first | (rw [if_pos (by decide +kernel)]; kernel_rfl) | (rw [if_neg (by decide +kernel)]; exact ⟨rfl, rfl⟩))
    (fun os started H enc _ F => by rw [OpenClaim.pre_eq_preRow]; exact lifted os started H enc F)
theorem plain (f : FuncId) (fn : Func) (hf : Tryz.pinned.checked.prog.funcNamed "tumbleturn/tumblaw2.MeetsShown" = some f) (hfn : Tryz.pinned.checked.prog.funcs[f]? = some fn) :
    false = Tryz.pinned.checked.prog.looks [] ∧ ∀ (j : Nat) t, fn.params[j]? = some t → Tryz.pinned.checked.prog.wantsStandIn t = false := by
  obtain rfl : f = 3 := Option.some.inj ((show Tryz.prog.funcNamed "tumbleturn/tumblaw2.MeetsShown" = some 3 by kernel_rfl).symm.trans hf) |>.symm
  obtain rfl : fn = Tryz.f3 := (Option.some.inj (Tryz.func3.symm.trans hfn)).symm
  refine ⟨by kernel_rfl, fun j t ht => ?_⟩
  rw [Tryz.params3] at ht
  obtain rfl : t = 22 := by simpa using Array.mem_of_getElem? ht
  exact (show Tryz.prog.wantsStandIn 22 = false by kernel_rfl)
theorem card : Rows.MeetsShownCardSaid :=
  Claim7.holds_tied_plain_at .later [] _ _ _ _ said (fun _ h => by cases h) (by kernel_rfl) (fun _ h => by cases h) meetsShown_row_tie rfl ⟨rfl, rfl⟩ (by kernel_rfl) rfl plain (by kernel_rfl)
end Go.Proofs.YtconmpkpdfidiaaGreatDoor.CMeetsShown
