/- Closed facts of the row MeetsAnswer: the witness's world reads as the row lists it, the row's cells are what the program forces. Premise of 'tab' alone: the world reads as listed. -/
import Derived.Test.YthlielagemkjcaaGreatDoorCards
import Derived.Test.YthlielagemkjcaaGreatDoorTie
import Derived.Test.YthlielagemkjcaaGreatDoorLaw
import Derived.WalkKit
import Derived.Deep.DeepHandedRow
import Derived.Lib.LaidTab
import Derived.Lay
import Derived.LaidSub
import Derived.MakeChecks
import Derived.Deep.DeepWitnessRowRef
import Derived.Test.YthlielagemkjcaaGreatDoorText
namespace Go.Proofs.YthlielagemkjcaaGreatDoor
open Go Go.ChangeShapes Go.WideShapes Go.ChangeAt Go.RowKit
theorem own : ownKnob Tryz.prog.godebug = none:=by kernel_rfl
namespace CMeetsAnswer
theorem tab (W : World) (hL : laidMetH Tryz.prog Rows.meetsAnswerRow.laid W) : Lib.TabIs Tryz.prog W "internal/strconv.uint64pow10" .u64 Lib.pow10Tab := by
  rw [MakeChecks.laidMetH_plain _ _ _ (by kernel_rfl)] at hL
  have h2 := hL.filter (fun x => x.1 == "internal/strconv.uint64pow10")
  have e : Rows.meetsAnswerRow.laid.filter (fun x => x.1 == "internal/strconv.uint64pow10") = [("internal/strconv.uint64pow10", Lib.tabData .u64 Lib.pow10Tab)] := by kernel_rfl
  rw [e] at h2
  exact Lib.tabIs_of_head (g := 1) (by kernel_rfl) (by kernel_rfl) Tryz.underlying273 Tryz.underlying219 (by kernel_rfl) (by kernel_rfl) h2
theorem laid_met (os : Os) : laidMetH Tryz.prog Rows.meetsAnswerRow.laid ((World.laidAll Tryz.prog os Rows.meetsAnswerRow.laid).forCall (fun _ _ => 0) ⟨#[], #[.slice none 0 0], []⟩).memory := by
  rw [MakeChecks.laidMetH_plain _ _ _ (by kernel_rfl)]
  exact laidMet_laidAll _ (by kernel_rfl) (by kernel_rfl)
theorem reads (os : Os) {H : Type} (enc : TypeId × Value → H) : ∃ places, DataW.whole enc Tryz.prog ((World.laidAll Tryz.prog os Rows.meetsAnswerRow.laid).forCall (fun _ _ => 0) ⟨#[], #[.slice none 0 0], []⟩).memory Tryz.f3.params.toList Rows.meetsAnswerSpec.vars false #[Value.slice none 0 0].toList 8 = some ([.nil], [], places) :=
  ⟨[], by kernel_rfl⟩
theorem fact1 : laidOutB Tryz.checked.prog = true := by kernel_rfl
theorem fact2 : mapsRowed Tryz.checked.prog = true := by kernel_rfl
theorem fact9 : (Rows.meetsAnswerRow.inPlace == Tryz.checked.prog.inPlace 3) = true := by kernel_rfl
theorem fact10 : (Rows.meetsAnswerRow.unfollowed == Tryz.checked.prog.unfollowed 3) = true := by kernel_rfl
theorem fact11 : (Rows.meetsAnswerRow.recurses == Tryz.checked.prog.recurses 3) = true := by kernel_rfl
theorem fact12 : (Rows.meetsAnswerRow.named == Tryz.checked.prog.varsNamed 3) = true := by kernel_rfl
theorem fact24 : Tryz.checked.prog.stopsHeard = true := by kernel_rfl
theorem fact25 : Tryz.checked.prog.mayEnter = true := by kernel_rfl
theorem and2 {a b : Bool} (h : a = true) (k : b = true := by kernel_rfl) : (a && b) = true := by rw [h, k]; rfl
theorem facts : joinedFacts Tryz.checked.prog 3 Tryz.f3 (OpenSpec.ofChange Rows.meetsAnswerSpec).bare Rows.meetsAnswerRow = true :=
  (and2 (and2 (and2 (and2 (and2 (and2 (and2 (and2 (and2 (and2 (and2 (and2 (and2 (and2 (and2 (and2 (and2 (and2 (and2 (and2 (and2 (and2 (and2 (and2 (and2 (and2 (and2 (and2 (and2 (and2 (and2 (by kernel_rfl) fact1) fact2))))))) fact9) fact10) fact11) fact12)))))))))))) fact24) fact25)))))))
theorem noGo : Tryz.prog.funcs.any Func.goes = false := by kernel_rfl
theorem goes_no {P : Program} (h : P.funcs.any Func.goes = false) (f : FuncId) : P.goes f = false := by
  unfold Program.goes
  rw [h, Bool.and_false, Bool.or_false, List.any_eq_false]
  intro g _
  cases e : P.funcs[g]? with
  | none => simp
  | some fn =>
    obtain ⟨hg, rfl⟩ := Array.getElem?_eq_some_iff.1 e
    simpa using Array.any_eq_false.1 h g hg
theorem goes_by {c : OpenClaim} {P : Program} (hs : c.start = .entering) (h : P.funcs.any Func.goes = false) : false = c.goesBy P := by
  unfold OpenClaim.goesBy Program.goesAt Program.goesFrom
  rw [hs]
  cases P.funcNamed c.func <;> simp [goes_no h]
theorem plain (f : FuncId) (fn : Func) (hf : Tryz.pinned.checked.prog.funcNamed "tumbleturn/tumblaw2.MeetsAnswer" = some f) (hfn : Tryz.pinned.checked.prog.funcs[f]? = some fn) :
    true = Tryz.pinned.checked.prog.looks [] ∧ ∀ (j : Nat) t, fn.params[j]? = some t → Tryz.pinned.checked.prog.wantsStandIn t = false := by
  obtain rfl : f = 3 := Option.some.inj ((show Tryz.prog.funcNamed "tumbleturn/tumblaw2.MeetsAnswer" = some 3 by kernel_rfl).symm.trans hf) |>.symm
  obtain rfl : fn = Tryz.f3 := (Option.some.inj (Tryz.func3.symm.trans hfn)).symm
  refine ⟨by kernel_rfl, fun j t ht => ?_⟩
  rw [Tryz.params3] at ht
  obtain rfl : t = 22 := by simpa using Array.mem_of_getElem? ht
  exact (show Tryz.prog.wantsStandIn 22 = false by kernel_rfl)
end CMeetsAnswer
end Go.Proofs.YthlielagemkjcaaGreatDoor
