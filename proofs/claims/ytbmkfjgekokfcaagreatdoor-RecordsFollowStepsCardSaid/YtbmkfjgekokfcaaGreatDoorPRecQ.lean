/- What is asked of records: the program's answers are the reference's. No program stands here but its twins. -/
import Derived.Test.YtbmkfjgekokfcaaGreatDoorPRecH
import Derived.Test.YtbmkfjgekokfcaaGreatDoorPErrs
namespace Go.Proofs.YtbmkfjgekokfcaaGreatDoor
open Go
theorem eqBest_is (l : List GBest) : slices_Equal_Best l l = some true := by
  unfold slices_Equal_Best
  rw [if_neg (by simp), joinR]
  exact eq_l l (slices_Equal_Best_l1 l (some true)) (fun _ => rfl) (fun _ _ _ => rfl) l [] rfl
def allS (k : List GKind) (u : List GStep) : List GBest := k.flatMap fun x => recS (valS x u)
theorem all_loop (sw : List Grecord_swum) (rf : List Int) (u : List GStep) (hu : u.length ≤ 1000) (h : Fol u sw) : ∀ (ys : List GKind) (i : Nat) (x : List GBest), x.length + 1000 * ys.length < 1000000 →
    record_All_l1 (sw, rf) (fun x => some (x, 0)) ys i x = some (x ++ allS ys u, 0)
  | [], _, x, _ => by simp [record_All_l1, allS]
  | y :: ys, i, x, hx => by
    simp only [List.length_cons] at hx
    have hv := valS_len y u
    have hr := recS_len (valS y u)
    rw [record_All_l1, record_is y hu h]
    simp only [Option.bind_some]
    rw [chkT (decide_eq_true (by omega)), all_loop sw rf u hu h ys (i + 1) _ (by rw [List.length_append]; omega)]
    simp [allS]
end Go.Proofs.YtbmkfjgekokfcaaGreatDoor
