/- What is asked of records: the program's answers are the reference's. No program stands here but its twins. -/
import Derived.Test.YtigenjanhebbeaaGreatDoorPRecH
import Derived.Test.YtigenjanhebbeaaGreatDoorPErrs
namespace Go.Proofs.YtigenjanhebbeaaGreatDoor
open Go
theorem eqStr_is (l : List ByteArray) : slices_Equal_string l l = some true := by
  unfold slices_Equal_string
  rw [if_neg (by simp), joinR]
  exact eq_l l (slices_Equal_string_l1 l (some true)) (fun _ => rfl) (fun _ _ _ => rfl) l [] rfl
theorem checkSwum_is (y : GStep) {g : Int} (hg : record_checkStep y = some g) : record_checkSwum y = some (tumblaw2_errs [g, tumblaw2_when (!decide (y.Kind = 1)) 4]) := by
  unfold record_checkSwum
  rw [hg]
  simp only [Option.bind_some, errs_cons, errs_nil, tumblaw2_when]
  by_cases h : g = 0 <;> by_cases h1 : y.Kind = 1 <;> simp [h, h1]
theorem for_is (k : List GKind) (hk : k.length ≤ 1000) (y : GStep) {e g : Int} (he : record_CheckKinds k = some e) (hg : record_checkStep y = some g) :
    record_For k y = some (if tumblaw2_errs [e, g, tumblaw2_when (!decide (y.Kind = 1)) 4] = 0 then (k.filter fun x => record_isFor x y).map (·.Key) else [], tumblaw2_errs [e, g, tumblaw2_when (!decide (y.Kind = 1)) 4]) := by
  unfold record_For
  rw [he, checkSwum_is y hg]
  simp only [Option.bind_some, joinR]
  rw [app_0 (fun x : GKind => record_isFor x y) (·.Key) (fun x => some (x, (0 : Int))) (record_For_l1 y fun x => some (x, 0)) (fun _ _ => rfl) k (by omega) (fun _ _ _ _ => rfl)]
  simp only [errs_cons e]
  by_cases h : e = 0
  · by_cases h2 : tumblaw2_errs [g, tumblaw2_when (!decide (y.Kind = 1)) 4] = 0 <;> simp [h, h2]
  · simp [h]
theorem kindAt_in (k : List GKind) (key : ByteArray) (h : ¬ tumbref2_KindAt k key < 0) : inB (tumbref2_KindAt k key) k.length = true := by
  have hx : tumbref2_KindAt k key = slices_IndexFunc_Kind_tumbref2_KindAt_c1_l1 key (-1) k 0 := rfl
  rw [hx] at h ⊢
  rcases find_l (fun y k => k (tumbref2_KindAt_c1 y key)) (fun y => tumbref2_KindAt_c1 y key) (-1) id (slices_IndexFunc_Kind_tumbref2_KindAt_c1_l1 key (-1)) (fun _ => rfl) (fun _ _ _ => rfl) k 0 (fun _ _ _ => rfl) with ⟨pre, y, post, e, _, _, g3⟩ | ⟨_, g2⟩
  · rw [g3, e]
    exact inB_iff.2 ⟨by show (0 : Int) ≤ ((0 + pre.length : Nat) : Int); omega, by show ((0 + pre.length : Nat) : Int) < _; simp; omega⟩
  · rw [g2] at h; omega
/-- What is asked of a kind. -/
def twoF (e f : Int) (k : List GKind) (kind : ByteArray) (t : Int) : Int := if tumblaw2_errs [e, f] = 0 then tumblaw2_errs [tumblaw2_kindFault k kind, tumblaw2_momentFault t] else tumblaw2_errs [e, f]
/-- The records of some kinds. -/
def allS (k : List GKind) (u : List GStep) : List GBest := k.flatMap fun x => recS (valS x u)
theorem all_loop (sw : List Grecord_swum) (rf : List Int) (u : List GStep) (hu : u.length ≤ 1000) (h : Fol u sw) : ∀ (ys : List GKind) (i : Nat) (x : List GBest), x.length + 1000 * ys.length < 1000000 →
    record_All_l1 (sw, rf) (fun x => some (x, 0)) ys i x = some (x ++ allS ys u, 0)
  | [], _, x, _ => by simp [record_All_l1, allS]
  | y :: ys, i, x, hx => by
    simp only [List.length_cons] at hx
    have hv := valS_len y u
    have hr := recS_len (valS y u)
    rw [record_All_l1, record_is y hu h]
    simp only [Option.bind_some]
    rw [chkT (decide_eq_true (by omega)), all_loop sw rf u hu h ys (i + 1) _ (by rw [List.length_append]; omega)]
    simp [allS]
end Go.Proofs.YtigenjanhebbeaaGreatDoor
