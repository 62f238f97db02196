/- The plain law of RecordsStay. No program stands here but its twins. -/
import Derived.Test.YtigenjanhebbeaaGreatDoorPRecK
import Derived.Test.YtigenjanhebbeaaGreatDoorPReady
namespace Go.Proofs.YtigenjanhebbeaaGreatDoor
open Go
section
variable {L : List Int} (hL : LongL L) {a : Int}
include hL
theorem stepsN_dr (many : Int) (hm0 : 0 ≤ many) (hm : many ≤ 9) (h0 : 0 ≤ a) (h1 : a ≤ 1000000) : Dr a 400 (fun x => x.length ≤ 10) (Stream_Steps L a many) := by
  unfold Stream_Steps
  simp only [joinR]
  obtain ⟨x, b, e, g1, g2, g3⟩ := steps_l hL many (by omega) (fun (x1 : List GStep) (x2 : Int) => Option.bind (slices_SortStableFunc_Step_tumbref2_StepOrder x1) (fun r15 => Option.bind (slices_CompactFunc_Step_Stream_Steps_c1 r15) (fun r16 => some (r16, x2)))) ((many - 0).toNat + 1) [] a 0 0 (by omega) (by omega) h0 (by omega) (by simp; omega)
  simp only [List.length_nil, Nat.zero_add] at g3
  rw [isortO_is x (by omega)] at e
  simp only [Option.bind_some] at e
  obtain ⟨y, e1, e2⟩ := compactO_is (isort ltO x) (by rw [isort_len]; omega)
  rw [e1] at e
  rw [isort_len] at e2
  exact ⟨y, b, e, g1, by omega, by omega⟩
theorem rightN_l (many : Int) (hm0 : 0 ≤ many) (hm : many ≤ 9) : ∀ (m : Nat) (a x : Int), 0 ≤ x → 5 - x < (m : Int) → 0 ≤ a → a + 400 * m ≤ 1000000 →
    ∃ y b, Stream_RightSteps_l1 L many (fun x1 => some ([], x1)) (m + 1) a x = some (y, b) ∧ a ≤ b ∧ b ≤ a + 400 * m ∧ y.length ≤ 10 ∧ record_CheckSteps y = some 0
  | m, a, x, h1, h2, h3, h4 => by
    rw [Stream_RightSteps_l1]
    by_cases hc : x < 5
    · rw [if_pos (decide_eq_true hc)]
      cases m with
      | zero => omega
      | succ m =>
        obtain ⟨y, b, e, g1, g2, g3⟩ := stepsN_dr hL many hm0 hm (a := a) h3 (by omega)
        rw [e]; simp only [Option.bind_some]
        obtain ⟨f, f1, f2, _⟩ := steps_both y
        rw [f2]; simp only [Option.bind_some]
        by_cases hf : f = 0
        · subst hf
          rw [if_pos (by simp)]
          exact ⟨y, b, rfl, by omega, by omega, g3, f1⟩
        · rw [if_neg (by simpa using hf), W_in (by omega) (by omega)]
          obtain ⟨z, c, r1, r2, r3, r4, r5⟩ := rightN_l many hm0 hm m b (x + 1) (by omega) (by omega) (by omega) (by omega)
          exact ⟨z, c, r1, by omega, by push_cast; omega, r4, r5⟩
    · rw [if_neg (by simpa using hc)]
      exact ⟨[], a, rfl, by omega, by omega, by simp, by decide +kernel⟩
theorem rightN_dr (many : Int) (hm0 : 0 ≤ many) (hm : many ≤ 9) (h0 : 0 ≤ a) (h1 : a ≤ 10000) : Dr a 2400 (fun x => x.length ≤ 10 ∧ record_CheckSteps x = some 0) (Stream_RightSteps L a many) := by
  unfold Stream_RightSteps
  simp only [joinR]
  obtain ⟨y, b, r1, r2, r3, r4, r5⟩ := rightN_l hL many hm0 hm 6 a 0 (by omega) (by omega) h0 (by omega)
  exact ⟨y, b, r1, r2, by omega, r4, r5⟩
end
def ltC (x y : GStep) : Bool := decide (record_compare x y < 0)
theorem isortC_is (l : List GStep) (hl : l.length ≤ 12) : slices_insertionSortCmpFunc_Step_record_compare l 0 (l.length : Int) = some (isort ltC l) := by
  unfold slices_insertionSortCmpFunc_Step_record_compare
  simp only [joinR]
  have hins : ∀ (k : List GStep → Option (List GStep)) (rp : List GStep) (x : GStep) (post : List GStep), ((rp ++ x :: post).length : Int) = (l.length : Int) → (∀ y, y ∈ rp ∨ y = x ∨ y ∈ post → y ∈ (rp ++ x :: post)) →
      slices_insertionSortCmpFunc_Step_record_compare_l2 0 k (((rp.length : Int) - 0).toNat + 2) (rp.reverse ++ x :: post) (rp.length : Int) = k ((insR ltC x rp).reverse ++ post) := by
    intro k rp x post h1 _
    exact ins_l (fun x y k => k (ltC x y)) ltC k (slices_insertionSortCmpFunc_Step_record_compare_l2 0 k) (fun _ _ _ => rfl) rp x post _ (by omega) (by simp at h1; omega) fun y _ k' => rfl
  cases l with
  | nil => rfl
  | cons x l =>
    have hw : W (0 + 1) = (([x] : List GStep).length : Int) := rfl
    rw [hw]
    exact isort_l ltC (fun x => some x) (fun k x i => slices_insertionSortCmpFunc_Step_record_compare_l2 0 k ((i - 0).toNat + 2) x i) (slices_insertionSortCmpFunc_Step_record_compare_l1 ((x :: l).length : Int) 0 fun x => some x) ((x :: l).length : Int) (fun _ _ _ => rfl)
      (fun k rp x post h1 h2 => hins k rp x post h1 h2) l [x] _ (by simp only [List.length_cons, List.length_nil]; omega) (by simp only [List.length_cons, List.length_nil]; omega) (by simp only [List.length_cons, List.length_nil] at hl ⊢; omega)
theorem len_t : ∀ n : Fin 13, (bits_Len (IntKind.wrap .u64 (n.val : Int))).isSome = true := by decide +kernel
theorem sortC_is (l : List GStep) (hl : l.length ≤ 12) : slices_SortFunc_Step_record_compare l = some (isort ltC l) := by
  unfold slices_SortFunc_Step_record_compare
  have h := len_t ⟨l.length, by omega⟩
  obtain ⟨r, hr⟩ := Option.isSome_iff_exists.1 h
  simp only at hr
  rw [hr]
  simp only [Option.bind_some]
  unfold slices_pdqsortCmpFunc_Step_record_compare
  rw [show (4611686018427387904 : Nat) = 4611686018427387903 + 1 from rfl, slices_pdqsortCmpFunc_Step_record_compare_l1, W_in (by omega) (by omega), if_pos (decide_eq_true (by omega)), isortC_is l hl]
  rfl
section
variable {α R : Type} [Inhabited α]
omit [Inhabited α] in
theorem spoil_l (z : α) (j : List α → Option R) (F : List α → Nat → List α → Option R) (h0 : ∀ i x, F [] i x = j x) (h1 : ∀ y ys i x, F (y :: ys) i x = Chk (inB (i : Int) x.length) (F ys (i + 1) (x.set ((i : Int).toNat) z))) :
    ∀ (ys : List α) (i : Nat) (x : List α), i + ys.length ≤ x.length → ∃ x', F ys i x = j x'
  | [], i, x, _ => ⟨x, h0 i x⟩
  | y :: ys, i, x, h => by
    simp only [List.length_cons] at h
    obtain ⟨x', e⟩ := spoil_l z j F h0 h1 ys (i + 1) (x.set ((i : Int).toNat) z) (by simp; omega)
    exact ⟨x', by rw [h1, chkT (inB_iff.2 (by omega)), e]⟩
end
theorem eqStep_is (l : List GStep) : slices_Equal_Step l l = some true := by
  unfold slices_Equal_Step
  rw [if_neg (by simp), joinR]
  exact eq_l l (slices_Equal_Step_l1 l (some true)) (fun _ => rfl) (fun _ _ _ => rfl) l [] rfl
theorem same_is (y : GKind) : tumbkeep2_RecordsStay_c1 y y = some true := by
  unfold tumbkeep2_RecordsStay_c1
  simp [joinR, eqStr_is]
theorem sameAll (l : List GKind) : ∀ (ys dn : List GKind), l = dn ++ ys → slices_EqualFunc_Kind_tumbkeep2_RecordsStay_c1_l1 l (some true) ys dn.length = some true
  | [], _, _ => rfl
  | y :: ys, dn, e => by
    have hlen : l.length = dn.length + (ys.length + 1) := by rw [e]; simp
    have ih := sameAll l ys (dn ++ [y]) (by rw [e]; simp)
    rw [List.length_append, List.length_singleton] at ih
    have hn : nth l (dn.length : Int) = y := by
      have : nth (dn ++ y :: ys) (dn.length : Int) = y := nth_mid dn y ys rfl
      rwa [← e] at this
    rw [slices_EqualFunc_Kind_tumbkeep2_RecordsStay_c1_l1, chkT (inB_iff.2 (by omega)), hn, same_is, Option.bind_some, if_neg (by simp), ih]
theorem plain_RecordsStay (l : List Int) (hl : l.length ≤ 9223372036854775807) : tumbkeep2_RecordsStay l = some true := by
  have hL : LongL l := by unfold LongL; omega
  obtain ⟨k, a1, e1, p1, q1, k1, k2, k3⟩ := rightK_dr hL (a := 0) (by omega) (by omega)
  obtain ⟨x, a2, e2, p2, q2, x1, x2⟩ := rightN_dr hL 9 (by omega) (by omega) (a := a1) (by omega) (by omega)
  obtain ⟨f', f1, _, f3⟩ := steps_both x
  have hf : f' = 0 := by rw [x2] at f1; exact (Option.some.inj f1).symm
  obtain ⟨_, hg, ha⟩ := f3 hf
  obtain ⟨sw, w1, w2⟩ := follow_is x (by omega) hg ha 50
  have hu := upS_len x 50
  have c0 : record_CheckSteps [] = some 0 := by decide +kernel
  have hM : record_Merge x [] = some (isort ltC x, 0) := by
    unfold record_Merge slices_Clone_Step
    rw [x2, c0, chkT (by simp; omega)]
    simp only [Option.bind_some, joinR, List.nil_append, record_Merge_l1, decide_true, Bool.not_true, Bool.false_eq_true, if_false]
    rw [if_neg (by simp; omega), sortC_is x (by omega)]
    rfl
  have hA : ∃ S, record_All k x 50 = some (S, 0) := by
    unfold record_All
    rw [both_is k x k1 x2]
    have hm : words_IsMoment 50 = true := by decide +kernel
    simp only [Option.bind_some, joinR, hm, w1]
    rw [all_loop sw _ (upS x 50) (by omega) w2 k 0 [] (by simp; omega)]
    exact ⟨_, rfl⟩
  have hO : ∃ S, record_Open x 50 = some (S, 0) := by
    unfold record_Open
    have hm : words_IsMoment 50 = true := by decide +kernel
    have hsl : sw.length ≤ x.length := by
      have := congrArg List.length w2.steps
      rw [List.length_map] at this
      have h2 := firsts_len (upS x 50)
      omega
    rw [x2]
    simp only [Option.bind_some, joinR, hm, w1]
    rw [app_0 (fun y : Grecord_swum => !y.sure_ && !y.void_) (fun y => y.s_.Id) (fun x1 => some (x1, (0 : Int))) (record_Open_l1 fun x1 => some (x1, 0)) (fun _ _ => rfl) sw (by omega) (fun _ _ _ _ => rfl)]
    exact ⟨_, rfl⟩
  obtain ⟨S7, hA⟩ := hA
  obtain ⟨S9, hO⟩ := hO
  have sp1 : ∀ m : List GStep, ∃ x', tumbkeep2_spoil_Step m = some x' := fun m => spoil_l _ (fun x => some x) (tumbkeep2_spoil_Step_l1 fun x => some x) (fun _ _ => rfl) (fun _ _ _ _ => rfl) m 0 m (by omega)
  have sp2 : ∀ m : List GBest, ∃ x', tumbkeep2_spoil_Best m = some x' := fun m => spoil_l _ (fun x => some x) (tumbkeep2_spoil_Best_l1 fun x => some x) (fun _ _ => rfl) (fun _ _ _ _ => rfl) m 0 m (by omega)
  have sp3 : ∀ m : List ByteArray, ∃ x', tumbkeep2_spoil_string m = some x' := fun m => spoil_l _ (fun x => some x) (tumbkeep2_spoil_string_l1 fun x => some x) (fun _ _ => rfl) (fun _ _ _ _ => rfl) m 0 m (by omega)
  obtain ⟨t1, hs1⟩ := sp1 (isort ltC x)
  obtain ⟨t2, hs2⟩ := sp2 S7
  obtain ⟨t3, hs3⟩ := sp3 S9
  have hE : slices_EqualFunc_Kind_tumbkeep2_RecordsStay_c1 k k = some true := by
    unfold slices_EqualFunc_Kind_tumbkeep2_RecordsStay_c1
    rw [if_neg (by simp), joinR]
    exact sameAll k k [] rfl
  unfold tumbkeep2_RecordsStay
  simp only [e1, e2, hM, hs1, hA, hs2, hO, hs3, hE, eqStep_is, ready_ok, Option.bind_some, joinR]
  rfl
end Go.Proofs.YtigenjanhebbeaaGreatDoor
