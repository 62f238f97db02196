/- Items: the check and the document's fault are one. No program stands here but its twins. -/
import Derived.Test.YtmaoleaghiilcaaGreatDoorPKey2
namespace Go.Proofs.YtmaoleaghiilcaaGreatDoor
open Go

theorem mfind_put {κ ν : Type} [DecidableEq κ] (k k' : κ) (v : ν) : ∀ (m : List (κ × ν)) (i : Nat), (mfind (mput m k v) k' i).map (·.2) = if k' = k then some v else (mfind m k' i).map (·.2)
  | [], i => by
    by_cases h : k' = k <;> simp [mput, mfind, h]
  | (q, u) :: m, i => by
    by_cases h : k = q
    · subst h
      by_cases h2 : k' = k <;> simp [mput, mfind, h2]
    · by_cases h2 : k' = q
      · subst h2
        have h3 : ¬ k' = k := fun e => h e.symm
        simp [mput, mfind, h, h3]
      · simp [mput, mfind, h, h2, mfind_put k k' v m (i + 1)]
theorem mgetD_put {κ ν : Type} [DecidableEq κ] (m : List (κ × ν)) (k k' : κ) (v d : ν) : mgetD (mput m k v) k' d = if k' = k then v else mgetD m k' d := by
  unfold mgetD mget
  rw [mfind_put]
  split <;> simp
theorem itemAt_loop (key : ByteArray) : ∀ (l : List GItem) (i : Nat), decide (0 ≤ slices_IndexFunc_Item_tumbref2_ItemAt_c1_l1 key (-1) l i) = l.any fun x => decide (x.Key = key)
  | [], i => by rw [slices_IndexFunc_Item_tumbref2_ItemAt_c1_l1]; rfl
  | x :: l, i => by
    rw [slices_IndexFunc_Item_tumbref2_ItemAt_c1_l1, List.any_cons]
    unfold tumbref2_ItemAt_c1
    by_cases h : x.Key = key
    · rw [if_pos (decide_eq_true h)]; simp [h]
    · rw [if_neg (by simpa using h), itemAt_loop key l (i + 1)]; simp [h]
theorem itemAt_iff (l : List GItem) (key : ByteArray) : decide (0 ≤ tumbref2_ItemAt l key) = l.any fun x => decide (x.Key = key) := itemAt_loop key l 0
theorem within_in : words_Within = tumbref2_in := rfl
def Good (x : GItem) : Prop := (1 ≤ x.Heats ∧ x.Heats ≤ 60) ∧ (1 ≤ x.Long ∧ x.Long ≤ 3600000) ∧ (0 ≤ x.Gap ∧ x.Gap ≤ 3600000) ∧ (0 ≤ x.Break ∧ x.Break ≤ 3600000)
theorem cut_app {α : Type} (dn ys : List α) : cut (dn ++ ys) 0 (dn.length : Int) = dn := by simp [cut]
theorem check_loop (l : List GItem) : ∀ (ys dn : List GItem) (m : List (ByteArray × Bool)), l = dn ++ ys → (∀ k, mgetD m k false = dn.any fun x => decide (x.Key = k)) → (∀ x ∈ dn, Good x) →
    ∃ e, session_CheckItems_l1 (fun _ => some 0) ys dn.length m = some e ∧ tumbref2_ItemsFault_l1 l (some 0) ys dn.length = some e ∧ (e = 0 → ∀ x ∈ l, Good x) := by
  intro ys
  induction ys with
  | nil =>
    intro dn m hl hm hg
    refine ⟨0, rfl, rfl, fun _ => ?_⟩
    rw [List.append_nil] at hl
    subst hl; exact hg
  | cons y ys ih =>
    intro dn m hl hm hg
    obtain ⟨b, e1, e2⟩ := isKey_eq y.Key
    rw [session_CheckItems_l1, tumbref2_ItemsFault_l1, e1, e2]
    simp only [Option.bind_some]
    cases b with
    | false => exact ⟨5, by simp, by simp, fun h => by cases h⟩
    | true =>
      have hc : cutB 0 (dn.length : Int) l.length = true := cutB_iff.2 ⟨by omega, by omega, by subst hl; simp; omega⟩
      simp only [Bool.not_true, Bool.false_eq_true, if_false]
      rw [chk_pos hc, itemAt_iff, hm]
      have hcut : cut l 0 (dn.length : Int) = dn := by subst hl; exact cut_app dn _
      rw [hcut]
      cases hk : dn.any fun x => decide (x.Key = y.Key) with
      | true => exact ⟨6, by simp, by simp, fun h => by cases h⟩
      | false =>
        simp only [Bool.false_eq_true, if_false]
        rw [within_in]
        cases hr : ((((!(tumbref2_in y.Heats 1 60)) || (!(tumbref2_in y.Long 1 3600000))) || (!(tumbref2_in y.Gap 0 3600000))) || (!(tumbref2_in y.Break 0 3600000))) with
        | true => exact ⟨1, by simp, by simp, fun h => by cases h⟩
        | false =>
          simp only [Bool.false_eq_true, if_false]
          have hy : Good y := by
            simp [tumbref2_in] at hr
            unfold Good
            omega
          have h := ih (dn ++ [y]) (mput m y.Key true) (by rw [hl]; simp) (fun k => ?_) (fun x hx => ?_)
          · rw [List.length_append, List.length_singleton] at h
            exact h
          · rw [mgetD_put, List.any_append, ← hm]
            by_cases hk2 : k = y.Key
            · simp [hk2]
            · have : ¬ y.Key = k := fun e => hk2 e.symm
              simp [hk2, this]
          · rcases List.mem_append.1 hx with h | h
            · exact hg x h
            · rw [List.mem_singleton] at h; subst h; exact hy
theorem check_eq (l : List GItem) : ∃ e, session_CheckItems l = some e ∧ tumbref2_ItemsFault l = some e ∧ (e = 0 → l.length ≤ 100 ∧ ∀ x ∈ l, Good x) := by
  unfold session_CheckItems tumbref2_ItemsFault
  by_cases h : 100 < (l.length : Int)
  · rw [if_pos (decide_eq_true h), if_pos (decide_eq_true h)]
    exact ⟨2, rfl, rfl, fun h => by cases h⟩
  · rw [if_neg (by simpa using h), if_neg (by simpa using h), join_eq, join_eq]
    obtain ⟨e, h1, h2, h3⟩ := check_loop l l [] [] rfl (fun _ => rfl) (fun _ h => by cases h)
    exact ⟨e, h1, h2, fun he => ⟨by omega, h3 he⟩⟩
end Go.Proofs.YtmaoleaghiilcaaGreatDoor
