/- The program's check of who swims when is the reference's. No program stands here but its twins. -/
import Derived.Test.YtoffbgomfcmfmaaGreatDoorPBeginT
import Derived.Test.YtoffbgomfcmfmaaGreatDoorPHeld
import Derived.Test.YtoffbgomfcmfmaaGreatDoorPBytes
import Derived.Test.YtoffbgomfcmfmaaGreatDoorPSort2
namespace Go.Proofs.YtoffbgomfcmfmaaGreatDoor
open Go
theorem cmpS_is (x y : ByteArray) : cmp_Compare_string x y = cB x y := by
  unfold cmp_Compare_string cmp_isNaN_string
  rw [sless_cb]
  rcases cB_rng x y with h | h | h
  · simp [h]
  · have := cB_zero h
    subst this
    simp [cB_refl]
  · have hne : x ≠ y := by rintro rfl; rw [cB_refl] at h; cases h
    simp [h, hne]
theorem cmpI2 (x y : Int) : cmp_Compare_int x y = if x < y then -1 else if y < x then 1 else 0 := by
  unfold cmp_Compare_int cmp_isNaN_int
  simp
theorem orc3 (a b c : Int) : cmp_Or_int [a, b, c] = if a ≠ 0 then a else if b ≠ 0 then b else c := by
  unfold cmp_Or_int
  simp only [joinR, cmp_Or_int_l1]
  by_cases h1 : a = 0 <;> by_cases h2 : b = 0 <;> by_cases h3 : c = 0 <;> simp [h1, h2, h3]
theorem orc2 (a b : Int) : cmp_Or_int [a, b] = if a ≠ 0 then a else b := by
  unfold cmp_Or_int
  simp only [joinR, cmp_Or_int_l1]
  by_cases h1 : a = 0 <;> by_cases h2 : b = 0 <;> simp [h1, h2]
/-- The order of calls. -/
def cC (a b : GCall) : Int := if cB a.Who b.Who ≠ 0 then cB a.Who b.Who else if cB a.Item b.Item ≠ 0 then cB a.Item b.Item else if a.Heat < b.Heat then -1 else if b.Heat < a.Heat then 1 else 0
theorem compareCalls_is (a b : GCall) : session_compareCalls a b = cC a b := by
  unfold session_compareCalls cC
  have h1 : strings_Compare a.Who b.Who = cB a.Who b.Who := rfl
  have h2 : strings_Compare a.Item b.Item = cB a.Item b.Item := rfl
  rw [orc3, cmpI2, h1, h2]
theorem cmp2_is (a b c d : ByteArray) : slices_Compare_string [a, b] [c, d] = some (if cB a c ≠ 0 then cB a c else cB b d) := by
  unfold slices_Compare_string
  simp only [joinR, slices_Compare_string_l1]
  have n0 : nth [c, d] ((0 : Nat) : Int) = c := rfl
  have n1 : nth [c, d] ((0 + 1 : Nat) : Int) = d := rfl
  rw [n0, n1, cmpS_is, cmpS_is]
  by_cases h1 : cB a c = 0
  · by_cases h2 : cB b d = 0
    · simp [h1, h2, Chk, inB]
    · simp [h1, h2, Chk, inB]
  · simp [h1, Chk, inB]
theorem callOrder_is (a b : GCall) (ha : 1 ≤ a.Heat ∧ a.Heat ≤ 60) (hb : 1 ≤ b.Heat ∧ b.Heat ≤ 60) : tumbref2_callOrder a b = some (cC a b) := by
  unfold tumbref2_callOrder tumbref2_sign cC
  rw [cmp2_is, W_in (n := a.Heat - b.Heat) (by omega) (by omega)]
  simp only [Option.bind_some]
  by_cases h1 : cB a.Who b.Who = 0
  · by_cases h2 : cB a.Item b.Item = 0
    · by_cases h3 : a.Heat < b.Heat
      · simp [h1, h2, h3, show a.Heat - b.Heat < 0 by omega]
      · by_cases h4 : b.Heat < a.Heat
        · simp [h1, h2, h3, h4, show ¬ a.Heat - b.Heat < 0 by omega, show 0 < a.Heat - b.Heat by omega]
        · simp [h1, h2, h3, h4, show ¬ a.Heat - b.Heat < 0 by omega, show ¬ 0 < a.Heat - b.Heat by omega]
    · simp [h1, h2]
  · simp [h1]
/-- A call that there is. -/
structure CV (items : List GItem) (c : GCall) (k : Nat) (y : GItem) : Prop where
  ix : ixN items c.Item = some k
  get : items[k]? = some y
  h1 : 1 ≤ c.Heat
  h2 : c.Heat ≤ y.Heats
def CAdj (l : List GCall) : Prop := ∀ dn p q ys, l = dn ++ p :: q :: ys → cC p q < 0
theorem cadj_snoc {l : List GCall} {y : GCall} (h : CAdj l) (hy : ∀ d p, l = d ++ [p] → cC p y < 0) : CAdj (l ++ [y]) := by
  intro d p q r e
  rcases List.eq_nil_or_concat r with rfl | ⟨r', z, rfl⟩
  · have h' : l ++ [y] = (d ++ [p]) ++ [q] := by rw [e]; simp
    have h4 := List.append_inj' h' rfl
    have hq : y = q := by simpa using h4.2
    subst hq
    exact hy d p h4.1
  · have h' : l ++ [y] = (d ++ p :: q :: r') ++ [z] := by rw [e]; simp
    exact h d p q r' (List.append_inj' h' rfl).1
theorem swims_loop (items : List GItem) (hg : ∀ x ∈ items, Good x) (hi : items.length ≤ 100) (l : List GCall) (hl : l.length ≤ 2000) : ∀ (ys dn : List GCall), l = dn ++ ys → (∀ c ∈ dn, ∃ k y, CV items c k y) → CAdj dn →
    ∃ e, session_CheckSwims_l1 items l (some 0) ys dn.length = some e ∧ tumbref2_CallsFault_l1 items l (some 0) ys dn.length = some e ∧ (e = 0 → (∀ c ∈ l, ∃ k y, CV items c k y) ∧ CAdj l)
  | [], dn, h, h1, h2 => ⟨0, rfl, rfl, fun _ => by rw [List.append_nil] at h; subst h; exact ⟨h1, h2⟩⟩
  | p :: ys, dn, h, h1, h2 => by
    obtain ⟨b, e1, e2⟩ := isKey_eq p.Who
    have hlen : l.length = dn.length + (ys.length + 1) := by rw [h]; simp
    rw [session_CheckSwims_l1, tumbref2_CallsFault_l1, e1, e2, itemAtP, itemAtQ]
    simp only [Option.bind_some]
    cases b with
    | false => exact ⟨5, rfl, rfl, fun h => by cases h⟩
    | true =>
      unfold ixI
      cases hix : ixN items p.Item with
      | none => exact ⟨8, by simp, by simp, fun h => by cases h⟩
      | some k =>
        have hk := ixN_lt hix
        obtain ⟨y, hy⟩ : ∃ y, items[k]? = some y := ⟨items[k], List.getElem?_eq_getElem hk⟩
        have hn : nth items (k : Int) = y := nth_get hy
        have hgy := hg y (List.mem_of_getElem? hy)
        have hck : inB (k : Int) items.length = true := inB_iff.2 ⟨by omega, by omega⟩
        simp only [Bool.not_true, Bool.false_eq_true, if_false, show ¬ ((k : Int) < 0) by omega, decide_false, joinR, hn, chkT hck, within_in]
        by_cases hh : tumbref2_in p.Heat 1 y.Heats = true
        · simp only [hh, Bool.not_true, Bool.false_eq_true, if_false]
          have hCV : CV items p k y := by
            unfold tumbref2_in at hh
            simp at hh
            exact ⟨hix, hy, hh.1, hh.2⟩
          have rest : (∀ d q, dn = d ++ [q] → cC q p < 0) → ∃ e, session_CheckSwims_l1 items l (some 0) ys (dn.length + 1) = some e ∧ tumbref2_CallsFault_l1 items l (some 0) ys (dn.length + 1) = some e ∧ (e = 0 → (∀ c ∈ l, ∃ k y, CV items c k y) ∧ CAdj l) := by
            intro hadj
            have := swims_loop items hg hi l hl ys (dn ++ [p]) (by rw [h]; simp) (fun c hc => by
              rcases List.mem_append.1 hc with h' | h'
              · exact h1 c h'
              · rw [List.mem_singleton] at h'; subst h'; exact ⟨k, y, hCV⟩) (cadj_snoc h2 hadj)
            rwa [List.length_append, List.length_singleton] at this
          rcases List.eq_nil_or_concat dn with hd | ⟨d, q, hd⟩
          · subst hd
            simp only [List.length_nil, Int.natCast_zero, Int.lt_irrefl, decide_false, Bool.false_eq_true, if_false] at rest ⊢
            exact rest fun d q h' => by simp at h'
          · rw [List.concat_eq_append] at hd
            have hdl : dn.length = d.length + 1 := by rw [hd]; simp
            have hnq : nth l (W ((dn.length : Int) - 1)) = q := by
              rw [W_in (by omega) (by omega), h, hd]
              have : d ++ [q] ++ p :: ys = d ++ q :: (p :: ys) := by simp
              rw [this]
              exact nth_mid _ _ _ (by simp)
            obtain ⟨kq, yq, hq⟩ := h1 q (by rw [hd]; simp)
            have hgq := hg yq (List.mem_of_getElem? hq.get)
            unfold Good at hgy hgq
            have a1 := hq.h1; have a2 := hq.h2; have b1 := hCV.h1; have b2 := hCV.h2
            have hpos : decide (0 < (dn.length : Int)) = true := decide_eq_true (by omega)
            simp only [hpos, if_true]
            rw [chkT (inB_iff.2 (by rw [W_in (by omega) (by omega)]; omega)), chkT (inB_iff.2 (by rw [W_in (by omega) (by omega)]; omega)), hnq, compareCalls_is, callOrder_is q p (by omega) (by omega)]
            simp only [Option.bind_some]
            by_cases hc : 0 ≤ cC q p
            · simp only [hc, decide_true, if_true]
              exact ⟨7, rfl, rfl, fun h => by cases h⟩
            · simp only [hc, decide_false, Bool.false_eq_true, if_false]
              refine rest fun d' q' h' => ?_
              rw [hd] at h'
              have h4 := List.append_inj' h' rfl
              have : q = q' := by simpa using h4.2
              subst this
              omega
        · simp only [hh, Bool.not_false, if_true]
          exact ⟨1, rfl, rfl, fun h => by cases h⟩
theorem distinct_l (l : List GItem) : ∀ (ys dn : List GItem) (m : List (ByteArray × Bool)), l = dn ++ ys → (∀ k, mgetD m k false = dn.any fun x => decide (x.Key = k)) → session_CheckItems_l1 (fun _ => some 0) ys dn.length m = some 0 → dn.Pairwise (fun a b => a.Key ≠ b.Key) → l.Pairwise fun a b => a.Key ≠ b.Key
  | [], dn, m, hl, _, _, hp => by rw [List.append_nil] at hl; rw [hl]; exact hp
  | y :: ys, dn, m, hl, hm, h, hp => by
    obtain ⟨b, e1, _⟩ := isKey_eq y.Key
    rw [session_CheckItems_l1, e1] at h
    simp only [Option.bind_some] at h
    cases b with
    | false => simp at h
    | true =>
      simp only [Bool.not_true, Bool.false_eq_true, if_false] at h
      cases hk : mgetD m y.Key false with
      | true => rw [hk] at h; simp at h
      | false =>
        rw [hk] at h
        simp only [Bool.false_eq_true, if_false] at h
        split at h
        · cases h
        · have hk2 := hk
          rw [hm, List.any_eq_false] at hk2
          refine distinct_l l ys (dn ++ [y]) (mput m y.Key true) (by rw [hl]; simp) (fun k => ?_) ?_ (List.pairwise_append.2 ⟨hp, by simp, fun x hx z hz => ?_⟩)
          · rw [mgetD_put, List.any_append, ← hm]
            by_cases hk3 : k = y.Key
            · simp [hk3]
            · have : ¬ y.Key = k := fun e => hk3 e.symm
              simp [hk3, this]
          · rw [List.length_append, List.length_singleton]; exact h
          · rw [List.mem_singleton] at hz
            subst hz
            simpa using hk2 x hx
theorem distinct {l : List GItem} (h : session_CheckItems l = some 0) : l.Pairwise fun a b => a.Key ≠ b.Key := by
  unfold session_CheckItems at h
  split at h
  · cases h
  · exact distinct_l l l [] [] rfl (fun _ => rfl) h List.Pairwise.nil
theorem swims_eq (items : List GItem) (l : List GCall) : ∃ e, session_CheckSwims items l = some e ∧ tumbref2_CallsFault items l = some e ∧
    (e = 0 → items.length ≤ 100 ∧ (∀ x ∈ items, Good x) ∧ (items.Pairwise fun a b => a.Key ≠ b.Key) ∧ l.length ≤ 2000 ∧ (∀ c ∈ l, ∃ k y, CV items c k y) ∧ CAdj l) := by
  unfold session_CheckSwims tumbref2_CallsFault
  obtain ⟨e, h1, h2, h3⟩ := check_eq items
  by_cases he : e = 0
  · subst he
    obtain ⟨hi, hg⟩ := h3 rfl
    have hd := distinct h1
    rw [h1, h2]
    simp only [Option.bind_some, decide_true, Bool.not_true, Bool.false_eq_true, if_false]
    by_cases hl : 2000 < (l.length : Int)
    · rw [if_pos (decide_eq_true hl), if_pos (decide_eq_true hl)]; exact ⟨2, rfl, rfl, fun h => by cases h⟩
    · rw [if_neg (by simpa using hl), if_neg (by simpa using hl), joinR, joinR]
      obtain ⟨e, g1, g2, g3⟩ := swims_loop items hg hi l (by omega) l [] rfl (fun _ h => by cases h) (fun d p q r h => by simp at h)
      exact ⟨e, g1, g2, fun h => ⟨hi, hg, hd, by omega, g3 h⟩⟩
  · rw [h1, h2]
    simp only [Option.bind_some, he, decide_false, Bool.not_false, if_true]
    exact ⟨e, rfl, rfl, fun h => absurd h he⟩
end Go.Proofs.YtoffbgomfcmfmaaGreatDoor
