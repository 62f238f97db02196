/- The program's check of swimmers is the reference's. Conditions: the twins of package swimmer and of the reference. -/
import Derived.Test.YtkpjakcepffimaaGreatDoorPKey2
namespace Go.Proofs.YtkpjakcepffimaaGreatDoor
open Go
theorem key_size {s : ByteArray} (h : tumbref2_Key s = some true) : 1 ≤ s.size := by
  by_cases hs : 1 ≤ s.size ∧ s.size ≤ 40
  · exact hs.1
  · have hin : tumbref2_in (s.size : Int) 1 40 = false := by unfold tumbref2_in; simp; omega
    unfold tumbref2_Key at h
    simp only [join_eq, hin, Bool.false_eq_true, if_false, Bool.false_and] at h
    cases h
theorem sless_empty (s : ByteArray) : Sless s k_empty = false := by
  unfold Sless
  rw [show k_empty.toList = [] by decide +kernel]
  cases s.toList <;> rfl
theorem not_empty {s : ByteArray} (h : 1 ≤ s.size) : s ≠ k_empty := by rintro rfl; exact absurd h (by decide)
def SGood (x : GSwimmer) : Prop := (x.Sex = 1 ∨ x.Sex = 2) ∧ -40000 ≤ x.Born ∧ x.Born ≤ 4000
theorem swim_loop (l : List GSwimmer) (hl : l.length ≤ 1000) : ∀ (ys dn : List GSwimmer) (last : ByteArray), l = dn ++ ys → (dn = [] → last = k_empty) → (∀ d x, dn = d ++ [x] → last = x.Key) →
    ∃ e, swimmer_CheckSwimmers_l1 l (some 0) ys dn.length = some e ∧ tumbref2_SwimmersFault_l1 (some 0) ys dn.length last = some e ∧ (e = 0 → ∀ x ∈ ys, SGood x) := by
  intro ys
  induction ys with
  | nil => intro dn last _ _ _; exact ⟨0, rfl, rfl, fun _ x hx => by cases hx⟩
  | cons y ys ih =>
    intro dn last h1 h2 h3
    rw [swimmer_CheckSwimmers_l1, tumbref2_SwimmersFault_l1]
    obtain ⟨b, e1, e2⟩ := isKey_eq y.Key
    rw [e1, e2]
    simp only [Option.bind_some, join_eq]
    cases b with
    | false => exact ⟨5, rfl, rfl, fun h => by cases h⟩
    | true =>
      have hk := key_size e2
      simp only [Bool.not_true, Bool.false_eq_true, if_false]
      have hrest : ∃ e, (if (((!decide (y.Sex = 1)) && (!decide (y.Sex = 2))) || (!(swimmer_isDay y.Born))) = true then some 1 else swimmer_CheckSwimmers_l1 l (some 0) ys (dn.length + 1)) = some e ∧
          (if ((!(tumbref2_in y.Sex 1 2)) || (!(tumbref2_Day y.Born))) = true then some 1 else tumbref2_SwimmersFault_l1 (some 0) ys (dn.length + 1) y.Key) = some e ∧ (e = 0 → ∀ x ∈ y :: ys, SGood x) := by
        have hc : (((!decide (y.Sex = 1)) && (!decide (y.Sex = 2))) || (!(swimmer_isDay y.Born))) = ((!(tumbref2_in y.Sex 1 2)) || (!(tumbref2_Day y.Born))) := by
          unfold tumbref2_in tumbref2_Day swimmer_isDay words_Within tumbref2_in
          by_cases g1 : y.Sex = 1
          · simp [g1]
          · by_cases g2 : y.Sex = 2
            · simp [g2]
            · have : (decide (1 ≤ y.Sex) && decide (y.Sex ≤ 2)) = false := by simp; omega
              simp [g1, g2, this]
        rw [hc]
        by_cases hg : ((!(tumbref2_in y.Sex 1 2)) || (!(tumbref2_Day y.Born))) = true
        · rw [if_pos hg, if_pos hg]; exact ⟨1, rfl, rfl, fun h => by cases h⟩
        · rw [if_neg hg, if_neg hg]
          obtain ⟨e, g1, g2, g3⟩ := ih (dn ++ [y]) y.Key (by rw [h1]; simp) (fun h => by simp at h) (fun d x h => by have := List.append_inj' h rfl; simp at this; rw [this.2])
          rw [List.length_append, List.length_singleton] at g1 g2
          refine ⟨e, g1, g2, fun h x hx => ?_⟩
          rcases List.mem_cons.1 hx with rfl | hx
          · unfold tumbref2_in tumbref2_Day tumbref2_in at hg
            simp at hg
            exact ⟨by omega, by omega, by omega⟩
          · exact g3 h x hx
      rcases List.eq_nil_or_concat dn with rfl | ⟨d, x, rfl⟩
      · rw [h2 rfl, sless_empty]
        simp only [List.length_nil, Int.natCast_zero, Int.lt_irrefl, decide_false, Bool.false_eq_true, if_false, Bool.false_and, Bool.false_or, decide_eq_true_eq, not_empty hk]
        simpa using hrest
      · have hx : last = x.Key := h3 d x (by simp)
        have hlen : ((d.concat x).length : Int) = (d.length : Int) + 1 := by simp
        have hn : nth l (W (((d.concat x).length : Int) - 1)) = x := by
          rw [hlen, show (d.length : Int) + 1 - 1 = (d.length : Int) by omega, W_in (by omega) (by rw [h1] at hl; simp at hl; omega)]
          unfold nth
          rw [h1]; simp
        have hin : inB (W (((d.concat x).length : Int) - 1)) l.length = true := by
          rw [hlen, show (d.length : Int) + 1 - 1 = (d.length : Int) by omega, W_in (by omega) (by rw [h1] at hl; simp at hl; omega)]
          rw [inB_iff, h1]; simp; omega
        have hpos : decide (0 < ((d.concat x).length : Int)) = true := by rw [hlen]; simp
        rw [if_pos hpos, chk_pos hin, hn, hpos, hx, Bool.true_and]
        cases hc : (Sless y.Key x.Key || decide (y.Key = x.Key)) with
        | true => simp only [if_true]; exact ⟨7, rfl, rfl, fun h => by cases h⟩
        | false => simpa using hrest
theorem swim_eq (l : List GSwimmer) : ∃ e, swimmer_CheckSwimmers l = some e ∧ tumbref2_SwimmersFault l = some e ∧ (e = 0 → ∀ x ∈ l, SGood x) := by
  unfold swimmer_CheckSwimmers tumbref2_SwimmersFault
  by_cases h : 500 < (l.length : Int)
  · rw [if_pos (decide_eq_true h), if_pos (decide_eq_true h)]
    exact ⟨2, rfl, rfl, fun h => by cases h⟩
  · rw [if_neg (by simpa using h), if_neg (by simpa using h)]
    simp only [join_eq]
    exact swim_loop l (by omega) l [] k_empty rfl (fun _ => rfl) (fun d x h => by simp at h)
end Go.Proofs.YtkpjakcepffimaaGreatDoor
