/- The plain law of HeatsDoNotOverlap. No program stands here but its twins. -/
import Derived.Test.YtolmdpjkmjfjdaaGreatDoorPLive
import Derived.Test.YtolmdpjkmjfjdaaGreatDoorPStr
import Derived.Test.YtolmdpjkmjfjdaaGreatDoorPReady
namespace Go.Proofs.YtolmdpjkmjfjdaaGreatDoor
open Go
/-! ### Items -/
def fiveI : List ByteArray := [k_ic, k_ia, k_id, k_ib, k_ie]
theorem five_i {s : ByteArray} (h : s ∈ fiveI) : words_IsKey s = some true := by
  simp only [fiveI, List.mem_cons, List.not_mem_nil, or_false] at h
  rcases h with rfl | rfl | rfl | rfl | rfl <;> decide +kernel
def ItOk (x : GItem) : Prop := Good x ∧ x.Key ∈ fiveI
theorem items_chk : ∀ (ys : List GItem) (i : Nat) (m : List (ByteArray × Bool)), (∀ x ∈ ys, ItOk x ∧ mgetD m x.Key false = false) → ys.Pairwise (fun a b => a.Key ≠ b.Key) → session_CheckItems_l1 (fun _ => some 0) ys i m = some 0
  | [], _, _, _, _ => rfl
  | y :: ys, i, m, h, hp => by
    rw [session_CheckItems_l1]
    obtain ⟨⟨hg, hk⟩, hm⟩ := h y List.mem_cons_self
    rw [List.pairwise_cons] at hp
    rw [five_i hk]
    have hr : ((((!(words_Within y.Heats 1 60)) || (!(words_Within y.Long 1 3600000))) || (!(words_Within y.Gap 0 3600000))) || (!(words_Within y.Break 0 3600000))) = false := by
      unfold Good at hg
      unfold words_Within
      simp [hg]
    simp only [Option.bind_some, Bool.not_true, Bool.false_eq_true, if_false, hm, hr]
    refine items_chk ys (i + 1) _ (fun x hx => ⟨(h x (List.mem_cons_of_mem _ hx)).1, ?_⟩) hp.2
    rw [mgetD_put, if_neg (fun e => hp.1 x hx e.symm)]
    exact (h x (List.mem_cons_of_mem _ hx)).2
section
variable {L : List Int} (hL : LongL L)
include hL
theorem right_items_l : ∀ (ys : List ByteArray) (i : Nat) (x1 : List GItem) (a : Int), 0 ≤ a → a + 5 * ys.length ≤ 1000000000000 → x1.length + ys.length ≤ 1000 → (∀ y ∈ ys, y ∈ fiveI) → ys.Pairwise (fun a b => a ≠ b) → (∀ x ∈ x1, ItOk x ∧ ∀ y ∈ ys, x.Key ≠ y) → x1.Pairwise (fun a b => a.Key ≠ b.Key) →
    ∃ x b, Stream_RightItems_l1 L (fun x a => some (x, a)) ys i x1 a = some (x, b) ∧ a ≤ b ∧ b ≤ a + 5 * ys.length ∧ x.length ≤ x1.length + ys.length ∧ (∀ z ∈ x, ItOk z) ∧ x.Pairwise (fun a b => a.Key ≠ b.Key)
  | [], i, x1, a, _, _, _, _, _, h5, h6 => ⟨x1, a, rfl, Int.le_refl _, by simp, by simp, fun z hz => (h5 z hz).1, h6⟩
  | y :: ys, i, x1, a, h0, h1, h2, h3, h4, h5, h6 => by
    rw [Stream_RightItems_l1]
    rw [List.pairwise_cons] at h4
    simp only [List.length_cons] at h1 h2 ⊢
    obtain ⟨f, b, e, g1, g2, _⟩ := flip_dr hL h0 (by omega) 6 (by omega)
    rw [e]; simp only [Option.bind_some, join_eq]
    cases f with
    | true =>
      rw [if_neg (by simp)]
      obtain ⟨x, c, e', g3, g4, g5, g6, g7⟩ := right_items_l ys (i + 1) x1 b (by omega) (by omega) (by omega) (fun z hz => h3 z (List.mem_cons_of_mem _ hz)) h4.2 (fun x hx => ⟨(h5 x hx).1, fun z hz => (h5 x hx).2 z (List.mem_cons_of_mem _ hz)⟩) h6
      exact ⟨x, c, e', by omega, by omega, by omega, g6, g7⟩
    | false =>
      rw [if_pos (by simp)]
      obtain ⟨s, b2, e2, g3, g4, q2⟩ := pick_dr hL (a := b) (by omega) (by omega) [1, 1, 2, 3] (by simp) (by simp)
      rw [e2]; simp only [Option.bind_some]
      obtain ⟨t, b3, e3, g5, g6, q3⟩ := pick_dr hL (a := b2) (by omega) (by omega) [50, 100] (by simp) (by simp)
      rw [e3]; simp only [Option.bind_some]
      obtain ⟨u, b4, e4, g7, g8, q4⟩ := pick_dr hL (a := b3) (by omega) (by omega) [0, 10, 60] (by simp) (by simp)
      rw [e4]; simp only [Option.bind_some]
      obtain ⟨v, b5, e5, g9, g10, q5⟩ := pick_dr hL (a := b4) (by omega) (by omega) [0, 20, 50, 200] (by simp) (by simp)
      rw [e5]; simp only [Option.bind_some]
      rw [chk_pos (by unfold room; simp; omega)]
      simp only [List.mem_cons, List.not_mem_nil, or_false] at q2 q3 q4 q5
      have hit : ItOk (GItem.mk y s t u v) := ⟨by unfold Good; simp only; omega, h3 y List.mem_cons_self⟩
      obtain ⟨x, c, e', g11, g12, g13, g14, g15⟩ := right_items_l ys (i + 1) (x1 ++ [GItem.mk y s t u v]) b5 (by omega) (by omega) (by simp; omega) (fun z hz => h3 z (List.mem_cons_of_mem _ hz)) h4.2
        (fun x hx => by
          rcases List.mem_append.1 hx with h | h
          · exact ⟨(h5 x h).1, fun z hz => (h5 x h).2 z (List.mem_cons_of_mem _ hz)⟩
          · rw [List.mem_singleton] at h; subst h; exact ⟨hit, fun z hz => h4.1 z hz⟩)
        (List.pairwise_append.2 ⟨h6, by simp, fun x hx z hz => by rw [List.mem_singleton] at hz; subst hz; exact (h5 x hx).2 y List.mem_cons_self⟩)
      simp only [List.length_append, List.length_singleton] at g13
      exact ⟨x, c, e', by omega, by omega, by omega, g14, g15⟩
theorem right_items_dr {a : Int} (h0 : 0 ≤ a) (h1 : a ≤ 100000000) : Dr a 25 (fun x => x.length ≤ 5 ∧ (∀ z ∈ x, ItOk z) ∧ x.Pairwise (fun a b => a.Key ≠ b.Key)) (Stream_RightItems L a 5) := by
  unfold Stream_RightItems
  rw [chk_pos (by decide +kernel), join_eq]
  have hc : cut ([k_ic, k_ia, k_id, k_ib, k_ie] : List ByteArray) 0 5 = fiveI := rfl
  rw [hc]
  obtain ⟨x, c, e', g7, g8, g9, g10, g11⟩ := right_items_l hL fiveI 0 [] a h0 (by simp [fiveI]; omega) (by simp [fiveI]) (fun _ h => h) (by decide +kernel) (fun _ h => by cases h) List.Pairwise.nil
  exact ⟨x, c, e', g7, by simp [fiveI] at g8; omega, by simpa [fiveI] using g9, g10, g11⟩
/-! ### Heats that were held -/
def AtOk (v : Int) : Prop := v ≤ 10000 ∨ 345686400000 < v
end
/-! ### The live timetable -/
/-! ### The law's own loops -/
end Go.Proofs.YtolmdpjkmjfjdaaGreatDoor
