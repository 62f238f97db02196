/- What the stream gives of ranks, wrong ones too. Conditions: the place is not far. -/
import Derived.Test.YtcnneeipmadakaaGreatDoorPPtsC
namespace Go.Proofs.YtcnneeipmadakaaGreatDoor
open Go
theorem nth_mem {α : Type} [Inhabited α] {l : List α} {e : Int} (h : inB e l.length = true) : nth l e ∈ l := List.mem_of_getElem? (inB_get h).1
section
variable {L : List Int} (hL : LongL L)
include hL
structure SR (l : List GScored) : Prop where
  len : l.length ≤ 15
  size : ∀ x ∈ l, x.Race.size ≤ 1000 ∧ x.Who.size ≤ 1000
  who : l.length ≤ 12 ∨ ∀ x ∈ l, x.Who ∈ k_A :: fiveP
  club : ∀ x ∈ l, x.Club ∈ k_A :: clubP
omit hL in
theorem rune_size : ∀ i : Fin 12, (Utf8.encode (IntKind.wrap .i32 (W (97 + (i.val : Int))))).size ≤ 1000 := by decide +kernel
omit hL in
theorem size_small {s : ByteArray} (h : s ∈ raceP ∨ s ∈ fiveP ∨ s = k_empty ∨ s = k_A) : s.size ≤ 1000 := by
  have g : ∀ s ∈ raceP ++ fiveP ++ [k_empty, k_A], s.size ≤ 1000 := by decide +kernel
  refine g s ?_
  simp only [List.mem_append, List.mem_cons, List.not_mem_nil, or_false]
  rcases h with h | h | h | h
  · exact .inl (.inl h)
  · exact .inl (.inr h)
  · exact .inr (.inl h)
  · exact .inr (.inr h)
theorem many_l (r3 : Int × Int) (hr : r3.1 ≤ 12) (j : List GScored → Int → Option (List GScored × Int)) : ∀ (d m : Nat) (x : List GScored) (a i : Int), r3.1 ≤ i + d → d < m → 0 ≤ i → i = x.length → x.length ≤ 12 → 0 ≤ a → a + d ≤ 100000 → SR x →
    ∃ z b, Stream_Scored_l1 r3 L j m x a i = j z b ∧ a ≤ b ∧ b ≤ a + d ∧ SR z
  | d, 0, x, a, i, _, h, _, _, _, _, _, _ => by omega
  | d, m + 1, x, a, i, h1, h2, h3, h4, h5, h6, h7, h8 => by
    rw [Stream_Scored_l1]
    by_cases hi : i < r3.1
    · rw [if_pos (decide_eq_true hi)]
      obtain ⟨c, b, e, g1, g2, g3⟩ := some_dr hL (a := a) h6 (by omega) [k_blue, k_red] (by simp) (by simp)
      rw [e]; simp only [Option.bind_some]
      rw [chk_pos (by unfold room; simp; omega), W_in (n := i + 1) (by omega) (by omega)]
      have hsz := rune_size ⟨x.length, by omega⟩
      simp only at hsz
      rw [← h4] at hsz
      obtain ⟨z, b', e', g4, g5, g6⟩ := many_l r3 hr j (d - 1) m (x ++ [GScored.mk k_ra (Utf8.encode (IntKind.wrap .i32 (W (97 + i)))) c 1 false]) b (i + 1) (by omega) (by omega) (by omega) (by simp; omega) (by simp; omega) (by omega) (by omega)
        ⟨by simp; omega, fun y hy => by
          rcases List.mem_append.1 hy with hy | hy
          · exact h8.size y hy
          · obtain rfl := List.mem_singleton.1 hy
            exact ⟨size_small (.inl (by simp [raceP])), hsz⟩, .inl (by simp; omega), fun y hy => by
          rcases List.mem_append.1 hy with hy | hy
          · exact h8.club y hy
          · obtain rfl := List.mem_singleton.1 hy
            simp only [List.mem_cons, List.not_mem_nil, or_false] at g3
            rcases g3 with rfl | rfl <;> simp [clubP]⟩
      exact ⟨z, b', e', by omega, by omega, g6⟩
    · rw [if_neg (by simpa using hi)]
      exact ⟨x, a, rfl, by omega, by omega, h8⟩
omit hL in
theorem SR.set {l : List GScored} (h : SR l) {i : Int} (h0 : 0 ≤ i) (hi : i < l.length) (y : GScored) (h1 : y.Race.size ≤ 1000 ∧ y.Who.size ≤ 1000) (h2 : y.Who = (nth l i).Who ∨ y.Who ∈ k_A :: fiveP) (h3 : y.Club ∈ k_A :: clubP) : SR (l.set i.toNat y) := by
  have hn : nth l i ∈ l := nth_mem (inB_iff.2 ⟨h0, hi⟩)
  refine ⟨by rw [List.length_set]; exact h.len, fun x hx => ?_, ?_, fun x hx => ?_⟩
  · rcases List.mem_or_eq_of_mem_set hx with hx | rfl
    · exact h.size x hx
    · exact h1
  · rw [List.length_set]
    rcases h.who with hw | hw
    · exact .inl hw
    · right; intro x hx
      rcases List.mem_or_eq_of_mem_set hx with hx | rfl
      · exact hw x hx
      · rcases h2 with h2 | h2
        · rw [h2]; exact hw _ hn
        · exact h2
  · rcases List.mem_or_eq_of_mem_set hx with hx | rfl
    · exact h.club x hx
    · exact h3
theorem anyScored_dr {a : Int} (h0 : 0 ≤ a) (h1 : a ≤ 10000) : Dr a 80 SR (Stream_Scored L a) := by
  unfold Stream_Scored
  obtain ⟨l, b, e, g1, g2, Gs, g3, g4⟩ := scored_dr hL (a := a) h0 (by omega)
  rw [e]; simp only [Option.bind_some]
  have hl : SR l := by
    rw [g3]
    refine ⟨g4.len, fun x hx => ?_, .inr fun x hx => ?_, fun x hx => ?_⟩
    · obtain ⟨r1, r2, _⟩ := g4.row x hx
      exact ⟨size_small (.inl r1), size_small (.inr (.inl r2))⟩
    · exact List.mem_cons_of_mem _ (g4.row x hx).2.1
    · exact List.mem_cons_of_mem _ (g4.row x hx).2.2.1
  obtain ⟨f, b1, e1, g5, g6, _⟩ := flip_dr hL (a := b) (by omega) (by omega) 20 (by omega)
  rw [e1]; simp only [Option.bind_some]
  have fin : ∀ (F : Int → List GScored → Option (List GScored × Int)), (∀ c x, a ≤ c → c ≤ a + 70 → SR x → Dr a 80 SR (F c x)) → Dr a 80 SR (Join F (fun j1 => if f = true then Option.bind (Stream_Range L b1 9 12) (fun r3 => Join (fun (x3 : List GScored) (x4 : Int) => j1 x4 x3) (fun j2 => Stream_Scored_l1 r3 L j2 ((r3.1 - 0).toNat + 2) ([] : List GScored) r3.2 0)) else j1 b1 l)) := by
    intro F hF
    rw [join_eq]
    cases f with
    | false => rw [if_neg (by simp)]; exact hF b1 l (by omega) (by omega) hl
    | true =>
      rw [if_pos rfl]
      obtain ⟨n, b2, e2, g7, g8, g9, g10⟩ := range_dr hL (a := b1) (by omega) (by omega) 9 12 (by omega) (by omega) (by omega)
      rw [e2]; simp only [Option.bind_some, join_eq]
      obtain ⟨z, b3, e3, g11, g12, g13⟩ := many_l hL (n, b2) (by simp only; omega) (fun (x3 : List GScored) (x4 : Int) => F x4 x3) n.toNat ((n - 0).toNat + 2) [] b2 0 (by simp only; omega) (by omega) (by omega) rfl (by simp) (by omega) (by omega) ⟨by simp, (fun _ h => by cases h), .inl (by simp), (fun _ h => by cases h)⟩
      rw [e3]
      exact hF b3 z (by omega) (by omega) g13
  refine fin _ fun c x hc1 hc2 hx => ?_
  simp only [join_eq]
  have hxl := hx.len
  by_cases hp : 0 < (x.length : Int)
  · rw [if_pos (decide_eq_true hp)]
    obtain ⟨f2, b2, e2, g7, g8, _⟩ := flip_dr hL (a := c) (by omega) (by omega) 12 (by omega)
    rw [e2]; simp only [Option.bind_some]
    cases f2 with
    | false => rw [if_neg (by simp)]; exact ⟨x, b2, rfl, by omega, by omega, hx⟩
    | true =>
      rw [if_pos rfl]
      obtain ⟨i, b3, e3, g9, g10, g11, g12⟩ := next_dr hL (a := b2) (by omega) (by omega) (x.length : Int) (by omega)
      rw [e3]; simp only [Option.bind_some]
      have hi : i < x.length := by omega
      rw [chk_pos (inB_iff.2 ⟨g11, hi⟩)]
      have hn : nth x i ∈ x := nth_mem (inB_iff.2 ⟨g11, hi⟩)
      have hns := hx.size _ hn
      have hnc := hx.club _ hn
      obtain ⟨k, b4, e4, g13, g14, _⟩ := next_dr hL (a := b3) (by omega) (by omega) 4 (by omega)
      rw [e4]; simp only [Option.bind_some]
      split
      · obtain ⟨s, b5, e5, g15, g16, g17⟩ := some_dr hL (a := b4) (by omega) (by omega) [(nth x i).Race, k_empty, k_ra] (by simp) (by simp)
        rw [e5]; simp only [Option.bind_some]
        obtain ⟨w, b6, e6, g18, g19, g20⟩ := some_dr hL (a := b5) (by omega) (by omega) [(nth x i).Who, k_A, k_ann] (by simp) (by simp)
        rw [e6]; simp only [Option.bind_some]
        simp only [List.mem_cons, List.not_mem_nil, or_false] at g17 g20
        have hss : s.size ≤ 1000 := by
          rcases g17 with rfl | rfl | rfl
          · exact hns.1
          · exact size_small (.inr (.inr (.inl rfl)))
          · exact size_small (.inl (by simp [raceP]))
        have hws : w.size ≤ 1000 ∧ (w = (nth x i).Who ∨ w ∈ k_A :: fiveP) := by
          rcases g20 with rfl | rfl | rfl
          · exact ⟨hns.2, .inl rfl⟩
          · exact ⟨size_small (.inr (.inr (.inr rfl))), .inr (by simp)⟩
          · exact ⟨size_small (.inr (.inl (by simp [fiveP]))), .inr (by simp [fiveP])⟩
        refine ⟨_, b6, rfl, by omega, by omega, ?_⟩
        have s1 := hx.set g11 hi (GScored.mk s (nth x i).Who (nth x i).Club (nth x i).Rank (nth x i).Relay) ⟨hss, hns.2⟩ (.inl rfl) hnc
        refine s1.set g11 (by rw [List.length_set]; exact hi) _ ⟨hss, hws.1⟩ ?_ hnc
        rw [nth_set g11 hi g11, if_pos rfl]; exact hws.2
      · split
        · obtain ⟨s, b5, e5, g15, g16, g17⟩ := some_dr hL (a := b4) (by omega) (by omega) [k_blue, k_A] (by simp) (by simp)
          rw [e5]; simp only [Option.bind_some]
          refine ⟨_, b5, rfl, by omega, by omega, hx.set g11 hi _ hns (.inl rfl) ?_⟩
          simp only [List.mem_cons, List.not_mem_nil, or_false] at g17
          rcases g17 with rfl | rfl <;> simp [clubP]
        · split
          · obtain ⟨s, b5, e5, g15, g16, _⟩ := odd_dr hL (a := b4) (by omega) (by omega) 0 5 (by omega) (by omega) (by omega)
            rw [e5]; simp only [Option.bind_some]
            exact ⟨_, b5, rfl, by omega, by omega, hx.set g11 hi _ hns (.inl rfl) hnc⟩
          · exact ⟨_, b4, rfl, by omega, by omega, hx.set g11 hi _ hns (.inl rfl) hnc⟩
  · rw [if_neg (by simpa using hp), if_neg (by simp)]
    exact ⟨x, c, rfl, by omega, by omega, hx⟩
end
end Go.Proofs.YtcnneeipmadakaaGreatDoor
