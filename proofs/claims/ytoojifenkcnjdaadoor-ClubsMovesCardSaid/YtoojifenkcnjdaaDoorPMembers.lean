/- Members, by both. No program stands here but its twins. -/
import Derived.Test.YtoojifenkcnjdaaDoorPMoves
namespace Go.Proofs.YtoojifenkcnjdaaDoor
open Go
theorem members_loop (l : List GMove) (hl : l.length ≤ 1000) (hs : MSorted l) (day : Int) (club : ByteArray) : ∀ (ys dn : List GMove) (x : List ByteArray), l = dn ++ ys → x.length ≤ dn.length →
    (∀ v ∈ x, ∃ m ∈ dn, m.Who = v) → (∀ m ∈ dn, tumbref2_ClubFor l m.Who day = club → m.Who ∈ x) →
    ∃ z, swimmer_Members_l1 l day club (fun x => some (x, 0)) ys dn.length x = some (z, 0) ∧ tumbref2_MembersOf_l1 l day club (fun x => some x) ys dn.length x = some z := by
  intro ys
  induction ys with
  | nil => intro dn x _ _ _ _; exact ⟨x, rfl, rfl⟩
  | cons y ys ih =>
    intro dn x h1 h2 h3 h4
    rw [swimmer_Members_l1, tumbref2_MembersOf_l1]
    have hdl : dn.length ≤ 1000 := by rw [h1] at hl; simp at hl; omega
    simp only [join_eq, club_eq, contains_str]
    -- is somebody of that name there already?
    have hmem : ∀ (hc : tumbref2_ClubFor l y.Who day = club), (x.any fun v => decide (y.Who = v)) = dn.any fun m => decide (m.Who = y.Who) := by
      intro hc
      rw [Bool.eq_iff_iff, List.any_eq_true, List.any_eq_true]
      constructor
      · rintro ⟨v, hv, he⟩
        obtain ⟨m, hm, rfl⟩ := h3 v hv
        exact ⟨m, hm, by simpa using (of_decide_eq_true he).symm⟩
      · rintro ⟨m, hm, he⟩
        have he := of_decide_eq_true he
        exact ⟨m.Who, h4 m hm (by rw [he]; exact hc), by simpa using he.symm⟩
    have hgo : ∀ (b : Bool), (b = true → tumbref2_ClubFor l y.Who day = club) → (b = false → tumbref2_ClubFor l y.Who day = club → y.Who ∈ x) →
        ∃ z, (if b = true then Chk (room x.length) (swimmer_Members_l1 l day club (fun x => some (x, 0)) ys (dn.length + 1) (x ++ [y.Who])) else swimmer_Members_l1 l day club (fun x => some (x, 0)) ys (dn.length + 1) x) = some (z, 0) ∧
          (if b = true then Chk (room x.length) (tumbref2_MembersOf_l1 l day club (fun x => some x) ys (dn.length + 1) (x ++ [y.Who])) else tumbref2_MembersOf_l1 l day club (fun x => some x) ys (dn.length + 1) x) = some z := by
      intro b hb hb'
      cases b with
      | true =>
        rw [if_pos rfl, if_pos rfl, chk_pos (by unfold room; simp; omega), chk_pos (by unfold room; simp; omega)]
        have := ih (dn ++ [y]) (x ++ [y.Who]) (by rw [h1]; simp) (by simp; omega) (fun v hv => by
          rcases List.mem_append.1 hv with h | h
          · obtain ⟨m, hm, e⟩ := h3 v h; exact ⟨m, List.mem_append.2 (.inl hm), e⟩
          · rw [List.mem_singleton] at h; exact ⟨y, by simp, h.symm⟩) (fun m hm hc => by
          rcases List.mem_append.1 hm with h | h
          · exact List.mem_append.2 (.inl (h4 m h hc))
          · rw [List.mem_singleton] at h; subst h; simp)
        rw [List.length_append, List.length_singleton] at this
        exact this
      | false =>
        rw [if_neg (by simp), if_neg (by simp)]
        have := ih (dn ++ [y]) x (by rw [h1]; simp) (by simp; omega) (fun v hv => by
          obtain ⟨m, hm, e⟩ := h3 v hv; exact ⟨m, List.mem_append.2 (.inl hm), e⟩) (fun m hm hc => by
          rcases List.mem_append.1 hm with h | h
          · exact h4 m h hc
          · rw [List.mem_singleton] at h; subst h; exact hb' rfl hc)
        rw [List.length_append, List.length_singleton] at this
        exact this
    have hR : ∀ q : Bool, (tumbref2_ClubFor l y.Who day = club → q = (dn.any fun m => decide (m.Who = y.Who))) → (decide (tumbref2_ClubFor l y.Who day = club) && !q) = (decide (tumbref2_ClubFor l y.Who day = club) && !(dn.any fun m => decide (m.Who = y.Who))) := by
      intro q hq
      by_cases hc : tumbref2_ClubFor l y.Who day = club
      · rw [hq hc]
      · simp [hc]
    rw [hR _ hmem]
    have hin : (dn.any fun m => decide (m.Who = y.Who)) = true → tumbref2_ClubFor l y.Who day = club → y.Who ∈ x := by
      intro h hc
      obtain ⟨m, hm, he⟩ := List.any_eq_true.1 h
      have he := of_decide_eq_true he
      rw [← he] at hc ⊢
      exact h4 m hm hc
    rcases List.eq_nil_or_concat dn with rfl | ⟨d, p, rfl⟩
    · simp only [List.length_nil, Int.natCast_zero, decide_true, if_true, List.any_nil, Bool.not_false, Bool.and_true]
      have := hgo (decide (tumbref2_ClubFor l y.Who day = club)) (fun h => by simpa using h) (fun h hc => by simp [hc] at h)
      simpa using this
    · simp only [List.concat_eq_append] at *
      have hlen : ((d ++ [p]).length : Int) = (d.length : Int) + 1 := by simp
      have hw : W (((d ++ [p]).length : Int) - 1) = (d.length : Int) := by rw [hlen, W_in (by omega) (by simp at hdl; omega)]; omega
      have hnp : nth l (d.length : Int) = p := by unfold nth; rw [h1]; simp
      have hi : inB (d.length : Int) l.length = true := by rw [inB_iff, h1]; simp; omega
      have hz : decide (((d ++ [p]).length : Int) = 0) = false := by rw [hlen]; simp; omega
      have hany : ((d ++ [p]).any fun m => decide (m.Who = y.Who)) = decide (p.Who = y.Who) := by
        by_cases hw : p.Who = y.Who
        · simp [hw]
        · have := sorted_before (q := y) (dn := d) (p := p) (ys := ys) hs (by rw [h1]; simp) hw
          rw [decide_eq_false hw, List.any_eq_false]
          intro m hm
          simpa using this m hm
      simp only [hz, hw, chk_pos hi, hnp, Bool.false_eq_true, if_false, hany] at hin ⊢
      cases hpw : decide (p.Who = y.Who) with
      | true =>
        have := hgo false (fun h => by cases h) (fun _ hc => hin hpw hc)
        simpa using this
      | false =>
        have := hgo (decide (tumbref2_ClubFor l y.Who day = club)) (fun h => by simpa using h) (fun h hc => by simp [hc] at h)
        simpa using this
end Go.Proofs.YtoojifenkcnjdaaDoor
