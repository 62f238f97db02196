/- Pauses. No program stands here but its twins. -/
import Derived.Test.YtfejddpblajggaaDoorPFits2
namespace Go.Proofs.YtfejddpblajggaaDoor
open Go

def pz (least : Int) : GSlot → List GSlot → List GWindow
  | _, [] => []
  | p, y :: ys => (if least ≤ W (y.Time.From - p.Time.To) then [GWindow.mk p.Time.To y.Time.From] else []) ++ pz least y ys
theorem nth_mid {α : Type} [Inhabited α] (d ys : List α) (y : α) : nth (d ++ y :: ys) (d.length : Int) = y := by
  unfold nth
  rw [Int.toNat_natCast]
  simp [List.getD]
theorem pause_prog (r : (List GSlot) × Int) (least : Int) (j1 : List GWindow → Option (List GWindow × Int)) (hs : r.1.length < 1000000) : ∀ (ys d : List GSlot) (p : GSlot) (m : Nat) (x1 : List GWindow), r.1 = d ++ p :: ys → ys.length < m → x1.length + ys.length < 1073741824 →
    session_Pauses_l1 r least j1 m x1 ((d.length + 1 : Nat) : Int) = j1 (x1 ++ pz least p ys) := by
  intro ys
  induction ys with
  | nil =>
    intro d p m x1 hl hm hr
    obtain ⟨m', rfl⟩ : ∃ m', m = m' + 1 := ⟨m - 1, by omega⟩
    rw [session_Pauses_l1, if_neg (by rw [hl]; simp)]
    simp [pz]
  | cons y ys ih =>
    intro d p m x1 hl hm hr
    obtain ⟨m', rfl⟩ : ∃ m', m = m' + 1 := ⟨m - 1, by omega⟩
    have hlen : r.1.length = d.length + ys.length + 2 := by rw [hl]; simp; omega
    have w0 : W (((d.length + 1 : Nat) : Int) - 1) = (d.length : Int) := by rw [W_in (by omega) (by omega)]; push_cast; omega
    have w1 : W (((d.length + 1 : Nat) : Int) + 1) = ((d.length + 1 + 1 : Nat) : Int) := by rw [W_in (by omega) (by omega)]; push_cast; omega
    have n0 : nth r.1 (d.length : Int) = p := by rw [hl]; exact nth_mid d (y :: ys) p
    have n1 : nth r.1 ((d.length + 1 : Nat) : Int) = y := by
      have := nth_mid (d ++ [p]) ys y
      rw [hl]
      simpa using this
    have hroom : room x1.length = true := by unfold room; simp at hr ⊢; omega
    rw [session_Pauses_l1, if_pos (by rw [hlen]; simp; omega)]
    simp only [join_eq]
    rw [w0, chk_pos (inB_iff.2 ⟨by omega, by omega⟩), chk_pos (inB_iff.2 ⟨by omega, by omega⟩), n0, n1, w1]
    have hl2 : r.1 = (d ++ [p]) ++ y :: ys := by rw [hl]; simp
    simp only [List.length_cons] at hm hr
    by_cases hle : least ≤ W (y.Time.From - p.Time.To)
    · have h := ih (d ++ [p]) y m' (x1 ++ [GWindow.mk p.Time.To y.Time.From]) hl2 (by omega) (by simp; omega)
      rw [List.length_append, List.length_singleton] at h
      rw [if_pos (decide_eq_true hle), chk_pos hroom, h]
      simp [pz, hle]
    · have h := ih (d ++ [p]) y m' x1 hl2 (by omega) (by omega)
      rw [List.length_append, List.length_singleton] at h
      rw [if_neg (by simpa using hle), h]
      simp [pz, hle]
theorem pause_doc (r : List GSlot) (least : Int) (hs : r.length < 1000000) : ∀ (ys d : List GSlot) (p : GSlot) (x1 : List GWindow), r = d ++ p :: ys → x1.length + ys.length < 1073741824 →
    tumbref2_PausesOf_l1 r least (fun x => some x) ys (d.length + 1) x1 = some (x1 ++ pz least p ys) := by
  intro ys
  induction ys with
  | nil => intro d p x1 _ _; simp [tumbref2_PausesOf_l1, pz]
  | cons y ys ih =>
    intro d p x1 hl hr
    have hlen : r.length = d.length + ys.length + 2 := by rw [hl]; simp; omega
    have w0 : W (((d.length + 1 : Nat) : Int) - 1) = (d.length : Int) := by rw [W_in (by omega) (by omega)]; push_cast; omega
    have n0 : nth r (d.length : Int) = p := by rw [hl]; exact nth_mid d (y :: ys) p
    have hroom : room x1.length = true := by unfold room; simp at hr ⊢; omega
    have hb : inB (d.length : Int) r.length = true := inB_iff.2 ⟨by omega, by omega⟩
    rw [tumbref2_PausesOf_l1]
    simp only [join_eq]
    rw [if_pos (by simp), w0, chk_pos hb, n0]
    have hl2 : r = (d ++ [p]) ++ y :: ys := by rw [hl]; simp
    simp only [List.length_cons] at hr
    by_cases hle : least ≤ W (y.Time.From - p.Time.To)
    · have h := ih (d ++ [p]) y (x1 ++ [GWindow.mk p.Time.To y.Time.From]) hl2 (by simp; omega)
      rw [List.length_append, List.length_singleton] at h
      rw [if_pos (decide_eq_true hle), chk_pos hb, chk_pos hroom, h]
      simp [pz, hle]
    · have h := ih (d ++ [p]) y x1 hl2 (by omega)
      rw [List.length_append, List.length_singleton] at h
      rw [if_neg (by simpa using hle), h]
      simp [pz, hle]
theorem pauses_law (l : List GItem) (t least : Int) : ∃ e f s q, tumbref2_ItemsFault l = some e ∧ session_Timetable l t = some (s, f) ∧ session_Pauses l t least = some q ∧ q.2 = tumblaw2_errs [f, tumblaw2_when (decide (least < 1) || decide (3600000 < least)) 1] ∧
    (q.2 = 0 → tumbref2_PausesOf l t least = some q.1) ∧ (q.2 ≠ 0 → q.1 = []) := by
  obtain ⟨e, f, s, h1, h2, h3, _, _, h5, h6, _⟩ := timetable_law l t
  simp only [errs2]
  have hw : words_Within least 1 3600000 = !(decide (least < 1) || decide (3600000 < least)) := by
    unfold words_Within
    rw [Bool.eq_iff_iff]
    simp
  by_cases hf : f = 0
  · obtain ⟨he, g0, g1, rfl⟩ := h6 hf
    obtain ⟨_, hl, hg⟩ := h5 he
    subst hf
    have htl := tt_len l t hg
    cases hc : (decide (least < 1) || decide (3600000 < least)) with
    | true =>
      refine ⟨e, 0, tt l t, ([], 1), h1, h3, ?_, by simp [tumblaw2_when], fun h => absurd h (by decide), fun _ => rfl⟩
      unfold session_Pauses
      rw [h3]
      simp [hw, hc]
    | false =>
      have key : ∀ x1 j1 (k : List GWindow → Option (List GWindow × Int)), (x1 : List GWindow) = [] → j1 = k →
          session_Pauses_l1 (tt l t, 0) least j1 ((((tt l t).length : Int) - 1).toNat + 2) x1 1 = k (match tt l t with | [] => [] | p :: ys => pz least p ys) := by
        rintro x1 j1 k rfl rfl
        cases hs : tt l t with
        | nil => rw [session_Pauses_l1, if_neg (by simp)]
        | cons p ys =>
          have h := pause_prog (p :: ys, 0) least j1 (by show (p :: ys).length < _; rw [← hs]; omega) ys [] p ((((p :: ys).length : Int) - 1).toNat + 2) [] rfl (by simp) (by rw [hs] at htl; simp at htl ⊢; omega)
          simpa using h
      refine ⟨e, 0, tt l t, (match tt l t with | [] => [] | p :: ys => pz least p ys, 0), h1, h3, ?_, by simp [tumblaw2_when], fun _ => ?_, fun h => absurd rfl h⟩
      · unfold session_Pauses
        rw [h3]
        simp only [Option.bind_some, decide_true, Bool.not_true, Bool.false_eq_true, if_false, hw, hc, Bool.not_false, join_eq]
        exact key [] _ _ rfl rfl
      · unfold tumbref2_PausesOf
        rw [slots_eq l t hg hl g0 g1]
        simp only [Option.bind_some, join_eq]
        cases hs : tt l t with
        | nil => rfl
        | cons p ys =>
          rw [tumbref2_PausesOf_l1]
          simp only [join_eq]
          rw [if_neg (by simp), if_neg (by simp)]
          have h := pause_doc (p :: ys) least (by rw [← hs]; omega) ys [] p [] rfl (by rw [hs] at htl; simp at htl ⊢; omega)
          simpa using h
  · refine ⟨e, f, s, ([], f), h1, h3, ?_, by simp [hf], fun h => absurd h hf, fun _ => rfl⟩
    unfold session_Pauses
    rw [h3]
    simp [hf]
end Go.Proofs.YtfejddpblajggaaDoor
