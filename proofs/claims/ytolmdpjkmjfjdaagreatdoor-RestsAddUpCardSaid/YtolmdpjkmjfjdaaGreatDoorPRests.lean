/- The rests of swimmers: the program's are the reference's. No program stands here but its twins. -/
import Derived.Test.YtolmdpjkmjfjdaaGreatDoorPCallsT
namespace Go.Proofs.YtolmdpjkmjfjdaaGreatDoor
open Go
def pr (who : ByteArray) : GSlot → List GSlot → List GRest
  | _, [] => []
  | p, s :: r => GRest.mk who p s (W (s.Time.From - p.Time.To)) :: pr who s r
def prs (who : ByteArray) : List GSlot → List GRest
  | [] => []
  | p :: r => pr who p r
theorem pr_len (who : ByteArray) : ∀ (r : List GSlot) (p : GSlot), (pr who p r).length = r.length
  | [], _ => rfl
  | s :: r, p => by simp [pr, pr_len who r s]
theorem prs_len (who : ByteArray) (l : List GSlot) : (prs who l).length ≤ l.length := by
  cases l with
  | nil => simp [prs]
  | cons p r => simp [prs, pr_len]
theorem pr_l {R : Type} (who : ByteArray) (r : List GSlot) (hr : r.length ≤ 1000000) (j : List GRest → Option R) (F : Nat → List GRest → Int → Option R)
    (h : ∀ m x3 x4, F (m + 1) x3 x4 = if decide (x4 < (r.length : Int)) then Chk (inB (W (x4 - 1)) r.length) (Chk (inB x4 r.length) (Chk (inB x4 r.length) (Chk (inB (W (x4 - 1)) r.length) (Chk (room x3.length) (
      F m (x3 ++ [GRest.mk who (nth r (W (x4 - 1))) (nth r x4) (W ((nth r x4).Time.From - (nth r (W (x4 - 1))).Time.To))]) (W (x4 + 1))))))) else j x3) :
    ∀ (ys dn : List GSlot) (p : GSlot) (m : Nat) (x : List GRest), r = dn ++ p :: ys → ys.length < m → x.length + ys.length ≤ 100000000 → F m x ((dn.length + 1 : Nat) : Int) = j (x ++ pr who p ys)
  | [], dn, p, m, x, e, h1, _ => by
    obtain ⟨m, rfl⟩ : ∃ q, m = q + 1 := ⟨m - 1, by omega⟩
    have hlen : r.length = dn.length + 1 := by rw [e]; simp
    rw [h, if_neg (by simp only [decide_eq_true_eq]; omega)]
    simp [pr]
  | y :: ys, dn, p, m, x, e, h1, h2 => by
    obtain ⟨m, rfl⟩ : ∃ q, m = q + 1 := ⟨m - 1, by omega⟩
    simp only [List.length_cons] at h1 h2
    have hlen : r.length = dn.length + (ys.length + 1 + 1) := by rw [e]; simp
    have w1 : W (((dn.length + 1 : Nat) : Int) - 1) = (dn.length : Int) := by rw [W_in (by omega) (by omega)]; omega
    have w2 : W (((dn.length + 1 : Nat) : Int) + 1) = (((dn ++ [p]).length + 1 : Nat) : Int) := by rw [W_in (by omega) (by omega)]; simp
    have n1 : nth r (dn.length : Int) = p := nth_get (by rw [e]; simp)
    have n2 : nth r ((dn.length + 1 : Nat) : Int) = y := nth_get (by rw [e, List.getElem?_append_right (by omega)]; simp)
    rw [h, if_pos (by simp only [decide_eq_true_eq]; omega), w1, chkT (inB_iff.2 (by omega)), chkT (inB_iff.2 (by omega)), chkT (inB_iff.2 (by omega)), chkT (inB_iff.2 (by omega)), chkT (by unfold room; simp; omega), n1, n2, w2]
    rw [pr_l who r hr j F h ys (dn ++ [p]) y m _ (by rw [e]; simp) (by omega) (by simp; omega)]
    simp [pr]
/-! ### slices.Compact -/
/-! ### All rests -/
def allR (T : List GSlot) (l : List GCall) (ws : List ByteArray) : List GRest := ws.flatMap fun w => prs w (mine T l w)
theorem mine_len (T : List GSlot) (l : List GCall) (w : ByteArray) : (mine T l w).length ≤ T.length := List.length_filter_le _ _
theorem prs_l {R : Type} (who : ByteArray) (r : List GSlot) (hr : r.length ≤ 10000) (j : List GRest → Option R) (F : Nat → List GRest → Int → Option R)
    (h : ∀ m x3 x4, F (m + 1) x3 x4 = if decide (x4 < (r.length : Int)) then Chk (inB (W (x4 - 1)) r.length) (Chk (inB x4 r.length) (Chk (inB x4 r.length) (Chk (inB (W (x4 - 1)) r.length) (Chk (room x3.length) (
      F m (x3 ++ [GRest.mk who (nth r (W (x4 - 1))) (nth r x4) (W ((nth r x4).Time.From - (nth r (W (x4 - 1))).Time.To))]) (W (x4 + 1))))))) else j x3) (x : List GRest) (hx : x.length ≤ 90000000) :
    F (((r.length : Int) - 1).toNat + 2) x 1 = j (x ++ prs who r) := by
  cases r with
  | nil =>
    rw [h, if_neg (by simp)]
    simp [prs]
  | cons p ys =>
    have := pr_l who (p :: ys) (by omega) j F h ys [] p ((((p :: ys).length : Int) - 1).toNat + 2) x rfl (by simp) (by simp only [List.length_cons] at hr; omega)
    simpa [prs] using this
theorem rests_F (T : List GSlot) (l : List GCall) (hl : l.length ≤ 2000) (hT : T.length ≤ 10000) (hc : ∀ w, session_calls (session_slots T) l w = some (mine T l w)) : ∀ (ys dn : List GCall) (c : GCall) (x : List GRest), l = dn ++ c :: ys → x.length ≤ 10000 * (dn.length + 1) →
    session_rests_l1 T l (fun x => some x) ys (dn.length + 1) x = some (x ++ allR T l (nbF c.Who (ys.map (·.Who))))
  | [], dn, c, x, _, _ => by simp [session_rests_l1, allR, nbF]
  | y :: ys, dn, c, x, e, hx => by
    have hlen : l.length = dn.length + (ys.length + 1 + 1) := by rw [e]; simp
    have w1 : W (((dn.length + 1 : Nat) : Int) - 1) = (dn.length : Int) := by rw [W_in (by omega) (by omega)]; omega
    have n1 : nth l (dn.length : Int) = c := nth_get (by rw [e]; simp)
    have hd : (dn ++ [c]).length = dn.length + 1 := by simp
    rw [session_rests_l1]
    simp only [joinR]
    rw [if_pos (decide_eq_true (by omega)), w1, chkT (inB_iff.2 (by omega)), n1, decide_eq_true (show 0 < ((dn.length + 1 : Nat) : Int) by omega)]
    simp only [Bool.true_and, List.map_cons, nbF]
    have hm := mine_len T l y.Who
    have hp := prs_len y.Who (mine T l y.Who)
    by_cases hy : c.Who = y.Who
    · have ih := rests_F T l hl hT hc ys (dn ++ [c]) y x (by rw [e]; simp) (by rw [hd]; omega)
      rw [hd] at ih
      rw [if_pos (decide_eq_true hy), if_pos hy.symm, ih]
    · have ih := rests_F T l hl hT hc ys (dn ++ [c]) y (x ++ prs y.Who (mine T l y.Who)) (by rw [e]; simp) (by rw [hd, List.length_append]; omega)
      rw [hd] at ih
      rw [if_neg (by simpa using hy), if_neg (fun h => hy h.symm), hc]
      simp only [Option.bind_some]
      rw [prs_l y.Who (mine T l y.Who) (by omega) _ (session_rests_l2 (mine T l y.Who) y fun (x3 : List GRest) => session_rests_l1 T l (fun x => some x) ys (dn.length + 1 + 1) x3) (fun _ _ _ => rfl) x (by omega), ih]
      simp [allR]
theorem rests_is (T : List GSlot) (l : List GCall) (hl : l.length ≤ 2000) (hT : T.length ≤ 10000) (hc : ∀ w, session_calls (session_slots T) l w = some (mine T l w)) : session_rests T l = some (allR T l (nb (l.map (·.Who)))) := by
  unfold session_rests
  rw [joinR]
  cases l with
  | nil => rfl
  | cons y ys =>
    have hm := mine_len T (y :: ys) y.Who
    have hp := prs_len y.Who (mine T (y :: ys) y.Who)
    rw [session_rests_l1]
    simp only [joinR]
    rw [if_neg (by simp), if_neg (by simp), hc]
    simp only [Option.bind_some]
    rw [prs_l y.Who (mine T (y :: ys) y.Who) (by omega) _ (session_rests_l2 (mine T (y :: ys) y.Who) y fun (x3 : List GRest) => session_rests_l1 T (y :: ys) (fun x => some x) ys (0 + 1) x3) (fun _ _ _ => rfl) [] (by simp)]
    have := rests_F T (y :: ys) hl hT hc ys [] y ([] ++ prs y.Who (mine T (y :: ys) y.Who)) rfl (by simp; omega)
    rw [List.length_nil] at this
    rw [this]
    simp [allR, nb]
theorem nbF_len {α : Type} [DecidableEq α] : ∀ (l : List α) (p : α), (nbF p l).length ≤ l.length
  | [], _ => by simp [nbF]
  | y :: r, p => by
    unfold nbF
    have := nbF_len r y
    split <;> simp <;> omega
theorem nb_len {α : Type} [DecidableEq α] (l : List α) : (nb l).length ≤ l.length := by
  cases l with
  | nil => simp [nb]
  | cons p r => have := nbF_len r p; simp [nb]; omega
/-! ### Short rests -/
theorem short_is (r : List GRest) (hr : r.length < 1000000000) (need : Int) : slices_DeleteFunc_Rest_session_Short_c1 r need = some (r.filter fun x => !decide (need ≤ x.Long)) :=
  del_is (GRest.mk k_empty (GSlot.mk k_empty 0 (GWindow.mk 0 0)) (GSlot.mk k_empty 0 (GWindow.mk 0 0)) 0) (fun s => decide (need ≤ s.Long)) (slices_IndexFunc_Rest_session_Short_c1_l1 need (-1)) (slices_DeleteFunc_Rest_session_Short_c1_l1 need fun (x1 : List GRest) (x2 : Int) => Chk (cutB x2 (x1.length : Int) x1.length) (Chk (cutB 0 x2 (clr x1 x2 (x1.length : Int) (GRest.mk k_empty (GSlot.mk k_empty 0 (GWindow.mk 0 0)) (GSlot.mk k_empty 0 (GWindow.mk 0 0)) 0)).length) (some (cut (clr x1 x2 (x1.length : Int) (GRest.mk k_empty (GSlot.mk k_empty 0 (GWindow.mk 0 0)) (GSlot.mk k_empty 0 (GWindow.mk 0 0)) 0)) (0 : Int) x2))))
    (fun _ => rfl) (fun _ _ _ => rfl) (fun _ _ _ _ => rfl) r hr
theorem allR_len (T : List GSlot) (l : List GCall) (hT : T.length ≤ 10000) : ∀ ws : List ByteArray, (allR T l ws).length ≤ 10000 * ws.length
  | [] => by simp [allR]
  | w :: ws => by
    have ih := allR_len T l hT ws
    have hm := mine_len T l w
    have hp := prs_len w (mine T l w)
    unfold allR at ih ⊢
    rw [List.flatMap_cons, List.length_append, List.length_cons]
    omega
end Go.Proofs.YtolmdpjkmjfjdaaGreatDoor
