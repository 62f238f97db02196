/- The pairs of items in which somebody swims in both: the program's are the reference's. No program stands here but its twins. -/
import Derived.Test.YtoffbgomfcmfmaaGreatDoorPCallsT
namespace Go.Proofs.YtoffbgomfcmfmaaGreatDoor
open Go
def addP (x : List GPair) (p : GPair) : List GPair := if p ∈ x then x else x ++ [p]
def inR (y : GCall) (ys : List GCall) (x : List GPair) : List GPair := ys.foldl (fun x z => if y.Who = z.Who ∧ cB y.Item z.Item < 0 then addP x ⟨y.Item, z.Item⟩ else x) x
theorem inR_none (y : GCall) : ∀ (ys : List GCall) (x : List GPair), (∀ z ∈ ys, ¬ (y.Who = z.Who ∧ cB y.Item z.Item < 0)) → inR y ys x = x
  | [], _, _ => rfl
  | z :: ys, x, h => by
    unfold inR
    rw [List.foldl_cons, if_neg (h z (by simp))]
    exact inR_none y ys x fun w hw => h w (List.mem_cons_of_mem _ hw)
theorem inR_cons (y z : GCall) (ys : List GCall) (x : List GPair) : inR y (z :: ys) x = inR y ys (if y.Who = z.Who ∧ cB y.Item z.Item < 0 then addP x ⟨y.Item, z.Item⟩ else x) := rfl
theorem inR_app (y : GCall) (a b : List GCall) (x : List GPair) : inR y (a ++ b) x = inR y b (inR y a x) := by
  unfold inR
  rw [List.foldl_append]
theorem addP_len (x : List GPair) (p : GPair) : (addP x p).length ≤ x.length + 1 := by
  unfold addP
  split <;> simp
def Seen (x : List GPair) (m : List (GPair × Bool)) : Prop := ∀ p, mgetD m p false = decide (p ∈ x)
theorem both_in (y : GCall) (j : List GPair → List (GPair × Bool) → Option (List GPair × Int)) : ∀ (ys : List GCall) (i : Nat) (x : List GPair) (m : List (GPair × Bool)), (∀ z ∈ ys, cC y z < 0) → (ys.Pairwise fun a b => cC a b < 0) → x.length + ys.length ≤ 100000000 → Seen x m →
    ∃ m', session_Both_l2 y j ys i x m = j (inR y ys x) m' ∧ Seen (inR y ys x) m' ∧ (inR y ys x).length ≤ x.length + ys.length
  | [], _, x, m, _, _, _, h => ⟨m, rfl, h, by simp [inR]⟩
  | z :: ys, i, x, m, h1, h2, h3, h4 => by
    rw [List.pairwise_cons] at h2
    simp only [List.length_cons] at h3
    have hyz := h1 z (by simp)
    rw [session_Both_l2]
    simp only [joinR]
    by_cases hw : z.Who = y.Who
    · rw [if_neg (by simpa using hw)]
      have hlt : (!decide (y.Item = z.Item)) = decide (cB y.Item z.Item < 0) := by
        rw [cC_neg] at hyz
        rcases hyz with h | ⟨_, h | ⟨h, _⟩⟩
        · rw [hw, cB_refl] at h; omega
        · have : y.Item ≠ z.Item := fun e => by rw [e, cB_refl] at h; omega
          simp [this, h]
        · simp [h, cB_refl]
      have hin : ∀ x' : List GPair, x'.length ≤ x.length + 1 → ∀ m', Seen x' m' → (if y.Who = z.Who ∧ cB y.Item z.Item < 0 then addP x ⟨y.Item, z.Item⟩ else x) = x' → ∃ m'', session_Both_l2 y j ys (i + 1) x' m' = j (inR y (z :: ys) x) m'' ∧ Seen (inR y (z :: ys) x) m'' ∧ (inR y (z :: ys) x).length ≤ x.length + (ys.length + 1) := by
        intro x' hx' m' hs' e
        obtain ⟨m'', e1, e2, e3⟩ := both_in y j ys (i + 1) x' m' (fun w hw => h1 w (List.mem_cons_of_mem _ hw)) h2.2 (by omega) hs'
        rw [inR_cons, e]
        exact ⟨m'', e1, e2, by omega⟩
      rw [hlt, h4]
      by_cases hc : cB y.Item z.Item < 0
      · by_cases hp : (⟨y.Item, z.Item⟩ : GPair) ∈ x
        · rw [if_neg (by simp [hp])]
          exact hin x (by omega) m h4 (by rw [if_pos ⟨hw.symm, hc⟩]; unfold addP; rw [if_pos hp])
        · rw [if_pos (by simp [hp, hc]), chkT (by unfold room; simp; omega)]
          refine hin (x ++ [⟨y.Item, z.Item⟩]) (by simp) (mput m ⟨y.Item, z.Item⟩ true) (fun p => ?_) (by rw [if_pos ⟨hw.symm, hc⟩]; unfold addP; rw [if_neg hp])
          rw [mgetD_put, h4]
          by_cases hq : p = ⟨y.Item, z.Item⟩
          · simp [hq]
          · simp [hq]
      · rw [if_neg (by simp [hc])]
        exact hin x (by omega) m h4 (by rw [if_neg (fun h => hc h.2)])
    · rw [if_pos (by simpa using hw)]
      have hno : inR y (z :: ys) x = x := by
        refine inR_none y _ x fun w hm hcon => ?_
        rcases List.mem_cons.1 hm with rfl | hm
        · exact hw hcon.1.symm
        · have hzw := h2.1 w hm
          rw [cC_neg] at hyz hzw
          have h5 : cB y.Who z.Who < 0 := by
            rcases hyz with h | ⟨h, _⟩
            · exact h
            · exact absurd h.symm hw
          rcases hzw with h | ⟨h, _⟩
          · have := cB_trans h5 h
            rw [hcon.1, cB_refl] at this
            omega
          · rw [h, ← hcon.1, cB_refl] at h5
            omega
      rw [hno]
      exact ⟨m, rfl, h4, by simp⟩
def allP (l : List GCall) : List GCall → List GPair → List GPair
  | [], x => x
  | y :: ys, x => allP l ys (inR y l x)
theorem inR_all {l dn ys : List GCall} {y : GCall} (hp : l.Pairwise fun a b => cC a b < 0) (e : l = dn ++ y :: ys) (x : List GPair) : inR y l x = inR y ys x := by
  rw [e, inR_app]
  rw [e, List.pairwise_append] at hp
  have h1 : inR y dn x = x := inR_none y dn x fun z hz hcon => by
    have := hp.2.2 z hz y (by simp)
    rw [cC_neg] at this
    rcases this with h | ⟨_, h | ⟨h, _⟩⟩
    · rw [hcon.1, cB_refl] at h; omega
    · have h2 := cB_flip y.Item z.Item
      have := hcon.2
      omega
    · have := hcon.2
      rw [h, cB_refl] at this
      omega
  rw [h1, inR_cons, if_neg]
  rintro ⟨_, h⟩
  rw [cB_refl] at h
  omega
theorem both_out (l : List GCall) (hl : l.length ≤ 2000) (hp : l.Pairwise fun a b => cC a b < 0) (j : List GPair → List (GPair × Bool) → Option (List GPair × Int)) : ∀ (ys dn : List GCall) (x : List GPair) (m : List (GPair × Bool)), l = dn ++ ys → x.length ≤ 2000 * dn.length → Seen x m →
    ∃ m', session_Both_l1 l j ys dn.length x m = j (allP l ys x) m'
  | [], _, x, m, _, _, _ => ⟨m, rfl⟩
  | y :: ys, dn, x, m, e, hx, hs => by
    have hlen : l.length = dn.length + (ys.length + 1) := by rw [e]; simp
    have w1 : W ((dn.length : Int) + 1) = ((dn.length + 1 : Nat) : Int) := by rw [W_in (by omega) (by omega)]; rfl
    have hc : cut l ((dn.length + 1 : Nat) : Int) l.length = ys := by
      unfold cut
      rw [List.take_of_length_le (by omega), e]
      simp
    have hp2 := hp
    rw [e, List.pairwise_append, List.pairwise_cons] at hp2
    rw [session_Both_l1, w1, chkT (cutB_iff.2 (by omega)), joinR, hc]
    obtain ⟨m1, e1, e2, e3⟩ := both_in y (fun (x3 : List GPair) (x4 : List (GPair × Bool)) => session_Both_l1 l j ys (dn.length + 1) x3 x4) ys 0 x m hp2.2.1.1 hp2.2.1.2 (by omega) hs
    rw [e1, allP, inR_all hp e]
    have hd : (dn ++ [y]).length = dn.length + 1 := by simp
    have := both_out l hl hp j ys (dn ++ [y]) (inR y ys x) m1 (by rw [e]; simp) (by rw [hd]; omega) e2
    rwa [hd] at this
theorem containsP (x : List GPair) (p : GPair) : slices_Contains_Pair x p = decide (p ∈ x) := by
  have : slices_Contains_Pair x p = x.any fun c => decide (p = c) := any_l (fun c : GPair => decide (p = c)) (slices_Index_Pair_l1 p (-1)) (fun _ => rfl) (fun _ _ _ => rfl) x
  rw [this, Bool.eq_iff_iff, List.any_eq_true]
  simp
theorem inR_len (y : GCall) : ∀ (ys : List GCall) (x : List GPair), (inR y ys x).length ≤ x.length + ys.length
  | [], x => by simp [inR]
  | z :: ys, x => by
    rw [inR_cons]
    have h1 := inR_len y ys (if y.Who = z.Who ∧ cB y.Item z.Item < 0 then addP x ⟨y.Item, z.Item⟩ else x)
    have h2 := addP_len x ⟨y.Item, z.Item⟩
    have h3 : (if y.Who = z.Who ∧ cB y.Item z.Item < 0 then addP x ⟨y.Item, z.Item⟩ else x).length ≤ x.length + 1 := by
      split
      · exact h2
      · omega
    simp only [List.length_cons]
    omega
theorem bothOf_in (y : GCall) (j : List GPair → Option (List GPair)) : ∀ (ys : List GCall) (i : Nat) (x : List GPair), x.length + ys.length ≤ 100000000 → tumbref2_BothOf_l2 y j ys i x = j (inR y ys x)
  | [], _, _, _ => rfl
  | z :: ys, i, x, h => by
    simp only [List.length_cons] at h
    have h2 := addP_len x ⟨y.Item, z.Item⟩
    rw [tumbref2_BothOf_l2, inR_cons, containsP, sless_cb]
    simp only [joinR]
    by_cases hc : y.Who = z.Who ∧ cB y.Item z.Item < 0
    · rw [if_pos hc]
      by_cases hp : (⟨y.Item, z.Item⟩ : GPair) ∈ x
      · rw [if_neg (by simp [hp]), bothOf_in y j ys (i + 1) x (by omega)]
        unfold addP
        rw [if_pos hp]
      · rw [if_pos (by simp [hp, hc.1, hc.2]), chkT (by unfold room; simp; omega), bothOf_in y j ys (i + 1) _ (by simp; omega)]
        unfold addP
        rw [if_neg hp]
    · rw [if_neg hc, if_neg (by simp only [Bool.and_eq_true, decide_eq_true_eq]; exact fun h => hc h.1), bothOf_in y j ys (i + 1) x (by omega)]
theorem bothOf_out (l : List GCall) (hl : l.length ≤ 2000) (j : List GPair → Option (List GPair)) : ∀ (ys dn : List GCall) (x : List GPair), l = dn ++ ys → x.length ≤ 2000 * dn.length → tumbref2_BothOf_l1 l j ys dn.length x = j (allP l ys x)
  | [], _, _, _, _ => rfl
  | y :: ys, dn, x, e, hx => by
    have hlen : l.length = dn.length + (ys.length + 1) := by rw [e]; simp
    have hin := inR_len y l x
    have hd : (dn ++ [y]).length = dn.length + 1 := by simp
    rw [tumbref2_BothOf_l1]
    simp only [joinR]
    rw [bothOf_in y _ l 0 x (by omega)]
    have := bothOf_out l hl j ys (dn ++ [y]) (inR y l x) (by rw [e]; simp) (by rw [hd]; omega)
    rw [hd] at this
    rw [this, allP]
/-! ### How many there are -/
theorem nodup_len {α : Type} [DecidableEq α] : ∀ (P Q : List α), P.Nodup → (∀ x ∈ P, x ∈ Q) → P.length ≤ Q.length
  | [], _, _, _ => by simp
  | p :: P, Q, h, hq => by
    rw [List.nodup_cons] at h
    have hp := hq p (by simp)
    have := nodup_len P (Q.erase p) h.2 fun x hx => (List.mem_erase_of_ne (fun e => h.1 (by rw [← e]; exact hx))).2 (hq x (List.mem_cons_of_mem _ hx))
    rw [List.length_erase_of_mem hp] at this
    have : 0 < Q.length := List.length_pos_of_mem hp
    simp only [List.length_cons]
    omega
def tri : Nat → Nat
  | 0 => 0
  | n + 1 => n + tri n
def upP (K : List ByteArray) (a : ByteArray) : List GPair := (K.filter fun b => decide (cB a b < 0)).map fun b => ⟨a, b⟩
def cnt (K : List ByteArray) : List ByteArray → Nat
  | [] => 0
  | a :: A => (K.filter fun b => decide (cB a b < 0)).length + cnt K A
theorem cnt_cons (k : ByteArray) (K : List ByteArray) : ∀ A : List ByteArray, cnt (k :: K) A = cnt K A + (A.filter fun a => decide (cB a k < 0)).length
  | [] => rfl
  | a :: A => by
    have ih := cnt_cons k K A
    unfold cnt
    rw [ih, List.filter_cons, List.filter_cons]
    by_cases h : cB a k < 0
    · rw [if_pos (decide_eq_true h), if_pos (decide_eq_true h), List.length_cons, List.length_cons]
      omega
    · rw [if_neg (by simpa using h), if_neg (by simpa using h)]
      omega
theorem two_side (k : ByteArray) : ∀ K : List ByteArray, (K.filter fun b => decide (cB k b < 0)).length + (K.filter fun a => decide (cB a k < 0)).length ≤ K.length
  | [] => by simp
  | a :: K => by
    have ih := two_side k K
    have hf := cB_flip k a
    rw [List.filter_cons, List.filter_cons]
    by_cases h1 : cB k a < 0
    · have h2 : ¬ cB a k < 0 := by omega
      rw [if_pos (decide_eq_true h1), if_neg (by simpa using h2)]
      simp only [List.length_cons]
      omega
    · rw [if_neg (by simpa using h1)]
      split <;> simp only [List.length_cons] <;> omega
theorem cnt_tri : ∀ K : List ByteArray, cnt K K ≤ tri K.length
  | [] => by simp [cnt]
  | k :: K => by
    have ih := cnt_tri K
    have h2 := two_side k K
    have h3 : ((k :: K).filter fun b => decide (cB k b < 0)).length = (K.filter fun b => decide (cB k b < 0)).length := by
      rw [List.filter_cons, if_neg (by rw [cB_refl]; simp)]
    rw [cnt, h3, cnt_cons]
    simp only [List.length_cons, tri]
    omega
theorem up_len (K : List ByteArray) : ∀ A : List ByteArray, (A.flatMap (upP K)).length = cnt K A
  | [] => rfl
  | a :: A => by
    rw [List.flatMap_cons, List.length_append, up_len K A, cnt]
    simp [upP]
structure PGood (K : List ByteArray) (x : List GPair) : Prop where
  nd : x.Nodup
  up : ∀ p ∈ x, p.Name ∈ K ∧ p.Value ∈ K ∧ cB p.Name p.Value < 0
theorem PGood.len {K : List ByteArray} {x : List GPair} (h : PGood K x) (hK : K.length ≤ 5) : x.length ≤ 12 := by
  have h1 := nodup_len x (K.flatMap (upP K)) h.nd fun p hp => by
    obtain ⟨a, b, c⟩ := h.up p hp
    refine List.mem_flatMap.2 ⟨p.Name, a, ?_⟩
    unfold upP
    exact List.mem_map.2 ⟨p.Value, List.mem_filter.2 ⟨b, decide_eq_true c⟩, rfl⟩
  rw [up_len] at h1
  have h2 := cnt_tri K
  have h3 : tri K.length ≤ 10 := by
    have : K.length = 0 ∨ K.length = 1 ∨ K.length = 2 ∨ K.length = 3 ∨ K.length = 4 ∨ K.length = 5 := by omega
    rcases this with h | h | h | h | h | h <;> rw [h] <;> decide
  omega
theorem inR_good {K : List ByteArray} (y : GCall) (hy : y.Item ∈ K) : ∀ (ys : List GCall) (x : List GPair), (∀ z ∈ ys, z.Item ∈ K) → PGood K x → PGood K (inR y ys x)
  | [], _, _, h => h
  | z :: ys, x, hz, h => by
    rw [inR_cons]
    refine inR_good y hy ys _ (fun w hw => hz w (List.mem_cons_of_mem _ hw)) ?_
    split
    · rename_i hc
      unfold addP
      split
      · exact h
      · rename_i hp
        refine ⟨List.nodup_append.2 ⟨h.nd, by simp, fun a ha b hb => ?_⟩, fun p hp2 => ?_⟩
        · rw [List.mem_singleton] at hb
          subst hb
          rintro rfl
          exact hp ha
        · rcases List.mem_append.1 hp2 with hm | hm
          · exact h.up p hm
          · rw [List.mem_singleton] at hm
            subst hm
            exact ⟨hy, hz z (by simp), hc.2⟩
    · exact h
theorem allP_good {K : List ByteArray} (l : List GCall) (hl : ∀ z ∈ l, z.Item ∈ K) : ∀ (ys : List GCall) (x : List GPair), (∀ z ∈ ys, z.Item ∈ K) → PGood K x → PGood K (allP l ys x)
  | [], _, _, h => h
  | y :: ys, x, hy, h => allP_good l hl ys _ (fun z hz => hy z (List.mem_cons_of_mem _ hz)) (inR_good y (hy y (by simp)) l x hl h)
end Go.Proofs.YtoffbgomfcmfmaaGreatDoor
