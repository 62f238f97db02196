/- Tables and ranks: what the stream gives is right. Conditions: the twins of package points and of the stream. -/
import Derived.Test.YtcnneeipmadakaaGreatDoorPPtsR
import Derived.Test.YtcnneeipmadakaaGreatDoorPSort2
import Derived.Test.YtcnneeipmadakaaGreatDoorPMaps
import Derived.Test.YtcnneeipmadakaaGreatDoorPStr
import Derived.Test.YtcnneeipmadakaaGreatDoorPBytes
namespace Go.Proofs.YtcnneeipmadakaaGreatDoor
open Go
section
variable {L : List Int} (hL : LongL L)
include hL
end
def kR (x : GScored) : Int := if x.Rank = 0 then 301 else x.Rank
def lexS (x y : GScored) : Bool := decide (cB x.Race y.Race < 0 ∨ (x.Race = y.Race ∧ (kR x < kR y ∨ (kR x = kR y ∧ cB x.Who y.Who < 0))))
theorem lexS_iff {x y : GScored} : lexS x y = true ↔ (cB x.Race y.Race < 0 ∨ (x.Race = y.Race ∧ (kR x < kR y ∨ (kR x = kR y ∧ cB x.Who y.Who < 0)))) := by simp [lexS]
theorem lexS_trans (x y z : GScored) (h1 : lexS x y = true) (h2 : lexS y z = true) : lexS x z = true := by
  rw [lexS_iff] at *
  rcases h1 with h1 | ⟨e1, h1⟩
  · rcases h2 with h2 | ⟨e2, _⟩
    · exact .inl (cB_trans h1 h2)
    · exact .inl (by rw [← e2]; exact h1)
  · rcases h2 with h2 | ⟨e2, h2⟩
    · exact .inl (by rw [e1]; exact h2)
    · refine .inr ⟨e1.trans e2, ?_⟩
      rcases h1 with h1 | ⟨k1, h1⟩
      · rcases h2 with h2 | ⟨k2, _⟩ <;> exact .inl (by omega)
      · rcases h2 with h2 | ⟨k2, h2⟩
        · exact .inl (by omega)
        · exact .inr ⟨by omega, cB_trans h1 h2⟩
theorem lexS_total {x y : GScored} (h : x.Who ≠ y.Who) (h1 : lexS y x = false) : lexS x y = true := by
  rw [lexS_iff]
  have h2 : ¬ (cB y.Race x.Race < 0 ∨ (y.Race = x.Race ∧ (kR y < kR x ∨ (kR y = kR x ∧ cB y.Who x.Who < 0)))) := fun h => by rw [← lexS_iff, h1] at h; cases h
  rw [not_or, not_and, not_or, not_and] at h2
  obtain ⟨g1, g2⟩ := h2
  by_cases e : x.Race = y.Race
  · right
    refine ⟨e, ?_⟩
    obtain ⟨g3, g4⟩ := g2 e.symm
    by_cases hk : kR x = kR y
    · right
      refine ⟨hk, ?_⟩
      have := g4 hk.symm
      have h0 : cB x.Who y.Who ≠ 0 := fun e => h (cB_zero e)
      have := cB_flip x.Who y.Who
      omega
    · left; omega
  · left
    have h0 : cB x.Race y.Race ≠ 0 := fun e' => e (cB_zero e')
    have := cB_flip x.Race y.Race
    omega
def RR (x : GScored) : Prop := 0 ≤ x.Rank ∧ x.Rank ≤ 300
theorem sign_neg (n : Int) : (tumbref2_sign n < 0) ↔ n < 0 := by
  unfold tumbref2_sign
  by_cases h : n < 0
  · simp [h]
  · by_cases h' : 0 < n
    · simp [h, h']
    · simp [h, h']
theorem key_is (x : GScored) : tumbref2_ScoredOrder_c1 x = kR x := by
  unfold tumbref2_ScoredOrder_c1 kR
  simp
theorem kR_rng {x : GScored} (h : RR x) : 1 ≤ kR x ∧ kR x ≤ 301 := by
  unfold kR; have := h.1; have := h.2; split <;> omega
theorem order_lex {x y : GScored} (hx : RR x) (hy : RR y) : decide (tumbref2_ScoredOrder x y < 0) = lexS x y := by
  have h1 := kR_rng hx
  have h2 := kR_rng hy
  have hc : strings_Compare x.Race y.Race = cB x.Race y.Race := rfl
  have hw : strings_Compare x.Who y.Who = cB x.Who y.Who := rfl
  unfold tumbref2_ScoredOrder lexS
  rw [key_is, key_is, hc, hw]
  by_cases e : x.Race = y.Race
  · rw [if_neg (by simp [e]), e, cB_refl]
    by_cases k : kR x = kR y
    · rw [if_neg (by simp [k])]; simp [k]
    · rw [if_pos (by simp [k])]
      rw [decide_eq_decide, sign_neg, W_in (by omega) (by omega)]
      simp [k]; omega
  · rw [if_pos (by simp [e])]
    simp [e]
theorem isortS_is (l : List GScored) (hl : l.length ≤ 12) : slices_insertionSortCmpFunc_Scored_tumbref2_ScoredOrder l 0 (l.length : Int) = some (isort (fun x y => decide (tumbref2_ScoredOrder x y < 0)) l) := by
  unfold slices_insertionSortCmpFunc_Scored_tumbref2_ScoredOrder
  simp only [joinR]
  have hins : ∀ (k : List GScored → Option (List GScored)) (rp : List GScored) (x : GScored) (post : List GScored), ((rp ++ x :: post).length : Int) = (l.length : Int) → (∀ y, y ∈ rp ∨ y = x ∨ y ∈ post → y ∈ (rp ++ x :: post)) →
      slices_insertionSortCmpFunc_Scored_tumbref2_ScoredOrder_l2 0 k (((rp.length : Int) - 0).toNat + 2) (rp.reverse ++ x :: post) (rp.length : Int) = k ((insR (fun x y => decide (tumbref2_ScoredOrder x y < 0)) x rp).reverse ++ post) := by
    intro k rp x post h1 _
    exact ins_l (fun x y k => k (decide (tumbref2_ScoredOrder x y < 0))) (fun x y => decide (tumbref2_ScoredOrder x y < 0)) k (slices_insertionSortCmpFunc_Scored_tumbref2_ScoredOrder_l2 0 k) (fun _ _ _ => rfl) rp x post _ (by omega) (by simp at h1; omega) fun y _ k' => rfl
  cases l with
  | nil => rfl
  | cons x l =>
    have hw : W (0 + 1) = (([x] : List GScored).length : Int) := rfl
    rw [hw]
    exact isort_l (fun x y => decide (tumbref2_ScoredOrder x y < 0)) (fun x => some x) (fun k x i => slices_insertionSortCmpFunc_Scored_tumbref2_ScoredOrder_l2 0 k ((i - 0).toNat + 2) x i) (slices_insertionSortCmpFunc_Scored_tumbref2_ScoredOrder_l1 ((x :: l).length : Int) 0 fun x => some x) ((x :: l).length : Int) (fun _ _ _ => rfl)
      (fun k rp x post h1 h2 => hins k rp x post h1 h2) l [x] _ (by simp only [List.length_cons, List.length_nil]; omega) (by simp only [List.length_cons, List.length_nil]; omega) (by simp only [List.length_cons, List.length_nil] at hl ⊢; omega)
theorem len_p : ∀ n : Fin 13, (bits_Len (IntKind.wrap .u64 (n.val : Int))).isSome = true := by decide +kernel
theorem sortS_is (l : List GScored) (hl : l.length ≤ 12) (h : ∀ x ∈ l, RR x) : slices_SortFunc_Scored_tumbref2_ScoredOrder l = some (isort lexS l) := by
  unfold slices_SortFunc_Scored_tumbref2_ScoredOrder
  obtain ⟨r, hr⟩ := Option.isSome_iff_exists.1 (len_p ⟨l.length, by omega⟩)
  simp only at hr
  rw [hr]
  simp only [Option.bind_some]
  unfold slices_pdqsortCmpFunc_Scored_tumbref2_ScoredOrder
  rw [show (4611686018427387904 : Nat) = 4611686018427387903 + 1 from rfl, slices_pdqsortCmpFunc_Scored_tumbref2_ScoredOrder_l1, W_in (by omega) (by omega), if_pos (decide_eq_true (by omega)), isortS_is l hl]
  rw [isort_congr l fun x hx y hy => order_lex (h x hx) (h y hy)]
  rfl
def fiveP : List ByteArray := [k_ann, k_bea, k_cid, k_dan, k_eve]
def raceP : List ByteArray := [k_ra, k_rb, k_rc]
def clubP : List ByteArray := [k_blue, k_blue, k_red, k_grey, k_empty]
structure O0 (race : ByteArray) (rel : Bool) (o : List GScored) : Prop where
  len : o.length ≤ 5
  row : ∀ x ∈ o, x.Race = race ∧ x.Relay = rel ∧ x.Who ∈ fiveP ∧ x.Club ∈ clubP ∧ 0 ≤ x.Rank ∧ x.Rank ≤ 4
  who : o.Pairwise fun x y => x.Who ≠ y.Who
section
variable {L : List Int} (hL : LongL L)
include hL
theorem sc_l2 (race : ByteArray) (r1 : Bool × Int) (j : List GScored → Int → Option (List GScored × Int)) : ∀ (ys : List ByteArray) (i : Nat) (x3 : List GScored) (a : Int), ys.Nodup → (∀ y ∈ ys, y ∈ fiveP) → (∀ x ∈ x3, x.Who ∉ ys) → x3.length + ys.length ≤ 5 → O0 race r1.1 x3 → 0 ≤ a → a + 3 * ys.length ≤ 1000000 →
    ∃ o b, Stream_RightScored_l2 L race r1 j ys i x3 a = j o b ∧ O0 race r1.1 o ∧ a ≤ b ∧ b ≤ a + 3 * ys.length
  | [], i, x3, a, _, _, _, _, h, _, _ => ⟨x3, a, rfl, h, by omega, by simp⟩
  | y :: ys, i, x3, a, h1, h2, h3, h4, h5, h6, h7 => by
    obtain ⟨n1, n2⟩ := List.nodup_cons.1 h1
    simp only [List.length_cons] at h4 h7 ⊢
    rw [Stream_RightScored_l2]
    obtain ⟨f, b, e, g1, g2, _⟩ := flip_dr hL h6 (by omega) 4 (by omega)
    rw [e]; simp only [Option.bind_some, join_eq]
    have hys : ∀ z ∈ ys, z ∈ fiveP := fun z hz => h2 z (List.mem_cons_of_mem _ hz)
    cases f with
    | true =>
      rw [if_neg (by simp)]
      obtain ⟨o, c, e', q1, q2, q3⟩ := sc_l2 race r1 j ys (i + 1) x3 b n2 hys (fun x hx hm => h3 x hx (List.mem_cons_of_mem _ hm)) (by omega) h5 (by omega) (by omega)
      exact ⟨o, c, e', q1, by omega, by omega⟩
    | false =>
      rw [if_pos (by simp)]
      obtain ⟨c, b2, e2, g3, g4, mc⟩ := some_dr hL (a := b) (by omega) (by omega) [k_blue, k_blue, k_red, k_grey, k_empty] (by simp) (by simp)
      rw [e2]; simp only [Option.bind_some]
      obtain ⟨v, b3, e3, g5, g6, mv⟩ := pick_dr hL (a := b2) (by omega) (by omega) [0, 1, 2, 2, 3, 4] (by simp) (by simp)
      rw [e3]; simp only [Option.bind_some]
      rw [chk_pos (by unfold room; simp; omega)]
      have hv : 0 ≤ v ∧ v ≤ 4 := by simp at mv; omega
      obtain ⟨o, d, e', q1, q2, q3⟩ := sc_l2 race r1 j ys (i + 1) (x3 ++ [GScored.mk race y c v r1.1]) b3 n2 hys (fun x hx hm => by
        rcases List.mem_append.1 hx with hx | hx
        · exact h3 x hx (List.mem_cons_of_mem _ hm)
        · obtain rfl := List.mem_singleton.1 hx; exact n1 hm) (by simp; omega) ⟨by simp; omega, fun x hx => by
        rcases List.mem_append.1 hx with hx | hx
        · exact h5.row x hx
        · obtain rfl := List.mem_singleton.1 hx
          exact ⟨rfl, rfl, h2 y List.mem_cons_self, mc, hv.1, hv.2⟩, by
        rw [List.pairwise_append]
        refine ⟨h5.who, by simp, fun x hx z hz he => ?_⟩
        obtain rfl := List.mem_singleton.1 hz
        exact h3 x hx (by rw [he]; exact List.mem_cons_self)⟩ (by omega) (by omega)
      exact ⟨o, d, e', q1, by omega, by omega⟩
end
def rk (o : List GScored) (r : Int) : Nat := 1 + o.countP fun z => decide (0 < z.Rank) && decide (z.Rank < r)
def fR (o : List GScored) (x : GScored) : GScored := if 0 < x.Rank then GScored.mk x.Race x.Who x.Club (x.Rank + 10 * (rk o x.Rank : Int)) x.Relay else x
def hR (o : List GScored) (x : GScored) : GScored := GScored.mk x.Race x.Who x.Club (if 0 < x.Rank then (rk o x.Rank : Int) else 0) x.Relay
def cnd (x y : GScored) : Bool := ((decide (0 < y.Rank)) && (decide ((Int.tmod y.Rank 10) < (Int.tmod (x.Rank) 10)))) && (decide (0 < x.Rank))
theorem rk_le (o : List GScored) (r : Int) : rk o r ≤ 1 + o.length := by
  unfold rk; have := List.countP_le_length (p := fun z : GScored => decide (0 < z.Rank) && decide (z.Rank < r)) (l := o); omega
theorem sc_l4 (x9 : List GScored) (i3 : Nat) (j : Int → Option (List GScored × Int)) : ∀ (ys : List GScored) (i : Nat) (x : Int), 0 ≤ x → x + ys.length ≤ 1000 → Stream_RightScored_l4 x9 i3 j ys i x = j (x + (ys.countP (cnd (nth x9 (i3 : Int))) : Nat))
  | [], i, x, _, _ => by rw [Stream_RightScored_l4]; simp
  | y :: ys, i, x, h1, h2 => by
    simp only [List.length_cons] at h2
    rw [Stream_RightScored_l4, List.countP_cons]
    simp only [join_eq]
    have hc : (((decide (0 < y.Rank)) && (decide ((Int.tmod y.Rank 10) < (Int.tmod ((nth x9 (i3 : Int)).Rank) 10)))) && (decide (0 < ((nth x9 (i3 : Int)).Rank)))) = cnd (nth x9 (i3 : Int)) y := rfl
    rw [hc]
    cases hb : cnd (nth x9 (i3 : Int)) y with
    | true =>
      rw [if_pos rfl, W_in (by omega) (by omega), sc_l4 x9 i3 j ys (i + 1) (x + 1) (by omega) (by omega)]
      simp only [if_true]
      congr 1; omega
    | false =>
      rw [if_neg (by simp), sc_l4 x9 i3 j ys (i + 1) x h1 (by omega)]
      simp
theorem tmod10 {r : Int} {k : Nat} (h0 : 0 ≤ r) (h : r ≤ 4) : Int.tmod (r + 10 * (k : Int)) 10 = r := by
  rw [Int.tmod_eq_emod_of_nonneg (by omega)]; omega
theorem tmod10' {r : Int} (h0 : 0 ≤ r) (h : r ≤ 4) : Int.tmod r 10 = r := by
  rw [Int.tmod_eq_emod_of_nonneg h0]; omega
theorem cnd_f (o : List GScored) {x y : GScored} (hx : 0 ≤ x.Rank ∧ x.Rank ≤ 4) (hy : 0 ≤ y.Rank ∧ y.Rank ≤ 4) : cnd x (fR o y) = (decide (0 < y.Rank) && decide (y.Rank < x.Rank)) ∧ cnd x y = (decide (0 < y.Rank) && decide (y.Rank < x.Rank)) := by
  have e1 := tmod10' hx.1 hx.2
  have e2 := tmod10' hy.1 hy.2
  have key : ((decide (0 < y.Rank) && decide (y.Rank < x.Rank)) && decide (0 < x.Rank)) = (decide (0 < y.Rank) && decide (y.Rank < x.Rank)) := by
    rw [Bool.eq_iff_iff]; simp only [Bool.and_eq_true, decide_eq_true_eq]; omega
  refine ⟨?_, by unfold cnd; rw [e1, e2, key]⟩
  unfold fR
  by_cases h : 0 < y.Rank
  · rw [if_pos h]
    unfold cnd
    simp only
    rw [tmod10 hy.1 hy.2, e1, decide_eq_true h, decide_eq_true (show 0 < y.Rank + 10 * (rk o y.Rank : Int) by omega)]
    rw [decide_eq_true h] at key
    exact key
  · rw [if_neg h]
    unfold cnd; rw [e1, e2, key]
theorem sc_l3 (o : List GScored) (ho : o.length ≤ 5) (hr : ∀ x ∈ o, 0 ≤ x.Rank ∧ x.Rank ≤ 4) (j : List GScored → Option (List GScored × Int)) : ∀ (b a ys : List GScored), o = a ++ b → ys.length = b.length → Stream_RightScored_l3 j ys a.length (a.map (fR o) ++ b) = j (o.map (fR o))
  | [], a, ys, h, hy => by
    have : ys = [] := List.eq_nil_of_length_eq_zero (by simpa using hy)
    subst this
    rw [Stream_RightScored_l3, h]; simp
  | x :: b, a, ys, h, hy => by
    cases ys with
    | nil => simp at hy
    | cons z ys =>
      have hxo : x ∈ o := by rw [h]; simp
      have hal : a.length + b.length + 1 = o.length := by rw [h]; simp; omega
      have hx := hr x hxo
      rw [Stream_RightScored_l3]
      simp only [join_eq]
      have hn : nth (a.map (fR o) ++ x :: b) (a.length : Int) = x := nth_mid _ _ _ (by simp)
      have hin : inB (a.length : Int) (a.map (fR o) ++ x :: b).length = true := inB_iff.2 (by simp; omega)
      rw [chk_pos hin, sc_l4 _ _ _ _ _ _ (by omega) (by simp; omega), hn]
      have hcount : (a.map (fR o) ++ x :: b).countP (cnd x) = o.countP fun z => decide (0 < z.Rank) && decide (z.Rank < x.Rank) := by
        rw [List.countP_append, List.countP_map]
        have e1 : a.countP (cnd x ∘ fR o) = a.countP fun z => decide (0 < z.Rank) && decide (z.Rank < x.Rank) :=
          List.countP_congr fun z hz => by simp only [Function.comp]; rw [(cnd_f o hx (hr z (by rw [h]; simp [hz]))).1]
        have e2 : (x :: b).countP (cnd x) = (x :: b).countP fun z => decide (0 < z.Rank) && decide (z.Rank < x.Rank) :=
          List.countP_congr fun z hz => by rw [(cnd_f o hx (hr z (by rw [h]; exact List.mem_append_right _ hz))).2]
        rw [e1, e2, ← List.countP_append, ← h]
      rw [hcount]
      have hrk : (1 : Int) + ((o.countP fun z => decide (0 < z.Rank) && decide (z.Rank < x.Rank) : Nat) : Int) = (rk o x.Rank : Int) := by unfold rk; push_cast; rfl
      have hle := rk_le o x.Rank
      have ih := sc_l3 o ho hr j b (a ++ [x]) ys (by rw [h]; simp) (by simpa using hy)
      rw [List.length_append, List.length_singleton] at ih
      rw [hrk]
      by_cases hp : 0 < x.Rank
      · rw [if_pos (decide_eq_true hp), chk_pos hin, W_in (n := 10 * (rk o x.Rank : Int)) (by omega) (by omega), W_in (by omega) (by omega)]
        have hf : fR o x = GScored.mk x.Race x.Who x.Club (x.Rank + 10 * (rk o x.Rank : Int)) x.Relay := by unfold fR; rw [if_pos hp]
        have hset : (a.map (fR o) ++ x :: b).set ((a.length : Int).toNat) (GScored.mk x.Race x.Who x.Club (x.Rank + 10 * (rk o x.Rank : Int)) x.Relay) = (a ++ [x]).map (fR o) ++ b := by
          rw [← hf, show (a.length : Int).toNat = (a.map (fR o)).length by simp, List.set_append_right _ _ (Nat.le_refl _)]
          simp
        rw [hset]; exact ih
      · rw [if_neg (by simpa using hp)]
        have hf : fR o x = x := by unfold fR; rw [if_neg hp]
        have : a.map (fR o) ++ x :: b = (a ++ [x]).map (fR o) ++ b := by simp [hf]
        rw [this]; exact ih
def g5 (x : GScored) : GScored := GScored.mk x.Race x.Who x.Club (W (Int.tdiv x.Rank 10)) x.Relay
theorem sc_l5 (j : List GScored → Option (List GScored × Int)) : ∀ (b a ys : List GScored), ys.length = b.length → (a ++ b).length ≤ 5 → Stream_RightScored_l5 j ys a.length (a.map g5 ++ b) = j ((a ++ b).map g5)
  | [], a, ys, hy, _ => by
    have : ys = [] := List.eq_nil_of_length_eq_zero (by simpa using hy)
    subst this
    rw [Stream_RightScored_l5]; simp
  | x :: b, a, ys, hy, hl => by
    cases ys with
    | nil => simp at hy
    | cons z ys =>
      rw [Stream_RightScored_l5]
      have hn : nth (a.map g5 ++ x :: b) (a.length : Int) = x := nth_mid _ _ _ (by simp)
      have hin : inB (a.length : Int) (a.map g5 ++ x :: b).length = true := inB_iff.2 (by simp; omega)
      rw [chk_pos hin, chk_pos hin, hn]
      have hset : (a.map g5 ++ x :: b).set ((a.length : Int).toNat) (GScored.mk x.Race x.Who x.Club (W (Int.tdiv x.Rank 10)) x.Relay) = (a ++ [x]).map g5 ++ b := by
        rw [show GScored.mk x.Race x.Who x.Club (W (Int.tdiv x.Rank 10)) x.Relay = g5 x from rfl, show (a.length : Int).toNat = (a.map g5).length by simp, List.set_append_right _ _ (Nat.le_refl _)]
        simp
      rw [hset]
      have ih := sc_l5 j b (a ++ [x]) ys (by simpa using hy) (by simp at hl ⊢; omega)
      rw [List.length_append, List.length_singleton] at ih
      rw [ih]; simp
theorem g5_f (o : List GScored) (ho : o.length ≤ 5) {x : GScored} (hx : 0 ≤ x.Rank ∧ x.Rank ≤ 4) : g5 (fR o x) = hR o x := by
  have hle := rk_le o x.Rank
  unfold fR hR g5
  by_cases h : 0 < x.Rank
  · rw [if_pos h, if_pos h]
    simp only
    have : Int.tdiv (x.Rank + 10 * (rk o x.Rank : Int)) 10 = (rk o x.Rank : Int) := by
      rw [Int.tdiv_eq_ediv_of_nonneg (by omega)]; omega
    rw [this, W_in (by omega) (by omega)]
  · rw [if_neg h, if_neg h]
    have h0 : x.Rank = 0 := by omega
    rw [h0]; rfl
def gp (o : List GScored) : List GScored := isort lexS (o.map (hR o))
theorem hR_rr {race : ByteArray} {rel : Bool} {o : List GScored} (h : O0 race rel o) (x : GScored) : 0 ≤ (hR o x).Rank ∧ (hR o x).Rank ≤ 6 := by
  have hle := rk_le o x.Rank
  have := h.len
  unfold hR
  simp only
  split <;> omega
section
variable {L : List Int} (hL : LongL L)
include hL
theorem sc_l1 (j : List GScored → Int → Option (List GScored × Int)) : ∀ (ys : List ByteArray) (i : Nat) (x1 : List GScored) (a : Int), 0 ≤ a → a + 16 * ys.length ≤ 1000000 → x1.length + 5 * ys.length ≤ 1000 →
    ∃ (os : List (Bool × List GScored)) (b : Int), Stream_RightScored_l1 L j ys i x1 a = j (x1 ++ (os.map fun p => gp p.2).flatten) b ∧ a ≤ b ∧ b ≤ a + 16 * ys.length ∧ os.length = ys.length ∧ ∀ (k : Nat) (y : ByteArray) (p : Bool × List GScored), ys[k]? = some y → os[k]? = some p → O0 y p.1 p.2
  | [], i, x1, a, _, _, _ => ⟨[], a, by rw [Stream_RightScored_l1]; simp, by omega, by simp, rfl, fun k y p h => by simp at h⟩
  | y :: ys, i, x1, a, h1, h2, h3 => by
    simp only [List.length_cons] at h2 h3
    rw [Stream_RightScored_l1]
    obtain ⟨f, b, e, g1, g2, _⟩ := flip_dr hL h1 (by omega) 3 (by omega)
    rw [e]; simp only [Option.bind_some, join_eq]
    obtain ⟨o, c, e2, q1, q2, q3⟩ := sc_l2 hL y (f, b) (fun (x3 : List GScored) (x4 : Int) => Stream_RightScored_l3 (fun x9 => Stream_RightScored_l5 (fun x15 => Option.bind (slices_SortFunc_Scored_tumbref2_ScoredOrder x15) (fun r5 => Chk (decide (x1.length + r5.length < 1073741824)) (Stream_RightScored_l1 L j ys (i + 1) (x1 ++ r5) x4))) x9 0 x9) x3 0 x3) [k_ann, k_bea, k_cid, k_dan, k_eve] 0 [] b (by decide +kernel) (fun y hy => hy) (fun _ h => by cases h) (by simp) ⟨by simp, (fun _ h => by cases h), List.Pairwise.nil⟩ (by omega) (by simp; omega)
    simp only [List.length_cons, List.length_nil] at q3
    rw [e2]
    have hrr : ∀ x ∈ o, 0 ≤ x.Rank ∧ x.Rank ≤ 4 := fun x hx => (q1.row x hx).2.2.2.2
    have h3' := sc_l3 o q1.len hrr (fun x9 => Stream_RightScored_l5 (fun x15 => Option.bind (slices_SortFunc_Scored_tumbref2_ScoredOrder x15) (fun r5 => Chk (decide (x1.length + r5.length < 1073741824)) (Stream_RightScored_l1 L j ys (i + 1) (x1 ++ r5) c))) x9 0 x9) o [] o rfl rfl
    simp only [List.length_nil, List.map_nil, List.nil_append] at h3'
    rw [h3']
    have h5' := sc_l5 (fun x15 => Option.bind (slices_SortFunc_Scored_tumbref2_ScoredOrder x15) (fun r5 => Chk (decide (x1.length + r5.length < 1073741824)) (Stream_RightScored_l1 L j ys (i + 1) (x1 ++ r5) c))) (o.map (fR o)) [] (o.map (fR o)) rfl (by simpa using q1.len)
    simp only [List.length_nil, List.map_nil, List.nil_append] at h5'
    rw [h5']
    have hm : (o.map (fR o)).map g5 = o.map (hR o) := by
      rw [List.map_map]
      exact List.map_congr_left fun x hx => g5_f o q1.len (hrr x hx)
    have hol := q1.len
    rw [hm, sortS_is _ (by simp; omega) (fun x hx => by
      obtain ⟨z, _, rfl⟩ := List.mem_map.1 hx
      have := hR_rr q1 z
      exact ⟨this.1, by omega⟩)]
    simp only [Option.bind_some]
    have hgl : (isort lexS (o.map (hR o))).length = o.length := by rw [isort_len', List.length_map]
    rw [chk_pos (by simp; omega)]
    obtain ⟨os, d, e3, r1, r2, r3, r4⟩ := sc_l1 j ys (i + 1) (x1 ++ isort lexS (o.map (hR o))) c (by omega) (by omega) (by rw [List.length_append]; omega)
    refine ⟨(f, o) :: os, d, by rw [e3]; simp [gp], by omega, by simp; omega, by simp [r3], fun k z p hk hp => ?_⟩
    cases k with
    | zero => simp at hk hp; subst hk hp; exact q1
    | succ k => exact r4 k z p (by simpa using hk) (by simpa using hp)
end
end Go.Proofs.YtcnneeipmadakaaGreatDoor
