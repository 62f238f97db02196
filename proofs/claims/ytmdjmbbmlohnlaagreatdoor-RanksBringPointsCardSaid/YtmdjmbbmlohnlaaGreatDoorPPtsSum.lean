/- Points of clubs and of swimmers: the program's sums are the reference's. Conditions: as in PPtsAll; at most twelve names. -/
import Derived.Test.YtmdjmbbmlohnlaaGreatDoorPPtsAll
import Derived.Test.YtmdjmbbmlohnlaaGreatDoorPPtsM
namespace Go.Proofs.YtmdjmbbmlohnlaaGreatDoor
open Go
theorem comp1 (s : List ByteArray) (hs : s.length ≤ 1000000) : ∀ (ys dn : List ByteArray) (p : ByteArray) (m : Nat), s = dn ++ p :: ys → ys.length < m → slices_Compact_string_l1 s (some s) m ((dn.length + 1 : Nat) : Int) = some (dn ++ p :: nbF p ys)
  | [], dn, p, m, e, h1 => by
    obtain ⟨m, rfl⟩ : ∃ q, m = q + 1 := ⟨m - 1, by omega⟩
    have hlen : s.length = dn.length + 1 := by rw [e]; simp
    rw [slices_Compact_string_l1, if_neg (by simp only [decide_eq_true_eq]; omega)]
    simp [nbF, ← e]
  | y :: ys, dn, p, m, e, h1 => by
    obtain ⟨m, rfl⟩ : ∃ q, m = q + 1 := ⟨m - 1, by omega⟩
    simp only [List.length_cons] at h1
    have hlen : s.length = dn.length + (ys.length + 1 + 1) := by rw [e]; simp
    have w1 : W (((dn.length + 1 : Nat) : Int) - 1) = (dn.length : Int) := by rw [W_in (by omega) (by omega)]; omega
    have n1 : nth s (dn.length : Int) = p := nth_get (by rw [e]; simp)
    have n2 : nth s ((dn.length + 1 : Nat) : Int) = y := nth_get (by rw [e, List.getElem?_append_right (by omega)]; simp)
    rw [slices_Compact_string_l1, if_pos (by simp only [decide_eq_true_eq]; omega), w1, chkT (inB_iff.2 (by omega)), chkT (inB_iff.2 (by omega)), n1, n2]
    by_cases hy : y = p
    · rw [if_pos (decide_eq_true hy), chkT (cutB_iff.2 (by omega)), joinR]
      obtain ⟨mid, e1, e2⟩ := comp_l (dn.length + 1) s.length _ (slices_Compact_string_l2 s ((dn.length + 1 : Nat) : Int) (fun (x2 : List ByteArray) (x3 : Int) => Chk (cutB x3 (x2.length : Int) x2.length) (Chk (cutB 0 x3 (clr x2 x3 (x2.length : Int) k_empty).length) (some (cut (clr x2 x3 (x2.length : Int) k_empty) (0 : Int) x3)))))
        (fun _ _ _ _ => rfl) (by omega) ys (dn ++ [p]) [] y (((((s.length : Int).toNat - ((dn.length + 1 : Nat) : Int).toNat : Nat) : Int) - 1).toNat + 2) 1 (by simp only [Int.toNat_natCast]; omega) (by simp; omega) (by omega) (by simp)
      have e3 : dn ++ [p] ++ [] ++ y :: ys = s := by rw [e]; simp
      have e4 : ((dn ++ [p]).length : Int) = ((dn.length + 1 : Nat) : Int) := by simp
      rw [e3, e4] at e1
      refine e1.trans ?_
      obtain ⟨c1, c2, c3⟩ := cut_clr (dn ++ [p] ++ nbF y ys) mid k_empty
      rw [chkT c1, chkT c2, c3]
      simp [nbF, hy]
    · rw [if_neg (by simpa using hy)]
      have w2 : W (((dn.length + 1 : Nat) : Int) + 1) = (((dn ++ [p]).length + 1 : Nat) : Int) := by rw [W_in (by omega) (by omega)]; simp
      rw [w2, comp1 s hs ys (dn ++ [p]) y m (by rw [e]; simp) (by omega)]
      simp [nbF, hy]
theorem compact_is (s : List ByteArray) (hs : s.length ≤ 1000000) : slices_Compact_string s = some (nb s) := by
  unfold slices_Compact_string
  cases s with
  | nil => rfl
  | cons p ys =>
    by_cases h : ((p :: ys).length : Int) < 2
    · have : ys = [] := List.eq_nil_of_length_eq_zero (by simp at h; omega)
      subst this
      rfl
    · rw [if_neg (by simpa using h), joinR]
      have := comp1 (p :: ys) hs ys [] p ((((p :: ys).length : Int) - 1).toNat + 2) rfl (by simp)
      simpa [nb] using this
theorem nbF_mem {α : Type} [DecidableEq α] : ∀ (r : List α) (p x : α), x ∈ nbF p r → x ∈ r
  | [], _, _, h => by cases h
  | y :: r, p, x, h => by
    unfold nbF at h
    split at h
    · exact List.mem_cons_of_mem _ (nbF_mem r y x h)
    · rcases List.mem_cons.1 h with rfl | h
      · simp
      · exact List.mem_cons_of_mem _ (nbF_mem r y x h)
theorem mem_nbF {α : Type} [DecidableEq α] : ∀ (r : List α) (p x : α), x ∈ r → x = p ∨ x ∈ nbF p r
  | [], _, _, h => by cases h
  | y :: r, p, x, h => by
    unfold nbF
    rcases List.mem_cons.1 h with rfl | h
    · split
      · rename_i e; exact .inl e
      · exact .inr (by simp)
    · rcases mem_nbF r y x h with rfl | h2
      · split
        · rename_i e; exact .inl e
        · exact .inr (by simp)
      · split
        · exact .inr h2
        · exact .inr (List.mem_cons_of_mem _ h2)
theorem nbF_up : ∀ (r : List ByteArray) (p : ByteArray), (p :: r).Pairwise leB → (p :: nbF p r).Pairwise fun a b => cB a b < 0
  | [], p, _ => by simp [nbF]
  | y :: r, p, h => by
    rw [List.pairwise_cons] at h
    have hy := h.1 y (by simp)
    have ih := nbF_up r y h.2
    unfold nbF
    by_cases e : y = p
    · rw [if_pos e]
      rw [e] at ih ⊢
      exact ih
    · rw [if_neg e]
      have h1 : cB p y < 0 := by
        rcases hy with h | h
        · exact h
        · exact absurd h.symm e
      refine List.pairwise_cons.2 ⟨fun z hz => ?_, ih⟩
      rcases List.mem_cons.1 hz with rfl | hz
      · exact h1
      · rw [List.pairwise_cons] at ih
        exact cB_trans h1 (ih.1 z hz)
theorem cb_le : ∀ (a b : List UInt8), a ≤ b → Lib.compareBytes a b ≤ 0
  | [], [], _ => by simp [Lib.compareBytes]
  | [], _ :: _, _ => by simp [Lib.compareBytes]
  | x :: a, [], h => by
    exact absurd h (by simp)
  | x :: a, y :: b, h => by
    rw [Lib.compareBytes]
    rw [List.cons_le_cons_iff] at h
    rcases h with h | ⟨rfl, h⟩
    · rw [if_pos h]; omega
    · rw [if_neg (UInt8.lt_irrefl _), if_neg (UInt8.lt_irrefl _)]
      exact cb_le a b h
theorem sorted_names (l : List ByteArray) : (sortStrs l).Pairwise leB ∧ ∀ x, x ∈ sortStrs l ↔ x ∈ l := by
  unfold sortStrs
  constructor
  · rw [List.pairwise_map]
    refine (List.pairwise_mergeSort (le := fun x y => decide (x ≤ y)) (fun a b c h1 h2 => by
      rw [decide_eq_true_eq] at *; exact List.le_trans h1 h2) (fun a b => by
      rcases List.le_total a b with h | h <;> simp [h]) _).imp ?_
    intro a b h
    have := cb_le a b (of_decide_eq_true h)
    have e : cB (⟨a.toArray⟩ : ByteArray) ⟨b.toArray⟩ = Lib.compareBytes a b := rfl
    rcases Int.lt_or_eq_of_le this with h1 | h1
    · exact .inl (by rw [e]; exact h1)
    · exact .inr (cB_zero (by rw [e]; exact h1))
  · intro x
    rw [List.mem_map]
    constructor
    · rintro ⟨a, ha, rfl⟩
      rw [List.mem_mergeSort, List.mem_map] at ha
      obtain ⟨y, hy, rfl⟩ := ha
      exact hy
    · intro hx
      exact ⟨x.data.toList, by rw [List.mem_mergeSort]; exact List.mem_map.2 ⟨x, hx, rfl⟩, rfl⟩
def keysOf (l : List ByteArray) : List ByteArray := nb (sortStrs l)
theorem keys_up (l : List ByteArray) : (keysOf l).Pairwise (fun a b => cB a b < 0) := by
  unfold keysOf
  have h := (sorted_names l).1
  cases e : sortStrs l with
  | nil => exact List.Pairwise.nil
  | cons p r => rw [e] at h; exact nbF_up r p h
theorem keys_mem (l : List ByteArray) (x : ByteArray) : x ∈ keysOf l ↔ x ∈ l := by
  rw [← (sorted_names l).2 x]
  unfold keysOf
  cases e : sortStrs l with
  | nil => exact Iff.rfl
  | cons p r =>
    show x ∈ p :: nbF p r ↔ x ∈ p :: r
    constructor
    · intro h
      rcases List.mem_cons.1 h with rfl | h
      · simp
      · exact List.mem_cons_of_mem _ (nbF_mem r p x h)
    · intro h
      rcases List.mem_cons.1 h with rfl | h
      · simp
      · rcases mem_nbF r p x h with rfl | h
        · simp
        · exact List.mem_cons_of_mem _ h
theorem mem_get {ν : Type} (d : ν) : ∀ (m : List (ByteArray × ν)), (m.map (·.1)).Nodup → ∀ k v, (k, v) ∈ m ↔ k ∈ m.map (·.1) ∧ mgetD m k d = v
  | [], _, k, v => by simp
  | p :: m, h, k, v => by
    rw [List.map_cons, List.nodup_cons] at h
    have idx : ∀ (m : List (ByteArray × ν)) (i j : Nat), (mfind m k i).map (·.2) = (mfind m k j).map (·.2) := by
      intro m
      induction m with
      | nil => intros; rfl
      | cons q m ih =>
        intro i j
        obtain ⟨a, b⟩ := q
        unfold mfind
        split
        · rfl
        · exact ih _ _
    obtain ⟨a, b⟩ := p
    have hg : mgetD ((a, b) :: m) k d = if k = a then b else mgetD m k d := by
      unfold mgetD mget
      rw [mfind]
      split
      · rfl
      · rw [idx m (0 + 1) 0]
    rw [hg]
    have ih := mem_get d m h.2 k v
    by_cases e : k = a
    · subst e
      rw [if_pos rfl]
      constructor
      · intro hm
        rcases List.mem_cons.1 hm with hm | hm
        · injection hm with _ e2; exact ⟨by simp, e2.symm⟩
        · exact (h.1 (List.mem_map.2 ⟨_, hm, rfl⟩)).elim
      · rintro ⟨_, rfl⟩; simp
    · rw [if_neg e]
      constructor
      · intro hm
        rcases List.mem_cons.1 hm with hm | hm
        · injection hm with e1 _; exact (e e1).elim
        · exact ⟨List.mem_cons_of_mem _ (ih.1 hm).1, (ih.1 hm).2⟩
      · rintro ⟨h1, h2⟩
        rcases List.mem_cons.1 h1 with h1 | h1
        · exact (e h1).elim
        · exact List.mem_cons_of_mem _ (ih.2 ⟨h1, h2⟩)
theorem sums_canon {m : List (ByteArray × GFraction)} {K : List ByteArray} (f : ByteArray → GFraction) (hnd : (m.map (·.1)).Nodup) (hl : m.length ≤ 12) (hK : K.Pairwise (fun a b => cB a b < 0)) (hmem : ∀ k v, (k, v) ∈ m ↔ k ∈ K ∧ v = f k) :
    points_sums m = some (K.map fun k => GGiven.mk k (f k)) := by
  have hlt : ∀ x y z : GGiven, ltG x y = true → ltG y z = true → ltG x z = true := fun x y z h1 h2 => by
    rw [ltG_cb, decide_eq_true_eq] at *; exact cB_trans h1 h2
  have hirr : ∀ x : GGiven, ltG x x = false := fun x => by rw [ltG_cb, cB_refl]; rfl
  have htot : ∀ l : List GGiven, (l.map (·.Key)).Nodup → l.Pairwise fun a b => ltG b a = false → ltG a b = true := fun l hl => by
    refine (List.pairwise_map.1 hl).imp fun {a b} hne hb => ?_
    rw [ltG_cb, decide_eq_false_iff_not] at hb
    rw [ltG_cb, decide_eq_true_eq]
    have h0 : cB a.Key b.Key ≠ 0 := fun e => hne (cB_zero e)
    have := cB_flip a.Key b.Key
    omega
  have hkeys : ∀ p : List (ByteArray × GFraction), (p.map gm).map (·.Key) = p.map (·.1) := fun p => by rw [List.map_map]; rfl
  unfold points_sums
  simp only [join_eq]
  refine allP_is fun p hp => ?_
  have hpl : p.length = m.length := hp.length_eq
  rw [sums_l1 _ p [] (by simp; omega), List.nil_append, sortG_is _ (by rw [List.length_map]; omega), Option.bind_some]
  have hnd' : ((p.map gm).map (·.Key)).Nodup := by rw [hkeys, (hp.map (·.1)).nodup_iff]; exact hnd
  rw [isort_is hirr hlt (p.map gm) (K.map fun k => GGiven.mk k (f k)) (htot _ hnd') (by
    rw [List.pairwise_map]
    exact hK.imp fun h => by rw [ltG_cb]; exact decide_eq_true h) fun x => by
    rw [(hp.map gm).mem_iff, List.mem_map, List.mem_map]
    constructor
    · rintro ⟨⟨k, v⟩, h, rfl⟩
      obtain ⟨h1, rfl⟩ := (hmem k v).1 h
      exact ⟨k, h1, rfl⟩
    · rintro ⟨k, h, rfl⟩
      exact ⟨(k, f k), (hmem k _).2 ⟨h, rfl⟩, rfl⟩]
structure MS (m : List (ByteArray × GFraction)) (K : ByteArray → Prop) (u : ByteArray → Nat) : Prop where
  nd : (m.map (·.1)).Nodup
  keys : ∀ k, k ∈ m.map (·.1) ↔ K k
  vals : ∀ k, K k → mgetD m k (GFraction.mk 0 0) = frB (u k)
theorem MS.put {m : List (ByteArray × GFraction)} {K : ByteArray → Prop} {u : ByteArray → Nat} (h : MS m K u) (k : ByteArray) (v : Nat) : MS (mput m k (frB v)) (fun z => z = k ∨ K z) (fun z => if z = k then v else u z) := by
  obtain ⟨a, b⟩ := mput_keys k (frB v) m h.nd
  refine ⟨a, fun z => by rw [b z, h.keys z], fun z hz => ?_⟩
  rw [mgetPut]
  by_cases e : z = k
  · rw [if_pos e, if_pos e]
  · rw [if_neg e, if_neg e]
    rcases hz with hz | hz
    · exact (e hz).elim
    · exact h.vals z hz
theorem MS.congr {m : List (ByteArray × GFraction)} {K K' : ByteArray → Prop} {u u' : ByteArray → Nat} (h : MS m K u) (hk : ∀ k, K k ↔ K' k) (hu : ∀ k, K' k → u k = u' k) : MS m K' u' :=
  ⟨h.nd, fun k => (h.keys k).trans (hk k), fun k hk' => by rw [h.vals k ((hk k).2 hk'), hu k hk']⟩
theorem MS.sums {m : List (ByteArray × GFraction)} {K : ByteArray → Prop} {u : ByteArray → Nat} (h : MS m K u) (names : List ByteArray) (hn : ∀ k, k ∈ names ↔ K k) (few : List ByteArray) (hf : few.length ≤ 12) (hff : ∀ k ∈ names, k ∈ few) : points_sums m = some ((keysOf names).map fun k => GGiven.mk k (frB (u k))) := by
  refine sums_canon (fun k => frB (u k)) h.nd ?_ (keys_up names) fun k v => ?_
  · have := nodup_len (m.map (·.1)) few h.nd fun k hk => hff k ((hn k).2 ((h.keys k).1 hk))
    rw [List.length_map] at this
    omega
  · rw [mem_get (GFraction.mk 0 0) m h.nd k v, h.keys k, keys_mem, hn k]
    constructor
    · rintro ⟨h1, rfl⟩; exact ⟨h1, h.vals k h1⟩
    · rintro ⟨h1, rfl⟩; exact ⟨h1, h.vals k h1⟩
end Go.Proofs.YtmdjmbbmlohnlaaGreatDoor
