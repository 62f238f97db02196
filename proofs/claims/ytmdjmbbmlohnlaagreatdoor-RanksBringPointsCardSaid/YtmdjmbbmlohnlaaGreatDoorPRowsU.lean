/- The points of rows, of all races. Conditions: as in PRowsS; at most 15 rows. -/
import Derived.Test.YtmdjmbbmlohnlaaGreatDoorPRowsT
namespace Go.Proofs.YtmdjmbbmlohnlaaGreatDoor
open Go
theorem contains_is (v : GScored) : ∀ (l : List GScored), slices_Contains_Scored l v = decide (v ∈ l) := by
  intro l
  unfold slices_Contains_Scored slices_Index_Scored
  simp only [join_eq]
  have gen : ∀ (l : List GScored) (i : Nat), decide (0 ≤ slices_Index_Scored_l1 v (-1) l i) = decide (v ∈ l) := by
    intro l
    induction l with
    | nil => intro i; simp [slices_Index_Scored_l1]
    | cons y l ih =>
      intro i
      rw [slices_Index_Scored_l1]
      by_cases h : v = y
      · rw [if_pos (decide_eq_true h)]; simp [h]
      · rw [if_neg (by simpa using h), ih (i + 1)]; simp [h]
  exact gen l 0
theorem places_sub : ∀ (cs : List GScored) (k : Int) (x2 : List Int), (∀ s ∈ x2, k ≤ s ∧ s < k + cs.length) → x2.Pairwise (fun a b => a < b) → (x2.map fun s => nth cs (s - k)).Sublist cs
  | [], k, x2, h, _ => by
    cases x2 with
    | nil => exact .slnil
    | cons s x2 => have := h s List.mem_cons_self; simp at this; omega
  | c :: cs, k, x2, h, hp => by
    have sh : ∀ (x : List Int), (∀ s ∈ x, k + 1 ≤ s ∧ s < k + 1 + cs.length) → (x.map fun s => nth (c :: cs) (s - k)) = x.map fun s => nth cs (s - (k + 1)) := fun x hx => List.map_congr_left fun s hs => by
      have := hx s hs
      unfold nth
      rw [show (s - k).toNat = (s - (k + 1)).toNat + 1 by omega]; rfl
    cases x2 with
    | nil => exact List.nil_sublist _
    | cons s x2 =>
      obtain ⟨p1, p2⟩ := List.pairwise_cons.1 hp
      have hs := h s List.mem_cons_self
      simp only [List.length_cons] at h hs
      have tl : ∀ z ∈ x2, k + 1 ≤ z ∧ z < k + 1 + cs.length := fun z hz => by
        have a := h z (List.mem_cons_of_mem _ hz); have b := p1 z hz; omega
      by_cases e : s = k
      · subst e
        rw [List.map_cons, sh x2 tl]
        have : nth (c :: cs) (s - s) = c := by rw [Int.sub_self]; rfl
        rw [this]
        exact (places_sub cs (s + 1) x2 tl p2).cons_cons c
      · have all : ∀ z ∈ s :: x2, k + 1 ≤ z ∧ z < k + 1 + cs.length := fun z hz => by
          rcases List.mem_cons.1 hz with rfl | hz
          · omega
          · exact tl z hz
        rw [sh _ all]
        exact (places_sub cs (k + 1) (s :: x2) all hp).cons c
def Pts (f : GFraction) : Prop := ∃ v, v ≤ 4000000000 ∧ f = frB v
theorem div2520 {N : Nat} (h1 : 1 ≤ N) (h2 : N ≤ 10) : 2520 / N * N = 2520 := by
  have : N = 1 ∨ N = 2 ∨ N = 3 ∨ N = 4 ∨ N = 5 ∨ N = 6 ∨ N = 7 ∨ N = 8 ∨ N = 9 ∨ N = 10 := by omega
  rcases this with rfl | rfl | rfl | rfl | rfl | rfl | rfl | rfl | rfl | rfl <;> rfl
theorem grp_pts {t : GTable} (ht : TR t) {P g Q : List GScored} {r : ByteArray} (hP : ∀ o ∈ P, o.Race ≠ r) (hQ : ∀ o ∈ Q, o.Race ≠ r) (hr : ∀ o ∈ g, o.Race = r) (hne : g ≠ []) (hg : Gr g) (hm : mixG g = false) (hf : g.any (fullE g) = false) (hd : g.Pairwise Dif) (hl : g.length ≤ 15) :
    ∃ out, points_race t g = some out ∧ out.map (·.x_) = g.filter tumbref2_counted ∧ ∀ row ∈ out, tumbref2_shareOf t (P ++ (g ++ Q)) row.x_ = some row.points_ ∧ Pts row.points_ := by
  obtain ⟨m', x2, q1, q2, q3, q4⟩ := both_l1 t r g [] [] [] (fun y hy => ⟨hr y hy, hg.rr y hy⟩) ⟨(fun _ h => by cases h), List.Pairwise.nil⟩ (by simp; omega) (by simp)
  rw [List.nil_append] at q1 q2
  simp only [List.nil_append, List.map_nil] at q3 q4
  obtain ⟨cs, hcs⟩ : ∃ cs, cs = g.filter tumbref2_counted := ⟨_, rfl⟩
  rw [← hcs] at q1 q2 q3 q4 ⊢
  have csg : cs.Sublist g := by rw [hcs]; exact List.filter_sublist
  have hcl : cs.length ≤ 15 := Nat.le_trans csg.length_le hl
  have swc : (x2.map (nth cs)).Sublist cs := by
    have := places_sub cs 0 x2 (fun s hs => by have := q1.1 s hs; omega) q1.2
    simpa using this
  have cpos : ∀ y ∈ cs, 0 < y.Rank := fun y hy => by
    rw [hcs] at hy
    have := (List.mem_filter.1 hy).2
    unfold tumbref2_counted at this
    simp only [Bool.and_eq_true, decide_eq_true_eq] at this
    exact this.1
  have ranks : (x2.map (nth cs)).Pairwise fun a b => a.Rank ≤ b.Rank := by
    have h1 : cs.Pairwise fun a b => a.Rank ≤ b.Rank := by
      refine (hg.le.sublist csg).imp_of_mem ?_
      intro a b ha hb h
      rw [kR_pos (hg.rr a (csg.subset ha)) (cpos a ha), kR_pos (hg.rr b (csg.subset hb)) (cpos b hb)] at h
      exact h
    exact h1.sublist swc
  have hrel : ∀ y ∈ g, y.Relay = (nth g 0).Relay := fun y hy => by
    have := List.any_eq_false.1 hm y hy
    simpa using this
  have x2l : x2.length ≤ 15 := by omega
  obtain ⟨out, e1, e2, e3, e4, e5⟩ := run_l2 ht q1 (by omega) hne (nth g 0).Relay rfl ranks (fun x8 => some x8) x2.length (((x2.length : Int) - 0).toNat + 2) 0 (cs.map mkr) (by omega) (by omega) (by simp) (fun s h0 hs => by
    have : nth (cs.map mkr) s = mkr (nth cs s) := by
      obtain ⟨p, rfl⟩ := Int.eq_ofNat_of_zero_le h0
      rw [nth_nat (by simp; omega), List.getElem_map, nth_nat (by omega)]
    rw [this]; rfl) (by simp)
  have hrace : points_race t g = some out := by
    unfold points_race
    simp only [join_eq]
    exact (q3 _ 0).trans e1
  have base : ∀ s : Int, 0 ≤ s → s < cs.length → nth (cs.map mkr) s = mkr (nth cs s) := fun s h0 hs => by
    obtain ⟨p, rfl⟩ := Int.eq_ofNat_of_zero_le h0
    rw [nth_nat (by simp; omega), List.getElem_map, nth_nat (by omega)]
  have mapx : out.map (·.x_) = cs := by
    apply List.ext_getElem (by simp [e2])
    intro i h1 h2
    rw [List.getElem_map, ← nth_nat (l := out) (by omega), e3 _ (by omega) (by omega), nth_nat (by omega)]
  -- who is in the list of those that swim for points
  have csd : cs.Pairwise Dif := hd.sublist csg
  have inj : ∀ (s s' : Int), 0 ≤ s → s < cs.length → 0 ≤ s' → s' < cs.length → nth cs s = nth cs s' → s = s' := by
    intro s s' a1 a2 b1 b2 e
    obtain ⟨p, rfl⟩ := Int.eq_ofNat_of_zero_le a1
    obtain ⟨p', rfl⟩ := Int.eq_ofNat_of_zero_le b1
    rw [nth_nat (by omega), nth_nat (by omega)] at e
    have h := List.pairwise_iff_getElem.1 csd
    rcases Nat.lt_trichotomy p p' with c | c | c
    · exact (h p p' (by omega) (by omega) c ⟨by rw [e], by rw [e]⟩).elim
    · omega
    · exact (h p' p (by omega) (by omega) c ⟨by rw [e], by rw [e]⟩).elim
  refine ⟨out, hrace, mapx, fun row hrow => ?_⟩
  obtain ⟨p, hpl, rfl⟩ := List.getElem_of_mem hrow
  have hpc : p < cs.length := by omega
  have hrow' : nth out (p : Int) = out[p] := nth_nat hpl
  rw [← hrow']
  have hx : (nth out (p : Int)).x_ = nth cs (p : Int) := e3 _ (by omega) (by omega)
  have hmem : nth cs (p : Int) ∈ cs := by rw [nth_nat hpc]; exact List.getElem_mem hpc
  have hxr : (nth cs (p : Int)).Race = r := hr _ (csg.subset hmem)
  rw [hx]
  -- the reference's share
  have hshare : tumbref2_shareOf t (P ++ (g ++ Q)) (nth cs (p : Int)) = if (!(slices_Contains_Scored (x2.map (nth cs)) (nth cs (p : Int)))) = true then some (GFraction.mk 0 1) else
      tumbref2_shareOf_l2 (nth cs (p : Int)) t (fun (x6 : Int) (x7 : Int) => if (nth cs (p : Int)).Relay = true then Option.bind (tumbref2_Lowest (W (x6 * t.Relay)) x7) (fun r1 => some r1) else Option.bind (tumbref2_Lowest x6 x7) (fun r1 => some r1)) (x2.map (nth cs)) 0 0 0 := by
    unfold tumbref2_shareOf
    simp only [join_eq]
    rw [share_app, share_skip _ _ _ P 0 [] [] (fun o ho => by rw [hxr]; exact hP o ho), share_app, q4 _ _ 0 hxr, share_skip _ _ _ Q 0 _ _ (fun o ho => by rw [hxr]; exact hQ o ho)]
  rw [hshare, contains_is]
  rcases Classical.em (∃ k : Nat, k < x2.length ∧ nth x2 (k : Int) = (p : Int)) with ⟨k, hk, hkp⟩ | hno
  · have hin : nth cs (p : Int) ∈ x2.map (nth cs) := by
      rw [← hkp, nth_nat hk]
      exact List.mem_map.2 ⟨_, List.getElem_mem hk, rfl⟩
    have hval := e4 k (Nat.zero_le _) hk
    rw [hkp] at hval
    obtain ⟨sw, hsw⟩ : ∃ sw, sw = x2.map (nth cs) := ⟨_, rfl⟩
    rw [← hsw] at hin hval swc ⊢
    have hswl : sw.length ≤ 15 := by rw [hsw, List.length_map]; exact x2l
    have hc1 : 0 < cntI (nth cs (p : Int)).Rank sw := List.countP_pos_iff.2 ⟨_, hin, by simp⟩
    have hc10 : cntI (nth cs (p : Int)).Rank sw ≤ 10 := by
      have h1 := (swc.trans csg).countP_le (p := fun s : GScored => decide (s.Rank = (nth cs (p : Int)).Rank))
      have h2 := List.any_eq_false.1 hf _ (csg.subset hmem)
      unfold fullE sameR at h2
      have h3 : g.countP (fun o => decide (o.Race = (nth cs (p : Int)).Race) && decide (o.Rank = (nth cs (p : Int)).Rank)) = g.countP (fun s => decide (s.Rank = (nth cs (p : Int)).Rank)) := List.countP_congr fun o ho => by
        rw [hr o ho, hxr]; simp
      rw [h3] at h2
      have h4 := cpos _ hmem
      simp only [h4, decide_true, Bool.true_and, decide_eq_true_eq] at h2
      unfold cntI
      omega
    obtain ⟨a, ha, ha2, hV⟩ := val_parts (t := t) ht (nth g 0).Relay (sw := sw) (by omega) hc1
    have hcn : cntI (nth cs (p : Int)).Rank sw ≤ sw.length := List.countP_le_length
    have hlow : words_Fraction (a : Int) ((cntI (nth cs (p : Int)).Rank sw : Nat) : Int) = some (nth out (p : Int)).points_ := by
      rw [← hval]; unfold valR; rw [ha]
    have hsr := sum_rng ht (nth cs (p : Int)).Rank sw 0
    refine ⟨?_, a * (2520 / cntI (nth cs (p : Int)).Rank sw), ?_, ?_⟩
    · rw [decide_eq_true hin, Bool.not_true, if_neg (by simp), share_l2 _ ht _ sw 0 0 0 (by omega) (by omega) (by omega) (by omega), hrel _ (csg.subset hmem)]
      rw [Int.zero_add, Int.zero_add, ← hlow]
      cases hrl : (nth g 0).Relay with
      | true =>
        rw [hrl] at ha
        simp only [if_true] at ha ⊢
        rw [← ha, W_in (by omega) (by omega), low_is a _ hc1 (by omega) (by omega), hlow]; rfl
      | false =>
        rw [hrl] at ha
        simp only [Bool.false_eq_true, if_false] at ha ⊢
        rw [← ha, low_is a _ hc1 (by omega) (by omega), hlow]; rfl
    · have h1 : 2520 / cntI (nth cs (p : Int)).Rank sw ≤ 2520 := Nat.div_le_self _ _
      have h2 : a ≤ 1500000 := by omega
      have := Nat.mul_le_mul h2 h1
      omega
    · have h1 := frac_frB (a := a) (b := cntI (nth cs (p : Int)).Rank sw) (v := a * (2520 / cntI (nth cs (p : Int)).Rank sw)) hc1 (by rw [Nat.mul_assoc, div2520 (by omega) hc10]) (by omega) (by omega)
      rw [hlow] at h1
      exact Option.some.inj h1
  · have hnin : nth cs (p : Int) ∉ x2.map (nth cs) := by
      intro h
      obtain ⟨s, hs, e⟩ := List.mem_map.1 h
      obtain ⟨k, hk, rfl⟩ := List.getElem_of_mem hs
      have := q1.1 _ hs
      have e' := inj _ _ this.1 this.2 (by omega) (by omega) e
      exact hno ⟨k, hk, by rw [nth_nat hk]; exact e'⟩
    rw [decide_eq_false hnin, Bool.not_false, if_pos rfl, e5 _ (by omega) (by omega) (fun k _ hk e => hno ⟨k, hk, e⟩), base _ (by omega) (by omega)]
    exact ⟨rfl, 0, by omega, by show points_none = frB 0; exact none_frB⟩
end Go.Proofs.YtmdjmbbmlohnlaaGreatDoor
