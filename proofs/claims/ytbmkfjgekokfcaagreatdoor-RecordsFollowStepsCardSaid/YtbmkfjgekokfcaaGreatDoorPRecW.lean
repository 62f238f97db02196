/- What the steps make: the program follows them with marks on what was swum, the reference by the state of each Id; both come to the same. No program stands here but its twins. -/
import Derived.Test.YtbmkfjgekokfcaaGreatDoorPRecF
namespace Go.Proofs.YtbmkfjgekokfcaaGreatDoor
open Go
def stf (l : List GStep) (id : ByteArray) : Int := l.foldl (fun st s => if (decide (s.Id = id) && tumbref2_follows st s.Kind) then s.Kind else st) 0
theorem stf_snoc (p : List GStep) (y : GStep) (id : ByteArray) : stf (p ++ [y]) id = if (decide (y.Id = id) && tumbref2_follows (stf p id) y.Kind) then y.Kind else stf p id := by
  unfold stf
  rw [List.foldl_append]
  rfl
def upS (l : List GStep) (t : Int) : List GStep := l.filter fun s => decide (s.At ≤ t)
def firsts (u : List GStep) : List GStep := sel (fun s i => decide (s.Kind = 1) && decide (stf (u.take i) s.Id = 0)) (fun s _ => s) u 0
theorem upS_len (l : List GStep) (t : Int) : (upS l t).length ≤ l.length := List.length_filter_le _ _
theorem firsts_snoc (p : List GStep) (y : GStep) : firsts (p ++ [y]) = if (decide (y.Kind = 1) && decide (stf p y.Id = 0)) then firsts p ++ [y] else firsts p := by
  unfold firsts
  rw [sel_app]
  have h1 : sel (fun s i => decide (s.Kind = 1) && decide (stf ((p ++ [y]).take i) s.Id = 0)) (fun s _ => s) p 0 = sel (fun s i => decide (s.Kind = 1) && decide (stf (p.take i) s.Id = 0)) (fun s _ => s) p 0 :=
    sel_congr p 0 fun k z hz => by
      have hk : k < p.length := (List.getElem?_eq_some_iff.1 hz).1
      refine ⟨?_, fun _ => rfl⟩
      rw [List.take_append_of_le_length (by omega)]
  rw [h1]
  simp only [sel, Nat.zero_add, List.take_left']
  split <;> simp
def refs (u : List GStep) : List Int := sel (fun s i => !tumbref2_follows (stf (u.take i) s.Id) s.Kind) (fun _ i => (i : Int)) u 0
theorem refs_snoc (p : List GStep) (y : GStep) : refs (p ++ [y]) = if tumbref2_follows (stf p y.Id) y.Kind then refs p else refs p ++ [(p.length : Int)] := by
  unfold refs
  rw [sel_app]
  have h1 : sel (fun s i => !tumbref2_follows (stf ((p ++ [y]).take i) s.Id) s.Kind) (fun _ i => (i : Int)) p 0 = sel (fun s i => !tumbref2_follows (stf (p.take i) s.Id) s.Kind) (fun _ i => (i : Int)) p 0 :=
    sel_congr p 0 fun k z hz => by
      have hk : k < p.length := (List.getElem?_eq_some_iff.1 hz).1
      refine ⟨?_, fun _ => rfl⟩
      rw [List.take_append_of_le_length (by omega)]
  rw [h1]
  simp only [sel, Nat.zero_add, List.take_left']
  cases tumbref2_follows (stf p y.Id) y.Kind <;> simp
def code (y : Grecord_swum) : Int := if y.void_ then 3 else if y.sure_ then 2 else 1
structure Fol (p : List GStep) (sw : List Grecord_swum) : Prop where
  steps : sw.map (·.s_) = firsts p
  marks : ∀ y ∈ sw, code y = stf p y.s_.Id
  known : ∀ id, (swFind sw id).isNone = decide (stf p id = 0)
  once : (sw.map fun y => y.s_.Id).Nodup
theorem swFind_none {sw : List Grecord_swum} {id : ByteArray} (h : (swFind sw id).isNone = true) : ∀ y ∈ sw, y.s_.Id ≠ id := by
  intro y hy he
  unfold swFind at h
  rw [Option.isNone_iff_eq_none, List.findIdx?_eq_none_iff] at h
  have := h y hy
  simp [he] at this
theorem swFind_some {sw : List Grecord_swum} {id : ByteArray} (h : (swFind sw id).isSome = true) : sw[swPos sw id]? = some (swAt sw id) ∧ (swAt sw id).s_.Id = id := by
  obtain ⟨j, hj⟩ := Option.isSome_iff_exists.1 h
  have hp : swPos sw id = j := by unfold swPos; rw [hj]; rfl
  unfold swFind at hj
  obtain ⟨h1, h2, _⟩ := List.findIdx?_eq_some_iff_getElem.1 hj
  have ha : swAt sw id = sw[j] := by unfold swAt; rw [hp]; simp [List.getD, List.getElem?_eq_getElem h1]
  rw [hp, ha]
  refine ⟨List.getElem?_eq_getElem h1, ?_⟩
  simpa using (of_decide_eq_true h2).symm
theorem fol_skip {p : List GStep} {sw : List Grecord_swum} {y : GStep} (h : Fol p sw) (hf : tumbref2_follows (stf p y.Id) y.Kind = false) : Fol (p ++ [y]) sw := by
  have hs : ∀ id, stf (p ++ [y]) id = stf p id := by
    intro id
    rw [stf_snoc]
    by_cases hi : y.Id = id
    · subst hi; simp [hf]
    · simp [hi]
  refine ⟨?_, fun z hz => by rw [hs]; exact h.marks z hz, fun id => by rw [hs]; exact h.known id, h.once⟩
  rw [h.steps, firsts_snoc, if_neg]
  simp only [Bool.and_eq_true, decide_eq_true_eq, not_and]
  intro hk h0
  unfold tumbref2_follows at hf
  simp [hk, h0] at hf
theorem fol_new {p : List GStep} {sw : List Grecord_swum} {y : GStep} (h : Fol p sw) (hk : y.Kind = 1) (hn : (swFind sw y.Id).isNone = true) : Fol (p ++ [y]) (sw ++ [Grecord_swum.mk y false false]) := by
  have h0 : stf p y.Id = 0 := by have := h.known y.Id; rw [hn] at this; simpa using this.symm
  have hs : ∀ id, stf (p ++ [y]) id = if y.Id = id then 1 else stf p id := by
    intro id
    rw [stf_snoc]
    by_cases hi : y.Id = id
    · subst hi; simp [tumbref2_follows, hk, h0]
    · simp [hi]
  have hne := swFind_none hn
  refine ⟨?_, ?_, ?_, ?_⟩
  · rw [List.map_append, h.steps, firsts_snoc, if_pos (by simp [hk, h0])]
    rfl
  · intro z hz
    rw [hs]
    rcases List.mem_append.1 hz with hz | hz
    · rw [if_neg (fun e => hne z hz e.symm)]
      exact h.marks z hz
    · rw [List.mem_singleton] at hz
      subst hz
      simp [code]
  · intro id
    rw [hs]
    have h1 := h.known id
    unfold swFind at h1 ⊢
    rw [List.findIdx?_append]
    by_cases hi : y.Id = id
    · subst hi
      rw [if_pos rfl]
      cases hf : List.findIdx? (fun s : Grecord_swum => decide (y.Id = s.s_.Id)) sw with
      | none => simp
      | some j => simp
    · rw [if_neg hi, ← h1]
      have h2 : List.findIdx? (fun s : Grecord_swum => decide (id = s.s_.Id)) [Grecord_swum.mk y false false] = none := by simp [show ¬ id = y.Id from fun e => hi e.symm]
      rw [h2]
      cases List.findIdx? (fun s : Grecord_swum => decide (id = s.s_.Id)) sw <;> rfl
  · rw [List.map_append, List.nodup_append]
    refine ⟨h.once, by simp, ?_⟩
    intro a ha b hb
    simp only [List.map_cons, List.map_nil, List.mem_singleton] at hb
    subst hb
    obtain ⟨z, hz, rfl⟩ := List.mem_map.1 ha
    exact hne z hz
theorem nodup_at {α : Type} : ∀ {l : List α}, l.Nodup → ∀ {i j : Nat} {a : α}, l[i]? = some a → l[j]? = some a → i = j
  | [], _, _, _, _, hi, _ => by simp at hi
  | x :: l, h, i, j, a, hi, hj => by
    rw [List.nodup_cons] at h
    cases i with
    | zero =>
      cases j with
      | zero => rfl
      | succ j =>
        simp only [List.getElem?_cons_zero, Option.some.injEq, List.getElem?_cons_succ] at hi hj
        subst hi
        exact (h.1 (List.mem_of_getElem? hj)).elim
    | succ i =>
      cases j with
      | zero =>
        simp only [List.getElem?_cons_zero, Option.some.injEq, List.getElem?_cons_succ] at hi hj
        subst hj
        exact (h.1 (List.mem_of_getElem? hi)).elim
      | succ j =>
        simp only [List.getElem?_cons_succ] at hi hj
        rw [nodup_at h.2 hi hj]
theorem fol_mark {p : List GStep} {sw : List Grecord_swum} {y : GStep} (h : Fol p sw) (z : Grecord_swum) (hf : tumbref2_follows (stf p y.Id) y.Kind = true) (hk : y.Kind ≠ 1) (hk0 : y.Kind ≠ 0) (hs : (swFind sw y.Id).isSome = true) (hz : z.s_ = (swAt sw y.Id).s_) (hc : code z = y.Kind) :
    Fol (p ++ [y]) (sw.set (swPos sw y.Id) z) := by
  obtain ⟨h1, h2⟩ := swFind_some hs
  have hst : ∀ id, stf (p ++ [y]) id = if y.Id = id then y.Kind else stf p id := by
    intro id
    rw [stf_snoc]
    by_cases hi : y.Id = id
    · subst hi; simp [hf]
    · simp [hi]
  have hids : ∀ (f : GStep → ByteArray), (sw.set (swPos sw y.Id) z).map (fun y => f y.s_) = sw.map (fun y => f y.s_) := by
    intro f
    rw [List.map_set]
    have : (sw.map fun y => f y.s_)[swPos sw y.Id]? = some (f z.s_) := by rw [List.getElem?_map, h1, hz]; rfl
    obtain ⟨h3, h4⟩ := List.getElem?_eq_some_iff.1 this
    rw [← h4]
    exact List.set_getElem_self h3
  refine ⟨?_, ?_, ?_, ?_⟩
  · rw [List.map_set, firsts_snoc, if_neg (by simp [hk]), ← h.steps]
    have : (sw.map fun y => y.s_)[swPos sw y.Id]? = some z.s_ := by rw [List.getElem?_map, h1, hz]; rfl
    obtain ⟨h3, h4⟩ := List.getElem?_eq_some_iff.1 this
    rw [← h4]
    exact List.set_getElem_self h3
  · intro x hx
    rw [hst]
    obtain ⟨i, hi⟩ := List.getElem?_of_mem hx
    rw [List.getElem?_set] at hi
    by_cases hp : swPos sw y.Id = i
    · rw [if_pos hp] at hi
      split at hi
      · cases hi
        rw [hz, h2, if_pos rfl, hc]
      · cases hi
    · rw [if_neg hp] at hi
      have hxm : x ∈ sw := List.mem_of_getElem? hi
      have hne : ¬ y.Id = x.s_.Id := by
        intro e
        have a1 : (sw.map fun y => y.s_.Id)[swPos sw y.Id]? = some y.Id := by rw [List.getElem?_map, h1]; simp [h2]
        have a2 : (sw.map fun y => y.s_.Id)[i]? = some y.Id := by rw [List.getElem?_map, hi]; simp [e]
        exact hp (nodup_at h.once a1 a2)
      rw [if_neg hne]
      exact h.marks x hxm
  · intro id
    rw [hst]
    have hfi : (swFind (sw.set (swPos sw y.Id) z) id).isNone = (swFind sw id).isNone := by
      have key : ∀ l : List Grecord_swum, (swFind l id).isNone = !((l.map fun y => y.s_.Id).any fun k => decide (id = k)) := by
        intro l
        unfold swFind
        rw [List.any_map]
        cases hf2 : List.findIdx? (fun s : Grecord_swum => decide (id = s.s_.Id)) l with
        | none =>
          rw [List.findIdx?_eq_none_iff] at hf2
          have : (l.any ((fun k => decide (id = k)) ∘ fun y => y.s_.Id)) = false := List.any_eq_false.2 fun x hx => by have := hf2 x hx; simpa using this
          simp [this]
        | some j =>
          obtain ⟨g1, g2, _⟩ := List.findIdx?_eq_some_iff_getElem.1 hf2
          have : (l.any ((fun k => decide (id = k)) ∘ fun y => y.s_.Id)) = true := List.any_eq_true.2 ⟨l[j], List.getElem_mem g1, g2⟩
          simp [this]
      rw [key, key, hids (fun s => s.Id)]
    rw [hfi, h.known id]
    by_cases hi : y.Id = id
    · subst hi
      have h3 := h.known y.Id
      have h4 : (swFind sw y.Id).isNone = false := by cases hh : swFind sw y.Id with
        | none => rw [hh] at hs; cases hs
        | some j => rfl
      rw [h4] at h3
      rw [if_pos rfl, ← h3]
      simp [hk0]
    · rw [if_neg hi]
  · rw [hids (fun s => s.Id)]; exact h.once
theorem firsts_len (p : List GStep) : (firsts p).length ≤ p.length := sel_len _ _ _ _
theorem adj_at {l : List GStep} (h : StAdj l) : ∀ (dn : List GStep) (y : GStep) (ys : List GStep), l = dn ++ y :: ys → ∀ z ∈ ys, y.At ≤ z.At := by
  have hle : ∀ p q, record_compare p q < 0 → p.At ≤ q.At := by
    intro p q hc
    rw [compare_is] at hc
    by_cases h1 : p.At < q.At
    · omega
    · by_cases h2 : q.At < p.At
      · rw [if_neg h1, if_pos h2] at hc; omega
      · omega
  intro dn y ys
  induction ys generalizing dn y with
  | nil => intro _ z hz; cases hz
  | cons x ys ih =>
    intro e z hz
    have h1 := hle y x (h dn y x ys e)
    rcases List.mem_cons.1 hz with rfl | hz
    · exact h1
    · exact Int.le_trans h1 (ih (dn ++ [y]) x (by rw [e]; simp) z hz)
theorem follow_loop (l : List GStep) (hl : l.length ≤ 1000) (hg : ∀ x ∈ l, StG x) (ha : StAdj l) (t : Int) : ∀ (ys dn : List GStep) (sw : List Grecord_swum), l = dn ++ ys → (∀ x ∈ dn, x.At ≤ t) → Fol dn sw →
    ∃ sw', record_follow_l1 t (fun x1 x2 => some (x1, x2)) ys dn.length sw (refs dn) = some (sw', refs (upS l t)) ∧ Fol (upS l t) sw'
  | [], dn, sw, h, h1, h2 => by
    rw [List.append_nil] at h
    subst h
    have : upS l t = l := List.filter_eq_self.2 fun x hx => decide_eq_true (h1 x hx)
    rw [this]
    exact ⟨sw, rfl, h2⟩
  | y :: ys, dn, sw, h, h1, h2 => by
    have hlen : l.length = dn.length + (ys.length + 1) := by rw [h]; simp
    have hy := hg y (by rw [h]; simp)
    rw [record_follow_l1]
    by_cases ht : t < y.At
    · rw [if_pos (decide_eq_true ht)]
      have hu : upS l t = dn := by
        unfold upS
        rw [h, List.filter_append, List.filter_eq_self.2 fun x hx => decide_eq_true (h1 x hx)]
        have : (y :: ys).filter (fun s => decide (s.At ≤ t)) = [] := List.filter_eq_nil_iff.2 fun x hx => by
          have : y.At ≤ x.At := by
            rcases List.mem_cons.1 hx with rfl | hx
            · exact Int.le_refl _
            · exact adj_at ha dn y ys h x hx
          simp
          omega
        rw [this, List.append_nil]
      rw [hu]
      exact ⟨sw, rfl, h2⟩
    · rw [if_neg (by simpa using ht)]
      simp only [joinR]
      have h1' : ∀ x ∈ dn ++ [y], x.At ≤ t := fun x hx => by
        rcases List.mem_append.1 hx with h' | h'
        · exact h1 x h'
        · rw [List.mem_singleton] at h'; subst h'; omega
      have hl' : l = (dn ++ [y]) ++ ys := by rw [h]; simp
      have hlen1 : (dn ++ [y]).length = dn.length + 1 := by simp
      have hswl : sw.length ≤ dn.length := by
        have := congrArg List.length h2.steps
        rw [List.length_map] at this
        rw [this]; exact firsts_len dn
      have hrl : (refs dn).length ≤ dn.length := sel_len _ _ _ _
      have hkn := h2.known y.Id
      have hsn : (swFind sw y.Id).isSome = !(swFind sw y.Id).isNone := by cases swFind sw y.Id <;> rfl
      have hroom : ∀ n : Nat, n ≤ dn.length → room n = true := fun n hn => by unfold room; simp; omega
      -- when the step changes nothing
      have skip : tumbref2_follows (stf dn y.Id) y.Kind = false → ∃ sw', Chk (room (refs dn).length) (record_follow_l1 t (fun x1 x2 => some (x1, x2)) ys (dn.length + 1) sw (refs dn ++ [(dn.length : Int)])) = some (sw', refs (upS l t)) ∧ Fol (upS l t) sw' := by
        intro hf
        rw [chkT (hroom _ hrl)]
        have := follow_loop l hl hg ha t ys (dn ++ [y]) sw hl' h1' (fol_skip h2 hf)
        rw [refs_snoc, if_neg (by simp [hf]), hlen1] at this
        exact this
      by_cases hk1 : y.Kind = 1
      · cases hn : (swFind sw y.Id).isNone with
        | true =>
          simp only [hk1, decide_true, Bool.and_self, if_true]
          rw [chkT (hroom _ hswl)]
          have h0 : stf dn y.Id = 0 := by rw [hn] at hkn; simpa using hkn.symm
          have := follow_loop l hl hg ha t ys (dn ++ [y]) _ hl' h1' (fol_new h2 hk1 hn)
          rw [refs_snoc, if_pos (by simp [tumbref2_follows, hk1, h0]), hlen1] at this
          exact this
        | false =>
          have h0 : ¬ stf dn y.Id = 0 := by rw [hn] at hkn; simpa using hkn.symm
          simp only [hk1, decide_true, Bool.and_false, Bool.false_eq_true, if_false, show decide ((1 : Int) = 2) = false from rfl, show decide ((1 : Int) = 3) = false from rfl, Bool.false_and]
          exact skip (by simp [tumbref2_follows, hk1, h0])
      · simp only [hk1, decide_false, Bool.false_and, Bool.false_eq_true, if_false]
        cases hn : (swFind sw y.Id).isNone with
        | true =>
          have h0 : stf dn y.Id = 0 := by rw [hn] at hkn; simpa using hkn.symm
          rw [hsn, hn]
          simp only [Bool.not_true, Bool.and_false, Bool.false_and, Bool.false_eq_true, if_false]
          refine skip ?_
          unfold tumbref2_follows
          rw [h0]
          simp [hk1]
        | false =>
          rw [hsn, hn]
          simp only [Bool.not_false, Bool.and_true]
          have hs : (swFind sw y.Id).isSome = true := by rw [hsn, hn]; rfl
          obtain ⟨g1, g2⟩ := swFind_some hs
          have hm := h2.marks _ (List.mem_of_getElem? g1)
          rw [g2] at hm
          have hk23 : y.Kind = 2 ∨ y.Kind = 3 := by unfold StG at hy; omega
          unfold code at hm
          rcases hk23 with hk | hk
          · cases hsu : (swAt sw y.Id).sure_ with
            | true =>
              simp only [hk, decide_true, Bool.true_and, Bool.not_true, Bool.false_and, Bool.false_eq_true, if_false, show decide ((2 : Int) = 3) = false from rfl]
              refine skip ?_
              unfold tumbref2_follows
              rw [← hm, hsu, hk]
              cases (swAt sw y.Id).void_ <;> rfl
            | false =>
              cases hvo : (swAt sw y.Id).void_ with
              | true =>
                simp only [hk, decide_true, Bool.true_and, Bool.not_true, Bool.not_false, Bool.and_false, Bool.false_eq_true, if_false, show decide ((2 : Int) = 3) = false from rfl, Bool.false_and]
                refine skip ?_
                unfold tumbref2_follows
                rw [← hm, hsu, hk, hvo]
                rfl
              | false =>
                simp only [hk, decide_true, Bool.not_false, Bool.and_self, if_true]
                rw [hsu, hvo] at hm
                simp only [Bool.false_eq_true, if_false] at hm
                have hf : tumbref2_follows (stf dn y.Id) y.Kind = true := by unfold tumbref2_follows; rw [← hm, hk]; rfl
                have := follow_loop l hl hg ha t ys (dn ++ [y]) _ hl' h1' (fol_mark h2 (Grecord_swum.mk (swAt sw y.Id).s_ true false) hf (by omega) (by omega) hs rfl (by rw [hk]; rfl))
                rw [refs_snoc, if_pos hf, hlen1] at this
                exact this
          · simp only [hk, show decide ((3 : Int) = 2) = false from rfl, Bool.false_and, Bool.false_eq_true, if_false, decide_true, Bool.true_and]
            cases hvo : (swAt sw y.Id).void_ with
            | true =>
              simp only [Bool.not_true, Bool.false_eq_true, if_false]
              refine skip ?_
              unfold tumbref2_follows
              rw [← hm, hk, hvo]
              rfl
            | false =>
              simp only [Bool.not_false, if_true]
              rw [hvo] at hm
              simp only [Bool.false_eq_true, if_false] at hm
              have hf : tumbref2_follows (stf dn y.Id) y.Kind = true := by
                unfold tumbref2_follows
                rw [← hm, hk]
                cases (swAt sw y.Id).sure_ <;> rfl
              have := follow_loop l hl hg ha t ys (dn ++ [y]) _ hl' h1' (fol_mark h2 (Grecord_swum.mk (swAt sw y.Id).s_ (swAt sw y.Id).sure_ true) hf (by omega) (by omega) hs rfl (by rw [hk]; rfl))
              rw [refs_snoc, if_pos hf, hlen1] at this
              exact this
theorem follow_is (l : List GStep) (hl : l.length ≤ 1000) (hg : ∀ x ∈ l, StG x) (ha : StAdj l) (t : Int) : ∃ sw, record_follow l t = some (sw, refs (upS l t)) ∧ Fol (upS l t) sw := by
  have h0 : Fol [] [] := ⟨rfl, fun _ h => (List.not_mem_nil h).elim, fun _ => rfl, List.nodup_nil⟩
  exact follow_loop l hl hg ha t l [] [] rfl (fun _ h => (List.not_mem_nil h).elim) h0
end Go.Proofs.YtbmkfjgekokfcaaGreatDoor
