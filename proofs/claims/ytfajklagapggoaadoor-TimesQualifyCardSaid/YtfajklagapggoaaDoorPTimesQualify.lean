/- The plain law of TimesQualify. No program stands here but its twins. -/
import Derived.Test.YtfajklagapggoaaDoorPTopQualifiedEnter
import Derived.Test.YtfajklagapggoaaDoorPSort
import Derived.Test.YtfajklagapggoaaDoorPKey2
import Derived.Test.YtfajklagapggoaaDoorPErrs
namespace Go.Proofs.YtfajklagapggoaaDoor
open Go
def ltM (a b : GMark) : Bool := decide (a.Time < b.Time ∨ (a.Time = b.Time ∧ a.Day < b.Day))
theorem cmpI (x y : Int) : cmp_Compare_int x y = if x < y then -1 else if y < x then 1 else 0 := by
  unfold cmp_Compare_int cmp_isNaN_int; simp
theorem orII (x y : Int) : cmp_Or_int [x, y] = if x ≠ 0 then x else y := by
  unfold cmp_Or_int
  simp only [join_eq, cmp_Or_int_l1]
  by_cases h1 : x = 0
  · by_cases h2 : y = 0 <;> simp [h1, h2]
  · simp [h1]
theorem or_ltM (a b : GMark) : decide (cmp_Or_int [cmp_Compare_int a.Time b.Time, cmp_Compare_int a.Day b.Day] < 0) = ltM a b := by
  rw [orII, cmpI, cmpI]
  unfold ltM
  by_cases h1 : a.Time < b.Time
  · simp [h1]
  · by_cases h2 : b.Time < a.Time
    · simp [h1, h2]; omega
    · have h3 : a.Time = b.Time := by omega
      by_cases h4 : a.Day < b.Day
      · simp [h3, h4]
      · by_cases h5 : b.Day < a.Day <;> simp [h3, h4, h5]
theorem c2_ltM (a b : GMark) : ∃ c, tumbref2_BestMark_c2 a b = some c ∧ decide (c < 0) = ltM a b := by
  refine ⟨cmp_Or_int [cmp_Compare_int a.Time b.Time, cmp_Compare_int a.Day b.Day], ?_, or_ltM a b⟩
  rw [orII]
  unfold tumbref2_BestMark_c2 slices_Compare_int
  simp only [joinR, slices_Compare_int_l1]
  have n0 : nth [b.Time, b.Day] ((0 : Nat) : Int) = b.Time := rfl
  have n1 : nth [b.Time, b.Day] ((0 + 1 : Nat) : Int) = b.Day := rfl
  rw [n0, n1]
  by_cases h1 : cmp_Compare_int a.Time b.Time = 0
  · by_cases h2 : cmp_Compare_int a.Day b.Day = 0
    · simp [h1, h2, Chk, inB]
    · simp [h1, h2, Chk, inB]
  · simp [h1, Chk, inB]
/-- What the reference sorts. -/
theorem stable_is (l : List GMark) (hl : l.length ≤ 19) : slices_SortStableFunc_Mark_tumbref2_BestMark_c2 l = some (isort ltM l) := by
  have hs : slices_insertionSortCmpFunc_Mark_tumbref2_BestMark_c2 l 0 (l.length : Int) = some (isort ltM l) := by
    unfold slices_insertionSortCmpFunc_Mark_tumbref2_BestMark_c2
    simp only [joinR]
    have hins : ∀ (k : List GMark → Option (List GMark)) (rp : List GMark) (x : GMark) (post : List GMark), ((rp ++ x :: post).length : Int) = (l.length : Int) → (∀ y, y ∈ rp ∨ y = x ∨ y ∈ post → y ∈ (rp ++ x :: post)) →
        slices_insertionSortCmpFunc_Mark_tumbref2_BestMark_c2_l2 0 k (((rp.length : Int) - 0).toNat + 2) (rp.reverse ++ x :: post) (rp.length : Int) = k ((insR ltM x rp).reverse ++ post) := by
      intro k rp x post h1 _
      refine ins_l (fun x y k => Option.bind (tumbref2_BestMark_c2 x y) fun r => k (decide (r < 0))) ltM k (slices_insertionSortCmpFunc_Mark_tumbref2_BestMark_c2_l2 0 k) (fun _ _ _ => rfl) rp x post _ (by omega) (by simp at h1; omega) fun y _ k' => ?_
      obtain ⟨c, e1, e2⟩ := c2_ltM x y
      rw [e1, Option.bind_some, e2]
    cases l with
    | nil => rfl
    | cons x l =>
      have hw : W (0 + 1) = (([x] : List GMark).length : Int) := rfl
      rw [hw]
      exact isort_l ltM (fun x => some x) (fun k x i => slices_insertionSortCmpFunc_Mark_tumbref2_BestMark_c2_l2 0 k ((i - 0).toNat + 2) x i) (slices_insertionSortCmpFunc_Mark_tumbref2_BestMark_c2_l1 ((x :: l).length : Int) 0 fun x => some x) ((x :: l).length : Int) (fun _ _ _ => rfl)
        (fun k rp x post h1 h2 => hins k rp x post h1 h2) l [x] _ (by simp only [List.length_cons, List.length_nil]; omega) (by simp only [List.length_cons, List.length_nil]; omega) (by simp only [List.length_cons, List.length_nil] at hl ⊢; omega)
  unfold slices_SortStableFunc_Mark_tumbref2_BestMark_c2 slices_stableCmpFunc_Mark_tumbref2_BestMark_c2
  simp only [joinR]
  rw [slices_stableCmpFunc_Mark_tumbref2_BestMark_c2_l1, if_neg (by simp; omega), hs]
  simp only [Option.bind_some]
  rw [slices_stableCmpFunc_Mark_tumbref2_BestMark_c2_l2, if_neg (by simp; omega)]
  rfl
theorem delete_is (race who : ByteArray) (f t : Int) (l : List GMark) (hl : l.length ≤ 1000) : slices_DeleteFunc_Mark_tumbref2_BestMark_c1 l race who f t = some (l.filter fun x => !tumbref2_BestMark_c1 x race who f t) := by
  unfold slices_DeleteFunc_Mark_tumbref2_BestMark_c1
  have hi := find_l (fun x k => k (tumbref2_BestMark_c1 x race who f t)) (fun x => tumbref2_BestMark_c1 x race who f t) (-1) id (slices_IndexFunc_Mark_tumbref2_BestMark_c1_l1 race who f t (-1)) (fun _ => rfl) (fun _ _ _ => rfl) l 0 (fun _ _ _ => rfl)
  have hx : slices_IndexFunc_Mark_tumbref2_BestMark_c1 l race who f t = slices_IndexFunc_Mark_tumbref2_BestMark_c1_l1 race who f t (-1) l 0 := rfl
  rw [hx]
  rcases hi with ⟨pre, y, post, e, g1, g2, g3⟩ | ⟨g1, g2⟩
  · rw [g3]
    have hn : ((0 + pre.length : Nat) : Int) = (pre.length : Int) := by simp
    have hlen : pre.length + 1 + post.length = l.length := by rw [e]; simp; omega
    rw [if_neg (by simp only [id, decide_eq_true_eq]; omega), joinR, id, hn, show W ((pre.length : Int) + 1) = ((pre.length + ([y] : List GMark).length : Nat) : Int) by rw [W_in (by omega) (by omega)]; simp]
    obtain ⟨mid, e2⟩ := strike_l (fun x k => k (tumbref2_BestMark_c1 x race who f t)) (fun x => tumbref2_BestMark_c1 x race who f t) _ (slices_DeleteFunc_Mark_tumbref2_BestMark_c1_l1 race who f t (fun (x1 : List GMark) (x2 : Int) =>
      Chk (cutB x2 (x1.length : Int) x1.length) (Chk (cutB 0 x2 (clr x1 x2 (x1.length : Int) (GMark.mk k_empty k_empty 0 0)).length) (some (cut (clr x1 x2 (x1.length : Int) (GMark.mk k_empty k_empty 0 0)) (0 : Int) x2))))) (fun _ _ _ _ => rfl)
      post pre [y] (((l.length : Int) - ((pre.length + ([y] : List GMark).length : Nat) : Int)).toNat + 2) (by simp; omega) (by simp; omega) (fun _ _ _ => rfl)
    have e3 : l = pre ++ [y] ++ post := by rw [e]; simp
    have e4 : (l.filter fun x => !tumbref2_BestMark_c1 x race who f t) = pre ++ post.filter fun x => !tumbref2_BestMark_c1 x race who f t := by
      have h5 : (pre.filter fun x => !tumbref2_BestMark_c1 x race who f t) = pre := List.filter_eq_self.2 fun x hx => by simp [g1 x hx]
      rw [e3, List.filter_append, List.filter_append, h5]
      simp [g2]
    conv => lhs; arg 7; rw [e3]
    rw [e2]
    obtain ⟨c1, c2, c3⟩ := cut_clr (pre ++ post.filter fun x => !tumbref2_BestMark_c1 x race who f t) mid (GMark.mk k_empty k_empty 0 0)
    rw [chkT c1, chkT c2, c3, e4]
  · rw [g2, if_pos (by simp)]
    congr 1
    exact (List.filter_eq_self.2 fun x hx => by simp [g1 x hx]).symm
theorem best_fold (race who : ByteArray) (f t : Int) : ∀ (ys : List GMark) (i : Nat) (b : GMark) (ok : Bool) (o : Option GMark), (o = none ∧ ok = false ∨ o = some b ∧ ok = true) →
    swimmer_best_l1 race who f t (fun x1 x2 x3 x4 x5 => (GMark.mk x1 x2 x3 x4, x5)) ys i b.Who b.Race b.Day b.Time ok =
      match ys.foldl (fun o y => if tumbref2_BestMark_c1 y race who f t then o else best1 ltM o y) o with
      | none => (b, false)
      | some c => (c, true)
  | [], i, b, ok, o, h => by
    rcases h with ⟨rfl, rfl⟩ | ⟨rfl, rfl⟩ <;> rfl
  | y :: ys, i, b, ok, o, h => by
    rw [swimmer_best_l1]
    simp only [joinR, List.foldl_cons]
    have hc : ((((!decide (y.Race = race)) || (!decide (y.Who = who))) || (decide (y.Day < f))) || (decide (t < y.Day))) = tumbref2_BestMark_c1 y race who f t := by
      unfold tumbref2_BestMark_c1 tumbref2_in
      rw [Bool.or_assoc (_ || _)]
      congr 1
      rw [Bool.eq_iff_iff]
      simp only [Bool.or_eq_true, decide_eq_true_eq, Bool.not_eq_true', Bool.and_eq_false_iff, decide_eq_false_iff_not]
      omega
    rw [hc]
    cases hy : tumbref2_BestMark_c1 y race who f t with
    | true =>
      simp only [if_true]
      exact best_fold race who f t ys (i + 1) b ok o h
    | false =>
      simp only [Bool.false_eq_true, if_false]
      rcases h with ⟨rfl, rfl⟩ | ⟨rfl, rfl⟩
      · simp only [Bool.not_false, if_true]
        rw [best_fold race who f t ys (i + 1) y true (some y) (.inr ⟨rfl, rfl⟩)]
        have : ∀ l : List GMark, ∃ c, l.foldl (fun o y => if tumbref2_BestMark_c1 y race who f t then o else best1 ltM o y) (some y) = some c := by
          have key : ∀ (l : List GMark) (z : GMark), ∃ c, l.foldl (fun o y => if tumbref2_BestMark_c1 y race who f t then o else best1 ltM o y) (some z) = some c := by
            intro l
            induction l with
            | nil => exact fun z => ⟨z, rfl⟩
            | cons x l ih =>
              intro z
              rw [List.foldl_cons]
              cases tumbref2_BestMark_c1 x race who f t with
              | true => simpa using ih z
              | false =>
                simp only [Bool.false_eq_true, if_false, best1]
                split
                · exact ih x
                · exact ih z
          exact fun l => key l y
        obtain ⟨c, e⟩ := this ys
        show _ = match ys.foldl _ (best1 ltM none y) with | none => _ | some c => _
        rw [show best1 ltM none y = some y from rfl, e]
      · simp only [Bool.not_true, Bool.false_eq_true, if_false]
        rw [or_ltM y b]
        cases hl : ltM y b with
        | true =>
          simp only [if_true]
          rw [best_fold race who f t ys (i + 1) y true (some y) (.inr ⟨rfl, rfl⟩), show best1 ltM (some b) y = some y by simp [best1, hl]]
          have key : ∀ (l : List GMark) (z : GMark), ∃ c, l.foldl (fun o y => if tumbref2_BestMark_c1 y race who f t then o else best1 ltM o y) (some z) = some c := by
            intro l
            induction l with
            | nil => exact fun z => ⟨z, rfl⟩
            | cons x l ih =>
              intro z
              rw [List.foldl_cons]
              cases tumbref2_BestMark_c1 x race who f t with
              | true => simpa using ih z
              | false =>
                simp only [Bool.false_eq_true, if_false, best1]
                split
                · exact ih x
                · exact ih z
          obtain ⟨c, e⟩ := key ys y
          rw [e]
        | false =>
          simp only [Bool.false_eq_true, if_false]
          rw [best_fold race who f t ys (i + 1) b true (some b) (.inr ⟨rfl, rfl⟩), show best1 ltM (some b) y = some b by simp [best1, hl]]
theorem bestMark_is (l : List GMark) (hl : l.length ≤ 19) (race who : ByteArray) (f t : Int) : tumbref2_BestMark l race who f t = some (swimmer_best l race who f t) := by
  have hf : (l.filter fun x => !tumbref2_BestMark_c1 x race who f t).length ≤ 19 := Nat.le_trans (List.length_filter_le _ _) hl
  have hb : swimmer_best l race who f t = match l.foldl (fun o y => if tumbref2_BestMark_c1 y race who f t then o else best1 ltM o y) none with
      | none => (GMark.mk k_empty k_empty 0 0, false)
      | some c => (c, true) := best_fold race who f t l 0 (GMark.mk k_empty k_empty 0 0) false none (.inl ⟨rfl, rfl⟩)
  unfold tumbref2_BestMark slices_Clone_Mark
  rw [chkT (by simp; omega)]
  simp only [Option.bind_some, List.nil_append]
  rw [delete_is race who f t l (by omega)]
  simp only [Option.bind_some]
  rw [hb, foldl_filter1]
  by_cases h : (l.filter fun x => !tumbref2_BestMark_c1 x race who f t) = []
  · rw [h]; simp
  · obtain ⟨b, e1, e2, e3⟩ := isort_best ltM (fun x => by simp [ltM]) (fun x y h => by simp [ltM] at h ⊢; omega) (fun x y b h1 h2 => by simp [ltM] at h1 h2 ⊢; omega) _ h
    rw [if_neg (by simpa using h), stable_is _ hf, e1]
    simp only [Option.bind_some]
    rw [chkT (inB_iff.2 ⟨by omega, by have := List.length_pos_iff.2 e3; omega⟩), e2]
theorem within_in' : words_Within = tumbref2_in := rfl
theorem marks_both : ∀ (l : List GMark) (i : Nat), ∃ e, swimmer_CheckMarks_l1 (some 0) l i = some e ∧ tumbref2_MarksFault_l1 (some 0) l i = some e
  | [], _ => ⟨0, rfl, rfl⟩
  | y :: l, i => by
    obtain ⟨b1, k1, k1'⟩ := isKey_eq y.Who
    obtain ⟨b2, k2, k2'⟩ := isKey_eq y.Race
    obtain ⟨e, h1, h2⟩ := marks_both l (i + 1)
    rw [swimmer_CheckMarks_l1, tumbref2_MarksFault_l1, k1, k2, k1', k2', h1, h2]
    simp only [Option.bind_some, joinR]
    have hd : swimmer_isDay y.Day = tumbref2_Day y.Day := rfl
    have ht : timing_IsTime y.Time = tumbref2_in y.Time 1 360000 := rfl
    rw [hd, ht]
    cases b1 <;> cases b2 <;> simp only [Bool.not_true, Bool.not_false, Bool.or_true, Bool.true_or, Bool.or_self, Bool.false_eq_true, if_true, if_false]
    · exact ⟨5, rfl, rfl⟩
    · exact ⟨5, rfl, rfl⟩
    · exact ⟨5, rfl, rfl⟩
    · split
      · exact ⟨1, rfl, rfl⟩
      · exact ⟨e, rfl, rfl⟩
theorem marks_eq2 (l : List GMark) : ∃ e, swimmer_CheckMarks l = some e ∧ tumbref2_MarksFault l = some e := by
  unfold swimmer_CheckMarks tumbref2_MarksFault
  split
  · exact ⟨2, rfl, rfl⟩
  · exact marks_both l 0
theorem sless_nil (s : ByteArray) : Sless s k_empty = false := by
  unfold Sless
  have : (k_empty.toList) = [] := by decide +kernel
  rw [this]
  cases s.toList <;> rfl
theorem standards_both (l : List GStandard) (hl : l.length ≤ 1000) : ∀ (ys dn : List GStandard) (last : ByteArray), l = dn ++ ys → (dn = [] → last = k_empty) → (∀ d x, dn = d ++ [x] → last = x.Race) →
    ∃ e, swimmer_CheckStandards_l1 l (some 0) ys dn.length = some e ∧ tumbref2_StandardsFault_l1 (some 0) ys dn.length last = some e
  | [], dn, last, _, _, _ => ⟨0, rfl, rfl⟩
  | y :: ys, dn, last, h0, h1, h2 => by
    obtain ⟨b1, k1, k1'⟩ := isKey_eq y.Race
    obtain ⟨e, r1, r2⟩ := standards_both l hl ys (dn ++ [y]) y.Race (by rw [h0]; simp) (fun h => by simp at h) (fun d x h => by
      have := List.append_inj' h rfl
      simp at this
      rw [this.2])
    rw [List.length_append] at r1 r2
    simp only [List.length_cons, List.length_nil, Nat.zero_add] at r1 r2
    rw [swimmer_CheckStandards_l1, tumbref2_StandardsFault_l1, k1, k1', r1, r2]
    simp only [Option.bind_some, joinR]
    have ht : timing_IsTime y.Time = tumbref2_in y.Time 1 360000 := rfl
    rw [ht, within_in']
    cases b1
    · exact ⟨5, rfl, rfl⟩
    · simp only [Bool.not_true, Bool.false_eq_true, if_false]
      split
      · exact ⟨1, rfl, rfl⟩
      · have hs : (if decide (0 < (dn.length : Int)) = true then Chk (inB (W ((dn.length : Int) - 1)) l.length) (if (decide (0 < (dn.length : Int)) && Sless y.Race (nth l (W ((dn.length : Int) - 1))).Race) = true then some 7 else some e) else if (decide (0 < (dn.length : Int)) && true) = true then some 7 else some e) = if Sless y.Race last = true then some (7 : Int) else some e := by
          rcases List.eq_nil_or_concat dn with hd | ⟨d, x, hd⟩
          · subst hd
            rw [h1 rfl, sless_nil]
            simp
          · rw [List.concat_eq_append] at hd
            have hlast := h2 d x hd
            have hn : nth l (W ((dn.length : Int) - 1)) = x := by
              have hlen : dn.length = d.length + 1 := by rw [hd]; simp
              have : l.length = dn.length + (ys.length + 1) := by rw [h0]; simp
              rw [W_in (by omega) (by omega), h0, hd]
              have : d ++ [x] ++ y :: ys = d ++ x :: (y :: ys) := by simp
              rw [this]
              exact nth_mid _ _ _ (by simp)
            have hlen : dn.length = d.length + 1 := by rw [hd]; simp
            have hll : l.length = dn.length + (ys.length + 1) := by rw [h0]; simp
            have hp : decide (0 < (dn.length : Int)) = true := decide_eq_true (by omega)
            rw [hn, hp, chkT (inB_iff.2 (by rw [W_in (by omega) (by omega)]; omega)), hlast]
            simp
        rw [hs]
        split
        · exact ⟨7, rfl, rfl⟩
        · exact ⟨e, rfl, rfl⟩
theorem standards_eq (l : List GStandard) (hl : l.length ≤ 1000) : ∃ e, swimmer_CheckStandards l = some e ∧ tumbref2_StandardsFault l = some e := by
  unfold swimmer_CheckStandards tumbref2_StandardsFault
  split
  · exact ⟨2, rfl, rfl⟩
  · exact standards_both l hl l [] k_empty rfl (fun _ => rfl) (fun d x h => by simp at h)
theorem qual_both (race who : ByteArray) (m : List GMark) (hm : m.length ≤ 19) : ∀ (l : List GStandard) (i : Nat) (x : Bool), ∃ q, swimmer_Qualified_l1 race m who (fun x => some (x, 0)) l i x = some (q, 0) ∧ tumbref2_QualifiedOf_l1 race m who (fun x => some x) l i x = some q
  | [], _, x => ⟨x, rfl, rfl⟩
  | y :: l, i, x => by
    rw [swimmer_Qualified_l1, tumbref2_QualifiedOf_l1, bestMark_is m hm]
    simp only [Option.bind_some, joinR]
    cases hr : decide (y.Race = race) with
    | false => simp only [Bool.not_false, if_true]; exact qual_both race who m hm l (i + 1) x
    | true =>
      simp only [Bool.not_true, Bool.false_eq_true, if_false]
      split
      · exact ⟨true, rfl, rfl⟩
      · exact qual_both race who m hm l (i + 1) false
theorem marks_dr9 {L : List Int} (hL : LongL L) {a : Int} (h0 : 0 ≤ a) (h1 : a ≤ 1000000) (many : Int) (hm0 : 0 ≤ many) (hm : many ≤ 8) : Dr a 200 (fun x => x.length ≤ 9) (Stream_Marks L a many) := by
  unfold Stream_Marks
  simp only [joinR]
  obtain ⟨x, b, e, g1, g2, g3, _⟩ := marks_l hL many (by omega) ((many - 0).toNat + 1) [] a 0 (by omega) (by omega) (by omega) h0 (by omega) (by simp; omega) (fun _ h => by cases h)
  exact ⟨x, b, e, g1, by omega, by simp at g3; omega⟩
theorem standards_l {L : List Int} (hL : LongL L) : ∀ (ys : List ByteArray) (i : Nat) (x1 : List GStandard) (a : Int), 0 ≤ a → a + 12 * ys.length ≤ 100000000 → x1.length + ys.length ≤ 100 →
    ∃ x b, Stream_Standards_l1 L (fun x a => some (x, a)) ys i x1 a = some (x, b) ∧ a ≤ b ∧ b ≤ a + 12 * ys.length ∧ x.length ≤ 100
  | [], i, x1, a, h1, h2, h3 => ⟨x1, a, rfl, by omega, by simp, by simp at h3; omega⟩
  | y :: ys, i, x1, a, h1, h2, h3 => by
    simp only [List.length_cons] at h2 h3
    rw [Stream_Standards_l1]
    simp only [joinR]
    obtain ⟨f, b1, e1, g1, g2, _⟩ := flip_dr hL (a := a) h1 (by omega) 3 (by omega)
    rw [e1]; simp only [Option.bind_some]
    cases f with
    | true =>
      rw [if_pos rfl]
      obtain ⟨x, b, r1, r2, r3, r4⟩ := standards_l hL ys (i + 1) x1 b1 (by omega) (by omega) (by omega)
      exact ⟨x, b, r1, by omega, by simp; omega, r4⟩
    | false =>
      rw [if_neg (by simp)]
      obtain ⟨v2, b2, e2, g3, g4, _⟩ := pick_dr hL (a := b1) (by omega) (by omega) [5900, 6000, 5800] (by simp) (by simp)
      rw [e2]; simp only [Option.bind_some]
      obtain ⟨v3, b3, e3, g5, g6, _⟩ := range_dr hL (a := b2) (by omega) (by omega) 0 6 (by omega) (by omega) (by omega)
      rw [e3]; simp only [Option.bind_some]
      obtain ⟨v4, b4, e4, g7, g8, _⟩ := pick_dr hL (a := b3) (by omega) (by omega) [0, 2, 9] (by simp) (by simp)
      rw [e4]; simp only [Option.bind_some]
      obtain ⟨f5, b5, e5, g9, g10, _⟩ := flip_dr hL (a := b4) (by omega) (by omega) 40 (by omega)
      rw [e5]; simp only [Option.bind_some]
      have hroom : room x1.length = true := by unfold room; simp; omega
      cases f5 with
      | false =>
        rw [if_neg (by simp), chkT hroom]
        obtain ⟨x, b, r1, r2, r3, r4⟩ := standards_l hL ys (i + 1) (x1 ++ [GStandard.mk y v2 v3 (W (v3 + v4))]) b5 (by omega) (by omega) (by simp; omega)
        exact ⟨x, b, r1, by omega, by simp; omega, r4⟩
      | true =>
        rw [if_pos rfl]
        obtain ⟨u1, c1, t1, w1, w2, _⟩ := some_dr hL (a := b5) (by omega) (by omega) [y, k_empty, k_aa] (by simp) (by simp)
        rw [t1]; simp only [Option.bind_some]
        obtain ⟨u2, c2, t2, w3, w4, _⟩ := odd_dr hL (a := c1) (by omega) (by omega) 1 6000 (by omega) (by omega) (by omega)
        rw [t2]; simp only [Option.bind_some]
        obtain ⟨u3, c3, t3, w5, w6, _⟩ := odd_dr hL (a := c2) (by omega) (by omega) 0 5 (by omega) (by omega) (by omega)
        rw [t3]; simp only [Option.bind_some]
        obtain ⟨u4, c4, t4, w7, w8, _⟩ := odd_dr hL (a := c3) (by omega) (by omega) 0 9 (by omega) (by omega) (by omega)
        rw [t4]; simp only [Option.bind_some]
        rw [chkT hroom]
        obtain ⟨x, b, r1, r2, r3, r4⟩ := standards_l hL ys (i + 1) (x1 ++ [GStandard.mk u1 u2 u3 u4]) c4 (by omega) (by omega) (by simp; omega)
        exact ⟨x, b, r1, by omega, by simp; omega, r4⟩
theorem standards_dr {L : List Int} (hL : LongL L) {a : Int} (h0 : 0 ≤ a) (h1 : a ≤ 1000000) : Dr a 36 (fun x => x.length ≤ 100) (Stream_Standards L a) := by
  unfold Stream_Standards
  simp only [joinR]
  obtain ⟨x, b, e, g1, g2, g3⟩ := standards_l hL [k_ra, k_ra, k_rb] 0 [] a h0 (by simp; omega) (by simp)
  exact ⟨x, b, e, g1, by simp at g2; omega, g3⟩
theorem dated_is : tumblaw2_dated = some true := by decide +kernel
theorem plain_TimesQualify (l : List Int) (hl : l.length ≤ 9223372036854775807) : tumblaw2_TimesQualify l = some true := by
  have hL : LongL l := by unfold LongL; omega
  obtain ⟨k, a1, e1, p1, q1, k1, k2⟩ := range_dr hL (a := 0) (by omega) (by omega) 0 8 (by omega) (by omega) (by omega)
  obtain ⟨m, a2, e2, p2, q2, hm⟩ := marks_dr9 hL (a := a1) (by omega) (by omega) k (by omega) (by omega)
  obtain ⟨x, a3, e3, p3, q3, hx⟩ := standards_dr hL (a := a2) (by omega) (by omega)
  obtain ⟨race, a4, e4, p4, q4, _⟩ := some_dr hL (a := a3) (by omega) (by omega) [k_ra, k_ra, k_rb, k_rz, k_empty] (by simp) (by simp)
  obtain ⟨who, a5, e5, p5, q5, _⟩ := some_dr hL (a := a4) (by omega) (by omega) [k_ann, k_ann, k_bea, k_A] (by simp) (by simp)
  obtain ⟨f, a6, e6, p6, q6, hf⟩ := pick_dr hL (a := a5) (by omega) (by omega) [0, 2, 5, (-40001)] (by simp) (by simp)
  obtain ⟨t, a7, e7, p7, q7, ht⟩ := pick_dr hL (a := a6) (by omega) (by omega) [3, 9, 1, 4001] (by simp) (by simp)
  obtain ⟨e, c1, c2⟩ := marks_eq2 m
  obtain ⟨g, s1, s2⟩ := standards_eq x (by omega)
  obtain ⟨b1, r1, r2⟩ := isKey_eq race
  obtain ⟨b2, w1, w2⟩ := isKey_eq who
  obtain ⟨q, u1, u2⟩ := qual_both race who m (by omega) x 0 true
  unfold tumblaw2_TimesQualify
  rw [e1]; simp only [Option.bind_some]
  rw [e2]; simp only [Option.bind_some]
  rw [e3]; simp only [Option.bind_some]
  rw [e4]; simp only [Option.bind_some]
  rw [e5]; simp only [Option.bind_some]
  rw [e6]; simp only [Option.bind_some]
  rw [e7]; simp only [Option.bind_some]
  have harg : ((!(words_Within f (-40000) t)) || (decide (4000 < t))) = (((decide (f < (-40000))) || (decide (t < f))) || (decide (4000 < t))) := by
    unfold words_Within
    congr 1
    rw [Bool.eq_iff_iff]
    simp only [Bool.or_eq_true, decide_eq_true_eq, Bool.not_eq_true', Bool.and_eq_false_iff, decide_eq_false_iff_not]
    omega
  unfold swimmer_Best swimmer_Qualified tumblaw2_nameFault tumbref2_QualifiedOf
  rw [c1, c2, s1, s2, r1, r2, w1, w2, harg, bestMark_is m (by omega), dated_is]
  simp only [Option.bind_some, joinR, u1, u2]
  generalize (((decide (f < (-40000))) || (decide (t < f))) || (decide (4000 < t))) = bad
  generalize swimmer_best m race who f t = best
  simp only [errs_cons, errs_nil]
  by_cases he : e = 0
  · subst he
    by_cases hg : g = 0
    · subst hg
      cases b1 <;> cases b2 <;> cases bad <;> simp [tumblaw2_when]
    · cases b1 <;> cases b2 <;> cases bad <;> simp [tumblaw2_when, hg]
  · by_cases hg : g = 0
    · subst hg
      cases b1 <;> cases b2 <;> cases bad <;> simp [tumblaw2_when, he]
    · cases b1 <;> cases b2 <;> cases bad <;> simp [tumblaw2_when, he, hg]
end Go.Proofs.YtfajklagapggoaaDoor
