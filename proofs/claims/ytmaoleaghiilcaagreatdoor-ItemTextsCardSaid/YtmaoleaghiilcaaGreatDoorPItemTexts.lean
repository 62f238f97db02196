/- The plain law of ItemTexts. No program stands here but its twins. -/
import Derived.Test.YtmaoleaghiilcaaGreatDoorPText
import Derived.Test.YtmaoleaghiilcaaGreatDoorPItems
namespace Go.Proofs.YtmaoleaghiilcaaGreatDoor
open Go
theorem timedT_ok : tumblaw2_timed = some true := by decide +kernel
theorem line_both (line : ByteArray) (x : List GItem) (hl : line.size ≤ 200000) (hx : x.length ≤ 200000) : ∃ b x' y', session_Read_c1 line x = some (b, x') ∧ tumbref2_ItemsRead_c1 line x = some (b, y') ∧ (b = true → x' = y' ∧ x'.length ≤ x.length + 1) := by
  unfold session_Read_c1 tumbref2_ItemsRead_c1
  rw [wSplit_is line (by omega), split_is line (by omega)]
  have hsz := wordsT_size line
  generalize wordsT line = w at *
  simp only [Option.bind_some, emptyIn]
  cases hE : anyE w with
  | true =>
    simp only [Bool.or_true, if_true, Option.bind_some, Bool.not_false, Bool.true_or]
    exact ⟨false, x, x, rfl, rfl, fun h => by cases h⟩
  | false =>
    simp only [Bool.or_false, Bool.false_eq_true, if_false, Option.bind_some, Bool.not_true, Bool.false_or]
    by_cases h5 : (w.length : Int) = 5
    · simp only [h5, decide_true, Bool.not_true, Bool.false_eq_true, if_false]
      have hl5 : w.length = 5 := by omega
      have hcl : (cut w 1 (w.length : Int)).length = 4 := by simp [cut, hl5]
      obtain ⟨ns, ns', ok, e1, e2, e3, e4⟩ := nums_both 15 (by omega) (cut w 1 (w.length : Int)) (fun y hy => by
        have : y ∈ w := by
          unfold cut at hy
          exact List.take_subset _ _ (List.drop_subset _ _ hy)
        have := hsz y this
        omega) (by rw [hcl]; omega)
      rw [hcl] at e3
      rw [h5] at e1 e2
      have hk : cutB 1 5 w.length = true := cutB_iff.2 (by omega)
      have hr : room x.length = true := by unfold room; exact decide_eq_true (by omega)
      have hw : inB 0 w.length = true := inB_iff.2 (by omega)
      have q0 : inB 0 ns'.length = true := inB_iff.2 (by omega)
      have q1 : inB 1 ns'.length = true := inB_iff.2 (by omega)
      have q2 : inB 2 ns'.length = true := inB_iff.2 (by omega)
      have q3 : inB 3 ns'.length = true := inB_iff.2 (by omega)
      rw [chk_pos hk, chk_pos hk, e1, e2]
      simp only [Option.bind_some]
      cases ok with
      | false =>
        simp only [Bool.not_false, if_true, chk_pos hw, chk_pos q0, chk_pos q1, chk_pos q2, chk_pos q3, chk_pos hr]
        exact ⟨false, x, _, rfl, rfl, fun h => by cases h⟩
      | true =>
        obtain ⟨rfl, _⟩ := e4 rfl
        simp only [Bool.not_true, Bool.false_eq_true, if_false, if_true, chk_pos hw, chk_pos q0, chk_pos q1, chk_pos q2, chk_pos q3, chk_pos hr]
        exact ⟨true, _, _, rfl, rfl, fun _ => ⟨rfl, by simp⟩⟩
    · simp only [h5, decide_false, Bool.not_false, if_true]
      exact ⟨false, x, x, rfl, rfl, fun h => by cases h⟩
theorem read_both (t : ByteArray) : ∃ b i f, session_Read t = some (b, i, f) ∧ tumbref2_ItemsRead t = some (b, i, f) := by
  unfold session_Read tumbref2_ItemsRead
  by_cases h : 200000 < (t.size : Int)
  · rw [if_pos (decide_eq_true h), if_pos (decide_eq_true h)]
    exact ⟨_, _, _, rfl, rfl⟩
  · rw [if_neg (by simpa using h), if_neg (by simpa using h)]
    unfold words_Lines_session_Read_c1 tumbref2_Lines_tumbref2_ItemsRead_c1
    simp only [join_eq]
    obtain ⟨n, ok, x', y', e1, e2, e3⟩ := lines_both session_Read_c1 tumbref2_ItemsRead_c1 200000 (by omega) (fun line x h1 h2 => line_both line x h1 h2) (fun x1 => some (0, true, x1)) (fun x1 => some (0, true, x1))
      (words_Lines_session_Read_c1_l1 fun x1 => some (0, true, x1)) (tumbref2_Lines_tumbref2_ItemsRead_c1_l1 fun x1 => some (0, true, x1)) (fun _ _ _ _ => rfl) (fun _ _ _ _ => rfl) 200000 4611686018427387904 [] t 0 (by omega) (by omega) (by simp)
    rw [e1, e2]
    cases ok with
    | false =>
      simp only [Bool.false_eq_true, if_false, Option.bind_some, Bool.not_false, if_true]
      exact ⟨_, _, _, rfl, rfl⟩
    | true =>
      obtain ⟨rfl, _⟩ := e3 rfl
      simp only [if_true, Option.bind_some, Bool.not_true, Bool.false_eq_true, if_false]
      obtain ⟨e, c1, c2, _⟩ := check_eq x'
      rw [c1, c2]
      simp only [Option.bind_some]
      by_cases he : e = 0
      · simp only [he, decide_true, Bool.not_true, Bool.false_eq_true, if_false]
        exact ⟨_, _, _, rfl, rfl⟩
      · simp only [he, decide_false, Bool.not_false, if_true]
        exact ⟨_, _, _, rfl, rfl⟩
def ShortI (y : GItem) : Prop := y.Key.size ≤ 40 ∧ (-3600000 ≤ y.Heats ∧ y.Heats ≤ 3600000) ∧ (-3600000 ≤ y.Long ∧ y.Long ≤ 3600000) ∧ (-3600000 ≤ y.Gap ∧ y.Gap ≤ 3600000) ∧ (-3600000 ≤ y.Break ∧ y.Break ≤ 3600000)
theorem four_is (a b c d : Int) (s1 s2 s3 s4 : ByteArray) (h1 : strconv_Itoa a = some s1) (h2 : strconv_Itoa b = some s2) (h3 : strconv_Itoa c = some s3) (h4 : strconv_Itoa d = some s4) (hs : s1.size ≤ 21 ∧ s2.size ≤ 21 ∧ s3.size ≤ 21 ∧ s4.size ≤ 21) :
    tumbref2_numbers [a, b, c, d] = some (s1 ++ k__20 ++ s2 ++ k__20 ++ s3 ++ k__20 ++ s4) := by
  have e1 := size_list s1
  have e2 := size_list s2
  have e3 := size_list s3
  have e4 := size_list s4
  unfold tumbref2_numbers
  simp only [join_eq, tumbref2_numbers_l1, h1, h2, h3, h4, Option.bind_some, List.length_nil, List.length_append, List.length_singleton, List.nil_append]
  rw [chk_pos (by decide), chk_pos (by decide), chk_pos (by decide), chk_pos (by decide)]
  have hj : Lib.join ([s1, s2, s3, s4].map (·.data.toList)) k__20.data.toList = s1.data.toList ++ 32 :: (s2.data.toList ++ 32 :: (s3.data.toList ++ 32 :: s4.data.toList)) := by
    have hk : k__20.data.toList = [32] := rfl
    rw [hk]
    simp [Lib.join, List.intercalate, List.intersperse]
  have hl : ([s1] ++ [s2] ++ [s3] ++ [s4]) = [s1, s2, s3, s4] := rfl
  unfold strings_Join
  rw [hl, hj, chk_pos (by simp; omega)]
  simp only [Option.bind_some]
  congr 1
  apply bytes_ext
  simp [ByteArray.data_append, k__20]
theorem text_loops : ∀ (ys : List GItem) (i i' : Nat) (b : ByteArray) (d : Bool), (∀ y ∈ ys, ShortI y) → b.size + 200 * ys.length ≤ 100000 →
    ∃ u d', (∀ j1 : ByteArray → Bool → Option (ByteArray × Int), session_Text_l1 j1 ys i b d = j1 u d') ∧ (∀ j1 : ByteArray → Option ByteArray, tumbref2_ItemLines_l1 j1 ys i' b = j1 u) ∧ u.size ≤ b.size + 200 * ys.length
  | [], i, i', b, d, _, _ => ⟨b, d, fun _ => rfl, fun _ => rfl, by simp⟩
  | y :: ys, i, i', b, d, hs, hb => by
    simp only [List.length_cons] at hb
    obtain ⟨g1, g2, g3, g4, g5⟩ := hs y List.mem_cons_self
    obtain ⟨s1, a1, z1, _⟩ := itoa_is y.Heats (by omega) (by omega)
    obtain ⟨s2, a2, z2, _⟩ := itoa_is y.Long (by omega) (by omega)
    obtain ⟨s3, a3, z3, _⟩ := itoa_is y.Gap (by omega) (by omega)
    obtain ⟨s4, a4, z4, _⟩ := itoa_is y.Break (by omega) (by omega)
    have k1 : k__20.size = 1 := rfl
    have k2 : k__0a.size = 1 := rfl
    have hnum := four_is y.Heats y.Long y.Gap y.Break s1 s2 s3 s4 a1 a2 a3 a4 ⟨z1, z2, z3, z4⟩
    have hsz : (b ++ (((y.Key ++ k__20) ++ (s1 ++ k__20 ++ s2 ++ k__20 ++ s3 ++ k__20 ++ s4)) ++ k__0a)).size ≤ b.size + 200 := by
      simp only [ByteArray.size_append, k1, k2]; omega
    obtain ⟨u, d', q1, q2, q3⟩ := text_loops ys (i + 1) (i' + 1) (b ++ (((y.Key ++ k__20) ++ (s1 ++ k__20 ++ s2 ++ k__20 ++ s3 ++ k__20 ++ s4)) ++ k__0a)) true (fun z hz => hs z (List.mem_cons_of_mem _ hz)) (by omega)
    refine ⟨u, d', fun j1 => ?_, fun j1 => ?_, by simp only [List.length_cons]; omega⟩
    · have hbb : b ++ y.Key ++ (k__20 ++ s1) ++ (k__20 ++ s2) ++ (k__20 ++ s3) ++ (k__20 ++ s4) ++ k__0a = b ++ (((y.Key ++ k__20) ++ (s1 ++ k__20 ++ s2 ++ k__20 ++ s3 ++ k__20 ++ s4)) ++ k__0a) := by
        simp only [ByteArray.append_assoc]
      rw [session_Text_l1, chk_pos (decide_eq_true (by omega))]
      simp only [join_eq, session_Text_l2, a1, a2, a3, a4, Option.bind_some]
      rw [chk_pos (decide_eq_true (by omega)), chk_pos (decide_eq_true (by simp only [ByteArray.size_append, k1]; omega)), chk_pos (decide_eq_true (by omega)), chk_pos (decide_eq_true (by simp only [ByteArray.size_append, k1]; omega)),
        chk_pos (decide_eq_true (by omega)), chk_pos (decide_eq_true (by simp only [ByteArray.size_append, k1]; omega)), chk_pos (decide_eq_true (by omega)), chk_pos (decide_eq_true (by simp only [ByteArray.size_append, k1]; omega)),
        chk_pos (decide_eq_true (by simp only [ByteArray.size_append, k1, k2]; omega)), hbb]
      exact q1 j1
    · rw [tumbref2_ItemLines_l1, chk_pos (decide_eq_true (by omega)), hnum]
      simp only [Option.bind_some]
      rw [chk_pos (decide_eq_true (by simp only [ByteArray.size_append, k1]; omega)), chk_pos (decide_eq_true (by simp only [ByteArray.size_append, k1, k2]; omega)), chk_pos (decide_eq_true (by simp only [ByteArray.size_append, k1, k2]; omega))]
      exact q2 j1
theorem lines_is (x : List GItem) (hs : ∀ y ∈ x, ShortI y) (hl : x.length ≤ 100) : ∃ u, tumbref2_ItemLines x = some u ∧ u.size ≤ 200 * x.length ∧ (session_CheckItems x = some 0 → session_Text x = some (u, 0)) := by
  obtain ⟨u, d, h1, h2, h3⟩ := text_loops x 0 0 k_empty false hs (by show 0 + 200 * x.length ≤ 100000; omega)
  have h3' : u.size ≤ 200 * x.length := by have : k_empty.size = 0 := rfl; omega
  refine ⟨u, ?_, h3', fun hc => ?_⟩
  · unfold tumbref2_ItemLines
    rw [join_eq]
    exact h2 _
  · unfold session_Text
    rw [hc]
    simp only [Option.bind_some, decide_true, Bool.not_true, Bool.false_eq_true, if_false, join_eq]
    have he : ByteArray.empty = k_empty := rfl
    rw [he, h1, if_neg (by simp; omega)]
theorem key_small {s : ByteArray} (h : tumbref2_Key s = some true) : s.size ≤ 40 := by
  by_cases hs : 1 ≤ s.size ∧ s.size ≤ 40
  · exact hs.2
  · have hin : tumbref2_in (s.size : Int) 1 40 = false := by unfold tumbref2_in; simp; omega
    unfold tumbref2_Key at h
    simp only [join_eq, hin, Bool.false_eq_true, if_false, Bool.false_and] at h
    cases h
theorem keys_small (l : List GItem) : ∀ (ys : List GItem) (i : Nat), tumbref2_ItemsFault_l1 l (some 0) ys i = some 0 → ∀ y ∈ ys, y.Key.size ≤ 40
  | [], _, _, y, hy => by cases hy
  | z :: ys, i, h, y, hy => by
    rw [tumbref2_ItemsFault_l1] at h
    obtain ⟨b, _, hk⟩ := isKey_eq z.Key
    rw [hk] at h
    simp only [Option.bind_some] at h
    cases b with
    | false => simp at h
    | true =>
      simp only [Bool.not_true, Bool.false_eq_true, if_false] at h
      unfold Chk at h
      split at h
      · split at h
        · cases h
        · split at h
          · cases h
          · rcases List.mem_cons.1 hy with rfl | hy
            · exact key_small hk
            · exact keys_small l ys (i + 1) h y hy
      · cases h
theorem short_of {x : List GItem} (h : tumbref2_ItemsFault x = some 0) : x.length ≤ 100 ∧ ∀ y ∈ x, ShortI y := by
  obtain ⟨e, _, c2, c3⟩ := check_eq x
  obtain rfl : e = 0 := by rw [h] at c2; exact (Option.some.inj c2).symm
  obtain ⟨c4, c5⟩ := c3 rfl
  refine ⟨c4, fun y hy => ?_⟩
  obtain ⟨g1, g2, g3, g4⟩ := c5 y hy
  unfold tumbref2_ItemsFault at h
  rw [if_neg (by simp; omega), join_eq] at h
  exact ⟨keys_small x x 0 h y hy, by omega, by omega, by omega, by omega⟩
section
variable {L : List Int} (hL : LongL L)
include hL
theorem rightI_loop : ∀ (ys : List ByteArray) (i : Nat) (x1 : List GItem) (x2 : Int), 0 ≤ x2 → x2 + 5 * ys.length ≤ 1000000 → x1.length + ys.length < 1000000 → (∀ y ∈ ys, y.size ≤ 40) → (∀ y ∈ x1, ShortI y) →
    ∃ x a, Stream_RightItems_l1 L (fun x a => some (x, a)) ys i x1 x2 = some (x, a) ∧ x2 ≤ a ∧ a ≤ x2 + 5 * ys.length ∧ x.length ≤ x1.length + ys.length ∧ ∀ y ∈ x, ShortI y
  | [], i, x1, x2, _, _, _, _, hs => ⟨x1, x2, rfl, Int.le_refl _, by simp, by simp, hs⟩
  | y :: ys, i, x1, x2, h0, h1, h2, hk, hs => by
    simp only [List.length_cons] at h1 h2
    push_cast at h1
    rw [Stream_RightItems_l1]
    simp only [join_eq]
    obtain ⟨f, b0, e1, p0, q0, _⟩ := flip_dr hL (a := x2) (by omega) (by omega) 6 (by omega)
    rw [e1]
    simp only [Option.bind_some]
    have hk' : ∀ z ∈ ys, z.size ≤ 40 := fun z hz => hk z (List.mem_cons_of_mem _ hz)
    cases f with
    | true =>
      obtain ⟨x, a, e, ha, hb, hx, hz⟩ := rightI_loop ys (i + 1) x1 b0 (by omega) (by omega) (by omega) hk' hs
      exact ⟨x, a, by simpa using e, by omega, by simp only [List.length_cons]; push_cast; omega, by simp only [List.length_cons]; omega, hz⟩
    | false =>
      obtain ⟨v1, b1, p1, g1, t1, m1⟩ := pick_dr hL (a := b0) (by omega) (by omega) [1, 1, 2, 3] (by simp) (by simp)
      obtain ⟨v2, b2, p2, g2, t2, m2⟩ := pick_dr hL (a := b1) (by omega) (by omega) [50, 100] (by simp) (by simp)
      obtain ⟨v3, b3, p3, g3, t3, m3⟩ := pick_dr hL (a := b2) (by omega) (by omega) [0, 10, 60] (by simp) (by simp)
      obtain ⟨v4, b4, p4, g4, t4, m4⟩ := pick_dr hL (a := b3) (by omega) (by omega) [0, 20, 50, 200] (by simp) (by simp)
      simp only [List.mem_cons, List.not_mem_nil, or_false] at m1 m2 m3 m4
      have hy : ShortI (GItem.mk y v1 v2 v3 v4) := by
        refine ⟨hk y List.mem_cons_self, ?_, ?_, ?_, ?_⟩
        · show -3600000 ≤ v1 ∧ v1 ≤ 3600000; omega
        · show -3600000 ≤ v2 ∧ v2 ≤ 3600000; omega
        · show -3600000 ≤ v3 ∧ v3 ≤ 3600000; omega
        · show -3600000 ≤ v4 ∧ v4 ≤ 3600000; omega
      obtain ⟨x, a, e, ha, hb, hx, hz⟩ := rightI_loop ys (i + 1) (x1 ++ [GItem.mk y v1 v2 v3 v4]) b4 (by omega) (by omega) (by simp; omega) hk' (fun z hz => by
        rcases List.mem_append.1 hz with hz | hz
        · exact hs z hz
        · rw [List.mem_singleton] at hz; subst hz; exact hy)
      refine ⟨x, a, ?_, by omega, by simp only [List.length_cons]; push_cast; omega, by simp only [List.length_append, List.length_singleton] at hx; simp only [List.length_cons]; omega, hz⟩
      have hroom : room x1.length = true := by unfold room; simp; omega
      simp only [Bool.not_false, if_true, p1, p2, p3, p4, Option.bind_some, chk_pos hroom]
      exact e
theorem rightI_dr (many : Int) (h0 : 0 ≤ many) (h5 : many ≤ 5) {a : Int} (ha : 0 ≤ a) (ha' : a ≤ 100000) : Dr a 25 (fun x => x.length ≤ 5 ∧ ∀ y ∈ x, ShortI y) (Stream_RightItems L a many) := by
  unfold Stream_RightItems
  rw [chk_pos (cutB_iff.2 (by simp; omega)), join_eq]
  have hl : (cut ([k_ic, k_ia, k_id, k_ib, k_ie] : List ByteArray) 0 many).length ≤ 5 := by unfold cut; rw [List.length_drop, List.length_take]; simp; omega
  obtain ⟨x, b, e, g1, g2, g3, g4⟩ := rightI_loop hL (cut ([k_ic, k_ia, k_id, k_ib, k_ie] : List ByteArray) 0 many) 0 [] a ha (by omega) (by simp; omega) (fun y hy => by
    have : y ∈ ([k_ic, k_ia, k_id, k_ib, k_ie] : List ByteArray) := by
      unfold cut at hy
      exact List.take_subset _ _ (List.drop_subset _ _ hy)
    simp only [List.mem_cons, List.not_mem_nil, or_false] at this
    rcases this with rfl | rfl | rfl | rfl | rfl <;> decide) (fun y hy => by cases hy)
  exact ⟨x, b, e, g1, by omega, by simp at g3; omega, g4⟩
theorem itemsI_dr (many : Int) (h0 : 0 ≤ many) (h5 : many ≤ 5) {a : Int} (ha : 0 ≤ a) (ha' : a ≤ 10000) : Dr a 60 (fun _ => True) (Stream_Items L a many) := by
  obtain ⟨x, b, e, g1, g2, g3, _⟩ := rightI_dr hL many h0 h5 ha (by omega)
  unfold Stream_Items
  rw [e]
  simp only [Option.bind_some, join_eq]
  by_cases hx : 0 < (x.length : Int)
  · obtain ⟨f, b1, e1, p1, q1, _⟩ := flip_dr hL (a := b) (by omega) (by omega) 15 (by omega)
    rw [if_pos (decide_eq_true hx), e1]
    simp only [Option.bind_some]
    cases f with
    | false => exact ⟨x, b1, by simp, by omega, by omega, trivial⟩
    | true =>
      obtain ⟨v, b2, e2, p2, q2, r1, r2⟩ := next_dr hL (a := b1) (by omega) (by omega) (x.length : Int) (by omega)
      have hc : inB v x.length = true := inB_iff.2 ⟨r1, by omega⟩
      obtain ⟨k1, b3, e3, p3, q3, _⟩ := some_dr hL (a := b2) (by omega) (by omega) [(nth x v).Key, k_empty, k_ia] (by simp) (by simp)
      obtain ⟨k2, b4, e4, p4, q4, _⟩ := odd_dr hL (a := b3) (by omega) (by omega) 1 60 (by omega) (by omega) (by omega)
      obtain ⟨k3, b5, e5, p5, q5, _⟩ := odd_dr hL (a := b4) (by omega) (by omega) 1 100 (by omega) (by omega) (by omega)
      obtain ⟨k4, b6, e6, p6, q6, _⟩ := odd_dr hL (a := b5) (by omega) (by omega) 0 100 (by omega) (by omega) (by omega)
      obtain ⟨k5, b7, e7, p7, q7, _⟩ := odd_dr hL (a := b6) (by omega) (by omega) 0 100 (by omega) (by omega) (by omega)
      rw [if_pos rfl, e2]; simp only [Option.bind_some]
      rw [chk_pos hc, e3]; simp only [Option.bind_some]
      rw [e4]; simp only [Option.bind_some]
      rw [e5]; simp only [Option.bind_some]
      rw [e6]; simp only [Option.bind_some]
      rw [e7]; simp only [Option.bind_some]
      exact ⟨_, b7, rfl, by omega, by omega, trivial⟩
  · rw [if_neg (by simpa using hx)]
    exact ⟨x, b, by simp, by omega, by omega, trivial⟩
theorem textI_loop (r3 : Int × Int) (hr : r3.1 ≤ 2) (j1 : Int → ByteArray → Option (ByteArray × Int)) : ∀ (m : Nat) (a : Int) (t : ByteArray) (i : Int), 0 ≤ i → i ≤ r3.1 → r3.1 - i < (m : Int) → 0 ≤ a → a + 3 * m ≤ 1000000 → t.size + 100 * m ≤ 100000 →
    ∃ b u, Stream_ItemText_l1 r3 L j1 m a t i = j1 b u
  | 0, a, t, i, h0, h0', h1, h2, h3, h4 => by omega
  | m + 1, a, t, i, h0, h0', h1, h2, h3, h4 => by
    rw [Stream_ItemText_l1]
    by_cases hc : i < r3.1
    · rw [if_pos (decide_eq_true hc)]
      obtain ⟨u, b, e, g1, g2, g3⟩ := changed_dr hL (a := a) h2 (by omega) t k__20_0a0_2d9ia (by omega) (by decide)
      have hk : k__20_0a0_2d9ia.size = 7 := rfl
      rw [e, W_in (by omega) (by omega)]
      simp only [Option.bind_some]
      exact textI_loop r3 hr j1 m b u (i + 1) (by omega) (by omega) (by omega) (by omega) (by omega) (by omega)
    · rw [if_neg (by simpa using hc)]
      exact ⟨a, t, rfl⟩
theorem itemText_ok {a : Int} (ha : 0 ≤ a) (ha' : a ≤ 10000) : ∃ t b, Stream_ItemText L a = some (t, b) := by
  obtain ⟨x, b, e, g1, g2, g3, g4⟩ := rightI_dr hL 3 (by omega) (by omega) ha (by omega)
  obtain ⟨u, e1, z1, _⟩ := lines_is x g4 (by omega)
  obtain ⟨v, b2, e2, p2, q2, m2⟩ := pick_dr hL (a := b) (by omega) (by omega) [0, 0, 1, 2] (by simp) (by simp)
  simp only [List.mem_cons, List.not_mem_nil, or_false] at m2
  unfold Stream_ItemText
  rw [e]; simp only [Option.bind_some]
  rw [e1]; simp only [Option.bind_some]
  rw [e2]; simp only [Option.bind_some, join_eq]
  obtain ⟨b3, u', e3⟩ := textI_loop hL (v, b2) (by show v ≤ 2; omega) (fun x1 x2 => some (x2, x1)) ((v - 0).toNat + 2) b2 u 0 (by omega) (by show 0 ≤ v; omega) (by show v - 0 < _; omega) (by omega) (by omega) (by omega)
  exact ⟨u', b3, e3⟩
end
theorem eqItem_is (l : List GItem) : slices_Equal_Item l l = some true := by
  have key : ∀ (ys dn : List GItem), l = dn ++ ys → slices_Equal_Item_l1 l (some true) ys dn.length = some true := by
    intro ys
    induction ys with
    | nil => intro dn _; rfl
    | cons y ys ih =>
      intro dn h
      have hlen : l.length = dn.length + (ys.length + 1) := by rw [h]; simp
      have hn : nth l (dn.length : Int) = y := by rw [h]; simp [nth, List.getD]
      have := ih (dn ++ [y]) (by rw [h]; simp)
      rw [List.length_append, List.length_singleton] at this
      rw [slices_Equal_Item_l1, chk_pos (inB_iff.2 (by omega)), hn, if_neg (by simp), this]
  unfold slices_Equal_Item
  rw [if_neg (by simp), join_eq]
  exact key l [] rfl
theorem plain_ItemTexts (l : List Int) (hl : l.length ≤ 9223372036854775807) : tumblaw2_ItemTexts l = some true := by
  have hL : LongL l := by unfold LongL; omega
  obtain ⟨x, a1, e1, p1, q1, _⟩ := itemsI_dr hL 4 (by omega) (by omega) (a := 0) (by omega) (by omega)
  obtain ⟨t, a2, e2⟩ := itemText_ok hL (a := a1) (by omega) (by omega)
  obtain ⟨b, i, f, r1, r2⟩ := read_both t
  obtain ⟨e, c1, c2, _⟩ := check_eq x
  unfold tumblaw2_ItemTexts
  rw [e1]; simp only [Option.bind_some]
  rw [e2]; simp only [Option.bind_some]
  rw [c2, r1, r2]; simp only [Option.bind_some, join_eq]
  by_cases he : e = 0
  · subst he
    obtain ⟨g1, g2⟩ := short_of c2
    obtain ⟨u, u1, _, u3⟩ := lines_is x g2 g1
    rw [u3 c1, u1]
    simp only [Option.bind_some, decide_true, if_true, Bool.and_self, Bool.true_and, eqItem_is, timedT_ok]
  · have ht : session_Text x = some (k_empty, e) := by
      unfold session_Text
      rw [c1]
      simp only [Option.bind_some]
      rw [if_pos (by simpa using he)]
    rw [ht]
    simp only [Option.bind_some]
    rw [if_neg (by simpa using he)]
    simp only [Option.bind_some, decide_true, if_true, Bool.and_self, Bool.true_and, eqItem_is, timedT_ok]
end Go.Proofs.YtmaoleaghiilcaaGreatDoor
