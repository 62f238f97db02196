/- Kinds that the stream calls right are right. No program stands here but its twins. -/
import Derived.Test.YtbmkfjgekokfcaaGreatDoorPRecS
import Derived.Test.YtbmkfjgekokfcaaGreatDoorPRecQ
namespace Go.Proofs.YtbmkfjgekokfcaaGreatDoor
open Go
structure KGood (y : GKind) : Prop where
  key : y.Key ∈ [k_ka, k_kb, k_kc]
  race : y.Race ∈ [k_ra, k_ra, k_rb]
  clubs : y.Clubs.Sublist [k_blue, k_red]
  young : y.Young ∈ [0, 0, 10]
  old : y.Old ∈ [14, 99, 150]
theorem subs2 {a b : ByteArray} {c : List ByteArray} (h : c.Sublist [a, b]) : c = [] ∨ c = [a] ∨ c = [b] ∨ c = [a, b] := by
  cases h with
  | cons _ h => cases h with
    | cons _ h => cases h; simp
    | cons_cons _ h => cases h; simp
  | cons_cons _ h => cases h with
    | cons _ h => cases h; simp
    | cons_cons _ h => cases h; simp
section
variable {L : List Int} (hL : LongL L)
include hL
theorem rightK_2 : ∀ (ys : List ByteArray) (i : Nat) (x : List ByteArray) (a : Int) (j : List ByteArray → Int → Option ((List GKind) × Int)), 0 ≤ a → a + ys.length ≤ 1000000000 → x.length + ys.length ≤ 1000 →
    ∃ z b, Stream_RightKinds_l2 L j ys i x a = j (x ++ z) b ∧ a ≤ b ∧ b ≤ a + ys.length ∧ z.Sublist ys
  | [], i, x, a, j, h1, h2, h3 => ⟨[], a, by rw [List.append_nil]; rfl, by omega, by simp, List.Sublist.slnil⟩
  | y :: ys, i, x, a, j, h1, h2, h3 => by
    simp only [List.length_cons] at h2 h3
    rw [Stream_RightKinds_l2]
    simp only [joinR]
    obtain ⟨f, b1, e1, g1, g2, _⟩ := flip_dr hL (a := a) h1 (by omega) 3 (by omega)
    rw [e1]; simp only [Option.bind_some]
    cases f with
    | true =>
      rw [if_pos rfl, chkT (by unfold room; simp; omega)]
      obtain ⟨z, b, r1, r2, r3, r4⟩ := rightK_2 ys (i + 1) (x ++ [y]) b1 j (by omega) (by omega) (by simp; omega)
      exact ⟨y :: z, b, by rw [r1]; simp, by omega, by simp; omega, List.Sublist.cons_cons y r4⟩
    | false =>
      rw [if_neg (by simp)]
      obtain ⟨z, b, r1, r2, r3, r4⟩ := rightK_2 ys (i + 1) x b1 j (by omega) (by omega) (by omega)
      exact ⟨z, b, r1, by omega, by simp; omega, List.Sublist.cons y r4⟩
theorem rightK_1 : ∀ (ys : List ByteArray) (i : Nat) (x : List GKind) (a : Int), 0 ≤ a → a + 8 * ys.length ≤ 1000000000 → x.length + ys.length ≤ 1000 → (∀ y ∈ ys, y ∈ [k_ka, k_kb, k_kc]) →
    ∃ z b, Stream_RightKinds_l1 L (fun x a => some (x, a)) ys i x a = some (x ++ z, b) ∧ a ≤ b ∧ b ≤ a + 8 * ys.length ∧ (z.map (·.Key)).Sublist ys ∧ ∀ k ∈ z, KGood k
  | [], i, x, a, h1, h2, h3, h4 => ⟨[], a, by rw [List.append_nil]; rfl, by omega, by simp, List.Sublist.slnil, fun _ h => by cases h⟩
  | y :: ys, i, x, a, h1, h2, h3, h4 => by
    simp only [List.length_cons] at h2 h3
    rw [Stream_RightKinds_l1]
    simp only [joinR]
    obtain ⟨f, b1, e1, g1, g2, _⟩ := flip_dr hL (a := a) h1 (by omega) 6 (by omega)
    rw [e1]; simp only [Option.bind_some]
    cases f with
    | true =>
      rw [if_pos rfl]
      obtain ⟨z, b, r1, r2, r3, r4, r5⟩ := rightK_1 ys (i + 1) x b1 (by omega) (by omega) (by omega) (fun z hz => h4 z (List.mem_cons_of_mem _ hz))
      exact ⟨z, b, r1, by omega, by simp; omega, List.Sublist.cons y r4, r5⟩
    | false =>
      rw [if_neg (by simp)]
      obtain ⟨v2, b2, e2, g3, g4, q2⟩ := some_dr hL (a := b1) (by omega) (by omega) [k_ra, k_ra, k_rb] (by simp) (by simp)
      rw [e2]; simp only [Option.bind_some]
      obtain ⟨v3, b3, e3, g5, g6, q3⟩ := pick_dr hL (a := b2) (by omega) (by omega) [0, 0, 10] (by simp) (by simp)
      rw [e3]; simp only [Option.bind_some]
      obtain ⟨v4, b4, e4, g7, g8, q4⟩ := pick_dr hL (a := b3) (by omega) (by omega) [14, 99, 150] (by simp) (by simp)
      rw [e4]; simp only [Option.bind_some]
      obtain ⟨c, b5, e5, g9, g10, g11⟩ := rightK_2 hL [k_blue, k_red] 0 [] b4 (fun (x5 : List ByteArray) (x6 : Int) => Chk (room x.length) (Stream_RightKinds_l1 L (fun x a => some (x, a)) ys (i + 1) (x ++ [(GKind.mk y v2 x5 v3 v4)]) x6)) (by omega) (by simp; omega) (by simp)
      simp only [List.length_cons, List.length_nil] at g10
      rw [e5, chkT (by unfold room; simp; omega), List.nil_append]
      obtain ⟨z, b, r1, r2, r3, r4, r5⟩ := rightK_1 ys (i + 1) (x ++ [(GKind.mk y v2 c v3 v4)]) b5 (by omega) (by omega) (by simp; omega) (fun z hz => h4 z (List.mem_cons_of_mem _ hz))
      refine ⟨GKind.mk y v2 c v3 v4 :: z, b, by rw [r1]; simp, by omega, by simp; omega, List.Sublist.cons_cons y r4, fun k hk => ?_⟩
      rcases List.mem_cons.1 hk with rfl | hk
      · exact ⟨h4 y (by simp), q2, g11, q3, q4⟩
      · exact r5 k hk
end
theorem isKey_t {s : ByteArray} (h : s ∈ [k_ka, k_kb, k_kc] ∨ s ∈ [k_ra, k_ra, k_rb] ∨ s ∈ [k_blue, k_red]) : words_IsKey s = some true := by
  simp only [List.mem_cons, List.not_mem_nil, or_false] at h
  rcases h with (rfl | rfl | rfl) | (rfl | rfl | rfl) | (rfl | rfl) <;> decide +kernel
theorem redBlue : (Sless k_red k_blue || decide (k_red = k_blue)) = false := by decide +kernel
theorem clubs_t (y : GKind) (h : y.Clubs.Sublist [k_blue, k_red]) (J : Option Int) : record_CheckKinds_l2 y J y.Clubs 0 = J := by
  have kb : words_IsKey k_blue = some true := isKey_t (by simp)
  have kr : words_IsKey k_red = some true := isKey_t (by simp)
  have one : ∀ s, words_IsKey s = some true → record_CheckKinds_l2 y J [s] 0 = J := by
    intro s hs
    rw [record_CheckKinds_l2, hs]
    simp only [Option.bind_some, joinR]
    simp [record_CheckKinds_l2]
  rcases subs2 h with e | e | e | e
  · rw [e]; rfl
  · rw [e]; exact one _ kb
  · rw [e]; exact one _ kr
  · rw [e, record_CheckKinds_l2, kb]
    simp only [Option.bind_some, joinR]
    have hin : inB (W (((0 + 1 : Nat) : Int) - 1)) y.Clubs.length = true := by rw [e]; decide +kernel
    have hn : nth y.Clubs (W (((0 + 1 : Nat) : Int) - 1)) = k_blue := by rw [e]; rfl
    rw [if_neg (by simp), if_neg (by simp), record_CheckKinds_l2, kr]
    simp only [Option.bind_some, joinR]
    rw [chkT hin, hn, redBlue]
    simp [record_CheckKinds_l2]
theorem kind_t {y : GKind} (hy : KGood y) (pl : List GKind) (j : Option Int) (ys : List GKind) (i : Nat)
    (hi : i = 0 ∨ (0 < i ∧ i ≤ 1000 ∧ i ≤ pl.length ∧ (Sless y.Key (nth pl ((i : Int) - 1)).Key || decide (y.Key = (nth pl ((i : Int) - 1)).Key)) = false)) : record_CheckKinds_l1 pl j (y :: ys) i = record_CheckKinds_l1 pl j ys (i + 1) := by
  have k1 := isKey_t (.inl hy.key)
  have k2 := isKey_t (.inr (.inl hy.race))
  have hc : y.Clubs.length ≤ 2 := by rcases subs2 hy.clubs with e | e | e | e <;> rw [e] <;> simp
  have hyo : ((decide (y.Young < 0) || decide (y.Old < y.Young)) || decide (150 < y.Old)) = false := by
    have h1 := hy.young
    have h2 := hy.old
    simp only [List.mem_cons, List.not_mem_nil, or_false] at h1 h2
    simp only [Bool.or_eq_false_iff, decide_eq_false_iff_not]
    omega
  rw [record_CheckKinds_l1, k1, k2]
  simp only [Option.bind_some, joinR, Bool.not_true, Bool.false_eq_true, if_false, Bool.or_false]
  rw [clubs_t y hy.clubs, hyo]
  rcases hi with rfl | ⟨h1, h2, h3, h4⟩
  · simp
    intro h; omega
  · have hw : W ((i : Int) - 1) = (i : Int) - 1 := W_in (by omega) (by omega)
    rw [hw, h4, chkT (inB_iff.2 (by omega))]
    simp [h1]
    intro h; omega
theorem pairK : [k_ka, k_kb, k_kc].Pairwise fun p q => (Sless q p || decide (q = p)) = false := by decide +kernel
theorem kinds_t (l : List GKind) (hl : l.length ≤ 1000) (hg : ∀ y ∈ l, KGood y) (hp : (l.map (·.Key)).Pairwise fun p q => (Sless q p || decide (q = p)) = false) (j : Option Int) : ∀ (ys dn : List GKind), l = dn ++ ys → record_CheckKinds_l1 l j ys dn.length = j
  | [], _, _ => rfl
  | y :: ys, dn, e => by
    have hlen : l.length = dn.length + (ys.length + 1) := by rw [e]; simp
    rw [kind_t (hg y (by rw [e]; simp))]
    · have := kinds_t l hl hg hp j ys (dn ++ [y]) (by rw [e]; simp)
      rwa [List.length_append, List.length_singleton] at this
    · rcases List.eq_nil_or_concat dn with h0 | ⟨d, p, h0⟩
      · exact .inl (by rw [h0]; rfl)
      · rw [List.concat_eq_append] at h0
        have hd : dn.length = d.length + 1 := by rw [h0]; simp
        refine .inr ⟨by omega, by omega, by omega, ?_⟩
        have hn : nth l ((dn.length : Int) - 1) = p := by
          rw [e, h0]
          have : d ++ [p] ++ y :: ys = d ++ p :: (y :: ys) := by simp
          rw [this]
          exact nth_mid _ _ _ (by simp)
        rw [hn]
        rw [e, h0, List.map_append, List.pairwise_append] at hp
        exact hp.2.2 p.Key (List.mem_map.2 ⟨p, by simp, rfl⟩) y.Key (List.mem_map.2 ⟨y, by simp, rfl⟩)
theorem rightK_dr {L : List Int} (hL : LongL L) {a : Int} (h0 : 0 ≤ a) (h1 : a ≤ 1000000) : Dr a 24 (fun x => record_CheckKinds x = some 0 ∧ x.length ≤ 3 ∧ (x.map (·.Key)).Nodup) (Stream_RightKinds L a) := by
  unfold Stream_RightKinds
  simp only [joinR]
  obtain ⟨x, b, e, g1, g2, g3, g4⟩ := rightK_1 hL [k_ka, k_kb, k_kc] 0 [] a h0 (by simp; omega) (by simp) (fun _ h => h)
  rw [List.nil_append] at e
  have hl := g3.length_le
  simp only [List.length_map, List.length_cons, List.length_nil] at hl
  have hp := pairK.sublist g3
  refine ⟨x, b, e, g1, by simp at g2; omega, ?_, by omega, ?_⟩
  · unfold record_CheckKinds
    rw [if_neg (by simp; omega), joinR]
    exact kinds_t x (by omega) g4 hp (some 0) x [] rfl
  · unfold List.Nodup
    exact hp.imp fun {p q} h hpq => by subst hpq; simp at h
end Go.Proofs.YtbmkfjgekokfcaaGreatDoor
