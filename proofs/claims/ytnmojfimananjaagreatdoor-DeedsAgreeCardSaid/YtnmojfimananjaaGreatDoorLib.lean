/- More rules: tests for nil, slices that are made empty. No statement of the seat is proved here. -/
import Derived.Test.YtnmojfimananjaaGreatDoorMap
namespace Go.Proofs.YtnmojfimananjaaGreatDoor
open Go
/-- The slice is nil. -/
def nilB : Value → Bool
  | .slice none _ _ => true
  | _ => false
theorem slc_nilB {α : Type} {enc : α → List Value} {ψ : View} {k : Nat} {v : Value} {xs : List α} (h : Slc ψ k v (xs.map enc)) (hb : nilB v = true) : xs = [] := by
  obtain ⟨ao, cap, rfl, h2, _, h4, _⟩ := h
  cases ao with
  | none =>
    have h5 := h4 rfl
    rw [List.length_map] at h2
    exact List.eq_nil_of_length_eq_zero (by omega)
  | some ad => cases hb
section
variable {P : Program} {ops : Array Oper} {Q : Exit → Act → World → Prop} {rest : List Oper}
variable {w0 : World} {X : List Nat} {φ : View} {L : List LEnt} {K : List (Nat × Value)} {n : Nat} {a : Act} {w : World}
variable {d : Nat} {ty : TypeId} {pos : String} {after : Array Edge}
theorem run_nileq {t el : TypeId} (ht : P.underlying t = some (.slice el)) (ao : Option Addr) (m c : Nat) (w : World) : (Op.equal t (.slice ao m c) (.slice none 0 0)).run P w = .ok (nilB (.slice ao m c)) w := by
  unfold Op.equal
  rw [show Op.maxDepth = 9999 + 1 from rfl, Op.equalIn]
  simp only [Sem.run_bind, run_underlying ht, Result.andThen_ok]
  cases ao <;> rfl
theorem rn_nileq {t u el : TypeId} {x y : Operand} {v : Value} {m : Nat} (ht : P.underlying t = some (.slice el)) (hv : SlcLen v m) (hx : a.eval x = v) (hy : a.eval y = .slice none 0 0) : Rn P a w (.binOp .eql t x y u) ty (.bool (nilB v)) := by
  obtain ⟨ao, c, rfl⟩ := hv
  intro d p e g
  simp [execOp, hx, hy, binOp, eqGuard, run_nileq ht]
theorem rn_nilne {t u el : TypeId} {x y : Operand} {v : Value} {m : Nat} (ht : P.underlying t = some (.slice el)) (hv : SlcLen v m) (hx : a.eval x = v) (hy : a.eval y = .slice none 0 0) : Rn P a w (.binOp .neq t x y u) ty (.bool (!nilB v)) := by
  obtain ⟨ao, c, rfl⟩ := hv
  intro d p e g
  simp [execOp, hx, hy, binOp, eqGuard, run_nileq ht]
/-- A slice that is nil where it is empty. -/
theorem nilB_own {w1 : World} {T k : Nat} {α : Type} {xs : List α} {cs : List Value} {v : Value} (ho : w1.ownsRow 0 T k v xs.length cs) (hz : xs = [] → v = .slice none 0 0) : nilB v = xs.isEmpty := by
  cases xs with
  | nil => rw [hz rfl]; rfl
  | cons x xs =>
    obtain ⟨g, cap, cur, rfl, _⟩ := own_form ho (by simp)
    rfl
theorem rn_nileqZ {w1 : World} {t u el T k : Nat} {α : Type} {xs : List α} {cs : List Value} {x y : Operand} {v : Value} (ht : P.underlying t = some (.slice el)) (ho : w1.ownsRow 0 T k v xs.length cs) (hz : xs = [] → v = .slice none 0 0) (hx : a.eval x = v) (hy : a.eval y = .slice none 0 0) : Rn P a w (.binOp .eql t x y u) ty (.bool xs.isEmpty) := by
  rw [← nilB_own ho hz]; exact rn_nileq ht (own_len ho) hx hy
theorem rn_nilneZ {w1 : World} {t u el T k : Nat} {α : Type} {xs : List α} {cs : List Value} {x y : Operand} {v : Value} (ht : P.underlying t = some (.slice el)) (ho : w1.ownsRow 0 T k v xs.length cs) (hz : xs = [] → v = .slice none 0 0) (hx : a.eval x = v) (hy : a.eval y = .slice none 0 0) : Rn P a w (.binOp .neq t x y u) ty (.bool (!xs.isEmpty)) := by
  rw [← nilB_own ho hz]; exact rn_nilne ht (own_len ho) hx hy
theorem nz_of {α : Type} {xs : List α} {v : Value} (h : (!xs.isEmpty) = true) : xs = [] → v = .slice none 0 0 := fun e => by subst e; cases h
theorem l_buildSlice0 {T el sz : TypeId} (S : Sx w0 X φ L K n a w) (hT : P.underlying T = some (.slice el)) (hs : ∀ w, (sizeOf el).run P w = .ok sz w) (hd : Nat.blt d n = true)
    (k : ∀ a' w' b, b = w.heap.size → Keep [] w w' → Sx w0 X φ (.blk b [] el :: L) ((d, .slice (some ⟨b, 0, none⟩) 0 0) :: K) n a' w' → wpList P ops Q rest a' w') :
    wpList P ops Q ({ dst := some d, op := .buildSlice T 0 #[], type := ty, pos, after, guard := none } :: rest) a w := by
  have hb : (Instr.buildSlice T 0 #[]).run P w = .ok (.slice (some ⟨w.heap.size, 0, none⟩) 0 0) (w.alloc (.cells #[] el)) := by
    unfold Instr.buildSlice
    simp only [Sem.run_bind, run_underlying hT, hs, Result.andThen_ok, Nat.zero_mul, gt_iff_lt, Nat.not_lt_zero, if_false, if_true, Sem.run_pure, newRow, run_newObj, Instr.fill]
    simp [show Array.range 0 = #[] from rfl]
  refine l_go (v := .slice (some ⟨w.heap.size, 0, none⟩) 0 0) (w' := w.alloc (.cells #[] el)) ?_ ?_
  · have he : execOp a.eval { dst := some d, op := .buildSlice T 0 #[], type := ty, pos, after, guard := none } = (do pure (.value (← Instr.buildSlice T 0 ((#[] : Array (Nat × Operand)).map fun (i, x) => (i, a.eval x))))) := rfl
    rw [he, Array.map_empty, Sem.run_bind, hb]
    rfl
  · refine k _ _ w.heap.size rfl (keep_alloc w _) (((S.more (e := .blk w.heap.size [] el) (keep_alloc w _) ?_ ?_)).put (by simpa using hd))
    · show (w.alloc _).heap[w.heap.size]? = _
      rw [heap_alloc_new]
    · intro b hb; cases hb; exact Nat.le_refl _
end
theorem chk_str {P : Program} {w : World} {em : Bool} {n t : Nat} {v : Value} (h : P.underlying t = some .string) : (Instr.checkKey em (n + 1) t v).run P w = .ok () w := by
  rw [Instr.checkKey]; simp [Sem.run_bind, run_underlying h]
theorem chk_int {P : Program} {w : World} {em : Bool} {n t : Nat} {v : Value} {k : IntKind} (h : P.underlying t = some (.int k)) : (Instr.checkKey em (n + 1) t v).run P w = .ok () w := by
  rw [Instr.checkKey]; simp [Sem.run_bind, run_underlying h]
theorem chk_bool {P : Program} {w : World} {em : Bool} {n t : Nat} {v : Value} (h : P.underlying t = some .bool) : (Instr.checkKey em (n + 1) t v).run P w = .ok () w := by
  rw [Instr.checkKey]; simp [Sem.run_bind, run_underlying h]
def chkAll (P : Program) (em : Bool) (n : Nat) (xs : Array Value) (fs : List Field) : Prop := ∀ f ∈ fs, f.name ≠ "_" → ∃ v, (∀ w, (part f.type xs f.offset).run P w = .ok v w) ∧ ∀ w, (Instr.checkKey em n f.type v).run P w = .ok () w
theorem chk_list {P : Program} {w : World} {em : Bool} {n : Nat} {xs : Array Value} : ∀ {fs : List Field}, chkAll P em n xs fs →
    (do for f in fs do if f.name ≠ "_" then Instr.checkKey em n f.type (← part f.type xs f.offset) : Sem Unit).run P w = .ok () w
  | [], _ => by simp
  | f :: fs, h => by
    have ih := chk_list (w := w) (fs := fs) (fun g hg => h g (List.mem_cons_of_mem _ hg))
    by_cases hn : f.name = "_"
    · simp [List.forIn_cons, hn] at ih ⊢; exact ih
    · obtain ⟨v, h1, h2⟩ := h f List.mem_cons_self hn
      simp [List.forIn_cons, Sem.run_bind, hn, h1, h2] at ih ⊢; exact ih
theorem chk_agg {P : Program} {w : World} {em : Bool} {n t : Nat} {xs : Array Value} {fs : Array Field} (hS : P.underlying t = some (.struct fs)) (h : chkAll P em n xs fs.toList) :
    (Instr.checkKey em (n + 1) t (.agg xs)).run P w = .ok () w := by
  rw [Instr.checkKey]
  simp only [Sem.run_bind, run_underlying hS, Result.andThen_ok]
  have := chk_list (P := P) (w := w) (em := em) (n := n) (xs := xs) (fs := fs.toList) h
  simp at this ⊢
  rw [this]
  rfl
section
variable {P : Program} {κ ν : Type} [DecidableEq κ]
omit [DecidableEq κ] in
theorem findNow_agg (xs : κ → Array Value) (vv : ν → Value) (fs : Array Field) (x : κ) : ∀ (m : List (κ × ν)) (i : Nat), m ≠ [] → Instr.findNow (.struct fs) (.agg (xs x)) (mentsFrom (fun x => .agg (xs x)) vv m i) i = none
  | [], _, h => (h rfl).elim
  | (k, v) :: m, i, _ => by simp [mentsFrom, Instr.findNow, Instr.sameNow]
theorem findAsking_agg {kt : Nat} {kv : κ → Value} {w : World} (he : ∀ x y w, (Op.equal kt (kv x) (kv y)).run P w = .ok (decide (x = y)) w) (vv : ν → Value) (x : κ) : ∀ (m : List (κ × ν)) (i : Nat),
    (Instr.findAsking kt (kv x) (mentsFrom kv vv m i) i).run P w = .ok ((mfind m x i).map fun p => (p.1, vv p.2)) w
  | [], i => by simp [mentsFrom, Instr.findAsking, mfind]
  | (k, v) :: m, i => by
    simp only [mentsFrom, Instr.findAsking, mfind, Sem.run_bind, he, Result.andThen_ok]
    by_cases h : x = k
    · simp [h]
    · simp [h, findAsking_agg he vv x m (i + 1)]
theorem keyT_agg {kt : Nat} {fs : Array Field} {enc : κ → List Value} (D : Nat) (hD : Nat.ble D 10000 = true) (hS : P.underlying kt = some (.struct fs)) (hc : ∀ em x w, (Instr.checkKey em 10000 kt (.agg (enc x).toArray)).run P w = .ok () w)
    (he : ∀ dd x y w, (Op.equalIn (dd + D) kt (.agg (enc x).toArray) (.agg (enc y).toArray)).run P w = .ok (decide (x = y)) w) (hs : ∀ x, Instr.sameBits 10000 (.agg (enc x).toArray) (.agg (enc x).toArray) = true) :
    KeyT P kt (fun x => .agg (enc x).toArray) where
  chk := hc
  find vv x m w := by
    have hD' : 10000 - D + D = 10000 := Nat.sub_add_cancel (by simpa using hD)
    unfold Instr.findKey
    simp only [Sem.run_bind, run_underlying hS, Result.andThen_ok]
    cases m with
    | nil => simp [mentsFrom, Instr.findNow, mfind]
    | cons p m =>
      rw [findNow_agg (fun x => (enc x).toArray) vv fs x (p :: m) 0 (by simp)]
      exact findAsking_agg (kv := fun x => .agg (enc x).toArray) (fun x y w => by have := he (10000 - D) x y w; rw [hD'] at this; exact this) vv x (p :: m) 0
  same := hs
end

theorem beq_selfB (s : ByteArray) : (s == s) = true := by rw [beq_toListBytes, bytes_beq]; simp
theorem findNow_int {ν : Type} (kk : IntKind) (vv : ν → Value) (x : Int) : ∀ (m : List (Int × ν)) (i : Nat), Instr.findNow (.int kk) (.int kk x) (mentsFrom (Value.int kk) vv m i) i = some ((mfind m x i).map fun p => (p.1, vv p.2))
  | [], _ => rfl
  | (k, v) :: m, i => by
    simp only [mentsFrom, Instr.findNow, Instr.sameNow, mfind, if_true]
    by_cases h : x = k
    · simp [h]
    · rw [show (x == k) = false by simpa using h]
      simp [h, findNow_int kk vv x m (i + 1)]
theorem keyT_int {P : Program} {kt : TypeId} {kk : IntKind} (h : P.underlying kt = some (.int kk)) : KeyT P kt (Value.int kk) where
  chk em x w := by
    rw [show (10000 : Nat) = 9999 + 1 from rfl]; exact chk_int h
  find vv x m w := by simp [Instr.findKey, Sem.run_bind, run_underlying h, findNow_int kk vv x m 0]
  same x := by simp [Instr.sameBits]

/-! ### The rest of a region whose order is open, where nothing turns any more: it is walked in the order of the text -/
def pickL (ops : Array Oper) : List Nat → List Oper
  | [] => []
  | i :: is => match ops[i]? with
    | some o => o :: pickL ops is
    | none => pickL ops is
def lexIs (ops : Array Oper) : List Nat → Array Bool → Bool
  | [], listed => (Region.ready .any ops listed).isEmpty
  | i :: is, listed => (Region.ready .any ops listed).contains i && Region.free .any ops listed i && (ops[i]?).isSome && lexIs ops is (listed.setIfInBounds i true)
def wpSt (P : Program) (ops : Array Oper) (N : Act → World → Prop) (l : List Oper) (a : Act) (w : World) : Prop := wpStill P ops w (fun a' => N a' w) l a
section
variable {P : Program} {ops : Array Oper} {N : Act → World → Prop} {rest : List Oper}
variable {w0 : World} {X : List Nat} {φ : View} {L : List LEnt} {K : List (Nat × Value)} {n : Nat} {a : Act} {w : World}
variable {d : Nat} {ty : TypeId} {pos : String} {after : Array Edge}
theorem wpAnyS_is {Q : Act → Prop} (hs : Region.noSelect ops = true) : ∀ (is : List Nat) (listed : Array Bool) (a : Act),
    lexIs ops is listed = true → wpStill P ops w Q (pickL ops is) a → wpAnyS P .any ops w Q is.length listed a
  | [], _, _, hB, h => ⟨by simpa [lexIs] using hB, h⟩
  | i :: is, listed, a, hB, h => by
    simp only [lexIs, Bool.and_eq_true] at hB
    obtain ⟨⟨⟨hr, hf⟩, ho⟩, hB'⟩ := hB
    cases h0 : ops[i]? with
    | none => rw [h0] at ho; cases ho
    | some o =>
      have h' : wpStill P ops w Q (o :: pickL ops is) a := by simpa [pickL, h0] using h
      have hst : stOp P ops w i (wpStill P ops w Q (pickL ops is)) a := by unfold stOp; simp only [h0]; exact h'
      obtain ⟨v, hy, hK⟩ := yieldsAt_of_stOp h0 hst
      exact wpAnyS_first h0 (Region.noSelect_spec hs) is.length listed a (Region.free_spec h0 hf) (by simpa using hr) hy (wpAnyS_is hs is _ _ hB' hK)
theorem wpC_of_still {C : Array Bool → World → Prop} {Q : Act → Prop} (hC : ∀ l, C l w) (hQ : ∀ a, Q a → N a w) : ∀ (fuel : Nat) (listed : Array Bool) (a : Act), wpAnyS P .any ops w Q fuel listed a → wpC P ops C N fuel listed a w
  | 0, _, _, h => ⟨hC _, h.1, hQ _ h.2⟩
  | fuel + 1, _, _, h => ⟨hC _, fun h0 => hQ _ (h.1 h0), fun i hi => wpOp_of_stOp (fun a' => wpC_of_still hC hQ fuel _ a') (h.2 i hi)⟩
theorem d_rest {B Y : List Nat} {fuel : Nat} {listed : Array Bool} (is : List Nat) (hs : Region.noSelect ops = true) (hB : lexIs ops is listed = true) (hf : is.length = fuel) (h : wpSt P ops N (pickL ops is) a w) : wpD P ops B Y N fuel listed a w := by
  subst hf
  exact wpC_of_still (fun _ _ => Keep.refl Y w) (fun _ h => h) _ _ _ (wpAnyS_is hs is listed a hB h)
theorem wanted_free (o : Oper) (h : o.guard = none) (y : Nat → Option Bool) : Region.wanted o y = true := by simp [Region.wanted, h]
theorem pickL_cons {i : Nat} {o : Oper} {is : List Nat} (h : ops[i]? = some o) : pickL ops (i :: is) = o :: pickL ops is := by simp only [pickL, h]
theorem pickL_app : ∀ (l1 l2 : List Nat), pickL ops (l1 ++ l2) = pickL ops l1 ++ pickL ops l2
  | [], _ => rfl
  | i :: l1, l2 => by
    simp only [List.cons_append, pickL, pickL_app l1 l2]
    cases ops[i]? <;> rfl
theorem s_lv0 {op : Op} {v : Value} (S : Sx w0 X φ L K n a w) (h : Rn P a w op ty v) (hd : Nat.blt d n = true)
    (k : ∀ a', Sx w0 X φ L ((d, v) :: K) n a' w → wpSt P ops N rest a' w) :
    wpSt P ops N ({ dst := some d, op, type := ty, pos, after, guard := none } :: rest) a w := by
  unfold wpSt wpStill
  rw [if_pos (wanted_free _ rfl _)]
  unfold Oper.still
  rw [h (some d) pos after none]
  exact ⟨rfl, k _ (S.put (by simpa using hd))⟩
variable {i : Nat} {is : List Nat}
theorem s_lv {op : Op} {v : Value} (S : Sx w0 X φ L K n a w) (ho : ops[i]? = some { dst := some d, op, type := ty, pos, after, guard := none }) (h : Rn P a w op ty v) (hd : Nat.blt d n = true)
    (k : ∀ a', Sx w0 X φ L ((d, v) :: K) n a' w → wpSt P ops N (pickL ops is) a' w) : wpSt P ops N (pickL ops (i :: is)) a w := by
  rw [pickL_cons ho]; exact s_lv0 S h hd k
theorem s_done (k : N a w) : wpSt P ops N (pickL ops []) a w := k
theorem s_want {op : Op} {j : Nat} {b want : Bool} {oj : Oper} {tj : Nat} {dst : Option Nat} (S : Sx w0 X φ L K n a w) (ho : ops[i]? = some { dst, op, type := ty, pos, after, guard := some (j, want) }) (hj : ops[j]? = some oj) (ht : oj.dst = some tj) (hv : look K tj = some (.bool b)) (hb : b = want)
    (k : wpSt P ops N ({ dst, op, type := ty, pos, after, guard := none } :: pickL ops is) a w) : wpSt P ops N (pickL ops (i :: is)) a w := by
  have hs := S.slots tj _ hv
  have h1 : Region.wanted { dst, op, type := ty, pos, after, guard := some (j, want) } (yielded ops a.tmps) = true := by
    simp [Region.wanted, yielded, hj, ht, hs, hb]
  rw [pickL_cons ho]
  unfold wpSt wpStill at k ⊢
  rw [if_pos h1]
  rw [if_pos (wanted_free _ rfl _)] at k
  exact k
theorem s_skip {op : Op} {v : Value} {j : Nat} {b want : Bool} {oj : Oper} {tj : Nat} (S : Sx w0 X φ L K n a w) (ho : ops[i]? = some { dst := some d, op, type := ty, pos, after, guard := some (j, want) }) (hj : ops[j]? = some oj) (ht : oj.dst = some tj) (hv : look K tj = some (.bool b)) (hb : (b == want) = false) (hd : Nat.blt d n = true)
    (k : ∀ a', Sx w0 X φ L ((d, v) :: K) n a' w → wpSt P ops N (pickL ops is) a' w) (hundef : v = undef) : wpSt P ops N (pickL ops (i :: is)) a w := by
  have hs := S.slots tj _ hv
  have hne : ¬ b = want := by simpa using hb
  rw [pickL_cons ho]
  unfold wpSt wpStill
  rw [if_neg (by simp [Region.wanted, yielded, hj, ht, hs, hne]), ← hundef]
  exact k _ (S.put (by simpa using hd))
theorem s_skipU {op : Op} {j : Nat} {want : Bool} {oj : Oper} {tj : Nat} (S : Sx w0 X φ L K n a w) (ho : ops[i]? = some { dst := some d, op := op, type := ty, pos, after, guard := some (j, want) }) (hj : ops[j]? = some oj) (ht : oj.dst = some tj) (hv : look K tj = some undef) (hd : Nat.blt d n = true)
    (k : ∀ a', Sx w0 X φ L ((d, undef) :: K) n a' w → wpSt P ops N (pickL ops is) a' w) : wpSt P ops N (pickL ops (i :: is)) a w := by
  have hs := S.slots tj _ hv
  rw [pickL_cons ho]
  unfold wpSt wpStill
  rw [if_neg (by simp [Region.wanted, yielded, hj, ht, hs, undef])]
  exact k _ (S.put (by simpa using hd))
theorem wpStill_app {Q : Act → Prop} {J : Act → Prop} : ∀ {l1 l2 : List Oper} {a : Act}, wpStill P ops w J l1 a → (∀ a, J a → wpStill P ops w Q l2 a) → wpStill P ops w Q (l1 ++ l2) a
  | [], _, a, h, k => k a h
  | o :: l1, l2, a, h, k => by
    simp only [List.cons_append]
    unfold wpStill at h ⊢
    split
    · rename_i hw
      rw [if_pos hw] at h
      exact Oper.still_mono (fun a' h' => wpStill_app h' k) h
    · rename_i hw
      rw [if_neg hw] at h
      exact wpStill_app h k
theorem s_cutm (m : Nat) {is : List Nat} (J : Act → World → Prop) (h : wpSt P ops J (pickL ops (is.take m)) a w) (k : ∀ a w, J a w → wpSt P ops N (pickL ops (is.drop m)) a w) : wpSt P ops N (pickL ops is) a w := by
  have := wpStill_app (P := P) (ops := ops) (w := w) (l1 := pickL ops (is.take m)) (l2 := pickL ops (is.drop m)) (Q := fun a' => N a' w) h (fun a h => k a w h)
  rwa [← pickL_app, List.take_append_drop] at this
end

/-! ### An entry of a map, made and then written -/
section
variable {κ ν : Type} [DecidableEq κ]
/-- The place of a key, or the next one. -/
def mix (m : List (κ × ν)) (k : κ) : Nat := ((mfind m k 0).map (·.1)).getD m.length
theorem mput_mput (k : κ) (u v : ν) : ∀ m : List (κ × ν), mput (mput m k u) k v = mput m k v
  | [] => by simp [mput]
  | (k', v') :: m => by
    by_cases h : k = k'
    · simp [mput, h]
    · simp [mput, h, mput_mput k u v m]
theorem mfind_mput (k : κ) (u : ν) : ∀ (m : List (κ × ν)) (i : Nat), mfind (mput m k u) k i = some (((mfind m k i).map (·.1)).getD (i + m.length), u)
  | [], i => by simp [mput, mfind]
  | (k', v') :: m, i => by
    by_cases h : k = k'
    · simp [mput, mfind, h]
    · simp only [mput, mfind, h, if_false, mfind_mput k u m (i + 1), List.length_cons]
      congr 3; omega
theorem mput_same {k : κ} {u : ν} : ∀ {m : List (κ × ν)} {i n : Nat}, mfind m k i = some (n, u) → mput m k u = m
  | [], _, _, h => by cases h
  | (k', v') :: m, i, n, h => by
    simp only [mfind] at h
    split at h
    · rename_i he; cases h; simp [mput, he]
    · rename_i hne; simp [mput, hne, mput_same h]
theorem ments_at {kv : κ → Value} {vv : ν → Value} {k : κ} {u : ν} : ∀ {m : List (κ × ν)} {i n : Nat}, mfind m k i = some (n, u) → i ≤ n ∧ (mentsFrom kv vv m i)[n - i]? = some ⟨kv k, vv u, n⟩
  | [], _, _, h => by cases h
  | (k', v') :: m, i, n, h => by
    simp only [mfind] at h
    split at h
    · rename_i he; cases h
      exact ⟨Nat.le_refl _, by simp [mentsFrom, he]⟩
    · obtain ⟨h1, h2⟩ := ments_at (kv := kv) (vv := vv) h
      refine ⟨by omega, ?_⟩
      rw [show n - i = (n - (i + 1)) + 1 by omega, mentsFrom, List.getElem?_cons_succ]; exact h2
theorem modify_congr {es : Array MapEntry} {n : Nat} {f g : MapEntry → MapEntry} (h : ∀ e, es[n]? = some e → f e = g e) : es.modify n f = es.modify n g := by
  apply Array.ext_getElem?
  intro j
  rw [Array.getElem?_modify, Array.getElem?_modify]
  by_cases hj : n = j
  · subst hj
    rw [if_pos rfl, if_pos rfl]
    cases he : es[n]? with
    | none => rfl
    | some e => simp [h e he]
  · rw [if_neg hj, if_neg hj]
theorem modify_id {es : Array MapEntry} {n : Nat} {f : MapEntry → MapEntry} (h : ∀ e, es[n]? = some e → f e = e) : es.modify n f = es := by
  apply Array.ext_getElem?
  intro j
  rw [Array.getElem?_modify]
  by_cases hj : n = j
  · subst hj
    rw [if_pos rfl]
    cases he : es[n]? with
    | none => rfl
    | some e => simp [h e he]
  · rw [if_neg hj]
omit [DecidableEq κ] in
theorem born_at (kv : κ → Value) (vv : ν → Value) : ∀ (m : List (κ × ν)) (i n : Nat), n < m.length → (mentsFrom kv vv m i).findIdx? (fun e => (e.born : Int) == ((i + n : Nat) : Int)) = some n
  | [], _, _, h => by simp at h
  | (k, v) :: m, i, n, h => by
    rw [mentsFrom, List.findIdx?_cons]
    cases n with
    | zero => simp
    | succ n =>
      have h1 : ((i : Int) == ((i + (n + 1) : Nat) : Int)) = false := by simp; omega
      rw [h1]
      have := born_at kv vv m (i + 1) n (by simpa using h)
      rw [show i + 1 + n = i + (n + 1) by omega] at this
      rw [this]; rfl
theorem mfind_lt {k : κ} {u : ν} : ∀ {m : List (κ × ν)} {i n : Nat}, mfind m k i = some (n, u) → n < i + m.length
  | [], _, _, h => by cases h
  | (k', v') :: m, i, n, h => by
    simp only [mfind] at h
    split at h
    · cases h; simp
    · have := mfind_lt h; simp; omega
end
section
variable {P : Program} {ops : Array Oper} {Q : Exit → Act → World → Prop} {rest : List Oper}
variable {w0 : World} {X : List Nat} {φ : View} {L : List LEnt} {K : List (Nat × Value)} {n : Nat} {a : Act} {w : World}
variable {d : Nat} {ty : TypeId} {pos : String} {after : Array Edge}
variable {κ ν : Type} [DecidableEq κ] {kv : κ → Value} {vv : ν → Value}
theorem mgetD_mput (m : List (κ × ν)) (k : κ) (u z : ν) : mgetD (mput m k u) k z = u := by simp [mgetD, mget, mfind_mput]
theorem rn_lookupP {T kt el : TypeId} {x y : Operand} {b clk : Nat} {m : List (κ × ν)} {key : κ} {u z : ν} (hb : w.heap[b]? = some (.map (ments kv vv (mput m key u)) clk)) (hT : P.underlying T = some (.map kt el)) (hk : KeyT P kt kv) (hz : ∀ w, (zeroValue el).run P w = .ok (vv z) w)
    (hx : a.eval x = .map (some b)) (hy : a.eval y = kv key) : Rn P a w (.lookup T x y false) ty (vv u) := by
  have := rn_lookup (ty := ty) hb hT hk hz hx hy
  rwa [mgetD_mput] at this
theorem keep_setObj {b : Nat} {o : Obj} (w : World) : Keep [b] w { w with heap := w.heap.setIfInBounds b o } :=
  ⟨rfl, rfl, rfl, by simp, fun q hq hne => by simp only [List.mem_singleton] at hne; exact Array.getElem?_setIfInBounds_ne (fun e => hne e.symm)⟩
theorem l_mapEntry {T kt el : TypeId} {x y : Operand} {i b : Nat} {m : List (κ × ν)} {key : κ} {z : ν} (S : Sx w0 X φ L K n a w) (hi : L[i]? = some (.map b (ments kv vv m) m.length)) (hT : P.underlying T = some (.map kt el)) (hk : KeyT P kt kv)
    (hz : ∀ w, (zeroValue el).run P w = .ok (vv z) w) (hx : a.eval x = .map (some b)) (hy : a.eval y = kv key) (hd : Nat.blt d n = true)
    (k : ∀ a' w', Keep [b] w w' → Sx w0 X φ (L.set i (.map b (ments kv vv (mput m key (mgetD m key z))) (mput m key (mgetD m key z)).length)) ((d, .tuple #[vv (mgetD m key z), .int .i64 ((mix m key : Nat) : Int)]) :: K) n a' w' → wpList P ops Q rest a' w') :
    wpList P ops Q ({ dst := some d, op := .mapEntry T x y, type := ty, pos, after, guard := none } :: rest) a w := by
  have hb := S.map_at hi
  have hlt : b < w.heap.size := heap_lt hb
  have hrun : (Instr.mapEntry T (.map (some b)) (kv key)).run P w = .ok (.tuple #[vv (mgetD m key z), .int .i64 ((mix m key : Nat) : Int)]) { w with heap := w.heap.setIfInBounds b (.map (ments kv vv (mput m key (mgetD m key z))) (mput m key (mgetD m key z)).length) } := by
    have hf := hk.find vv key m w
    have hfin : ∀ o, (setObj b o).run P w = .ok () { w with heap := w.heap.setIfInBounds b o } := fun o => run_setObj_map o hb
    cases hm : mfind m key 0 with
    | none =>
      rw [hm] at hf
      have e0 : mgetD m key z = z := by simp [mgetD, mget, hm]
      have e3 : mix m key = m.length := by simp [mix, hm]
      rw [e0, e3]
      have e1 : ments kv vv (mput m key z) = (ments kv vv m).push ⟨kv key, vv z, m.length⟩ := by
        unfold ments
        rw [mput_none hm, ments_app]
        simp
      have e2 : (mput m key z).length = m.length + 1 := by rw [mput_none hm]; simp
      rw [e1, e2]
      simp [Instr.mapEntry, Sem.run_bind, run_underlying hT, run_getObj_map hb, hk.chk, ments, hf, hfin, hz, goInt]
    | some p =>
      obtain ⟨i, u'⟩ := p
      rw [hm] at hf
      have e0 : mgetD m key z = u' := by simp [mgetD, mget, hm]
      have e3 : mix m key = i := by simp [mix, hm]
      obtain ⟨_, he⟩ := ments_at (kv := kv) (vv := vv) hm
      rw [Nat.sub_zero] at he
      rw [e0, e3, mput_same hm]
      have hid : (ments kv vv m).modify i (fun e => { e with key := kv key }) = ments kv vv m := modify_id fun e h => by
        have : (mentsFrom kv vv m 0)[i]? = some e := by simpa [ments] using h
        rw [he] at this; cases this; rfl
      have hid' : (mentsFrom kv vv m 0).modify i (fun e => { e with key := kv key }) = mentsFrom kv vv m 0 := by have := congrArg Array.toList hid; simpa [ments] using this
      simp [Instr.mapEntry, Sem.run_bind, run_underlying hT, run_getObj_map hb, hk.chk, ments, hf, Instr.keyThatStays, hk.same, hfin, he, hid', goInt]
  refine l_go (v := .tuple #[vv (mgetD m key z), .int .i64 ((mix m key : Nat) : Int)]) (w' := { w with heap := w.heap.setIfInBounds b (.map (ments kv vv (mput m key (mgetD m key z))) (mput m key (mgetD m key z)).length) }) (by simp [execOp, hx, hy, hrun]) ?_
  refine k _ _ (keep_setObj w) ((S.change (e' := .map b (ments kv vv (mput m key (mgetD m key z))) (mput m key (mgetD m key z)).length) hi (keep_setObj w) (by simp [LEnt.fp]) ?_ (fun c hc => .inl hc)).put (by simpa using hd))
  show _ = _
  simp [hlt]
theorem l_entryStore {T : TypeId} {x y u : Operand} {i b : Nat} {m : List (κ × ν)} {key : κ} {old val : ν} (S : Sx w0 X φ L K n a w) (hi : L[i]? = some (.map b (ments kv vv (mput m key old)) (mput m key old).length))
    (hx : a.eval x = .map (some b)) (hy : a.eval y = .int .i64 ((mix m key : Nat) : Int)) (hu : a.eval u = vv val)
    (k : ∀ w', Keep [b] w w' → Sx w0 X φ (L.set i (.map b (ments kv vv (mput m key val)) (mput m key val).length)) K n a w' → wpList P ops Q rest a w') :
    wpList P ops Q ({ dst := none, op := .entryStore T x y u, type := ty, pos, after, guard := none } :: rest) a w := by
  have hb := S.map_at hi
  have hlt : b < w.heap.size := heap_lt hb
  have hmf : mfind (mput m key old) key 0 = some (mix m key, old) := by rw [mfind_mput]; simp [mix]
  have hrun : (Instr.entryStore T (.map (some b)) (.int .i64 ((mix m key : Nat) : Int)) (vv val)).run P w = .ok () { w with heap := w.heap.setIfInBounds b (.map (ments kv vv (mput m key val)) (mput m key val).length) } := by
    have hfin : ∀ o, (setObj b o).run P w = .ok () { w with heap := w.heap.setIfInBounds b o } := fun o => run_setObj_map o hb
    have hidx : (ments kv vv (mput m key old)).findIdx? (fun e => (e.born : Int) == ((mix m key : Nat) : Int)) = some (mix m key) := by
      have := born_at kv vv (mput m key old) 0 (mix m key) (by have := mfind_lt hmf; omega)
      simpa [ments] using this
    obtain ⟨_, h2⟩ := ments_put (kv := kv) (vv := vv) (v := val) hmf
    obtain ⟨_, he⟩ := ments_at (kv := kv) (vv := vv) hmf
    rw [Nat.sub_zero] at h2 he
    have e1 : (ments kv vv (mput m key old)).modify (mix m key) (fun e => { e with val := vv val }) = ments kv vv (mput m key val) := by
      rw [← mput_mput key old val m]
      have : ments kv vv (mput (mput m key old) key val) = (ments kv vv (mput m key old)).modify (mix m key) fun e => { e with key := kv key, val := vv val } := by
        unfold ments; rw [h2]; simp
      rw [this]
      refine modify_congr fun e h => ?_
      have h3 : (mentsFrom kv vv (mput m key old) 0)[mix m key]? = some e := by simpa [ments] using h
      rw [he] at h3; cases h3; rfl
    have e2 : (mput m key old).length = (mput m key val).length := by
      have := congrArg List.length h2
      rw [mput_mput] at this
      simpa [ments_len] using this.symm
    simp only [Instr.entryStore, Sem.run_bind, run_getObj_map hb, Result.andThen_ok, asInt, asIntOf, Sem.run_pure, hidx, hfin, e1, e2]
  refine l_act (w' := { w with heap := w.heap.setIfInBounds b (.map (ments kv vv (mput m key val)) (mput m key val).length) }) (by simp [execOp, hx, hy, hu, hrun]) ?_
  refine k _ (keep_setObj w) (S.change hi (keep_setObj w) (by simp [LEnt.fp]) ?_ (fun c hc => .inl hc))
  show _ = _
  simp [hlt]
end
end Go.Proofs.YtnmojfimananjaaGreatDoor
