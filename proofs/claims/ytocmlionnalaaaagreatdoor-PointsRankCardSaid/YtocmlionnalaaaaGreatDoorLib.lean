/- More rules: tests for nil, slices that are made empty. No statement of the seat is proved here. -/
import Derived.Test.YtocmlionnalaaaaGreatDoorMap
namespace Go.Proofs.YtocmlionnalaaaaGreatDoor
open Go
section
variable {P : Program} {ops : Array Oper} {Q : Exit → Act → World → Prop} {rest : List Oper}
variable {w0 : World} {X : List Nat} {φ : View} {L : List LEnt} {K : List (Nat × Value)} {n : Nat} {a : Act} {w : World}
variable {d : Nat} {ty : TypeId} {pos : String} {after : Array Edge}
end
theorem BP {P : Program} {w : World} {em : Bool} {n t : Nat} {v : Value} (h : P.underlying t = some .string) : (Instr.checkKey em (n + 1) t v).run P w = .ok () w := by
 rw [Instr.checkKey]; simp [Sem.run_bind, run_underlying h]
def DX (P : Program) (em : Bool) (n : Nat) (xs : Array Value) (fs : List Field) : Prop := ∀ f ∈ fs, f.name ≠ "_" → ∃ v, (∀ w, (part f.type xs f.offset).run P w = .ok v w) ∧ ∀ w, (Instr.checkKey em n f.type v).run P w = .ok () w
theorem Zl {P : Program} {w : World} {em : Bool} {n : Nat} {xs : Array Value} : ∀ {fs : List Field}, DX P em n xs fs →
  (do for f in fs do if f.name ≠ "_" then Instr.checkKey em n f.type (← part f.type xs f.offset) : Sem Unit).run P w = .ok () w
 | [], _ => by simp
 | f :: fs, h => by
  have ih := Zl (w := w) (fs := fs) (fun g hg => h g (List.mem_cons_of_mem _ hg))
  by_cases hn : f.name = "_"
  ·simp [List.forIn_cons, hn] at ih ⊢; exact ih
  ·obtain ⟨v, h1, h2⟩ := h f List.mem_cons_self hn
   simp [List.forIn_cons, Sem.run_bind, hn, h1, h2] at ih ⊢; exact ih
theorem chk_agg {P : Program} {w : World} {em : Bool} {n t : Nat} {xs : Array Value} {fs : Array Field} (hS : P.underlying t = some (.struct fs)) (h : DX P em n xs fs.toList) :
  (Instr.checkKey em (n + 1) t (.agg xs)).run P w = .ok () w := by
 rw [Instr.checkKey]
 simp only [Sem.run_bind, run_underlying hS, Result.andThen_ok]
 have := Zl (P := P) (w := w) (em := em) (n := n) (xs := xs) (fs := fs.toList) h
 simp at this ⊢
 rw [this]
 rfl
section
variable {P : Program} {κ ν : Type} [DecidableEq κ]
omit [DecidableEq κ] in
theorem Zn (xs : κ → Array Value) (vv : ν → Value) (fs : Array Field) (x : κ) : ∀ (m : List (κ × ν)) (i : Nat), m ≠ [] → Instr.findNow (.struct fs) (.agg (xs x)) (Hk (fun x => .agg (xs x)) vv m i) i = none
 | [], _, h => (h rfl).elim
 | (k, v) :: m, i, _ => by simp [Hk, Instr.findNow, Instr.sameNow]
theorem Sd {kt : Nat} {kv : κ → Value} {w : World} (he : ∀ x y w, (Op.equal kt (kv x) (kv y)).run P w = .ok (decide (x = y)) w) (vv : ν → Value) (x : κ) : ∀ (m : List (κ × ν)) (i : Nat),
  (Instr.findAsking kt (kv x) (Hk kv vv m i) i).run P w = .ok ((Mi m x i).map fun p => (p.1, vv p.2)) w
 | [], i => by simp [Hk, Instr.findAsking, Mi]
 | (k, v) :: m, i => by
  simp only [Hk, Instr.findAsking, Mi, Sem.run_bind, he, Result.andThen_ok]
  by_cases h : x = k
  ·simp [h]
  ·simp [h, Sd he vv x m (i + 1)]
theorem DY {kt : Nat} {fs : Array Field} {enc : κ → List Value} (D : Nat) (hD : Nat.ble D 10000 = true) (hS : P.underlying kt = some (.struct fs)) (hc : ∀ em x w, (Instr.checkKey em 10000 kt (.agg (enc x).toArray)).run P w = .ok () w)
  (he : ∀ dd x y w, (Op.equalIn (dd + D) kt (.agg (enc x).toArray) (.agg (enc y).toArray)).run P w = .ok (decide (x = y)) w) (hs : ∀ x, Instr.sameBits 10000 (.agg (enc x).toArray) (.agg (enc x).toArray) = true) :
  CQ P kt (fun x => .agg (enc x).toArray) where
 chk := hc
 find vv x m w := by
  have hD' : 10000 - D + D = 10000 := Nat.sub_add_cancel (by simpa using hD)
  unfold Instr.findKey
  simp only [Sem.run_bind, run_underlying hS, Result.andThen_ok]
  cases m with
  | nil => simp [Hk, Instr.findNow, Mi]
  | cons p m =>
   rw [Zn (fun x => (enc x).toArray) vv fs x (p :: m) 0 (by simp)]
   exact Sd (kv := fun x => .agg (enc x).toArray) (fun x y w => by have := he (10000 - D) x y w; rw [hD'] at this; exact this) vv x (p :: m) 0
 same := hs
end

theorem CR (s : ByteArray) : (s == s) = true := by rw [beq_toListBytes, Po]; simp
def Lc (ops : Array Oper) : List Nat → List Oper
 | [] => []
 | i :: is => match ops[i]? with
  | some o => o :: Lc ops is
  | none => Lc ops is
def Zo (ops : Array Oper) : List Nat → Array Bool → Bool
 | [], listed => (Region.ready .any ops listed).isEmpty
 | i :: is, listed => (Region.ready .any ops listed).contains i && Region.free .any ops listed i && (ops[i]?).isSome && Zo ops is (listed.setIfInBounds i true)
def Re (P : Program) (ops : Array Oper) (N : Act → World → Prop) (l : List Oper) (a : Act) (w : World) : Prop := wpStill P ops w (fun a' => N a' w) l a
section
variable {P : Program} {ops : Array Oper} {N : Act → World → Prop} {rest : List Oper}
variable {w0 : World} {X : List Nat} {φ : View} {L : List LEnt} {K : List (Nat × Value)} {n : Nat} {a : Act} {w : World}
variable {d : Nat} {ty : TypeId} {pos : String} {after : Array Edge}
theorem Xx {Q : Act → Prop} (hs : Region.noSelect ops = true) : ∀ (is : List Nat) (listed : Array Bool) (a : Act),
  Zo ops is listed = true → wpStill P ops w Q (Lc ops is) a → wpAnyS P .any ops w Q is.length listed a
 | [], _, _, hB, h => ⟨by simpa [Zo] using hB, h⟩
 | i :: is, listed, a, hB, h => by
  simp only [Zo, Bool.and_eq_true] at hB
  obtain ⟨⟨⟨hr, hf⟩, ho⟩, hB'⟩ := hB
  cases h0 : ops[i]? with
  | none => rw [h0] at ho; cases ho
  | some o =>
   have h' : wpStill P ops w Q (o :: Lc ops is) a := by simpa [Lc, h0] using h
   have hst : stOp P ops w i (wpStill P ops w Q (Lc ops is)) a := by unfold stOp; simp only [h0]; exact h'
   obtain ⟨v, hy, hK⟩ := yieldsAt_of_stOp h0 hst
   exact wpAnyS_first h0 (Region.noSelect_spec hs) is.length listed a (Region.free_spec h0 hf) (by simpa using hr) hy (Xx hs is _ _ hB' hK)
theorem Uf {C : Array Bool → World → Prop} {Q : Act → Prop} (hC : ∀ l, C l w) (hQ : ∀ a, Q a → N a w) : ∀ (fuel : Nat) (listed : Array Bool) (a : Act), wpAnyS P .any ops w Q fuel listed a → wpC P ops C N fuel listed a w
 | 0, _, _, h => ⟨hC _, h.1, hQ _ h.2⟩
 | fuel + 1, _, _, h => ⟨hC _, fun h0 => hQ _ (h.1 h0), fun i hi => wpOp_of_stOp (fun a' => Uf hC hQ fuel _ a') (h.2 i hi)⟩
theorem Ji {B Y : List Nat} {fuel : Nat} {listed : Array Bool} (is : List Nat) (hs : Region.noSelect ops = true) (hB : Zo ops is listed = true) (hf : is.length = fuel) (h : Re P ops N (Lc ops is) a w) : wpD P ops B Y N fuel listed a w := by
 subst hf
 exact Uf (fun _ _ => Keep.refl Y w) (fun _ h => h) _ _ _ (Xx hs is listed a hB h)
theorem Vr (o : Oper) (h : o.guard = none) (y : Nat → Option Bool) : Region.wanted o y = true := by simp [Region.wanted, h]
theorem Rf {i : Nat} {o : Oper} {is : List Nat} (h : ops[i]? = some o) : Lc ops (i :: is) = o :: Lc ops is := by simp only [Lc, h]
theorem Xy : ∀ (l1 l2 : List Nat), Lc ops (l1 ++ l2) = Lc ops l1 ++ Lc ops l2
 | [], _ => rfl
 | i :: l1, l2 => by
  simp only [List.cons_append, Lc, Xy l1 l2]
  cases ops[i]? <;> rfl
theorem Hm {op : Op} {v : Value} (S : Sx w0 X φ L K n a w) (h : Rn P a w op ty v) (hd : Nat.blt d n = true)
  (k : ∀ a', Sx w0 X φ L ((d, v) :: K) n a' w → Re P ops N rest a' w) :
  Re P ops N ({ dst := some d, op, type := ty, pos, after, guard := none } :: rest) a w := by
 unfold Re wpStill
 rw [if_pos (Vr _ rfl _)]
 unfold Oper.still
 rw [h (some d) pos after none]
 exact ⟨rfl, k _ (S.put (by simpa using hd))⟩
variable {i : Nat} {is : List Nat}
theorem Ei {op : Op} {v : Value} (S : Sx w0 X φ L K n a w) (ho : ops[i]? = some { dst := some d, op, type := ty, pos, after, guard := none }) (h : Rn P a w op ty v) (hd : Nat.blt d n = true)
  (k : ∀ a', Sx w0 X φ L ((d, v) :: K) n a' w → Re P ops N (Lc ops is) a' w) : Re P ops N (Lc ops (i :: is)) a w := by
 rw [Rf ho]; exact Hm S h hd k
theorem Ic (k : N a w) : Re P ops N (Lc ops []) a w := k
theorem Fo {op : Op} {j : Nat} {b want : Bool} {oj : Oper} {tj : Nat} {dst : Option Nat} (S : Sx w0 X φ L K n a w) (ho : ops[i]? = some { dst, op, type := ty, pos, after, guard := some (j, want) }) (hj : ops[j]? = some oj) (ht : oj.dst = some tj) (hv : look K tj = some (.bool b)) (hb : b = want)
  (k : Re P ops N ({ dst, op, type := ty, pos, after, guard := none } :: Lc ops is) a w) : Re P ops N (Lc ops (i :: is)) a w := by
 have hs := S.slots tj _ hv
 have h1 : Region.wanted { dst, op, type := ty, pos, after, guard := some (j, want) } (yielded ops a.tmps) = true := by
  simp [Region.wanted, yielded, hj, ht, hs, hb]
 rw [Rf ho]
 unfold Re wpStill at k ⊢
 rw [if_pos h1]
 rw [if_pos (Vr _ rfl _)] at k
 exact k
theorem Pf {op : Op} {v : Value} {j : Nat} {b want : Bool} {oj : Oper} {tj : Nat} (S : Sx w0 X φ L K n a w) (ho : ops[i]? = some { dst := some d, op, type := ty, pos, after, guard := some (j, want) }) (hj : ops[j]? = some oj) (ht : oj.dst = some tj) (hv : look K tj = some (.bool b)) (hb : (b == want) = false) (hd : Nat.blt d n = true)
  (k : ∀ a', Sx w0 X φ L ((d, v) :: K) n a' w → Re P ops N (Lc ops is) a' w) (hundef : v = undef) : Re P ops N (Lc ops (i :: is)) a w := by
 have hs := S.slots tj _ hv
 have hne : ¬ b = want := by simpa using hb
 rw [Rf ho]
 unfold Re wpStill
 rw [if_neg (by simp [Region.wanted, yielded, hj, ht, hs, hne]), ← hundef]
 exact k _ (S.put (by simpa using hd))
theorem s_skipU {op : Op} {j : Nat} {want : Bool} {oj : Oper} {tj : Nat} (S : Sx w0 X φ L K n a w) (ho : ops[i]? = some { dst := some d, op := op, type := ty, pos, after, guard := some (j, want) }) (hj : ops[j]? = some oj) (ht : oj.dst = some tj) (hv : look K tj = some undef) (hd : Nat.blt d n = true)
  (k : ∀ a', Sx w0 X φ L ((d, undef) :: K) n a' w → Re P ops N (Lc ops is) a' w) : Re P ops N (Lc ops (i :: is)) a w := by
 have hs := S.slots tj _ hv
 rw [Rf ho]
 unfold Re wpStill
 rw [if_neg (by simp [Region.wanted, yielded, hj, ht, hs, undef])]
 exact k _ (S.put (by simpa using hd))
theorem Se {Q : Act → Prop} {J : Act → Prop} : ∀ {l1 l2 : List Oper} {a : Act}, wpStill P ops w J l1 a → (∀ a, J a → wpStill P ops w Q l2 a) → wpStill P ops w Q (l1 ++ l2) a
 | [], _, a, h, k => k a h
 | o :: l1, l2, a, h, k => by
  simp only [List.cons_append]
  unfold wpStill at h ⊢
  split
  ·rename_i hw
   rw [if_pos hw] at h
   exact Oper.still_mono (fun a' h' => Se h' k) h
  ·rename_i hw
   rw [if_neg hw] at h
   exact Se h k
theorem Uu (m : Nat) {is : List Nat} (J : Act → World → Prop) (h : Re P ops J (Lc ops (is.take m)) a w) (k : ∀ a w, J a w → Re P ops N (Lc ops (is.drop m)) a w) : Re P ops N (Lc ops is) a w := by
 have := Se (P := P) (ops := ops) (w := w) (l1 := Lc ops (is.take m)) (l2 := Lc ops (is.drop m)) (Q := fun a' => N a' w) h (fun a h => k a w h)
 rwa [← Xy, List.take_append_drop] at this
end

section
variable {κ ν : Type} [DecidableEq κ]
end
section
variable {P : Program} {ops : Array Oper} {Q : Exit → Act → World → Prop} {rest : List Oper}
variable {w0 : World} {X : List Nat} {φ : View} {L : List LEnt} {K : List (Nat × Value)} {n : Nat} {a : Act} {w : World}
variable {d : Nat} {ty : TypeId} {pos : String} {after : Array Edge}
variable {κ ν : Type} [DecidableEq κ] {kv : κ → Value} {vv : ν → Value}
end
end Go.Proofs.YtocmlionnalaaaaGreatDoor
