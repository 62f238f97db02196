/- More rules: tests for nil, slices that are made empty. No statement of the seat is proved here. -/
import Derived.Test.YthlanmcejeohmaaGreatDoorMap
namespace Go.Proofs.YthlanmcejeohmaaGreatDoor
open Go
section
variable {P : Program} {ops : Array Oper} {Q : Exit → Act → World → Prop} {rest : List Oper}
variable {w0 : World} {X : List Nat} {φ : View} {L : List LEnt} {K : List (Nat × Value)} {n : Nat} {a : Act} {w : World}
variable {d : Nat} {ty : TypeId} {pos : String} {after : Array Edge}
end
theorem Zq {P : Program} {w : World} {em : Bool} {n t : Nat} {v : Value} (h : P.underlying t = some .string) : (Instr.checkKey em (n + 1) t v).run P w = .ok () w := by
 rw [Instr.checkKey]; simp [Sem.run_bind, run_underlying h]
def CV (P : Program) (em : Bool) (n : Nat) (xs : Array Value) (fs : List Field) : Prop := ∀ f ∈ fs, f.name ≠ "_" → ∃ v, (∀ w, (part f.type xs f.offset).run P w = .ok v w) ∧ ∀ w, (Instr.checkKey em n f.type v).run P w = .ok () w
theorem Xy {P : Program} {w : World} {em : Bool} {n : Nat} {xs : Array Value} : ∀ {fs : List Field}, CV P em n xs fs →
  (do for f in fs do if f.name ≠ "_" then Instr.checkKey em n f.type (← part f.type xs f.offset) : Sem Unit).run P w = .ok () w
 | [], _ => by simp
 | f :: fs, h => by
  have ih := Xy (w := w) (fs := fs) (fun g hg => h g (List.mem_cons_of_mem _ hg))
  by_cases hn : f.name = "_"
  ·simp [List.forIn_cons, hn] at ih ⊢; exact ih
  ·obtain ⟨v, h1, h2⟩ := h f List.mem_cons_self hn
   simp [List.forIn_cons, Sem.run_bind, hn, h1, h2] at ih ⊢; exact ih
theorem chk_agg {P : Program} {w : World} {em : Bool} {n t : Nat} {xs : Array Value} {fs : Array Field} (hS : P.underlying t = some (.struct fs)) (h : CV P em n xs fs.toList) :
  (Instr.checkKey em (n + 1) t (.agg xs)).run P w = .ok () w := by
 rw [Instr.checkKey]
 simp only [Sem.run_bind, run_underlying hS, Result.andThen_ok]
 have := Xy (P := P) (w := w) (em := em) (n := n) (xs := xs) (fs := fs.toList) h
 simp at this ⊢
 rw [this]
 rfl
section
variable {P : Program} {κ ν : Type} [DecidableEq κ]
omit [DecidableEq κ] in
theorem Xz (xs : κ → Array Value) (vv : ν → Value) (fs : Array Field) (x : κ) : ∀ (m : List (κ × ν)) (i : Nat), m ≠ [] → Instr.findNow (.struct fs) (.agg (xs x)) (Fp (fun x => .agg (xs x)) vv m i) i = none
 | [], _, h => (h rfl).elim
 | (k, v) :: m, i, _ => by simp [Fp, Instr.findNow, Instr.sameNow]
theorem Qm {kt : Nat} {kv : κ → Value} {w : World} (he : ∀ x y w, (Op.equal kt (kv x) (kv y)).run P w = .ok (decide (x = y)) w) (vv : ν → Value) (x : κ) : ∀ (m : List (κ × ν)) (i : Nat),
  (Instr.findAsking kt (kv x) (Fp kv vv m i) i).run P w = .ok ((Ip m x i).map fun p => (p.1, vv p.2)) w
 | [], i => by simp [Fp, Instr.findAsking, Ip]
 | (k, v) :: m, i => by
  simp only [Fp, Instr.findAsking, Ip, Sem.run_bind, he, Result.andThen_ok]
  by_cases h : x = k
  ·simp [h]
  ·simp [h, Qm he vv x m (i + 1)]
theorem CW {kt : Nat} {fs : Array Field} {enc : κ → List Value} (D : Nat) (hD : Nat.ble D 10000 = true) (hS : P.underlying kt = some (.struct fs)) (hc : ∀ em x w, (Instr.checkKey em 10000 kt (.agg (enc x).toArray)).run P w = .ok () w)
  (he : ∀ dd x y w, (Op.equalIn (dd + D) kt (.agg (enc x).toArray) (.agg (enc y).toArray)).run P w = .ok (decide (x = y)) w) (hs : ∀ x, Instr.sameBits 10000 (.agg (enc x).toArray) (.agg (enc x).toArray) = true) :
  BG P kt (fun x => .agg (enc x).toArray) where
 chk := hc
 find vv x m w := by
  have hD' : 10000 - D + D = 10000 := Nat.sub_add_cancel (by simpa using hD)
  unfold Instr.findKey
  simp only [Sem.run_bind, run_underlying hS, Result.andThen_ok]
  cases m with
  | nil => simp [Fp, Instr.findNow, Ip]
  | cons p m =>
   rw [Xz (fun x => (enc x).toArray) vv fs x (p :: m) 0 (by simp)]
   exact Qm (kv := fun x => .agg (enc x).toArray) (fun x y w => by have := he (10000 - D) x y w; rw [hD'] at this; exact this) vv x (p :: m) 0
 same := hs
end

theorem BI (s : ByteArray) : (s == s) = true := by rw [beq_toListBytes, Od]; simp
def Kv (ops : Array Oper) : List Nat → List Oper
 | [] => []
 | i :: is => match ops[i]? with
  | some o => o :: Kv ops is
  | none => Kv ops is
def Ya (ops : Array Oper) : List Nat → Array Bool → Bool
 | [], listed => (Region.ready .any ops listed).isEmpty
 | i :: is, listed => (Region.ready .any ops listed).contains i && Region.free .any ops listed i && (ops[i]?).isSome && Ya ops is (listed.setIfInBounds i true)
def Ri (P : Program) (ops : Array Oper) (N : Act → World → Prop) (l : List Oper) (a : Act) (w : World) : Prop := wpStill P ops w (fun a' => N a' w) l a
section
variable {P : Program} {ops : Array Oper} {N : Act → World → Prop} {rest : List Oper}
variable {w0 : World} {X : List Nat} {φ : View} {L : List LEnt} {K : List (Nat × Value)} {n : Nat} {a : Act} {w : World}
variable {d : Nat} {ty : TypeId} {pos : String} {after : Array Edge}
theorem Wc {Q : Act → Prop} (hs : Region.noSelect ops = true) : ∀ (is : List Nat) (listed : Array Bool) (a : Act),
  Ya ops is listed = true → wpStill P ops w Q (Kv ops is) a → wpAnyS P .any ops w Q is.length listed a
 | [], _, _, hB, h => ⟨by simpa [Ya] using hB, h⟩
 | i :: is, listed, a, hB, h => by
  simp only [Ya, Bool.and_eq_true] at hB
  obtain ⟨⟨⟨hr, hf⟩, ho⟩, hB'⟩ := hB
  cases h0 : ops[i]? with
  | none => rw [h0] at ho; cases ho
  | some o =>
   have h' : wpStill P ops w Q (o :: Kv ops is) a := by simpa [Kv, h0] using h
   have hst : stOp P ops w i (wpStill P ops w Q (Kv ops is)) a := by unfold stOp; simp only [h0]; exact h'
   obtain ⟨v, hy, hK⟩ := yieldsAt_of_stOp h0 hst
   exact wpAnyS_first h0 (Region.noSelect_spec hs) is.length listed a (Region.free_spec h0 hf) (by simpa using hr) hy (Wc hs is _ _ hB' hK)
theorem Sl {C : Array Bool → World → Prop} {Q : Act → Prop} (hC : ∀ l, C l w) (hQ : ∀ a, Q a → N a w) : ∀ (fuel : Nat) (listed : Array Bool) (a : Act), wpAnyS P .any ops w Q fuel listed a → wpC P ops C N fuel listed a w
 | 0, _, _, h => ⟨hC _, h.1, hQ _ h.2⟩
 | fuel + 1, _, _, h => ⟨hC _, fun h0 => hQ _ (h.1 h0), fun i hi => wpOp_of_stOp (fun a' => Sl hC hQ fuel _ a') (h.2 i hi)⟩
theorem Nb {B Y : List Nat} {fuel : Nat} {listed : Array Bool} (is : List Nat) (hs : Region.noSelect ops = true) (hB : Ya ops is listed = true) (hf : is.length = fuel) (h : Ri P ops N (Kv ops is) a w) : wpD P ops B Y N fuel listed a w := by
 subst hf
 exact Sl (fun _ _ => Keep.refl Y w) (fun _ h => h) _ _ _ (Wc hs is listed a hB h)
theorem Tu (o : Oper) (h : o.guard = none) (y : Nat → Option Bool) : Region.wanted o y = true := by simp [Region.wanted, h]
theorem Rw {i : Nat} {o : Oper} {is : List Nat} (h : ops[i]? = some o) : Kv ops (i :: is) = o :: Kv ops is := by simp only [Kv, h]
theorem Wd : ∀ (l1 l2 : List Nat), Kv ops (l1 ++ l2) = Kv ops l1 ++ Kv ops l2
 | [], _ => rfl
 | i :: l1, l2 => by
  simp only [List.cons_append, Kv, Wd l1 l2]
  cases ops[i]? <;> rfl
theorem Qd {op : Op} {v : Value} (S : Sx w0 X φ L K n a w) (h : Rn P a w op ty v) (hd : Nat.blt d n = true)
  (k : ∀ a', Sx w0 X φ L ((d, v) :: K) n a' w → Ri P ops N rest a' w) :
  Ri P ops N ({ dst := some d, op, type := ty, pos, after, guard := none } :: rest) a w := by
 unfold Ri wpStill
 rw [if_pos (Tu _ rfl _)]
 unfold Oper.still
 rw [h (some d) pos after none]
 exact ⟨rfl, k _ (S.put (by simpa using hd))⟩
variable {i : Nat} {is : List Nat}
theorem Gs {op : Op} {v : Value} (S : Sx w0 X φ L K n a w) (ho : ops[i]? = some { dst := some d, op, type := ty, pos, after, guard := none }) (h : Rn P a w op ty v) (hd : Nat.blt d n = true)
  (k : ∀ a', Sx w0 X φ L ((d, v) :: K) n a' w → Ri P ops N (Kv ops is) a' w) : Ri P ops N (Kv ops (i :: is)) a w := by
 rw [Rw ho]; exact Qd S h hd k
theorem Mi (k : N a w) : Ri P ops N (Kv ops []) a w := k
theorem Og {op : Op} {j : Nat} {b want : Bool} {oj : Oper} {tj : Nat} {dst : Option Nat} (S : Sx w0 X φ L K n a w) (ho : ops[i]? = some { dst, op, type := ty, pos, after, guard := some (j, want) }) (hj : ops[j]? = some oj) (ht : oj.dst = some tj) (hv : look K tj = some (.bool b)) (hb : b = want)
  (k : Ri P ops N ({ dst, op, type := ty, pos, after, guard := none } :: Kv ops is) a w) : Ri P ops N (Kv ops (i :: is)) a w := by
 have hs := S.slots tj _ hv
 have h1 : Region.wanted { dst, op, type := ty, pos, after, guard := some (j, want) } (yielded ops a.tmps) = true := by
  simp [Region.wanted, yielded, hj, ht, hs, hb]
 rw [Rw ho]
 unfold Ri wpStill at k ⊢
 rw [if_pos h1]
 rw [if_pos (Tu _ rfl _)] at k
 exact k
theorem Xg {op : Op} {v : Value} {j : Nat} {b want : Bool} {oj : Oper} {tj : Nat} (S : Sx w0 X φ L K n a w) (ho : ops[i]? = some { dst := some d, op, type := ty, pos, after, guard := some (j, want) }) (hj : ops[j]? = some oj) (ht : oj.dst = some tj) (hv : look K tj = some (.bool b)) (hb : (b == want) = false) (hd : Nat.blt d n = true)
  (k : ∀ a', Sx w0 X φ L ((d, v) :: K) n a' w → Ri P ops N (Kv ops is) a' w) (hundef : v = undef) : Ri P ops N (Kv ops (i :: is)) a w := by
 have hs := S.slots tj _ hv
 have hne : ¬ b = want := by simpa using hb
 rw [Rw ho]
 unfold Ri wpStill
 rw [if_neg (by simp [Region.wanted, yielded, hj, ht, hs, hne]), ← hundef]
 exact k _ (S.put (by simpa using hd))
theorem Qn {Q : Act → Prop} {J : Act → Prop} : ∀ {l1 l2 : List Oper} {a : Act}, wpStill P ops w J l1 a → (∀ a, J a → wpStill P ops w Q l2 a) → wpStill P ops w Q (l1 ++ l2) a
 | [], _, a, h, k => k a h
 | o :: l1, l2, a, h, k => by
  simp only [List.cons_append]
  unfold wpStill at h ⊢
  split
  ·rename_i hw
   rw [if_pos hw] at h
   exact Oper.still_mono (fun a' h' => Qn h' k) h
  ·rename_i hw
   rw [if_neg hw] at h
   exact Qn h k
theorem s_cutm (m : Nat) {is : List Nat} (J : Act → World → Prop) (h : Ri P ops J (Kv ops (is.take m)) a w) (k : ∀ a w, J a w → Ri P ops N (Kv ops (is.drop m)) a w) : Ri P ops N (Kv ops is) a w := by
 have := Qn (P := P) (ops := ops) (w := w) (l1 := Kv ops (is.take m)) (l2 := Kv ops (is.drop m)) (Q := fun a' => N a' w) h (fun a h => k a w h)
 rwa [← Wd, List.take_append_drop] at this
end

section
variable {κ ν : Type} [DecidableEq κ]
end
section
variable {P : Program} {ops : Array Oper} {Q : Exit → Act → World → Prop} {rest : List Oper}
variable {w0 : World} {X : List Nat} {φ : View} {L : List LEnt} {K : List (Nat × Value)} {n : Nat} {a : Act} {w : World}
variable {d : Nat} {ty : TypeId} {pos : String} {after : Array Edge}
variable {κ ν : Type} [DecidableEq κ] {kv : κ → Value} {vv : ν → Value}
end
end Go.Proofs.YthlanmcejeohmaaGreatDoor
