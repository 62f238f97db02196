/- More rules: tests for nil, slices that are made empty. No statement of the seat is proved here. -/
import Derived.Test.YtkpjakcepffimaaGreatDoorMap
namespace Go.Proofs.YtkpjakcepffimaaGreatDoor
open Go
section
variable {P : Program} {ops : Array Oper} {Q : Exit → Act → World → Prop} {rest : List Oper}
variable {w0 : World} {X : List Nat} {φ : View} {L : List LEnt} {K : List (Nat × Value)} {n : Nat} {a : Act} {w : World}
variable {d : Nat} {ty : TypeId} {pos : String} {after : Array Edge}
end
section
variable {P : Program} {κ ν : Type} [DecidableEq κ]
end

def pickL (ops : Array Oper) : List Nat → List Oper
  | [] => []
  | i :: is => match ops[i]? with
    | some o => o :: pickL ops is
    | none => pickL ops is
def lexIs (ops : Array Oper) : List Nat → Array Bool → Bool
  | [], listed => (Region.ready .any ops listed).isEmpty
  | i :: is, listed => (Region.ready .any ops listed).contains i && Region.free .any ops listed i && (ops[i]?).isSome && lexIs ops is (listed.setIfInBounds i true)
def wpSt (P : Program) (ops : Array Oper) (N : Act → World → Prop) (l : List Oper) (a : Act) (w : World) : Prop := wpStill P ops w (fun a' => N a' w) l a
section
variable {P : Program} {ops : Array Oper} {N : Act → World → Prop} {rest : List Oper}
variable {w0 : World} {X : List Nat} {φ : View} {L : List LEnt} {K : List (Nat × Value)} {n : Nat} {a : Act} {w : World}
variable {d : Nat} {ty : TypeId} {pos : String} {after : Array Edge}
theorem wpAnyS_is {Q : Act → Prop} (hs : Region.noSelect ops = true) : ∀ (is : List Nat) (listed : Array Bool) (a : Act),
    lexIs ops is listed = true → wpStill P ops w Q (pickL ops is) a → wpAnyS P .any ops w Q is.length listed a
  | [], _, _, hB, h => ⟨by simpa [lexIs] using hB, h⟩
  | i :: is, listed, a, hB, h => by
    simp only [lexIs, Bool.and_eq_true] at hB
    obtain ⟨⟨⟨hr, hf⟩, ho⟩, hB'⟩ := hB
    cases h0 : ops[i]? with
    | none => rw [h0] at ho; cases ho
    | some o =>
      have h' : wpStill P ops w Q (o :: pickL ops is) a := by simpa [pickL, h0] using h
      have hst : stOp P ops w i (wpStill P ops w Q (pickL ops is)) a := by unfold stOp; simp only [h0]; exact h'
      obtain ⟨v, hy, hK⟩ := yieldsAt_of_stOp h0 hst
      exact wpAnyS_first h0 (Region.noSelect_spec hs) is.length listed a (Region.free_spec h0 hf) (by simpa using hr) hy (wpAnyS_is hs is _ _ hB' hK)
theorem wpC_of_still {C : Array Bool → World → Prop} {Q : Act → Prop} (hC : ∀ l, C l w) (hQ : ∀ a, Q a → N a w) : ∀ (fuel : Nat) (listed : Array Bool) (a : Act), wpAnyS P .any ops w Q fuel listed a → wpC P ops C N fuel listed a w
  | 0, _, _, h => ⟨hC _, h.1, hQ _ h.2⟩
  | fuel + 1, _, _, h => ⟨hC _, fun h0 => hQ _ (h.1 h0), fun i hi => wpOp_of_stOp (fun a' => wpC_of_still hC hQ fuel _ a') (h.2 i hi)⟩
theorem d_rest {B Y : List Nat} {fuel : Nat} {listed : Array Bool} (is : List Nat) (hs : Region.noSelect ops = true) (hB : lexIs ops is listed = true) (hf : is.length = fuel) (h : wpSt P ops N (pickL ops is) a w) : wpD P ops B Y N fuel listed a w := by
  subst hf
  exact wpC_of_still (fun _ _ => Keep.refl Y w) (fun _ h => h) _ _ _ (wpAnyS_is hs is listed a hB h)
theorem wanted_free (o : Oper) (h : o.guard = none) (y : Nat → Option Bool) : Region.wanted o y = true := by simp [Region.wanted, h]
theorem pickL_cons {i : Nat} {o : Oper} {is : List Nat} (h : ops[i]? = some o) : pickL ops (i :: is) = o :: pickL ops is := by simp only [pickL, h]
theorem pickL_app : ∀ (l1 l2 : List Nat), pickL ops (l1 ++ l2) = pickL ops l1 ++ pickL ops l2
  | [], _ => rfl
  | i :: l1, l2 => by
    simp only [List.cons_append, pickL, pickL_app l1 l2]
    cases ops[i]? <;> rfl
theorem s_lv0 {op : Op} {v : Value} (S : Sx w0 X φ L K n a w) (h : Rn P a w op ty v) (hd : Nat.blt d n = true)
    (k : ∀ a', Sx w0 X φ L ((d, v) :: K) n a' w → wpSt P ops N rest a' w) :
    wpSt P ops N ({ dst := some d, op, type := ty, pos, after, guard := none } :: rest) a w := by
  unfold wpSt wpStill
  rw [if_pos (wanted_free _ rfl _)]
  unfold Oper.still
  rw [h (some d) pos after none]
  exact ⟨rfl, k _ (S.put (by simpa using hd))⟩
variable {i : Nat} {is : List Nat}
theorem s_lv {op : Op} {v : Value} (S : Sx w0 X φ L K n a w) (ho : ops[i]? = some { dst := some d, op, type := ty, pos, after, guard := none }) (h : Rn P a w op ty v) (hd : Nat.blt d n = true)
    (k : ∀ a', Sx w0 X φ L ((d, v) :: K) n a' w → wpSt P ops N (pickL ops is) a' w) : wpSt P ops N (pickL ops (i :: is)) a w := by
  rw [pickL_cons ho]; exact s_lv0 S h hd k
theorem s_done (k : N a w) : wpSt P ops N (pickL ops []) a w := k
theorem s_want {op : Op} {j : Nat} {b want : Bool} {oj : Oper} {tj : Nat} {dst : Option Nat} (S : Sx w0 X φ L K n a w) (ho : ops[i]? = some { dst, op, type := ty, pos, after, guard := some (j, want) }) (hj : ops[j]? = some oj) (ht : oj.dst = some tj) (hv : look K tj = some (.bool b)) (hb : b = want)
    (k : wpSt P ops N ({ dst, op, type := ty, pos, after, guard := none } :: pickL ops is) a w) : wpSt P ops N (pickL ops (i :: is)) a w := by
  have hs := S.slots tj _ hv
  have h1 : Region.wanted { dst, op, type := ty, pos, after, guard := some (j, want) } (yielded ops a.tmps) = true := by
    simp [Region.wanted, yielded, hj, ht, hs, hb]
  rw [pickL_cons ho]
  unfold wpSt wpStill at k ⊢
  rw [if_pos h1]
  rw [if_pos (wanted_free _ rfl _)] at k
  exact k
theorem s_skip {op : Op} {v : Value} {j : Nat} {b want : Bool} {oj : Oper} {tj : Nat} (S : Sx w0 X φ L K n a w) (ho : ops[i]? = some { dst := some d, op, type := ty, pos, after, guard := some (j, want) }) (hj : ops[j]? = some oj) (ht : oj.dst = some tj) (hv : look K tj = some (.bool b)) (hb : (b == want) = false) (hd : Nat.blt d n = true)
    (k : ∀ a', Sx w0 X φ L ((d, v) :: K) n a' w → wpSt P ops N (pickL ops is) a' w) (hundef : v = undef) : wpSt P ops N (pickL ops (i :: is)) a w := by
  have hs := S.slots tj _ hv
  have hne : ¬ b = want := by simpa using hb
  rw [pickL_cons ho]
  unfold wpSt wpStill
  rw [if_neg (by simp [Region.wanted, yielded, hj, ht, hs, hne]), ← hundef]
  exact k _ (S.put (by simpa using hd))
theorem wpStill_app {Q : Act → Prop} {J : Act → Prop} : ∀ {l1 l2 : List Oper} {a : Act}, wpStill P ops w J l1 a → (∀ a, J a → wpStill P ops w Q l2 a) → wpStill P ops w Q (l1 ++ l2) a
  | [], _, a, h, k => k a h
  | o :: l1, l2, a, h, k => by
    simp only [List.cons_append]
    unfold wpStill at h ⊢
    split
    · rename_i hw
      rw [if_pos hw] at h
      exact Oper.still_mono (fun a' h' => wpStill_app h' k) h
    · rename_i hw
      rw [if_neg hw] at h
      exact wpStill_app h k
theorem s_cutm (m : Nat) {is : List Nat} (J : Act → World → Prop) (h : wpSt P ops J (pickL ops (is.take m)) a w) (k : ∀ a w, J a w → wpSt P ops N (pickL ops (is.drop m)) a w) : wpSt P ops N (pickL ops is) a w := by
  have := wpStill_app (P := P) (ops := ops) (w := w) (l1 := pickL ops (is.take m)) (l2 := pickL ops (is.drop m)) (Q := fun a' => N a' w) h (fun a h => k a w h)
  rwa [← pickL_app, List.take_append_drop] at this
end

section
variable {κ ν : Type} [DecidableEq κ]
end
section
variable {P : Program} {ops : Array Oper} {Q : Exit → Act → World → Prop} {rest : List Oper}
variable {w0 : World} {X : List Nat} {φ : View} {L : List LEnt} {K : List (Nat × Value)} {n : Nat} {a : Act} {w : World}
variable {d : Nat} {ty : TypeId} {pos : String} {after : Array Edge}
variable {κ ν : Type} [DecidableEq κ] {kv : κ → Value} {vv : ν → Value}
end
end Go.Proofs.YtkpjakcepffimaaGreatDoor
