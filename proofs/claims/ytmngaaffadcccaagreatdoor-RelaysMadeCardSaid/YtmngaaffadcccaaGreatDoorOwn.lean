/- More rules for slices that are owned: parts of them, clearing, parameters that a callee turns. No statement of the seat is proved here. -/
import Derived.Test.YtmngaaffadcccaaGreatDoorLib
namespace Go.Proofs.YtmngaaffadcccaaGreatDoor
open Go
section
variable {P : Program} {ops : Array Oper} {Q : Exit → Act → World → Prop} {rest : List Oper}
variable {w0 : World} {X : List Nat} {φ : View} {L : List LEnt} {K : List (Nat × Value)} {n : Nat} {a : Act} {w : World}
variable {d : Nat} {ty : TypeId} {pos : String} {after : Array Edge}

theorem all1 {v : Value} {l : List Value} (h : v.oneCell' = true) (k : l.all (·.oneCell') = true) : (v :: l).all (·.oneCell') = true := by simp only [List.all_cons, h, k, Bool.and_self]
/-- u is the part from l to h of v, a slice of cells of k. -/
def SubV (k : Nat) (v : Value) (l h : Nat) (u : Value) : Prop :=
  ∃ ao m cap, v = .slice ao m cap ∧ u = .slice (if cap = l then ao else ao.map (·.add (l * k))) (h - l) (cap - l) ∧ l ≤ h ∧ h ≤ m ∧ m ≤ cap
theorem SubV.len {k l h : Nat} {v u : Value} (hu : SubV k v l h u) : SlcLen u (h - l) := by
  obtain ⟨ao, m, cap, _, rfl, _⟩ := hu
  exact ⟨_, _, rfl⟩
theorem subLen {k : Nat} {v u : Value} {lo hi : Int} (hu : SubV k v lo.toNat hi.toNat u) : SlcLen u (hi.toNat - lo.toNat) := hu.len
theorem own_cap {b T k m : Nat} {v : Value} {cs : List Value} (h : w.ownsRow b T k v m cs) : ∃ ao cap, v = .slice ao m cap ∧ m ≤ cap := by
  rcases h.2 with ⟨rfl, rfl⟩ | ⟨g, cap, cur, rfl, _, _, h3, _⟩
  · exact ⟨none, 0, rfl, Nat.le_refl _⟩
  · exact ⟨_, cap, rfl, h3⟩
section subs
variable {T el TE : TypeId} {x y y' : Operand} {v : Value} {i k m by_ : Nat} {zl zh : Int} {k1 k2 : IntKind} {cs : List Value}
variable (h : SlT P T el k by_) (S : Sx w0 X φ L K n a w) (hi : L[i]? = some (.own v TE k m cs)) (hx : a.eval x = v)
include h S hi hx
theorem rn_subh (hy' : a.eval y' = .int k2 zh) (hc : cutB 0 zh m = true) :
    ∃ u, SubV k v (0 : Int).toNat zh.toNat u ∧ ∀ w, Rn P a w (.slice T x none (some y') none) ty u := by
  obtain ⟨ao, cap, rfl, h3⟩ := own_cap (S.own_at hi)
  obtain ⟨c1, c2, c3⟩ := cutB_iff.1 hc
  obtain ⟨hh, rfl⟩ := Int.eq_ofNat_of_zero_le (Int.le_trans c1 c2)
  refine ⟨_, ⟨ao, m, cap, rfl, rfl, by simp, by omega, h3⟩, ?_⟩
  intro w dd p e g
  have h6 : hh ≤ cap := by omega
  simp [execOp, hx, hy', Instr.sliceAt, run_underlying h.under, Instr.slice, Instr.sliceBounds, Instr.sliceBound, asIntOf, h6, h.size]
end subs
section typed
variable {α : Type} {enc : α → List Value} {k : Nat}
theorem take_flat {xs : List α} {j : Nat} (hE : Enc k enc) (h : j ≤ xs.length) : (xs.take j).flatMap enc = (xs.flatMap enc).take (j * k) := by
  have hA : ((xs.take j).flatMap enc).length = j * k := by rw [hE.flat, List.length_take, Nat.min_eq_left h]
  have hB : xs.flatMap enc = (xs.take j).flatMap enc ++ (xs.drop j).flatMap enc := by rw [← List.flatMap_append, List.take_append_drop]
  have hC := congrArg (List.take (j * k)) hB
  rw [hC, ← hA]
  exact List.take_left.symm
/-- The head of what is owned, owned alone. -/
theorem Sx.ownCut {i T : Nat} {v u : Value} {xs : List α} {zh : Int} (hE : Enc k enc) (S : Sx w0 X φ L K n a w) (hi : L[i]? = some (.own v T k xs.length (xs.flatMap enc))) (hu : SubV k v (0 : Int).toNat zh.toNat u) :
    Sx w0 X φ (L.set i (.own u T k (cut xs 0 zh).length ((cut xs 0 zh).flatMap enc))) K n a w ∧ ∀ c, u.ownBlock = some c → v.ownBlock = some c := by
  obtain ⟨ao, m, cap, rfl, rfl, _, h2, h3⟩ := hu
  have hw := S.own_at hi
  have hm : m = xs.length := by
    obtain ⟨ao', cap', he, _⟩ := own_cap hw
    cases he; rfl
  subst hm
  have hl : (cut xs 0 zh).length = zh.toNat := by simp [cut]; omega
  have hz : (0 : Int).toNat = 0 := rfl
  have hao : (if cap = 0 then ao else ao.map (·.add (0 * k))) = ao := by
    split
    · rfl
    · cases ao with
      | none => rfl
      | some ad => cases ad; rename_i b o sp; cases sp <;> simp [Addr.add]
  rw [hz, hao]
  refine ⟨S.change hi (Keep.refl [] w) (fun _ h => by cases h) ⟨hE.flat _, ?_⟩ (fun c hc => .inl ?_), ?_⟩
  · rcases hw.2 with ⟨he, h0⟩ | ⟨g, cap', cur, he, h4, h5, h6, h7, h8, h9⟩
    · injection he with e1 e2 e3
      subst e1 e3
      left
      rw [hl]
      have h0' : zh.toNat = 0 := by omega
      exact ⟨by rw [h0'], h0'⟩
    · cases he
      right
      refine ⟨g, cap, cur, by rw [hl]; rfl, h4, h5, by rw [hl]; omega, h7, h8, ?_⟩
      rw [hl]
      have hc : cut xs 0 zh = xs.take zh.toNat := by simp [cut]
      have h10 := take_flat hE h2
      rw [hc, h10, ← h9, List.take_take]
      congr 1
      exact (Nat.min_eq_left (Nat.mul_le_mul_right _ h2)).symm
  · cases ao with
    | none => exact hc
    | some ad => exact hc
  · intro c hc
    cases ao with
    | none => exact hc
    | some ad => exact hc

/-! ### A parameter that is a slice and is turned -/
end typed
end
/-! ### A call that turns several things at once: a block and the slices that it holds -/
/-- What a call leaves of the things that it may turn: they hold, apart from one another, in the blocks X or in new ones. -/
def Grp (w w' : World) (X : List Nat) (Ls : List LEnt) : Prop := (∀ e ∈ Ls, e.holds w') ∧ (fps Ls).Nodup ∧ ∀ b ∈ fps Ls, b ∈ X ∨ w.heap.size ≤ b
theorem fps_cons (e : LEnt) (L : List LEnt) : fps (e :: L) = e.fp.toList ++ fps L := by
  cases h : e.fp <;> simp [fps, h]
theorem fps_nil : fps [] = [] := rfl
theorem fps_app (L L' : List LEnt) : fps (L ++ L') = fps L ++ fps L' := by simp [fps]
theorem pick_all (L : List LEnt) : (List.range L.length).filterMap (L[·]?) = L := by
  induction L with
  | nil => rfl
  | cons e L ih =>
    rw [List.length_cons, List.range_succ_eq_map, List.filterMap_cons]
    simp only [List.getElem?_cons_zero, List.filterMap_map]
    congr 1
section
variable {P : Program} {ops : Array Oper} {Q : Exit → Act → World → Prop} {rest : List Oper}
variable {w0 : World} {X : List Nat} {φ : View} {L : List LEnt} {K : List (Nat × Value)} {n : Nat} {a : Act} {w : World}
variable {d : Nat} {ty : TypeId} {pos : String} {after : Array Edge}
theorem Sx.permL {L' : List LEnt} (S : Sx w0 X φ L K n a w) (hp : L'.Perm L) : Sx w0 X φ L' K n a w :=
  { S with
    holds := fun e he => S.holds e (hp.subset he)
    nodup := (hp.filterMap LEnt.fp).nodup_iff.2 S.nodup
    sep := fun b hb => S.sep b ((hp.filterMap LEnt.fp).subset hb) }
/-- The things that are owned, in another order. -/
theorem Sx.pk {Ls Lr : List LEnt} (S : Sx w0 X φ L K n a w) (is js : List Nat) (hp : (is ++ js).isPerm (List.range L.length) = true) (hA : is.filterMap (L[·]?) = Ls) (hB : js.filterMap (L[·]?) = Lr) : Sx w0 X φ (Ls ++ Lr) K n a w := by
  refine S.permL ?_
  have h := (List.isPerm_iff.1 hp).filterMap (L[·]?)
  rw [pick_all, List.filterMap_append, hA, hB] at h
  exact h
theorem Sx.pn {L' : List LEnt} {K' : List (Nat × Value)} (S : Sx w0 X φ L K n a w) (is js : List Nat) (hp : (is ++ js).isPerm (List.range L.length) = true) (hA : is.filterMap (L[·]?) = L') (hK : subK K K') : Sx w0 X φ L' K' n a w :=
  ((S.pk is js hp hA rfl).drop (List.sublist_append_left _ _)).sub hK
theorem Sx.grp {Ls Lr : List LEnt} (S : Sx w0 X φ L K n a w) (is js : List Nat) (hp : (is ++ js).isPerm (List.range L.length) = true) (hA : is.filterMap (L[·]?) = Ls) (hB : js.filterMap (L[·]?) = Lr) : Grp w0 w X Ls := by
  have S' := (S.pk is js hp hA hB).drop (List.sublist_append_left _ _)
  exact ⟨S'.holds, S'.nodup, fun b hb => (S'.sep b hb).2.1.symm⟩
theorem Sx.ndg {Ls Lr : List LEnt} {Y : List Nat} (S : Sx w0 X φ L K n a w) (is js : List Nat) (hp : (is ++ js).isPerm (List.range L.length) = true) (hA : is.filterMap (L[·]?) = Ls) (hB : js.filterMap (L[·]?) = Lr) (hY : Y = fps Ls) : Y.Nodup := by
  have S' := (S.pk is js hp hA hB).drop (List.sublist_append_left _ _)
  rw [hY]
  exact S'.nodup
/-- The world goes on, several entries of L turn. -/
theorem Sx.regrp {Ls Lr Ls' : List LEnt} {w' : World} (S : Sx w0 X φ (Ls ++ Lr) K n a w) (k : Keep (fps Ls) w w') (h : Grp w w' (fps Ls) Ls') : Sx w0 X φ (Ls' ++ Lr) K n a w' := by
  have hnd := S.nodup
  rw [fps_app, List.nodup_append] at hnd
  have hl : ∀ y ∈ fps Ls, y ∈ fps (Ls ++ Lr) := fun y hy => by rw [fps_app]; exact List.mem_append_left _ hy
  have hr : ∀ y ∈ fps Lr, y ∈ fps (Ls ++ Lr) := fun y hy => by rw [fps_app]; exact List.mem_append_right _ hy
  obtain ⟨g1, g2, g3⟩ := h
  refine ⟨S.keep.step k fun y hy => (S.sep y (hl y hy)).2.1, S.emb.keep k fun y hy => (S.sep y (hl y hy)).1, S.fresh, ?_, ?_, ?_, S.nodefer, S.size, S.slots⟩
  · intro e he
    rcases List.mem_append.1 he with he | he
    · exact g1 e he
    · exact (S.holds e (List.mem_append_right _ he)).keep k fun b hb hc => hnd.2.2 b hc b (List.mem_filterMap.2 ⟨e, he, hb⟩) rfl
  · rw [fps_app, List.nodup_append]
    refine ⟨g2, hnd.2.1, fun x hx y hy hxy => ?_⟩
    subst hxy
    rcases g3 x hx with h | h
    · exact hnd.2.2 x h x hy rfl
    · have := (S.sep x (hr x hy)).2.2
      omega
  · intro b hb
    rw [fps_app] at hb
    rcases List.mem_append.1 hb with hb | hb
    · obtain ⟨e, he, hc⟩ := fps_mem hb
      have hlt := (g1 e he).lt hc
      rcases g3 b hb with h | h
      · have := S.sep b (hl b h)
        exact ⟨this.1, this.2.1, hlt⟩
      · refine ⟨?_, .inl (Nat.le_trans S.keep.size h), hlt⟩
        cases hφ : φ b with
        | none => rfl
        | some o => have := heap_lt (S.emb b o hφ); omega
    · have := S.sep b (hr b hb)
      exact ⟨this.1, this.2.1, Nat.lt_of_lt_of_le this.2.2 k.size⟩
theorem l_enterG {op : Op} {f : FuncId} {vs : Array Value} {Φ : View → Value → World → Prop} {Ls Lr : List LEnt} {Y : List Nat} (is js : List Nat) (S : Sx w0 X φ L K n a w)
    (hp : (is ++ js).isPerm (List.range L.length) = true) (hA : is.filterMap (L[·]?) = Ls) (hB : js.filterMap (L[·]?) = Lr) (hY : Y = fps Ls)
    (hr : ∀ dst, (execOp a.eval { dst, op, type := ty, pos, after, guard := none }).run P w = .ok (.enter f vs) w) (hc : Calls P f vs w (Ret w Y Φ)) (hd : Nat.blt d n = true)
    (k : ∀ v a' w', Φ (newer w w') v w' → Keep Y w w' → New w φ L → (∀ Ls', Grp w w' Y Ls' → Sx w0 X φ (Ls' ++ Lr) ((d, v) :: K) n a' w') → wpList P ops Q rest a' w') :
    wpList P ops Q ({ dst := some d, op, type := ty, pos, after, guard := none } :: rest) a w := by
  refine wpList_plain rfl fun K' hK => ?_
  unfold Oper.wp
  rw [hr, Oper.upon_enter]
  refine hc.mono ?_
  rintro e w' ⟨v, rfl, hk, hΦ⟩
  refine hK _ _ (k v _ w' hΦ hk S.new fun Ls' hg => ?_)
  subst hY
  exact ((S.pk is js hp hA hB).regrp hk hg).put (by simpa using hd)
end
end Go.Proofs.YtmngaaffadcccaaGreatDoor
