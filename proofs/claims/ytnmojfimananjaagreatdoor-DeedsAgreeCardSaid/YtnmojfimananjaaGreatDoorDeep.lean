/- Values that hold slices: their rows in memory are raw (a raw slice in place of each list), and a relation says which plain value a row stands for. No statement of the seat is proved here. -/
import Derived.Test.YtnmojfimananjaaGreatDoorOwn
namespace Go.Proofs.YtnmojfimananjaaGreatDoor
open Go
/-- A raw slice. -/
abbrev RS := { v : Value // v.oneCell' = true }
def RS.enc (r : RS) : List Value := [r.val]
theorem RS.enc_ok : Enc 1 RS.enc := ⟨fun _ => rfl, fun r u h => by simp [RS.enc] at h; subst h; exact r.property⟩
/-- A raw pointer to the head of a block. -/
def RP.enc (b : Nat) : List Value := [.pointer (some ⟨b, 0, none⟩)]
theorem RP.enc_ok : Enc 1 RP.enc := ⟨fun _ => rfl, fun _ u h => by simp [RP.enc] at h; subst h; rfl⟩
/-- Two lists go together, place by place. -/
inductive All2 {α β : Type} (R : α → β → Prop) : List α → List β → Prop
  | nil : All2 R [] []
  | cons {x : α} {y : β} {xs : List α} {ys : List β} : R x y → All2 R xs ys → All2 R (x :: xs) (y :: ys)
section
variable {α β : Type} {R R' : α → β → Prop}
theorem All2.chg (f : ∀ x y, R x y → R' x y) : ∀ {xs : List α} {ys : List β}, All2 R xs ys → All2 R' xs ys
  | _, _, .nil => .nil
  | _, _, .cons h k => .cons (f _ _ h) (All2.chg f k)
theorem All2.len : ∀ {xs : List α} {ys : List β}, All2 R xs ys → xs.length = ys.length
  | _, _, .nil => rfl
  | _, _, .cons _ k => by simp [All2.len k]
theorem All2.at : ∀ {xs : List α} {ys : List β}, All2 R xs ys → ∀ {j : Nat} {x : α}, xs[j]? = some x → ∃ y, ys[j]? = some y ∧ R x y
  | _, _, .nil, _, _, h => by simp at h
  | _, _, .cons (y := y) h _, 0, x, e => by simp at e; subst e; exact ⟨y, rfl, h⟩
  | _, _, .cons _ k, j + 1, x, e => by simpa using All2.at k (by simpa using e)
theorem All2.app : ∀ {xs xs' : List α} {ys ys' : List β}, All2 R xs ys → All2 R xs' ys' → All2 R (xs ++ xs') (ys ++ ys')
  | _, _, _, _, .nil, k => k
  | _, _, _, _, .cons h k, l => .cons h (All2.app k l)
theorem All2.one {x : α} {y : β} (h : R x y) : All2 R [x] [y] := .cons h .nil
theorem All2.tk : ∀ {xs : List α} {ys : List β}, All2 R xs ys → ∀ n, All2 R (xs.take n) (ys.take n)
  | _, _, .nil, n => by simp; exact .nil
  | _, _, .cons _ _, 0 => by simp; exact .nil
  | _, _, .cons h k, n + 1 => by simp; exact .cons h (All2.tk k n)
theorem All2.dp : ∀ {xs : List α} {ys : List β}, All2 R xs ys → ∀ n, All2 R (xs.drop n) (ys.drop n)
  | _, _, .nil, n => by simp; exact .nil
  | _, _, .cons h k, 0 => .cons h k
  | _, _, .cons _ k, n + 1 => by simp; exact All2.dp k n
theorem All2.cut {xs : List α} {ys : List β} (h : All2 R xs ys) (l k : Int) : All2 R (Go.Proofs.YtnmojfimananjaaGreatDoor.cut xs l k) (Go.Proofs.YtnmojfimananjaaGreatDoor.cut ys l k) := (h.tk _).dp _
theorem All2.cutl {xs : List α} {ys : List β} (h : All2 R xs ys) (l : Int) : All2 R (Go.Proofs.YtnmojfimananjaaGreatDoor.cut xs l xs.length) (Go.Proofs.YtnmojfimananjaaGreatDoor.cut ys l ys.length) := by rw [h.len]; exact h.cut _ _
theorem All2.st : ∀ {xs : List α} {ys : List β}, All2 R xs ys → ∀ {x : α} {y : β} (j : Nat), R x y → All2 R (xs.set j x) (ys.set j y)
  | _, _, .nil, _, _, j, _ => by simp; exact .nil
  | _, _, .cons _ k, _, _, 0, e => .cons e k
  | _, _, .cons h k, _, _, j + 1, e => .cons h (All2.st k j e)
end
/-- A slice of rows that stand for these values. -/
def SlcD {α β : Type} (φ : View) (k : Nat) (enc : β → List Value) (rel : View → α → β → Prop) (v : Value) (xs : List α) : Prop := ∃ rs, Slc φ k v (rs.map enc) ∧ All2 (rel φ) xs rs
theorem SlcD.mono {α β : Type} {φ ψ : View} {k : Nat} {enc : β → List Value} {rel : View → α → β → Prop} {v : Value} {xs : List α} (hm : ∀ x r, rel φ x r → rel ψ x r) (l : View.le φ ψ) (h : SlcD φ k enc rel v xs) : SlcD ψ k enc rel v xs := by
  obtain ⟨rs, h1, h2⟩ := h
  exact ⟨rs, h1.mono l, h2.chg hm⟩
/-- A view without the row of a slice. -/
def hide (φ : View) (v : Value) : View := fun b => if v.ownBlock = some b then none else φ b
theorem hide_le (φ : View) (v : Value) : View.le (hide φ v) φ := by
  intro b o h
  unfold hide at h
  split at h
  · cases h
  · exact h
/-- A new slice of rows that stand for these values; what the rows hold lies outside of them. -/
def OwnD {α β : Type} (φ : View) (T k : Nat) (enc : β → List Value) (rel : View → α → β → Prop) (v : Value) (xs : List α) : Prop := ∃ rs : List β, OwnV φ T k v rs.length (rs.flatMap enc) ∧ All2 (rel (hide φ v)) xs rs
section
variable {α β : Type} {enc : β → List Value} {R : α → β → Prop}
theorem slc_lenD {ψ : View} {k : Nat} {v : Value} {xs : List α} {rs : List β} (h : Slc ψ k v (rs.map enc)) (hr : All2 R xs rs) : SlcLen v xs.length := by rw [hr.len]; exact slc_len h
theorem slc_maxD {ψ : View} {k : Nat} {v : Value} {xs : List α} {rs : List β} (h : Slc ψ k v (rs.map enc)) (hr : All2 R xs rs) : xs.length ≤ 9223372036854775807 := by rw [hr.len]; exact slc_max h
theorem all2_get [Inhabited α] {xs : List α} {rs : List β} (hr : All2 R xs rs) {e : Int} (h : inB e xs.length = true) : ∃ r, rs[e.toNat]? = some r ∧ R (nth xs e) r := hr.at (inB_get h).1
theorem lenB {c : Nat → Bool} {xs : List α} {rs : List β} (hr : All2 R xs rs) (h : c xs.length = true) : c rs.length = true := by rw [← hr.len]; exact h
end
section
variable {w0 : World} {X : List Nat} {φ : View} {L : List LEnt} {K : List (Nat × Value)} {n : Nat} {a : Act} {w : World}
theorem own_lenD {α β : Type} {R : α → β → Prop} {T k : Nat} {v : Value} {cs : List Value} {xs : List α} {rs : List β} {b : Nat} (h : w.ownsRow b T k v rs.length cs) (hr : All2 R xs rs) : SlcLen v xs.length := by rw [hr.len]; exact own_len h
theorem newO {wo : World} {T k m : Nat} {v : Value} {cs : List Value} {Y : List Nat} (ho : OwnV (newer wo w) T k v m cs) : ∀ y ∈ v.ownBlock.toList, wo.heap.size ≤ y ∨ y ∈ Y := by
  intro y hy
  left
  rcases ho.2 with ⟨rfl, _⟩ | ⟨g, cap, cur, rfl, h2, _⟩
  · simp [Value.ownBlock] at hy
  · simp [Value.ownBlock] at hy
    subst hy
    unfold newer at h2
    split at h2
    · rename_i h; exact h
    · cases h2
theorem newOA {wo : World} {T k m : Nat} {v : Value} {cs : List Value} {Y : List Nat} (ho : OwnV (newer wo w) T k v m cs) : ∀ y ∈ v.ownBlock.toList ++ Y, wo.heap.size ≤ y ∨ y ∈ Y := fun y hy =>
  (List.mem_append.1 hy).elim (newO ho y) .inr
/-- All that is only read: what the arguments hold and what was made since. -/
theorem join_le {φ ψ χ : View} (h : View.le φ χ) (k : View.le ψ χ) : View.le (join φ ψ) χ := by
  intro b o e
  unfold join at e
  cases hφ : φ b with
  | none => rw [hφ] at e; exact k b o (by simpa using e)
  | some o' => rw [hφ] at e; simp at e; subst e; exact h b o' hφ
theorem emb_join {φ ψ : View} {w : World} (h : Emb φ w) (k : Emb ψ w) : Emb (join φ ψ) w := by
  intro b o e
  unfold join at e
  cases hφ : φ b with
  | none => rw [hφ] at e; exact k b o (by simpa using e)
  | some o' => rw [hφ] at e; simp at e; subst e; exact h b o' hφ
theorem emb_le {φ ψ : View} {w : World} (h : View.le φ ψ) (k : Emb ψ w) : Emb φ w := fun b o e => k b o (h b o e)
theorem all_mono {ψ φ φ' : View} (h : View.le φ φ') : View.le (join ψ φ) (join ψ φ') := by
  intro b o e
  unfold join at e ⊢
  cases hb : ψ b with
  | none => rw [hb] at e; simp at e ⊢; exact h b o e
  | some o' => rw [hb] at e; simpa using e
theorem all_step {ψ φ φ' τ : View} (h : View.le φ φ') (k : View.le τ φ') : View.le (join (join ψ φ) τ) (join ψ φ') := by
  intro b o e
  unfold join at e ⊢
  cases hb : ψ b with
  | none =>
    rw [hb] at e
    simp only [Option.none_or] at e ⊢
    cases hc : φ b with
    | none => rw [hc] at e; exact k b o (by simpa using e)
    | some o' => rw [hc] at e; simp at e; subst e; exact h b o' hc
  | some o' => rw [hb] at e; simpa using e
theorem all_out {ψ φ : View} {w0 w : World} {X : List Nat} (_ : View.le ψ (view w0 X)) (k : View.le φ (newer w0 w)) : View.le (join ψ φ) (join ψ (newer w0 w)) := all_mono k
theorem Sx.all_right {ψ : View} (S : Sx w0 X φ L K n a w) (hψ : View.le ψ (view w0 X)) : View.le φ (join ψ φ) := by
  refine le_join_right fun b o h => ?_
  cases hb : φ b with
  | none => rfl
  | some o' =>
    have h1 := S.fresh b o' hb
    have h2 := hψ b o h
    unfold view at h2
    split at h2
    · cases h2
    · have := heap_lt h2
      omega
theorem Sx.le_hide {i T k m : Nat} {v : Value} {cs : List Value} (S : Sx w0 X φ L K n a w) (hi : L[i]? = some (.own v T k m cs)) : View.le φ (hide (newer w0 w) v) := by
  intro b o h
  unfold hide
  split
  · rename_i hb
    have := (S.sep b (Sx.fp_mem (e := .own v T k m cs) hi hb)).1
    rw [this] at h
    cases h
  · exact S.le_newer b o h
theorem le_join_emb {ψ : View} (h : Emb φ w) (k : Emb ψ w) : View.le ψ (join φ ψ) := by
  intro b o e
  unfold join
  cases hb : φ b with
  | none => simpa using e
  | some o' =>
    have h1 := h b o' hb
    have h2 := k b o e
    rw [h1] at h2
    simpa using h2
theorem Sx.grow {ψ : View} (S : Sx w0 X φ L K n a w) (he : Emb ψ w) (hf : ∀ b o, ψ b = some o → w0.heap.size ≤ b) (hs : ∀ b ∈ fps L, ψ b = none) : Sx w0 X (join φ ψ) L K n a w := by
  refine { S with emb := ?_, fresh := ?_, sep := ?_ }
  · intro b o h
    unfold join at h
    cases hφ : φ b with
    | some o' => rw [hφ] at h; cases h; exact S.emb b _ hφ
    | none => rw [hφ] at h; exact he b o (by simpa using h)
  · intro b o h
    unfold join at h
    cases hφ : φ b with
    | some o' => exact S.fresh b _ hφ
    | none => rw [hφ] at h; exact hf b o (by simpa using h)
  · intro b hb
    have h1 := S.sep b hb
    refine ⟨?_, h1.2⟩
    unfold join
    rw [h1.1, hs b hb]
    rfl
/-- A row that a call hands back is owned; what its elements hold is only read. -/
theorem Sx.takeD {α β : Type} {rel : View → α → β → Prop} (hm : ∀ {φ ψ : View}, View.le φ ψ → ∀ x r, rel φ x r → rel ψ x r) {wo : World} {T k m : Nat} {v : Value} {cs : List Value} {xs : List α} {rs : List β} (S : Sx w0 X φ L K n a w) (hn : New wo φ L) (hs : w0.heap.size ≤ wo.heap.size)
    (ho : OwnV (newer wo w) T k v m cs) (hr : All2 (rel (hide (newer wo w) v)) xs rs) : ∃ φ', View.le φ φ' ∧ All2 (rel φ') xs rs ∧ Sx w0 X φ' (.own v T k m cs :: L) K n a w := by
  have S1 := S.take hn hs ho
  have hN : ∀ b o, hide (newer wo w) v b = some o → wo.heap.size ≤ b := by
    intro b o h
    have := hide_le _ _ b o h
    unfold newer at this
    split at this
    · rename_i h'; exact h'
    · cases this
  have he : Emb (hide (newer wo w) v) w := fun b o h => emb_newer wo w b o (hide_le _ _ b o h)
  have S2 := S1.grow he (fun b o h => Nat.le_trans hs (hN b o h)) (fun b hb => by
    obtain ⟨x, hx, hc⟩ := fps_mem hb
    rcases List.mem_cons.1 hx with rfl | hx
    · unfold hide
      exact if_pos hc
    · cases h : hide (newer wo w) v b with
      | none => rfl
      | some o =>
        have h1 := (hn b (hN b o h)).2
        obtain ⟨i, hi⟩ := List.getElem?_of_mem hx
        exact absurd (Sx.fp_mem hi hc) h1)
  exact ⟨_, le_join_left _ _, hr.chg (hm (le_join_emb S1.emb he)), S2⟩
/-- A pointer that comes back: nil, or to a block that none turns, which stands for this value. -/
def PtrV {α β : Type} (φ : View) (T : Nat) (enc : β → List Value) (rel : View → α → β → Prop) (v : Value) : Option α → Prop
  | none => v = .pointer none
  | some x => ∃ b q, v = .pointer (some ⟨b, 0, none⟩) ∧ rel φ x q ∧ φ b = some (.cells (enc q).toArray T (0, 0))
theorem PtrV.mono {α β : Type} {φ ψ : View} {T : Nat} {enc : β → List Value} {rel : View → α → β → Prop} {v : Value} {x : Option α} (hm : ∀ x r, rel φ x r → rel ψ x r) (l : View.le φ ψ) (h : PtrV φ T enc rel v x) : PtrV ψ T enc rel v x := by
  cases x with
  | none => exact h
  | some x =>
    obtain ⟨b, q, h1, h2, h3⟩ := h
    exact ⟨b, q, h1, hm _ _ h2, l _ _ h3⟩
theorem PtrV.mk {α β : Type} {φ : View} {T b : Nat} {enc : β → List Value} {rel : View → α → β → Prop} {x : α} (q : β) (h : rel φ x q) (k : φ b = some (.cells (enc q).toArray T (0, 0))) : PtrV φ T enc rel (.pointer (some ⟨b, 0, none⟩)) (some x) := ⟨b, q, rfl, h, k⟩
theorem PtrV.deref {α β : Type} {φ : View} {T : Nat} {enc : β → List Value} {rel : View → α → β → Prop} {v : Value} {o : Option α} {x : α} (h : PtrV φ T enc rel v o) (e : o = some x) :
    ∃ b q, v = .pointer (some ⟨b, 0, none⟩) ∧ rel φ x q ∧ φ b = some (.cells (enc q).toArray T (0, 0)) := by subst e; exact h
/-- A block is only read from here on. -/
theorem Sx.freezeB {i b T : Nat} {cs : List Value} (S : Sx w0 X φ L K n a w) (hi : L[i]? = some (.blk b cs T)) (hX : b ∉ X) :
    ∃ φ', View.le φ φ' ∧ φ' b = some (.cells cs.toArray T (0, 0)) ∧ Sx w0 X φ' (L.eraseIdx i) K n a w := by
  have hb := S.blk_at hi
  obtain ⟨s1, s2, s3⟩ := S.sep b (Sx.fp_mem hi rfl)
  obtain ⟨l1, l2, rfl, rfl⟩ := split_at hi
  have he : (l1 ++ LEnt.blk b cs T :: l2).eraseIdx l1.length = l1 ++ l2 := by simp [List.eraseIdx_append_of_length_le]
  have hsub : List.Sublist (l1 ++ l2) (l1 ++ LEnt.blk b cs T :: l2) := by simp
  have hnd := S.nodup
  have hfe : fps (l1 ++ LEnt.blk b cs T :: l2) = fps l1 ++ (b :: fps l2) := by simp [fps, List.filterMap_append, LEnt.fp]
  rw [hfe] at hnd
  have hg : b ∉ fps (l1 ++ l2) := by
    simp only [fps, List.filterMap_append, List.mem_append]
    simp only [List.nodup_append, List.nodup_cons] at hnd
    rintro (h | h)
    · exact hnd.2.2 b h b List.mem_cons_self rfl
    · exact hnd.2.1.1 h
  refine ⟨join φ (fun c => if c = b then w.heap[c]? else none), le_join_left _ _, by simp [join, s1, hb], ?_⟩
  rw [he]
  refine (S.drop hsub).grow (fun c o e => ?_) (fun c o e => ?_) (fun c hc => ?_)
  · split at e
    · exact e
    · cases e
  · split at e
    · rename_i h; subst h
      rcases s2 with h | h
      · exact h
      · exact absurd h hX
    · cases e
  · have : c ≠ b := fun e => hg (e ▸ hc)
    simp [this]
end
end Go.Proofs.YtnmojfimananjaaGreatDoor
