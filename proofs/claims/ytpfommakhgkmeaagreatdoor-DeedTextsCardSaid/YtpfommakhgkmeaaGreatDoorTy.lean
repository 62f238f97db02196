/- What is asked of the program's tables, in bundles, and the rules stated by them. No statement of the seat is proved here. -/
import Derived.Test.YtpfommakhgkmeaaGreatDoorSlice
import Derived.OwnWalk
namespace Go.Proofs.YtpfommakhgkmeaaGreatDoor
open Go

structure SlT (P : Program) (t T k by_ : Nat) : Prop where
  under : P.underlying t = some (.slice T)
  size : ∀ w, (sizeOf T).run P w = .ok k w
  info : ∃ inf z, P.info? T = some inf ∧ inf.zero = some z ∧ inf.size = k ∧ inf.bytes = by_ ∧ z.cells.size = k
theorem slT_of {P : Program} {t T k by_ : Nat} {z : Value} (h1 : P.underlying t = some (.slice T)) (h2 : ∀ w, (sizeOf T).run P w = .ok k w)
    (h3 : (P.info? T).map (fun i => (i.zero, i.size, i.bytes)) = some (some z, k, by_)) (h4 : z.cells.size = k) : SlT P t T k by_ := by
  obtain ⟨i, hi, hz, hs, hb⟩ := info_parts h3
  exact ⟨h1, h2, i, z, hi, hz, hs, hb, h4⟩
def FldT (P : Program) (s i o : Nat) : Prop := ∃ fs f sz, P.underlying s = some (.struct fs) ∧ fs[i]? = some f ∧ (∀ w, (sizeOf f.type).run P w = .ok sz w) ∧ (sz == 0) = false ∧ f.offset = o
def BldT (P : Program) (T : Nat) (z : Value) (places : List (Nat × Nat)) : Prop :=
  ∃ fs, P.underlying T = some (.struct fs) ∧ (∀ w, (zeroValue T).run P w = .ok z w) ∧ (∀ w, (fs.mapM fun f => do pure (f.offset, ← sizeOf f.type) : Sem (Array (Nat × Nat))).run P w = .ok places.toArray w)
structure Enc {α : Type} (k : Nat) (enc : α → List Value) : Prop where
  len : ∀ x, (enc x).length = k
  one : ∀ x, ∀ u ∈ enc x, u.oneCell' = true

def eInt (x : Int) : List Value := [.int .i64 x]
def eStr (x : ByteArray) : List Value := [.string x]
theorem enc_int : Enc 1 eInt := ⟨fun _ => rfl, fun _ u h => by simp [eInt] at h; subst h; rfl⟩
theorem enc_str : Enc 1 eStr := ⟨fun _ => rfl, fun _ u h => by simp [eStr] at h; subst h; rfl⟩
theorem Enc.rows {α : Type} {k : Nat} {enc : α → List Value} (h : Enc k enc) (xs : List α) : ∀ r ∈ xs.map enc, r.length = k := by
  intro r hr
  obtain ⟨x, _, rfl⟩ := List.mem_map.1 hr
  exact h.len x
theorem Enc.flat {α : Type} {k : Nat} {enc : α → List Value} (h : Enc k enc) (xs : List α) : (xs.flatMap enc).length = xs.length * k := by
  induction xs with
  | nil => simp
  | cons x r ih => simp [ih, h.len, Nat.add_mul, Nat.add_comm]

def maskL : List Bool → List LEnt → List LEnt
  | b :: m, e :: l => match b with
    | true => e :: maskL m l
    | false => maskL m l
  | _, l => l
theorem maskL_sub : ∀ (m : List Bool) (l : List LEnt), List.Sublist (maskL m l) l
  | [], _ => List.Sublist.refl _
  | _ :: _, [] => List.Sublist.refl _
  | true :: m, _ :: l => .cons_cons _ (maskL_sub m l)
  | false :: m, _ :: l => .cons _ (maskL_sub m l)

section
variable {P : Program} {ops : Array Oper} {Q : Exit → Act → World → Prop} {rest : List Oper}
variable {w0 : World} {X : List Nat} {φ : View} {L : List LEnt} {K : List (Nat × Value)} {n : Nat} {a : Act} {w : World}
variable {d : Nat} {ty : TypeId} {pos : String} {after : Array Edge}

theorem Sx.nf {L' : List LEnt} {K' : List (Nat × Value)} (S : Sx w0 X φ L K n a w) (m : List Bool) (hL : maskL m L = L') (hK : subK K K') : Sx w0 X φ L' K' n a w := by
  subst hL
  exact (S.drop (maskL_sub m L)).sub hK

theorem Sx.nk (S : Sx w0 X φ L K n a w) (L' : List LEnt) (K' : List (Nat × Value)) (m : List Bool) (hL : maskL m L = L') (hK : subK K K') : Sx w0 X φ L' K' n a w := S.nf m hL hK

theorem rn_fld {s i o b off : Nat} {x : Operand} (h : FldT P s i o) (hx : a.eval x = .pointer (some ⟨b, off, none⟩)) : Rn P a w (.fieldAddr s x i) ty (.pointer (some ⟨b, off + o, none⟩)) := by
  obtain ⟨fs, f, sz, h1, h2, h3, h4, h5⟩ := h
  exact rn_fieldAddr h1 h2 h3 h4 h5 hx
theorem rn_bld {T : TypeId} {z : Value} {ps : List (Nat × Operand)} {pv : List (Nat × Value)} {places : List (Nat × Nat)} {cs : List Value} (h : BldT P T z places) (hev : EvP a ps pv) (hf : Instr.fill (places.toArray[·]?) z.cells pv = some cs.toArray) :
    Rn P a w (.build T ps.toArray) ty (.agg cs.toArray) := by
  obtain ⟨fs, h1, h2, h3⟩ := h
  exact rn_build h1 h2 h3 hev hf
theorem rn_lenT {t T k by_ m : Nat} {x : Operand} {v : Value} (h : SlT P t T k by_) (hx : a.eval x = v) (hv : SlcLen v m) :
    Rn P a w (.call { callee := .builtin .len, args := #[x], argTypes := #[t] }) ty (.int .i64 m) := rn_len h.under hx hv

section typed
variable {α : Type} {enc : α → List Value}
theorem slc_len {ψ : View} {k : Nat} {v : Value} {xs : List α} (h : Slc ψ k v (xs.map enc)) : SlcLen v xs.length := by have := h.len; rwa [List.length_map] at this
theorem slc_max {ψ : View} {k : Nat} {v : Value} {xs : List α} (h : Slc ψ k v (xs.map enc)) : xs.length ≤ 9223372036854775807 := by
  have := h.max; rw [List.length_map] at this; simpa [maxLen] using this
theorem rn_indexT {ψ : View} {T el k by_ j : Nat} {x y : Operand} {v : Value} {xs : List α} {e : α} {z : Int} {kk : IntKind} (h : SlT P T el k by_) (hs : Slc ψ k v (xs.map enc)) (hj : xs[j]? = some e) (hz : z = (j : Int))
    (hx : a.eval x = v) (hy : a.eval y = .int kk z) : ∃ b off, Mem ψ b off (enc e) ∧ ∀ w, Rn P a w (.indexAddr T x y) ty (.pointer (some ⟨b, off, none⟩)) :=
  rn_index h.under h.size hs (by rw [List.getElem?_map, hj]; rfl) hz hx hy
theorem own_slcT {i T k : Nat} {v : Value} {xs : List α} {Y : List Nat} (hE : Enc k enc) (S : Sx w0 X φ L K n a w) (hi : L[i]? = some (.own v T k xs.length (xs.flatMap enc))) (hY : ∀ b, v.ownBlock = some b → b ∉ Y) : Slc (view w Y) k v (xs.map enc) :=
  S.own_slc hi rfl (hE.rows xs) (by simp) hY
theorem ownV_slcT {ψ : View} {T k : Nat} {v : Value} {xs : List α} (hE : Enc k enc) (h : OwnV ψ T k v xs.length (xs.flatMap enc)) : Slc ψ k v (xs.map enc) :=
  h.slc rfl (hE.rows xs) (by simp)

theorem l_appendT {t T TB k by_ i j b q : Nat} {s x : Operand} {v : Value} {xs ys : List α} {news : List Value} (h : SlT P t T k by_) (hE : Enc k enc) (S : Sx w0 X φ L K n a w) (hs : a.eval s = v) (hi : L[i]? = some (.own v T k xs.length (xs.flatMap enc)))
    (hx : a.eval x = .slice (some ⟨b, 0, none⟩) q q) (hj : L[j]? = some (.blk b news TB)) (hq : ys.length = q) (hn : ys.flatMap enc = news) (hk0 : Nat.blt 0 k = true) (hb0 : Nat.blt 0 by_ = true)
    (hroom : (xs.length + q) * by_ ≤ 140737488355328) (hd : Nat.blt d n = true)
    (kk : ∀ v' a' w', Keep v.ownBlock.toList w w' → Sx w0 X φ (L.set i (.own v' T k (xs ++ ys).length ((xs ++ ys).flatMap enc))) ((d, v') :: K) n a' w' → wpList P ops Q rest a' w') :
    wpList P ops Q ({ dst := some d, op := .call { callee := .builtin .append, args := #[s, x], argTypes := #[t, t] }, type := ty, pos, after, guard := none } :: rest) a w := by
  obtain ⟨inf, z, h1, h2, h3, h4, h5⟩ := h.info
  subst hq hn
  refine l_append1 S hs hi hx hj h.under h1 h2 h3 h4 h5 hk0 (hE.flat ys) ?_ hb0 hroom hd ?_
  · rw [List.all_eq_true]
    intro u hu
    obtain ⟨y, _, hy⟩ := List.mem_flatMap.1 hu
    exact hE.one y u hy
  · intro v' a' w' hk S'
    refine kk v' a' w' hk ?_
    rw [List.length_append, List.flatMap_append]
    exact S'
theorem own_retT {i T k : Nat} {v : Value} {xs : List α} (S : Sx w0 X φ L K n a w) (hi : L[i]? = some (.own v T k xs.length (xs.flatMap enc))) (hX : X = []) : OwnV (newer w0 w) T k v xs.length (xs.flatMap enc) := S.own_ret hi hX
theorem ownV_nil (ψ : View) (T k : Nat) : OwnV ψ T k (.slice none 0 0) ([] : List α).length (([] : List α).flatMap enc) := ⟨by simp, .inl ⟨rfl, rfl⟩⟩
end typed

theorem rng_nil {α : Type} {xs dn : List α} {i : Nat} (hd : xs = dn ++ []) (hi : dn.length = i) : decide ((i : Int) < (xs.length : Int)) = false := by subst hd hi; simp
theorem rng_cons {α : Type} {xs dn ys : List α} {x : α} {i : Nat} (hd : xs = dn ++ x :: ys) (hi : dn.length = i) : decide ((i : Int) < (xs.length : Int)) = true := by subst hd hi; simp; omega
theorem rng_next {α : Type} {xs dn ys : List α} {x : α} {i : Nat} (hd : xs = dn ++ x :: ys) (hi : dn.length = i) (hm : xs.length ≤ 9223372036854775807) : W ((i : Int) + 1) = ((i + 1 : Nat) : Int) := by
  subst hd hi
  simp only [List.length_append, List.length_cons] at hm
  rw [W_in (by omega) (by omega)]; omega
theorem Tn {J : Act → World → Prop} (h : J a w) : Exit.then J Q .normal a w := h
theorem then_x {J : Act → World → Prop} {i : Nat} (h : Q (.exit i) a w) : Exit.then J Q (.exit i) a w := h
theorem then_r {J : Act → World → Prop} (h : Q .ret a w) : Exit.then J Q .ret a w := h
theorem blk_n {i : Nat} (h : Q .normal a w) : Exit.inBlock i Q .normal a w := h
theorem blk_r {i : Nat} (h : Q .ret a w) : Exit.inBlock i Q .ret a w := h
theorem mem_blk {ψ : View} {b T : Nat} {cs : List Value} (h : ψ b = some (.cells cs.toArray T (0, 0))) : Mem ψ b 0 cs := ⟨_, _, _, h, fun j v hv => by simpa using hv⟩
theorem Sx.blk_view {i b T : Nat} {cells : List Value} {Y : List Nat} (S : Sx w0 X φ L K n a w) (hi : L[i]? = some (.blk b cells T)) (hY : b ∉ Y) : view w Y b = some (.cells cells.toArray T (0, 0)) := by
  unfold view
  rw [if_neg hY]
  exact S.blk_at hi
theorem evA {l : List Operand} {vs : List Value} (h : EvL a l vs) : l.toArray.map a.eval = vs.toArray := by
  rw [List.map_toArray, h.map]
theorem own_retX {α : Type} {enc : α → List Value} {i T k : Nat} {v : Value} {xs : List α} (S : Sx w0 X φ L K n a w) (hi : L[i]? = some (.own v T k xs.length (xs.flatMap enc))) (hX : ∀ c ∈ X, v.ownBlock ≠ some c) : OwnV (newer w0 w) T k v xs.length (xs.flatMap enc) := by
  have ho := S.own_at hi
  refine ⟨ho.1, ?_⟩
  rcases ho.2 with h | ⟨g, cap, cur, h1, _, h2, h3⟩
  · exact .inl h
  · refine .inr ⟨g, cap, cur, h1, ?_, h3⟩
    have hs := (S.sep g (Sx.fp_mem hi (by simp [LEnt.fp, h1, Value.ownBlock]))).2.1
    unfold newer
    rw [if_pos]
    · exact h2
    · rcases hs with h | h
      · exact h
      · exact absurd (by rw [h1]; rfl) (hX g h)
theorem Sx.see' {wo : World} (S : Sx w0 X φ L K n a w) (hn : New wo φ L) (hs : w0.heap.size ≤ wo.heap.size) : ∃ φ', View.le φ φ' ∧ View.le (newer wo w) φ' ∧ Sx w0 X φ' L K n a w :=
  ⟨_, New.le_left, New.le_right hn, S.see hn hs⟩
theorem lit_slcT {α : Type} {enc : α → List Value} {k i b T q : Nat} {cells : List Value} {xs : List α} {Y : List Nat} (hE : Enc k enc) (S : Sx w0 X φ L K n a w) (hi : L[i]? = some (.blk b cells T)) (hx : xs.flatMap enc = cells) (hq : xs.length = q) (hb : Nat.ble q 4096 = true) (hY : b ∉ Y) :
    Slc (view w Y) k (.slice (some ⟨b, 0, none⟩) q q) (xs.map enc) := by
  subst hx hq
  have hb' : xs.length ≤ 4096 := by simpa using hb
  refine ownV_slcT (T := T) hE ⟨hE.flat xs, .inr ⟨b, xs.length, (xs.flatMap enc).toArray, rfl, S.blk_view hi hY, Nat.le_refl _, by simp [maxLen]; omega, by simpa using hE.flat xs, ?_⟩⟩
  rw [← hE.flat xs]
  exact List.take_of_length_le (by simp)
theorem f_ret0 {fn : Func} {Φ : View → Value → World → Prop} (S : Sx w0 X φ L K n a w) (hr : fn.results = #[]) (h : Φ (newer w0 w) (.tuple #[]) w) : bodyPost P fn (Ret w0 X Φ) .ret a w :=
  ⟨S.nodefer, _, results_none hr _ _ _, _, rfl, S.keep, h⟩
theorem f_ret3 {fn : Func} {t1 t2 t3 : Tmp} {v1 v2 v3 : Value} {Φ : View → Value → World → Prop} (S : Sx w0 X φ L K n a w) (hr : fn.results = #[.tmp t1, .tmp t2, .tmp t3]) (h1 : look K t1 = some v1) (h2 : look K t2 = some v2) (h3 : look K t3 = some v3)
    (h : Φ (newer w0 w) (.tuple #[v1, v2, v3]) w) : bodyPost P fn (Ret w0 X Φ) .ret a w := by
  have g1 := S.slots _ _ h1; have g2 := S.slots _ _ h2; have g3 := S.slots _ _ h3
  refine ⟨S.nodefer, _, ?_, _, rfl, S.keep, h⟩
  simp [results, hr, g1, g2, g3]
theorem l_skipU {op : Op} {j : Nat} {want : Bool} {oj : Oper} {tj : Nat} (S : Sx w0 X φ L K n a w) (hj : ops[j]? = some oj) (ht : oj.dst = some tj) (hv : look K tj = some undef) (hd : Nat.blt d n = true)
    (k : ∀ a', Sx w0 X φ L ((d, undef) :: K) n a' w → wpList P ops Q rest a' w) :
    wpList P ops Q ({ dst := some d, op := op, type := ty, pos, after, guard := some (j, want) } :: rest) a w := by
  have hs := S.slots tj _ hv
  refine wpList_skip ?_ (k _ (S.put (by simpa using hd)))
  simp [Region.wanted, yielded, hj, ht, hs, undef]
theorem rn_sindexT {T : TypeId} {x y : Operand} {s : ByteArray} {z : Int} {kk : IntKind} (ht : P.underlying T = some .string) (hx : a.eval x = .string s) (hy : a.eval y = .int kk z) (hc : inB z s.size = true) :
    Rn P a w (.index T x y) ty (.int .u8 (sbyte s z)) := by
  obtain ⟨h1, h2⟩ := inB_iff.1 hc
  have h3 : z.toNat < s.size := by omega
  have h4 : s[z.toNat]? = some s[z.toNat] := ByteArray.getElem?_lt' s _ h3
  have h5 := rn_sindex (P := P) (w := w) (ty := ty) ht hx hy (show z = (z.toNat : Int) by omega) h4
  have h6 : sbyte s z = (s[z.toNat].toNat : Int) := by
    unfold sbyte
    have : s.data.toList.getD z.toNat 0 = s[z.toNat] := by
      rw [List.getD_eq_getElem?_getD, List.getElem?_eq_getElem (by simpa using h3)]; rfl
    rw [this]
  rw [h6]; exact h5
section cutT
variable {α : Type} {enc : α → List Value} {ψ : View} {T el k by_ : Nat} {x y y' : Operand} {v : Value} {xs : List α} {zl zh : Int} {k1 k2 : IntKind}
variable (hT : SlT P T el k by_) (hs : Slc ψ k v (xs.map enc)) (hx : a.eval x = v)
include hT hs hx
theorem rn_cutT2 (hy : a.eval y = .int k1 zl) (hy' : a.eval y' = .int k2 zh) (hc : cutB zl zh xs.length = true) : ∃ v', Slc ψ k v' ((cut xs zl zh).map enc) ∧ ∀ w, Rn P a w (.slice T x (some y) (some y') none) ty v' := by
  obtain ⟨h1, h2, h3⟩ := cutB_iff.1 hc
  obtain ⟨v', h4, h5⟩ := rn_cut2 (ty := ty) hT.under hT.size hs hx hy hy' (show zl = (zl.toNat : Int) by omega) (show zh = (zh.toNat : Int) by omega) (by omega) (by simp; omega)
  exact ⟨v', by unfold cut; rw [List.map_drop, List.map_take]; exact h4, h5⟩
theorem rn_cutTl (hy : a.eval y = .int k1 zl) (hc : cutB zl (xs.length : Int) xs.length = true) : ∃ v', Slc ψ k v' ((cut xs zl xs.length).map enc) ∧ ∀ w, Rn P a w (.slice T x (some y) none none) ty v' := by
  obtain ⟨h1, h2, h3⟩ := cutB_iff.1 hc
  obtain ⟨v', h4, h5⟩ := rn_cutl (ty := ty) hT.under hT.size hs hx hy (show zl = (zl.toNat : Int) by omega) (by simp; omega)
  exact ⟨v', by unfold cut; rw [Int.toNat_natCast, List.take_length, List.map_drop]; exact h4, h5⟩
theorem rn_cutTh (hy' : a.eval y' = .int k2 zh) (hc : cutB 0 zh xs.length = true) : ∃ v', Slc ψ k v' ((cut xs 0 zh).map enc) ∧ ∀ w, Rn P a w (.slice T x none (some y') none) ty v' := by
  obtain ⟨h1, h2, h3⟩ := cutB_iff.1 hc
  obtain ⟨v', h4, h5⟩ := rn_cuth (ty := ty) hT.under hT.size hs hx hy' (show zh = (zh.toNat : Int) by omega) (by simp; omega)
  exact ⟨v', by unfold cut; rw [Int.toNat_zero, List.drop_zero, List.map_take]; exact h4, h5⟩
end cutT
theorem rn_scutTl {T : TypeId} {x y : Operand} {s : ByteArray} {zl : Int} {k1 : IntKind} (ht : P.underlying T = some .string) (hx : a.eval x = .string s) (hy : a.eval y = .int k1 zl) (hc : cutB zl (s.size : Int) s.size = true) :
    Rn P a w (.slice T x (some y) none none) ty (.string (scut s zl s.size)) := by
  obtain ⟨h1, h2, h3⟩ := cutB_iff.1 hc
  exact rn_scutl ht hx hy (by omega) (by omega)
theorem rn_scutTh {T : TypeId} {x y' : Operand} {s : ByteArray} {zh : Int} {k2 : IntKind} (ht : P.underlying T = some .string) (hx : a.eval x = .string s) (hy' : a.eval y' = .int k2 zh) (hc : cutB 0 zh s.size = true) :
    Rn P a w (.slice T x none (some y') none) ty (.string (scut s 0 zh)) := by
  obtain ⟨h1, h2, h3⟩ := cutB_iff.1 hc
  exact rn_scuth ht hx hy' (by omega) (by omega)

theorem f_join {c : Code} (J : Act → World → Prop) (h : c.wp P (Exit.then J Q) a w) (k : ∀ a w, J a w → Q .normal a w) : c.wp P Q a w :=
  wp_mono h fun e a w q => by cases e <;> first | exact k a w q | exact q
end
end Go.Proofs.YtpfommakhgkmeaaGreatDoor
