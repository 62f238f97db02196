/- Maps. No statement of the seat is proved here. -/
import Derived.Test.YtcnneeipmadakaaGreatDoorMore
import Derived.Laws.IdiomRangeMap
namespace Go.Proofs.YtcnneeipmadakaaGreatDoor
open Go

section
variable {κ ν : Type} [DecidableEq κ]
def mentsFrom (kv : κ → Value) (vv : ν → Value) : List (κ × ν) → Nat → List MapEntry
  | [], _ => []
  | (k, v) :: m, i => ⟨kv k, vv v, i⟩ :: mentsFrom kv vv m (i + 1)
def ments (kv : κ → Value) (vv : ν → Value) (m : List (κ × ν)) : Array MapEntry := (mentsFrom kv vv m 0).toArray
theorem mput_none {m : List (κ × ν)} {k : κ} {v : ν} {i : Nat} (h : mfind m k i = none) : mput m k v = m ++ [(k, v)] := by
  induction m generalizing i with
  | nil => rfl
  | cons p m ih =>
    obtain ⟨k', v'⟩ := p
    simp only [mfind] at h
    split at h
    · cases h
    · rename_i hne; simp [mput, hne, ih h]
omit [DecidableEq κ] in
theorem ments_len (kv : κ → Value) (vv : ν → Value) : ∀ (m : List (κ × ν)) i, (mentsFrom kv vv m i).length = m.length
  | [], _ => rfl
  | _ :: m, i => by simp [mentsFrom, ments_len kv vv m (i + 1)]
omit [DecidableEq κ] in
theorem ments_app (kv : κ → Value) (vv : ν → Value) (k : κ) (v : ν) : ∀ (m : List (κ × ν)) i, mentsFrom kv vv (m ++ [(k, v)]) i = mentsFrom kv vv m i ++ [⟨kv k, vv v, i + m.length⟩]
  | [], i => by simp [mentsFrom]
  | _ :: m, i => by simp [mentsFrom, ments_app kv vv k v m (i + 1)]; omega
theorem ments_put {kv : κ → Value} {vv : ν → Value} {k : κ} {v u : ν} : ∀ {m : List (κ × ν)} {i n : Nat}, mfind m k i = some (n, u) → i ≤ n ∧
    mentsFrom kv vv (mput m k v) i = (mentsFrom kv vv m i).modify (n - i) fun e => { e with key := kv k, val := vv v }
  | [], _, _, h => by cases h
  | (k', v') :: m, i, n, h => by
    simp only [mfind] at h
    split at h
    · rename_i he; cases h
      simp [mput, he, mentsFrom]
    · rename_i hne
      obtain ⟨h1, h2⟩ := ments_put (kv := kv) (vv := vv) (v := v) h
      refine ⟨by omega, ?_⟩
      obtain ⟨q, rfl⟩ : ∃ q, n = i + 1 + q := ⟨n - (i + 1), by omega⟩
      have e1 : i + 1 + q - i = q + 1 := by omega
      have e2 : i + 1 + q - (i + 1) = q := by omega
      rw [e2] at h2
      simp [mput, hne, mentsFrom, h2, e1]
theorem ments_key {kv : κ → Value} {vv : ν → Value} {k : κ} {u : ν} : ∀ {m : List (κ × ν)} {i n : Nat}, mfind m k i = some (n, u) → ∃ e, (mentsFrom kv vv m i)[n - i]? = some e ∧ e.key = kv k
  | [], _, _, h => by cases h
  | (k', v') :: m, i, n, h => by
    simp only [mfind] at h
    split at h
    · rename_i he; cases h
      exact ⟨⟨kv k', vv u, i⟩, by simp [mentsFrom], by simp [he]⟩
    · obtain ⟨h1, _⟩ := ments_put (kv := kv) (vv := vv) (v := u) h
      obtain ⟨e, he, hk⟩ := ments_key (kv := kv) (vv := vv) h
      refine ⟨e, ?_, hk⟩
      obtain ⟨q, rfl⟩ : ∃ q, n = i + 1 + q := ⟨n - (i + 1), by omega⟩
      have e1 : i + 1 + q - i = q + 1 := by omega
      have e2 : i + 1 + q - (i + 1) = q := by omega
      rw [e2] at he
      simp [mentsFrom, e1, he]

structure KeyT (P : Program) (kt : TypeId) (kv : κ → Value) : Prop where
  chk : ∀ em x w, (Instr.checkKey em 10000 kt (kv x)).run P w = .ok () w
  find : ∀ {ν : Type} (vv : ν → Value) (x : κ) (m : List (κ × ν)) w, (Instr.findKey kt (kv x) (mentsFrom kv vv m 0)).run P w = .ok ((mfind m x 0).map fun p => (p.1, vv p.2)) w
  same : ∀ x, Instr.sameBits 10000 (kv x) (kv x) = true
end

section
variable {P : Program} {ops : Array Oper} {Q : Exit → Act → World → Prop} {rest : List Oper}
variable {w0 : World} {X : List Nat} {φ : View} {L : List LEnt} {K : List (Nat × Value)} {n : Nat} {a : Act} {w : World}
variable {d : Nat} {ty : TypeId} {pos : String} {after : Array Edge}
variable {κ ν : Type} [DecidableEq κ] {kv : κ → Value} {vv : ν → Value}

omit [DecidableEq κ] in
theorem l_makeMap {T : TypeId} (S : Sx w0 X φ L K n a w) (hd : Nat.blt d n = true) (kv : κ → Value) (vv : ν → Value)
    (k : ∀ a' w' b, b = w.heap.size → Keep [] w w' → Sx w0 X φ (.map b (ments kv vv ([] : List (κ × ν))) ([] : List (κ × ν)).length :: L) ((d, .map (some b)) :: K) n a' w' → wpList P ops Q rest a' w') :
    wpList P ops Q ({ dst := some d, op := .makeMap T none, type := ty, pos, after, guard := none } :: rest) a w := by
  refine l_go (v := .map (some w.heap.size)) (w' := w.alloc (.map #[] 0)) (by simp [execOp, Instr.makeMap, run_newObj]) ?_
  refine k _ _ w.heap.size rfl (keep_alloc w _) ((S.more (e := .map w.heap.size (ments kv vv []) 0) (keep_alloc w _) ?_ (fun c hc => by cases hc; exact Nat.le_refl _)).put (by simpa using hd))
  exact heap_alloc_new w _
theorem Sx.map_at {i b clk : Nat} {es : Array MapEntry} (S : Sx w0 X φ L K n a w) (hi : L[i]? = some (.map b es clk)) : w.heap[b]? = some (.map es clk) := S.holds _ (List.mem_of_getElem? hi)
theorem run_getObj_map {b clk : Nat} {es : Array MapEntry} (h : w.heap[b]? = some (.map es clk)) : (getObj b).run P w = .ok (.map es clk) w := by simp [getObj, Sem.run, h]
theorem run_setObj_map {b clk : Nat} {es : Array MapEntry} (o : Obj) (h : w.heap[b]? = some (.map es clk)) : (setObj b o).run P w = .ok () { w with heap := w.heap.setIfInBounds b o } := by simp [setObj, Sem.run, h]
theorem run_find {T kt el : TypeId} {b clk : Nat} {m : List (κ × ν)} (hb : w.heap[b]? = some (.map (ments kv vv m) clk)) (hT : P.underlying T = some (.map kt el)) (hk : KeyT P kt kv) {z : Value} (hz : ∀ w, (zeroValue el).run P w = .ok z w) (x : κ) (ok : Bool) :
    (Instr.lookup T (.map (some b)) (kv x) ok).run P w = .ok (if ok then .tuple #[((mget m x).map vv).getD z, .bool (mget m x).isSome] else ((mget m x).map vv).getD z) w := by
  have hf := hk.find vv x m w
  cases hm : mfind m x 0 with
  | none => rw [hm] at hf; cases ok <;> simp [Instr.lookup, Sem.run_bind, run_underlying hT, run_getObj_map hb, hk.chk, ments, hf, hz, mget, hm]
  | some p => rw [hm] at hf; cases ok <;> simp [Instr.lookup, Sem.run_bind, run_underlying hT, run_getObj_map hb, hk.chk, ments, hf, mget, hm]
theorem rn_lookup {T kt el : TypeId} {x y : Operand} {b clk : Nat} {m : List (κ × ν)} {key : κ} {z : ν} (hb : w.heap[b]? = some (.map (ments kv vv m) clk)) (hT : P.underlying T = some (.map kt el)) (hk : KeyT P kt kv) (hz : ∀ w, (zeroValue el).run P w = .ok (vv z) w)
    (hx : a.eval x = .map (some b)) (hy : a.eval y = kv key) : Rn P a w (.lookup T x y false) ty (vv (mgetD m key z)) := by
  intro d p e g
  have h := run_find hb hT hk hz key false
  have h2 : ((mget m key).map vv).getD (vv z) = vv (mgetD m key z) := by cases hm : mget m key <;> simp [mgetD, hm]
  simp only [h2] at h
  simp [execOp, hx, hy, h]
theorem l_mapUpdate {T kt el : TypeId} {x y u : Operand} {i b : Nat} {m : List (κ × ν)} {key : κ} {val : ν} (S : Sx w0 X φ L K n a w) (hi : L[i]? = some (.map b (ments kv vv m) m.length)) (hT : P.underlying T = some (.map kt el)) (hk : KeyT P kt kv)
    (hx : a.eval x = .map (some b)) (hy : a.eval y = kv key) (hu : a.eval u = vv val)
    (k : ∀ w', Keep [b] w w' → Sx w0 X φ (L.set i (.map b (ments kv vv (mput m key val)) (mput m key val).length)) K n a w' → wpList P ops Q rest a w') :
    wpList P ops Q ({ dst := none, op := .mapUpdate T x y u, type := ty, pos, after, guard := none } :: rest) a w := by
  have hb := S.map_at hi
  have hlt : b < w.heap.size := heap_lt hb
  have hrun : (Instr.mapUpdate T (.map (some b)) (kv key) (vv val)).run P w = .ok () { w with heap := w.heap.setIfInBounds b (.map (ments kv vv (mput m key val)) (mput m key val).length) } := by
    have hf := hk.find vv key m w
    have hfin : ∀ o, (setObj b o).run P w = .ok () { w with heap := w.heap.setIfInBounds b o } := fun o => run_setObj_map o hb
    cases hm : mfind m key 0 with
    | none =>
      rw [hm] at hf
      have e1 : ments kv vv (mput m key val) = (ments kv vv m).push ⟨kv key, vv val, m.length⟩ := by
        unfold ments
        rw [mput_none hm, ments_app]
        simp
      have e2 : (mput m key val).length = m.length + 1 := by rw [mput_none hm]; simp
      rw [e1, e2]
      simp [Instr.mapUpdate, Sem.run_bind, run_underlying hT, run_getObj_map hb, hk.chk, ments, hf, hfin]
    | some p =>
      obtain ⟨i, u'⟩ := p
      rw [hm] at hf
      obtain ⟨_, h2⟩ := ments_put (kv := kv) (vv := vv) (v := val) hm
      obtain ⟨e, he, hke⟩ := ments_key (kv := kv) (vv := vv) hm
      rw [Nat.sub_zero] at h2 he
      have e1 : ments kv vv (mput m key val) = (ments kv vv m).modify i fun e => { e with key := kv key, val := vv val } := by
        unfold ments
        rw [h2]
        simp
      have e2 : (mput m key val).length = m.length := by
        have := congrArg List.length h2
        simpa [ments_len] using this
      rw [e1, e2]
      have hkey : (((ments kv vv m)[i]?).map (·.key)).getD (kv key) = kv key := by simp [ments, he, hke]
      simp [Instr.mapUpdate, Sem.run_bind, run_underlying hT, run_getObj_map hb, hk.chk, ments, hf, Instr.keyThatStays, hk.same, hfin, he, hke]
  refine l_act (w' := { w with heap := w.heap.setIfInBounds b (.map (ments kv vv (mput m key val)) (mput m key val).length) }) (by simp [execOp, hx, hy, hu, hrun]) ?_
  have hkeep : Keep [b] w { w with heap := w.heap.setIfInBounds b (.map (ments kv vv (mput m key val)) (mput m key val).length) } :=
    ⟨rfl, rfl, rfl, by simp, fun q hq hne => by simp only [List.mem_singleton] at hne; exact Array.getElem?_setIfInBounds_ne (fun e => hne e.symm)⟩
  refine k _ hkeep (S.change hi hkeep (by simp [LEnt.fp]) ?_ (fun c hc => .inl hc))
  show _ = _
  simp [hlt]
end
section
variable {κ ν : Type}
end
section
variable {P : Program} {ops : Array Oper} {Q : Exit → Act → World → Prop} {rest : List Oper}
variable {w0 : World} {X : List Nat} {φ : View} {L : List LEnt} {K : List (Nat × Value)} {n : Nat} {a : Act} {w : World}
variable {d : Nat} {ty : TypeId} {pos : String} {after : Array Edge}
variable {κ ν : Type} {kv : κ → Value} {vv : ν → Value}
end
end Go.Proofs.YtcnneeipmadakaaGreatDoor
