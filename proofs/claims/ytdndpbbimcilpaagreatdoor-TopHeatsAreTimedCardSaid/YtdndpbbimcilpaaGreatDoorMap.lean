/- Maps. No statement of the seat is proved here. -/
import Derived.Test.YtdndpbbimcilpaaGreatDoorMore
import Derived.Laws.IdiomRangeMap
namespace Go.Proofs.YtdndpbbimcilpaaGreatDoor
open Go

section
variable {κ ν : Type} [DecidableEq κ]
def Hz (kv : κ → Value) (vv : ν → Value) : List (κ × ν) → Nat → List MapEntry
 | [],_=>[]
 | (k,v) :: m,i=>⟨kv k,vv v,i⟩ :: Hz kv vv m (i + 1)
def He (kv : κ → Value) (vv : ν → Value) (m : List (κ × ν)) : Array MapEntry:=(Hz kv vv m 0).toArray
theorem Xu {m : List (κ × ν)} {k : κ} {v : ν} {i : Nat} (h : Kl m k i = none) : Fz m k v = m ++ [(k,v)]:=by
 induction m generalizing i with
 | nil=>rfl
 | cons p m ih =>
  obtain ⟨k',v'⟩:=p
  simp only [Kl] at h
  split at h
  ·cases h
  ·rename_i hne; simp [Fz,hne,ih h]
omit [DecidableEq κ] in
theorem DV (kv : κ → Value) (vv : ν → Value) : ∀ (m : List (κ × ν)) i,(Hz kv vv m i).length = m.length
 | [],_=>rfl
 | _ :: m,i=>by simp [Hz,DV kv vv m (i + 1)]
omit [DecidableEq κ] in
theorem DW (kv : κ → Value) (vv : ν → Value) (k : κ) (v : ν) : ∀ (m : List (κ × ν)) i,Hz kv vv (m ++ [(k,v)]) i = Hz kv vv m i ++ [⟨kv k,vv v,i + m.length⟩]
 | [],i=>by simp [Hz]
 | _ :: m,i=>by simp [Hz,DW kv vv k v m (i + 1)]; omega
theorem AH {kv : κ → Value} {vv : ν → Value} {k : κ} {v u : ν} : ∀ {m : List (κ × ν)} {i n : Nat},Kl m k i = some (n,u) → i ≤ n ∧
  Hz kv vv (Fz m k v) i = (Hz kv vv m i).modify (n - i) fun e=>{ e with key:=kv k,val:=vv v }
 | [],_,_,h=>by cases h
 | (k',v') :: m,i,n,h=>by
  simp only [Kl] at h
  split at h
  ·rename_i he; cases h
   simp [Fz,he,Hz]
  ·rename_i hne
   obtain ⟨h1,h2⟩:=AH (kv:=kv) (vv:=vv) (v:=v) h
   refine ⟨by omega,?_⟩
   obtain ⟨q,rfl⟩ : ∃ q,n = i + 1 + q:=⟨n - (i + 1),by omega⟩
   have e1 : i + 1 + q - i = q + 1:=by omega
   have e2 : i + 1 + q - (i + 1) = q:=by omega
   rw [e2] at h2
   simp [Fz,hne,Hz,h2,e1]
theorem DX {kv : κ → Value} {vv : ν → Value} {k : κ} {u : ν} : ∀ {m : List (κ × ν)} {i n : Nat},Kl m k i = some (n,u) → ∃ e,(Hz kv vv m i)[n - i]? = some e ∧ e.key = kv k
 | [],_,_,h=>by cases h
 | (k',v') :: m,i,n,h=>by
  simp only [Kl] at h
  split at h
  ·rename_i he; cases h
   exact ⟨⟨kv k',vv u,i⟩,by simp [Hz],by simp [he]⟩
  ·obtain ⟨h1,_⟩:=AH (kv:=kv) (vv:=vv) (v:=u) h
   obtain ⟨e,he,hk⟩:=DX (kv:=kv) (vv:=vv) h
   refine ⟨e,?_,hk⟩
   obtain ⟨q,rfl⟩ : ∃ q,n = i + 1 + q:=⟨n - (i + 1),by omega⟩
   have e1 : i + 1 + q - i = q + 1:=by omega
   have e2 : i + 1 + q - (i + 1) = q:=by omega
   rw [e2] at he
   simp [Hz,e1,he]

structure DF (P : Program) (kt : TypeId) (kv : κ → Value) : Prop where
 chk : ∀ em x w,(Instr.checkKey em 10000 kt (kv x)).run P w = .ok () w
 find : ∀ {ν : Type} (vv : ν → Value) (x : κ) (m : List (κ × ν)) w,(Instr.findKey kt (kv x) (Hz kv vv m 0)).run P w = .ok ((Kl m x 0).map fun p=>(p.1,vv p.2)) w
 same : ∀ x,Instr.sameBits 10000 (kv x) (kv x) = true
end

theorem BB (P : Program) {ν : Type} (vv : ν → Value) (x : ByteArray) : ∀ (m : List (ByteArray × ν)) (i : Nat),Instr.findNow .string (.string x) (Hz Value.string vv m i) i = some ((Kl m x i).map fun p=>(p.1,vv p.2))
 | [],_=>rfl
 | (k,v) :: m,i=>by
  simp only [Hz,Instr.findNow,Instr.sameNow,Kl]
  have hb : (x == k) = decide (x = k):=by rw [beq_toListBytes,Tq]
  rw [hb]
  by_cases h : x = k
  ·simp [h]
  ·simp [h,BB P vv x m (i + 1)]
theorem Oz {P : Program} {kt : TypeId} (h : P.underlying kt = some .string) : DF P kt Value.string where
 chk em x w:=by
  rw [show (10000 : Nat) = 9999 + 1 from rfl,Instr.checkKey]
  simp only [Sem.run_bind,run_underlying h,Result.andThen_ok,Sem.run_pure]
 find vv x m w:=by simp [Instr.findKey,Sem.run_bind,run_underlying h,BB P vv x m 0]
 same x:=by
  rw [Instr.sameBits,beq_toListBytes,Tq]
  simp

section
variable {P : Program} {ops : Array Oper} {Q : Exit → Act → World → Prop} {rest : List Oper}
variable {w0 : World} {X : List Nat} {φ : View} {L : List LEnt} {K : List (Nat × Value)} {n : Nat} {a : Act} {w : World}
variable {d : Nat} {ty : TypeId} {pos : String} {after : Array Edge}
variable {κ ν : Type} [DecidableEq κ] {kv : κ → Value} {vv : ν → Value}

omit [DecidableEq κ] in
theorem Tr {T : TypeId} (S : Sx w0 X φ L K n a w) (hd : Nat.blt d n = true) (kv : κ → Value) (vv : ν → Value)
  (k : ∀ a' w' b,b = w.heap.size → Keep [] w w' → Sx w0 X φ (.map b (He kv vv ([] : List (κ × ν))) ([] : List (κ × ν)).length :: L) ((d,.map (some b)) :: K) n a' w' → wpList P ops Q rest a' w') :
  wpList P ops Q ({ dst:=some d,op:=.makeMap T none,type:=ty,pos,after,guard:=none } :: rest) a w:=by
 refine Yd (v:=.map (some w.heap.size)) (w':=w.alloc (.map #[] 0)) (by simp [execOp,Instr.makeMap,run_newObj]) ?_
 refine k _ _ w.heap.size rfl (Kh w _) ((S.more (e:=.map w.heap.size (He kv vv []) 0) (Kh w _) ?_ (fun c hc=>by cases hc; exact Nat.le_refl _)).put (by simpa using hd))
 exact heap_alloc_new w _
theorem Sx.map_at {i b clk : Nat} {es : Array MapEntry} (S : Sx w0 X φ L K n a w) (hi : L[i]? = some (.map b es clk)) : w.heap[b]? = some (.map es clk):=S.holds _ (List.mem_of_getElem? hi)
theorem Lf {b clk : Nat} {es : Array MapEntry} (h : w.heap[b]? = some (.map es clk)) : (getObj b).run P w = .ok (.map es clk) w:=by simp [getObj,Sem.run,h]
theorem Tu {b clk : Nat} {es : Array MapEntry} (o : Obj) (h : w.heap[b]? = some (.map es clk)) : (setObj b o).run P w = .ok () { w with heap:=w.heap.setIfInBounds b o }:=by simp [setObj,Sem.run,h]
theorem LL {T kt el : TypeId} {b clk : Nat} {m : List (κ × ν)} (hb : w.heap[b]? = some (.map (He kv vv m) clk)) (hT : P.underlying T = some (.map kt el)) (hk : DF P kt kv) {z : Value} (hz : ∀ w,(zeroValue el).run P w = .ok z w) (x : κ) (ok : Bool) :
  (Instr.lookup T (.map (some b)) (kv x) ok).run P w = .ok (if ok then .tuple #[((Zl m x).map vv).getD z,.bool (Zl m x).isSome] else ((Zl m x).map vv).getD z) w:=by
 have hf:=hk.find vv x m w
 cases hm : Kl m x 0 with
 | none=>rw [hm] at hf; cases ok <;> simp [Instr.lookup,Sem.run_bind,run_underlying hT,Lf hb,hk.chk,He,hf,hz,Zl,hm]
 | some p=>rw [hm] at hf; cases ok <;> simp [Instr.lookup,Sem.run_bind,run_underlying hT,Lf hb,hk.chk,He,hf,Zl,hm]
theorem Qx {T kt el : TypeId} {x y : Operand} {b clk : Nat} {m : List (κ × ν)} {key : κ} {z : ν} (hb : w.heap[b]? = some (.map (He kv vv m) clk)) (hT : P.underlying T = some (.map kt el)) (hk : DF P kt kv) (hz : ∀ w,(zeroValue el).run P w = .ok (vv z) w)
  (hx : a.eval x = .map (some b)) (hy : a.eval y = kv key) : Rn P a w (.lookup T x y false) ty (vv (Ek m key z)):=by
 intro d p e g
 have h:=LL hb hT hk hz key false
 have h2 : ((Zl m key).map vv).getD (vv z) = vv (Ek m key z):=by cases hm : Zl m key <;> simp [Ek,hm]
 simp only [h2] at h
 simp [execOp,hx,hy,h]
theorem Sx.map_kept {i b clk : Nat} {es : Array MapEntry} {Y : List Nat} {w' : World} (S : Sx w0 X φ L K n a w) (hi : L[i]? = some (.map b es clk)) (hY : ∀ c,(LEnt.map b es clk).fp = some c → c ∉ Y) (hk : Keep Y w w') : w'.heap[b]? = some (.map es clk):=by
 have h:=S.map_at hi
 rw [hk.block b (heap_lt h) (hY b rfl)]
 exact h
theorem Qy {T kt el : TypeId} {x y u : Operand} {i b : Nat} {m : List (κ × ν)} {key : κ} {val : ν} (S : Sx w0 X φ L K n a w) (hi : L[i]? = some (.map b (He kv vv m) m.length)) (hT : P.underlying T = some (.map kt el)) (hk : DF P kt kv)
  (hx : a.eval x = .map (some b)) (hy : a.eval y = kv key) (hu : a.eval u = vv val)
  (k : ∀ w',Keep [b] w w' → Sx w0 X φ (L.set i (.map b (He kv vv (Fz m key val)) (Fz m key val).length)) K n a w' → wpList P ops Q rest a w') :
  wpList P ops Q ({ dst:=none,op:=.mapUpdate T x y u,type:=ty,pos,after,guard:=none } :: rest) a w:=by
 have hb:=S.map_at hi
 have hlt : b < w.heap.size:=heap_lt hb
 have hrun : (Instr.mapUpdate T (.map (some b)) (kv key) (vv val)).run P w = .ok () { w with heap:=w.heap.setIfInBounds b (.map (He kv vv (Fz m key val)) (Fz m key val).length) }:=by
  have hf:=hk.find vv key m w
  have hfin : ∀ o,(setObj b o).run P w = .ok () { w with heap:=w.heap.setIfInBounds b o }:=fun o=>Tu o hb
  cases hm : Kl m key 0 with
  | none =>
   rw [hm] at hf
   have e1 : He kv vv (Fz m key val) = (He kv vv m).push ⟨kv key,vv val,m.length⟩:=by
    unfold He
    rw [Xu hm,DW]
    simp
   have e2 : (Fz m key val).length = m.length + 1:=by rw [Xu hm]; simp
   rw [e1,e2]
   simp [Instr.mapUpdate,Sem.run_bind,run_underlying hT,Lf hb,hk.chk,He,hf,hfin]
  | some p =>
   obtain ⟨i,u'⟩:=p
   rw [hm] at hf
   obtain ⟨_,h2⟩:=AH (kv:=kv) (vv:=vv) (v:=val) hm
   obtain ⟨e,he,hke⟩:=DX (kv:=kv) (vv:=vv) hm
   rw [Nat.sub_zero] at h2 he
   have e1 : He kv vv (Fz m key val) = (He kv vv m).modify i fun e=>{ e with key:=kv key,val:=vv val }:=by
    unfold He
    rw [h2]
    simp
   have e2 : (Fz m key val).length = m.length:=by
    have:=congrArg List.length h2
    simpa [DV] using this
   rw [e1,e2]
   have hkey : (((He kv vv m)[i]?).map (·.key)).getD (kv key) = kv key:=by simp [He,he,hke]
   simp [Instr.mapUpdate,Sem.run_bind,run_underlying hT,Lf hb,hk.chk,He,hf,Instr.keyThatStays,hk.same,hfin,he,hke]
 refine GE (w':={ w with heap:=w.heap.setIfInBounds b (.map (He kv vv (Fz m key val)) (Fz m key val).length) }) (by simp [execOp,hx,hy,hu,hrun]) ?_
 have hkeep : Keep [b] w { w with heap:=w.heap.setIfInBounds b (.map (He kv vv (Fz m key val)) (Fz m key val).length) } :=
  ⟨rfl,rfl,rfl,by simp,fun q hq hne=>by simp only [List.mem_singleton] at hne; exact Array.getElem?_setIfInBounds_ne (fun e=>hne e.symm)⟩
 refine k _ hkeep (S.change hi hkeep (by simp [LEnt.fp]) ?_ (fun c hc=>.inl hc))
 show _ = _
 simp [hlt]
end
section
variable {κ ν : Type}
theorem BC {α : Type} {p q : α → Bool} {x : α} (hp : p x = true) (hx : q x = false) : ∀ (l : List α),l.Nodup → x ∈ l → (∀ y ∈ l,y ≠ x → q y = p y) → (l.filter p).Perm (x :: l.filter q)
 | [],_,h,_=>by cases h
 | y :: l,hn,h,ho=>by
  obtain ⟨hy,hn'⟩:=List.nodup_cons.1 hn
  by_cases e : y = x
  ·subst e
   have hs : l.filter p = l.filter q:=List.filter_congr fun z hz=>(ho z (List.mem_cons_of_mem _ hz) (fun e=>hy (e ▸ hz))).symm
   rw [List.filter_cons,List.filter_cons,hp,hx,hs]
   exact List.Perm.refl _
  ·have hxl : x ∈ l:=by
    rcases List.mem_cons.1 h with rfl | h
    ·exact (e rfl).elim
    ·exact h
   have ih:=BC hp hx l hn' hxl fun z hz=>ho z (List.mem_cons_of_mem _ hz)
   rw [List.filter_cons,List.filter_cons,ho y List.mem_cons_self e]
   cases p y with
   | true=>exact (ih.cons y).trans (List.Perm.swap x y _)
   | false=>exact ih
end
section
variable {P : Program} {ops : Array Oper} {Q : Exit → Act → World → Prop} {rest : List Oper}
variable {w0 : World} {X : List Nat} {φ : View} {L : List LEnt} {K : List (Nat × Value)} {n : Nat} {a : Act} {w : World}
variable {d : Nat} {ty : TypeId} {pos : String} {after : Array Edge}
variable {κ ν : Type} {kv : κ → Value} {vv : ν → Value}
theorem l_range {T kt el : TypeId} {x : Operand} {bm clk : Nat} {es : Array MapEntry} (S : Sx w0 X φ L K n a w) (hb : w.heap[bm]? = some (.map es clk)) (hT : P.underlying T = some (.map kt el)) (hx : a.eval x = .map (some bm)) (hd : Nat.blt d n = true)
  (k : ∀ a' w' b,b = w.heap.size → Keep [] w w' → Sx w0 X φ (.iter b bm clk #[] clk :: L) ((d,.pointer (some ⟨b,0,none⟩)) :: K) n a' w' → wpList P ops Q rest a' w') :
  wpList P ops Q ({ dst:=some d,op:=.range T x,type:=ty,pos,after,guard:=none } :: rest) a w:=by
 have hrun : (Instr.range T (.map (some bm))).run P w = .ok (.pointer (some ⟨w.heap.size,0,none⟩)) (w.alloc (.mapIter (some bm) clk #[] clk)):=by
  simp [Instr.range,run_underlying hT,Lf hb,run_newObj]
 refine Yd (v:=.pointer (some ⟨w.heap.size,0,none⟩)) (w':=w.alloc (.mapIter (some bm) clk #[] clk)) (by simp [execOp,hx,hrun]) ?_
 refine k _ _ w.heap.size rfl (Kh w _) ((S.more (e:=.iter w.heap.size bm clk #[] clk) (Kh w _) ?_ (fun c hc=>by cases hc; exact Nat.le_refl _)).put (by simpa using hd))
 exact heap_alloc_new w _
end
section
variable {κ ν : Type}
def Hf (kv : κ → Value) (vv : ν → Value) (m : List (κ × ν)) (bs : List Nat) : Array MapEntry:=((m.zip bs).map fun p=>(⟨kv p.1.1,vv p.1.2,p.2⟩ : MapEntry)).toArray
structure Qf (n : Nat) (bs : List Nat) (clk : Nat) : Prop where
 len : bs.length = n
 inc : bs.Pairwise (· < ·)
 lt : ∀ b ∈ bs,b < clk
theorem KC : Qf ([] : List (κ × ν)).length [] 0:=⟨rfl,.nil,fun _ h=>by cases h⟩
theorem Qf.add {n clk : Nat} {bs : List Nat} (h : Qf n bs clk) : Qf (n + 1) (bs ++ [clk]) (clk + 1):=by
 refine ⟨by simp [h.len],?_,?_⟩
 ·rw [List.pairwise_append]
  exact ⟨h.inc,List.pairwise_singleton _ _,fun a ha b hb=>by rw [List.mem_singleton] at hb; subst hb; exact h.lt a ha⟩
 ·intro b hb
  rcases List.mem_append.1 hb with hb | hb
  ·have:=h.lt b hb; omega
  ·rw [List.mem_singleton] at hb; omega
theorem Qf.del {n clk i : Nat} {bs : List Nat} (h : Qf n bs clk) (hi : i < n) : Qf (n - 1) (bs.eraseIdx i) clk :=
 ⟨by rw [List.length_eraseIdx,h.len,if_pos hi],h.inc.sublist (List.eraseIdx_sublist _ _),fun b hb=>h.lt b ((List.eraseIdx_sublist _ _).subset hb)⟩
theorem DY {α β : Type} : ∀ (l : List α) (k : List β) (i : Nat),l.length = k.length → (l.eraseIdx i).zip (k.eraseIdx i) = (l.zip k).eraseIdx i
 | [],[],i,_=>by simp
 | [],_ :: _,_,h=>by simp at h
 | _ :: _,[],_,h=>by simp at h
 | _ :: l,_ :: k,0,_=>by simp
 | _ :: l,_ :: k,i + 1,h=>by simp [DY l k i (by simpa using h)]
theorem DZ {α β : Type} (f : α → β) : ∀ (l : List α) (i : Nat),(l.eraseIdx i).map f = (l.map f).eraseIdx i
 | [],_=>by simp
 | _ :: _,0=>by simp
 | _ :: l,i + 1=>by simp [DZ f l i]
theorem Zq (kind : TypeDesc) (k : Value) : ∀ (es es' : List MapEntry) (i : Nat),es.map (fun e=>(e.key,e.val)) = es'.map (fun e=>(e.key,e.val)) → Instr.findNow kind k es i = Instr.findNow kind k es' i
 | [],[],_,_=>rfl
 | [],_ :: _,_,h=>by simp at h
 | _ :: _,[],_,h=>by simp at h
 | e :: es,e' :: es',i,h=>by
  simp only [List.map_cons,List.cons.injEq,Prod.mk.injEq] at h
  simp only [Instr.findNow,h.1.1,h.1.2,Zq kind k es es' (i + 1) h.2]
theorem Wf (kt : TypeId) (k : Value) : ∀ (es es' : List MapEntry) (i : Nat),es.map (fun e=>(e.key,e.val)) = es'.map (fun e=>(e.key,e.val)) → Instr.findAsking kt k es i = Instr.findAsking kt k es' i
 | [],[],_,_=>rfl
 | [],_ :: _,_,h=>by simp at h
 | _ :: _,[],_,h=>by simp at h
 | e :: es,e' :: es',i,h=>by
  simp only [List.map_cons,List.cons.injEq,Prod.mk.injEq] at h
  simp only [Instr.findAsking,h.1.1,h.1.2,Wf kt k es es' (i + 1) h.2]
theorem FH (kt : TypeId) (k : Value) (es es' : List MapEntry) (h : es.map (fun e=>(e.key,e.val)) = es'.map (fun e=>(e.key,e.val))) : Instr.findKey kt k es = Instr.findKey kt k es':=by
 unfold Instr.findKey
 simp only [Zq _ k es es' 0 h,Wf kt k es es' 0 h]
theorem GH {kv : κ → Value} {vv : ν → Value} : ∀ (m : List (κ × ν)) (i : Nat),(Hz kv vv m i).map (fun e=>(e.key,e.val)) = m.map fun p=>(kv p.1,vv p.2)
 | [],_=>rfl
 | _ :: m,i=>by simp [Hz,GH m (i + 1)]
theorem EA {kv : κ → Value} {vv : ν → Value} : ∀ (m : List (κ × ν)) (bs : List Nat),bs.length = m.length → (((m.zip bs).map fun p=>(⟨kv p.1.1,vv p.1.2,p.2⟩ : MapEntry))).map (fun e=>(e.key,e.val)) = m.map fun p=>(kv p.1,vv p.2)
 | [],_,_=>by simp
 | _ :: _,[],h=>by simp at h
 | _ :: m,_ :: bs,h=>by simp [EA m bs (by simpa using h)]
end
section
variable {P : Program} {ops : Array Oper} {Q : Exit → Act → World → Prop} {rest : List Oper}
variable {w0 : World} {X : List Nat} {φ : View} {L : List LEnt} {K : List (Nat × Value)} {n : Nat} {a : Act} {w : World}
variable {d : Nat} {ty : TypeId} {pos : String} {after : Array Edge}
variable {κ ν : Type} [DecidableEq κ] {kv : κ → Value} {vv : ν → Value}
theorem DF.findB {kt : TypeId} (hk : DF P kt kv) (x : κ) (m : List (κ × ν)) (bs : List Nat) (h : bs.length = m.length) (w : World) : (Instr.findKey kt (kv x) (Hf kv vv m bs).toList).run P w = .ok ((Kl m x 0).map fun p=>(p.1,vv p.2)) w:=by
 rw [FH kt (kv x) (Hf kv vv m bs).toList (Hz kv vv m 0) (by rw [Hf,List.toList_toArray,EA m bs h,GH])]
 exact hk.find vv x m w
theorem AI {k : κ} {u : ν} : ∀ {m : List (κ × ν)} {i n : Nat},Kl m k i = some (n,u) → i ≤ n ∧ n - i < m.length ∧ Wj m k = m.eraseIdx (n - i)
 | [],_,_,h=>by cases h
 | (k',v') :: m,i,n,h=>by
  simp only [Kl] at h
  split at h
  ·rename_i he; cases h
   simp [Wj,he]
  ·rename_i hne
   obtain ⟨h1,h2,h3⟩:=AI h
   obtain ⟨q,rfl⟩ : ∃ q,n = i + 1 + q:=⟨n - (i + 1),by omega⟩
   have e1 : i + 1 + q - i = q + 1:=by omega
   have e2 : i + 1 + q - (i + 1) = q:=by omega
   rw [e2] at h2 h3
   refine ⟨by omega,by rw [e1]; simp; omega,by simp [Wj,hne,h3,e1]⟩
theorem EB {k : κ} : ∀ {m : List (κ × ν)} {i : Nat},Kl m k i = none → Wj m k = m
 | [],_,_=>rfl
 | (k',v') :: m,i,h=>by
  simp only [Kl] at h
  split at h
  ·cases h
  ·rename_i hne; simp [Wj,hne,EB h]
theorem EC {k : κ} {u v : ν} : ∀ {m : List (κ × ν)} {i n : Nat},Kl m k i = some (n,u) → i ≤ n ∧ n - i < m.length ∧ Fz m k v = m.set (n - i) (k,v)
 | [],_,_,h=>by cases h
 | (k',v') :: m,i,n,h=>by
  simp only [Kl] at h
  split at h
  ·rename_i he; cases h
   simp [Fz,he]
  ·rename_i hne
   obtain ⟨h1,h2,h3⟩:=EC (v:=v) h
   obtain ⟨q,rfl⟩ : ∃ q,n = i + 1 + q:=⟨n - (i + 1),by omega⟩
   have e1 : i + 1 + q - i = q + 1:=by omega
   have e2 : i + 1 + q - (i + 1) = q:=by omega
   rw [e2] at h2 h3
   refine ⟨by omega,by rw [e1]; simp; omega,by simp [Fz,hne,h3,e1]⟩
omit [DecidableEq κ] in
theorem IT {k : κ} {v : ν} : ∀ (m : List (κ × ν)) (bs : List Nat) (i : Nat),bs.length = m.length → (((m.set i (k,v)).zip bs).map fun p=>(⟨kv p.1.1,vv p.1.2,p.2⟩ : MapEntry)) = ((m.zip bs).map fun p=>(⟨kv p.1.1,vv p.1.2,p.2⟩ : MapEntry)).modify i fun e=>{ e with key:=kv k,val:=vv v }
 | [],_,_,_=>by simp
 | _ :: _,[],_,h=>by simp at h
 | _ :: m,_ :: bs,0,_=>by simp
 | _ :: m,_ :: bs,i + 1,h=>by simp [IT m bs i (by simpa using h)]
theorem ED {k : κ} {u : ν} : ∀ {m : List (κ × ν)} {bs : List Nat} {i j : Nat},bs.length = m.length → Kl m k j = some (i,u) → ∃ e,((m.zip bs).map fun p=>(⟨kv p.1.1,vv p.1.2,p.2⟩ : MapEntry))[i - j]? = some e ∧ e.key = kv k
 | [],_,_,_,_,h=>by cases h
 | _ :: _,[],_,_,h,_=>by simp at h
 | (k',v') :: m,b :: bs,i,j,hl,h=>by
  simp only [Kl] at h
  split at h
  ·rename_i he; cases h
   exact ⟨⟨kv k',vv u,b⟩,by simp,by simp [he]⟩
  ·obtain ⟨h1,_⟩:=AI h
   obtain ⟨e,he,hk⟩:=ED (bs:=bs) (by simpa using hl) h
   refine ⟨e,?_,hk⟩
   obtain ⟨q,rfl⟩ : ∃ q,i = j + 1 + q:=⟨i - (j + 1),by omega⟩
   have e1 : j + 1 + q - j = q + 1:=by omega
   have e2 : j + 1 + q - (j + 1) = q:=by omega
   rw [e2] at he
   simp [e1,he]
omit [DecidableEq κ] in
theorem HO {T : TypeId} (S : Sx w0 X φ L K n a w) (hd : Nat.blt d n = true) (kv : κ → Value) (vv : ν → Value)
  (k : ∀ a' w' b,b = w.heap.size → Keep [] w w' → Sx w0 X φ (.map b (Hf kv vv ([] : List (κ × ν)) []) 0 :: L) ((d,.map (some b)) :: K) n a' w' → wpList P ops Q rest a' w') :
  wpList P ops Q ({ dst:=some d,op:=.makeMap T none,type:=ty,pos,after,guard:=none } :: rest) a w:=by
 refine Yd (v:=.map (some w.heap.size)) (w':=w.alloc (.map #[] 0)) (by simp [execOp,Instr.makeMap,run_newObj]) ?_
 refine k _ _ w.heap.size rfl (Kh w _) ((S.more (e:=.map w.heap.size (Hf kv vv [] []) 0) (Kh w _) ?_ (fun c hc=>by cases hc; exact Nat.le_refl _)).put (by simpa using hd))
 exact heap_alloc_new w _
theorem St {b : Nat} (o : Obj) : Keep [b] w { w with heap:=w.heap.setIfInBounds b o } :=
 ⟨rfl,rfl,rfl,by simp,fun q hq hne=>by simp only [List.mem_singleton] at hne; exact Array.getElem?_setIfInBounds_ne (fun e=>hne e.symm)⟩
theorem Sx.mapSet {i b clk clk' : Nat} {es es' : Array MapEntry} (S : Sx w0 X φ L K n a w) (hi : L[i]? = some (.map b es clk)) : Sx w0 X φ (L.set i (.map b es' clk')) K n a { w with heap:=w.heap.setIfInBounds b (.map es' clk') }:=by
 refine S.change hi (St _) (by simp [LEnt.fp]) ?_ (fun c hc=>.inl hc)
 have hlt:=heap_lt (S.map_at hi)
 show _ = _
 simp [hlt]
theorem FI {T kt el : TypeId} {x y u : Operand} {i b clk : Nat} {bs : List Nat} {m : List (κ × ν)} {key : κ} {val : ν} (S : Sx w0 X φ L K n a w) (hi : L[i]? = some (.map b (Hf kv vv m bs) clk)) (hB : Qf m.length bs clk) (hT : P.underlying T = some (.map kt el)) (hk : DF P kt kv)
  (hx : a.eval x = .map (some b)) (hy : a.eval y = kv key) (hu : a.eval u = vv val)
  (k : ∀ w' bs' clk',Qf (Fz m key val).length bs' clk' → Keep [b] w w' → Sx w0 X φ (L.set i (.map b (Hf kv vv (Fz m key val) bs') clk')) K n a w' → wpList P ops Q rest a w') :
  wpList P ops Q ({ dst:=none,op:=.mapUpdate T x y u,type:=ty,pos,after,guard:=none } :: rest) a w:=by
 have hb:=S.map_at hi
 have hf:=hk.findB (vv:=vv) key m bs hB.len w
 have hfin : ∀ o,(setObj b o).run P w = .ok () { w with heap:=w.heap.setIfInBounds b o }:=fun o=>Tu o hb
 cases hm : Kl m key 0 with
 | none =>
  rw [hm] at hf
  have e1 : Hf kv vv (Fz m key val) (bs ++ [clk]) = (Hf kv vv m bs).push ⟨kv key,vv val,clk⟩:=by
   unfold Hf
   rw [Xu hm,List.zip_append hB.len.symm]
   simp
  have e2 : (Fz m key val).length = m.length + 1:=by rw [Xu hm]; simp
  have hrun : (Instr.mapUpdate T (.map (some b)) (kv key) (vv val)).run P w = .ok () { w with heap:=w.heap.setIfInBounds b (.map (Hf kv vv (Fz m key val) (bs ++ [clk])) (clk + 1)) }:=by
   rw [e1]
   simp [Instr.mapUpdate,Sem.run_bind,run_underlying hT,Lf hb,hk.chk,hf,hfin]
  exact GE (w':={ w with heap:=w.heap.setIfInBounds b (.map (Hf kv vv (Fz m key val) (bs ++ [clk])) (clk + 1)) }) (by simp [execOp,hx,hy,hu,hrun]) (k _ _ _ (by rw [e2]; exact hB.add) (St _) (S.mapSet hi))
 | some p =>
  obtain ⟨q,u'⟩:=p
  rw [hm] at hf
  obtain ⟨_,_,h2⟩:=EC (v:=val) hm
  obtain ⟨e,he,hke⟩:=ED (kv:=kv) (vv:=vv) hB.len hm
  rw [Nat.sub_zero] at h2 he
  have e1 : Hf kv vv (Fz m key val) bs = (Hf kv vv m bs).modify q fun e=>{ e with key:=kv key,val:=vv val }:=by
   unfold Hf
   rw [h2,IT m bs q hB.len]
   simp
  have e2 : (Fz m key val).length = m.length:=by rw [h2]; simp
  have he' : (Hf kv vv m bs)[q]? = some e:=by unfold Hf; rw [List.getElem?_toArray]; exact he
  have hrun : (Instr.mapUpdate T (.map (some b)) (kv key) (vv val)).run P w = .ok () { w with heap:=w.heap.setIfInBounds b (.map (Hf kv vv (Fz m key val) bs) clk) }:=by
   rw [e1]
   simp [Instr.mapUpdate,Sem.run_bind,run_underlying hT,Lf hb,hk.chk,hf,Instr.keyThatStays,hk.same,hfin,he',hke]
  exact GE (w':={ w with heap:=w.heap.setIfInBounds b (.map (Hf kv vv (Fz m key val) bs) clk) }) (by simp [execOp,hx,hy,hu,hrun]) (k _ bs clk (by rw [e2]; exact hB) (St _) (S.mapSet hi))
theorem KD {T kt el : TypeId} {ts : Array TypeId} {x y : Operand} {i b clk : Nat} {bs : List Nat} {m : List (κ × ν)} {key : κ} (S : Sx w0 X φ L K n a w) (hi : L[i]? = some (.map b (Hf kv vv m bs) clk)) (hB : Qf m.length bs clk) (ht : ts[0]? = some T) (hT : P.underlying T = some (.map kt el)) (hk : DF P kt kv)
  (hx : a.eval x = .map (some b)) (hy : a.eval y = kv key)
  (k : ∀ w' bs' clk',Qf (Wj m key).length bs' clk' → Keep [b] w w' → Sx w0 X φ (L.set i (.map b (Hf kv vv (Wj m key) bs') clk')) K n a w' → wpList P ops Q rest a w') :
  wpList P ops Q ({ dst:=none,op:=.call { callee:=.builtin .delete,args:=#[x,y],argTypes:=ts },type:=ty,pos,after,guard:=none } :: rest) a w:=by
 have hb:=S.map_at hi
 have hf:=hk.findB (vv:=vv) key m bs hB.len w
 have hfin : ∀ o,(setObj b o).run P w = .ok () { w with heap:=w.heap.setIfInBounds b o }:=fun o=>Tu o hb
 cases hm : Kl m key 0 with
 | none =>
  rw [hm] at hf
  have hrun : (Builtin.delete_ ts ty #[.map (some b),kv key]).run P w = .ok (.tuple #[]) { w with heap:=w.heap.setIfInBounds b (.map (Hf kv vv m bs) clk) }:=by
   simp [Builtin.delete_,ht,Sem.run_bind,run_underlying hT,Lf hb,hk.chk,hf,hfin]
  have e:=EB hm
  refine Yd (v:=.tuple #[]) (w':={ w with heap:=w.heap.setIfInBounds b (.map (Hf kv vv m bs) clk) }) (by simp [execOp,resolve,invoke,builtin,hx,hy,hrun]) (k _ bs clk (by rw [e]; exact hB) (St _) ?_)
  rw [e]
  exact S.mapSet hi
 | some p =>
  obtain ⟨q,u'⟩:=p
  rw [hm] at hf
  obtain ⟨_,h1,h2⟩:=AI hm
  rw [Nat.sub_zero] at h1 h2
  have hlt : q < (Hf kv vv m bs).size:=by simp [Hf,hB.len,h1]
  have e1 : Hf kv vv (Wj m key) (bs.eraseIdx q) = (Hf kv vv m bs).eraseIdxIfInBounds q:=by
   rw [Array.eraseIdxIfInBounds,dif_pos hlt]
   apply Array.toList_inj.1
   rw [Array.toList_eraseIdx]
   unfold Hf
   rw [h2,DY _ _ _ hB.len.symm,List.toList_toArray,List.toList_toArray,DZ]
  have e2 : (Wj m key).length = m.length - 1:=by rw [h2,List.length_eraseIdx,if_pos h1]
  have hrun : (Builtin.delete_ ts ty #[.map (some b),kv key]).run P w = .ok (.tuple #[]) { w with heap:=w.heap.setIfInBounds b (.map (Hf kv vv (Wj m key) (bs.eraseIdx q)) clk) }:=by
   rw [e1]
   simp [Builtin.delete_,ht,Sem.run_bind,run_underlying hT,Lf hb,hk.chk,hf,hfin]
  exact Yd (v:=.tuple #[]) (w':={ w with heap:=w.heap.setIfInBounds b (.map (Hf kv vv (Wj m key) (bs.eraseIdx q)) clk) }) (by simp [execOp,resolve,invoke,builtin,hx,hy,hrun]) (k _ (bs.eraseIdx q) clk (by rw [e2]; exact hB.del h1) (St _) (S.mapSet hi))
def Yn {κ ν : Type} (m : List (κ × ν)) (bs : List Nat) (seen : Array Nat) : List (κ × ν):=((m.zip bs).filter fun p=>!seen.contains p.2).map (·.1)
omit [DecidableEq κ] in
theorem leftB_0 {m : List (κ × ν)} {bs : List Nat} {clk : Nat} (h : Qf m.length bs clk) : Yn m bs #[] = m:=by
 unfold Yn
 rw [List.filter_eq_self.2 (fun p _=>by simp)]
 exact List.map_fst_zip (by rw [h.len]; exact Nat.le_refl _)
omit [DecidableEq κ] in
theorem CH {m : List (κ × ν)} {bs : List Nat} {clk : Nat} (h : Qf m.length bs clk) : ((m.zip bs).map (·.2)).Nodup:=by
 rw [List.map_snd_zip (by rw [h.len]; exact Nat.le_refl _)]
 exact h.inc.imp fun hab e=>by omega
omit [DecidableEq κ] in
theorem HP {m : List (κ × ν)} {bs : List Nat} {clk : Nat} (hB : Qf m.length bs clk) {seen : Array Nat} {i : Nat} {e : κ × ν} (hm : (e,i) ∈ m.zip bs) (hs : seen.contains i = false) : (Yn m bs seen).Perm (e :: Yn m bs (seen.push i)):=by
 have hn:=CH hB
 have hn' : (m.zip bs).Nodup:=List.Pairwise.of_map (fun p : (κ × ν) × Nat=>p.2) (fun a b hab e=>hab (by rw [e])) hn
 have hp:=BC (p:=fun p : (κ × ν) × Nat=>!seen.contains p.2) (q:=fun p=>!(seen.push i).contains p.2) (x:=(e,i)) (by simp only [hs]; rfl) (by simp) (m.zip bs) hn' hm (fun y hy hne=>by
  have h2 : y.2 ≠ i:=fun he=>hne (by
   obtain ⟨a,ha⟩:=List.getElem?_of_mem hy
   obtain ⟨c,hc⟩:=List.getElem?_of_mem hm
   have ha' : ((m.zip bs).map (·.2))[a]? = some i:=by rw [List.getElem?_map,ha,Option.map_some,he]
   have hc' : ((m.zip bs).map (·.2))[c]? = some i:=by rw [List.getElem?_map,hc,Option.map_some]
   have hac : a = c:=(List.getElem?_inj (List.getElem?_eq_some_iff.1 ha').1 hn).1 (ha'.trans hc'.symm)
   rw [hac,hc] at ha
   cases ha; rfl)
  simp [h2])
 exact hp.map (·.1)
omit [DecidableEq κ] in
theorem l_nextB {x : Operand} {i b bm clk : Nat} {m : List (κ × ν)} {bs : List Nat} {seen : Array Nat} (S : Sx w0 X φ L K n a w) (hi : L[i]? = some (.iter b bm clk seen clk)) (hb : w.heap[bm]? = some (.map (Hf kv vv m bs) clk)) (hB : Qf m.length bs clk) (hx : a.eval x = .pointer (some ⟨b,0,none⟩)) (hd : Nat.blt d n = true)
  (k0 : Yn m bs seen = [] → ∀ a',Sx w0 X φ L ((d,.tuple #[.bool false]) :: K) n a' w → wpList P ops Q rest a' w)
  (k1 : ∀ e seen' a' w',(Yn m bs seen).Perm (e :: Yn m bs seen') → (∃ j,seen'.back? = some j ∧ (e,j) ∈ m.zip bs) → Keep [b] w w' → Sx w0 X φ (L.set i (.iter b bm clk seen' clk)) ((d,.tuple #[.bool true,kv e.1,vv e.2]) :: K) n a' w' → wpList P ops Q rest a' w') :
  wpList P ops Q ({ dst:=some d,op:=.next x false,type:=ty,pos,after,guard:=none } :: rest) a w:=by
 have hit : w.heap[b]? = some (.mapIter (some bm) clk seen clk):=S.holds _ (List.mem_of_getElem? hi)
 have hborn0 : ∀ p ∈ m.zip bs,p.2 < clk:=fun p hp=>hB.lt _ (List.of_mem_zip (a:=p.1) (b:=p.2) hp).2
 have htest : (!seen.isEmpty && !(Hf kv vv m bs).isEmpty && (Hf kv vv m bs).all (fun x=>decide (x.born ≥ clk))) = false :=
  next_test_false seen (Hf kv vv m bs) clk clk (fun x hx=>by
   rw [Hf,List.toList_toArray,List.mem_map] at hx
   obtain ⟨p,hp,rfl⟩:=hx
   exact hborn0 p hp) (Nat.le_refl _)
 have hleft : (Hf kv vv m bs).filter (fun e=>!seen.contains e.born) = (((m.zip bs).filter fun p=>!seen.contains p.2).map fun p=>(⟨kv p.1.1,vv p.1.2,p.2⟩ : MapEntry)).toArray:=by
  rw [Hf]
  simp only [List.filter_toArray,List.filter_map]
  rfl
 generalize hl : (m.zip bs).filter (fun p=>!seen.contains p.2) = l at hleft
 have hborn : ∀ p ∈ l,p.2 < clk:=fun p hp=>by
  rw [← hl] at hp
  exact hborn0 p (List.mem_filter.1 hp).1
 have e1 : ((l.map fun p=>(⟨kv p.1.1,vv p.1.2,p.2⟩ : MapEntry)).toArray).filter (fun x=>decide (x.born < clk)) = (l.map fun p=>(⟨kv p.1.1,vv p.1.2,p.2⟩ : MapEntry)).toArray:=by
  apply Array.filter_eq_self.2
  intro x hx
  obtain ⟨p,hp,rfl⟩:=List.mem_map.1 (Array.mem_toList_iff.2 hx)
  simpa using hborn p hp
 have e2 : ((l.map fun p=>(⟨kv p.1.1,vv p.1.2,p.2⟩ : MapEntry)).toArray).filter (fun x=>decide (x.born ≥ clk)) = #[]:=by
  rw [Array.filter_eq_empty_iff]
  intro x hx
  obtain ⟨p,hp,rfl⟩:=List.mem_map.1 (Array.mem_toList_iff.2 hx)
  have:=hborn p hp
  simp; omega
 cases l with
 | nil =>
  have hrun : (Instr.next (.pointer (some ⟨b,0,none⟩)) false ty).run P w = .ok (.tuple #[.bool false]) w:=by
   simp only [Instr.next,getObj,Sem.run_bind,Sem.run,hit,hb,Result.andThen,htest,Bool.false_eq_true,if_false,hleft,e1,e2]
   simp [choose,Sem.run,Question.forced]
  refine Yd (v:=.tuple #[.bool false]) (w':=w) (by simp only [execOp,hx,Sem.run_bind,hrun]; rfl) ?_
  exact k0 (by unfold Yn; rw [hl]; rfl) _ (S.put (by simpa using hd))
 | cons q0 qs =>
  have hch : ∃ (j : Nat) (w1 : World),j < (q0 :: qs).length ∧ w1.heap = w.heap ∧ Keep [] w w1 ∧ (choose (Question.mapNext (q0 :: qs).length)).run P w = .ok j w1:=by
   by_cases hf : (q0 :: qs).length ≤ 1
   ·exact ⟨0,w,by simp,rfl,Keep.refl _ _,by simp only [choose,Sem.run,Question.forced,decide_eq_true_eq,hf,if_true]⟩
   ·exact ⟨_,w.drew,Nat.mod_lt _ (show 0 < (q0 :: qs).length by simp),rfl,⟨rfl,rfl,rfl,Nat.le_refl _,fun _ _ _=>rfl⟩,by
     simp only [choose,Sem.run,Question.forced,decide_eq_true_eq,hf,if_false,Question.cut]
     rfl⟩
  obtain ⟨j,w1,hj,hh,hk1,hrun⟩:=hch
  have hq : (q0 :: qs)[j]? = some (q0 :: qs)[j]:=List.getElem?_eq_getElem hj
  generalize (q0 :: qs)[j] = q at hq
  have hqm : q ∈ (m.zip bs).filter (fun p=>!seen.contains p.2):=by rw [hl]; exact List.mem_of_getElem? hq
  obtain ⟨hq1,hq2⟩:=List.mem_filter.1 hqm
  obtain ⟨e,i0⟩:=q
  have hEj : ((q0 :: qs).map fun p=>(⟨kv p.1.1,vv p.1.2,p.2⟩ : MapEntry)).toArray[j]? = some ⟨kv e.1,vv e.2,i0⟩:=by rw [List.getElem?_toArray,List.getElem?_map,hq]; rfl
  have hEs : ((q0 :: qs).map fun p=>(⟨kv p.1.1,vv p.1.2,p.2⟩ : MapEntry)).toArray.size = (q0 :: qs).length:=by simp
  have hne : (((q0 :: qs).map fun p=>(⟨kv p.1.1,vv p.1.2,p.2⟩ : MapEntry)).toArray).isEmpty = false:=by simp
  generalize ((q0 :: qs).map fun p=>(⟨kv p.1.1,vv p.1.2,p.2⟩ : MapEntry)).toArray = E at hleft e1 e2 hEj hEs hne
  have hset : (setObj b (.mapIter (some bm) clk (seen.push i0) clk)).run P w1 = .ok () { w1 with heap:=w1.heap.setIfInBounds b (.mapIter (some bm) clk (seen.push i0) clk) }:=by
   simp [setObj,Sem.run,hh,hit]
  have hlt : b < w1.heap.size:=by rw [hh]; exact heap_lt hit
  have hrun2 : (Instr.next (.pointer (some ⟨b,0,none⟩)) false ty).run P w = .ok (.tuple #[.bool true,kv e.1,vv e.2]) { w1 with heap:=w1.heap.setIfInBounds b (.mapIter (some bm) clk (seen.push i0) clk) }:=by
   simp only [Instr.next,getObj,Sem.run_bind,Sem.run,hit,hb,Result.andThen,htest,Bool.false_eq_true,if_false,hleft,e1,e2]
   simp only [hne,Bool.false_eq_true,if_false,Array.append_empty,Array.empty_append,Array.size_map,hEs,hrun,Array.getElem?_map,hEj,Option.map_some,Sem.run_bind,hset,Result.andThen]
   rfl
  have hkeep : Keep [b] w { w1 with heap:=w1.heap.setIfInBounds b (.mapIter (some bm) clk (seen.push i0) clk) } :=
   ⟨hk1.os,hk1.tape,hk1.output,by simpa using hk1.size,fun z hz hne=>by
    simp only [List.mem_singleton] at hne
    rw [← hk1.block z hz (by simp)]
    exact Array.getElem?_setIfInBounds_ne (fun e=>hne e.symm)⟩
  refine Yd (v:=.tuple #[.bool true,kv e.1,vv e.2]) (w':={ w1 with heap:=w1.heap.setIfInBounds b (.mapIter (some bm) clk (seen.push i0) clk) }) (by simp only [execOp,hx,Sem.run_bind,hrun2]; rfl) ?_
  refine k1 e (seen.push i0) _ _ (HP hB hq1 (by simpa using hq2)) ⟨i0,by simp,hq1⟩ hkeep ((S.change (e':=.iter b bm clk (seen.push i0) clk) hi hkeep (by simp [LEnt.fp]) ?_ (fun c hc=>.inl hc)).put (by simpa using hd))
  show _ = _
  simp [hlt]
omit [DecidableEq κ] in
theorem KE {x : Operand} {b bm clk : Nat} {m : List (κ × ν)} {bs : List Nat} {seen : Array Nat} {e : κ × ν} (hit : w.heap[b]? = some (.mapIter (some bm) clk seen clk)) (hb : w.heap[bm]? = some (.map (Hf kv vv m bs) clk)) (hB : Qf m.length bs clk) (hl : ∃ j,seen.back? = some j ∧ (e,j) ∈ m.zip bs) (hx : a.eval x = .pointer (some ⟨b,0,none⟩)) :
  Rn P a w (.entry x) ty (.tuple #[kv e.1,vv e.2]):=by
 obtain ⟨j,h1,h2⟩:=hl
 intro d p e' g
 have hf : (Hf kv vv m bs).find? (fun z=>z.born == j) = some ⟨kv e.1,vv e.2,j⟩:=by
  rw [← Array.find?_toList,Hf,List.toList_toArray]
  have hn : (((m.zip bs).map fun p=>(⟨kv p.1.1,vv p.1.2,p.2⟩ : MapEntry)).map (·.born)).Nodup:=by
   rw [List.map_map]
   have : ((fun z : MapEntry=>z.born) ∘ fun p : (κ × ν) × Nat=>(⟨kv p.1.1,vv p.1.2,p.2⟩ : MapEntry)) = fun p=>p.2:=rfl
   rw [this]
   exact CH hB
  exact find_born ⟨kv e.1,vv e.2,j⟩ _ hn (by
   rw [List.mem_map]
   exact ⟨(e,j),h2,rfl⟩)
 simp [execOp,hx,Instr.entry,getObj,Sem.run,hit,hb,h1,hf,Result.andThen]
end
end Go.Proofs.YtdndpbbimcilpaaGreatDoor
