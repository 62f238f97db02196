/- Maps. No statement of the seat is proved here. -/
import Derived.Test.YthlanmcejeohmaaGreatDoorMore
import Derived.Laws.IdiomRangeMap
namespace Go.Proofs.YthlanmcejeohmaaGreatDoor
open Go

section
variable {κ ν : Type} [DecidableEq κ]
def Fp (kv : κ → Value) (vv : ν → Value) : List (κ × ν) → Nat → List MapEntry
 | [],_=>[]
 | (k,v) :: m,i=>⟨kv k,vv v,i⟩ :: Fp kv vv m (i + 1)
def En (kv : κ → Value) (vv : ν → Value) (m : List (κ × ν)) : Array MapEntry:=(Fp kv vv m 0).toArray
theorem Vz {m : List (κ × ν)} {k : κ} {v : ν} {i : Nat} (h : Ip m k i = none) : Fz m k v = m ++ [(k,v)]:=by
 induction m generalizing i with
 | nil=>rfl
 | cons p m ih =>
  obtain ⟨k',v'⟩:=p
  simp only [Ip] at h
  split at h
  ·cases h
  ·rename_i hne; simp [Fz,hne,ih h]
omit [DecidableEq κ] in
theorem Tf (kv : κ → Value) (vv : ν → Value) : ∀ (m : List (κ × ν)) i,(Fp kv vv m i).length = m.length
 | [],_=>rfl
 | _ :: m,i=>by simp [Fp,Tf kv vv m (i + 1)]
omit [DecidableEq κ] in
theorem Wa (kv : κ → Value) (vv : ν → Value) (k : κ) (v : ν) : ∀ (m : List (κ × ν)) i,Fp kv vv (m ++ [(k,v)]) i = Fp kv vv m i ++ [⟨kv k,vv v,i + m.length⟩]
 | [],i=>by simp [Fp]
 | _ :: m,i=>by simp [Fp,Wa kv vv k v m (i + 1)]; omega
theorem Tg {kv : κ → Value} {vv : ν → Value} {k : κ} {v u : ν} : ∀ {m : List (κ × ν)} {i n : Nat},Ip m k i = some (n,u) → i ≤ n ∧
  Fp kv vv (Fz m k v) i = (Fp kv vv m i).modify (n - i) fun e=>{ e with key:=kv k,val:=vv v }
 | [],_,_,h=>by cases h
 | (k',v') :: m,i,n,h=>by
  simp only [Ip] at h
  split at h
  ·rename_i he; cases h
   simp [Fz,he,Fp]
  ·rename_i hne
   obtain ⟨h1,h2⟩:=Tg (kv:=kv) (vv:=vv) (v:=v) h
   refine ⟨by omega,?_⟩
   obtain ⟨q,rfl⟩ : ∃ q,n = i + 1 + q:=⟨n - (i + 1),by omega⟩
   have e1 : i + 1 + q - i = q + 1:=by omega
   have e2 : i + 1 + q - (i + 1) = q:=by omega
   rw [e2] at h2
   simp [Fz,hne,Fp,h2,e1]
theorem Wb {kv : κ → Value} {vv : ν → Value} {k : κ} {u : ν} : ∀ {m : List (κ × ν)} {i n : Nat},Ip m k i = some (n,u) → ∃ e,(Fp kv vv m i)[n - i]? = some e ∧ e.key = kv k
 | [],_,_,h=>by cases h
 | (k',v') :: m,i,n,h=>by
  simp only [Ip] at h
  split at h
  ·rename_i he; cases h
   exact ⟨⟨kv k',vv u,i⟩,by simp [Fp],by simp [he]⟩
  ·obtain ⟨h1,_⟩:=Tg (kv:=kv) (vv:=vv) (v:=u) h
   obtain ⟨e,he,hk⟩:=Wb (kv:=kv) (vv:=vv) h
   refine ⟨e,?_,hk⟩
   obtain ⟨q,rfl⟩ : ∃ q,n = i + 1 + q:=⟨n - (i + 1),by omega⟩
   have e1 : i + 1 + q - i = q + 1:=by omega
   have e2 : i + 1 + q - (i + 1) = q:=by omega
   rw [e2] at he
   simp [Fp,e1,he]

structure BG (P : Program) (kt : TypeId) (kv : κ → Value) : Prop where
 chk : ∀ em x w,(Instr.checkKey em 10000 kt (kv x)).run P w = .ok () w
 find : ∀ {ν : Type} (vv : ν → Value) (x : κ) (m : List (κ × ν)) w,(Instr.findKey kt (kv x) (Fp kv vv m 0)).run P w = .ok ((Ip m x 0).map fun p=>(p.1,vv p.2)) w
 same : ∀ x,Instr.sameBits 10000 (kv x) (kv x) = true
end

theorem Ts (P : Program) {ν : Type} (vv : ν → Value) (x : ByteArray) : ∀ (m : List (ByteArray × ν)) (i : Nat),Instr.findNow .string (.string x) (Fp Value.string vv m i) i = some ((Ip m x i).map fun p=>(p.1,vv p.2))
 | [],_=>rfl
 | (k,v) :: m,i=>by
  simp only [Fp,Instr.findNow,Instr.sameNow,Ip]
  have hb : (x == k) = decide (x = k):=by rw [beq_toListBytes,Od]
  rw [hb]
  by_cases h : x = k
  ·simp [h]
  ·simp [h,Ts P vv x m (i + 1)]
theorem Pf {P : Program} {kt : TypeId} (h : P.underlying kt = some .string) : BG P kt Value.string where
 chk em x w:=by
  rw [show (10000 : Nat) = 9999 + 1 from rfl,Instr.checkKey]
  simp only [Sem.run_bind,run_underlying h,Result.andThen_ok,Sem.run_pure]
 find vv x m w:=by simp [Instr.findKey,Sem.run_bind,run_underlying h,Ts P vv x m 0]
 same x:=by
  rw [Instr.sameBits,beq_toListBytes,Od]
  simp

section
variable {P : Program} {ops : Array Oper} {Q : Exit → Act → World → Prop} {rest : List Oper}
variable {w0 : World} {X : List Nat} {φ : View} {L : List LEnt} {K : List (Nat × Value)} {n : Nat} {a : Act} {w : World}
variable {d : Nat} {ty : TypeId} {pos : String} {after : Array Edge}
variable {κ ν : Type} [DecidableEq κ] {kv : κ → Value} {vv : ν → Value}

omit [DecidableEq κ] in
theorem Rc {T : TypeId} (S : Sx w0 X φ L K n a w) (hd : Nat.blt d n = true) (kv : κ → Value) (vv : ν → Value)
  (k : ∀ a' w' b,b = w.heap.size → Keep [] w w' → Sx w0 X φ (.map b (En kv vv ([] : List (κ × ν))) ([] : List (κ × ν)).length :: L) ((d,.map (some b)) :: K) n a' w' → wpList P ops Q rest a' w') :
  wpList P ops Q ({ dst:=some d,op:=.makeMap T none,type:=ty,pos,after,guard:=none } :: rest) a w:=by
 refine Vp (v:=.map (some w.heap.size)) (w':=w.alloc (.map #[] 0)) (by simp [execOp,Instr.makeMap,run_newObj]) ?_
 refine k _ _ w.heap.size rfl (Kj w _) ((S.more (e:=.map w.heap.size (En kv vv []) 0) (Kj w _) ?_ (fun c hc=>by cases hc; exact Nat.le_refl _)).put (by simpa using hd))
 exact heap_alloc_new w _
theorem Sx.map_at {i b clk : Nat} {es : Array MapEntry} (S : Sx w0 X φ L K n a w) (hi : L[i]? = some (.map b es clk)) : w.heap[b]? = some (.map es clk):=S.holds _ (List.mem_of_getElem? hi)
theorem Lr {b clk : Nat} {es : Array MapEntry} (h : w.heap[b]? = some (.map es clk)) : (getObj b).run P w = .ok (.map es clk) w:=by simp [getObj,Sem.run,h]
theorem Ut {b clk : Nat} {es : Array MapEntry} (o : Obj) (h : w.heap[b]? = some (.map es clk)) : (setObj b o).run P w = .ok () { w with heap:=w.heap.setIfInBounds b o }:=by simp [setObj,Sem.run,h]
theorem CT {T kt el : TypeId} {b clk : Nat} {m : List (κ × ν)} (hb : w.heap[b]? = some (.map (En kv vv m) clk)) (hT : P.underlying T = some (.map kt el)) (hk : BG P kt kv) {z : Value} (hz : ∀ w,(zeroValue el).run P w = .ok z w) (x : κ) (ok : Bool) :
  (Instr.lookup T (.map (some b)) (kv x) ok).run P w = .ok (if ok then .tuple #[((Oo m x).map vv).getD z,.bool (Oo m x).isSome] else ((Oo m x).map vv).getD z) w:=by
 have hf:=hk.find vv x m w
 cases hm : Ip m x 0 with
 | none=>rw [hm] at hf; cases ok <;> simp [Instr.lookup,Sem.run_bind,run_underlying hT,Lr hb,hk.chk,En,hf,hz,Oo,hm]
 | some p=>rw [hm] at hf; cases ok <;> simp [Instr.lookup,Sem.run_bind,run_underlying hT,Lr hb,hk.chk,En,hf,Oo,hm]
theorem Th {T kt el : TypeId} {x y : Operand} {b clk : Nat} {m : List (κ × ν)} {key : κ} {z : ν} (hb : w.heap[b]? = some (.map (En kv vv m) clk)) (hT : P.underlying T = some (.map kt el)) (hk : BG P kt kv) (hz : ∀ w,(zeroValue el).run P w = .ok (vv z) w)
  (hx : a.eval x = .map (some b)) (hy : a.eval y = kv key) : Rn P a w (.lookup T x y false) ty (vv (Gp m key z)):=by
 intro d p e g
 have h:=CT hb hT hk hz key false
 have h2 : ((Oo m key).map vv).getD (vv z) = vv (Gp m key z):=by cases hm : Oo m key <;> simp [Gp,hm]
 simp only [h2] at h
 simp [execOp,hx,hy,h]
theorem Sx.map_kept {i b clk : Nat} {es : Array MapEntry} {Y : List Nat} {w' : World} (S : Sx w0 X φ L K n a w) (hi : L[i]? = some (.map b es clk)) (hY : ∀ c,(LEnt.map b es clk).fp = some c → c ∉ Y) (hk : Keep Y w w') : w'.heap[b]? = some (.map es clk):=by
 have h:=S.map_at hi
 rw [hk.block b (heap_lt h) (hY b rfl)]
 exact h
theorem Np {T kt el : TypeId} {x y u : Operand} {i b : Nat} {m : List (κ × ν)} {key : κ} {val : ν} (S : Sx w0 X φ L K n a w) (hi : L[i]? = some (.map b (En kv vv m) m.length)) (hT : P.underlying T = some (.map kt el)) (hk : BG P kt kv)
  (hx : a.eval x = .map (some b)) (hy : a.eval y = kv key) (hu : a.eval u = vv val)
  (k : ∀ w',Keep [b] w w' → Sx w0 X φ (L.set i (.map b (En kv vv (Fz m key val)) (Fz m key val).length)) K n a w' → wpList P ops Q rest a w') :
  wpList P ops Q ({ dst:=none,op:=.mapUpdate T x y u,type:=ty,pos,after,guard:=none } :: rest) a w:=by
 have hb:=S.map_at hi
 have hlt : b < w.heap.size:=heap_lt hb
 have hrun : (Instr.mapUpdate T (.map (some b)) (kv key) (vv val)).run P w = .ok () { w with heap:=w.heap.setIfInBounds b (.map (En kv vv (Fz m key val)) (Fz m key val).length) }:=by
  have hf:=hk.find vv key m w
  have hfin : ∀ o,(setObj b o).run P w = .ok () { w with heap:=w.heap.setIfInBounds b o }:=fun o=>Ut o hb
  cases hm : Ip m key 0 with
  | none =>
   rw [hm] at hf
   have e1 : En kv vv (Fz m key val) = (En kv vv m).push ⟨kv key,vv val,m.length⟩:=by
    unfold En
    rw [Vz hm,Wa]
    simp
   have e2 : (Fz m key val).length = m.length + 1:=by rw [Vz hm]; simp
   rw [e1,e2]
   simp [Instr.mapUpdate,Sem.run_bind,run_underlying hT,Lr hb,hk.chk,En,hf,hfin]
  | some p =>
   obtain ⟨i,u'⟩:=p
   rw [hm] at hf
   obtain ⟨_,h2⟩:=Tg (kv:=kv) (vv:=vv) (v:=val) hm
   obtain ⟨e,he,hke⟩:=Wb (kv:=kv) (vv:=vv) hm
   rw [Nat.sub_zero] at h2 he
   have e1 : En kv vv (Fz m key val) = (En kv vv m).modify i fun e=>{ e with key:=kv key,val:=vv val }:=by
    unfold En
    rw [h2]
    simp
   have e2 : (Fz m key val).length = m.length:=by
    have:=congrArg List.length h2
    simpa [Tf] using this
   rw [e1,e2]
   have hkey : (((En kv vv m)[i]?).map (·.key)).getD (kv key) = kv key:=by simp [En,he,hke]
   simp [Instr.mapUpdate,Sem.run_bind,run_underlying hT,Lr hb,hk.chk,En,hf,Instr.keyThatStays,hk.same,hfin,he,hke]
 refine CI (w':={ w with heap:=w.heap.setIfInBounds b (.map (En kv vv (Fz m key val)) (Fz m key val).length) }) (by simp [execOp,hx,hy,hu,hrun]) ?_
 have hkeep : Keep [b] w { w with heap:=w.heap.setIfInBounds b (.map (En kv vv (Fz m key val)) (Fz m key val).length) } :=
  ⟨rfl,rfl,rfl,by simp,fun q hq hne=>by simp only [List.mem_singleton] at hne; exact Array.getElem?_setIfInBounds_ne (fun e=>hne e.symm)⟩
 refine k _ hkeep (S.change hi hkeep (by simp [LEnt.fp]) ?_ (fun c hc=>.inl hc))
 show _ = _
 simp [hlt]
omit [DecidableEq κ] in
theorem Sx.map_view {i b clk : Nat} {es : Array MapEntry} {Y : List Nat} (S : Sx w0 X φ L K n a w) (hi : L[i]? = some (.map b es clk)) (hY : ∀ c,(LEnt.map b es clk).fp = some c → c ∉ Y) : view w Y b = some (.map es clk):=by
 unfold view
 rw [if_neg (hY b rfl)]
 exact S.map_at hi
end
section
variable {κ ν : Type}
def Nx (m : List (κ × ν)) (seen : Array Nat) : List (κ × ν):=(m.zipIdx.filter fun p=>!seen.contains p.2).map (·.1)
theorem Uf (m : List (κ × ν)) : Nx m #[] = m:=by
 unfold Nx
 rw [List.filter_eq_self.2 (fun p _=>by simp)]
 simp [List.zipIdx_map_fst]
theorem Pg (kv : κ → Value) (vv : ν → Value) : ∀ (m : List (κ × ν)) (i : Nat),Fp kv vv m i = (m.zipIdx i).map fun p=>⟨kv p.1.1,vv p.1.2,p.2⟩
 | [],_=>rfl
 | (k,v) :: m,i=>by simp [Fp,List.zipIdx_cons,Pg kv vv m (i + 1)]
theorem Tt {α : Type} {p q : α → Bool} {x : α} (hp : p x = true) (hx : q x = false) : ∀ (l : List α),l.Nodup → x ∈ l → (∀ y ∈ l,y ≠ x → q y = p y) → (l.filter p).Perm (x :: l.filter q)
 | [],_,h,_=>by cases h
 | y :: l,hn,h,ho=>by
  obtain ⟨hy,hn'⟩:=List.nodup_cons.1 hn
  by_cases e : y = x
  ·subst e
   have hs : l.filter p = l.filter q:=List.filter_congr fun z hz=>(ho z (List.mem_cons_of_mem _ hz) (fun e=>hy (e ▸ hz))).symm
   rw [List.filter_cons,List.filter_cons,hp,hx,hs]
   exact List.Perm.refl _
  ·have hxl : x ∈ l:=by
    rcases List.mem_cons.1 h with rfl | h
    ·exact (e rfl).elim
    ·exact h
   have ih:=Tt hp hx l hn' hxl fun z hz=>ho z (List.mem_cons_of_mem _ hz)
   rw [List.filter_cons,List.filter_cons,ho y List.mem_cons_self e]
   cases p y with
   | true=>exact (ih.cons y).trans (List.Perm.swap x y _)
   | false=>exact ih
theorem BH (m : List (κ × ν)) : m.zipIdx.Nodup:=by
 have h : (m.zipIdx.map (·.2)).Nodup:=by
  rw [List.zipIdx_map_snd]
  exact List.nodup_range'
 exact List.Pairwise.of_map (fun p : (κ × ν) × Nat=>p.2) (fun a b hab e=>hab (by rw [e])) h
theorem Yv {m : List (κ × ν)} {seen : Array Nat} {i : Nat} {e : κ × ν} (h : m[i]? = some e) (hs : seen.contains i = false) : (Nx m seen).Perm (e :: Nx m (seen.push i)):=by
 have hm : (e,i) ∈ m.zipIdx:=by
  rw [List.mem_zipIdx_iff_getElem?]; exact h
 have hp:=Tt (p:=fun p : (κ × ν) × Nat=>!seen.contains p.2) (q:=fun p=>!(seen.push i).contains p.2) (x:=(e,i)) (by simp only [hs]; rfl) (by simp) m.zipIdx (BH m) hm (fun y hy hne=>by
  have h2 : y.2 ≠ i:=fun he=>hne (by
   obtain ⟨a,b⟩:=y
   simp only at he
   subst he
   rw [List.mem_zipIdx_iff_getElem?] at hy
   rw [h] at hy
   cases hy; rfl)
  simp [h2])
 exact hp.map (·.1)
end
section
variable {P : Program} {ops : Array Oper} {Q : Exit → Act → World → Prop} {rest : List Oper}
variable {w0 : World} {X : List Nat} {φ : View} {L : List LEnt} {K : List (Nat × Value)} {n : Nat} {a : Act} {w : World}
variable {d : Nat} {ty : TypeId} {pos : String} {after : Array Edge}
variable {κ ν : Type} {kv : κ → Value} {vv : ν → Value}
theorem Ug {T kt el : TypeId} {x : Operand} {bm clk : Nat} {es : Array MapEntry} (S : Sx w0 X φ L K n a w) (hb : w.heap[bm]? = some (.map es clk)) (hT : P.underlying T = some (.map kt el)) (hx : a.eval x = .map (some bm)) (hd : Nat.blt d n = true)
  (k : ∀ a' w' b,b = w.heap.size → Keep [] w w' → Sx w0 X φ (.iter b bm clk #[] clk :: L) ((d,.pointer (some ⟨b,0,none⟩)) :: K) n a' w' → wpList P ops Q rest a' w') :
  wpList P ops Q ({ dst:=some d,op:=.range T x,type:=ty,pos,after,guard:=none } :: rest) a w:=by
 have hrun : (Instr.range T (.map (some bm))).run P w = .ok (.pointer (some ⟨w.heap.size,0,none⟩)) (w.alloc (.mapIter (some bm) clk #[] clk)):=by
  simp [Instr.range,run_underlying hT,Lr hb,run_newObj]
 refine Vp (v:=.pointer (some ⟨w.heap.size,0,none⟩)) (w':=w.alloc (.mapIter (some bm) clk #[] clk)) (by simp [execOp,hx,hrun]) ?_
 refine k _ _ w.heap.size rfl (Kj w _) ((S.more (e:=.iter w.heap.size bm clk #[] clk) (Kj w _) ?_ (fun c hc=>by cases hc; exact Nat.le_refl _)).put (by simpa using hd))
 exact heap_alloc_new w _
theorem Xf {x : Operand} {i b bm : Nat} {m : List (κ × ν)} {seen : Array Nat} (S : Sx w0 X φ L K n a w) (hi : L[i]? = some (.iter b bm m.length seen m.length)) (hb : w.heap[bm]? = some (.map (En kv vv m) m.length)) (hx : a.eval x = .pointer (some ⟨b,0,none⟩)) (hd : Nat.blt d n = true)
  (k0 : Nx m seen = [] → ∀ a',Sx w0 X φ L ((d,.tuple #[.bool false]) :: K) n a' w → wpList P ops Q rest a' w)
  (k1 : ∀ e seen' a' w',(Nx m seen).Perm (e :: Nx m seen') → (∃ j,seen'.back? = some j ∧ m[j]? = some e) → Keep [b] w w' → Sx w0 X φ (L.set i (.iter b bm m.length seen' m.length)) ((d,.tuple #[.bool true,kv e.1,vv e.2]) :: K) n a' w' → wpList P ops Q rest a' w') :
  wpList P ops Q ({ dst:=some d,op:=.next x false,type:=ty,pos,after,guard:=none } :: rest) a w:=by
 have hit : w.heap[b]? = some (.mapIter (some bm) m.length seen m.length):=S.holds _ (List.mem_of_getElem? hi)
 have hsz : (En kv vv m).size = m.length:=by simp [En,Tf]
 have htest : (!seen.isEmpty && !(En kv vv m).isEmpty && (En kv vv m).all (fun x=>decide (x.born ≥ m.length))) = false :=
  next_test_false seen (En kv vv m) m.length m.length (fun x hx=>by
   rw [En,List.toList_toArray,Pg,List.mem_map] at hx
   obtain ⟨p,hp,rfl⟩:=hx
   have:=List.snd_lt_add_of_mem_zipIdx hp
   simpa using this) (Nat.le_refl _)
 have hleft : (En kv vv m).filter (fun e=>!seen.contains e.born) = ((m.zipIdx.filter fun p=>!seen.contains p.2).map fun p=>(⟨kv p.1.1,vv p.1.2,p.2⟩ : MapEntry)).toArray:=by
  rw [En,Pg]
  simp only [List.filter_toArray,List.filter_map]
  rfl
 generalize hl : m.zipIdx.filter (fun p=>!seen.contains p.2) = l at hleft
 have hborn : ∀ p ∈ l,p.2 < m.length:=fun p hp=>by
  rw [← hl] at hp
  have:=List.snd_lt_add_of_mem_zipIdx (List.mem_filter.1 hp).1
  simpa using this
 have e1 : ((l.map fun p=>(⟨kv p.1.1,vv p.1.2,p.2⟩ : MapEntry)).toArray).filter (fun x=>decide (x.born < m.length)) = (l.map fun p=>(⟨kv p.1.1,vv p.1.2,p.2⟩ : MapEntry)).toArray:=by
  apply Array.filter_eq_self.2
  intro x hx
  obtain ⟨p,hp,rfl⟩:=List.mem_map.1 (Array.mem_toList_iff.2 hx)
  simpa using hborn p hp
 have e2 : ((l.map fun p=>(⟨kv p.1.1,vv p.1.2,p.2⟩ : MapEntry)).toArray).filter (fun x=>decide (x.born ≥ m.length)) = #[]:=by
  rw [Array.filter_eq_empty_iff]
  intro x hx
  obtain ⟨p,hp,rfl⟩:=List.mem_map.1 (Array.mem_toList_iff.2 hx)
  have:=hborn p hp
  simp; omega
 cases l with
 | nil =>
  have hrun : (Instr.next (.pointer (some ⟨b,0,none⟩)) false ty).run P w = .ok (.tuple #[.bool false]) w:=by
   simp only [Instr.next,getObj,Sem.run_bind,Sem.run,hit,hb,Result.andThen,htest,Bool.false_eq_true,if_false,hleft,e1,e2]
   simp [choose,Sem.run,Question.forced]
  refine Vp (v:=.tuple #[.bool false]) (w':=w) (by simp only [execOp,hx,Sem.run_bind,hrun]; rfl) ?_
  exact k0 (by unfold Nx; rw [hl]; rfl) _ (S.put (by simpa using hd))
 | cons q0 qs =>
  have hch : ∃ (j : Nat) (w1 : World),j < (q0 :: qs).length ∧ w1.heap = w.heap ∧ Keep [] w w1 ∧ (choose (Question.mapNext (q0 :: qs).length)).run P w = .ok j w1:=by
   by_cases hf : (q0 :: qs).length ≤ 1
   ·exact ⟨0,w,by simp,rfl,Keep.refl _ _,by simp only [choose,Sem.run,Question.forced,decide_eq_true_eq,hf,if_true]⟩
   ·exact ⟨_,w.drew,Nat.mod_lt _ (show 0 < (q0 :: qs).length by simp),rfl,⟨rfl,rfl,rfl,Nat.le_refl _,fun _ _ _=>rfl⟩,by
     simp only [choose,Sem.run,Question.forced,decide_eq_true_eq,hf,if_false,Question.cut]
     rfl⟩
  obtain ⟨j,w1,hj,hh,hk1,hrun⟩:=hch
  have hq : (q0 :: qs)[j]? = some (q0 :: qs)[j]:=List.getElem?_eq_getElem hj
  generalize (q0 :: qs)[j] = q at hq
  have hqm : q ∈ m.zipIdx.filter (fun p=>!seen.contains p.2):=by rw [hl]; exact List.mem_of_getElem? hq
  obtain ⟨hq1,hq2⟩:=List.mem_filter.1 hqm
  obtain ⟨e,i0⟩:=q
  rw [List.mem_zipIdx_iff_getElem?] at hq1
  have hEj : ((q0 :: qs).map fun p=>(⟨kv p.1.1,vv p.1.2,p.2⟩ : MapEntry)).toArray[j]? = some ⟨kv e.1,vv e.2,i0⟩:=by rw [List.getElem?_toArray,List.getElem?_map,hq]; rfl
  have hEs : ((q0 :: qs).map fun p=>(⟨kv p.1.1,vv p.1.2,p.2⟩ : MapEntry)).toArray.size = (q0 :: qs).length:=by simp
  have hne : (((q0 :: qs).map fun p=>(⟨kv p.1.1,vv p.1.2,p.2⟩ : MapEntry)).toArray).isEmpty = false:=by simp
  generalize ((q0 :: qs).map fun p=>(⟨kv p.1.1,vv p.1.2,p.2⟩ : MapEntry)).toArray = E at hleft e1 e2 hEj hEs hne
  have hlt : b < w1.heap.size:=by rw [hh]; exact heap_lt hit
  have hset : (setObj b (.mapIter (some bm) m.length (seen.push i0) m.length)).run P w1 = .ok () { w1 with heap:=w1.heap.setIfInBounds b (.mapIter (some bm) m.length (seen.push i0) m.length) }:=by
   simp [setObj,Sem.run,hh,hit]
  have hrun2 : (Instr.next (.pointer (some ⟨b,0,none⟩)) false ty).run P w = .ok (.tuple #[.bool true,kv e.1,vv e.2]) { w1 with heap:=w1.heap.setIfInBounds b (.mapIter (some bm) m.length (seen.push i0) m.length) }:=by
   simp only [Instr.next,getObj,Sem.run_bind,Sem.run,hit,hb,Result.andThen,htest,Bool.false_eq_true,if_false,hleft,e1,e2]
   simp only [hne,Bool.false_eq_true,if_false,Array.append_empty,Array.empty_append,Array.size_map,hEs,hrun,Array.getElem?_map,hEj,Option.map_some,Sem.run_bind,hset,Result.andThen]
   rfl
  have hkeep : Keep [b] w { w1 with heap:=w1.heap.setIfInBounds b (.mapIter (some bm) m.length (seen.push i0) m.length) } :=
   ⟨hk1.os,hk1.tape,hk1.output,by simpa using hk1.size,fun z hz hne=>by
    simp only [List.mem_singleton] at hne
    rw [← hk1.block z hz (by simp)]
    exact Array.getElem?_setIfInBounds_ne (fun e=>hne e.symm)⟩
  refine Vp (v:=.tuple #[.bool true,kv e.1,vv e.2]) (w':={ w1 with heap:=w1.heap.setIfInBounds b (.mapIter (some bm) m.length (seen.push i0) m.length) }) (by simp only [execOp,hx,Sem.run_bind,hrun2]; rfl) ?_
  refine k1 e (seen.push i0) _ _ (Yv hq1 (by simpa using hq2)) ⟨i0,by simp,hq1⟩ hkeep ((S.change (e':=.iter b bm m.length (seen.push i0) m.length) hi hkeep (by simp [LEnt.fp]) ?_ (fun c hc=>.inl hc)).put (by simpa using hd))
  show _ = _
  simp [hlt]
theorem Sk {x : Operand} {b bm : Nat} {m : List (κ × ν)} {seen : Array Nat} {e : κ × ν} (hit : w.heap[b]? = some (.mapIter (some bm) m.length seen m.length)) (hb : w.heap[bm]? = some (.map (En kv vv m) m.length)) (hl : ∃ j,seen.back? = some j ∧ m[j]? = some e) (hx : a.eval x = .pointer (some ⟨b,0,none⟩)) :
  Rn P a w (.entry x) ty (.tuple #[kv e.1,vv e.2]):=by
 obtain ⟨j,h1,h2⟩:=hl
 intro d p e' g
 have hf : (En kv vv m).find? (fun z=>z.born == j) = some ⟨kv e.1,vv e.2,j⟩:=by
  rw [← Array.find?_toList,En,List.toList_toArray]
  have hn : ((Fp kv vv m 0).map (·.born)).Nodup:=by
   rw [Pg,List.map_map]
   have : ((fun z : MapEntry=>z.born) ∘ fun p : (κ × ν) × Nat=>(⟨kv p.1.1,vv p.1.2,p.2⟩ : MapEntry)) = fun p=>p.2:=rfl
   rw [this,List.zipIdx_map_snd]
   exact List.nodup_range'
  exact find_born ⟨kv e.1,vv e.2,j⟩ _ hn (by
   rw [Pg,List.mem_map]
   exact ⟨(e,j),by rw [List.mem_zipIdx_iff_getElem?]; exact h2,rfl⟩)
 simp [execOp,hx,Instr.entry,getObj,Sem.run,hit,hb,h1,hf,Result.andThen]
end
section
variable {κ ν : Type}
structure CU (n : Nat) (bs : List Nat) (clk : Nat) : Prop where
 len : bs.length = n
 inc : bs.Pairwise (· < ·)
 lt : ∀ b ∈ bs,b < clk
theorem CU.add {n clk : Nat} {bs : List Nat} (h : CU n bs clk) : CU (n + 1) (bs ++ [clk]) (clk + 1):=by
 refine ⟨by simp [h.len],?_,?_⟩
 ·rw [List.pairwise_append]
  exact ⟨h.inc,List.pairwise_singleton _ _,fun a ha b hb=>by rw [List.mem_singleton] at hb; subst hb; exact h.lt a ha⟩
 ·intro b hb
  rcases List.mem_append.1 hb with hb | hb
  ·have:=h.lt b hb; omega
  ·rw [List.mem_singleton] at hb; omega
end
section
variable {P : Program} {ops : Array Oper} {Q : Exit → Act → World → Prop} {rest : List Oper}
variable {w0 : World} {X : List Nat} {φ : View} {L : List LEnt} {K : List (Nat × Value)} {n : Nat} {a : Act} {w : World}
variable {d : Nat} {ty : TypeId} {pos : String} {after : Array Edge}
variable {κ ν : Type} [DecidableEq κ] {kv : κ → Value} {vv : ν → Value}
end
end Go.Proofs.YthlanmcejeohmaaGreatDoor
