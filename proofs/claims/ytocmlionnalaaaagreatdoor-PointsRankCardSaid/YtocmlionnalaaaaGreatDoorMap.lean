/- Maps. No statement of the seat is proved here. -/
import Derived.Test.YtocmlionnalaaaaGreatDoorMore
import Derived.Laws.IdiomRangeMap
namespace Go.Proofs.YtocmlionnalaaaaGreatDoor
open Go

section
variable {κ ν : Type} [DecidableEq κ]
def Hk (kv : κ → Value) (vv : ν → Value) : List (κ × ν) → Nat → List MapEntry
 | [],_=>[]
 | (k,v) :: m,i=>⟨kv k,vv v,i⟩ :: Hk kv vv m (i + 1)
def Ix (kv : κ → Value) (vv : ν → Value) (m : List (κ × ν)) : Array MapEntry:=(Hk kv vv m 0).toArray
theorem Xs {m : List (κ × ν)} {k : κ} {v : ν} {i : Nat} (h : Mi m k i = none) : Mo m k v = m ++ [(k,v)]:=by
 induction m generalizing i with
 | nil=>rfl
 | cons p m ih =>
  obtain ⟨k',v'⟩:=p
  simp only [Mi] at h
  split at h
  ·cases h
  ·rename_i hne; simp [Mo,hne,ih h]
omit [DecidableEq κ] in
theorem Xt (kv : κ → Value) (vv : ν → Value) : ∀ (m : List (κ × ν)) i,(Hk kv vv m i).length = m.length
 | [],_=>rfl
 | _ :: m,i=>by simp [Hk,Xt kv vv m (i + 1)]
omit [DecidableEq κ] in
theorem Xu (kv : κ → Value) (vv : ν → Value) (k : κ) (v : ν) : ∀ (m : List (κ × ν)) i,Hk kv vv (m ++ [(k,v)]) i = Hk kv vv m i ++ [⟨kv k,vv v,i + m.length⟩]
 | [],i=>by simp [Hk]
 | _ :: m,i=>by simp [Hk,Xu kv vv k v m (i + 1)]; omega
theorem Ut {kv : κ → Value} {vv : ν → Value} {k : κ} {v u : ν} : ∀ {m : List (κ × ν)} {i n : Nat},Mi m k i = some (n,u) → i ≤ n ∧
  Hk kv vv (Mo m k v) i = (Hk kv vv m i).modify (n - i) fun e=>{ e with key:=kv k,val:=vv v }
 | [],_,_,h=>by cases h
 | (k',v') :: m,i,n,h=>by
  simp only [Mi] at h
  split at h
  ·rename_i he; cases h
   simp [Mo,he,Hk]
  ·rename_i hne
   obtain ⟨h1,h2⟩:=Ut (kv:=kv) (vv:=vv) (v:=v) h
   refine ⟨by omega,?_⟩
   obtain ⟨q,rfl⟩ : ∃ q,n = i + 1 + q:=⟨n - (i + 1),by omega⟩
   have e1 : i + 1 + q - i = q + 1:=by omega
   have e2 : i + 1 + q - (i + 1) = q:=by omega
   rw [e2] at h2
   simp [Mo,hne,Hk,h2,e1]
theorem Xv {kv : κ → Value} {vv : ν → Value} {k : κ} {u : ν} : ∀ {m : List (κ × ν)} {i n : Nat},Mi m k i = some (n,u) → ∃ e,(Hk kv vv m i)[n - i]? = some e ∧ e.key = kv k
 | [],_,_,h=>by cases h
 | (k',v') :: m,i,n,h=>by
  simp only [Mi] at h
  split at h
  ·rename_i he; cases h
   exact ⟨⟨kv k',vv u,i⟩,by simp [Hk],by simp [he]⟩
  ·obtain ⟨h1,_⟩:=Ut (kv:=kv) (vv:=vv) (v:=u) h
   obtain ⟨e,he,hk⟩:=Xv (kv:=kv) (vv:=vv) h
   refine ⟨e,?_,hk⟩
   obtain ⟨q,rfl⟩ : ∃ q,n = i + 1 + q:=⟨n - (i + 1),by omega⟩
   have e1 : i + 1 + q - i = q + 1:=by omega
   have e2 : i + 1 + q - (i + 1) = q:=by omega
   rw [e2] at he
   simp [Hk,e1,he]

structure CQ (P : Program) (kt : TypeId) (kv : κ → Value) : Prop where
 chk : ∀ em x w,(Instr.checkKey em 10000 kt (kv x)).run P w = .ok () w
 find : ∀ {ν : Type} (vv : ν → Value) (x : κ) (m : List (κ × ν)) w,(Instr.findKey kt (kv x) (Hk kv vv m 0)).run P w = .ok ((Mi m x 0).map fun p=>(p.1,vv p.2)) w
 same : ∀ x,Instr.sameBits 10000 (kv x) (kv x) = true
end

theorem Vo (P : Program) {ν : Type} (vv : ν → Value) (x : ByteArray) : ∀ (m : List (ByteArray × ν)) (i : Nat),Instr.findNow .string (.string x) (Hk Value.string vv m i) i = some ((Mi m x i).map fun p=>(p.1,vv p.2))
 | [],_=>rfl
 | (k,v) :: m,i=>by
  simp only [Hk,Instr.findNow,Instr.sameNow,Mi]
  have hb : (x == k) = decide (x = k):=by rw [beq_toListBytes,Po]
  rw [hb]
  by_cases h : x = k
  ·simp [h]
  ·simp [h,Vo P vv x m (i + 1)]
theorem Sc {P : Program} {kt : TypeId} (h : P.underlying kt = some .string) : CQ P kt Value.string where
 chk em x w:=by
  rw [show (10000 : Nat) = 9999 + 1 from rfl,Instr.checkKey]
  simp only [Sem.run_bind,run_underlying h,Result.andThen_ok,Sem.run_pure]
 find vv x m w:=by simp [Instr.findKey,Sem.run_bind,run_underlying h,Vo P vv x m 0]
 same x:=by
  rw [Instr.sameBits,beq_toListBytes,Po]
  simp

section
variable {P : Program} {ops : Array Oper} {Q : Exit → Act → World → Prop} {rest : List Oper}
variable {w0 : World} {X : List Nat} {φ : View} {L : List LEnt} {K : List (Nat × Value)} {n : Nat} {a : Act} {w : World}
variable {d : Nat} {ty : TypeId} {pos : String} {after : Array Edge}
variable {κ ν : Type} [DecidableEq κ] {kv : κ → Value} {vv : ν → Value}

omit [DecidableEq κ] in
theorem Xw {T : TypeId} (S : Sx w0 X φ L K n a w) (hd : Nat.blt d n = true) (kv : κ → Value) (vv : ν → Value)
  (k : ∀ a' w' b,b = w.heap.size → Keep [] w w' → Sx w0 X φ (.map b (Ix kv vv ([] : List (κ × ν))) ([] : List (κ × ν)).length :: L) ((d,.map (some b)) :: K) n a' w' → wpList P ops Q rest a' w') :
  wpList P ops Q ({ dst:=some d,op:=.makeMap T none,type:=ty,pos,after,guard:=none } :: rest) a w:=by
 refine Zj (v:=.map (some w.heap.size)) (w':=w.alloc (.map #[] 0)) (by simp [execOp,Instr.makeMap,run_newObj]) ?_
 refine k _ _ w.heap.size rfl (Mt w _) ((S.more (e:=.map w.heap.size (Ix kv vv []) 0) (Mt w _) ?_ (fun c hc=>by cases hc; exact Nat.le_refl _)).put (by simpa using hd))
 exact heap_alloc_new w _
theorem Sx.map_at {i b clk : Nat} {es : Array MapEntry} (S : Sx w0 X φ L K n a w) (hi : L[i]? = some (.map b es clk)) : w.heap[b]? = some (.map es clk):=S.holds _ (List.mem_of_getElem? hi)
theorem Oe {b clk : Nat} {es : Array MapEntry} (h : w.heap[b]? = some (.map es clk)) : (getObj b).run P w = .ok (.map es clk) w:=by simp [getObj,Sem.run,h]
theorem Ws {b clk : Nat} {es : Array MapEntry} (o : Obj) (h : w.heap[b]? = some (.map es clk)) : (setObj b o).run P w = .ok () { w with heap:=w.heap.setIfInBounds b o }:=by simp [setObj,Sem.run,h]
theorem DV {T kt el : TypeId} {b clk : Nat} {m : List (κ × ν)} (hb : w.heap[b]? = some (.map (Ix kv vv m) clk)) (hT : P.underlying T = some (.map kt el)) (hk : CQ P kt kv) {z : Value} (hz : ∀ w,(zeroValue el).run P w = .ok z w) (x : κ) (ok : Bool) :
  (Instr.lookup T (.map (some b)) (kv x) ok).run P w = .ok (if ok then .tuple #[((Xh m x).map vv).getD z,.bool (Xh m x).isSome] else ((Xh m x).map vv).getD z) w:=by
 have hf:=hk.find vv x m w
 cases hm : Mi m x 0 with
 | none=>rw [hm] at hf; cases ok <;> simp [Instr.lookup,Sem.run_bind,run_underlying hT,Oe hb,hk.chk,Ix,hf,hz,Xh,hm]
 | some p=>rw [hm] at hf; cases ok <;> simp [Instr.lookup,Sem.run_bind,run_underlying hT,Oe hb,hk.chk,Ix,hf,Xh,hm]
theorem Ql {T kt el : TypeId} {x y : Operand} {b clk : Nat} {m : List (κ × ν)} {key : κ} {z : ν} (hb : w.heap[b]? = some (.map (Ix kv vv m) clk)) (hT : P.underlying T = some (.map kt el)) (hk : CQ P kt kv) (hz : ∀ w,(zeroValue el).run P w = .ok (vv z) w)
  (hx : a.eval x = .map (some b)) (hy : a.eval y = kv key) : Rn P a w (.lookup T x y false) ty (vv (Cr m key z)):=by
 intro d p e g
 have h:=DV hb hT hk hz key false
 have h2 : ((Xh m key).map vv).getD (vv z) = vv (Cr m key z):=by cases hm : Xh m key <;> simp [Cr,hm]
 simp only [h2] at h
 simp [execOp,hx,hy,h]
theorem Vp {T kt el : TypeId} {x y u : Operand} {i b : Nat} {m : List (κ × ν)} {key : κ} {val : ν} (S : Sx w0 X φ L K n a w) (hi : L[i]? = some (.map b (Ix kv vv m) m.length)) (hT : P.underlying T = some (.map kt el)) (hk : CQ P kt kv)
  (hx : a.eval x = .map (some b)) (hy : a.eval y = kv key) (hu : a.eval u = vv val)
  (k : ∀ w',Keep [b] w w' → Sx w0 X φ (L.set i (.map b (Ix kv vv (Mo m key val)) (Mo m key val).length)) K n a w' → wpList P ops Q rest a w') :
  wpList P ops Q ({ dst:=none,op:=.mapUpdate T x y u,type:=ty,pos,after,guard:=none } :: rest) a w:=by
 have hb:=S.map_at hi
 have hlt : b < w.heap.size:=heap_lt hb
 have hrun : (Instr.mapUpdate T (.map (some b)) (kv key) (vv val)).run P w = .ok () { w with heap:=w.heap.setIfInBounds b (.map (Ix kv vv (Mo m key val)) (Mo m key val).length) }:=by
  have hf:=hk.find vv key m w
  have hfin : ∀ o,(setObj b o).run P w = .ok () { w with heap:=w.heap.setIfInBounds b o }:=fun o=>Ws o hb
  cases hm : Mi m key 0 with
  | none =>
   rw [hm] at hf
   have e1 : Ix kv vv (Mo m key val) = (Ix kv vv m).push ⟨kv key,vv val,m.length⟩:=by
    unfold Ix
    rw [Xs hm,Xu]
    simp
   have e2 : (Mo m key val).length = m.length + 1:=by rw [Xs hm]; simp
   rw [e1,e2]
   simp [Instr.mapUpdate,Sem.run_bind,run_underlying hT,Oe hb,hk.chk,Ix,hf,hfin]
  | some p =>
   obtain ⟨i,u'⟩:=p
   rw [hm] at hf
   obtain ⟨_,h2⟩:=Ut (kv:=kv) (vv:=vv) (v:=val) hm
   obtain ⟨e,he,hke⟩:=Xv (kv:=kv) (vv:=vv) hm
   rw [Nat.sub_zero] at h2 he
   have e1 : Ix kv vv (Mo m key val) = (Ix kv vv m).modify i fun e=>{ e with key:=kv key,val:=vv val }:=by
    unfold Ix
    rw [h2]
    simp
   have e2 : (Mo m key val).length = m.length:=by
    have:=congrArg List.length h2
    simpa [Xt] using this
   rw [e1,e2]
   have hkey : (((Ix kv vv m)[i]?).map (·.key)).getD (kv key) = kv key:=by simp [Ix,he,hke]
   simp [Instr.mapUpdate,Sem.run_bind,run_underlying hT,Oe hb,hk.chk,Ix,hf,Instr.keyThatStays,hk.same,hfin,he,hke]
 refine DM (w':={ w with heap:=w.heap.setIfInBounds b (.map (Ix kv vv (Mo m key val)) (Mo m key val).length) }) (by simp [execOp,hx,hy,hu,hrun]) ?_
 have hkeep : Keep [b] w { w with heap:=w.heap.setIfInBounds b (.map (Ix kv vv (Mo m key val)) (Mo m key val).length) } :=
  ⟨rfl,rfl,rfl,by simp,fun q hq hne=>by simp only [List.mem_singleton] at hne; exact Array.getElem?_setIfInBounds_ne (fun e=>hne e.symm)⟩
 refine k _ hkeep (S.change hi hkeep (by simp [LEnt.fp]) ?_ (fun c hc=>.inl hc))
 show _ = _
 simp [hlt]
omit [DecidableEq κ] in
theorem Sx.map_view {i b clk : Nat} {es : Array MapEntry} {Y : List Nat} (S : Sx w0 X φ L K n a w) (hi : L[i]? = some (.map b es clk)) (hY : ∀ c,(LEnt.map b es clk).fp = some c → c ∉ Y) : view w Y b = some (.map es clk):=by
 unfold view
 rw [if_neg (hY b rfl)]
 exact S.map_at hi
end
section
variable {κ ν : Type}
end
section
variable {P : Program} {ops : Array Oper} {Q : Exit → Act → World → Prop} {rest : List Oper}
variable {w0 : World} {X : List Nat} {φ : View} {L : List LEnt} {K : List (Nat × Value)} {n : Nat} {a : Act} {w : World}
variable {d : Nat} {ty : TypeId} {pos : String} {after : Array Edge}
variable {κ ν : Type} {kv : κ → Value} {vv : ν → Value}
end
section
variable {κ ν : Type}
structure DW (n : Nat) (bs : List Nat) (clk : Nat) : Prop where
 len : bs.length = n
 inc : bs.Pairwise (· < ·)
 lt : ∀ b ∈ bs,b < clk
theorem DW.add {n clk : Nat} {bs : List Nat} (h : DW n bs clk) : DW (n + 1) (bs ++ [clk]) (clk + 1):=by
 refine ⟨by simp [h.len],?_,?_⟩
 ·rw [List.pairwise_append]
  exact ⟨h.inc,List.pairwise_singleton _ _,fun a ha b hb=>by rw [List.mem_singleton] at hb; subst hb; exact h.lt a ha⟩
 ·intro b hb
  rcases List.mem_append.1 hb with hb | hb
  ·have:=h.lt b hb; omega
  ·rw [List.mem_singleton] at hb; omega
end
section
variable {P : Program} {ops : Array Oper} {Q : Exit → Act → World → Prop} {rest : List Oper}
variable {w0 : World} {X : List Nat} {φ : View} {L : List LEnt} {K : List (Nat × Value)} {n : Nat} {a : Act} {w : World}
variable {d : Nat} {ty : TypeId} {pos : String} {after : Array Edge}
variable {κ ν : Type} [DecidableEq κ] {kv : κ → Value} {vv : ν → Value}
end
end Go.Proofs.YtocmlionnalaaaaGreatDoor
