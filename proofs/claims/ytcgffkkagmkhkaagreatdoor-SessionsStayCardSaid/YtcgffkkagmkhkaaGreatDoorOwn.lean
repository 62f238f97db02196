/- More rules for slices that are owned: parts of them,clearing,parameters that a callee turns. No statement of the seat is proved here. -/
import Derived.Test.YtcgffkkagmkhkaaGreatDoorLib
namespace Go.Proofs.YtcgffkkagmkhkaaGreatDoor
open Go
section
variable {P : Program} {ops : Array Oper} {Q : Exit → Act → World → Prop} {rest : List Oper}
variable {w0 : World} {X : List Nat} {φ : View} {L : List LEnt} {K : List (Nat × Value)} {n : Nat} {a : Act} {w : World}
variable {d : Nat} {ty : TypeId} {pos : String} {after : Array Edge}

theorem Ys {v : Value} {l : List Value} (h : v.oneCell' = true) (k : l.all (·.oneCell') = true) : (v :: l).all (·.oneCell') = true:=by simp only [List.all_cons,h,k,Bool.and_self]
def SubV (k : Nat) (v : Value) (l h : Nat) (u : Value) : Prop :=
 ∃ ao m cap,v = .slice ao m cap ∧ u = .slice (if cap = l then ao else ao.map (·.add (l * k))) (h - l) (cap - l) ∧ l ≤ h ∧ h ≤ m ∧ m ≤ cap
theorem SubV.len {k l h : Nat} {v u : Value} (hu : SubV k v l h u) : Eo u (h - l):=by
 obtain ⟨ao,m,cap,_,rfl,_⟩:=hu
 exact ⟨_,_,rfl⟩
section subs
variable {T el TE : TypeId} {x y y' : Operand} {v : Value} {i k m by_ : Nat} {zl zh : Int} {k1 k2 : IntKind} {cs : List Value}
variable (h : SlT P T el k by_) (S : Sx w0 X φ L K n a w) (hi : L[i]? = some (.own v TE k m cs)) (hx : a.eval x = v)
include h S hi hx
end subs
section typed
variable {α : Type} {enc : α → List Value} {k : Nat}
theorem SubV.block {k : Nat} {zh : Int} {v u : Value} (hu : SubV k v (0 : Int).toNat zh.toNat u) : u.ownBlock = v.ownBlock:=by
 obtain ⟨ao,m,cap,rfl,rfl,_,h2,h3⟩:=hu
 have hz : (0 : Int).toNat = 0:=rfl
 rw [hz]
 split
 ·cases ao <;> rfl
 ·cases ao with
  | none=>rfl
  | some ad=>cases ad; rename_i b o sp; cases sp <;> simp [Addr.add,Value.ownBlock]
theorem FG {β : Type} {l : List β} {i : Nat} {e : β} (h : l[i]? = some e) : l.set i e = l:=by
 obtain ⟨h1,h2⟩:=List.getElem?_eq_some_iff.1 h
 subst h2
 exact List.set_getElem_self h1
theorem FH {e : LEnt} : fps [e] = e.fp.toList:=by
 cases h : e.fp <;> simp [fps,h]
theorem Kb (e : LEnt) : (fps [e]).Nodup:=by
 rw [FH]; cases e.fp <;> simp
theorem Lh (e : LEnt) : ∀ b ∈ fps [e],b ∈ e.fp.toList:=fun b h=>by rwa [FH] at h
end typed
theorem Nv {op : Op} {f : FuncId} {vs : Array Value} {Φ : View → Value → World → Prop} (i : Nat) {e : LEnt} (S : Sx w0 X φ L K n a w) (hi : L[i]? = some e) (e' : Value → LEnt)
  (hr : ∀ dst,(execOp a.eval { dst,op,type:=ty,pos,after,guard:=none }).run P w = .ok (.enter f vs) w) (hc : Calls P f vs w (Ret w e.fp.toList Φ)) (hd : Nat.blt d n = true)
  (he : ∀ τ v w',Φ τ v w' → (e' v).holds w' ∧ ∀ c,(e' v).fp = some c → e.fp = some c)
  (k : ∀ v a' w',Φ (newer w w') v w' → Keep e.fp.toList w w' → New w φ L → Sx w0 X φ (L.set i (e' v)) ((d,v) :: K) n a' w' → wpList P ops Q rest a' w') :
  wpList P ops Q ({ dst:=some d,op,type:=ty,pos,after,guard:=none } :: rest) a w:=by
 refine wpList_plain rfl fun K' hK=>?_
 unfold Oper.wp
 rw [hr,Oper.upon_enter]
 refine hc.mono ?_
 rintro x w' ⟨v,rfl,hk,hΦ⟩
 obtain ⟨h1,h2⟩:=he _ _ _ hΦ
 refine hK _ _ (k v _ w' hΦ hk S.new ((S.change hi hk (fun y hy=>by simpa using hy) h1 (fun c hc=>.inl (h2 c hc))).put (by simpa using hd)))
end
def Grp (w w' : World) (X : List Nat) (Ls : List LEnt) : Prop:=(∀ e ∈ Ls,e.holds w') ∧ (fps Ls).Nodup ∧ ∀ b ∈ fps Ls,b ∈ X ∨ w.heap.size ≤ b
theorem Jg (e : LEnt) (L : List LEnt) : fps (e :: L) = e.fp.toList ++ fps L:=by
 cases h : e.fp <;> simp [fps,h]
theorem Ke : fps [] = []:=rfl
theorem Xc (L L' : List LEnt) : fps (L ++ L') = fps L ++ fps L':=by simp [fps]
theorem HR (L : List LEnt) : (List.range L.length).filterMap (L[·]?) = L:=by
 induction L with
 | nil=>rfl
 | cons e L ih =>
  rw [List.length_cons,List.range_succ_eq_map,List.filterMap_cons]
  simp only [List.getElem?_cons_zero,List.filterMap_map]
  congr 1
section
variable {P : Program} {ops : Array Oper} {Q : Exit → Act → World → Prop} {rest : List Oper}
variable {w0 : World} {X : List Nat} {φ : View} {L : List LEnt} {K : List (Nat × Value)} {n : Nat} {a : Act} {w : World}
variable {d : Nat} {ty : TypeId} {pos : String} {after : Array Edge}
theorem Sx.permL {L' : List LEnt} (S : Sx w0 X φ L K n a w) (hp : L'.Perm L) : Sx w0 X φ L' K n a w :=
 { S with
  holds:=fun e he=>S.holds e (hp.subset he)
  nodup:=(hp.filterMap LEnt.fp).nodup_iff.2 S.nodup
  sep:=fun b hb=>S.sep b ((hp.filterMap LEnt.fp).subset hb) }
theorem Sx.pk {Ls Lr : List LEnt} (S : Sx w0 X φ L K n a w) (is js : List Nat) (hp : (is ++ js).isPerm (List.range L.length) = true) (hA : is.filterMap (L[·]?) = Ls) (hB : js.filterMap (L[·]?) = Lr) : Sx w0 X φ (Ls ++ Lr) K n a w:=by
 refine S.permL ?_
 have h:=(List.isPerm_iff.1 hp).filterMap (L[·]?)
 rw [HR,List.filterMap_append,hA,hB] at h
 exact h
theorem Sx.grp {Ls Lr : List LEnt} (S : Sx w0 X φ L K n a w) (is js : List Nat) (hp : (is ++ js).isPerm (List.range L.length) = true) (hA : is.filterMap (L[·]?) = Ls) (hB : js.filterMap (L[·]?) = Lr) : Grp w0 w X Ls:=by
 have S':=(S.pk is js hp hA hB).drop (List.sublist_append_left _ _)
 exact ⟨S'.holds,S'.nodup,fun b hb=>(S'.sep b hb).2.1.symm⟩
theorem Sx.ndg {Ls Lr : List LEnt} {Y : List Nat} (S : Sx w0 X φ L K n a w) (is js : List Nat) (hp : (is ++ js).isPerm (List.range L.length) = true) (hA : is.filterMap (L[·]?) = Ls) (hB : js.filterMap (L[·]?) = Lr) (hY : Y = fps Ls) : Y.Nodup:=by
 have S':=(S.pk is js hp hA hB).drop (List.sublist_append_left _ _)
 rw [hY]
 exact S'.nodup
theorem Sx.regrp {Ls Lr Ls' : List LEnt} {w' : World} (S : Sx w0 X φ (Ls ++ Lr) K n a w) (k : Keep (fps Ls) w w') (h : Grp w w' (fps Ls) Ls') : Sx w0 X φ (Ls' ++ Lr) K n a w':=by
 have hnd:=S.nodup
 rw [Xc,List.nodup_append] at hnd
 have hl : ∀ y ∈ fps Ls,y ∈ fps (Ls ++ Lr):=fun y hy=>by rw [Xc]; exact List.mem_append_left _ hy
 have hr : ∀ y ∈ fps Lr,y ∈ fps (Ls ++ Lr):=fun y hy=>by rw [Xc]; exact List.mem_append_right _ hy
 obtain ⟨g1,g2,g3⟩:=h
 refine ⟨S.keep.step k fun y hy=>(S.sep y (hl y hy)).2.1,S.emb.keep k fun y hy=>(S.sep y (hl y hy)).1,S.fresh,?_,?_,?_,S.nodefer,S.size,S.slots⟩
 ·intro e he
  rcases List.mem_append.1 he with he | he
  ·exact g1 e he
  ·exact (S.holds e (List.mem_append_right _ he)).keep k fun b hb hc=>hnd.2.2 b hc b (List.mem_filterMap.2 ⟨e,he,hb⟩) rfl
 ·rw [Xc,List.nodup_append]
  refine ⟨g2,hnd.2.1,fun x hx y hy hxy=>?_⟩
  subst hxy
  rcases g3 x hx with h | h
  ·exact hnd.2.2 x h x hy rfl
  ·have:=(S.sep x (hr x hy)).2.2
   omega
 ·intro b hb
  rw [Xc] at hb
  rcases List.mem_append.1 hb with hb | hb
  ·obtain ⟨e,he,hc⟩:=Tq hb
   have hlt:=(g1 e he).lt hc
   rcases g3 b hb with h | h
   ·have:=S.sep b (hl b h)
    exact ⟨this.1,this.2.1,hlt⟩
   ·refine ⟨?_,.inl (Nat.le_trans S.keep.size h),hlt⟩
    cases hφ : φ b with
    | none=>rfl
    | some o=>have:=heap_lt (S.emb b o hφ); omega
  ·have:=S.sep b (hr b hb)
   exact ⟨this.1,this.2.1,Nat.lt_of_lt_of_le this.2.2 k.size⟩
theorem Qc {op : Op} {f : FuncId} {vs : Array Value} {Φ : View → Value → World → Prop} {Ls Lr : List LEnt} {Y : List Nat} (is js : List Nat) (S : Sx w0 X φ L K n a w)
  (hp : (is ++ js).isPerm (List.range L.length) = true) (hA : is.filterMap (L[·]?) = Ls) (hB : js.filterMap (L[·]?) = Lr) (hY : Y = fps Ls)
  (hr : ∀ dst,(execOp a.eval { dst,op,type:=ty,pos,after,guard:=none }).run P w = .ok (.enter f vs) w) (hc : Calls P f vs w (Ret w Y Φ)) (hd : Nat.blt d n = true)
  (k : ∀ v a' w',Φ (newer w w') v w' → Keep Y w w' → New w φ L → (∀ Ls',Grp w w' Y Ls' → Sx w0 X φ (Ls' ++ Lr) ((d,v) :: K) n a' w') → wpList P ops Q rest a' w') :
  wpList P ops Q ({ dst:=some d,op,type:=ty,pos,after,guard:=none } :: rest) a w:=by
 refine wpList_plain rfl fun K' hK=>?_
 unfold Oper.wp
 rw [hr,Oper.upon_enter]
 refine hc.mono ?_
 rintro e w' ⟨v,rfl,hk,hΦ⟩
 refine hK _ _ (k v _ w' hΦ hk S.new fun Ls' hg=>?_)
 subst hY
 exact ((S.pk is js hp hA hB).regrp hk hg).put (by simpa using hd)
theorem BI {β : Type} (zs : List β) (hk : 0 < zs.length) : ∀ n : Nat,(List.range (n * zs.length)).map (fun i=>zs[i % zs.length]'(Nat.mod_lt _ hk)) = (List.replicate n zs).flatten
 | 0=>by simp
 | n + 1=>by
  rw [Nat.add_mul,Nat.one_mul,Nat.add_comm,List.range_add,List.map_append,List.replicate_succ,List.flatten_cons,← BI zs hk n]
  congr 1
  ·apply List.ext_getElem
   ·simp
   ·intro i h1 h2
    simp only [List.getElem_map,List.getElem_range]
    have : i % zs.length = i:=Nat.mod_eq_of_lt (by simpa using h2)
    simp only [this]
  ·rw [List.map_map]
   refine List.map_congr_left fun i _=>?_
   simp only [Function.comp,Nat.add_mod_left]
theorem mk_lo {n : Int} (h : (decide (0 ≤ n) && decide (n < 1073741824)) = true) : 0 ≤ n:=by simp at h; omega
theorem mk_hi {n : Int} (h : (decide (0 ≤ n) && decide (n < 1073741824)) = true) : n < 1073741824:=by simp at h; omega
theorem HS {α : Type} {enc : α → List Value} {T el k by_ : Nat} {x : Operand} {m : Int} {Z : α} (S : Sx w0 X φ L K n a w) (hT : SlT P T el k by_) (hE : Enc k enc) (hz : (P.info? el).map (fun i=>i.zero.map fun z=>z.cells.toList) = some (some (enc Z))) (hb : Nat.ble by_ 65536 = true) (hk : Nat.blt 0 k = true)
  (hx : a.eval x = .int .i64 m) (h0 : 0 ≤ m) (h1 : m < 1073741824) (hd : Nat.blt d n = true)
  (kk : ∀ a' w' b,b = w.heap.size → Keep [] w w' → Sx w0 X φ (.own (.slice (some ⟨b,0,none⟩) m.toNat m.toNat) el k (List.replicate m.toNat Z).length ((List.replicate m.toNat Z).flatMap enc) :: L) ((d,.slice (some ⟨b,0,none⟩) m.toNat m.toNat) :: K) n a' w' → wpList P ops Q rest a' w') :
  wpList P ops Q ({ dst:=some d,op:=.makeSlice T x x,type:=ty,pos,after,guard:=none } :: rest) a w:=by
 obtain ⟨hu,hs,inf,z,hi,hiz,hsz,hby,hzs⟩:=hT
 have hzl : z.cells.toList = enc Z:=by rw [hi] at hz; simpa [hiz] using hz
 have hb' : by_ ≤ 65536:=by simpa using hb
 have hk' : 0 < k:=by simpa using hk
 have hbytes : (inf.bytes : Int) * m ≤ 281474976710656:=by
  rw [hby]
  have : (by_ : Int) * m ≤ 65536 * 1073741824:=Int.mul_le_mul (by omega) (by omega) h0 (by omega)
  omega
 have hr:=run_make (P:=P) w T el inf z hu hi hiz .i64 .i64 m m h0 (Int.le_refl _) hbytes (by omega)
 rw [hsz] at hr
 have hlist : (List.replicate m.toNat Z).flatMap enc = (List.replicate m.toNat z.cells.toList).flatten:=by
  rw [hzl,List.flatMap_replicate]
 have hcells : madeCells z.cells (m.toNat * k) = ((List.replicate m.toNat Z).flatMap enc).toArray:=by
  have hl : z.cells.toList.length = k:=by simpa using hzs
  rw [hlist,← BI z.cells.toList (by omega) m.toNat,show m.toNat * k = m.toNat * z.cells.toList.length by rw [hl]]
  apply Array.ext'
  unfold madeCells
  simp only [Array.toList_map,Array.toList_range]
  refine List.map_congr_left fun i _=>?_
  have hlt : i % z.cells.size < z.cells.size:=Nat.mod_lt _ (by omega)
  rw [getElem!_pos z.cells (i % z.cells.size) hlt]
  simp only [Array.getElem_toList,Array.length_toList]
 refine CZ (v:=.slice (some ⟨w.heap.size,0,none⟩) m.toNat m.toNat) (w':=w.alloc (.cells ((List.replicate m.toNat Z).flatMap enc).toArray el)) ?_ ?_
 ·have he : execOp a.eval { dst:=some d,op:=.makeSlice T x x,type:=ty,pos,after,guard:=none } = (do pure (.value (← Instr.makeSlice T (a.eval x) (a.eval x)))):=rfl
  rw [he,hx,Sem.run_bind,hr,hcells]
  rfl
 ·refine kk _ _ w.heap.size rfl (Md w _) (((S.more (e:=.own (.slice (some ⟨w.heap.size,0,none⟩) m.toNat m.toNat) el k (List.replicate m.toNat Z).length ((List.replicate m.toNat Z).flatMap enc)) (Md w _) ?_ ?_)).put (by simpa using hd))
  ·have hlen : ((List.replicate m.toNat Z).flatMap enc).length = (List.replicate m.toNat Z).length * k:=hE.flat _
   refine ⟨hlen,.inr ⟨w.heap.size,m.toNat,((List.replicate m.toNat Z).flatMap enc).toArray,by rw [List.length_replicate],Nat.zero_le _,?_,by rw [List.length_replicate]; exact Nat.le_refl _,by simp [maxLen]; omega,by simpa using hlen,?_⟩⟩
   ·show (w.alloc _).heap[w.heap.size]? = _
    rw [heap_alloc_new]
   ·rw [← hlen]
    exact List.take_of_length_le (Nat.le_refl _)
  ·intro b hb; cases hb; exact Nat.le_refl _
end
end Go.Proofs.YtcgffkkagmkhkaaGreatDoor
