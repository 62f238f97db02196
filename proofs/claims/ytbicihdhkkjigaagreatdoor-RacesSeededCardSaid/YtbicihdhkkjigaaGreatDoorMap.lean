/- Maps. No statement of the seat is proved here. -/
import Derived.Test.YtbicihdhkkjigaaGreatDoorMore
import Derived.Laws.IdiomRangeMap
namespace Go.Proofs.YtbicihdhkkjigaaGreatDoor
open Go
section
variable {κ ν:Type}[DecidableEq κ]
def Ly(kv:κ->Value)(vv:ν->Value):List (κ×ν)->Nat->List MapEntry
 |[],_=>[]
 |(k,v)::m,i=>⟨kv k,vv v,i⟩::Ly kv vv m (i+1)
def Mo(kv:κ->Value)(vv:ν->Value)(m:List (κ×ν)):Array MapEntry:=(Ly kv vv m 0).toArray
theorem FW{m:List (κ×ν)}{k:κ}{v:ν}{i:Nat}(h:Rc m k i=none):Jd m k v=m++[(k,v)]:=by
 induction m generalizing i with
 |nil=>rfl
 |cons p m ih=>
  obtain⟨k',v'⟩:=p;simp only[Rc] at h
  split at h
  ·cases h
  ·rename_i hne;simp[Jd,hne,ih h]
omit [DecidableEq κ] in
theorem OO(kv:κ->Value)(vv:ν->Value):∀(m:List (κ×ν)) i,(Ly kv vv m i).length=m.length
 |[],_=>rfl
 |_::m,i=>by simp[Ly,OO kv vv m (i+1)]
omit [DecidableEq κ] in
theorem OP(kv:κ->Value)(vv:ν->Value)(k:κ)(v:ν):∀(m:List (κ×ν)) i,Ly kv vv (m++[(k,v)]) i=Ly kv vv m i++[⟨kv k,vv v,i+m.length⟩]
 |[],i=>by simp[Ly]
 |_::m,i=>by simp[Ly,OP kv vv k v m (i+1)];omega
theorem JQ{kv:κ->Value}{vv:ν->Value}{k:κ}{v u:ν}:∀{m:List (κ×ν)} {i n:Nat},Rc m k i=some (n,u)->i<=n/\
 Ly kv vv (Jd m k v) i=(Ly kv vv m i).modify (n-i) λe=>{e with key:=kv k,val:=vv v}
 |[],_,_,h=>by cases h
 |(k',v')::m,i,n,h=>by
  simp only[Rc] at h
  split at h
  ·rename_i he;cases h
   simp[Jd,he,Ly]
  ·rename_i hne
   obtain⟨h1,h2⟩:=JQ (kv:=kv) (vv:=vv) (v:=v) h
   refine⟨by omega,?_⟩
   obtain⟨q,rfl⟩:∃q,n=i+1+q:=⟨n-(i+1),by omega⟩
   have e1:i+1+q-i=q+1:=by omega
   have e2:i+1+q-(i+1)=q:=by omega
   rw[e2] at h2
   simp[Jd,hne,Ly,h2,e1]
theorem OQ{kv:κ->Value}{vv:ν->Value}{k:κ}{u:ν}:∀{m:List (κ×ν)} {i n:Nat},Rc m k i=some (n,u)->∃e,(Ly kv vv m i)[n-i]? =some e/\e.key=kv k
 |[],_,_,h=>by cases h
 |(k',v')::m,i,n,h=>by
  simp only[Rc] at h
  split at h
  ·rename_i he;cases h
   exact⟨⟨kv k',vv u,i⟩,by simp[Ly],by simp[he]⟩
  ·obtain⟨h1,_⟩:=JQ (kv:=kv) (vv:=vv) (v:=u) h
   obtain⟨e,he,hk⟩:=OQ (kv:=kv) (vv:=vv) h
   refine⟨e,?_,hk⟩
   obtain⟨q,rfl⟩:∃q,n=i+1+q:=⟨n-(i+1),by omega⟩
   have e1:i+1+q-i=q+1:=by omega
   have e2:i+1+q-(i+1)=q:=by omega
   rw[e2] at he
   simp[Ly,e1,he]
structure LX(P:Program)(kt:TypeId)(kv:κ->Value):Prop where
 chk:∀em x w,(Instr.checkKey em 10000 kt (kv x)).run P w= .ok () w
 find:∀{ν:Type} (vv:ν->Value) (x:κ) (m:List (κ×ν)) w,(Instr.findKey kt (kv x) (Ly kv vv m 0)).run P w= .ok ((Rc m x 0).map λp=>(p.1,vv p.2)) w
 same:∀x,Instr.sameBits 10000 (kv x) (kv x)=true
end
theorem KP(P:Program){ν:Type}(vv:ν->Value)(x:ByteArray):∀(m:List (ByteArray×ν)) (i:Nat),Instr.findNow .string (.string x) (Ly Value.string vv m i) i=some ((Rc m x i).map λp=>(p.1,vv p.2))
 |[],_=>rfl
 |(k,v)::m,i=>by
  simp only[Ly,Instr.findNow,Instr.sameNow,Rc]
  have hb:(x==k)=decide (x=k):=by rw[beq_toListBytes,BF]
  rw[hb]
  by_cases h:x=k
  ·simp[h]
  ·simp[h,KP P vv x m (i+1)]
theorem Uz{P:Program}{kt:TypeId}(h:P.underlying kt=some .string):LX P kt Value.string where
 chk em x w:=by
  rw[show (10000:Nat)=9999+1 from rfl,Instr.checkKey];simp only[Sem.run_bind,run_underlying h,Result.andThen_ok,Sem.run_pure]
 find vv x m w:=by simp[Instr.findKey,Sem.run_bind,run_underlying h,KP P vv x m 0]
 same x:=by
  rw[Instr.sameBits,beq_toListBytes,BF];simp
section
variable {P:Program}{ops:Array Oper}{Q:Exit->Act->World->Prop}{rest:List Oper}
variable {w0:World}{X:List Nat}{φ:View}{L:List LEnt}{K:List (Nat×Value)}{n:Nat}{a:Act}{w:World}
variable {d:Nat}{ty:TypeId}{pos:String}{after:Array Edge}
variable {κ ν:Type}[DecidableEq κ]{kv:κ->Value}{vv:ν->Value}
omit [DecidableEq κ] in
theorem Zt{T:TypeId}(S:Sx w0 X φ L K n a w)(hd:Nat.blt d n=true)(kv:κ->Value)(vv:ν->Value)
 (k:∀a' w' b,b=w.heap.size->Keep [] w w'->Sx w0 X φ (.map b (Mo kv vv ([]:List (κ×ν))) ([]:List (κ×ν)).length::L) ((d,.map (some b))::K) n a' w'->wpList P ops Q rest a' w'):
 wpList P ops Q ({dst:=some d,op:=.makeMap T none,type:=ty,pos,after,guard:=none}::rest) a w:=by
 refine GO (v:=.map (some w.heap.size)) (w':=w.alloc (.map #[] 0)) (by simp[execOp,Instr.makeMap,run_newObj]) ?_;refine k _ _ w.heap.size rfl (Py w _) ((S.more (e:=.map w.heap.size (Mo kv vv []) 0) (Py w _) ?_ (λc hc=>by cases hc;exact bU _)).put (by simpa using hd));exact heap_alloc_new w _
theorem Sx.map_at{i b clk:Nat}{es:Array MapEntry}(S:Sx w0 X φ L K n a w)(hi:L[i]? =some (.map b es clk)):w.heap[b]? =some (.map es clk):=S.holds _ (List.mem_of_getElem? hi)
theorem Rg{b clk:Nat}{es:Array MapEntry}(h:w.heap[b]? =some (.map es clk)):(getObj b).run P w= .ok (.map es clk) w:=by simp[getObj,Sem.run,h]
theorem BJ{b clk:Nat}{es:Array MapEntry}(o:Obj)(h:w.heap[b]? =some (.map es clk)):(setObj b o).run P w= .ok () {w with heap:=w.heap.setIfInBounds b o}:=by simp[setObj,Sem.run,h]
theorem RY{T kt el:TypeId}{b clk:Nat}{m:List (κ×ν)}(hb:w.heap[b]? =some (.map (Mo kv vv m) clk))(hT:P.underlying T=some (.map kt el))(hk:LX P kt kv){z:Value}(hz:∀w,(zeroValue el).run P w= .ok z w)(x:κ)(ok:Bool):
 (Instr.lookup T (.map (some b)) (kv x) ok).run P w= .ok (if ok then .tuple #[((Ys m x).map vv).getD z,.bool (Ys m x).isSome] else((Ys m x).map vv).getD z) w:=by
 have hf:=hk.find vv x m w
 cases hm:Rc m x 0 with
 |none=>rw[hm] at hf;cases ok<;>simp[Instr.lookup,Sem.run_bind,run_underlying hT,Rg hb,hk.chk,Mo,hf,hz,Ys,hm]
 |some p=>rw[hm] at hf;cases ok<;>simp[Instr.lookup,Sem.run_bind,run_underlying hT,Rg hb,hk.chk,Mo,hf,Ys,hm]
theorem Zu{T kt el:TypeId}{x y:Operand}{b clk:Nat}{m:List (κ×ν)}{key:κ}{z:ν}(hb:w.heap[b]? =some (.map (Mo kv vv m) clk))(hT:P.underlying T=some (.map kt el))(hk:LX P kt kv)(hz:∀w,(zeroValue el).run P w= .ok (vv z) w)
 (hx:a.eval x= .map (some b)) (hy:a.eval y=kv key):Rn P a w (.lookup T x y false) ty (vv (Fi m key z)):=by
 intro d p e g;have h:=RY hb hT hk hz key false;have h2:((Ys m key).map vv).getD (vv z)=vv (Fi m key z):=by cases hm:Ys m key<;>simp[Fi,hm]
 simp only[h2] at h;simp[execOp,hx,hy,h]
theorem UB{T kt el:TypeId}{x y:Operand}{b clk:Nat}{m:List (κ×ν)}{key:κ}{z:ν}(hb:w.heap[b]? =some (.map (Mo kv vv m) clk))(hT:P.underlying T=some (.map kt el))(hk:LX P kt kv)(hz:∀w,(zeroValue el).run P w= .ok (vv z) w)
 (hx:a.eval x= .map (some b)) (hy:a.eval y=kv key):Rn P a w (.lookup T x y true) ty (.tuple #[vv (Fi m key z),.bool (Ys m key).isSome]):=by
 intro d p e g;have h:=RY hb hT hk hz key true;have h2:((Ys m key).map vv).getD (vv z)=vv (Fi m key z):=by cases hm:Ys m key<;>simp[Fi,hm]
 simp only[h2] at h;simp[execOp,hx,hy,h]
theorem Sx.map_kept{i b clk:Nat}{es:Array MapEntry}{Y:List Nat}{w':World}(S:Sx w0 X φ L K n a w)(hi:L[i]? =some (.map b es clk))(hY:∀c,(LEnt.map b es clk).fp=some c->c∉Y)(hk:Keep Y w w'):w'.heap[b]? =some (.map es clk):=by
 have h:=S.map_at hi;rw[hk.block b (heap_lt h) (hY b rfl)];exact h
theorem Xd{T kt el:TypeId}{x y u:Operand}{i b:Nat}{m:List (κ×ν)}{key:κ}{val:ν}(S:Sx w0 X φ L K n a w)(hi:L[i]? =some (.map b (Mo kv vv m) m.length))(hT:P.underlying T=some (.map kt el))(hk:LX P kt kv)
 (hx:a.eval x= .map (some b)) (hy:a.eval y=kv key) (hu:a.eval u=vv val)
 (k:∀w',Keep [b] w w'->Sx w0 X φ (L.set i (.map b (Mo kv vv (Jd m key val)) (Jd m key val).length)) K n a w'->wpList P ops Q rest a w'):
 wpList P ops Q ({dst:=none,op:=.mapUpdate T x y u,type:=ty,pos,after,guard:=none}::rest) a w:=by
 have hb:=S.map_at hi;have hlt:b<w.heap.size:=heap_lt hb;have hrun:(Instr.mapUpdate T (.map (some b)) (kv key) (vv val)).run P w= .ok () {w with heap:=w.heap.setIfInBounds b (.map (Mo kv vv (Jd m key val)) (Jd m key val).length)}:=by
  have hf:=hk.find vv key m w;have hfin:∀o,(setObj b o).run P w= .ok () {w with heap:=w.heap.setIfInBounds b o}:=λo=>BJ o hb
  cases hm:Rc m key 0 with
  |none=>
   rw[hm] at hf;have e1:Mo kv vv (Jd m key val)=(Mo kv vv m).push ⟨kv key,vv val,m.length⟩:=by
    unfold Mo;rw[FW hm,OP];simp
   have e2:(Jd m key val).length=m.length+1:=by rw[FW hm];simp
   rw[e1,e2];simp[Instr.mapUpdate,Sem.run_bind,run_underlying hT,Rg hb,hk.chk,Mo,hf,hfin]
  |some p=>
   obtain⟨i,u'⟩:=p;rw[hm] at hf;obtain⟨_,h2⟩:=JQ (kv:=kv) (vv:=vv) (v:=val) hm;obtain⟨e,he,hke⟩:=OQ (kv:=kv) (vv:=vv) hm;rw[Nat.sub_zero] at h2 he;have e1:Mo kv vv (Jd m key val)=(Mo kv vv m).modify i λe=>{e with key:=kv key,val:=vv val}:=by
    unfold Mo;rw[h2];simp
   have e2:(Jd m key val).length=m.length:=by
    have:=congrArg List.length h2;simpa[OO] using this
   rw[e1,e2];have hkey:(((Mo kv vv m)[i]?).map (·.key)).getD (kv key)=kv key:=by simp[Mo,he,hke]
   simp[Instr.mapUpdate,Sem.run_bind,run_underlying hT,Rg hb,hk.chk,Mo,hf,Instr.keyThatStays,hk.same,hfin,he,hke]
 refine RU (w':={w with heap:=w.heap.setIfInBounds b (.map (Mo kv vv (Jd m key val)) (Jd m key val).length)}) (by simp[execOp,hx,hy,hu,hrun]) ?_;have hkeep:Keep [b] w {w with heap:=w.heap.setIfInBounds b (.map (Mo kv vv (Jd m key val)) (Jd m key val).length)}:=
  ⟨rfl,rfl,rfl,by simp,λq hq hne=>by simp only[bA] at hne;exact Array.getElem?_setIfInBounds_ne (λe=>hne e.symm)⟩
 refine k _ hkeep (S.change hi hkeep (by simp[LEnt.fp]) ?_ (λc hc=>.inl hc));show _=_;simp[hlt]
omit [DecidableEq κ] in
theorem Sx.map_ret{i b clk:Nat}{es:Array MapEntry}(S:Sx w0 X φ L K n a w)(hi:L[i]? =some (.map b es clk))(hX:X=[]):newer w0 w b=some (.map es clk):=by
 unfold newer;have hs:=(S.sep b (Sx.fp_mem hi rfl)).2.1;rw[aQ (by rcases hs with h|h;exact h;subst hX;cases h)];exact S.map_at hi
end
section
variable {κ ν:Type}
theorem KQ{α:Type}{p q:α->Bool}{x:α}(hp:p x=true)(hx:q x=false):∀(l:List α),l.Nodup->x∈l->(∀y∈l,y≠x->q y=p y)->(l.filter p).Perm (x::l.filter q)
 |[],_,h,_=>by cases h
 |y::l,hn,h,ho=>by
  obtain⟨hy,hn'⟩:=bT.1 hn
  by_cases e:y=x
  ·subst e
   have hs:l.filter p=l.filter q:=List.filter_congr λz hz=>(ho z (aM _ hz) (λe=>hy (e ▸ hz))).symm
   rw[List.filter_cons,List.filter_cons,hp,hx,hs]
   exact List.Perm.refl _
  ·have hxl:x∈l:=by
    rcases bB.1 h with rfl|h
    ·exact(e rfl).elim
    ·exact h
   have ih:=KQ hp hx l hn' hxl λz hz=>ho z (aM _ hz);rw[List.filter_cons,List.filter_cons,ho y aN e]
   cases p y with
   |true=>exact(ih.cons y).trans (List.Perm.swap x y _)
   |false=>exact ih
end
section
variable {P:Program}{ops:Array Oper}{Q:Exit->Act->World->Prop}{rest:List Oper}
variable {w0:World}{X:List Nat}{φ:View}{L:List LEnt}{K:List (Nat×Value)}{n:Nat}{a:Act}{w:World}
variable {d:Nat}{ty:TypeId}{pos:String}{after:Array Edge}
variable {κ ν:Type}{kv:κ->Value}{vv:ν->Value}
theorem l_range{T kt el:TypeId}{x:Operand}{bm clk:Nat}{es:Array MapEntry}(S:Sx w0 X φ L K n a w)(hb:w.heap[bm]? =some (.map es clk))(hT:P.underlying T=some (.map kt el))(hx:a.eval x= .map (some bm))(hd:Nat.blt d n=true)
 (k:∀a' w' b,b=w.heap.size->Keep [] w w'->Sx w0 X φ (.iter b bm clk #[] clk::L) ((d,.pointer (some ⟨b,0,none⟩))::K) n a' w'->wpList P ops Q rest a' w'):
 wpList P ops Q ({dst:=some d,op:=.range T x,type:=ty,pos,after,guard:=none}::rest) a w:=by
 have hrun:(Instr.range T (.map (some bm))).run P w= .ok (.pointer (some ⟨w.heap.size,0,none⟩)) (w.alloc (.mapIter (some bm) clk #[] clk)):=by
  simp[Instr.range,run_underlying hT,Rg hb,run_newObj]
 refine GO (v:=.pointer (some ⟨w.heap.size,0,none⟩)) (w':=w.alloc (.mapIter (some bm) clk #[] clk)) (by simp[execOp,hx,hrun]) ?_;refine k _ _ w.heap.size rfl (Py w _) ((S.more (e:=.iter w.heap.size bm clk #[] clk) (Py w _) ?_ (λc hc=>by cases hc;exact bU _)).put (by simpa using hd));exact heap_alloc_new w _
end
section
variable {κ ν:Type}
def Lt(kv:κ->Value)(vv:ν->Value)(m:List (κ×ν))(bs:List Nat):Array MapEntry:=((m.zip bs).map λp=>(⟨kv p.1.1,vv p.1.2,p.2⟩:MapEntry)).toArray
structure Xp(n:Nat)(bs:List Nat)(clk:Nat):Prop where
 len:bs.length=n
 inc:bs.Pairwise (·<·)
 lt:∀b∈bs,b<clk
theorem XQ:Xp ([]:List (κ×ν)).length [] 0:=⟨rfl,.nil,λ_ h=>by cases h⟩
theorem Xp.add{n clk:Nat}{bs:List Nat}(h:Xp n bs clk):Xp (n+1) (bs++[clk]) (clk+1):=by
 refine⟨by simp[h.len],?_,?_⟩
 ·rw[bK];exact⟨h.inc,List.pairwise_singleton _ _,λa ha b hb=>by rw[bA] at hb;subst hb;exact h.lt a ha⟩
 ·intro b hb;rcases bC.1 hb with hb|hb
  ·have:=h.lt b hb;omega
  ·rw[bA] at hb;omega
theorem Xp.del{n clk i:Nat}{bs:List Nat}(h:Xp n bs clk)(hi:i<n):Xp (n-1) (bs.eraseIdx i) clk:=
 ⟨by rw[List.length_eraseIdx,h.len,aQ hi],h.inc.sublist (List.eraseIdx_sublist _ _),λb hb=>h.lt b ((List.eraseIdx_sublist _ _).subset hb)⟩
theorem OR{α β:Type}:∀(l:List α) (k:List β) (i:Nat),l.length=k.length->(l.eraseIdx i).zip (k.eraseIdx i)=(l.zip k).eraseIdx i
 |[],[],i,_=>by simp
 |[],_::_,_,h=>by simp at h
 |_::_,[],_,h=>by simp at h
 |_::l,_::k,0,_=>by simp
 |_::l,_::k,i+1,h=>by simp[OR l k i (by simpa using h)]
theorem OS{α β:Type}(f:α->β):∀(l:List α) (i:Nat),(l.eraseIdx i).map f=(l.map f).eraseIdx i
 |[],_=>by simp
 |_::_,0=>by simp
 |_::l,i+1=>by simp[OS f l i]
theorem II(kind:TypeDesc)(k:Value):∀(es es':List MapEntry) (i:Nat),es.map (λe=>(e.key,e.val))=es'.map (λe=>(e.key,e.val))->Instr.findNow kind k es i=Instr.findNow kind k es' i
 |[],[],_,_=>rfl
 |[],_::_,_,h=>by simp at h
 |_::_,[],_,h=>by simp at h
 |e::es,e'::es',i,h=>by
  simp only[aY,bL,Prod.mk.injEq] at h
  simp only[Instr.findNow,h.1.1,h.1.2,II kind k es es' (i+1) h.2]
theorem DU(kt:TypeId)(k:Value):∀(es es':List MapEntry) (i:Nat),es.map (λe=>(e.key,e.val))=es'.map (λe=>(e.key,e.val))->Instr.findAsking kt k es i=Instr.findAsking kt k es' i
 |[],[],_,_=>rfl
 |[],_::_,_,h=>by simp at h
 |_::_,[],_,h=>by simp at h
 |e::es,e'::es',i,h=>by
  simp only[aY,bL,Prod.mk.injEq] at h
  simp only[Instr.findAsking,h.1.1,h.1.2,DU kt k es es' (i+1) h.2]
theorem QM(kt:TypeId)(k:Value)(es es':List MapEntry)(h:es.map (λe=>(e.key,e.val))=es'.map (λe=>(e.key,e.val))):Instr.findKey kt k es=Instr.findKey kt k es':=by
 unfold Instr.findKey;simp only[II _ k es es' 0 h,DU kt k es es' 0 h]
theorem RZ{kv:κ->Value}{vv:ν->Value}:∀(m:List (κ×ν)) (i:Nat),(Ly kv vv m i).map (λe=>(e.key,e.val))=m.map λp=>(kv p.1,vv p.2)
 |[],_=>rfl
 |_::m,i=>by simp[Ly,RZ m (i+1)]
theorem OT{kv:κ->Value}{vv:ν->Value}:∀(m:List (κ×ν)) (bs:List Nat),bs.length=m.length->(((m.zip bs).map λp=>(⟨kv p.1.1,vv p.1.2,p.2⟩:MapEntry))).map (λe=>(e.key,e.val))=m.map λp=>(kv p.1,vv p.2)
 |[],_,_=>by simp
 |_::_,[],h=>by simp at h
 |_::m,_::bs,h=>by simp[OT m bs (by simpa using h)]
end
section
variable {P:Program}{ops:Array Oper}{Q:Exit->Act->World->Prop}{rest:List Oper}
variable {w0:World}{X:List Nat}{φ:View}{L:List LEnt}{K:List (Nat×Value)}{n:Nat}{a:Act}{w:World}
variable {d:Nat}{ty:TypeId}{pos:String}{after:Array Edge}
variable {κ ν:Type}[DecidableEq κ]{kv:κ->Value}{vv:ν->Value}
theorem LX.findB{kt:TypeId}(hk:LX P kt kv)(x:κ)(m:List (κ×ν))(bs:List Nat)(h:bs.length=m.length)(w:World):(Instr.findKey kt (kv x) (Lt kv vv m bs).toList).run P w= .ok ((Rc m x 0).map λp=>(p.1,vv p.2)) w:=by
 rw[QM kt (kv x) (Lt kv vv m bs).toList (Ly kv vv m 0) (by rw[Lt,List.toList_toArray,OT m bs h,RZ])];exact hk.find vv x m w
theorem JR{k:κ}{u:ν}:∀{m:List (κ×ν)} {i n:Nat},Rc m k i=some (n,u)->i<=n/\n-i<m.length/\CI m k=m.eraseIdx (n-i)
 |[],_,_,h=>by cases h
 |(k',v')::m,i,n,h=>by
  simp only[Rc] at h
  split at h
  ·rename_i he;cases h
   simp[CI,he]
  ·rename_i hne
   obtain⟨h1,h2,h3⟩:=JR h
   obtain⟨q,rfl⟩:∃q,n=i+1+q:=⟨n-(i+1),by omega⟩
   have e1:i+1+q-i=q+1:=by omega
   have e2:i+1+q-(i+1)=q:=by omega
   rw[e2] at h2 h3
   refine⟨by omega,by rw[e1];simp;omega,by simp[CI,hne,h3,e1]⟩
theorem OU{k:κ}:∀{m:List (κ×ν)} {i:Nat},Rc m k i=none->CI m k=m
 |[],_,_=>rfl
 |(k',v')::m,i,h=>by
  simp only[Rc] at h
  split at h
  ·cases h
  ·rename_i hne;simp[CI,hne,OU h]
theorem OV{k:κ}{u v:ν}:∀{m:List (κ×ν)} {i n:Nat},Rc m k i=some (n,u)->i<=n/\n-i<m.length/\Jd m k v=m.set (n-i) (k,v)
 |[],_,_,h=>by cases h
 |(k',v')::m,i,n,h=>by
  simp only[Rc] at h
  split at h
  ·rename_i he;cases h
   simp[Jd,he]
  ·rename_i hne
   obtain⟨h1,h2,h3⟩:=OV (v:=v) h
   obtain⟨q,rfl⟩:∃q,n=i+1+q:=⟨n-(i+1),by omega⟩
   have e1:i+1+q-i=q+1:=by omega
   have e2:i+1+q-(i+1)=q:=by omega
   rw[e2] at h2 h3
   refine⟨by omega,by rw[e1];simp;omega,by simp[Jd,hne,h3,e1]⟩
omit [DecidableEq κ] in
theorem VI{k:κ}{v:ν}:∀(m:List (κ×ν)) (bs:List Nat) (i:Nat),bs.length=m.length->(((m.set i (k,v)).zip bs).map λp=>(⟨kv p.1.1,vv p.1.2,p.2⟩:MapEntry))=((m.zip bs).map λp=>(⟨kv p.1.1,vv p.1.2,p.2⟩:MapEntry)).modify i λe=>{e with key:=kv k,val:=vv v}
 |[],_,_,_=>by simp
 |_::_,[],_,h=>by simp at h
 |_::m,_::bs,0,_=>by simp
 |_::m,_::bs,i+1,h=>by simp[VI m bs i (by simpa using h)]
theorem OW{k:κ}{u:ν}:∀{m:List (κ×ν)} {bs:List Nat} {i j:Nat},bs.length=m.length->Rc m k j=some (i,u)->∃e,((m.zip bs).map λp=>(⟨kv p.1.1,vv p.1.2,p.2⟩:MapEntry))[i-j]? =some e/\e.key=kv k
 |[],_,_,_,_,h=>by cases h
 |_::_,[],_,_,h,_=>by simp at h
 |(k',v')::m,b::bs,i,j,hl,h=>by
  simp only[Rc] at h
  split at h
  ·rename_i he;cases h
   exact⟨⟨kv k',vv u,b⟩,by simp,by simp[he]⟩
  ·obtain⟨h1,_⟩:=JR h
   obtain⟨e,he,hk⟩:=OW (bs:=bs) (by simpa using hl) h
   refine⟨e,?_,hk⟩
   obtain⟨q,rfl⟩:∃q,i=j+1+q:=⟨i-(j+1),by omega⟩
   have e1:j+1+q-j=q+1:=by omega
   have e2:j+1+q-(j+1)=q:=by omega
   rw[e2] at he
   simp[e1,he]
omit [DecidableEq κ] in
theorem UC{T:TypeId}(S:Sx w0 X φ L K n a w)(hd:Nat.blt d n=true)(kv:κ->Value)(vv:ν->Value)
 (k:∀a' w' b,b=w.heap.size->Keep [] w w'->Sx w0 X φ (.map b (Lt kv vv ([]:List (κ×ν)) []) 0::L) ((d,.map (some b))::K) n a' w'->wpList P ops Q rest a' w'):
 wpList P ops Q ({dst:=some d,op:=.makeMap T none,type:=ty,pos,after,guard:=none}::rest) a w:=by
 refine GO (v:=.map (some w.heap.size)) (w':=w.alloc (.map #[] 0)) (by simp[execOp,Instr.makeMap,run_newObj]) ?_;refine k _ _ w.heap.size rfl (Py w _) ((S.more (e:=.map w.heap.size (Lt kv vv [] []) 0) (Py w _) ?_ (λc hc=>by cases hc;exact bU _)).put (by simpa using hd));exact heap_alloc_new w _
theorem AI{b:Nat}(o:Obj):Keep [b] w {w with heap:=w.heap.setIfInBounds b o}:=
 ⟨rfl,rfl,rfl,by simp,λq hq hne=>by simp only[bA] at hne;exact Array.getElem?_setIfInBounds_ne (λe=>hne e.symm)⟩
theorem Sx.mapSet{i b clk clk':Nat}{es es':Array MapEntry}(S:Sx w0 X φ L K n a w)(hi:L[i]? =some (.map b es clk)):Sx w0 X φ (L.set i (.map b es' clk')) K n a {w with heap:=w.heap.setIfInBounds b (.map es' clk')}:=by
 refine S.change hi (AI _) (by simp[LEnt.fp]) ?_ (λc hc=>.inl hc);have hlt:=heap_lt (S.map_at hi);show _=_;simp[hlt]
theorem QO{T kt el:TypeId}{x y u:Operand}{i b clk:Nat}{bs:List Nat}{m:List (κ×ν)}{key:κ}{val:ν}(S:Sx w0 X φ L K n a w)(hi:L[i]? =some (.map b (Lt kv vv m bs) clk))(hB:Xp m.length bs clk)(hT:P.underlying T=some (.map kt el))(hk:LX P kt kv)
 (hx:a.eval x= .map (some b)) (hy:a.eval y=kv key) (hu:a.eval u=vv val)
 (k:∀w' bs' clk',Xp (Jd m key val).length bs' clk'->Keep [b] w w'->Sx w0 X φ (L.set i (.map b (Lt kv vv (Jd m key val) bs') clk')) K n a w'->wpList P ops Q rest a w'):
 wpList P ops Q ({dst:=none,op:=.mapUpdate T x y u,type:=ty,pos,after,guard:=none}::rest) a w:=by
 have hb:=S.map_at hi;have hf:=hk.findB (vv:=vv) key m bs hB.len w;have hfin:∀o,(setObj b o).run P w= .ok () {w with heap:=w.heap.setIfInBounds b o}:=λo=>BJ o hb
 cases hm:Rc m key 0 with
 |none=>
  rw[hm] at hf;have e1:Lt kv vv (Jd m key val) (bs++[clk])=(Lt kv vv m bs).push ⟨kv key,vv val,clk⟩:=by
   unfold Lt;rw[FW hm,List.zip_append hB.len.symm];simp
  have e2:(Jd m key val).length=m.length+1:=by rw[FW hm];simp
  have hrun:(Instr.mapUpdate T (.map (some b)) (kv key) (vv val)).run P w= .ok () {w with heap:=w.heap.setIfInBounds b (.map (Lt kv vv (Jd m key val) (bs++[clk])) (clk+1))}:=by
   rw[e1];simp[Instr.mapUpdate,Sem.run_bind,run_underlying hT,Rg hb,hk.chk,hf,hfin]
  exact RU (w':={w with heap:=w.heap.setIfInBounds b (.map (Lt kv vv (Jd m key val) (bs++[clk])) (clk+1))}) (by simp[execOp,hx,hy,hu,hrun]) (k _ _ _ (by rw[e2];exact hB.add) (AI _) (S.mapSet hi))
 |some p=>
  obtain⟨q,u'⟩:=p;rw[hm] at hf;obtain⟨_,_,h2⟩:=OV (v:=val) hm;obtain⟨e,he,hke⟩:=OW (kv:=kv) (vv:=vv) hB.len hm;rw[Nat.sub_zero] at h2 he;have e1:Lt kv vv (Jd m key val) bs=(Lt kv vv m bs).modify q λe=>{e with key:=kv key,val:=vv val}:=by
   unfold Lt;rw[h2,VI m bs q hB.len];simp
  have e2:(Jd m key val).length=m.length:=by rw[h2];simp
  have he':(Lt kv vv m bs)[q]? =some e:=by unfold Lt;rw[List.getElem?_toArray];exact he
  have hrun:(Instr.mapUpdate T (.map (some b)) (kv key) (vv val)).run P w= .ok () {w with heap:=w.heap.setIfInBounds b (.map (Lt kv vv (Jd m key val) bs) clk)}:=by
   rw[e1];simp[Instr.mapUpdate,Sem.run_bind,run_underlying hT,Rg hb,hk.chk,hf,Instr.keyThatStays,hk.same,hfin,he',hke]
  exact RU (w':={w with heap:=w.heap.setIfInBounds b (.map (Lt kv vv (Jd m key val) bs) clk)}) (by simp[execOp,hx,hy,hu,hrun]) (k _ bs clk (by rw[e2];exact hB) (AI _) (S.mapSet hi))
theorem XR{T kt el:TypeId}{ts:Array TypeId}{x y:Operand}{i b clk:Nat}{bs:List Nat}{m:List (κ×ν)}{key:κ}(S:Sx w0 X φ L K n a w)(hi:L[i]? =some (.map b (Lt kv vv m bs) clk))(hB:Xp m.length bs clk)(ht:ts[0]? =some T)(hT:P.underlying T=some (.map kt el))(hk:LX P kt kv)
 (hx:a.eval x= .map (some b)) (hy:a.eval y=kv key)
 (k:∀w' bs' clk',Xp (CI m key).length bs' clk'->Keep [b] w w'->Sx w0 X φ (L.set i (.map b (Lt kv vv (CI m key) bs') clk')) K n a w'->wpList P ops Q rest a w'):
 wpList P ops Q ({dst:=none,op:=.call {callee:=.builtin .delete,args:=#[x,y],argTypes:=ts},type:=ty,pos,after,guard:=none}::rest) a w:=by
 have hb:=S.map_at hi;have hf:=hk.findB (vv:=vv) key m bs hB.len w;have hfin:∀o,(setObj b o).run P w= .ok () {w with heap:=w.heap.setIfInBounds b o}:=λo=>BJ o hb
 cases hm:Rc m key 0 with
 |none=>
  rw[hm] at hf;have hrun:(Builtin.delete_ ts ty #[.map (some b),kv key]).run P w= .ok (.tuple #[]) {w with heap:=w.heap.setIfInBounds b (.map (Lt kv vv m bs) clk)}:=by
   simp[Builtin.delete_,ht,Sem.run_bind,run_underlying hT,Rg hb,hk.chk,hf,hfin]
  have e:=OU hm;refine GO (v:=.tuple #[]) (w':={w with heap:=w.heap.setIfInBounds b (.map (Lt kv vv m bs) clk)}) (by simp[execOp,resolve,invoke,builtin,hx,hy,hrun]) (k _ bs clk (by rw[e];exact hB) (AI _) ?_);rw[e];exact S.mapSet hi
 |some p=>
  obtain⟨q,u'⟩:=p;rw[hm] at hf;obtain⟨_,h1,h2⟩:=JR hm;rw[Nat.sub_zero] at h1 h2;have hlt:q<(Lt kv vv m bs).size:=by simp[Lt,hB.len,h1]
  have e1:Lt kv vv (CI m key) (bs.eraseIdx q)=(Lt kv vv m bs).eraseIdxIfInBounds q:=by
   rw[Array.eraseIdxIfInBounds,dif_pos hlt];apply Array.toList_inj.1;rw[Array.toList_eraseIdx];unfold Lt;rw[h2,OR _ _ _ hB.len.symm,List.toList_toArray,List.toList_toArray,OS]
  have e2:(CI m key).length=m.length-1:=by rw[h2,List.length_eraseIdx,aQ h1]
  have hrun:(Builtin.delete_ ts ty #[.map (some b),kv key]).run P w= .ok (.tuple #[]) {w with heap:=w.heap.setIfInBounds b (.map (Lt kv vv (CI m key) (bs.eraseIdx q)) clk)}:=by
   rw[e1];simp[Builtin.delete_,ht,Sem.run_bind,run_underlying hT,Rg hb,hk.chk,hf,hfin]
  exact GO (v:=.tuple #[]) (w':={w with heap:=w.heap.setIfInBounds b (.map (Lt kv vv (CI m key) (bs.eraseIdx q)) clk)}) (by simp[execOp,resolve,invoke,builtin,hx,hy,hrun]) (k _ (bs.eraseIdx q) clk (by rw[e2];exact hB.del h1) (AI _) (S.mapSet hi))
def GY{κ ν:Type}(m:List (κ×ν))(bs:List Nat)(seen:Array Nat):List (κ×ν):=((m.zip bs).filter λp=>!seen.contains p.2).map (·.1)
omit [DecidableEq κ] in
theorem leftB_0{m:List (κ×ν)}{bs:List Nat}{clk:Nat}(h:Xp m.length bs clk):GY m bs #[]=m:=by
 unfold GY;rw[List.filter_eq_self.2 (λp _=>by simp)];exact List.map_fst_zip (by rw[h.len];exact bU _)
omit [DecidableEq κ] in
theorem LY{m:List (κ×ν)}{bs:List Nat}{clk:Nat}(h:Xp m.length bs clk):((m.zip bs).map (·.2)).Nodup:=by
 rw[List.map_snd_zip (by rw[h.len];exact bU _)];exact h.inc.imp λhab e=>by omega
omit [DecidableEq κ] in
theorem UD{m:List (κ×ν)}{bs:List Nat}{clk:Nat}(hB:Xp m.length bs clk){seen:Array Nat}{i:Nat}{e:κ×ν}(hm:(e,i)∈m.zip bs)(hs:seen.contains i=false):(GY m bs seen).Perm (e::GY m bs (seen.push i)):=by
 have hn:=LY hB;have hn':(m.zip bs).Nodup:=List.Pairwise.of_map (λp:(κ×ν)×Nat=>p.2) (λa b hab e=>hab (by rw[e])) hn;have hp:=KQ (p:=λp:(κ×ν)×Nat=>!seen.contains p.2) (q:=λp=>!(seen.push i).contains p.2) (x:=(e,i)) (by simp only[hs];rfl) aB (m.zip bs) hn' hm (λy hy hne=>by
  have h2:y.2≠i:=λhe=>hne (by
   obtain⟨a,ha⟩:=List.getElem?_of_mem hy;obtain⟨c,hc⟩:=List.getElem?_of_mem hm;have ha':((m.zip bs).map (·.2))[a]? =some i:=by rw[List.getElem?_map,ha,Option.map_some,he]
   have hc':((m.zip bs).map (·.2))[c]? =some i:=by rw[List.getElem?_map,hc,Option.map_some]
   have hac:a=c:=(List.getElem?_inj (List.getElem?_eq_some_iff.1 ha').1 hn).1 (ha'.trans hc'.symm);rw[hac,hc] at ha
   cases ha;rfl)
  simp[h2])
 exact hp.map (·.1)
omit [DecidableEq κ] in
theorem l_nextB{x:Operand}{i b bm clk:Nat}{m:List (κ×ν)}{bs:List Nat}{seen:Array Nat}(S:Sx w0 X φ L K n a w)(hi:L[i]? =some (.iter b bm clk seen clk))(hb:w.heap[bm]? =some (.map (Lt kv vv m bs) clk))(hB:Xp m.length bs clk)(hx:a.eval x= .pointer (some ⟨b,0,none⟩))(hd:Nat.blt d n=true)
 (k0:GY m bs seen=[]->∀a',Sx w0 X φ L ((d,.tuple #[.bool false])::K) n a' w->wpList P ops Q rest a' w)
 (k1:∀e seen' a' w',(GY m bs seen).Perm (e::GY m bs seen')->(∃j,seen'.back? =some j/\(e,j)∈m.zip bs)->Keep [b] w w'->Sx w0 X φ (L.set i (.iter b bm clk seen' clk)) ((d,.tuple #[.bool true,kv e.1,vv e.2])::K) n a' w'->wpList P ops Q rest a' w'):
 wpList P ops Q ({dst:=some d,op:=.next x false,type:=ty,pos,after,guard:=none}::rest) a w:=by
 have hit:w.heap[b]? =some (.mapIter (some bm) clk seen clk):=S.holds _ (List.mem_of_getElem? hi);have hborn0:∀p∈m.zip bs,p.2<clk:=λp hp=>hB.lt _ (List.of_mem_zip (a:=p.1) (b:=p.2) hp).2;have htest:(!seen.isEmpty && !(Lt kv vv m bs).isEmpty && (Lt kv vv m bs).all (λx=>decide (x.born≥clk)))=false:=
  next_test_false seen (Lt kv vv m bs) clk clk (λx hx=>by
   rw[Lt,List.toList_toArray,bD] at hx;obtain⟨p,hp,rfl⟩:=hx;exact hborn0 p hp) (bU _)
 have hleft:(Lt kv vv m bs).filter (λe=>!seen.contains e.born)=(((m.zip bs).filter λp=>!seen.contains p.2).map λp=>(⟨kv p.1.1,vv p.1.2,p.2⟩:MapEntry)).toArray:=by
  rw[Lt];simp only[List.filter_toArray,List.filter_map];rfl
 generalize hl:(m.zip bs).filter (λp=>!seen.contains p.2)=l at hleft;have hborn:∀p∈l,p.2<clk:=λp hp=>by
  rw[←hl] at hp;exact hborn0 p (List.mem_filter.1 hp).1
 have e1:((l.map λp=>(⟨kv p.1.1,vv p.1.2,p.2⟩:MapEntry)).toArray).filter (λx=>decide (x.born<clk))=(l.map λp=>(⟨kv p.1.1,vv p.1.2,p.2⟩:MapEntry)).toArray:=by
  apply Array.filter_eq_self.2;intro x hx;obtain⟨p,hp,rfl⟩:=bD.1 (Array.mem_toList_iff.2 hx);simpa using hborn p hp
 have e2:((l.map λp=>(⟨kv p.1.1,vv p.1.2,p.2⟩:MapEntry)).toArray).filter (λx=>decide (x.born≥clk))= #[]:=by
  rw[Array.filter_eq_empty_iff];intro x hx;obtain⟨p,hp,rfl⟩:=bD.1 (Array.mem_toList_iff.2 hx);have:=hborn p hp;simp;omega
 cases l with
 |nil=>
  have hrun:(Instr.next (.pointer (some ⟨b,0,none⟩)) false ty).run P w= .ok (.tuple #[.bool false]) w:=by
   simp only[Instr.next,getObj,Sem.run_bind,Sem.run,hit,hb,Result.andThen,htest,aO,aR,hleft,e1,e2];simp[choose,Sem.run,Question.forced]
  refine GO (v:=.tuple #[.bool false]) (w':=w) (by simp only[execOp,hx,Sem.run_bind,hrun];rfl) ?_;exact k0 (by unfold GY;rw[hl];rfl) _ (S.put (by simpa using hd))
 |cons q0 qs=>
  have hch:∃(j:Nat) (w1:World),j<(q0::qs).length/\w1.heap=w.heap/\Keep [] w w1/\(choose (Question.mapNext (q0::qs).length)).run P w= .ok j w1:=by
   by_cases hf:(q0::qs).length<=1
   ·exact⟨0,w,by simp,rfl,Keep.refl _ _,by simp only[choose,Sem.run,Question.forced,aK,hf,aS]⟩
   ·exact⟨_,w.drew,Nat.mod_lt _ (show 0<(q0::qs).length by simp),rfl,⟨rfl,rfl,rfl,bU _,λ_ _ _=>rfl⟩,by
     simp only[choose,Sem.run,Question.forced,aK,hf,aR,Question.cut];rfl⟩
  obtain⟨j,w1,hj,hh,hk1,hrun⟩:=hch;have hq:(q0::qs)[j]? =some (q0::qs)[j]:=List.getElem?_eq_getElem hj;generalize (q0::qs)[j]=q at hq;have hqm:q∈(m.zip bs).filter (λp=>!seen.contains p.2):=by rw[hl];exact List.mem_of_getElem? hq
  obtain⟨hq1,hq2⟩:=List.mem_filter.1 hqm;obtain⟨e,i0⟩:=q;have hEj:((q0::qs).map λp=>(⟨kv p.1.1,vv p.1.2,p.2⟩:MapEntry)).toArray[j]? =some ⟨kv e.1,vv e.2,i0⟩:=by rw[List.getElem?_toArray,List.getElem?_map,hq];rfl
  have hEs:((q0::qs).map λp=>(⟨kv p.1.1,vv p.1.2,p.2⟩:MapEntry)).toArray.size=(q0::qs).length:=by simp
  have hne:(((q0::qs).map λp=>(⟨kv p.1.1,vv p.1.2,p.2⟩:MapEntry)).toArray).isEmpty=false:=by simp
  generalize ((q0::qs).map λp=>(⟨kv p.1.1,vv p.1.2,p.2⟩:MapEntry)).toArray=E at hleft e1 e2 hEj hEs hne;have hset:(setObj b (.mapIter (some bm) clk (seen.push i0) clk)).run P w1= .ok () {w1 with heap:=w1.heap.setIfInBounds b (.mapIter (some bm) clk (seen.push i0) clk)}:=by
   simp[setObj,Sem.run,hh,hit]
  have hlt:b<w1.heap.size:=by rw[hh];exact heap_lt hit
  have hrun2:(Instr.next (.pointer (some ⟨b,0,none⟩)) false ty).run P w= .ok (.tuple #[.bool true,kv e.1,vv e.2]) {w1 with heap:=w1.heap.setIfInBounds b (.mapIter (some bm) clk (seen.push i0) clk)}:=by
   simp only[Instr.next,getObj,Sem.run_bind,Sem.run,hit,hb,Result.andThen,htest,aO,aR,hleft,e1,e2];simp only[hne,aO,aR,Array.append_empty,Array.empty_append,Array.size_map,hEs,hrun,Array.getElem?_map,hEj,Option.map_some,Sem.run_bind,hset,Result.andThen];rfl
  have hkeep:Keep [b] w {w1 with heap:=w1.heap.setIfInBounds b (.mapIter (some bm) clk (seen.push i0) clk)}:=
   ⟨hk1.os,hk1.tape,hk1.output,by simpa using hk1.size,λz hz hne=>by
    simp only[bA] at hne;rw[←hk1.block z hz aB];exact Array.getElem?_setIfInBounds_ne (λe=>hne e.symm)⟩
  refine GO (v:=.tuple #[.bool true,kv e.1,vv e.2]) (w':={w1 with heap:=w1.heap.setIfInBounds b (.mapIter (some bm) clk (seen.push i0) clk)}) (by simp only[execOp,hx,Sem.run_bind,hrun2];rfl) ?_;refine k1 e (seen.push i0) _ _ (UD hB hq1 (by simpa using hq2)) ⟨i0,by simp,hq1⟩ hkeep ((S.change (e':=.iter b bm clk (seen.push i0) clk) hi hkeep (by simp[LEnt.fp]) ?_ (λc hc=>.inl hc)).put (by simpa using hd));show _=_;simp[hlt]
omit [DecidableEq κ] in
theorem XS{x:Operand}{b bm clk:Nat}{m:List (κ×ν)}{bs:List Nat}{seen:Array Nat}{e:κ×ν}(hit:w.heap[b]? =some (.mapIter (some bm) clk seen clk))(hb:w.heap[bm]? =some (.map (Lt kv vv m bs) clk))(hB:Xp m.length bs clk)(hl:∃j,seen.back? =some j/\(e,j)∈m.zip bs)(hx:a.eval x= .pointer (some ⟨b,0,none⟩)):
 Rn P a w (.entry x) ty (.tuple #[kv e.1,vv e.2]):=by
 obtain⟨j,h1,h2⟩:=hl;intro d p e' g;have hf:(Lt kv vv m bs).find? (λz=>z.born==j)=some ⟨kv e.1,vv e.2,j⟩:=by
  rw[←Array.find?_toList,Lt,List.toList_toArray];have hn:(((m.zip bs).map λp=>(⟨kv p.1.1,vv p.1.2,p.2⟩:MapEntry)).map (·.born)).Nodup:=by
   rw[List.map_map];have:((λz:MapEntry=>z.born) ∘ λp:(κ×ν)×Nat=>(⟨kv p.1.1,vv p.1.2,p.2⟩:MapEntry))=λp=>p.2:=rfl;rw[this];exact LY hB
  exact find_born ⟨kv e.1,vv e.2,j⟩ _ hn (by
   rw[bD];exact⟨(e,j),h2,rfl⟩)
 simp[execOp,hx,Instr.entry,getObj,Sem.run,hit,hb,h1,hf,Result.andThen]
end
end Go.Proofs.YtbicihdhkkjigaaGreatDoor
