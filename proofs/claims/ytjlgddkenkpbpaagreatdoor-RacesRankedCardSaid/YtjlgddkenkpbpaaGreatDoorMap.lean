/- Maps. No statement of the seat is proved here. -/
import Derived.Test.YtjlgddkenkpbpaaGreatDoorMore
import Derived.Laws.IdiomRangeMap
namespace Go.Proofs.YtjlgddkenkpbpaaGreatDoor
open Go
section
variable {κ ν:Type}[DecidableEq κ]
def Kx(kv:κ->Value)(vv:ν->Value):List (κ×ν)->Nat->List MapEntry
 |[],_=>[]
 |(k,v)::m,i=>⟨kv k,vv v,i⟩::Kx kv vv m (i+1)
def Ii(kv:κ->Value)(vv:ν->Value)(m:List (κ×ν)):Array MapEntry:=(Kx kv vv m 0).toArray
theorem HM{m:List (κ×ν)}{k:κ}{v:ν}{i:Nat}(h:Pn m k i=none):Hv m k v=m++[(k,v)]:=by
 induction m generalizing i with
 |nil=>rfl
 |cons p m ih=>
  obtain⟨k',v'⟩:=p;simp only[Pn] at h
  split at h
  ·cases h
  ·rename_i hne;simp[Hv,hne,ih h]
omit [DecidableEq κ] in
theorem LB(kv:κ->Value)(vv:ν->Value):∀(m:List (κ×ν)) i,(Kx kv vv m i).length=m.length
 |[],_=>rfl
 |_::m,i=>by simp[Kx,LB kv vv m (i+1)]
omit [DecidableEq κ] in
theorem QR(kv:κ->Value)(vv:ν->Value)(k:κ)(v:ν):∀(m:List (κ×ν)) i,Kx kv vv (m++[(k,v)]) i=Kx kv vv m i++[⟨kv k,vv v,i+m.length⟩]
 |[],i=>by simp[Kx]
 |_::m,i=>by simp[Kx,QR kv vv k v m (i+1)];omega
theorem LC{kv:κ->Value}{vv:ν->Value}{k:κ}{v u:ν}:∀{m:List (κ×ν)} {i n:Nat},Pn m k i=some (n,u)->i<=n/\
 Kx kv vv (Hv m k v) i=(Kx kv vv m i).modify (n-i) λe=>{e with key:=kv k,val:=vv v}
 |[],_,_,h=>by cases h
 |(k',v')::m,i,n,h=>by
  simp only[Pn] at h
  split at h
  ·rename_i he;cases h
   simp[Hv,he,Kx]
  ·rename_i hne
   obtain⟨h1,h2⟩:=LC (kv:=kv) (vv:=vv) (v:=v) h
   refine⟨by omega,?_⟩
   obtain⟨q,rfl⟩:∃q,n=i+1+q:=⟨n-(i+1),by omega⟩
   have e1:i+1+q-i=q+1:=by omega
   have e2:i+1+q-(i+1)=q:=by omega
   rw[e2] at h2
   simp[Hv,hne,Kx,h2,e1]
theorem QS{kv:κ->Value}{vv:ν->Value}{k:κ}{u:ν}:∀{m:List (κ×ν)} {i n:Nat},Pn m k i=some (n,u)->∃e,(Kx kv vv m i)[n-i]? =some e/\e.key=kv k
 |[],_,_,h=>by cases h
 |(k',v')::m,i,n,h=>by
  simp only[Pn] at h
  split at h
  ·rename_i he;cases h
   exact⟨⟨kv k',vv u,i⟩,by simp[Kx],by simp[he]⟩
  ·obtain⟨h1,_⟩:=LC (kv:=kv) (vv:=vv) (v:=u) h
   obtain⟨e,he,hk⟩:=QS (kv:=kv) (vv:=vv) h
   refine⟨e,?_,hk⟩
   obtain⟨q,rfl⟩:∃q,n=i+1+q:=⟨n-(i+1),by omega⟩
   have e1:i+1+q-i=q+1:=by omega
   have e2:i+1+q-(i+1)=q:=by omega
   rw[e2] at he
   simp[Kx,e1,he]
structure MX(P:Program)(kt:TypeId)(kv:κ->Value):Prop where
 chk:∀em x w,(Instr.checkKey em 10000 kt (kv x)).run P w= .ok () w
 find:∀{ν:Type} (vv:ν->Value) (x:κ) (m:List (κ×ν)) w,(Instr.findKey kt (kv x) (Kx kv vv m 0)).run P w= .ok ((Pn m x 0).map λp=>(p.1,vv p.2)) w
 same:∀x,Instr.sameBits 10000 (kv x) (kv x)=true
end
theorem MH(P:Program){ν:Type}(vv:ν->Value)(x:ByteArray):∀(m:List (ByteArray×ν)) (i:Nat),Instr.findNow .string (.string x) (Kx Value.string vv m i) i=some ((Pn m x i).map λp=>(p.1,vv p.2))
 |[],_=>rfl
 |(k,v)::m,i=>by
  simp only[Kx,Instr.findNow,Instr.sameNow,Pn]
  have hb:(x==k)=decide (x=k):=by rw[beq_toListBytes,BK]
  rw[hb]
  by_cases h:x=k
  ·simp[h]
  ·simp[h,MH P vv x m (i+1)]
theorem Nm{P:Program}{kt:TypeId}(h:P.underlying kt=some .string):MX P kt Value.string where
 chk em x w:=by
  rw[show (10000:Nat)=9999+1 from Z,Instr.checkKey];simp only[Sem.run_bind,run_underlying h,Result.andThen_ok,Sem.run_pure]
 find vv x m w:=by simp[Instr.findKey,Sem.run_bind,run_underlying h,MH P vv x m 0]
 same x:=by
  rw[Instr.sameBits,beq_toListBytes,BK];simp
section
variable {P:Program}{ops:Array Oper}{Q:Exit->Act->World->Prop}{rest:List Oper}
variable {w0:World}{X:List Nat}{φ:View}{L:List LEnt}{K:List (Nat×Value)}{n:Nat}{a:Act}{w:World}
variable {d:Nat}{ty:TypeId}{pos:String}{after:Array Edge}
variable {κ ν:Type}[DecidableEq κ]{kv:κ->Value}{vv:ν->Value}
omit [DecidableEq κ] in
theorem Uz{T:TypeId}(S:Sx w0 X φ L K n a w)(hd:Nat.blt d n=true)(kv:κ->Value)(vv:ν->Value)
 (k:∀a' w' b,b=w.heap.size->Keep [] w w'->Sx w0 X φ (.map b (Ii kv vv ([]:List (κ×ν))) ([]:List (κ×ν)).length::L) ((d,.map (some b))::K) n a' w'->wpList P ops Q rest a' w'):
 wpList P ops Q ({dst:=some d,op:=.makeMap T none,type:=ty,pos,after,guard:=none}::rest) a w:=by
 refine GD (v:=.map (some w.heap.size)) (w':=w.alloc (.map #[] 0)) (by simp[execOp,Instr.makeMap,run_newObj]) ?_;refine k _ _ w.heap.size Z (Rw w _) ((S.more (e:=.map w.heap.size (Ii kv vv []) 0) (Rw w _) ?_ (λc hc=>by cases hc;exact bU _)).put (by simpa using hd));exact heap_alloc_new w _
theorem Sx.map_at{i b clk:Nat}{es:Array MapEntry}(S:Sx w0 X φ L K n a w)(hi:L[i]? =some (.map b es clk)):w.heap[b]? =some (.map es clk):=S.holds _ (List.mem_of_getElem? hi)
theorem Rx{b clk:Nat}{es:Array MapEntry}(h:w.heap[b]? =some (.map es clk)):(getObj b).run P w= .ok (.map es clk) w:=by simp[getObj,Sem.run,h]
theorem BQ{b clk:Nat}{es:Array MapEntry}(o:Obj)(h:w.heap[b]? =some (.map es clk)):(setObj b o).run P w= .ok () {w with heap:=w.heap.setIfInBounds b o}:=by simp[setObj,Sem.run,h]
theorem UP{T kt el:TypeId}{b clk:Nat}{m:List (κ×ν)}(hb:w.heap[b]? =some (.map (Ii kv vv m) clk))(hT:P.underlying T=some (.map kt el))(hk:MX P kt kv){z:Value}(hz:∀w,(zeroValue el).run P w= .ok z w)(x:κ)(ok:Bool):
 (Instr.lookup T (.map (some b)) (kv x) ok).run P w= .ok (if ok then .tuple #[((Tc m x).map vv).getD z,.bool (Tc m x).isSome] else((Tc m x).map vv).getD z) w:=by
 have hf:=hk.find vv x m w
 cases hm:Pn m x 0 with
 |none=>rw[hm] at hf;cases ok<;>simp[Instr.lookup,Sem.run_bind,run_underlying hT,Rx hb,hk.chk,Ii,hf,hz,Tc,hm]
 |some p=>rw[hm] at hf;cases ok<;>simp[Instr.lookup,Sem.run_bind,run_underlying hT,Rx hb,hk.chk,Ii,hf,Tc,hm]
theorem Sp{T kt el:TypeId}{x y:Operand}{b clk:Nat}{m:List (κ×ν)}{key:κ}{z:ν}(hb:w.heap[b]? =some (.map (Ii kv vv m) clk))(hT:P.underlying T=some (.map kt el))(hk:MX P kt kv)(hz:∀w,(zeroValue el).run P w= .ok (vv z) w)
 (hx:a.eval x= .map (some b)) (hy:a.eval y=kv key):Rn P a w (.lookup T x y false) ty (vv (Em m key z)):=by
 intro d p e g;have h:=UP hb hT hk hz key false;have h2:((Tc m key).map vv).getD (vv z)=vv (Em m key z):=by cases hm:Tc m key<;>simp[Em,hm]
 simp only[h2] at h;simp[execOp,hx,hy,h]
theorem EH{T kt el:TypeId}{x y:Operand}{b clk:Nat}{m:List (κ×ν)}{key:κ}{z:ν}(hb:w.heap[b]? =some (.map (Ii kv vv m) clk))(hT:P.underlying T=some (.map kt el))(hk:MX P kt kv)(hz:∀w,(zeroValue el).run P w= .ok (vv z) w)
 (hx:a.eval x= .map (some b)) (hy:a.eval y=kv key):Rn P a w (.lookup T x y true) ty (.tuple #[vv (Em m key z),.bool (Tc m key).isSome]):=by
 intro d p e g;have h:=UP hb hT hk hz key true;have h2:((Tc m key).map vv).getD (vv z)=vv (Em m key z):=by cases hm:Tc m key<;>simp[Em,hm]
 simp only[h2] at h;simp[execOp,hx,hy,h]
theorem Sx.map_kept{i b clk:Nat}{es:Array MapEntry}{Y:List Nat}{w':World}(S:Sx w0 X φ L K n a w)(hi:L[i]? =some (.map b es clk))(hY:∀c,(LEnt.map b es clk).fp=some c->c∉Y)(hk:Keep Y w w'):w'.heap[b]? =some (.map es clk):=by
 have h:=S.map_at hi;rw[hk.block b (heap_lt h) (hY b Z)];exact h
theorem Ro{T kt el:TypeId}{x y u:Operand}{i b:Nat}{m:List (κ×ν)}{key:κ}{val:ν}(S:Sx w0 X φ L K n a w)(hi:L[i]? =some (.map b (Ii kv vv m) m.length))(hT:P.underlying T=some (.map kt el))(hk:MX P kt kv)
 (hx:a.eval x= .map (some b)) (hy:a.eval y=kv key) (hu:a.eval u=vv val)
 (k:∀w',Keep [b] w w'->Sx w0 X φ (L.set i (.map b (Ii kv vv (Hv m key val)) (Hv m key val).length)) K n a w'->wpList P ops Q rest a w'):
 wpList P ops Q ({dst:=none,op:=.mapUpdate T x y u,type:=ty,pos,after,guard:=none}::rest) a w:=by
 have hb:=S.map_at hi;have hlt:b<w.heap.size:=heap_lt hb;have hrun:(Instr.mapUpdate T (.map (some b)) (kv key) (vv val)).run P w= .ok () {w with heap:=w.heap.setIfInBounds b (.map (Ii kv vv (Hv m key val)) (Hv m key val).length)}:=by
  have hf:=hk.find vv key m w;have hfin:∀o,(setObj b o).run P w= .ok () {w with heap:=w.heap.setIfInBounds b o}:=λo=>BQ o hb
  cases hm:Pn m key 0 with
  |none=>
   rw[hm] at hf;have e1:Ii kv vv (Hv m key val)=(Ii kv vv m).push ⟨kv key,vv val,m.length⟩:=by
    unfold Ii;rw[HM hm,QR];simp
   have e2:(Hv m key val).length=m.length+1:=by rw[HM hm];simp
   rw[e1,e2];simp[Instr.mapUpdate,Sem.run_bind,run_underlying hT,Rx hb,hk.chk,Ii,hf,hfin]
  |some p=>
   obtain⟨i,u'⟩:=p;rw[hm] at hf;obtain⟨_,h2⟩:=LC (kv:=kv) (vv:=vv) (v:=val) hm;obtain⟨e,he,hke⟩:=QS (kv:=kv) (vv:=vv) hm;rw[Nat.sub_zero] at h2 he;have e1:Ii kv vv (Hv m key val)=(Ii kv vv m).modify i λe=>{e with key:=kv key,val:=vv val}:=by
    unfold Ii;rw[h2];simp
   have e2:(Hv m key val).length=m.length:=by
    have:=congrArg List.length h2;simpa[LB] using this
   rw[e1,e2];have hkey:(((Ii kv vv m)[i]?).map (·.key)).getD (kv key)=kv key:=by simp[Ii,he,hke]
   simp[Instr.mapUpdate,Sem.run_bind,run_underlying hT,Rx hb,hk.chk,Ii,hf,Instr.keyThatStays,hk.same,hfin,he,hke]
 refine UL (w':={w with heap:=w.heap.setIfInBounds b (.map (Ii kv vv (Hv m key val)) (Hv m key val).length)}) (by simp[execOp,hx,hy,hu,hrun]) ?_;have hkeep:Keep [b] w {w with heap:=w.heap.setIfInBounds b (.map (Ii kv vv (Hv m key val)) (Hv m key val).length)}:=
  ⟨Z,Z,Z,by simp,λq hq hne=>by simp only[bA] at hne;exact Array.getElem?_setIfInBounds_ne (λe=>hne e.symm)⟩
 refine k _ hkeep (S.change hi hkeep (by simp[LEnt.fp]) ?_ (λc hc=>.inl hc));show _=_;simp[hlt]
omit [DecidableEq κ] in
theorem Sx.map_ret{i b clk:Nat}{es:Array MapEntry}(S:Sx w0 X φ L K n a w)(hi:L[i]? =some (.map b es clk))(hX:X=[]):newer w0 w b=some (.map es clk):=by
 unfold newer;have hs:=(S.sep b (Sx.fp_mem hi Z)).2.1;rw[aQ (by rcases hs with h|h;exact h;subst hX;cases h)];exact S.map_at hi
end
section
variable {κ ν:Type}
def IG(m:List (κ×ν))(seen:Array Nat):List (κ×ν):=(m.zipIdx.filter λp=>!seen.contains p.2).map (·.1)
theorem leftL_0(m:List (κ×ν)):IG m #[]=m:=by
 unfold IG;rw[List.filter_eq_self.2 (λp _=>by simp)];simp[List.zipIdx_map_fst]
theorem DH(kv:κ->Value)(vv:ν->Value):∀(m:List (κ×ν)) (i:Nat),Kx kv vv m i=(m.zipIdx i).map λp=>⟨kv p.1.1,vv p.1.2,p.2⟩
 |[],_=>rfl
 |(k,v)::m,i=>by simp[Kx,List.zipIdx_cons,DH kv vv m (i+1)]
theorem GF{α:Type}{p q:α->Bool}{x:α}(hp:p x=true)(hx:q x=false):∀(l:List α),l.Nodup->x∈l->(∀y∈l,y≠x->q y=p y)->(l.filter p).Perm (x::l.filter q)
 |[],_,h,_=>by cases h
 |y::l,hn,h,ho=>by
  obtain⟨hy,hn'⟩:=bT.1 hn
  by_cases e:y=x
  ·subst e
   have hs:l.filter p=l.filter q:=List.filter_congr λz hz=>(ho z (aM _ hz) (λe=>hy (e ▸ hz))).symm
   rw[List.filter_cons,List.filter_cons,hp,hx,hs]
   exact List.Perm.refl _
  ·have hxl:x∈l:=by
    rcases bB.1 h with rfl|h
    ·exact(e Z).elim
    ·exact h
   have ih:=GF hp hx l hn' hxl λz hz=>ho z (aM _ hz);rw[List.filter_cons,List.filter_cons,ho y aN e]
   cases p y with
   |true=>exact(ih.cons y).trans (List.Perm.swap x y _)
   |false=>exact ih
theorem Abm(m:List (κ×ν)):m.zipIdx.Nodup:=by
 have h:(m.zipIdx.map (·.2)).Nodup:=by
  rw[List.zipIdx_map_snd];exact List.nodup_range'
 exact List.Pairwise.of_map (λp:(κ×ν)×Nat=>p.2) (λa b hab e=>hab (by rw[e])) h
theorem XG{m:List (κ×ν)}{seen:Array Nat}{i:Nat}{e:κ×ν}(h:m[i]? =some e)(hs:seen.contains i=false):(IG m seen).Perm (e::IG m (seen.push i)):=by
 have hm:(e,i)∈m.zipIdx:=by
  rw[List.mem_zipIdx_iff_getElem?];exact h
 have hp:=GF (p:=λp:(κ×ν)×Nat=>!seen.contains p.2) (q:=λp=>!(seen.push i).contains p.2) (x:=(e,i)) (by simp only[hs];rfl) aB m.zipIdx (Abm m) hm (λy hy hne=>by
  have h2:y.2≠i:=λhe=>hne (by
   obtain⟨a,b⟩:=y;simp only at he;subst he;rw[List.mem_zipIdx_iff_getElem?] at hy;rw[h] at hy
   cases hy;rfl)
  simp[h2])
 exact hp.map (·.1)
end
section
variable {P:Program}{ops:Array Oper}{Q:Exit->Act->World->Prop}{rest:List Oper}
variable {w0:World}{X:List Nat}{φ:View}{L:List LEnt}{K:List (Nat×Value)}{n:Nat}{a:Act}{w:World}
variable {d:Nat}{ty:TypeId}{pos:String}{after:Array Edge}
variable {κ ν:Type}{kv:κ->Value}{vv:ν->Value}
theorem ZE{T kt el:TypeId}{x:Operand}{bm clk:Nat}{es:Array MapEntry}(S:Sx w0 X φ L K n a w)(hb:w.heap[bm]? =some (.map es clk))(hT:P.underlying T=some (.map kt el))(hx:a.eval x= .map (some bm))(hd:Nat.blt d n=true)
 (k:∀a' w' b,b=w.heap.size->Keep [] w w'->Sx w0 X φ (.iter b bm clk #[] clk::L) ((d,.pointer (some ⟨b,0,none⟩))::K) n a' w'->wpList P ops Q rest a' w'):
 wpList P ops Q ({dst:=some d,op:=.range T x,type:=ty,pos,after,guard:=none}::rest) a w:=by
 have hrun:(Instr.range T (.map (some bm))).run P w= .ok (.pointer (some ⟨w.heap.size,0,none⟩)) (w.alloc (.mapIter (some bm) clk #[] clk)):=by
  simp[Instr.range,run_underlying hT,Rx hb,run_newObj]
 refine GD (v:=.pointer (some ⟨w.heap.size,0,none⟩)) (w':=w.alloc (.mapIter (some bm) clk #[] clk)) (by simp[execOp,hx,hrun]) ?_;refine k _ _ w.heap.size Z (Rw w _) ((S.more (e:=.iter w.heap.size bm clk #[] clk) (Rw w _) ?_ (λc hc=>by cases hc;exact bU _)).put (by simpa using hd));exact heap_alloc_new w _
theorem l_next{x:Operand}{i b bm:Nat}{m:List (κ×ν)}{seen:Array Nat}(S:Sx w0 X φ L K n a w)(hi:L[i]? =some (.iter b bm m.length seen m.length))(hb:w.heap[bm]? =some (.map (Ii kv vv m) m.length))(hx:a.eval x= .pointer (some ⟨b,0,none⟩))(hd:Nat.blt d n=true)
 (k0:IG m seen=[]->∀a',Sx w0 X φ L ((d,.tuple #[.bool false])::K) n a' w->wpList P ops Q rest a' w)
 (k1:∀e seen' a' w',(IG m seen).Perm (e::IG m seen')->(∃j,seen'.back? =some j/\m[j]? =some e)->Keep [b] w w'->Sx w0 X φ (L.set i (.iter b bm m.length seen' m.length)) ((d,.tuple #[.bool true,kv e.1,vv e.2])::K) n a' w'->wpList P ops Q rest a' w'):
 wpList P ops Q ({dst:=some d,op:=.next x false,type:=ty,pos,after,guard:=none}::rest) a w:=by
 have hit:w.heap[b]? =some (.mapIter (some bm) m.length seen m.length):=S.holds _ (List.mem_of_getElem? hi);have hsz:(Ii kv vv m).size=m.length:=by simp[Ii,LB]
 have htest:(!seen.isEmpty && !(Ii kv vv m).isEmpty && (Ii kv vv m).all (λx=>decide (x.born≥m.length)))=false:=
  next_test_false seen (Ii kv vv m) m.length m.length (λx hx=>by
   rw[Ii,List.toList_toArray,DH,bD] at hx;obtain⟨p,hp,rfl⟩:=hx;have:=List.snd_lt_add_of_mem_zipIdx hp;simpa using this) (bU _)
 have hleft:(Ii kv vv m).filter (λe=>!seen.contains e.born)=((m.zipIdx.filter λp=>!seen.contains p.2).map λp=>(⟨kv p.1.1,vv p.1.2,p.2⟩:MapEntry)).toArray:=by
  rw[Ii,DH];simp only[List.filter_toArray,List.filter_map];rfl
 generalize hl:m.zipIdx.filter (λp=>!seen.contains p.2)=l at hleft;have hborn:∀p∈l,p.2<m.length:=λp hp=>by
  rw[←hl] at hp;have:=List.snd_lt_add_of_mem_zipIdx (List.mem_filter.1 hp).1;simpa using this
 have e1:((l.map λp=>(⟨kv p.1.1,vv p.1.2,p.2⟩:MapEntry)).toArray).filter (λx=>decide (x.born<m.length))=(l.map λp=>(⟨kv p.1.1,vv p.1.2,p.2⟩:MapEntry)).toArray:=by
  apply Array.filter_eq_self.2;intro x hx;obtain⟨p,hp,rfl⟩:=bD.1 (Array.mem_toList_iff.2 hx);simpa using hborn p hp
 have e2:((l.map λp=>(⟨kv p.1.1,vv p.1.2,p.2⟩:MapEntry)).toArray).filter (λx=>decide (x.born≥m.length))= #[]:=by
  rw[Array.filter_eq_empty_iff];intro x hx;obtain⟨p,hp,rfl⟩:=bD.1 (Array.mem_toList_iff.2 hx);have:=hborn p hp;simp;omega
 cases l with
 |nil=>
  have hrun:(Instr.next (.pointer (some ⟨b,0,none⟩)) false ty).run P w= .ok (.tuple #[.bool false]) w:=by
   simp only[Instr.next,getObj,Sem.run_bind,Sem.run,hit,hb,Result.andThen,htest,aO,aR,hleft,e1,e2];simp[choose,Sem.run,Question.forced]
  refine GD (v:=.tuple #[.bool false]) (w':=w) (by simp only[execOp,hx,Sem.run_bind,hrun];rfl) ?_;exact k0 (by unfold IG;rw[hl];rfl) _ (S.put (by simpa using hd))
 |cons q0 qs=>
  have hch:∃(j:Nat) (w1:World),j<(q0::qs).length/\w1.heap=w.heap/\Keep [] w w1/\(choose (Question.mapNext (q0::qs).length)).run P w= .ok j w1:=by
   by_cases hf:(q0::qs).length<=1
   ·exact⟨0,w,by simp,Z,Keep.refl _ _,by simp only[choose,Sem.run,Question.forced,aK,hf,aS]⟩
   ·exact⟨_,w.drew,Nat.mod_lt _ (show 0<(q0::qs).length by simp),Z,⟨Z,Z,Z,bU _,λ_ _ _=>rfl⟩,by
     simp only[choose,Sem.run,Question.forced,aK,hf,aR,Question.cut];rfl⟩
  obtain⟨j,w1,hj,hh,hk1,hrun⟩:=hch;have hq:(q0::qs)[j]? =some (q0::qs)[j]:=List.getElem?_eq_getElem hj;generalize (q0::qs)[j]=q at hq;have hqm:q∈m.zipIdx.filter (λp=>!seen.contains p.2):=by rw[hl];exact List.mem_of_getElem? hq
  obtain⟨hq1,hq2⟩:=List.mem_filter.1 hqm;obtain⟨e,i0⟩:=q;rw[List.mem_zipIdx_iff_getElem?] at hq1;have hEj:((q0::qs).map λp=>(⟨kv p.1.1,vv p.1.2,p.2⟩:MapEntry)).toArray[j]? =some ⟨kv e.1,vv e.2,i0⟩:=by rw[List.getElem?_toArray,List.getElem?_map,hq];rfl
  have hEs:((q0::qs).map λp=>(⟨kv p.1.1,vv p.1.2,p.2⟩:MapEntry)).toArray.size=(q0::qs).length:=by simp
  have hne:(((q0::qs).map λp=>(⟨kv p.1.1,vv p.1.2,p.2⟩:MapEntry)).toArray).isEmpty=false:=by simp
  generalize ((q0::qs).map λp=>(⟨kv p.1.1,vv p.1.2,p.2⟩:MapEntry)).toArray=E at hleft e1 e2 hEj hEs hne;have hlt:b<w1.heap.size:=by rw[hh];exact heap_lt hit
  have hset:(setObj b (.mapIter (some bm) m.length (seen.push i0) m.length)).run P w1= .ok () {w1 with heap:=w1.heap.setIfInBounds b (.mapIter (some bm) m.length (seen.push i0) m.length)}:=by
   simp[setObj,Sem.run,hh,hit]
  have hrun2:(Instr.next (.pointer (some ⟨b,0,none⟩)) false ty).run P w= .ok (.tuple #[.bool true,kv e.1,vv e.2]) {w1 with heap:=w1.heap.setIfInBounds b (.mapIter (some bm) m.length (seen.push i0) m.length)}:=by
   simp only[Instr.next,getObj,Sem.run_bind,Sem.run,hit,hb,Result.andThen,htest,aO,aR,hleft,e1,e2];simp only[hne,aO,aR,Array.append_empty,Array.empty_append,Array.size_map,hEs,hrun,Array.getElem?_map,hEj,Option.map_some,Sem.run_bind,hset,Result.andThen];rfl
  have hkeep:Keep [b] w {w1 with heap:=w1.heap.setIfInBounds b (.mapIter (some bm) m.length (seen.push i0) m.length)}:=
   ⟨hk1.os,hk1.tape,hk1.output,by simpa using hk1.size,λz hz hne=>by
    simp only[bA] at hne;rw[←hk1.block z hz aB];exact Array.getElem?_setIfInBounds_ne (λe=>hne e.symm)⟩
  refine GD (v:=.tuple #[.bool true,kv e.1,vv e.2]) (w':={w1 with heap:=w1.heap.setIfInBounds b (.mapIter (some bm) m.length (seen.push i0) m.length)}) (by simp only[execOp,hx,Sem.run_bind,hrun2];rfl) ?_;refine k1 e (seen.push i0) _ _ (XG hq1 (by simpa using hq2)) ⟨i0,by simp,hq1⟩ hkeep ((S.change (e':=.iter b bm m.length (seen.push i0) m.length) hi hkeep (by simp[LEnt.fp]) ?_ (λc hc=>.inl hc)).put (by simpa using hd));show _=_;simp[hlt]
theorem rn_entry{x:Operand}{b bm:Nat}{m:List (κ×ν)}{seen:Array Nat}{e:κ×ν}(hit:w.heap[b]? =some (.mapIter (some bm) m.length seen m.length))(hb:w.heap[bm]? =some (.map (Ii kv vv m) m.length))(hl:∃j,seen.back? =some j/\m[j]? =some e)(hx:a.eval x= .pointer (some ⟨b,0,none⟩)):
 Rn P a w (.entry x) ty (.tuple #[kv e.1,vv e.2]):=by
 obtain⟨j,h1,h2⟩:=hl;intro d p e' g;have hf:(Ii kv vv m).find? (λz=>z.born==j)=some ⟨kv e.1,vv e.2,j⟩:=by
  rw[←Array.find?_toList,Ii,List.toList_toArray];have hn:((Kx kv vv m 0).map (·.born)).Nodup:=by
   rw[DH,List.map_map];have:((λz:MapEntry=>z.born) ∘ λp:(κ×ν)×Nat=>(⟨kv p.1.1,vv p.1.2,p.2⟩:MapEntry))=λp=>p.2:=rfl;rw[this,List.zipIdx_map_snd];exact List.nodup_range'
  exact find_born ⟨kv e.1,vv e.2,j⟩ _ hn (by
   rw[DH,bD];exact⟨(e,j),by rw[List.mem_zipIdx_iff_getElem?];exact h2,Z⟩)
 simp[execOp,hx,Instr.entry,getObj,Sem.run,hit,hb,h1,hf,Result.andThen]
end
section
variable {κ ν:Type}
def Lu(kv:κ->Value)(vv:ν->Value)(m:List (κ×ν))(bs:List Nat):Array MapEntry:=((m.zip bs).map λp=>(⟨kv p.1.1,vv p.1.2,p.2⟩:MapEntry)).toArray
structure Yk(n:Nat)(bs:List Nat)(clk:Nat):Prop where
 len:bs.length=n
 inc:bs.Pairwise (·<·)
 lt:∀b∈bs,b<clk
theorem Abn:Yk ([]:List (κ×ν)).length [] 0:=⟨Z,.nil,λ_ h=>by cases h⟩
theorem Yk.add{n clk:Nat}{bs:List Nat}(h:Yk n bs clk):Yk (n+1) (bs++[clk]) (clk+1):=by
 refine⟨by simp[h.len],?_,?_⟩
 ·rw[bK];exact⟨h.inc,List.pairwise_singleton _ _,λa ha b hb=>by rw[bA] at hb;subst hb;exact h.lt a ha⟩
 ·intro b hb;rcases bC.1 hb with hb|hb
  ·have:=h.lt b hb;omega
  ·rw[bA] at hb;omega
theorem Yk.del{n clk i:Nat}{bs:List Nat}(h:Yk n bs clk)(hi:i<n):Yk (n-1) (bs.eraseIdx i) clk:=
 ⟨by rw[List.length_eraseIdx,h.len,aQ hi],h.inc.sublist (List.eraseIdx_sublist _ _),λb hb=>h.lt b ((List.eraseIdx_sublist _ _).subset hb)⟩
theorem QT{α β:Type}:∀(l:List α) (k:List β) (i:Nat),l.length=k.length->(l.eraseIdx i).zip (k.eraseIdx i)=(l.zip k).eraseIdx i
 |[],[],i,_=>by simp
 |[],_::_,_,h=>by simp at h
 |_::_,[],_,h=>by simp at h
 |_::l,_::k,0,_=>by simp
 |_::l,_::k,i+1,h=>by simp[QT l k i (by simpa using h)]
theorem QU{α β:Type}(f:α->β):∀(l:List α) (i:Nat),(l.eraseIdx i).map f=(l.map f).eraseIdx i
 |[],_=>by simp
 |_::_,0=>by simp
 |_::l,i+1=>by simp[QU f l i]
theorem JR(kind:TypeDesc)(k:Value):∀(es es':List MapEntry) (i:Nat),es.map (λe=>(e.key,e.val))=es'.map (λe=>(e.key,e.val))->Instr.findNow kind k es i=Instr.findNow kind k es' i
 |[],[],_,_=>rfl
 |[],_::_,_,h=>by simp at h
 |_::_,[],_,h=>by simp at h
 |e::es,e'::es',i,h=>by
  simp only[aY,bL,Prod.mk.injEq] at h
  simp only[Instr.findNow,h.1.1,h.1.2,JR kind k es es' (i+1) h.2]
theorem FH(kt:TypeId)(k:Value):∀(es es':List MapEntry) (i:Nat),es.map (λe=>(e.key,e.val))=es'.map (λe=>(e.key,e.val))->Instr.findAsking kt k es i=Instr.findAsking kt k es' i
 |[],[],_,_=>rfl
 |[],_::_,_,h=>by simp at h
 |_::_,[],_,h=>by simp at h
 |e::es,e'::es',i,h=>by
  simp only[aY,bL,Prod.mk.injEq] at h
  simp only[Instr.findAsking,h.1.1,h.1.2,FH kt k es es' (i+1) h.2]
theorem SY(kt:TypeId)(k:Value)(es es':List MapEntry)(h:es.map (λe=>(e.key,e.val))=es'.map (λe=>(e.key,e.val))):Instr.findKey kt k es=Instr.findKey kt k es':=by
 unfold Instr.findKey;simp only[JR _ k es es' 0 h,FH kt k es es' 0 h]
theorem UQ{kv:κ->Value}{vv:ν->Value}:∀(m:List (κ×ν)) (i:Nat),(Kx kv vv m i).map (λe=>(e.key,e.val))=m.map λp=>(kv p.1,vv p.2)
 |[],_=>rfl
 |_::m,i=>by simp[Kx,UQ m (i+1)]
theorem QV{kv:κ->Value}{vv:ν->Value}:∀(m:List (κ×ν)) (bs:List Nat),bs.length=m.length->(((m.zip bs).map λp=>(⟨kv p.1.1,vv p.1.2,p.2⟩:MapEntry))).map (λe=>(e.key,e.val))=m.map λp=>(kv p.1,vv p.2)
 |[],_,_=>by simp
 |_::_,[],h=>by simp at h
 |_::m,_::bs,h=>by simp[QV m bs (by simpa using h)]
end
section
variable {P:Program}{ops:Array Oper}{Q:Exit->Act->World->Prop}{rest:List Oper}
variable {w0:World}{X:List Nat}{φ:View}{L:List LEnt}{K:List (Nat×Value)}{n:Nat}{a:Act}{w:World}
variable {d:Nat}{ty:TypeId}{pos:String}{after:Array Edge}
variable {κ ν:Type}[DecidableEq κ]{kv:κ->Value}{vv:ν->Value}
theorem MX.findB{kt:TypeId}(hk:MX P kt kv)(x:κ)(m:List (κ×ν))(bs:List Nat)(h:bs.length=m.length)(w:World):(Instr.findKey kt (kv x) (Lu kv vv m bs).toList).run P w= .ok ((Pn m x 0).map λp=>(p.1,vv p.2)) w:=by
 rw[SY kt (kv x) (Lu kv vv m bs).toList (Kx kv vv m 0) (by rw[Lu,List.toList_toArray,QV m bs h,UQ])];exact hk.find vv x m w
theorem LD{k:κ}{u:ν}:∀{m:List (κ×ν)} {i n:Nat},Pn m k i=some (n,u)->i<=n/\n-i<m.length/\CW m k=m.eraseIdx (n-i)
 |[],_,_,h=>by cases h
 |(k',v')::m,i,n,h=>by
  simp only[Pn] at h
  split at h
  ·rename_i he;cases h
   simp[CW,he]
  ·rename_i hne
   obtain⟨h1,h2,h3⟩:=LD h
   obtain⟨q,rfl⟩:∃q,n=i+1+q:=⟨n-(i+1),by omega⟩
   have e1:i+1+q-i=q+1:=by omega
   have e2:i+1+q-(i+1)=q:=by omega
   rw[e2] at h2 h3
   refine⟨by omega,by rw[e1];simp;omega,by simp[CW,hne,h3,e1]⟩
theorem QW{k:κ}:∀{m:List (κ×ν)} {i:Nat},Pn m k i=none->CW m k=m
 |[],_,_=>rfl
 |(k',v')::m,i,h=>by
  simp only[Pn] at h
  split at h
  ·cases h
  ·rename_i hne;simp[CW,hne,QW h]
theorem QX{k:κ}{u v:ν}:∀{m:List (κ×ν)} {i n:Nat},Pn m k i=some (n,u)->i<=n/\n-i<m.length/\Hv m k v=m.set (n-i) (k,v)
 |[],_,_,h=>by cases h
 |(k',v')::m,i,n,h=>by
  simp only[Pn] at h
  split at h
  ·rename_i he;cases h
   simp[Hv,he]
  ·rename_i hne
   obtain⟨h1,h2,h3⟩:=QX (v:=v) h
   obtain⟨q,rfl⟩:∃q,n=i+1+q:=⟨n-(i+1),by omega⟩
   have e1:i+1+q-i=q+1:=by omega
   have e2:i+1+q-(i+1)=q:=by omega
   rw[e2] at h2 h3
   refine⟨by omega,by rw[e1];simp;omega,by simp[Hv,hne,h3,e1]⟩
omit [DecidableEq κ] in
theorem ZF{k:κ}{v:ν}:∀(m:List (κ×ν)) (bs:List Nat) (i:Nat),bs.length=m.length->(((m.set i (k,v)).zip bs).map λp=>(⟨kv p.1.1,vv p.1.2,p.2⟩:MapEntry))=((m.zip bs).map λp=>(⟨kv p.1.1,vv p.1.2,p.2⟩:MapEntry)).modify i λe=>{e with key:=kv k,val:=vv v}
 |[],_,_,_=>by simp
 |_::_,[],_,h=>by simp at h
 |_::m,_::bs,0,_=>by simp
 |_::m,_::bs,i+1,h=>by simp[ZF m bs i (by simpa using h)]
theorem QY{k:κ}{u:ν}:∀{m:List (κ×ν)} {bs:List Nat} {i j:Nat},bs.length=m.length->Pn m k j=some (i,u)->∃e,((m.zip bs).map λp=>(⟨kv p.1.1,vv p.1.2,p.2⟩:MapEntry))[i-j]? =some e/\e.key=kv k
 |[],_,_,_,_,h=>by cases h
 |_::_,[],_,_,h,_=>by simp at h
 |(k',v')::m,b::bs,i,j,hl,h=>by
  simp only[Pn] at h
  split at h
  ·rename_i he;cases h
   exact⟨⟨kv k',vv u,b⟩,by simp,by simp[he]⟩
  ·obtain⟨h1,_⟩:=LD h
   obtain⟨e,he,hk⟩:=QY (bs:=bs) (by simpa using hl) h
   refine⟨e,?_,hk⟩
   obtain⟨q,rfl⟩:∃q,i=j+1+q:=⟨i-(j+1),by omega⟩
   have e1:j+1+q-j=q+1:=by omega
   have e2:j+1+q-(j+1)=q:=by omega
   rw[e2] at he
   simp[e1,he]
omit [DecidableEq κ] in
theorem XH{T:TypeId}(S:Sx w0 X φ L K n a w)(hd:Nat.blt d n=true)(kv:κ->Value)(vv:ν->Value)
 (k:∀a' w' b,b=w.heap.size->Keep [] w w'->Sx w0 X φ (.map b (Lu kv vv ([]:List (κ×ν)) []) 0::L) ((d,.map (some b))::K) n a' w'->wpList P ops Q rest a' w'):
 wpList P ops Q ({dst:=some d,op:=.makeMap T none,type:=ty,pos,after,guard:=none}::rest) a w:=by
 refine GD (v:=.map (some w.heap.size)) (w':=w.alloc (.map #[] 0)) (by simp[execOp,Instr.makeMap,run_newObj]) ?_;refine k _ _ w.heap.size Z (Rw w _) ((S.more (e:=.map w.heap.size (Lu kv vv [] []) 0) (Rw w _) ?_ (λc hc=>by cases hc;exact bU _)).put (by simpa using hd));exact heap_alloc_new w _
theorem AN{b:Nat}(o:Obj):Keep [b] w {w with heap:=w.heap.setIfInBounds b o}:=
 ⟨Z,Z,Z,by simp,λq hq hne=>by simp only[bA] at hne;exact Array.getElem?_setIfInBounds_ne (λe=>hne e.symm)⟩
theorem Sx.mapSet{i b clk clk':Nat}{es es':Array MapEntry}(S:Sx w0 X φ L K n a w)(hi:L[i]? =some (.map b es clk)):Sx w0 X φ (L.set i (.map b es' clk')) K n a {w with heap:=w.heap.setIfInBounds b (.map es' clk')}:=by
 refine S.change hi (AN _) (by simp[LEnt.fp]) ?_ (λc hc=>.inl hc);have hlt:=heap_lt (S.map_at hi);show _=_;simp[hlt]
theorem SZ{T kt el:TypeId}{x y u:Operand}{i b clk:Nat}{bs:List Nat}{m:List (κ×ν)}{key:κ}{val:ν}(S:Sx w0 X φ L K n a w)(hi:L[i]? =some (.map b (Lu kv vv m bs) clk))(hB:Yk m.length bs clk)(hT:P.underlying T=some (.map kt el))(hk:MX P kt kv)
 (hx:a.eval x= .map (some b)) (hy:a.eval y=kv key) (hu:a.eval u=vv val)
 (k:∀w' bs' clk',Yk (Hv m key val).length bs' clk'->Keep [b] w w'->Sx w0 X φ (L.set i (.map b (Lu kv vv (Hv m key val) bs') clk')) K n a w'->wpList P ops Q rest a w'):
 wpList P ops Q ({dst:=none,op:=.mapUpdate T x y u,type:=ty,pos,after,guard:=none}::rest) a w:=by
 have hb:=S.map_at hi;have hf:=hk.findB (vv:=vv) key m bs hB.len w;have hfin:∀o,(setObj b o).run P w= .ok () {w with heap:=w.heap.setIfInBounds b o}:=λo=>BQ o hb
 cases hm:Pn m key 0 with
 |none=>
  rw[hm] at hf;have e1:Lu kv vv (Hv m key val) (bs++[clk])=(Lu kv vv m bs).push ⟨kv key,vv val,clk⟩:=by
   unfold Lu;rw[HM hm,List.zip_append hB.len.symm];simp
  have e2:(Hv m key val).length=m.length+1:=by rw[HM hm];simp
  have hrun:(Instr.mapUpdate T (.map (some b)) (kv key) (vv val)).run P w= .ok () {w with heap:=w.heap.setIfInBounds b (.map (Lu kv vv (Hv m key val) (bs++[clk])) (clk+1))}:=by
   rw[e1];simp[Instr.mapUpdate,Sem.run_bind,run_underlying hT,Rx hb,hk.chk,hf,hfin]
  exact UL (w':={w with heap:=w.heap.setIfInBounds b (.map (Lu kv vv (Hv m key val) (bs++[clk])) (clk+1))}) (by simp[execOp,hx,hy,hu,hrun]) (k _ _ _ (by rw[e2];exact hB.add) (AN _) (S.mapSet hi))
 |some p=>
  obtain⟨q,u'⟩:=p;rw[hm] at hf;obtain⟨_,_,h2⟩:=QX (v:=val) hm;obtain⟨e,he,hke⟩:=QY (kv:=kv) (vv:=vv) hB.len hm;rw[Nat.sub_zero] at h2 he;have e1:Lu kv vv (Hv m key val) bs=(Lu kv vv m bs).modify q λe=>{e with key:=kv key,val:=vv val}:=by
   unfold Lu;rw[h2,ZF m bs q hB.len];simp
  have e2:(Hv m key val).length=m.length:=by rw[h2];simp
  have he':(Lu kv vv m bs)[q]? =some e:=by unfold Lu;rw[List.getElem?_toArray];exact he
  have hrun:(Instr.mapUpdate T (.map (some b)) (kv key) (vv val)).run P w= .ok () {w with heap:=w.heap.setIfInBounds b (.map (Lu kv vv (Hv m key val) bs) clk)}:=by
   rw[e1];simp[Instr.mapUpdate,Sem.run_bind,run_underlying hT,Rx hb,hk.chk,hf,Instr.keyThatStays,hk.same,hfin,he',hke]
  exact UL (w':={w with heap:=w.heap.setIfInBounds b (.map (Lu kv vv (Hv m key val) bs) clk)}) (by simp[execOp,hx,hy,hu,hrun]) (k _ bs clk (by rw[e2];exact hB) (AN _) (S.mapSet hi))
theorem Abo{T kt el:TypeId}{ts:Array TypeId}{x y:Operand}{i b clk:Nat}{bs:List Nat}{m:List (κ×ν)}{key:κ}(S:Sx w0 X φ L K n a w)(hi:L[i]? =some (.map b (Lu kv vv m bs) clk))(hB:Yk m.length bs clk)(ht:ts[0]? =some T)(hT:P.underlying T=some (.map kt el))(hk:MX P kt kv)
 (hx:a.eval x= .map (some b)) (hy:a.eval y=kv key)
 (k:∀w' bs' clk',Yk (CW m key).length bs' clk'->Keep [b] w w'->Sx w0 X φ (L.set i (.map b (Lu kv vv (CW m key) bs') clk')) K n a w'->wpList P ops Q rest a w'):
 wpList P ops Q ({dst:=none,op:=.call {callee:=.builtin .delete,args:=#[x,y],argTypes:=ts},type:=ty,pos,after,guard:=none}::rest) a w:=by
 have hb:=S.map_at hi;have hf:=hk.findB (vv:=vv) key m bs hB.len w;have hfin:∀o,(setObj b o).run P w= .ok () {w with heap:=w.heap.setIfInBounds b o}:=λo=>BQ o hb
 cases hm:Pn m key 0 with
 |none=>
  rw[hm] at hf;have hrun:(Builtin.delete_ ts ty #[.map (some b),kv key]).run P w= .ok (.tuple #[]) {w with heap:=w.heap.setIfInBounds b (.map (Lu kv vv m bs) clk)}:=by
   simp[Builtin.delete_,ht,Sem.run_bind,run_underlying hT,Rx hb,hk.chk,hf,hfin]
  have e:=QW hm;refine GD (v:=.tuple #[]) (w':={w with heap:=w.heap.setIfInBounds b (.map (Lu kv vv m bs) clk)}) (by simp[execOp,resolve,invoke,builtin,hx,hy,hrun]) (k _ bs clk (by rw[e];exact hB) (AN _) ?_);rw[e];exact S.mapSet hi
 |some p=>
  obtain⟨q,u'⟩:=p;rw[hm] at hf;obtain⟨_,h1,h2⟩:=LD hm;rw[Nat.sub_zero] at h1 h2;have hlt:q<(Lu kv vv m bs).size:=by simp[Lu,hB.len,h1]
  have e1:Lu kv vv (CW m key) (bs.eraseIdx q)=(Lu kv vv m bs).eraseIdxIfInBounds q:=by
   rw[Array.eraseIdxIfInBounds,dif_pos hlt];apply Array.toList_inj.1;rw[Array.toList_eraseIdx];unfold Lu;rw[h2,QT _ _ _ hB.len.symm,List.toList_toArray,List.toList_toArray,QU]
  have e2:(CW m key).length=m.length-1:=by rw[h2,List.length_eraseIdx,aQ h1]
  have hrun:(Builtin.delete_ ts ty #[.map (some b),kv key]).run P w= .ok (.tuple #[]) {w with heap:=w.heap.setIfInBounds b (.map (Lu kv vv (CW m key) (bs.eraseIdx q)) clk)}:=by
   rw[e1];simp[Builtin.delete_,ht,Sem.run_bind,run_underlying hT,Rx hb,hk.chk,hf,hfin]
  exact GD (v:=.tuple #[]) (w':={w with heap:=w.heap.setIfInBounds b (.map (Lu kv vv (CW m key) (bs.eraseIdx q)) clk)}) (by simp[execOp,resolve,invoke,builtin,hx,hy,hrun]) (k _ (bs.eraseIdx q) clk (by rw[e2];exact hB.del h1) (AN _) (S.mapSet hi))
def IH{κ ν:Type}(m:List (κ×ν))(bs:List Nat)(seen:Array Nat):List (κ×ν):=((m.zip bs).filter λp=>!seen.contains p.2).map (·.1)
omit [DecidableEq κ] in
theorem leftB_0{m:List (κ×ν)}{bs:List Nat}{clk:Nat}(h:Yk m.length bs clk):IH m bs #[]=m:=by
 unfold IH;rw[List.filter_eq_self.2 (λp _=>by simp)];exact List.map_fst_zip (by rw[h.len];exact bU _)
omit [DecidableEq κ] in
theorem OG{m:List (κ×ν)}{bs:List Nat}{clk:Nat}(h:Yk m.length bs clk):((m.zip bs).map (·.2)).Nodup:=by
 rw[List.map_snd_zip (by rw[h.len];exact bU _)];exact h.inc.imp λhab e=>by omega
omit [DecidableEq κ] in
theorem XI{m:List (κ×ν)}{bs:List Nat}{clk:Nat}(hB:Yk m.length bs clk){seen:Array Nat}{i:Nat}{e:κ×ν}(hm:(e,i)∈m.zip bs)(hs:seen.contains i=false):(IH m bs seen).Perm (e::IH m bs (seen.push i)):=by
 have hn:=OG hB;have hn':(m.zip bs).Nodup:=List.Pairwise.of_map (λp:(κ×ν)×Nat=>p.2) (λa b hab e=>hab (by rw[e])) hn;have hp:=GF (p:=λp:(κ×ν)×Nat=>!seen.contains p.2) (q:=λp=>!(seen.push i).contains p.2) (x:=(e,i)) (by simp only[hs];rfl) aB (m.zip bs) hn' hm (λy hy hne=>by
  have h2:y.2≠i:=λhe=>hne (by
   obtain⟨a,ha⟩:=List.getElem?_of_mem hy;obtain⟨c,hc⟩:=List.getElem?_of_mem hm;have ha':((m.zip bs).map (·.2))[a]? =some i:=by rw[List.getElem?_map,ha,Option.map_some,he]
   have hc':((m.zip bs).map (·.2))[c]? =some i:=by rw[List.getElem?_map,hc,Option.map_some]
   have hac:a=c:=(List.getElem?_inj (List.getElem?_eq_some_iff.1 ha').1 hn).1 (ha'.trans hc'.symm);rw[hac,hc] at ha
   cases ha;rfl)
  simp[h2])
 exact hp.map (·.1)
omit [DecidableEq κ] in
theorem l_nextB{x:Operand}{i b bm clk:Nat}{m:List (κ×ν)}{bs:List Nat}{seen:Array Nat}(S:Sx w0 X φ L K n a w)(hi:L[i]? =some (.iter b bm clk seen clk))(hb:w.heap[bm]? =some (.map (Lu kv vv m bs) clk))(hB:Yk m.length bs clk)(hx:a.eval x= .pointer (some ⟨b,0,none⟩))(hd:Nat.blt d n=true)
 (k0:IH m bs seen=[]->∀a',Sx w0 X φ L ((d,.tuple #[.bool false])::K) n a' w->wpList P ops Q rest a' w)
 (k1:∀e seen' a' w',(IH m bs seen).Perm (e::IH m bs seen')->(∃j,seen'.back? =some j/\(e,j)∈m.zip bs)->Keep [b] w w'->Sx w0 X φ (L.set i (.iter b bm clk seen' clk)) ((d,.tuple #[.bool true,kv e.1,vv e.2])::K) n a' w'->wpList P ops Q rest a' w'):
 wpList P ops Q ({dst:=some d,op:=.next x false,type:=ty,pos,after,guard:=none}::rest) a w:=by
 have hit:w.heap[b]? =some (.mapIter (some bm) clk seen clk):=S.holds _ (List.mem_of_getElem? hi);have hborn0:∀p∈m.zip bs,p.2<clk:=λp hp=>hB.lt _ (List.of_mem_zip (a:=p.1) (b:=p.2) hp).2;have htest:(!seen.isEmpty && !(Lu kv vv m bs).isEmpty && (Lu kv vv m bs).all (λx=>decide (x.born≥clk)))=false:=
  next_test_false seen (Lu kv vv m bs) clk clk (λx hx=>by
   rw[Lu,List.toList_toArray,bD] at hx;obtain⟨p,hp,rfl⟩:=hx;exact hborn0 p hp) (bU _)
 have hleft:(Lu kv vv m bs).filter (λe=>!seen.contains e.born)=(((m.zip bs).filter λp=>!seen.contains p.2).map λp=>(⟨kv p.1.1,vv p.1.2,p.2⟩:MapEntry)).toArray:=by
  rw[Lu];simp only[List.filter_toArray,List.filter_map];rfl
 generalize hl:(m.zip bs).filter (λp=>!seen.contains p.2)=l at hleft;have hborn:∀p∈l,p.2<clk:=λp hp=>by
  rw[←hl] at hp;exact hborn0 p (List.mem_filter.1 hp).1
 have e1:((l.map λp=>(⟨kv p.1.1,vv p.1.2,p.2⟩:MapEntry)).toArray).filter (λx=>decide (x.born<clk))=(l.map λp=>(⟨kv p.1.1,vv p.1.2,p.2⟩:MapEntry)).toArray:=by
  apply Array.filter_eq_self.2;intro x hx;obtain⟨p,hp,rfl⟩:=bD.1 (Array.mem_toList_iff.2 hx);simpa using hborn p hp
 have e2:((l.map λp=>(⟨kv p.1.1,vv p.1.2,p.2⟩:MapEntry)).toArray).filter (λx=>decide (x.born≥clk))= #[]:=by
  rw[Array.filter_eq_empty_iff];intro x hx;obtain⟨p,hp,rfl⟩:=bD.1 (Array.mem_toList_iff.2 hx);have:=hborn p hp;simp;omega
 cases l with
 |nil=>
  have hrun:(Instr.next (.pointer (some ⟨b,0,none⟩)) false ty).run P w= .ok (.tuple #[.bool false]) w:=by
   simp only[Instr.next,getObj,Sem.run_bind,Sem.run,hit,hb,Result.andThen,htest,aO,aR,hleft,e1,e2];simp[choose,Sem.run,Question.forced]
  refine GD (v:=.tuple #[.bool false]) (w':=w) (by simp only[execOp,hx,Sem.run_bind,hrun];rfl) ?_;exact k0 (by unfold IH;rw[hl];rfl) _ (S.put (by simpa using hd))
 |cons q0 qs=>
  have hch:∃(j:Nat) (w1:World),j<(q0::qs).length/\w1.heap=w.heap/\Keep [] w w1/\(choose (Question.mapNext (q0::qs).length)).run P w= .ok j w1:=by
   by_cases hf:(q0::qs).length<=1
   ·exact⟨0,w,by simp,Z,Keep.refl _ _,by simp only[choose,Sem.run,Question.forced,aK,hf,aS]⟩
   ·exact⟨_,w.drew,Nat.mod_lt _ (show 0<(q0::qs).length by simp),Z,⟨Z,Z,Z,bU _,λ_ _ _=>rfl⟩,by
     simp only[choose,Sem.run,Question.forced,aK,hf,aR,Question.cut];rfl⟩
  obtain⟨j,w1,hj,hh,hk1,hrun⟩:=hch;have hq:(q0::qs)[j]? =some (q0::qs)[j]:=List.getElem?_eq_getElem hj;generalize (q0::qs)[j]=q at hq;have hqm:q∈(m.zip bs).filter (λp=>!seen.contains p.2):=by rw[hl];exact List.mem_of_getElem? hq
  obtain⟨hq1,hq2⟩:=List.mem_filter.1 hqm;obtain⟨e,i0⟩:=q;have hEj:((q0::qs).map λp=>(⟨kv p.1.1,vv p.1.2,p.2⟩:MapEntry)).toArray[j]? =some ⟨kv e.1,vv e.2,i0⟩:=by rw[List.getElem?_toArray,List.getElem?_map,hq];rfl
  have hEs:((q0::qs).map λp=>(⟨kv p.1.1,vv p.1.2,p.2⟩:MapEntry)).toArray.size=(q0::qs).length:=by simp
  have hne:(((q0::qs).map λp=>(⟨kv p.1.1,vv p.1.2,p.2⟩:MapEntry)).toArray).isEmpty=false:=by simp
  generalize ((q0::qs).map λp=>(⟨kv p.1.1,vv p.1.2,p.2⟩:MapEntry)).toArray=E at hleft e1 e2 hEj hEs hne;have hset:(setObj b (.mapIter (some bm) clk (seen.push i0) clk)).run P w1= .ok () {w1 with heap:=w1.heap.setIfInBounds b (.mapIter (some bm) clk (seen.push i0) clk)}:=by
   simp[setObj,Sem.run,hh,hit]
  have hlt:b<w1.heap.size:=by rw[hh];exact heap_lt hit
  have hrun2:(Instr.next (.pointer (some ⟨b,0,none⟩)) false ty).run P w= .ok (.tuple #[.bool true,kv e.1,vv e.2]) {w1 with heap:=w1.heap.setIfInBounds b (.mapIter (some bm) clk (seen.push i0) clk)}:=by
   simp only[Instr.next,getObj,Sem.run_bind,Sem.run,hit,hb,Result.andThen,htest,aO,aR,hleft,e1,e2];simp only[hne,aO,aR,Array.append_empty,Array.empty_append,Array.size_map,hEs,hrun,Array.getElem?_map,hEj,Option.map_some,Sem.run_bind,hset,Result.andThen];rfl
  have hkeep:Keep [b] w {w1 with heap:=w1.heap.setIfInBounds b (.mapIter (some bm) clk (seen.push i0) clk)}:=
   ⟨hk1.os,hk1.tape,hk1.output,by simpa using hk1.size,λz hz hne=>by
    simp only[bA] at hne;rw[←hk1.block z hz aB];exact Array.getElem?_setIfInBounds_ne (λe=>hne e.symm)⟩
  refine GD (v:=.tuple #[.bool true,kv e.1,vv e.2]) (w':={w1 with heap:=w1.heap.setIfInBounds b (.mapIter (some bm) clk (seen.push i0) clk)}) (by simp only[execOp,hx,Sem.run_bind,hrun2];rfl) ?_;refine k1 e (seen.push i0) _ _ (XI hB hq1 (by simpa using hq2)) ⟨i0,by simp,hq1⟩ hkeep ((S.change (e':=.iter b bm clk (seen.push i0) clk) hi hkeep (by simp[LEnt.fp]) ?_ (λc hc=>.inl hc)).put (by simpa using hd));show _=_;simp[hlt]
omit [DecidableEq κ] in
theorem Abp{x:Operand}{b bm clk:Nat}{m:List (κ×ν)}{bs:List Nat}{seen:Array Nat}{e:κ×ν}(hit:w.heap[b]? =some (.mapIter (some bm) clk seen clk))(hb:w.heap[bm]? =some (.map (Lu kv vv m bs) clk))(hB:Yk m.length bs clk)(hl:∃j,seen.back? =some j/\(e,j)∈m.zip bs)(hx:a.eval x= .pointer (some ⟨b,0,none⟩)):
 Rn P a w (.entry x) ty (.tuple #[kv e.1,vv e.2]):=by
 obtain⟨j,h1,h2⟩:=hl;intro d p e' g;have hf:(Lu kv vv m bs).find? (λz=>z.born==j)=some ⟨kv e.1,vv e.2,j⟩:=by
  rw[←Array.find?_toList,Lu,List.toList_toArray];have hn:(((m.zip bs).map λp=>(⟨kv p.1.1,vv p.1.2,p.2⟩:MapEntry)).map (·.born)).Nodup:=by
   rw[List.map_map];have:((λz:MapEntry=>z.born) ∘ λp:(κ×ν)×Nat=>(⟨kv p.1.1,vv p.1.2,p.2⟩:MapEntry))=λp=>p.2:=rfl;rw[this];exact OG hB
  exact find_born ⟨kv e.1,vv e.2,j⟩ _ hn (by
   rw[bD];exact⟨(e,j),h2,Z⟩)
 simp[execOp,hx,Instr.entry,getObj,Sem.run,hit,hb,h1,hf,Result.andThen]
end
end Go.Proofs.YtjlgddkenkpbpaaGreatDoor
