/- Maps. No statement here. -/
import Derived.Test.YthlielagemkjcaaGreatDoorMore
import Derived.Laws.IdiomRangeMap
namespace Go.Proofs.YthlielagemkjcaaGreatDoor
open Go
section
variable {κ ν:Type}[DecidableEq κ]
def Kd(kv:κ->Value)(vv:ν->Value):List (κ×ν)->Nat->List MapEntry
 |[],_=>[]
 |(k,v)::m,i=>⟨kv k,vv v,i⟩::Kd kv vv m (i+1)
def Ht(kv:κ->Value)(vv:ν->Value)(m:List (κ×ν)):Array MapEntry:=(Kd kv vv m 0).toArray
theorem JM{m:List (κ×ν)}{k:κ}{v:ν}{i:Nat}(h:Oo m k i=none):Iv m k v=m++[(k,v)]:=by
 induction m generalizing i with
 |nil=>rfl
 |cons p m ih=>
  obtain⟨k',v'⟩:=p;simp only[Oo] at h
  split at h
  ·cases h
  ·rename_i hne;simp[Iv,hne,ih h]
omit [DecidableEq κ] in
theorem SA(kv:κ->Value)(vv:ν->Value):∀(m:List (κ×ν)) i,(Kd kv vv m i).length=m.length
 |[],_=>rfl
 |_::m,i=>by simp[Kd,SA kv vv m (i+1)]
omit [DecidableEq κ] in
theorem WN(kv:κ->Value)(vv:ν->Value)(k:κ)(v:ν):∀(m:List (κ×ν)) i,Kd kv vv (m++[(k,v)]) i=Kd kv vv m i++[⟨kv k,vv v,i+m.length⟩]
 |[],i=>by simp[Kd]
 |_::m,i=>by simp[Kd,WN kv vv k v m (i+1)];omega
theorem SB{kv:κ->Value}{vv:ν->Value}{k:κ}{v u:ν}:∀{m:List (κ×ν)} {i n:Nat},Oo m k i=some (n,u)->i<=n/\
 Kd kv vv (Iv m k v) i=(Kd kv vv m i).modify (n-i) λe=>{e with key:=kv k,val:=vv v}
 |[],_,_,h=>by cases h
 |(k',v')::m,i,n,h=>by
  simp only[Oo] at h
  split at h
  ·rename_i he;cases h
   simp[Iv,he,Kd]
  ·rename_i hne
   obtain⟨h1,h2⟩:=SB (kv:=kv) (vv:=vv) (v:=v) h
   refine⟨by omega,?_⟩
   obtain⟨q,rfl⟩:∃q,n=i+1+q:=⟨n-(i+1),by omega⟩
   have e1:i+1+q-i=q+1:=by omega
   have e2:i+1+q-(i+1)=q:=by omega
   rw[e2] at h2
   simp[Iv,hne,Kd,h2,e1]
theorem WO{kv:κ->Value}{vv:ν->Value}{k:κ}{u:ν}:∀{m:List (κ×ν)} {i n:Nat},Oo m k i=some (n,u)->∃e,(Kd kv vv m i)[n-i]? =some e/\e.key=kv k
 |[],_,_,h=>by cases h
 |(k',v')::m,i,n,h=>by
  simp only[Oo] at h
  split at h
  ·rename_i he;cases h
   exact⟨⟨kv k',vv u,i⟩,by simp[Kd],by simp[he]⟩
  ·obtain⟨h1,_⟩:=SB (kv:=kv) (vv:=vv) (v:=u) h
   obtain⟨e,he,hk⟩:=WO (kv:=kv) (vv:=vv) h
   refine⟨e,?_,hk⟩
   obtain⟨q,rfl⟩:∃q,n=i+1+q:=⟨n-(i+1),by omega⟩
   have e1:i+1+q-i=q+1:=by omega
   have e2:i+1+q-(i+1)=q:=by omega
   rw[e2] at he
   simp[Kd,e1,he]
structure UR(P:Program)(kt:TypeId)(kv:κ->Value):Prop where
 chk:∀em x w,(Instr.checkKey em 10000 kt (kv x)).run P w= .ok () w
 find:∀{ν:Type} (vv:ν->Value) (x:κ) (m:List (κ×ν)) w,(Instr.findKey kt (kv x) (Kd kv vv m 0)).run P w= .ok ((Oo m x 0).map λp=>(p.1,vv p.2)) w
 same:∀x,Instr.sameBits 10000 (kv x) (kv x)=true
end
theorem XN(P:Program){ν:Type}(vv:ν->Value)(x:ByteArray):∀(m:List (ByteArray×ν)) (i:Nat),Instr.findNow .string (.string x) (Kd Value.string vv m i) i=some ((Oo m x i).map λp=>(p.1,vv p.2))
 |[],_=>rfl
 |(k,v)::m,i=>by
  simp only[Kd,Instr.findNow,Instr.sameNow,Oo]
  have hb:(x==k)=decide (x=k):=by rw[beq_toListBytes,JL]
  rw[hb]
  by_cases h:x=k
  ·simp[h]
  ·simp[h,XN P vv x m (i+1)]
theorem QM{P:Program}{kt:TypeId}(h:P.underlying kt=some .string):UR P kt Value.string where
 chk em x w:=by
  rw[show (10000:Nat)=9999+1 from rfl,Instr.checkKey];simp only[Sem.run_bind,run_underlying h,Result.andThen_ok,Sem.run_pure]
 find vv x m w:=by simp[Instr.findKey,Sem.run_bind,run_underlying h,XN P vv x m 0]
 same x:=by
  rw[Instr.sameBits,beq_toListBytes,JL];simp
section
variable {P:Program}{ops:Array Oper}{Q:Exit->Act->World->Prop}{rest:List Oper}
variable {w0:World}{X:List Nat}{φ:View}{L:List LEnt}{K:List (Nat×Value)}{n:Nat}{a:Act}{w:World}
variable {d:Nat}{ty:TypeId}{pos:String}{after:Array Edge}
variable {κ ν:Type}[DecidableEq κ]{kv:κ->Value}{vv:ν->Value}
omit [DecidableEq κ] in
theorem App{T:TypeId}(S:Sx w0 X φ L K n a w)(hd:Nat.blt d n=true)(kv:κ->Value)(vv:ν->Value)
 (k:∀a' w' b,b=w.heap.size->Keep [] w w'->Sx w0 X φ (.map b (Ht kv vv ([]:List (κ×ν))) ([]:List (κ×ν)).length::L) ((d,.map (some b))::K) n a' w'->wpList P ops Q rest a' w'):
 wpList P ops Q ({dst:=some d,op:=.makeMap T none,type:=ty,pos,after,guard:=none}::rest) a w:=by
 refine QK (v:=.map (some w.heap.size)) (w':=w.alloc (.map #[] 0)) (by simp[execOp,Instr.makeMap]) ?_;refine k _ _ w.heap.size rfl (Rq w _) ((S.more (e:=.map w.heap.size (Ht kv vv []) 0) (Rq w _) ?_ (λc hc=>by cases hc;exact bU _)).put (by simpa using hd));exact heap_alloc_new w _
theorem Sx.map_at{i b clk:Nat}{es:Array MapEntry}(S:Sx w0 X φ L K n a w)(hi:L[i]? =some (.map b es clk)):w.heap[b]? =some (.map es clk):=S.holds _ (List.mem_of_getElem? hi)
theorem Pc{b clk:Nat}{es:Array MapEntry}(h:w.heap[b]? =some (.map es clk)):(getObj b).run P w= .ok (.map es clk) w:=by simp[getObj,Sem.run,h]
theorem ES{b clk:Nat}{es:Array MapEntry}(o:Obj)(h:w.heap[b]? =some (.map es clk)):(setObj b o).run P w= .ok () {w with heap:=w.heap.setIfInBounds b o}:=by simp[setObj,Sem.run,h]
theorem Ahe{T kt el:TypeId}{b clk:Nat}{m:List (κ×ν)}(hb:w.heap[b]? =some (.map (Ht kv vv m) clk))(hT:P.underlying T=some (.map kt el))(hk:UR P kt kv){z:Value}(hz:∀w,(zeroValue el).run P w= .ok z w)(x:κ)(ok:Bool):
 (Instr.lookup T (.map (some b)) (kv x) ok).run P w= .ok (if ok then .tuple #[((Tw m x).map vv).getD z,.bool (Tw m x).isSome] else((Tw m x).map vv).getD z) w:=by
 have hf:=hk.find vv x m w
 cases hm:Oo m x 0 with
 |none=>rw[hm] at hf;cases ok<;>simp[Instr.lookup,Sem.run_bind,run_underlying hT,Pc hb,hk.chk,Ht,hf,hz,Tw,hm]
 |some p=>rw[hm] at hf;cases ok<;>simp[Instr.lookup,Sem.run_bind,run_underlying hT,Pc hb,hk.chk,Ht,hf,Tw,hm]
theorem Acj{T kt el:TypeId}{x y:Operand}{b clk:Nat}{m:List (κ×ν)}{key:κ}{z:ν}(hb:w.heap[b]? =some (.map (Ht kv vv m) clk))(hT:P.underlying T=some (.map kt el))(hk:UR P kt kv)(hz:∀w,(zeroValue el).run P w= .ok (vv z) w)
 (hx:a.eval x= .map (some b)) (hy:a.eval y=kv key):Rn P a w (.lookup T x y false) ty (vv (Gm m key z)):=by
 intro d p e g;have h:=Ahe hb hT hk hz key false;have h2:((Tw m key).map vv).getD (vv z)=vv (Gm m key z):=by cases hm:Tw m key<;>simp[Gm,hm]
 simp only[h2] at h;simp[execOp,hx,hy,h]
theorem ZR{T kt el:TypeId}{x y:Operand}{b clk:Nat}{m:List (κ×ν)}{key:κ}{z:ν}(hb:w.heap[b]? =some (.map (Ht kv vv m) clk))(hT:P.underlying T=some (.map kt el))(hk:UR P kt kv)(hz:∀w,(zeroValue el).run P w= .ok (vv z) w)
 (hx:a.eval x= .map (some b)) (hy:a.eval y=kv key):Rn P a w (.lookup T x y true) ty (.tuple #[vv (Gm m key z),.bool (Tw m key).isSome]):=by
 intro d p e g;have h:=Ahe hb hT hk hz key true;have h2:((Tw m key).map vv).getD (vv z)=vv (Gm m key z):=by cases hm:Tw m key<;>simp[Gm,hm]
 simp only[h2] at h;simp[execOp,hx,hy,h]
theorem Ahf{T kt el:TypeId}{x y u:Operand}{i b:Nat}{m:List (κ×ν)}{key:κ}{val:ν}(S:Sx w0 X φ L K n a w)(hi:L[i]? =some (.map b (Ht kv vv m) m.length))(hT:P.underlying T=some (.map kt el))(hk:UR P kt kv)
 (hx:a.eval x= .map (some b)) (hy:a.eval y=kv key) (hu:a.eval u=vv val)
 (k:∀w',Keep [b] w w'->Sx w0 X φ (L.set i (.map b (Ht kv vv (Iv m key val)) (Iv m key val).length)) K n a w'->wpList P ops Q rest a w'):
 wpList P ops Q ({dst:=none,op:=.mapUpdate T x y u,type:=ty,pos,after,guard:=none}::rest) a w:=by
 have hb:=S.map_at hi;have hlt:b<w.heap.size:=heap_lt hb;have hrun:(Instr.mapUpdate T (.map (some b)) (kv key) (vv val)).run P w= .ok () {w with heap:=w.heap.setIfInBounds b (.map (Ht kv vv (Iv m key val)) (Iv m key val).length)}:=by
  have hf:=hk.find vv key m w;have hfin:∀o,(setObj b o).run P w= .ok () {w with heap:=w.heap.setIfInBounds b o}:=λo=>ES o hb
  cases hm:Oo m key 0 with
  |none=>
   rw[hm] at hf;have e1:Ht kv vv (Iv m key val)=(Ht kv vv m).push ⟨kv key,vv val,m.length⟩:=by
    unfold Ht;rw[JM hm,WN];simp
   have e2:(Iv m key val).length=m.length+1:=by rw[JM hm];simp
   rw[e1,e2];simp[Instr.mapUpdate,Sem.run_bind,run_underlying hT,Pc hb,hk.chk,Ht,hf,hfin]
  |some p=>
   obtain⟨i,u'⟩:=p;rw[hm] at hf;obtain⟨_,h2⟩:=SB (kv:=kv) (vv:=vv) (v:=val) hm;obtain⟨e,he,hke⟩:=WO (kv:=kv) (vv:=vv) hm;rw[Nat.sub_zero] at h2 he;have e1:Ht kv vv (Iv m key val)=(Ht kv vv m).modify i λe=>{e with key:=kv key,val:=vv val}:=by
    unfold Ht;rw[h2];simp
   have e2:(Iv m key val).length=m.length:=by
    have:=congrArg List.length h2;simpa[SA] using this
   rw[e1,e2];have hkey:(((Ht kv vv m)[i]?).map (·.key)).getD (kv key)=kv key:=by simp[Ht,he,hke]
   simp[Instr.mapUpdate,Sem.run_bind,run_underlying hT,Pc hb,hk.chk,Ht,hf,Instr.keyThatStays,hk.same,hfin,he,hke]
 refine Aby (w':={w with heap:=w.heap.setIfInBounds b (.map (Ht kv vv (Iv m key val)) (Iv m key val).length)}) (by simp[execOp,hx,hy,hu,hrun]) ?_;have hkeep:Keep [b] w {w with heap:=w.heap.setIfInBounds b (.map (Ht kv vv (Iv m key val)) (Iv m key val).length)}:=
  ⟨rfl,rfl,rfl,by simp,λq hq hne=>by simp only[bA] at hne;exact Array.getElem?_setIfInBounds_ne (λe=>hne e.symm)⟩
 refine k _ hkeep (S.change hi hkeep (by simp[LEnt.fp]) ?_ (λc hc=>.inl hc));show _=_;simp[hlt]
omit [DecidableEq κ] in
theorem Sx.map_ret{i b clk:Nat}{es:Array MapEntry}(S:Sx w0 X φ L K n a w)(hi:L[i]? =some (.map b es clk))(hX:X=[]):newer w0 w b=some (.map es clk):=by
 unfold newer;have hs:=(S.sep b (Sx.fp_mem hi rfl)).2.1;rw[aQ (by rcases hs with h|h;exact h;subst hX;cases h)];exact S.map_at hi
end
section
variable {κ ν:Type}
def OZ(m:List (κ×ν))(seen:Array Nat):List (κ×ν):=(m.zipIdx.filter λp=>!seen.contains p.2).map (·.1)
theorem leftL_0(m:List (κ×ν)):OZ m #[]=m:=by
 unfold OZ;rw[List.filter_eq_self.2 (λp _=>by simp)];simp[List.zipIdx_map_fst]
theorem MR(kv:κ->Value)(vv:ν->Value):∀(m:List (κ×ν)) (i:Nat),Kd kv vv m i=(m.zipIdx i).map λp=>⟨kv p.1.1,vv p.1.2,p.2⟩
 |[],_=>rfl
 |(k,v)::m,i=>by simp[Kd,List.zipIdx_cons,MR kv vv m (i+1)]
theorem QO{α:Type}{p q:α->Bool}{x:α}(hp:p x=true)(hx:q x=false):∀(l:List α),l.Nodup->x∈l->(∀y∈l,y≠x->q y=p y)->(l.filter p).Perm (x::l.filter q)
 |[],_,h,_=>by cases h
 |y::l,hn,h,ho=>by
  obtain⟨hy,hn'⟩:=bT.1 hn
  by_cases e:y=x
  ·subst e
   have hs:l.filter p=l.filter q:=List.filter_congr λz hz=>(ho z (aM _ hz) (λe=>hy (e ▸ hz))).symm
   rw[List.filter_cons,List.filter_cons,hp,hx,hs]
   exact List.Perm.refl _
  ·have hxl:x∈l:=by
    rcases bB.1 h with rfl|h
    ·exact(e rfl).elim
    ·exact h
   have ih:=QO hp hx l hn' hxl λz hz=>ho z (aM _ hz);rw[List.filter_cons,List.filter_cons,ho y aN e]
   cases p y with
   |true=>exact(ih.cons y).trans (List.Perm.swap x y _)
   |false=>exact ih
theorem Apq(m:List (κ×ν)):m.zipIdx.Nodup:=by
 have h:(m.zipIdx.map (·.2)).Nodup:=by
  rw[List.zipIdx_map_snd];exact List.nodup_range'
 exact List.Pairwise.of_map (λp:(κ×ν)×Nat=>p.2) (λa b hab e=>hab (by rw[e])) h
theorem Akq{m:List (κ×ν)}{seen:Array Nat}{i:Nat}{e:κ×ν}(h:m[i]? =some e)(hs:seen.contains i=false):(OZ m seen).Perm (e::OZ m (seen.push i)):=by
 have hm:(e,i)∈m.zipIdx:=by
  rw[List.mem_zipIdx_iff_getElem?];exact h
 have hp:=QO (p:=λp:(κ×ν)×Nat=>!seen.contains p.2) (q:=λp=>!(seen.push i).contains p.2) (x:=(e,i)) (by simp only[hs];rfl) aB m.zipIdx (Apq m) hm (λy hy hne=>by
  have h2:y.2≠i:=λhe=>hne (by
   obtain⟨a,b⟩:=y;simp only at he;subst he;rw[List.mem_zipIdx_iff_getElem?] at hy;rw[h] at hy
   cases hy;rfl)
  simp[h2])
 exact hp.map (·.1)
end
section
variable {P:Program}{ops:Array Oper}{Q:Exit->Act->World->Prop}{rest:List Oper}
variable {w0:World}{X:List Nat}{φ:View}{L:List LEnt}{K:List (Nat×Value)}{n:Nat}{a:Act}{w:World}
variable {d:Nat}{ty:TypeId}{pos:String}{after:Array Edge}
variable {κ ν:Type}{kv:κ->Value}{vv:ν->Value}
theorem l_range{T kt el:TypeId}{x:Operand}{bm clk:Nat}{es:Array MapEntry}(S:Sx w0 X φ L K n a w)(hb:w.heap[bm]? =some (.map es clk))(hT:P.underlying T=some (.map kt el))(hx:a.eval x= .map (some bm))(hd:Nat.blt d n=true)
 (k:∀a' w' b,b=w.heap.size->Keep [] w w'->Sx w0 X φ (.iter b bm clk #[] clk::L) ((d,.pointer (some ⟨b,0,none⟩))::K) n a' w'->wpList P ops Q rest a' w'):
 wpList P ops Q ({dst:=some d,op:=.range T x,type:=ty,pos,after,guard:=none}::rest) a w:=by
 have hrun:(Instr.range T (.map (some bm))).run P w= .ok (.pointer (some ⟨w.heap.size,0,none⟩)) (w.alloc (.mapIter (some bm) clk #[] clk)):=by
  simp[Instr.range,run_underlying hT,Pc hb]
 refine QK (v:=.pointer (some ⟨w.heap.size,0,none⟩)) (w':=w.alloc (.mapIter (some bm) clk #[] clk)) (by simp[execOp,hx,hrun]) ?_;refine k _ _ w.heap.size rfl (Rq w _) ((S.more (e:=.iter w.heap.size bm clk #[] clk) (Rq w _) ?_ (λc hc=>by cases hc;exact bU _)).put (by simpa using hd));exact heap_alloc_new w _
theorem l_next{x:Operand}{i b bm:Nat}{m:List (κ×ν)}{seen:Array Nat}(S:Sx w0 X φ L K n a w)(hi:L[i]? =some (.iter b bm m.length seen m.length))(hb:w.heap[bm]? =some (.map (Ht kv vv m) m.length))(hx:a.eval x= .pointer (some ⟨b,0,none⟩))(hd:Nat.blt d n=true)
 (k0:OZ m seen=[]->∀a',Sx w0 X φ L ((d,.tuple #[.bool false])::K) n a' w->wpList P ops Q rest a' w)
 (k1:∀e seen' a' w',(OZ m seen).Perm (e::OZ m seen')->(∃j,seen'.back? =some j/\m[j]? =some e)->Keep [b] w w'->Sx w0 X φ (L.set i (.iter b bm m.length seen' m.length)) ((d,.tuple #[.bool true,kv e.1,vv e.2])::K) n a' w'->wpList P ops Q rest a' w'):
 wpList P ops Q ({dst:=some d,op:=.next x false,type:=ty,pos,after,guard:=none}::rest) a w:=by
 have hit:w.heap[b]? =some (.mapIter (some bm) m.length seen m.length):=S.holds _ (List.mem_of_getElem? hi);have hsz:(Ht kv vv m).size=m.length:=by simp[Ht,SA]
 have htest:(!seen.isEmpty && !(Ht kv vv m).isEmpty && (Ht kv vv m).all (λx=>decide (x.born≥m.length)))=false:=
  next_test_false seen (Ht kv vv m) m.length m.length (λx hx=>by
   rw[Ht,List.toList_toArray,MR,bD] at hx;obtain⟨p,hp,rfl⟩:=hx;have:=List.snd_lt_add_of_mem_zipIdx hp;simpa using this) (bU _)
 have hleft:(Ht kv vv m).filter (λe=>!seen.contains e.born)=((m.zipIdx.filter λp=>!seen.contains p.2).map λp=>(⟨kv p.1.1,vv p.1.2,p.2⟩:MapEntry)).toArray:=by
  rw[Ht,MR];simp only[List.filter_toArray,List.filter_map];rfl
 generalize hl:m.zipIdx.filter (λp=>!seen.contains p.2)=l at hleft;have hborn:∀p∈l,p.2<m.length:=λp hp=>by
  rw[←hl] at hp;have:=List.snd_lt_add_of_mem_zipIdx (List.mem_filter.1 hp).1;simpa using this
 have e1:((l.map λp=>(⟨kv p.1.1,vv p.1.2,p.2⟩:MapEntry)).toArray).filter (λx=>decide (x.born<m.length))=(l.map λp=>(⟨kv p.1.1,vv p.1.2,p.2⟩:MapEntry)).toArray:=by
  apply Array.filter_eq_self.2;intro x hx;obtain⟨p,hp,rfl⟩:=bD.1 (Array.mem_toList_iff.2 hx);simpa using hborn p hp
 have e2:((l.map λp=>(⟨kv p.1.1,vv p.1.2,p.2⟩:MapEntry)).toArray).filter (λx=>decide (x.born≥m.length))= #[]:=by
  rw[Array.filter_eq_empty_iff];intro x hx;obtain⟨p,hp,rfl⟩:=bD.1 (Array.mem_toList_iff.2 hx);have:=hborn p hp;simp;omega
 cases l with
 |nil=>
  have hrun:(Instr.next (.pointer (some ⟨b,0,none⟩)) false ty).run P w= .ok (.tuple #[.bool false]) w:=by
   simp only[Instr.next,getObj,Sem.run_bind,Sem.run,hit,hb,Result.andThen,htest,aO,aR,hleft,e1,e2];simp[choose,Sem.run,Question.forced]
  refine QK (v:=.tuple #[.bool false]) (w':=w) (by simp only[execOp,hx,Sem.run_bind,hrun];rfl) ?_;exact k0 (by unfold OZ;rw[hl];rfl) _ (S.put (by simpa using hd))
 |cons q0 qs=>
  have hch:∃(j:Nat) (w1:World),j<(q0::qs).length/\w1.heap=w.heap/\Keep [] w w1/\(choose (Question.mapNext (q0::qs).length)).run P w= .ok j w1:=by
   by_cases hf:(q0::qs).length<=1
   ·exact⟨0,w,by simp,rfl,Keep.refl _ _,by simp only[choose,Sem.run,Question.forced,aK,hf,aS]⟩
   ·exact⟨_,w.drew,Nat.mod_lt _ (show 0<(q0::qs).length by simp),rfl,⟨rfl,rfl,rfl,bU _,λ_ _ _=>rfl⟩,by
     simp only[choose,Sem.run,Question.forced,aK,hf,aR,Question.cut];rfl⟩
  obtain⟨j,w1,hj,hh,hk1,hrun⟩:=hch;have hq:(q0::qs)[j]? =some (q0::qs)[j]:=List.getElem?_eq_getElem hj;generalize (q0::qs)[j]=q at hq;have hqm:q∈m.zipIdx.filter (λp=>!seen.contains p.2):=by rw[hl];exact List.mem_of_getElem? hq
  obtain⟨hq1,hq2⟩:=List.mem_filter.1 hqm;obtain⟨e,i0⟩:=q;rw[List.mem_zipIdx_iff_getElem?] at hq1;have hEj:((q0::qs).map λp=>(⟨kv p.1.1,vv p.1.2,p.2⟩:MapEntry)).toArray[j]? =some ⟨kv e.1,vv e.2,i0⟩:=by rw[List.getElem?_toArray,List.getElem?_map,hq];rfl
  have hEs:((q0::qs).map λp=>(⟨kv p.1.1,vv p.1.2,p.2⟩:MapEntry)).toArray.size=(q0::qs).length:=by simp
  have hne:(((q0::qs).map λp=>(⟨kv p.1.1,vv p.1.2,p.2⟩:MapEntry)).toArray).isEmpty=false:=by simp
  generalize ((q0::qs).map λp=>(⟨kv p.1.1,vv p.1.2,p.2⟩:MapEntry)).toArray=E at hleft e1 e2 hEj hEs hne;have hlt:b<w1.heap.size:=by rw[hh];exact heap_lt hit
  have hset:(setObj b (.mapIter (some bm) m.length (seen.push i0) m.length)).run P w1= .ok () {w1 with heap:=w1.heap.setIfInBounds b (.mapIter (some bm) m.length (seen.push i0) m.length)}:=by
   simp[setObj,Sem.run,hh,hit]
  have hrun2:(Instr.next (.pointer (some ⟨b,0,none⟩)) false ty).run P w= .ok (.tuple #[.bool true,kv e.1,vv e.2]) {w1 with heap:=w1.heap.setIfInBounds b (.mapIter (some bm) m.length (seen.push i0) m.length)}:=by
   simp only[Instr.next,getObj,Sem.run_bind,Sem.run,hit,hb,Result.andThen,htest,aO,aR,hleft,e1,e2];simp only[hne,aO,aR,Array.append_empty,Array.empty_append,Array.size_map,hEs,hrun,Array.getElem?_map,hEj,Option.map_some,Sem.run_bind,hset,Result.andThen];rfl
  have hkeep:Keep [b] w {w1 with heap:=w1.heap.setIfInBounds b (.mapIter (some bm) m.length (seen.push i0) m.length)}:=
   ⟨hk1.os,hk1.tape,hk1.output,by simpa using hk1.size,λz hz hne=>by
    simp only[bA] at hne;rw[←hk1.block z hz aB];exact Array.getElem?_setIfInBounds_ne (λe=>hne e.symm)⟩
  refine QK (v:=.tuple #[.bool true,kv e.1,vv e.2]) (w':={w1 with heap:=w1.heap.setIfInBounds b (.mapIter (some bm) m.length (seen.push i0) m.length)}) (by simp only[execOp,hx,Sem.run_bind,hrun2];rfl) ?_;refine k1 e (seen.push i0) _ _ (Akq hq1 (by simpa using hq2)) ⟨i0,by simp,hq1⟩ hkeep ((S.change (e':=.iter b bm m.length (seen.push i0) m.length) hi hkeep (by simp[LEnt.fp]) ?_ (λc hc=>.inl hc)).put (by simpa using hd));show _=_;simp[hlt]
theorem rn_entry{x:Operand}{b bm:Nat}{m:List (κ×ν)}{seen:Array Nat}{e:κ×ν}(hit:w.heap[b]? =some (.mapIter (some bm) m.length seen m.length))(hb:w.heap[bm]? =some (.map (Ht kv vv m) m.length))(hl:∃j,seen.back? =some j/\m[j]? =some e)(hx:a.eval x= .pointer (some ⟨b,0,none⟩)):
 Rn P a w (.entry x) ty (.tuple #[kv e.1,vv e.2]):=by
 obtain⟨j,h1,h2⟩:=hl;intro d p e' g;have hf:(Ht kv vv m).find? (λz=>z.born==j)=some ⟨kv e.1,vv e.2,j⟩:=by
  rw[←Array.find?_toList,Ht,List.toList_toArray];have hn:((Kd kv vv m 0).map (·.born)).Nodup:=by
   rw[MR,List.map_map];have:((λz:MapEntry=>z.born) ∘ λp:(κ×ν)×Nat=>(⟨kv p.1.1,vv p.1.2,p.2⟩:MapEntry))=λp=>p.2:=rfl;rw[this,List.zipIdx_map_snd];exact List.nodup_range'
  exact find_born ⟨kv e.1,vv e.2,j⟩ _ hn (by
   rw[MR,bD];exact⟨(e,j),by rw[List.mem_zipIdx_iff_getElem?];exact h2,rfl⟩)
 simp[execOp,hx,Instr.entry,getObj,Sem.run,hit,hb,h1,hf,Result.andThen]
end
section
variable {κ ν:Type}
def Kv(kv:κ->Value)(vv:ν->Value)(m:List (κ×ν))(bs:List Nat):Array MapEntry:=((m.zip bs).map λp=>(⟨kv p.1.1,vv p.1.2,p.2⟩:MapEntry)).toArray
structure Xq(n:Nat)(bs:List Nat)(clk:Nat):Prop where
 len:bs.length=n
 inc:bs.Pairwise (·<·)
 lt:∀b∈bs,b<clk
theorem Apr:Xq ([]:List (κ×ν)).length [] 0:=⟨rfl,.nil,λ_ h=>by cases h⟩
theorem Xq.add{n clk:Nat}{bs:List Nat}(h:Xq n bs clk):Xq (n+1) (bs++[clk]) (clk+1):=by
 refine⟨by simp[h.len],?_,?_⟩
 ·rw[bK];exact⟨h.inc,List.pairwise_singleton _ _,λa ha b hb=>by rw[bA] at hb;subst hb;exact h.lt a ha⟩
 ·intro b hb;rcases bC.1 hb with hb|hb
  ·have:=h.lt b hb;omega
  ·rw[bA] at hb;omega
theorem Xq.del{n clk i:Nat}{bs:List Nat}(h:Xq n bs clk)(hi:i<n):Xq (n-1) (bs.eraseIdx i) clk:=
 ⟨by rw[List.length_eraseIdx,h.len,aQ hi],h.inc.sublist (List.eraseIdx_sublist _ _),λb hb=>h.lt b ((List.eraseIdx_sublist _ _).subset hb)⟩
theorem Ack{α β:Type}:∀(l:List α) (k:List β) (i:Nat),l.length=k.length->(l.eraseIdx i).zip (k.eraseIdx i)=(l.zip k).eraseIdx i
 |[],[],i,_=>by simp
 |[],_::_,_,h=>by simp at h
 |_::_,[],_,h=>by simp at h
 |_::l,_::k,0,_=>by simp
 |_::l,_::k,i+1,h=>by simp[Ack l k i (by simpa using h)]
theorem Acl{α β:Type}(f:α->β):∀(l:List α) (i:Nat),(l.eraseIdx i).map f=(l.map f).eraseIdx i
 |[],_=>by simp
 |_::_,0=>by simp
 |_::l,i+1=>by simp[Acl f l i]
theorem US(kind:TypeDesc)(k:Value):∀(es es':List MapEntry) (i:Nat),es.map (λe=>(e.key,e.val))=es'.map (λe=>(e.key,e.val))->Instr.findNow kind k es i=Instr.findNow kind k es' i
 |[],[],_,_=>rfl
 |[],_::_,_,h=>by simp at h
 |_::_,[],_,h=>by simp at h
 |e::es,e'::es',i,h=>by
  simp only[aY,bL,Prod.mk.injEq] at h
  simp only[Instr.findNow,h.1.1,h.1.2,US kind k es es' (i+1) h.2]
theorem PA(kt:TypeId)(k:Value):∀(es es':List MapEntry) (i:Nat),es.map (λe=>(e.key,e.val))=es'.map (λe=>(e.key,e.val))->Instr.findAsking kt k es i=Instr.findAsking kt k es' i
 |[],[],_,_=>rfl
 |[],_::_,_,h=>by simp at h
 |_::_,[],_,h=>by simp at h
 |e::es,e'::es',i,h=>by
  simp only[aY,bL,Prod.mk.injEq] at h
  simp only[Instr.findAsking,h.1.1,h.1.2,PA kt k es es' (i+1) h.2]
theorem Afc(kt:TypeId)(k:Value)(es es':List MapEntry)(h:es.map (λe=>(e.key,e.val))=es'.map (λe=>(e.key,e.val))):Instr.findKey kt k es=Instr.findKey kt k es':=by
 unfold Instr.findKey;simp only[US _ k es es' 0 h,PA kt k es es' 0 h]
theorem Ahg{kv:κ->Value}{vv:ν->Value}:∀(m:List (κ×ν)) (i:Nat),(Kd kv vv m i).map (λe=>(e.key,e.val))=m.map λp=>(kv p.1,vv p.2)
 |[],_=>rfl
 |_::m,i=>by simp[Kd,Ahg m (i+1)]
theorem Acm{kv:κ->Value}{vv:ν->Value}:∀(m:List (κ×ν)) (bs:List Nat),bs.length=m.length->(((m.zip bs).map λp=>(⟨kv p.1.1,vv p.1.2,p.2⟩:MapEntry))).map (λe=>(e.key,e.val))=m.map λp=>(kv p.1,vv p.2)
 |[],_,_=>by simp
 |_::_,[],h=>by simp at h
 |_::m,_::bs,h=>by simp[Acm m bs (by simpa using h)]
end
section
variable {P:Program}{ops:Array Oper}{Q:Exit->Act->World->Prop}{rest:List Oper}
variable {w0:World}{X:List Nat}{φ:View}{L:List LEnt}{K:List (Nat×Value)}{n:Nat}{a:Act}{w:World}
variable {d:Nat}{ty:TypeId}{pos:String}{after:Array Edge}
variable {κ ν:Type}[DecidableEq κ]{kv:κ->Value}{vv:ν->Value}
theorem UR.findB{kt:TypeId}(hk:UR P kt kv)(x:κ)(m:List (κ×ν))(bs:List Nat)(h:bs.length=m.length)(w:World):(Instr.findKey kt (kv x) (Kv kv vv m bs).toList).run P w= .ok ((Oo m x 0).map λp=>(p.1,vv p.2)) w:=by
 rw[Afc kt (kv x) (Kv kv vv m bs).toList (Kd kv vv m 0) (by rw[Kv,List.toList_toArray,Acm m bs h,Ahg])];exact hk.find vv x m w
theorem WP{k:κ}{u:ν}:∀{m:List (κ×ν)} {i n:Nat},Oo m k i=some (n,u)->i<=n/\n-i<m.length/\KZ m k=m.eraseIdx (n-i)
 |[],_,_,h=>by cases h
 |(k',v')::m,i,n,h=>by
  simp only[Oo] at h
  split at h
  ·rename_i he;cases h
   simp[KZ,he]
  ·rename_i hne
   obtain⟨h1,h2,h3⟩:=WP h
   obtain⟨q,rfl⟩:∃q,n=i+1+q:=⟨n-(i+1),by omega⟩
   have e1:i+1+q-i=q+1:=by omega
   have e2:i+1+q-(i+1)=q:=by omega
   rw[e2] at h2 h3
   refine⟨by omega,by rw[e1];simp;omega,by simp[KZ,hne,h3,e1]⟩
theorem Acn{k:κ}:∀{m:List (κ×ν)} {i:Nat},Oo m k i=none->KZ m k=m
 |[],_,_=>rfl
 |(k',v')::m,i,h=>by
  simp only[Oo] at h
  split at h
  ·cases h
  ·rename_i hne;simp[KZ,hne,Acn h]
theorem Aco{k:κ}{u v:ν}:∀{m:List (κ×ν)} {i n:Nat},Oo m k i=some (n,u)->i<=n/\n-i<m.length/\Iv m k v=m.set (n-i) (k,v)
 |[],_,_,h=>by cases h
 |(k',v')::m,i,n,h=>by
  simp only[Oo] at h
  split at h
  ·rename_i he;cases h
   simp[Iv,he]
  ·rename_i hne
   obtain⟨h1,h2,h3⟩:=Aco (v:=v) h
   obtain⟨q,rfl⟩:∃q,n=i+1+q:=⟨n-(i+1),by omega⟩
   have e1:i+1+q-i=q+1:=by omega
   have e2:i+1+q-(i+1)=q:=by omega
   rw[e2] at h2 h3
   refine⟨by omega,by rw[e1];simp;omega,by simp[Iv,hne,h3,e1]⟩
omit [DecidableEq κ] in
theorem Amw{k:κ}{v:ν}:∀(m:List (κ×ν)) (bs:List Nat) (i:Nat),bs.length=m.length->(((m.set i (k,v)).zip bs).map λp=>(⟨kv p.1.1,vv p.1.2,p.2⟩:MapEntry))=((m.zip bs).map λp=>(⟨kv p.1.1,vv p.1.2,p.2⟩:MapEntry)).modify i λe=>{e with key:=kv k,val:=vv v}
 |[],_,_,_=>by simp
 |_::_,[],_,h=>by simp at h
 |_::m,_::bs,0,_=>by simp
 |_::m,_::bs,i+1,h=>by simp[Amw m bs i (by simpa using h)]
theorem Acp{k:κ}{u:ν}:∀{m:List (κ×ν)} {bs:List Nat} {i j:Nat},bs.length=m.length->Oo m k j=some (i,u)->∃e,((m.zip bs).map λp=>(⟨kv p.1.1,vv p.1.2,p.2⟩:MapEntry))[i-j]? =some e/\e.key=kv k
 |[],_,_,_,_,h=>by cases h
 |_::_,[],_,_,h,_=>by simp at h
 |(k',v')::m,b::bs,i,j,hl,h=>by
  simp only[Oo] at h
  split at h
  ·rename_i he;cases h
   exact⟨⟨kv k',vv u,b⟩,by simp,by simp[he]⟩
  ·obtain⟨h1,_⟩:=WP h
   obtain⟨e,he,hk⟩:=Acp (bs:=bs) (by simpa using hl) h
   refine⟨e,?_,hk⟩
   obtain⟨q,rfl⟩:∃q,i=j+1+q:=⟨i-(j+1),by omega⟩
   have e1:j+1+q-j=q+1:=by omega
   have e2:j+1+q-(j+1)=q:=by omega
   rw[e2] at he
   simp[e1,he]
theorem HG{b:Nat}(o:Obj):Keep [b] w {w with heap:=w.heap.setIfInBounds b o}:=
 ⟨rfl,rfl,rfl,by simp,λq hq hne=>by simp only[bA] at hne;exact Array.getElem?_setIfInBounds_ne (λe=>hne e.symm)⟩
theorem Sx.mapSet{i b clk clk':Nat}{es es':Array MapEntry}(S:Sx w0 X φ L K n a w)(hi:L[i]? =some (.map b es clk)):Sx w0 X φ (L.set i (.map b es' clk')) K n a {w with heap:=w.heap.setIfInBounds b (.map es' clk')}:=by
 refine S.change hi (HG _) (by simp[LEnt.fp]) ?_ (λc hc=>.inl hc);have hlt:=heap_lt (S.map_at hi);show _=_;simp[hlt]
theorem Afd{T kt el:TypeId}{x y u:Operand}{i b clk:Nat}{bs:List Nat}{m:List (κ×ν)}{key:κ}{val:ν}(S:Sx w0 X φ L K n a w)(hi:L[i]? =some (.map b (Kv kv vv m bs) clk))(hB:Xq m.length bs clk)(hT:P.underlying T=some (.map kt el))(hk:UR P kt kv)
 (hx:a.eval x= .map (some b)) (hy:a.eval y=kv key) (hu:a.eval u=vv val)
 (k:∀w' bs' clk',Xq (Iv m key val).length bs' clk'->Keep [b] w w'->Sx w0 X φ (L.set i (.map b (Kv kv vv (Iv m key val) bs') clk')) K n a w'->wpList P ops Q rest a w'):
 wpList P ops Q ({dst:=none,op:=.mapUpdate T x y u,type:=ty,pos,after,guard:=none}::rest) a w:=by
 have hb:=S.map_at hi;have hf:=hk.findB (vv:=vv) key m bs hB.len w;have hfin:∀o,(setObj b o).run P w= .ok () {w with heap:=w.heap.setIfInBounds b o}:=λo=>ES o hb
 cases hm:Oo m key 0 with
 |none=>
  rw[hm] at hf;have e1:Kv kv vv (Iv m key val) (bs++[clk])=(Kv kv vv m bs).push ⟨kv key,vv val,clk⟩:=by
   unfold Kv;rw[JM hm,List.zip_append hB.len.symm];simp
  have e2:(Iv m key val).length=m.length+1:=by rw[JM hm];simp
  have hrun:(Instr.mapUpdate T (.map (some b)) (kv key) (vv val)).run P w= .ok () {w with heap:=w.heap.setIfInBounds b (.map (Kv kv vv (Iv m key val) (bs++[clk])) (clk+1))}:=by
   rw[e1];simp[Instr.mapUpdate,Sem.run_bind,run_underlying hT,Pc hb,hk.chk,hf,hfin]
  exact Aby (w':={w with heap:=w.heap.setIfInBounds b (.map (Kv kv vv (Iv m key val) (bs++[clk])) (clk+1))}) (by simp[execOp,hx,hy,hu,hrun]) (k _ _ _ (by rw[e2];exact hB.add) (HG _) (S.mapSet hi))
 |some p=>
  obtain⟨q,u'⟩:=p;rw[hm] at hf;obtain⟨_,_,h2⟩:=Aco (v:=val) hm;obtain⟨e,he,hke⟩:=Acp (kv:=kv) (vv:=vv) hB.len hm;rw[Nat.sub_zero] at h2 he;have e1:Kv kv vv (Iv m key val) bs=(Kv kv vv m bs).modify q λe=>{e with key:=kv key,val:=vv val}:=by
   unfold Kv;rw[h2,Amw m bs q hB.len];simp
  have e2:(Iv m key val).length=m.length:=by rw[h2];simp
  have he':(Kv kv vv m bs)[q]? =some e:=by unfold Kv;rw[List.getElem?_toArray];exact he
  have hrun:(Instr.mapUpdate T (.map (some b)) (kv key) (vv val)).run P w= .ok () {w with heap:=w.heap.setIfInBounds b (.map (Kv kv vv (Iv m key val) bs) clk)}:=by
   rw[e1];simp[Instr.mapUpdate,Sem.run_bind,run_underlying hT,Pc hb,hk.chk,hf,Instr.keyThatStays,hk.same,hfin,he',hke]
  exact Aby (w':={w with heap:=w.heap.setIfInBounds b (.map (Kv kv vv (Iv m key val) bs) clk)}) (by simp[execOp,hx,hy,hu,hrun]) (k _ bs clk (by rw[e2];exact hB) (HG _) (S.mapSet hi))
theorem Aps{T kt el:TypeId}{ts:Array TypeId}{x y:Operand}{i b clk:Nat}{bs:List Nat}{m:List (κ×ν)}{key:κ}(S:Sx w0 X φ L K n a w)(hi:L[i]? =some (.map b (Kv kv vv m bs) clk))(hB:Xq m.length bs clk)(ht:ts[0]? =some T)(hT:P.underlying T=some (.map kt el))(hk:UR P kt kv)
 (hx:a.eval x= .map (some b)) (hy:a.eval y=kv key)
 (k:∀w' bs' clk',Xq (KZ m key).length bs' clk'->Keep [b] w w'->Sx w0 X φ (L.set i (.map b (Kv kv vv (KZ m key) bs') clk')) K n a w'->wpList P ops Q rest a w'):
 wpList P ops Q ({dst:=none,op:=.call {callee:=.builtin .delete,args:=#[x,y],argTypes:=ts},type:=ty,pos,after,guard:=none}::rest) a w:=by
 have hb:=S.map_at hi;have hf:=hk.findB (vv:=vv) key m bs hB.len w;have hfin:∀o,(setObj b o).run P w= .ok () {w with heap:=w.heap.setIfInBounds b o}:=λo=>ES o hb
 cases hm:Oo m key 0 with
 |none=>
  rw[hm] at hf;have hrun:(Builtin.delete_ ts ty #[.map (some b),kv key]).run P w= .ok (.tuple #[]) {w with heap:=w.heap.setIfInBounds b (.map (Kv kv vv m bs) clk)}:=by
   simp[Builtin.delete_,ht,Sem.run_bind,run_underlying hT,Pc hb,hk.chk,hf,hfin]
  have e:=Acn hm;refine QK (v:=.tuple #[]) (w':={w with heap:=w.heap.setIfInBounds b (.map (Kv kv vv m bs) clk)}) (by simp[execOp,resolve,invoke,builtin,hx,hy,hrun]) (k _ bs clk (by rw[e];exact hB) (HG _) ?_);rw[e];exact S.mapSet hi
 |some p=>
  obtain⟨q,u'⟩:=p;rw[hm] at hf;obtain⟨_,h1,h2⟩:=WP hm;rw[Nat.sub_zero] at h1 h2;have hlt:q<(Kv kv vv m bs).size:=by simp[Kv,hB.len,h1]
  have e1:Kv kv vv (KZ m key) (bs.eraseIdx q)=(Kv kv vv m bs).eraseIdxIfInBounds q:=by
   rw[Array.eraseIdxIfInBounds,dif_pos hlt];apply Array.toList_inj.1;rw[Array.toList_eraseIdx];unfold Kv;rw[h2,Ack _ _ _ hB.len.symm,List.toList_toArray,List.toList_toArray,Acl]
  have e2:(KZ m key).length=m.length-1:=by rw[h2,List.length_eraseIdx,aQ h1]
  have hrun:(Builtin.delete_ ts ty #[.map (some b),kv key]).run P w= .ok (.tuple #[]) {w with heap:=w.heap.setIfInBounds b (.map (Kv kv vv (KZ m key) (bs.eraseIdx q)) clk)}:=by
   rw[e1];simp[Builtin.delete_,ht,Sem.run_bind,run_underlying hT,Pc hb,hk.chk,hf,hfin]
  exact QK (v:=.tuple #[]) (w':={w with heap:=w.heap.setIfInBounds b (.map (Kv kv vv (KZ m key) (bs.eraseIdx q)) clk)}) (by simp[execOp,resolve,invoke,builtin,hx,hy,hrun]) (k _ (bs.eraseIdx q) clk (by rw[e2];exact hB.del h1) (HG _) (S.mapSet hi))
def PB{κ ν:Type}(m:List (κ×ν))(bs:List Nat)(seen:Array Nat):List (κ×ν):=((m.zip bs).filter λp=>!seen.contains p.2).map (·.1)
omit [DecidableEq κ] in
theorem leftB_0{m:List (κ×ν)}{bs:List Nat}{clk:Nat}(h:Xq m.length bs clk):PB m bs #[]=m:=by
 unfold PB;rw[List.filter_eq_self.2 (λp _=>by simp)];exact List.map_fst_zip (by rw[h.len];exact bU _)
omit [DecidableEq κ] in
theorem ZS{m:List (κ×ν)}{bs:List Nat}{clk:Nat}(h:Xq m.length bs clk):((m.zip bs).map (·.2)).Nodup:=by
 rw[List.map_snd_zip (by rw[h.len];exact bU _)];exact h.inc.imp λhab e=>by omega
omit [DecidableEq κ] in
theorem Akr{m:List (κ×ν)}{bs:List Nat}{clk:Nat}(hB:Xq m.length bs clk){seen:Array Nat}{i:Nat}{e:κ×ν}(hm:(e,i)∈m.zip bs)(hs:seen.contains i=false):(PB m bs seen).Perm (e::PB m bs (seen.push i)):=by
 have hn:=ZS hB;have hn':(m.zip bs).Nodup:=List.Pairwise.of_map (λp:(κ×ν)×Nat=>p.2) (λa b hab e=>hab (by rw[e])) hn;have hp:=QO (p:=λp:(κ×ν)×Nat=>!seen.contains p.2) (q:=λp=>!(seen.push i).contains p.2) (x:=(e,i)) (by simp only[hs];rfl) aB (m.zip bs) hn' hm (λy hy hne=>by
  have h2:y.2≠i:=λhe=>hne (by
   obtain⟨a,ha⟩:=List.getElem?_of_mem hy;obtain⟨c,hc⟩:=List.getElem?_of_mem hm;have ha':((m.zip bs).map (·.2))[a]? =some i:=by rw[List.getElem?_map,ha,Option.map_some,he]
   have hc':((m.zip bs).map (·.2))[c]? =some i:=by rw[List.getElem?_map,hc,Option.map_some]
   have hac:a=c:=(List.getElem?_inj (List.getElem?_eq_some_iff.1 ha').1 hn).1 (ha'.trans hc'.symm);rw[hac,hc] at ha
   cases ha;rfl)
  simp[h2])
 exact hp.map (·.1)
omit [DecidableEq κ] in
theorem l_nextB{x:Operand}{i b bm clk:Nat}{m:List (κ×ν)}{bs:List Nat}{seen:Array Nat}(S:Sx w0 X φ L K n a w)(hi:L[i]? =some (.iter b bm clk seen clk))(hb:w.heap[bm]? =some (.map (Kv kv vv m bs) clk))(hB:Xq m.length bs clk)(hx:a.eval x= .pointer (some ⟨b,0,none⟩))(hd:Nat.blt d n=true)
 (k0:PB m bs seen=[]->∀a',Sx w0 X φ L ((d,.tuple #[.bool false])::K) n a' w->wpList P ops Q rest a' w)
 (k1:∀e seen' a' w',(PB m bs seen).Perm (e::PB m bs seen')->(∃j,seen'.back? =some j/\(e,j)∈m.zip bs)->Keep [b] w w'->Sx w0 X φ (L.set i (.iter b bm clk seen' clk)) ((d,.tuple #[.bool true,kv e.1,vv e.2])::K) n a' w'->wpList P ops Q rest a' w'):
 wpList P ops Q ({dst:=some d,op:=.next x false,type:=ty,pos,after,guard:=none}::rest) a w:=by
 have hit:w.heap[b]? =some (.mapIter (some bm) clk seen clk):=S.holds _ (List.mem_of_getElem? hi);have hborn0:∀p∈m.zip bs,p.2<clk:=λp hp=>hB.lt _ (List.of_mem_zip (a:=p.1) (b:=p.2) hp).2;have htest:(!seen.isEmpty && !(Kv kv vv m bs).isEmpty && (Kv kv vv m bs).all (λx=>decide (x.born≥clk)))=false:=
  next_test_false seen (Kv kv vv m bs) clk clk (λx hx=>by
   rw[Kv,List.toList_toArray,bD] at hx;obtain⟨p,hp,rfl⟩:=hx;exact hborn0 p hp) (bU _)
 have hleft:(Kv kv vv m bs).filter (λe=>!seen.contains e.born)=(((m.zip bs).filter λp=>!seen.contains p.2).map λp=>(⟨kv p.1.1,vv p.1.2,p.2⟩:MapEntry)).toArray:=by
  rw[Kv];simp only[List.filter_toArray,List.filter_map];rfl
 generalize hl:(m.zip bs).filter (λp=>!seen.contains p.2)=l at hleft;have hborn:∀p∈l,p.2<clk:=λp hp=>by
  rw[←hl] at hp;exact hborn0 p (List.mem_filter.1 hp).1
 have e1:((l.map λp=>(⟨kv p.1.1,vv p.1.2,p.2⟩:MapEntry)).toArray).filter (λx=>decide (x.born<clk))=(l.map λp=>(⟨kv p.1.1,vv p.1.2,p.2⟩:MapEntry)).toArray:=by
  apply Array.filter_eq_self.2;intro x hx;obtain⟨p,hp,rfl⟩:=bD.1 (Array.mem_toList_iff.2 hx);simpa using hborn p hp
 have e2:((l.map λp=>(⟨kv p.1.1,vv p.1.2,p.2⟩:MapEntry)).toArray).filter (λx=>decide (x.born≥clk))= #[]:=by
  rw[Array.filter_eq_empty_iff];intro x hx;obtain⟨p,hp,rfl⟩:=bD.1 (Array.mem_toList_iff.2 hx);have:=hborn p hp;simp;omega
 cases l with
 |nil=>
  have hrun:(Instr.next (.pointer (some ⟨b,0,none⟩)) false ty).run P w= .ok (.tuple #[.bool false]) w:=by
   simp only[Instr.next,getObj,Sem.run_bind,Sem.run,hit,hb,Result.andThen,htest,aO,aR,hleft,e1,e2];simp[choose,Sem.run,Question.forced]
  refine QK (v:=.tuple #[.bool false]) (w':=w) (by simp only[execOp,hx,Sem.run_bind,hrun];rfl) ?_;exact k0 (by unfold PB;rw[hl];rfl) _ (S.put (by simpa using hd))
 |cons q0 qs=>
  have hch:∃(j:Nat) (w1:World),j<(q0::qs).length/\w1.heap=w.heap/\Keep [] w w1/\(choose (Question.mapNext (q0::qs).length)).run P w= .ok j w1:=by
   by_cases hf:(q0::qs).length<=1
   ·exact⟨0,w,by simp,rfl,Keep.refl _ _,by simp only[choose,Sem.run,Question.forced,aK,hf,aS]⟩
   ·exact⟨_,w.drew,Nat.mod_lt _ (show 0<(q0::qs).length by simp),rfl,⟨rfl,rfl,rfl,bU _,λ_ _ _=>rfl⟩,by
     simp only[choose,Sem.run,Question.forced,aK,hf,aR,Question.cut];rfl⟩
  obtain⟨j,w1,hj,hh,hk1,hrun⟩:=hch;have hq:(q0::qs)[j]? =some (q0::qs)[j]:=List.getElem?_eq_getElem hj;generalize (q0::qs)[j]=q at hq;have hqm:q∈(m.zip bs).filter (λp=>!seen.contains p.2):=by rw[hl];exact List.mem_of_getElem? hq
  obtain⟨hq1,hq2⟩:=List.mem_filter.1 hqm;obtain⟨e,i0⟩:=q;have hEj:((q0::qs).map λp=>(⟨kv p.1.1,vv p.1.2,p.2⟩:MapEntry)).toArray[j]? =some ⟨kv e.1,vv e.2,i0⟩:=by rw[List.getElem?_toArray,List.getElem?_map,hq];rfl
  have hEs:((q0::qs).map λp=>(⟨kv p.1.1,vv p.1.2,p.2⟩:MapEntry)).toArray.size=(q0::qs).length:=by simp
  have hne:(((q0::qs).map λp=>(⟨kv p.1.1,vv p.1.2,p.2⟩:MapEntry)).toArray).isEmpty=false:=by simp
  generalize ((q0::qs).map λp=>(⟨kv p.1.1,vv p.1.2,p.2⟩:MapEntry)).toArray=E at hleft e1 e2 hEj hEs hne;have hset:(setObj b (.mapIter (some bm) clk (seen.push i0) clk)).run P w1= .ok () {w1 with heap:=w1.heap.setIfInBounds b (.mapIter (some bm) clk (seen.push i0) clk)}:=by
   simp[setObj,Sem.run,hh,hit]
  have hlt:b<w1.heap.size:=by rw[hh];exact heap_lt hit
  have hrun2:(Instr.next (.pointer (some ⟨b,0,none⟩)) false ty).run P w= .ok (.tuple #[.bool true,kv e.1,vv e.2]) {w1 with heap:=w1.heap.setIfInBounds b (.mapIter (some bm) clk (seen.push i0) clk)}:=by
   simp only[Instr.next,getObj,Sem.run_bind,Sem.run,hit,hb,Result.andThen,htest,aO,aR,hleft,e1,e2];simp only[hne,aO,aR,Array.append_empty,Array.empty_append,Array.size_map,hEs,hrun,Array.getElem?_map,hEj,Option.map_some,Sem.run_bind,hset,Result.andThen];rfl
  have hkeep:Keep [b] w {w1 with heap:=w1.heap.setIfInBounds b (.mapIter (some bm) clk (seen.push i0) clk)}:=
   ⟨hk1.os,hk1.tape,hk1.output,by simpa using hk1.size,λz hz hne=>by
    simp only[bA] at hne;rw[←hk1.block z hz aB];exact Array.getElem?_setIfInBounds_ne (λe=>hne e.symm)⟩
  refine QK (v:=.tuple #[.bool true,kv e.1,vv e.2]) (w':={w1 with heap:=w1.heap.setIfInBounds b (.mapIter (some bm) clk (seen.push i0) clk)}) (by simp only[execOp,hx,Sem.run_bind,hrun2];rfl) ?_;refine k1 e (seen.push i0) _ _ (Akr hB hq1 (by simpa using hq2)) ⟨i0,by simp,hq1⟩ hkeep ((S.change (e':=.iter b bm clk (seen.push i0) clk) hi hkeep (by simp[LEnt.fp]) ?_ (λc hc=>.inl hc)).put (by simpa using hd));show _=_;simp[hlt]
omit [DecidableEq κ] in
theorem Apt{x:Operand}{b bm clk:Nat}{m:List (κ×ν)}{bs:List Nat}{seen:Array Nat}{e:κ×ν}(hit:w.heap[b]? =some (.mapIter (some bm) clk seen clk))(hb:w.heap[bm]? =some (.map (Kv kv vv m bs) clk))(hB:Xq m.length bs clk)(hl:∃j,seen.back? =some j/\(e,j)∈m.zip bs)(hx:a.eval x= .pointer (some ⟨b,0,none⟩)):
 Rn P a w (.entry x) ty (.tuple #[kv e.1,vv e.2]):=by
 obtain⟨j,h1,h2⟩:=hl;intro d p e' g;have hf:(Kv kv vv m bs).find? (λz=>z.born==j)=some ⟨kv e.1,vv e.2,j⟩:=by
  rw[←Array.find?_toList,Kv,List.toList_toArray];have hn:(((m.zip bs).map λp=>(⟨kv p.1.1,vv p.1.2,p.2⟩:MapEntry)).map (·.born)).Nodup:=by
   rw[List.map_map];have:((λz:MapEntry=>z.born) ∘ λp:(κ×ν)×Nat=>(⟨kv p.1.1,vv p.1.2,p.2⟩:MapEntry))=λp=>p.2:=rfl;rw[this];exact ZS hB
  exact find_born ⟨kv e.1,vv e.2,j⟩ _ hn (by
   rw[bD];exact⟨(e,j),h2,rfl⟩)
 simp[execOp,hx,Instr.entry,getObj,Sem.run,hit,hb,h1,hf,Result.andThen]
theorem l_insert{T kt el:TypeId}{x y u:Operand}{i b:Nat}{m:List (κ×ν)}{key:κ}{val:ν}(S:Sx w0 X φ L K n a w)(hi:L[i]? =some (.map b (Ht kv vv m) m.length))(hT:P.underlying T=some (.map kt el))(hk:UR P kt kv)
 (hx:a.eval x= .map (some b)) (hy:a.eval y=kv key) (hu:a.eval u=vv val)
 (k:∀w',Keep [b] w w'->Sx w0 X φ (L.set i (.map b (Ht kv vv (Iv m key val)) (Iv m key val).length)) K n a w'->wpList P ops Q rest a w'):
 wpList P ops Q ({dst:=none,op:=.insert T x y u,type:=ty,pos,after,guard:=none}::rest) a w:=by
 have hb:=S.map_at hi;have hlt:b<w.heap.size:=heap_lt hb;have hrun:(Instr.mapUpdate T (.map (some b)) (kv key) (vv val)).run P w= .ok () {w with heap:=w.heap.setIfInBounds b (.map (Ht kv vv (Iv m key val)) (Iv m key val).length)}:=by
  have hf:=hk.find vv key m w;have hfin:∀o,(setObj b o).run P w= .ok () {w with heap:=w.heap.setIfInBounds b o}:=λo=>ES o hb
  cases hm:Oo m key 0 with
  |none=>
   rw[hm] at hf;have e1:Ht kv vv (Iv m key val)=(Ht kv vv m).push ⟨kv key,vv val,m.length⟩:=by
    unfold Ht;rw[JM hm,WN];simp
   have e2:(Iv m key val).length=m.length+1:=by rw[JM hm];simp
   rw[e1,e2];simp[Instr.mapUpdate,Sem.run_bind,run_underlying hT,Pc hb,hk.chk,Ht,hf,hfin]
  |some p=>
   obtain⟨i,u'⟩:=p;rw[hm] at hf;obtain⟨_,h2⟩:=SB (kv:=kv) (vv:=vv) (v:=val) hm;obtain⟨e,he,hke⟩:=WO (kv:=kv) (vv:=vv) hm;rw[Nat.sub_zero] at h2 he;have e1:Ht kv vv (Iv m key val)=(Ht kv vv m).modify i λe=>{e with key:=kv key,val:=vv val}:=by
    unfold Ht;rw[h2];simp
   have e2:(Iv m key val).length=m.length:=by
    have:=congrArg List.length h2;simpa[SA] using this
   rw[e1,e2];have hkey:(((Ht kv vv m)[i]?).map (·.key)).getD (kv key)=kv key:=by simp[Ht,he,hke]
   simp[Instr.mapUpdate,Sem.run_bind,run_underlying hT,Pc hb,hk.chk,Ht,hf,Instr.keyThatStays,hk.same,hfin,he,hke]
 refine Aby (w':={w with heap:=w.heap.setIfInBounds b (.map (Ht kv vv (Iv m key val)) (Iv m key val).length)}) (by simp[execOp,hx,hy,hu,hrun]) ?_;have hkeep:Keep [b] w {w with heap:=w.heap.setIfInBounds b (.map (Ht kv vv (Iv m key val)) (Iv m key val).length)}:=
  ⟨rfl,rfl,rfl,by simp,λq hq hne=>by simp only[bA] at hne;exact Array.getElem?_setIfInBounds_ne (λe=>hne e.symm)⟩
 refine k _ hkeep (S.change hi hkeep (by simp[LEnt.fp]) ?_ (λc hc=>.inl hc));show _=_;simp[hlt]
end
end Go.Proofs.YthlielagemkjcaaGreatDoor
