/- The rules at the level of a statement's operations: each says what is known behind one operation. No statement here. -/
import Derived.Test.YthlielagemkjcaaGreatDoorMem
namespace Go.Proofs.YthlielagemkjcaaGreatDoor
open Go
def EvL(a:Act):List Operand->List Value->Prop
 |[],[]=>True
 |x::r,v::s=>a.eval x=v/\EvL a r s
 |_,_=>False
def EvP(a:Act):List (Nat×Operand)->List (Nat×Value)->Prop
 |[],[]=>True
 |(i,x)::r,(j,v)::s=>i=j/\a.eval x=v/\EvP a r s
 |_,_=>False
theorem EvL.map{a:Act}:∀{l:List Operand} {vs:List Value},EvL a l vs->l.map a.eval=vs
 |[],[],_=>rfl
 |_::_,_::_,h=>by rw[aY,h.1,EvL.map h.2]
theorem EvP.map{a:Act}:∀{l:List (Nat×Operand)} {vs:List (Nat×Value)},EvP a l vs->l.map (λp=>(p.1,a.eval p.2))=vs
 |[],[],_=>rfl
 |(i,x)::_,(j,v)::_,h=>by
  obtain⟨rfl,h1,h2⟩:=h
  rw[aY,h1,EvP.map h2]
def Ret(w:World)(X:List Nat)(Φ:View->Value->World->Prop):Ending->World->Prop:=λe w'=>
 ∃v,e= .returned v/\Keep X w w'/\Φ (newer w w') v w'
section
variable {P:Program}{ops:Array Oper}{Q:Exit->Act->World->Prop}{rest:List Oper}
variable {w0:World}{X:List Nat}{φ:View}{L:List LEnt}{K:List (Nat×Value)}{n:Nat}{a:Act}{w:World}
variable {d:Nat}{ty:TypeId}{pos:String}{after:Array Edge}
theorem Sx.emb0(S:Sx w0 X φ L K n a w):Emb (view w0 X) w:=by
 intro b o h;unfold view at h
 split at h
 ·cases h
 ·rename_i hx;rw[S.keep.block b (heap_lt h) hx];exact h
theorem Sx.le_newer(S:Sx w0 X φ L K n a w):View.le φ (newer w0 w):=by
 intro b o h;unfold newer;rw[aQ (S.fresh b o h)];exact S.emb b o h
theorem Sx.le_arg{Y:List Nat}(S:Sx w0 X φ L K n a w)(hY:∀y∈Y,y∈fps L):View.le (view w0 X) (view w Y):=by
 intro b o h;have h1:=S.emb0 b o h;unfold view at h ⊢
 split at h
 ·cases h
 ·rename_i hx;rw[aP]
  ·exact h1
  ·intro hy;have h2:=(S.sep b (hY b hy)).2.1;have h3:=heap_lt h;rcases h2 with h2|h2
   ·omega
   ·exact hx h2
theorem Sx.le_new{Y:List Nat}(S:Sx w0 X φ L K n a w)(hY:∀y∈Y,y∈fps L):View.le φ (view w Y):=
 view_le_of S.emb λy hy=>(S.sep y (hY y hy)).1
theorem IW{i:Nat}{e:LEnt}{b:Nat}(S:Sx w0 X φ L K n a w)(hi:L[i]? =some e)(hb:e.fp=some b){j:Nat}{e':LEnt}(hj:L[j]? =some e')(hij:(i==j)=false):
 e'.fp≠some b:=by
 intro hc;have hij':i≠j:=by simpa using hij
 obtain⟨l1,l2,rfl,hl⟩:=QJ hi;have hnd:=S.nodup;have hfe:fps (l1++e::l2)=fps l1++(b::fps l2):=by
  simp[fps,List.filterMap_append,hb]
 rw[hfe] at hnd;simp only[List.nodup_append,bT] at hnd;have hmem:e'∈l1\/e'∈l2:=by
  rcases Nat.lt_or_ge j l1.length with h|h
  ·rw[List.getElem?_append_left h] at hj;exact .inl (List.mem_of_getElem? hj)
  ·rw[List.getElem?_append_right h] at hj;have:j-l1.length=(j-l1.length-1)+1:=by omega
   rw[this,List.getElem?_cons_succ] at hj;exact .inr (List.mem_of_getElem? hj)
 rcases hmem with h|h
 ·exact hnd.2.2 b (List.mem_filterMap.2 ⟨e',h,hc⟩) b aN rfl
 ·exact hnd.2.1.1 (List.mem_filterMap.2 ⟨e',h,hc⟩)
theorem lv{op:Op}{v:Value}(S:Sx w0 X φ L K n a w)(h:Rn P a w op ty v)(hd:Nat.blt d n=true)
 (k:∀a',Sx w0 X φ L ((d,v)::K) n a' w->wpList P ops Q rest a' w):
 wpList P ops Q ({dst:=some d,op,type:=ty,pos,after,guard:=none}::rest) a w:=by
 refine wpList_plain rfl λK' hK=>?_;unfold Oper.wp;rw[h (some d) pos after none];exact hK _ _ (k _ (S.put (by simpa using hd)))
theorem Ld(k:Q .normal a w):wpList P ops Q [] a w:=k
theorem JP{op:Op}{v:Value}{j:Nat}{b want:Bool}{oj:Oper}{tj:Nat}(S:Sx w0 X φ L K n a w)(hj:ops[j]? =some oj)(ht:oj.dst=some tj)(hv:look K tj=some (.bool b))(hb:(b==want)=false)(hd:Nat.blt d n=true)
 (k:∀a',Sx w0 X φ L ((d,v)::K) n a' w->wpList P ops Q rest a' w) (hundef:v=undef):
 wpList P ops Q ({dst:=some d,op,type:=ty,pos,after,guard:=some (j,want)}::rest) a w:=by
 have hs:=S.slots tj _ hv;refine wpList_skip ?_ (by rw[←hundef];exact k _ (S.put (by simpa using hd)));have hne:¬b=want:=by simpa using hb
 simp[Region.wanted,yielded,hj,ht,hs,hne]
theorem TM{op:Op}{j:Nat}{b want:Bool}{oj:Oper}{tj:Nat}{dst:Option Nat}(S:Sx w0 X φ L K n a w)(hj:ops[j]? =some oj)(ht:oj.dst=some tj)(hv:look K tj=some (.bool b))(hb:b=want)
 (k:wpList P ops Q ({dst,op,type:=ty,pos,after,guard:=none}::rest) a w):
 wpList P ops Q ({dst,op,type:=ty,pos,after,guard:=some (j,want)}::rest) a w:=by
 have hs:=S.slots tj _ hv;have h1:Region.wanted {dst,op,type:=ty,pos,after,guard:=some (j,want)} (yielded ops a.tmps)=true:=by
  simp[Region.wanted,yielded,hj,ht,hs,hb]
 have h2:Region.wanted {dst,op,type:=ty,pos,after,guard:=none} (yielded ops a.tmps)=true:=rfl;unfold wpList at k ⊢;rw[aQ h1];rw[aQ h2] at k;exact k
theorem QK{op:Op}{v:Value}{dst:Option Nat}{w':World}(h:(execOp a.eval {dst,op,type:=ty,pos,after,guard:=none}).run P w= .ok (.value v) w')
 (k:wpList P ops Q rest (a.put dst v) w'):wpList P ops Q ({dst,op,type:=ty,pos,after,guard:=none}::rest) a w:=by
 refine wpList_plain rfl λK' hK=>?_;unfold Oper.wp;rw[h];exact hK _ _ k
theorem Aby{op:Op}{dst:Option Nat}{w':World}(h:(execOp a.eval {dst,op,type:=ty,pos,after,guard:=none}).run P w= .ok .skip w')
 (k:wpList P ops Q rest (a.put dst undef) w'):wpList P ops Q ({dst,op,type:=ty,pos,after,guard:=none}::rest) a w:=by
 refine wpList_plain rfl λK' hK=>?_;unfold Oper.wp;rw[h];exact hK _ _ k
theorem OI{T:TypeId}{x:Operand}{b off:Nat}{v:Value}(hT:∀w,(isAgg T).run P w= .ok false w)(hx:a.eval x= .pointer (some ⟨b,off,none⟩))(hc:w.cell? ⟨b,off,none⟩=some v):
 Rn P a w (.load T x) ty v:=by
 intro d p e g;simp[execOp,hx,Instr.loadAt,Instr.sureAddr,loadVar,hT,run_load,hc]
theorem rn_loadA{T:TypeId}{x:Operand}{b off kk:Nat}{cs:List Value}(hT:∀w,(isAgg T).run P w= .ok true w)(hz:∀w,(sizeOf T).run P w= .ok kk w)(hl:cs.length=kk)
 (hx:a.eval x= .pointer (some ⟨b,off,none⟩)) (hc:∀j v,cs[j]? =some v->w.cell? ⟨b,off+j,none⟩=some v):
 Rn P a w (.load T x) ty (.agg cs.toArray):=by
 intro d p e g;have hload:(loadCells ⟨b,off,none⟩ kk).run P w= .ok cs.toArray w:=by
  rw[←hl];exact run_loadCells_list (P:=P) w ⟨b,off,none⟩ cs (λj v hv=>by rw[BP];exact hc j v hv)
 simp[execOp,hx,Instr.loadAt,Instr.sureAddr,loadVar,hT,hz,hload]
theorem Sx.cell{i b off:Nat}{cells:List Value}{T:TypeId}{v:Value}(S:Sx w0 X φ L K n a w)(hi:L[i]? =some (.blk b cells T))(hv:cells[off]? =some v):w.cell? ⟨b,off,none⟩=some v:=by
 rw[cell_of_row w b off cells.toArray T (0,0) (S.blk_at hi)];simpa using hv
theorem Sx.cells{i b off kk:Nat}{cells cs:List Value}{T:TypeId}(S:Sx w0 X φ L K n a w)(hi:L[i]? =some (.blk b cells T))(hcs:(cells.drop off).take kk=cs):
 ∀j v,cs[j]? =some v->w.cell? ⟨b,off+j,none⟩=some v:=by
 intro j v hv;refine S.cell hi ?_;subst hcs;rw[List.getElem?_take] at hv
 split at hv
 ·simpa using hv
 ·cases hv
def lay(cs:List Value)(off:Nat)(vs:List Value):List Value:=cs.take off++vs++cs.drop (off+vs.length)
theorem UM{T:TypeId}{b off kk:Nat}{cells vs:List Value}{TB:TypeId}{v:Value}(hz:∀w,(sizeOf T).run P w= .ok kk w)(hvs:v.cells.toList=vs)(hl:vs.length=kk)
 (hb:w.heap[b]? =some (.cells cells.toArray TB (0,0))) (hfit:off+vs.length<=cells.length) (h1:vs.all (·.oneCell')=true):
 (Instr.storeAt T (.pointer (some ⟨b,off,none⟩)) v).run P w= .ok () (w.setRow b (lay cells off vs).toArray):=by
 have hs:v.cells.size=kk:=by rw[←hl,←hvs];simp
 have hst:=run_storeCells_at P b off TB vs 0 cells.toArray w hb (by simpa using hfit) (λu hu=>List.all_eq_true.1 h1 u hu);simp only[Nat.add_zero] at hst;simp[Instr.storeAt,Instr.sureAddr,storeVar,hz,hs,hvs,hst,lay]
theorem Qq{T:TypeId}{x y:Operand}{i b off kk:Nat}{cells vs:List Value}{TB:TypeId}{v:Value}(S:Sx w0 X φ L K n a w)(hx:a.eval x= .pointer (some ⟨b,off,none⟩))(hy:a.eval y=v)
 (hi:L[i]? =some (.blk b cells TB)) (hz:∀w,(sizeOf T).run P w= .ok kk w) (hvs:v.cells.toList=vs) (hl:vs.length=kk) (hfit:Nat.ble (off+vs.length) cells.length=true) (h1:vs.all (·.oneCell')=true)
 (k:∀w',Keep [b] w w'->Sx w0 X φ (L.set i (.blk b (lay cells off vs) TB)) K n a w'->wpList P ops Q rest a w'):
 wpList P ops Q ({dst:=none,op:=.store T x y,type:=ty,pos,after,guard:=none}::rest) a w:=by
 have hb:=S.blk_at hi;have hrun:=UM (P:=P) hz hvs hl hb (by simpa using hfit) h1;refine Aby (w':=w.setRow b (lay cells off vs).toArray) (by simp[execOp,hx,hy,hrun]) ?_;refine k _ (BO w b _) (S.change hi (BO w b _) (by simp[LEnt.fp]) ?_ (λc hc=>.inl hc));exact setRow_heap w b _ _ _ _ hb
theorem AA{T:TypeId}{z:Value}{cs:List Value}(S:Sx w0 X φ L K n a w)(hz:∀w,(zeroValue T).run P w= .ok z w)(hcs:z.cells.toList=cs)(hd:Nat.blt d n=true)
 (k:∀a' w' b,b=w.heap.size->Keep [] w w'->Sx w0 X φ (.blk b cs T::L) ((d,.pointer (some ⟨b,0,none⟩))::K) n a' w'->wpList P ops Q rest a' w'):
 wpList P ops Q ({dst:=some d,op:=.alloc T,type:=ty,pos,after,guard:=none}::rest) a w:=by
 refine QK (v:=.pointer (some ⟨w.heap.size,0,none⟩)) (w':=w.alloc (.cells z.cells T)) (by simp[execOp,Instr.alloc,hz,newVar,newRow]) ?_;refine k _ _ w.heap.size rfl (Rq w _) (((S.more (e:=.blk w.heap.size cs T) (Rq w _) ?_ ?_)).put (by simpa using hd))
 ·show (w.alloc _).heap[w.heap.size]? =_;rw[heap_alloc_new,←hcs]
 ·intro b hb;cases hb;exact bU _
theorem ZM{T:TypeId}{x:Operand}{v:Value}{cs:List Value}(S:Sx w0 X φ L K n a w)(hx:a.eval x=v)(hcs:v.cells.toList=cs)(hd:Nat.blt d n=true)
 (k:∀a' w' b,b=w.heap.size->Keep [] w w'->Sx w0 X φ (.blk b cs T::L) ((d,.pointer (some ⟨b,0,none⟩))::K) n a' w'->wpList P ops Q rest a' w'):
 wpList P ops Q ({dst:=some d,op:=.box T x,type:=ty,pos,after,guard:=none}::rest) a w:=by
 refine QK (v:=.pointer (some ⟨w.heap.size,0,none⟩)) (w':=w.alloc (.cells v.cells T)) (by simp[execOp,Instr.box,hx,newVar,newRow]) ?_;refine k _ _ w.heap.size rfl (Rq w _) (((S.more (e:=.blk w.heap.size cs T) (Rq w _) ?_ ?_)).put (by simpa using hd))
 ·show (w.alloc _).heap[w.heap.size]? =_;rw[heap_alloc_new,←hcs]
 ·intro b hb;cases hb;exact bU _
theorem rn_build{T:TypeId}{z:Value}{ps:List (Nat×Operand)}{pv:List (Nat×Value)}{fs:Array Field}{places:List (Nat×Nat)}{cs:List Value}(hT:P.underlying T=some (.struct fs))(hz:∀w,(zeroValue T).run P w= .ok z w)
 (hp:∀w,(fs.mapM λf=>do pure (f.offset,←sizeOf f.type):Sem (Array (Nat×Nat))).run P w= .ok places.toArray w) (hev:EvP a ps pv) (hf:Instr.fill (places.toArray[·]?) z.cells pv=some cs.toArray):
 Rn P a w (.build T ps.toArray) ty (.agg cs.toArray):=by
 intro d p e g;have hm:=hev.map;have hb:(Instr.build T pv.toArray).run P w= .ok (.agg cs.toArray) w:=by
  unfold Instr.build;simp only[Sem.run_bind,hz,Result.andThen_ok,run_underlying hT,hp,hf,Sem.run_pure]
 have he:execOp a.eval {dst:=d,op:=.build T ps.toArray,type:=ty,pos:=p,after:=e,guard:=g}=(do pure (.value (←Instr.build T (ps.toArray.map fun(i,x)=>(i,a.eval x))))):=rfl;rw[he,List.map_toArray,show ps.map (fun(i,x)=>(i,a.eval x))=pv from hm,Sem.run_bind,hb];rfl
theorem Ni{T el:TypeId}{len sz:Nat}{z:Value}{ps:List (Nat×Operand)}{pv:List (Nat×Value)}{cs:List Value}(S:Sx w0 X φ L K n a w)(hT:P.underlying T=some (.slice el))(hs:∀w,(sizeOf el).run P w= .ok sz w)(hz:∀w,(zeroValue el).run P w= .ok z w)
 (hlim:Nat.ble (len*sz) 16777216=true) (h0:(len*sz==0)=false) (hev:EvP a ps pv)
 (hf:Instr.fill (λi=>some (i*sz,sz)) ((Array.range (len*sz)).map (z.cells[· % z.cells.size]!)) pv=some cs.toArray) (hd:Nat.blt d n=true)
 (k:∀a' w' b,b=w.heap.size->Keep [] w w'->Sx w0 X φ (.blk b cs el::L) ((d,.slice (some ⟨b,0,none⟩) len len)::K) n a' w'->wpList P ops Q rest a' w'):
 wpList P ops Q ({dst:=some d,op:=.buildSlice T len ps.toArray,type:=ty,pos,after,guard:=none}::rest) a w:=by
 have hm:=hev.map;have hlim':¬(16777216<len*sz):=by simpa using hlim
 have h0':¬len*sz=0:=by simpa using h0
 have hb:(Instr.buildSlice T len pv.toArray).run P w= .ok (.slice (some ⟨w.heap.size,0,none⟩) len len) (w.alloc (.cells cs.toArray el)):=by
  unfold Instr.buildSlice;simp only[Sem.run_bind,run_underlying hT,hs,Result.andThen_ok,gt_iff_lt,aP hlim',aP h0',hz,Sem.run_pure,hf,newRow,run_newObj];rfl
 refine QK (v:=.slice (some ⟨w.heap.size,0,none⟩) len len) (w':=w.alloc (.cells cs.toArray el)) ?_ ?_
 ·have he:execOp a.eval {dst:=some d,op:=.buildSlice T len ps.toArray,type:=ty,pos,after,guard:=none}=(do pure (.value (←Instr.buildSlice T len (ps.toArray.map fun(i,x)=>(i,a.eval x))))):=rfl;rw[he,List.map_toArray,show ps.map (fun(i,x)=>(i,a.eval x))=pv from hm,Sem.run_bind,hb];rfl
 ·refine k _ _ w.heap.size rfl (Rq w _) (((S.more (e:=.blk w.heap.size cs el) (Rq w _) ?_ ?_)).put (by simpa using hd))
  ·show (w.alloc _).heap[w.heap.size]? =_;rw[heap_alloc_new]
  ·intro b hb;cases hb;exact bU _
def New(w:World)(φ:View)(L:List LEnt):Prop:=∀b,w.heap.size<=b->φ b=none/\b∉fps L
theorem Sx.new(S:Sx w0 X φ L K n a w):New w φ L:=λb hb=>⟨by
 cases h:φ b with
 |none=>rfl
 |some o=>have:=heap_lt (S.emb b o h);omega,λhm=>by have:=(S.sep b hm).2.2;omega⟩
theorem Sx.keepNone{w':World}(S:Sx w0 X φ L K n a w)(hk:Keep [] w w'):Sx w0 X φ L K n a w':=by
 have S':Sx w0 X φ (.own (.slice none 0 0) 0 0 0 []::L) K n a w:=S.nil 0 0;have S'':=S'.change (i:=0) (e':=.own (.slice none 0 0) 0 0 0 []) rfl hk aB (World.ownsRow_nil w' 0 0 0) (λb hb=>by cases hb);exact S''.drop (.cons _ (List.Sublist.refl _))
theorem Sx.see{wo:World}(S:Sx w0 X φ L K n a w)(hn:New wo φ L)(hs:w0.heap.size<=wo.heap.size):Sx w0 X (join φ (newer wo w)) L K n a w:=by
 refine {S with emb:=?_,fresh:=?_,sep:=?_}
 ·intro b o h;unfold join at h
  cases hφ:φ b with
  |some o'=>rw[hφ] at h;cases h;exact S.emb b _ hφ
  |none=>rw[hφ] at h;exact emb_newer wo w b o (by simpa using h)
 ·intro b o h;unfold join at h
  cases hφ:φ b with
  |some o'=>exact S.fresh b _ hφ
  |none=>
   rw[hφ] at h;simp only[Option.none_or] at h;unfold newer at h
   split at h
   ·rename_i hb;exact Nat.le_trans hs hb
   ·cases h
 ·intro b hb;have h1:=S.sep b hb;refine⟨?_,h1.2⟩;unfold join;rw[h1.1];simp only[Option.none_or];unfold newer
  split
  ·rename_i h;exact absurd hb (hn b h).2
  ·rfl
theorem New.le_left{wo:World}:View.le φ (join φ (newer wo w)):=le_join_left _ _
theorem New.le_right{wo:World}(hn:New wo φ L):View.le (newer wo w) (join φ (newer wo w)):=le_join_right λb o h=>by
 unfold newer
 split
 ·rename_i hb
  rw[(hn b hb).1] at h;cases h
 ·rfl
theorem Sx.take{wo:World}{T k m:Nat}{v:Value}{cs:List Value}(S:Sx w0 X φ L K n a w)(hn:New wo φ L)(hs:w0.heap.size<=wo.heap.size)(ho:Kr (newer wo w) T k v m cs):
 Sx w0 X φ (.own v T k m cs::L) K n a w:=by
 have hrow:w.ownsRow 0 T k v m cs:=by
  refine⟨ho.1,?_⟩;rcases ho.2 with h|⟨g,cap,cur,h1,h2,h3⟩
  ·exact .inl h
  ·exact .inr ⟨g,cap,cur,h1,Nat.zero_le _,emb_newer wo w g _ h2,h3⟩
 have hblk:∀b,v.ownBlock=some b->wo.heap.size<=b:=by
  intro b hb;rcases ho.2 with ⟨rfl,_⟩|⟨g,cap,cur,rfl,h2,h3⟩
  ·cases hb
  ·cases hb
   unfold newer at h2
   split at h2
   ·rename_i h;exact h
   ·cases h2
 refine {S with holds:=?_,nodup:=?_,sep:=?_}
 ·intro x hx;rcases bB.1 hx with rfl|h
  ·exact hrow
  ·exact S.holds x h
 ·cases hb:v.ownBlock with
  |none=>simpa[fps,List.filterMap_cons,LEnt.fp,hb] using S.nodup
  |some b=>
   have h1:fps (LEnt.own v T k m cs::L)=b::fps L:=by simp[fps,LEnt.fp,hb]
   rw[h1,bT];exact⟨(hn b (hblk b hb)).2,S.nodup⟩
 ·intro b hb;obtain⟨x,hx,hc⟩:=EN hb;rcases bB.1 hx with rfl|h
  ·have h1:=hblk b hc;exact⟨(hn b h1).1,.inl (Nat.le_trans hs h1),(show w.ownsRow 0 T k v m cs from hrow).lt b hc|>.2⟩
  ·exact S.sep b (List.mem_filterMap.2 ⟨x,h,hc⟩)
theorem Oq{f:FuncId}{dst:Option Nat}{xs:List Operand}{vs:List Value}{ats:Array TypeId}(hev:EvL a xs vs)(hcf:∀args w,(callFunc f args).run P w= .ok (.enter f args) w):
 (execOp a.eval {dst,op:=.call {callee:=.value (.func f),args:=xs.toArray,argTypes:=ats},type:=ty,pos,after,guard:=none}).run P w= .ok (.enter f vs.toArray) w:=by
 have hm:=hev.map;simp[execOp,resolve,Act.eval,Deferred.ofValue,invoke,hcf];exact hm
theorem Abz{f:FuncId}{dst:Option Nat}{x:Operand}{xs:List Operand}{vs cap:List Value}{ats:Array TypeId}(hx:a.eval x= .func (.func f) #[] cap.toArray)(hev:EvL a xs vs)
 (hcf:∀args w,(callFunc f args).run P w= .ok (.enter f args) w):
 (execOp a.eval {dst,op:=.call {callee:=.value x,args:=xs.toArray,argTypes:=ats},type:=ty,pos,after,guard:=none}).run P w= .ok (.enter f (vs++cap).toArray) w:=by
 have hm:=hev.map;simp[execOp,resolve,hx,Deferred.ofValue,invoke,hcf];rw[hm]
theorem YN{op:Op}{f:FuncId}{vs:Array Value}{Φ:View->Value->World->Prop}(S:Sx w0 X φ L K n a w)
 (hr:∀dst,(execOp a.eval {dst,op,type:=ty,pos,after,guard:=none}).run P w= .ok (.enter f vs) w) (hc:Calls P f vs w (Ret w [] Φ)) (hd:Nat.blt d n=true)
 (k:∀v a' w',Φ (newer w w') v w'->Keep [] w w'->New w φ L->Sx w0 X φ L ((d,v)::K) n a' w'->wpList P ops Q rest a' w'):
 wpList P ops Q ({dst:=some d,op,type:=ty,pos,after,guard:=none}::rest) a w:=by
 refine wpList_plain rfl λK' hK=>?_;unfold Oper.wp;rw[hr,Oper.upon_enter];refine hc.mono ?_;rintro e w' ⟨v,rfl,hk,hΦ⟩;exact hK _ _ (k v _ w' hΦ hk S.new ((S.keepNone hk).put (by simpa using hd)))
theorem HD{op:Op}{f:FuncId}{vs:Array Value}{Φ:View->Value->World->Prop}(i:Nat){e:LEnt}{b:Nat}(S:Sx w0 X φ L K n a w)(hi:L[i]? =some e)(hb:e.fp=some b)(e':Value->LEnt)
 (hr:∀dst,(execOp a.eval {dst,op,type:=ty,pos,after,guard:=none}).run P w= .ok (.enter f vs) w) (hc:Calls P f vs w (Ret w [b] Φ)) (hd:Nat.blt d n=true)
 (he:∀τ v w',Φ τ v w'->(e' v).holds w'/\∀c,(e' v).fp=some c->c=b)
 (k:∀v a' w',Φ (newer w w') v w'->Keep [b] w w'->New w φ L->Sx w0 X φ (L.set i (e' v)) ((d,v)::K) n a' w'->wpList P ops Q rest a' w'):
 wpList P ops Q ({dst:=some d,op,type:=ty,pos,after,guard:=none}::rest) a w:=by
 refine wpList_plain rfl λK' hK=>?_;unfold Oper.wp;rw[hr,Oper.upon_enter];refine hc.mono ?_;rintro x w' ⟨v,rfl,hk,hΦ⟩;obtain⟨h1,h2⟩:=he _ _ _ hΦ;refine hK _ _ (k v _ w' hΦ hk S.new ((S.change hi hk (by simp[hb]) h1 (λc hc=>.inl (by rw[h2 c hc];exact hb))).put (by simpa using hd)))
end
end Go.Proofs.YthlielagemkjcaaGreatDoor
