/- Tables of the library,and strings.Builder. No statement here. -/
import Derived.Test.YthlielagemkjcaaGreatDoorArena
import Derived.Lib.LaidTab
import Derived.Laws.BytesArg
import Derived.Shelf.Strings.BuilderF
import Derived.Shelf.Strings.BuilderK
import Derived.Shelf.Strings.BuilderX
import Derived.Sort.Grow
import Derived.Shelf.Strconv.Itoa3
import Derived.Shelf.Strconv.Atoi
import Derived.Shelf.Strings.Cut
import Derived.Shelf.Strings.Split
import Derived.Shelf.Strings.OnBuilder
import Derived.Shelf.Small.Wraps
import Derived.Shelf.Strings.Prefix
import Derived.Lib.SplitLaws
import Derived.Shelf.Strings.Repeat
import Derived.Shelf.Strings.Search3
import Derived.Lib.SmallJoins
namespace Go.Proofs.YthlielagemkjcaaGreatDoor
open Go Go.Shelf
def DJ(φ:View)(g:Nat)(cs:List Value):Prop:=∃T fr,φ g=some (.cells cs.toArray T fr)
theorem DJ.mono{φ ψ:View}{g:Nat}{cs:List Value}(h:DJ φ g cs)(l:View.le φ ψ):DJ ψ g cs:=by
 obtain⟨T,fr,e⟩:=h;exact⟨T,fr,l _ _ e⟩
def CZ(φ:View)(g:Nat):Prop:=∃(m:Int) (c:Array Value) (T:TypeId) (fr:Nat×Nat),φ g=some (.cells c T fr)/\c[0]? =some (.int .i64 m)
theorem CZ.mono{φ ψ:View}{g:Nat}(h:CZ φ g)(l:View.le φ ψ):CZ ψ g:=by
 obtain⟨m,c,T,fr,e,h0⟩:=h;exact⟨m,c,T,fr,l _ _ e,h0⟩
theorem globI_of{w:World}{g:Nat}(h:∃m:Int,w.cell? ⟨g,0,none⟩=some (.int .i64 m)):CZ (view w []) g:=by
 obtain⟨m,h⟩:=h;unfold World.cell? at h;simp only at h
 cases hb:w.heap[g]? with
 |none=>rw[hb] at h;cases h
 |some o=>
  rw[hb] at h
  cases o with
  |cells c T fr=>
   simp only[Option.isSome_none,aO,aR] at h;exact⟨m,c,T,fr,by simp[view,hb],h⟩
  |_=>cases h
theorem Aht{P:Program}{w:World}{g:Nat}{nm:String}{k:IntKind}{zs:List Int}(h:Lib.TabIs P w nm k zs)(hn:P.globalNamed nm=some g):DJ (view w []) g (zs.map λz=>Value.int k z):=by
 unfold Lib.TabIs World.var? at h;rw[hn] at h;simp only[aG] at h
 cases hb:w.heap[g]? with
 |none=>rw[hb] at h;cases h
 |some o=>
  rw[hb] at h
  cases o with
  |cells c T fr=>
   simp only[Option.some.injEq] at h;exact⟨T,fr,by simp[view,hb,h]⟩
  |_=>cases h
def Mn:List Value:=Lib.pow10Tab.map λz=>Value.int .u64 z
theorem DJ.cell{w:World}{g i:Nat}{cs:List Value}{v:Value}(h:DJ (view w []) g cs)(hv:cs[i]? =some v):w.cell? ⟨g,i,none⟩=some v:=by
 obtain⟨T,fr,e⟩:=h;have e':w.heap[g]? =some (.cells cs.toArray T fr):=by simpa[view] using e
 simp[World.cell?,e',hv]
theorem DJ.tab{P:Program}{w:World}{g:Nat}{nm:String}{k:IntKind}{zs:List Int}(h:DJ (view w []) g (zs.map λz=>Value.int k z))(hn:P.globalNamed nm=some g):Lib.TabIs P w nm k zs:=by
 obtain⟨T,fr,e⟩:=h;have e':w.heap[g]? =some (.cells (zs.map λz=>Value.int k z).toArray T fr):=by simpa[view] using e
 simp[Lib.TabIs,World.var?,hn,e']
theorem Ahu{P:Program}{w:World}{f:FuncId}{args:Array Value}{v:Value}(h:Calls P f args w λe w'=>e= .returned v/\∃k os,w'=Go.Sort.grow (w.drewN k) os):Calls P f args w (Ret w [] λ_ v' _=>v'=v):=
 h.mono λ_ w' ⟨he,k,os,hw⟩=>⟨v,he,by subst hw;exact⟨rfl,rfl,rfl,by simp[Go.Sort.grow,World.drewN],λb hb _=>Go.Sort.heap_grow_old _ _ hb⟩,rfl⟩
theorem Ahv{P:Program}{w:World}{f:FuncId}{args:Array Value}{v:Value}(h:Calls P f args w λe w'=>e= .returned v/\∃n,w'=w.drewN n):Calls P f args w (Ret w [] λ_ v' _=>v'=v):=
 h.mono λ_ w' ⟨he,n,hw⟩=>⟨v,he,by subst hw;exact⟨rfl,rfl,rfl,bU _,λ_ _ _=>rfl⟩,rfl⟩
theorem Afn{P:Program}{w:World}{f:FuncId}{args:Array Value}{v:Value}{e:TypeId}(h:Calls P f args w λx w'=>x= .returned v/\∃t,w'=Lib.bytesWorld w e t):Calls P f args w (Ret w [] λ_ v' _=>v'=v):=
 OK (h.mono λ_ w' ⟨he,t,hw⟩=>⟨he,by rw[hw];exact Go.Joins.below_bytesWorld _ w e t (bU _)⟩)
theorem CZ.cell{w:World}{g:Nat}(h:CZ (view w []) g):∃m:Int,w.cell? ⟨g,0,none⟩=some (.int .i64 m):=by
 obtain⟨m,c,T,fr,e,h0⟩:=h;have e':w.heap[g]? =some (.cells c T fr):=by simpa[view] using e
 exact⟨m,by simp[World.cell?,e',h0]⟩
theorem cut_ret{P:Program}{ρ:Ren}(L:Lays.n145 P ρ)(s sep:ByteArray)(w:World)(hm:CZ (view w []) (ρ.g 1))(hs:s.size<4294967281):
 Calls P (ρ.f 145) #[.string s,.string sep] w (Ret w [] λ_ v _=>v= .tuple #[.string ⟨(Lib.cut s.data.toList sep.data.toList).1.toArray⟩,.string ⟨(Lib.cut s.data.toList sep.data.toList).2.1.toArray⟩,.bool (Lib.cut s.data.toList sep.data.toList).2.2]):=by
 obtain⟨m,hm⟩:=hm.cell;exact Ahv (Any.strings_Cut L s sep m w hs hm)
theorem Acz:∀l:List ByteArray,l.flatMap Io=l.map Value.string
 |[]=>rfl
 |_::l=>by rw[List.flatMap_cons,Acz l];rfl
theorem Aqb{P:Program}{ρ:Ren}(L:Lays.n146 P ρ)(hi9:(P.info? (ρ.t 9)).map (λi=>(i.zero,i.size,i.bytes))=some (some (.string ByteArray.empty),1,16))(s sep:ByteArray)(w:World)(hm:CZ (view w []) (ρ.g 1))(hs:s.size<4294967281)(h1:1<=sep.size):
 Calls P (ρ.f 146) #[.string s,.string sep] w (Ret w [] λφ v _=>Kr φ (ρ.t 9) 1 v (Lib.splitB sep 0 (Lib.countB s sep) s).length ((Lib.splitB sep 0 (Lib.countB s sep) s).flatMap Io)):=by
 obtain⟨m,hm⟩:=hm.cell;refine(Any.strings_Split L hi9 s sep m w hs hm h1).mono ?_;rintro e w' ⟨rfl,rfl⟩;have hl:=Lib.splitB_all sep h1 0 _ s rfl;have hc:=Lib.countB_le sep h1 _ s (bU _);refine⟨_,rfl,Rq w _,?_⟩;have hrow:Kr (newer w (w.alloc (.cells ((Lib.splitB sep 0 (Lib.countB s sep) s).map Value.string).toArray (ρ.t 9)))) (ρ.t 9) 1 (.slice (some ⟨w.heap.size,0,none⟩) (Lib.countB s sep+1) (Lib.countB s sep+1)) (Lib.countB s sep+1) ((Lib.splitB sep 0 (Lib.countB s sep) s).map Value.string):=by
  refine⟨by simp[hl],.inr ⟨w.heap.size,Lib.countB s sep+1,((Lib.splitB sep 0 (Lib.countB s sep) s).map Value.string).toArray,rfl,?_,bU _,?_,by simp[hl],?_⟩⟩
  ·unfold newer;rw[aQ (bU _)];exact heap_alloc_new w _
  ·show Lib.countB s sep+1<=9223372036854775807;omega
  ·rw[Nat.mul_one,List.take_of_length_le (by simp[hl])]
 rw[Acz,hl];exact hrow
theorem join_ret{P:Program}{ρ:Ren}(L:Lays.n156 P ρ)(X:Builder.Extra P ρ)(v:Value)(xs:List ByteArray)(sep:ByteArray)(w:World)(hx:Slc (view w []) 1 v (xs.map Io))(hN:xs.length<=140737488355328)(hlen:(Lib.join (xs.map (·.data.toList)) sep.data.toList).length<=140737488355328):
 Calls P (ρ.f 156) #[v,.string sep] w (Ret w [] λ_ u _=>u= .string ⟨(Lib.join (xs.map (·.data.toList)) sep.data.toList).toArray⟩):=by
 obtain⟨ao,cap,rfl,h2,h3,h4,h5⟩:=hx;rw[aV] at*
 cases xs with
 |nil=>exact HF (Any.strings_Join_none L X ao cap sep w)
 |cons x xs=>
  cases ao with
  |none=>
   have:=h4 rfl;simp at h2;omega
  |some ad=>
   obtain⟨h6,h7⟩:=h5 ad rfl;obtain⟨bk,o,sp⟩:=ad;simp only at h6;subst h6;have hcell:∀(j:Nat) y,(x::xs)[j]? =some y->w.cell? ⟨bk,o+j,none⟩=some (.string y)/\bk<w.heap.size:=λj y hj=>by
    obtain⟨_,c,T,fr,e1,e2⟩:=h7 j (Io y) (by rw[List.getElem?_map,hj];rfl);have e3:w.heap[bk]? =some (.cells c T fr):=by simpa[view] using e1
    have e4:=e2 0 (.string y) rfl;rw[Nat.mul_one,Nat.add_zero] at e4;exact⟨by simp[World.cell?,e3,e4],heap_lt e3⟩
   exact OK (Any.strings_Join L X bk o cap (x::xs) sep w (λj y hj=>(hcell j y hj).1) (hcell 0 x rfl).2 hN h2 hlen)
section
variable {P:Program}{a:Act}{w:World}{ty:TypeId}
theorem Ada{t:TypeId}{ms:Array (String×TypeId)}(ht:P.underlying t=some (.interface ms))(w:World):(Op.equal t .nilIface .nilIface).run P w= .ok true w:=by
 unfold Op.equal;rw[show Op.maxDepth=9999+1 from rfl,Op.equalIn];simp only[Sem.run_bind,run_underlying ht,Result.andThen_ok];rfl
theorem Ahw{t u:TypeId}{x:Operand}{ms:Array (String×TypeId)}(ht:P.underlying t=some (.interface ms))(hx:a.eval x= .nilIface):Rn P a w (.binOp .eql t x (.const .nilIface) u) ty (.bool true):=by
 intro d p e g;have hy:a.eval (.const .nilIface)= .nilIface:=rfl;simp[execOp,hx,hy,binOp,eqGuard,Ada ht]
theorem Ahx{t u:TypeId}{x:Operand}{ms:Array (String×TypeId)}(ht:P.underlying t=some (.interface ms))(hx:a.eval x= .nilIface):Rn P a w (.binOp .neq t x (.const .nilIface) u) ty (.bool false):=by
 intro d p e g;have hy:a.eval (.const .nilIface)= .nilIface:=rfl;simp[execOp,hx,hy,binOp,eqGuard,Ada ht]
end
def QW(b:Nat)(d:Bool):Value:=.pointer (if d then some ⟨b,0,none⟩ else none)
def SX(T:TypeId):LEnt->Bool
 | .blk _ _ T'=>!Nat.beq T' T
 | .own _ T' ..=>!Nat.beq T' T
 | .ownF .. | .obj ..=>false
 |_=>true
theorem VG(s t:ByteArray):Lib.strCells (s++t)=Lib.strCells s++Lib.strCells t:=by
 simp[Lib.strCells,ByteArray.data_append]
theorem Adb{T:TypeId}{e:LEnt}{w:World}{b:Nat}(h:e.holds w)(hn:SX T e=true)(hb:e.fp=some b):∃o,w.heap[b]? =some o/\∀c fz,o≠.cells c T fz:=by
 cases e with
 |blk b' c T'=>
  cases hb
  refine⟨_,h,λc' fz e=>?_⟩
  cases e
  simp[SX] at hn
 |map b' es clk=>cases hb;exact⟨_,h,λc' fz e=>by cases e⟩
 |iter b' m s e l=>cases hb;exact⟨_,h,λc' fz e=>by cases e⟩
 |obj b' o=>simp[SX] at hn
 |own v T' kk n cs=>
  have h':w.ownsRow 0 T' kk v n cs:=h;rcases h'.2 with ⟨rfl,_⟩|⟨g,cap,cur,rfl,_,hg,_⟩
  ·cases hb
  ·cases hb
   refine⟨_,hg,λc' fz e=>?_⟩
   cases e
   simp[SX] at hn
 |ownF v T' n cs=>simp[SX] at hn
theorem Alg{T:TypeId}{e:LEnt}{w w':World}{b:Nat}(h:e.holds w)(hn:SX T e=true)(hb:∀c,e.fp=some c->c≠b)(ho:Lib.OthersKept T (some b) w w'):e.holds w':=by
 have key:∀c,e.fp=some c->w'.heap[c]? =w.heap[c]?:=λc hc=>by
  obtain⟨o,h1,h2⟩:=Adb h hn hc;rw[h1];exact ho c o h1 (λe=>hb c hc (bH e)) h2
 cases e with
 |blk b' c T'=>show w'.heap[b']? =_;rw[key b' rfl];exact h
 |map b' es clk=>show w'.heap[b']? =_;rw[key b' rfl];exact h
 |iter b' m s e l=>show w'.heap[b']? =_;rw[key b' rfl];exact h
 |obj b' o=>simp[SX] at hn
 |own v T' kk n cs=>
  have h':w.ownsRow 0 T' kk v n cs:=h;refine⟨h'.1,?_⟩;rcases h'.2 with hn|⟨g,cap,cur,rfl,hb,hg,rest⟩
  ·exact .inl hn
  ·exact .inr ⟨g,cap,cur,rfl,hb,by rw[key g rfl];exact hg,rest⟩
 |ownF v T' n cs=>simp[SX] at hn
section
variable {P:Program}{ρ:Ren}{ops:Array Oper}{Q:Exit->Act->World->Prop}{rest:List Oper}
variable {w0:World}{L Lr:List LEnt}{K:List (Nat×Value)}{n:Nat}{a:Act}{w:World}
variable {d:Nat}{ty:TypeId}{pos:String}{after:Array Edge}
theorem Sx.bld{X:List Nat}{φ:View}{b T e:Nat}{dd:Bool}{v:Value}{x:ByteArray}(S:Sx w0 X φ (.blk b [QW b dd,v] T:: .ownF v e x.size (Lib.strCells x)::Lr) K n a w)(hX:X=[]):Lib.IsBuilderF T e w0.heap.size b (Lib.strCells x) w:=by
 subst hX;have h0:w.heap[b]? =some (.cells [QW b dd,v].toArray T (0,0)):=S.holds _ aN;have h1:w.ownsRowF 0 e 1 v x.size (Lib.strCells x):=S.holds (.ownF v e x.size (Lib.strCells x)) (aM _ aN);have hb:w0.heap.size<=b:=by
  rcases(S.sep b (by simp[fps,LEnt.fp])).2.1 with h|h
  ·exact h
  ·cases h
 have hx:x.size=(Lib.strCells x).length:=(Lib.strCells_length x).symm;have hne:v.ownBlock≠some b:=λh=>by
  have:=S.nodup;simp[fps,LEnt.fp,h] at this
 have hrow:w.ownsRowF w0.heap.size e 1 v (Lib.strCells x).length (Lib.strCells x):=by
  rw[←hx];refine⟨h1.1,?_⟩;rcases h1.2 with h|⟨g,cap,cur,fz,rfl,_,hg,r⟩
  ·exact .inl h
  ·refine .inr ⟨g,cap,cur,fz,rfl,?_,hg,r⟩;rcases(S.sep g (by simp[fps,LEnt.fp,Value.ownBlock])).2.1 with h|h
   ·exact h
   ·cases h
 cases dd with
 |false=>exact .inl ⟨hb,v,h0,hrow,hne⟩
 |true=>exact .inr ⟨hb,v,h0,hrow,hne⟩
theorem l_bwrite{f:FuncId}{op:Op}{b:Nat}{dd:Bool}{v:Value}{x s:ByteArray}(Lw:Lays.n166 P ρ)(Xt:Builder.Extra P ρ)(is js:List Nat)(S:Sx w0 [] nov L K n a w)(hp:(is++js).isPerm (List.range L.length)=true)
 (hA:is.filterMap (L[·]?)=[.blk b [QW b dd,v] (ρ.t 72),.ownF v (ρ.t 5) x.size (Lib.strCells x)]) (hB:js.filterMap (L[·]?)=Lr) (hn:Lr.all (SX (ρ.t 5))=true) (hf:ρ.f 166=f)
 (hr:∀dst,(execOp a.eval {dst,op,type:=ty,pos,after,guard:=none}).run P w= .ok (.enter f [.pointer (some ⟨b,0,none⟩),.string s].toArray) w) (hd:Nat.blt d n=true) (hl:decide (x.size+s.size<=140737488355328)=true)
 (k:∀v' a' w',Sx w0 [] nov (.blk b [QW b true,v'] (ρ.t 72):: .ownF v' (ρ.t 5) (x++s).size (Lib.strCells (x++s))::Lr) ((d,.tuple #[.int .i64 s.size,.nilIface])::K) n a' w'->wpList P ops Q rest a' w'):
 wpList P ops Q ({dst:=some d,op,type:=ty,pos,after,guard:=none}::rest) a w:=by
 subst hf;refine wpList_plain rfl λK' hK=>?_;unfold Oper.wp;rw[hr,Oper.upon_enter];have S1:=S.pk is js hp hA hB;rw[List.cons_append,List.cons_append,aZ] at S1;have hl':(Lib.strCells x).length+s.size<=140737488355328:=by rw[Lib.strCells_length];exact of_decide_eq_true hl
 refine(Any.Builder_WriteString_k Lw Xt w0.heap.size b (Lib.strCells x) s w (S1.bld rfl) hl' S1.keep.size).mono ?_;rintro e w' ⟨rfl,⟨hb,v',h1,h2,h3⟩,hbel,hoth⟩;refine hK _ _ (k v' _ w' ?_);refine Sx.put ?_ (by simpa using hd);have hnd:=S1.nodup;have hfr:∀c,c∈fps Lr->c≠b:=λc hc e=>by
  subst e;have:c∈fps (.ownF v (ρ.t 5) x.size (Lib.strCells x)::Lr):=by rw[Vv];exact List.mem_append_right _ hc
  rw[Vv] at hnd;exact(List.nodup_append.1 hnd).2.2 c (by simp[LEnt.fp]) c this rfl
 have hkept:∀e∈Lr,e.holds w':=λe he=>Alg (S1.holds e (by simp[he])) (List.all_eq_true.1 hn e he) (λc hc=>hfr c (List.mem_filterMap.2 ⟨e,he,hc⟩)) hoth;have hgn:∀g,v'.ownBlock=some g->w0.heap.size<=g/\g∉fps Lr/\g<w'.heap.size:=λg hg=>by
  rcases h2.2 with ⟨rfl,_⟩|⟨g',cap,cur,fz,rfl,hbase,hgw,_⟩
  ·cases hg
  ·cases hg
   refine⟨hbase,λhm=>?_,heap_lt hgw⟩;obtain⟨e,he,hfe⟩:=List.mem_filterMap.1 hm;obtain⟨o,h4,h5⟩:=Adb (hkept e he) (List.all_eq_true.1 hn e he) hfe;rw[hgw] at h4
   cases h4
   exact h5 _ _ rfl
 have hndr:(fps Lr).Nodup:=by
  rw[Vv,Vv] at hnd;exact(List.nodup_append.1 (List.nodup_append.1 hnd).2.1).2.1
 refine⟨⟨hbel.os.trans S1.keep.os,hbel.tape.trans S1.keep.tape,hbel.output.trans S1.keep.output,Nat.le_trans S1.keep.size hbel.size,λq hq hx=>(hbel.block q hq).trans (S1.keep.block q hq hx)⟩,(λq o e=>by cases e),(λq o e=>by cases e),?_,?_,?_,S1.nodefer,S1.size,S1.slots⟩
 ·intro e he;rcases bB.1 he with rfl|he
  ·exact h1
  ·rcases bB.1 he with rfl|he
   ·show w'.ownsRowF 0 (ρ.t 5) 1 v' (x++s).size (Lib.strCells (x++s));have e1:(x++s).size=(Lib.strCells x++Lib.strCells s).length:=by rw[←VG,Lib.strCells_length]
    rw[VG,e1];refine⟨h2.1,?_⟩;rcases h2.2 with h|⟨g,cap,cur,fz,r1,_,r2⟩
    ·exact .inl h
    ·exact .inr ⟨g,cap,cur,fz,r1,Nat.zero_le _,r2⟩
   ·exact hkept e he
 ·rw[Vv,Vv];show (b::(v'.ownBlock.toList++fps Lr)).Nodup;refine bT.2 ⟨λhm=>?_,?_⟩
  ·rcases bC.1 hm with hm|hm
   ·exact h3 (by simpa using hm)
   ·exact hfr b hm rfl
  ·cases hg:v'.ownBlock with
   |none=>simpa using hndr
   |some g=>simpa using⟨(hgn g hg).2.1,hndr⟩
 ·intro c hc;rw[Vv,Vv] at hc;rcases bC.1 hc with hc|hc
  ·obtain rfl:c=b:=by simpa[LEnt.fp] using hc
   exact⟨rfl,.inl hb,heap_lt h1⟩
  ·rcases bC.1 hc with hc|hc
   ·have:=hgn c (by simpa[LEnt.fp] using hc);exact⟨rfl,.inl this.1,this.2.2⟩
   ·have h4:=S1.sep c (by rw[Vv,Vv];exact List.mem_append_right _ (List.mem_append_right _ hc));exact⟨rfl,h4.2.1,Nat.lt_of_lt_of_le h4.2.2 hbel.size⟩
theorem l_bstr{f:FuncId}{op:Op}{b:Nat}{dd:Bool}{v:Value}{x:ByteArray}(Lw:Lays.n169 P ρ)(Xt:Builder.Extra P ρ)(is js:List Nat)(S:Sx w0 [] nov L K n a w)(hp:(is++js).isPerm (List.range L.length)=true)
 (hA:is.filterMap (L[·]?)=[.blk b [QW b dd,v] (ρ.t 72),.ownF v (ρ.t 5) x.size (Lib.strCells x)]) (hB:js.filterMap (L[·]?)=Lr) (hf:ρ.f 169=f)
 (hr:∀dst,(execOp a.eval {dst,op,type:=ty,pos,after,guard:=none}).run P w= .ok (.enter f [.pointer (some ⟨b,0,none⟩)].toArray) w) (hd:Nat.blt d n=true)
 (k:∀a' w',Sx w0 [] nov [] ((d,.string x)::K) n a' w'->wpList P ops Q rest a' w'):
 wpList P ops Q ({dst:=some d,op,type:=ty,pos,after,guard:=none}::rest) a w:=by
 subst hf;refine wpList_plain rfl λK' hK=>?_;unfold Oper.wp;rw[hr,Oper.upon_enter];have S1:=S.pk is js hp hA hB;rw[List.cons_append,List.cons_append,aZ] at S1;refine(Any.Builder_String_any_k Lw Xt w0.heap.size b x.data.toList w (S1.bld rfl) S1.keep.size).mono ?_;rintro e w' ⟨rfl,_,hbel,_⟩;refine hK _ _ (k _ w' ?_);have hx:(⟨x.data.toList.toArray⟩:ByteArray)=x:=by cases x;rfl
 rw[hx];refine Sx.put ?_ (by simpa using hd);exact⟨⟨hbel.os.trans S1.keep.os,hbel.tape.trans S1.keep.tape,hbel.output.trans S1.keep.output,Nat.le_trans S1.keep.size hbel.size,λq hq hx=>(hbel.block q hq).trans (S1.keep.block q hq hx)⟩,(λq o e=>by cases e),(λq o e=>by cases e),(λe he=>by cases he),List.nodup_nil,(λc hc=>by cases hc),S1.nodefer,S1.size,S1.slots⟩
theorem Sx.newB{X:List Nat}{φ:View}(T:Nat)(S:Sx w0 X φ L K n a w):Sx w0 X φ (.ownF (.slice none 0 0) T ByteArray.empty.size (Lib.strCells ByteArray.empty)::L) K n a w:=by
 refine {S with holds:=?_,nodup:=S.nodup,sep:=S.sep};intro x hx;rcases bB.1 hx with rfl|h
 ·exact⟨rfl,.inl ⟨rfl,rfl⟩⟩
 ·exact S.holds x h
end
section
variable {P:Program}{w0:World}{X:List Nat}{φ:View}{L:List LEnt}{K:List (Nat×Value)}{n:Nat}{a:Act}{w:World}
theorem Alh{t e dd ty:TypeId}{b i T q:Nat}{x:Operand}{cs:List Value}(xs:List Int)(hs:P.underlying t=some (.slice e))(he:P.underlying e=some (.int .u8))(hd:P.underlying dd=some .string)(S:Sx w0 X φ L K n a w)(hi:L[i]? =some (.blk b cs T))(hc:xs.map (Value.int .u8)=cs)(hq:xs.length=q)(hx:a.eval x= .slice (some ⟨b,0,none⟩) q q):
 Rn P a w (.convert t dd x) ty (.string (strOfNums xs)):=by
 intro d p e' g;subst hc;have h:=run_convert_bytes_arg (P:=P) w t e hs he b 0 q q xs hq (λj hj=>by
  rw[Nat.zero_add];refine S.cell hi ?_;rw[List.getElem?_map,List.getElem?_eq_getElem aA];simp[List.getD,List.getElem?_eq_getElem (show j<xs.length by omega)]) dd hd
 simp only[execOp,hx,Sem.run_bind,h];rfl
end
end Go.Proofs.YthlielagemkjcaaGreatDoor
