/- More rules: regions whose order is open, appends of slices, conversions, freezing. No statement here. -/
import Derived.Test.YthlielagemkjcaaGreatDoorTy
import Derived.Test.YthlielagemkjcaaGreatDoorDraw
import Derived.Laws.OwnMore
import Derived.Laws.StructEq
import Derived.Below
namespace Go.Proofs.YthlielagemkjcaaGreatDoor
open Go
theorem Keep.sub {Y Y':List Nat} {w w':World} (h:Keep Y' w w') (hs:∀y∈Y',y∈Y):Keep Y w w':=
 (Keep.refl Y w).step h λy hy=> .inr (hs y hy)
theorem Keep.none {Y:List Nat} {w w':World} (h:Keep [] w w'):Keep Y w w':=h.sub λ_ h=>by cases h
theorem Mem.not_mem {Y:List Nat} {w:World} {b off:Nat} {cs:List Value} (h:Mem (view w Y) b off cs):b∉Y:=by
 obtain⟨_,_,_,h,_⟩:=h;intro hb;simp[view,hb] at h
theorem Mem.now {Y:List Nat} {w:World} {b off:Nat} {cs:List Value} (h:Mem (view w Y) b off cs):Un w b off cs:=h.at (emb_view w Y)
theorem Mem.kept {Y:List Nat} {w w':World} {b off:Nat} {cs:List Value} (h:Mem (view w Y) b off cs) (hk:Keep Y w w'):Un w' b off cs:=h.now.keep hk h.not_mem
section
variable {P:Program} {ops:Array Oper} {Q:Exit->Act->World->Prop} {rest:List Oper}
variable {w0:World} {X:List Nat} {φ:View} {L:List LEnt} {K:List (Nat×Value)} {n:Nat} {a:Act} {w:World}
variable {d:Nat} {ty:TypeId} {pos:String} {after:Array Edge}
theorem Aez {i:Nat} {e:LEnt} (hi:L[i]? =some e):∀y∈e.fp.toList,y∈fps L:=λy hy=>Sx.fp_mem hi (by simpa using hy)
theorem Gb {r:List Nat}:∀y∈([]:List Nat),y∈r:=λ_ h=>by cases h
theorem MP {i j:Nat} {e e':LEnt} (S:Sx w0 X φ L K n a w) (hi:L[i]? =some e) (hj:L[j]? =some e') (hij:(i==j)=false):∀c,e'.fp=some c->c∉e.fp.toList:=by
 intro c hc hm;exact IW S hi (by simpa using hm) hj hij hc
theorem IB {e':LEnt}:∀c,e'.fp=some c->c∉([]:List Nat):=λ_ _ h=>by cases h
theorem ne_app {e':LEnt} {p q:List Nat} (h:∀c,e'.fp=some c->c∉p) (k:∀c,e'.fp=some c->c∉q):∀c,e'.fp=some c->c∉p++q:=λc hc hm=>(bC.1 hm).elim (h c hc) (k c hc)
theorem Sx.blk_mem {i b T:Nat} {cells:List Value} {Y:List Nat} (S:Sx w0 X φ L K n a w) (hi:L[i]? =some (.blk b cells T)) (hY:∀c,(LEnt.blk b cells T).fp=some c->c∉Y):Mem (view w Y) b 0 cells:=
 IZ (S.blk_view hi (hY b rfl))
theorem EQ {N:Act->World->Prop} {B Y:List Nat} {fuel:Nat} {listed:Array Bool} {a':Act} {w':World} (h1:Keep Y w w') (h2:wpD P ops B Y N fuel listed a' w'):
 QN (λa' w'=>∃Y',Keep Y w w'/\(∀y∈Y',w.heap.size<=y\/y∈Y)/\wpD P ops B Y' N fuel listed a' w') .normal a' w':=⟨Y,h1,λ_ h=> .inr h,h2⟩
theorem UQ {N:Act->World->Prop} {B Y:List Nat} {fuel:Nat} {listed:Array Bool} {a':Act} {w':World} (h:wpD P ops B Y N fuel listed a' w'):QN (λa' w'=>wpD P ops B Y N fuel listed a' w') .normal a' w':=h
theorem Amu {N:Act->World->Prop} {B Y:List Nat} {fuel:Nat} {listed:Array Bool} {a':Act} {w':World} (Y':List Nat) (h1:Keep Y w w') (hY:∀y∈Y',w.heap.size<=y\/y∈Y) (h2:wpD P ops B Y' N fuel listed a' w'):
 QN (λa' w'=>∃Y',Keep Y w w'/\(∀y∈Y',w.heap.size<=y\/y∈Y)/\wpD P ops B Y' N fuel listed a' w') .normal a' w':=⟨Y',h1,hY,h2⟩
theorem new1 {Y:List Nat} {b:Nat} (h:b=w.heap.size):∀y∈[b],w.heap.size<=y\/y∈Y:=λy hy=>by
 rw[bA] at hy;subst hy;exact .inl (Nat.le_of_eq h.symm)
theorem Yy {N:Act->World->Prop} {B Y:List Nat} {fuel:Nat} {listed:Array Bool} (i:Nat) {o:Oper} (hr:Region.ready .any ops listed=[i]) (ho:ops[i]? =some o)
 (k:wpList P ops (QN λa' w'=>∃Y',Keep Y w w'/\(∀y∈Y',w.heap.size<=y\/y∈Y)/\wpD P ops B Y' N fuel (listed.setIfInBounds i true) a' w') [o] a w):wpD P ops B Y N (fuel+1) listed a w:=
 d_loud hr rfl λj hj=>by
  rw[bA] at hj
  subst hj
  exact⟨o,ho,k⟩
theorem Amv {N:Act->World->Prop} {B Y:List Nat} {fuel:Nat} {listed:Array Bool} (i i':Nat) {o o':Oper} (hr:Region.ready .any ops listed=[i,i']) (ho:ops[i]? =some o) (ho':ops[i']? =some o')
 (k:wpList P ops (QN λa' w'=>∃Y',Keep Y w w'/\(∀y∈Y',w.heap.size<=y\/y∈Y)/\wpD P ops B Y' N fuel (listed.setIfInBounds i true) a' w') [o] a w)
 (k':wpList P ops (QN λa' w'=>∃Y',Keep Y w w'/\(∀y∈Y',w.heap.size<=y\/y∈Y)/\wpD P ops B Y' N fuel (listed.setIfInBounds i' true) a' w') [o'] a w):wpD P ops B Y N (fuel+1) listed a w:=
 d_loud hr rfl λj hj=>by
  rw[bB,bA] at hj
  rcases hj with rfl|rfl
  ·exact⟨o,ho,k⟩
  ·exact⟨o',ho',k'⟩
theorem d_skipU {N:Act->World->Prop} {B Y:List Nat} {fuel:Nat} {listed:Array Bool} (i:Nat) {op:Op} {j tj:Nat} {want:Bool} {oj:Oper} (S:Sx w0 X φ L K n a w) (hs:Region.noSelect ops=true) (hi:ops[i]? =some {dst:=some d,op,type:=ty,pos,after,guard:=some (j,want)})
 (hj:ops[j]? =some oj) (ht:oj.dst=some tj) (hv:look K tj=some undef)
 (hp:B.contains i=false) (hr:(Region.ready .any ops listed).contains i=true) (hf:Region.free .any ops listed i=true) (hd:Nat.blt d n=true)
 (k:∀a',Sx w0 X φ L ((d,undef)::K) n a' w->wpD P ops B Y N fuel (listed.setIfInBounds i true) a' w):wpD P ops B Y N (fuel+1) listed a w:=by
 have hsl:=S.slots tj _ hv;refine MK (v:=undef) (D:=λ_=>True) (R:=λ_=>True) hi (Region.noSelect_spec hs) (λl w' h hb=>h (ML hp hb)) (λ_ _ _ _=>trivial) (λ_ _ _ _ _ _=>trivial) fuel listed a w (λ_=>Keep.refl Y w) trivial (Region.free_spec hi hf) (by simpa using hr) (.inr ⟨?_,rfl⟩) ?_
 ·simp[Region.wanted,yielded,hj,ht,hsl,undef]
 ·exact k _ (S.put (by simpa using hd))
theorem Ach {c x y:Operand} {b:Bool} {v:Value} (h:b=true) (hc:a.eval c= .bool b) (hx:a.eval x=v):Rn P a w (.pick c x y) ty v:=by
 subst h;exact WJ hc hx
theorem Aci {c x y:Operand} {b:Bool} {v:Value} (h:b=false) (hc:a.eval c= .bool b) (hy:a.eval y=v):Rn P a w (.pick c x y) ty v:=by
 subst h;exact WK hc hy
theorem OK {f:FuncId} {args:Array Value} {v:Value} (h:Calls P f args w λe w'=>e= .returned v/\RowKit.Below w.heap.size w w'):Calls P f args w (Ret w [] λ_ v' _=>v'=v):=
 h.mono λ_ _ ⟨he,hb⟩=>⟨v,he,⟨hb.os,hb.tape,hb.output,hb.size,λk hk _=>hb.block k hk⟩,rfl⟩
theorem HF {f:FuncId} {args:Array Value} {v:Value} (h:Calls P f args w λe w'=>e= .returned v/\w'=w):Calls P f args w (Ret w [] λ_ v' _=>v'=v):=
 h.mono λ_ w' ⟨he,hb⟩=>⟨v,he,by rw[hb];exact Keep.refl _ _,rfl⟩
theorem YO {dd:Nat} {xs ys:Array Value}:(Op.eqFields dd xs ys []).run P w= .ok true w:=by simp[Op.eqFields]
theorem Ry {dd:Nat} {xs ys:Array Value} {f:Field} {fs:List Field} {u v:Value} {r r':Bool} (hn:f.name≠ "_") (h1:(part f.type xs f.offset).run P w= .ok u w) (h2:(part f.type ys f.offset).run P w= .ok v w)
 (he:(Op.equalIn dd f.type u v).run P w= .ok r w) (hr:(Op.eqFields dd xs ys fs).run P w= .ok r' w):(Op.eqFields dd xs ys (f::fs)).run P w= .ok (r && r') w:=by
 cases r<;>simp[Op.eqFields,hn,Sem.run_bind,h1,h2,he,hr]
theorem Hm {t off:Nat} {xs:Array Value} {v:Value} (hA:∀w,(isAgg t).run P w= .ok false w) (hx:xs[off]? =some v):(part t xs off).run P w= .ok v w:=by
 simp[part,Sem.run_bind,hA,hx]
theorem Zx {dd t:Nat} {k:IntKind} {m m':Int} (h:P.underlying t=some (.int k)):(Op.equalIn (dd+1) t (.int k m) (.int k m')).run P w= .ok (decide (m=m')) w:=by
 rw[run_equalIn_int w dd t k k m m' h];congr 1
theorem Afa {dd t:Nat} {m m':Bool} (h:P.underlying t=some .bool):(Op.equalIn (dd+1) t (.bool m) (.bool m')).run P w= .ok (decide (m=m')) w:=by
 rw[run_equalIn_bool' w dd t m m' h];cases m<;>cases m'<;>rfl
theorem Uv {dd t:Nat} {m m':ByteArray} (h:P.underlying t=some .string):(Op.equalIn (dd+1) t (.string m) (.string m')).run P w= .ok (decide (m=m')) w:=by
 rw[run_equalIn_string w dd t m m' h]
 congr 1
 rw[Bool.eq_iff_iff];simp[ByteArray.toList_eq,ByteArray.ext_iff,Array.ext_iff]
theorem JA {dd t:Nat} {xs ys:Array Value} {fs:List Field} {b b':Bool} (hS:P.underlying t=some (.struct (P.fieldsOf t))) (hf:(P.fieldsOf t).toList=fs) (hp:P.stoodInHeld t=false)
 (h:(Op.eqFields dd xs ys fs).run P w= .ok b w) (hb:b=b'):(Op.equalIn (dd+1) t (.agg xs) (.agg ys)).run P w= .ok b' w:=by
 rw[run_equalIn_agg w dd t xs ys hS hp,hf,h,hb]
theorem YP {t u:TypeId} {x y:Operand} {xs ys:Array Value} {b:Bool} (D:Nat) (hg:P.eqGuardType P.depth t=false) (he:∀w,(Op.equalIn (10000-D+D) t (.agg xs) (.agg ys)).run P w= .ok b w) (hD:Nat.ble D 10000=true)
 (hx:a.eval x= .agg xs) (hy:a.eval y= .agg ys):Rn P a w (.binOp .eql t x y u) ty (.bool b):=by
 have hD':10000-D+D=10000:=Nat.sub_add_cancel (by simpa using hD);rw[hD'] at he;intro d p e g;simp only[execOp,hx,hy,Sem.run_bind,run_eqGuard_agg w .eql t x y xs ys hg,Result.andThen_ok,run_eql_struct,he];rfl
theorem YQ {t u:TypeId} {x y:Operand} {xs ys:Array Value} {b:Bool} (D:Nat) (hg:P.eqGuardType P.depth t=false) (he:∀w,(Op.equalIn (10000-D+D) t (.agg xs) (.agg ys)).run P w= .ok b w) (hD:Nat.ble D 10000=true)
 (hx:a.eval x= .agg xs) (hy:a.eval y= .agg ys):Rn P a w (.binOp .neq t x y u) ty (.bool (!b)):=by
 have hD':10000-D+D=10000:=Nat.sub_add_cancel (by simpa using hD);rw[hD'] at he;intro d p e g;simp only[execOp,hx,hy,Sem.run_bind,run_eqGuard_agg w .neq t x y xs ys hg,Result.andThen_ok,run_neq_struct,he];rfl
def ResR (P:Program) (tmps:Array Value) (w:World) (r:ResultVar) (v:Value):Prop:=
 (match r with| .tmp t=>pure (tmps.getD t undef)| .cell a t=>do loadVar t (←asAddr (tmps.getD a undef)):Sem Value).run P w= .ok v w
def YH (P:Program) (tmps:Array Value) (w:World):List ResultVar->List Value->Prop
 |[],[]=>True
 |r::rs,v::vs=>ResR P tmps w r v/\YH P tmps w rs vs
 |_,_=>False
theorem YR {t:Nat} {v:Value} (S:Sx w0 X φ L K n a w) (h:look K t=some v):ResR P a.tmps w (.tmp t) v:=by
 have hs:=S.slots t v h;simp[ResR,hs]
theorem MQ {t T b off kk:Nat} {cs:List Value} (S:Sx w0 X φ L K n a w) (h:look K t=some (.pointer (some ⟨b,off,none⟩))) (hT:∀w,(isAgg T).run P w= .ok true w) (hz:∀w,(sizeOf T).run P w= .ok kk w) (hl:cs.length=kk)
 (hc:Un w b off cs):ResR P a.tmps w (.cell t T) (.agg cs.toArray):=by
 have hs:=S.slots t _ h;have hload:(loadCells ⟨b,off,none⟩ kk).run P w= .ok cs.toArray w:=by
  rw[←hl];exact run_loadCells_list (P:=P) w ⟨b,off,none⟩ cs (λj v hv=>by rw[BP];exact hc j v hv)
 simp[ResR,hs,asAddr,loadVar,hT,hz,hload]
theorem WM {t T b:Nat} {cs:List Value} {v:Value} (S:Sx w0 X φ L K n a w) (h:look K t=some (.pointer (some ⟨b,0,none⟩))) (hT:∀w,(isAgg T).run P w= .ok false w) (hc:Un w b 0 cs) (hv:cs[0]? =some v):ResR P a.tmps w (.cell t T) v:=by
 have hs:=S.slots t _ h;have h1:=hc 0 v hv;simp[ResR,hs,asAddr,loadVar,hT,run_load,h1]
theorem resL_run {tmps:Array Value}:∀(rs:List ResultVar) (vs:List Value),YH P tmps w rs vs->
 (rs.mapM fun| .tmp t=>pure (tmps.getD t undef)| .cell a t=>do loadVar t (←asAddr (tmps.getD a undef)):Sem (List Value)).run P w= .ok vs w:=by
 intro rs
 induction rs with
 |nil=>intro vs h;cases vs with
  |nil=>simp
  |cons=>exact h.elim
 |cons r rs ih=>intro vs h;cases vs with
  |nil=>exact h.elim
  |cons v vs=>
   have h1:=ih vs h.2;have h2:ResR P tmps w r v:=h.1;unfold ResR at h2;simp only[List.mapM_cons,Sem.run_bind,h2,h1,Result.andThen_ok,Sem.run_pure]
theorem Ahc {fn:Func} {rs:List ResultVar} {vs:List Value} {tmps:Array Value} (hr:fn.results=rs.toArray) (h:YH P tmps w rs vs):
 (results fn tmps).run P w= .ok (if h:vs.toArray.size=1 then vs.toArray[0] else Value.tuple vs.toArray) w:=by
 have h1:=resL_run rs vs h;have h2:(rs.toArray.mapM fun| .tmp t=>pure (tmps.getD t undef)| .cell x t=>do loadVar t (←asAddr (tmps.getD x undef)):Sem (Array Value)).run P w= .ok vs.toArray w:=by
  rw[List.mapM_toArray];simp only[Sem.run_map,h1,Result.andThen_ok]
 unfold results;rw[hr];simp only[Sem.run_bind,Sem.run_pure];exact congrArg (λr=>Result.andThen r λa w'=>Result.ok (if h:a.size=1 then a[0] else Value.tuple a) w') h2
theorem Afb {fn:Func} {rs:List ResultVar} {vs:List Value} {v:Value} {Φ:View->Value->World->Prop} (S:Sx w0 X φ L K n a w) (hr:fn.results=rs.toArray) (h:YH P a.tmps w rs vs)
 (hv:(if h:vs.toArray.size=1 then vs.toArray[0] else Value.tuple vs.toArray)=v) (hΦ:Φ (newer w0 w) v w):bodyPost P fn (Ret w0 X Φ) .ret a w:=by
 refine⟨S.nodefer,v,?_,v,rfl,S.keep,hΦ⟩;subst hv;exact Ahc hr h
section typed
variable {α:Type} {enc:α->List Value}
theorem RZ {t T k by_ i:Nat} {s x:Operand} {v u:Value} {xs ys:List α} {Y:List Nat} (h:SlT P t T k by_) (hE:Enc k enc) (S:Sx w0 X φ L K n a w) (hs:a.eval s=v) (hi:L[i]? =some (.own v T k xs.length (xs.flatMap enc)))
 (hx:a.eval x=u) (hu:Slc (view w Y) k u (ys.map enc)) (hk0:Nat.blt 0 k=true) (hb0:Nat.blt 0 by_=true)
 (hroom:(xs.length+ys.length)*by_<=140737488355328) (hd:Nat.blt d n=true)
 (kk:∀v' a' w',Keep v.ownBlock.toList w w'->Sx w0 X φ (L.set i (.own v' T k (xs++ys).length ((xs++ys).flatMap enc))) ((d,v')::K) n a' w'->wpList P ops Q rest a' w'):
 wpList P ops Q ({dst:=some d,op:= .call {callee:= .builtin .append,args:= #[s,x],argTypes:= #[t,t]},type:=ty,pos,after,guard:=none}::rest) a w:=by
 obtain⟨inf,z,h1,h2,h3,h4,h5⟩:=h.info;obtain⟨ao,cap,rfl,hcap,hmax,hnil,hrows⟩:=hu
 cases ao with
 |none=>
  have hc0:=hnil rfl;subst hc0;have hy:ys=[]:=by
   have:ys.length<=0:=by simpa using hcap
   exact List.eq_nil_of_length_eq_zero (Nat.le_zero.1 this)
  subst hy;refine QK (v:=v) (w':=w) ?_ ?_
  ·have hr:=run_append_owned_none (P:=P) (w:=w) 0 t ty T inf k h.under h1 v xs.length (xs.flatMap enc) (S.own_at hi);simp only[List.map_nil,aW] at hx;simp only[execOp,resolve,invoke,builtin,Sem.run_bind,Sem.run_pure,Result.andThen_ok,List.map_toArray,aY,List.map_nil,hs,hx,hr]
  ·refine kk v _ w (Keep.refl _ _) ?_;rw[List.append_nil,set_same hi];exact S.put (by simpa using hd)
 |some ad=>
  have hsp:=(hrows ad rfl).1;obtain⟨ab,aoff,asp⟩:=ad;simp only at hsp;subst hsp;refine l_append (news:=ys.flatMap enc) S hs hi h.under h1 h2 h3 h4 h5 hk0 (by rw[hx,aV]) (hE.flat ys) ?_ ?_ hb0 hroom hd ?_
  ·intro j uu hj;rw[BP];have hlen:=hE.flat ys;have hjl:j<(ys.flatMap enc).length:=(List.getElem?_eq_some_iff.1 hj).1;have hk:0<k:=by simpa using hk0
   have hji:j / k<ys.length:=by
    rw[hlen] at hjl;exact Nat.div_lt_of_lt_mul (by rw[Nat.mul_comm];exact hjl)
   have hrow:(ys.map enc)[j / k]? =some (enc ys[j / k]):=by rw[List.getElem?_map,List.getElem?_eq_getElem hji];rfl
   obtain⟨hl,hm⟩:=(hrows _ rfl).2 (j / k) _ hrow;have hjm:j % k<k:=Nat.mod_lt _ hk;have hjr:j % k<(enc ys[j / k]).length:=by rw[hl];exact hjm
   have hcell:=hm.cell (emb_view w Y) (j % k) _ (List.getElem?_eq_getElem hjr);have hsum:aoff+j / k*k+j % k=aoff+j:=by
    have:=Nat.div_add_mod j k;rw[Nat.mul_comm] at this;omega
   simp only[hsum] at hcell;rw[hcell];have hfl:=LF (rows:=ys.map enc) (hE.rows ys) hrow (List.getElem?_eq_getElem hjr);have h3:j / k*k+j % k=j:=by
    have:=Nat.div_add_mod j k;rw[Nat.mul_comm] at this;exact this
   rw[h3,←List.flatMap_def] at hfl;rw[hfl] at hj;exact hj
  ·intro uu hu;obtain⟨y,_,hy⟩:=List.mem_flatMap.1 hu;exact hE.one y uu hy
  ·intro v' a' w' hk S';refine kk v' a' w' hk ?_;rw[aU,List.flatMap_append];exact S'
where
 set_same {L:List LEnt} {i:Nat} {e:LEnt} (h:L[i]? =some e):L.set i e=L:=by
  obtain⟨l1,l2,rfl,rfl⟩:=QJ h;simp
theorem Sx.freeze {i T k m:Nat} {v:Value} {cs:List Value} (S:Sx w0 X φ L K n a w) (hi:L[i]? =some (.own v T k m cs)) (hX:∀c∈X,v.ownBlock≠some c):
 ∃φ',View.le φ φ'/\Kr φ' T k v m cs/\Sx w0 X φ' (L.eraseIdx i) K n a w:=by
 have ho:=S.own_at hi;rcases ho.2 with h|⟨g,cap,cur,h1,_,h2,h3⟩
 ·exact⟨φ,View.le_refl _,⟨ho.1,.inl h⟩,S.drop (List.eraseIdx_sublist _ _)⟩
 ·have hfp:(LEnt.own v T k m cs).fp=some g:=by simp[LEnt.fp,h1,Value.ownBlock]
  obtain⟨s1,s2,s3⟩:=S.sep g (Sx.fp_mem hi hfp);obtain⟨l1,l2,rfl,rfl⟩:=QJ hi;have he:(l1++LEnt.own v T k m cs::l2).eraseIdx l1.length=l1++l2:=by simp[List.eraseIdx_append_of_length_le]
  have hsub:List.Sublist (l1++l2) (l1++LEnt.own v T k m cs::l2):=by simp
  have S2:=S.drop hsub;have hnd:=S.nodup;have hfe:fps (l1++LEnt.own v T k m cs::l2)=fps l1++(g::fps l2):=by simp[fps,List.filterMap_append,hfp]
  rw[hfe] at hnd;have hg:g∉fps (l1++l2):=by
   simp only[fps,List.filterMap_append,bC];simp only[List.nodup_append,bT] at hnd;rintro(h|h)
   ·exact hnd.2.2 g h g aN rfl
   ·exact hnd.2.1.1 h
  refine⟨join φ (λb=>if b=g then w.heap[b]? else none),le_join_left _ _,⟨ho.1,.inr ⟨g,cap,cur,h1,?_,h3⟩⟩,?_⟩
  ·simp[join,s1,h2]
  ·rw[he];refine⟨S2.keep,?_,?_,S2.holds,S2.nodup,?_,S2.nodefer,S2.size,S2.slots⟩
   ·intro b o hb;unfold join at hb
    cases hp:φ b with
    |some o'=>rw[hp] at hb;cases hb;exact S.emb b _ hp
    |none=>
     rw[hp,Option.none_or] at hb;simp only at hb
     split at hb
     ·exact hb
     ·cases hb
   ·intro b o hb;unfold join at hb
    cases hp:φ b with
    |some o'=>exact S.fresh b _ hp
    |none=>
     rw[hp,Option.none_or] at hb;simp only at hb
     split at hb
     ·rename_i e;subst e;rcases s2 with h|h
      ·exact h
      ·exact absurd (by rw[h1];rfl) (hX b h)
     ·cases hb
   ·intro b hb;obtain⟨q1,q2,q3⟩:=S2.sep b hb;refine⟨?_,q2,q3⟩;have:b≠g:=λe=>hg (e ▸ hb);simp[join,q1,this]
theorem Sx.freezeT {i T k:Nat} {v:Value} {xs:List α} (S:Sx w0 X φ L K n a w) (hi:L[i]? =some (.own v T k xs.length (xs.flatMap enc))) (hX:∀c∈X,v.ownBlock≠some c):
 ∃φ',View.le φ φ'/\Kr φ' T k v xs.length (xs.flatMap enc)/\Sx w0 X φ' (L.eraseIdx i) K n a w:=S.freeze hi hX
theorem Sx.litOwn {i b T k q:Nat} {cells:List Value} {xs:List α} (S:Sx w0 X φ L K n a w) (hi:L[i]? =some (.blk b cells T)) (hE:Enc k enc) (hx:xs.flatMap enc=cells) (hq:xs.length=q) (hb:Nat.ble q 4096=true):
 Sx w0 X φ (L.set i (.own (.slice (some ⟨b,0,none⟩) q q) T k xs.length (xs.flatMap enc))) K n a w:=by
 subst hx hq;have hb':xs.length<=4096:=by simpa using hb
 refine S.change hi (Keep.refl [] w) (λ_ h=>by cases h) ⟨hE.flat xs,.inr ⟨b,xs.length,(xs.flatMap enc).toArray,rfl,Nat.zero_le _,S.blk_at hi,bU _,by simp[maxLen];omega,by simpa using hE.flat xs,?_⟩⟩ (λc hc=> .inl hc);rw[←hE.flat xs];exact List.take_of_length_le (bU _)
theorem Ahd {l vs:List Value} {off m:Nat} (h:off+vs.length<=m) (hl:m<=l.length):(lay l off vs).take m=lay (l.take m) off vs:=by
 unfold lay;rw[List.take_append,List.take_append,List.take_take,List.drop_take];have h1:min off m=off:=by omega
 have h2:m-off-vs.length=m-(off+vs.length):=by omega
 have h3:(List.take off l).length=off:=by simp;omega
 simp only[aU,h3];rw[List.take_take];have h4:min m off=off:=by omega
 rw[h4,h1];have h5:List.take (m-off) vs=vs:=List.take_of_length_le aA;have h6:m-(off+vs.length)=m-off-vs.length:=by omega
 rw[h5,h6]
theorem lay_mid {A E B vs:List Value} {c:Nat} (h:c+vs.length<=E.length):lay (A++E++B) (A.length+c) vs=A++lay E c vs++B:=by
 unfold lay;have e1:List.take (A.length+c) (A++E++B)=A++List.take c E:=by
  rw[List.append_assoc,List.take_length_add_append,List.take_append_of_le_length aA]
 have e2:List.drop (A.length+c+vs.length) (A++E++B)=List.drop (c+vs.length) E++B:=by
  rw[Nat.add_assoc,List.append_assoc,List.drop_length_add_append,List.drop_append_of_le_length h]
 rw[e1,e2];simp[List.append_assoc]
theorem Xv {i T k g j:Nat} {v:Value} {xs:List α} {e:α} (hE:Enc k enc) (S:Sx w0 X φ L K n a w) (hi:L[i]? =some (.own v T k xs.length (xs.flatMap enc))) (hg:v.ownBlock=some g) (hj:xs[j]? =some e):Un w g (j*k) (enc e):=by
 have hlt:j<xs.length:=(List.getElem?_eq_some_iff.1 hj).1;obtain⟨g',cap,cur,rfl,h2,h3,h4,h5,h6⟩:=MM (S.own_at hi) aA;simp only[Value.ownBlock,Option.some.injEq] at hg;subst hg;intro jj u hu;have h7:=LF (rows:=xs.map enc) (hE.rows xs) (by rw[List.getElem?_map,hj];rfl) hu;rw[←List.flatMap_def,←h6,List.getElem?_take] at h7
 split at h7
 ·rw[cell_of_row w g' _ cur T (0,0) h2];simpa using h7
 ·cases h7
theorem ER {i T k g j:Nat} {v:Value} {xs:List α} {e:α} {Y:List Nat} (hE:Enc k enc) (S:Sx w0 X φ L K n a w) (hi:L[i]? =some (.own v T k xs.length (xs.flatMap enc))) (hg:v.ownBlock=some g) (hj:xs[j]? =some e)
 (hY:∀c,(LEnt.own v T k xs.length (xs.flatMap enc)).fp=some c->c∉Y):Mem (view w Y) g (j*k) (enc e):=by
 have hlt:j<xs.length:=(List.getElem?_eq_some_iff.1 hj).1;have hc:=Xv hE S hi hg hj;obtain⟨g',cap,cur,rfl,h2,h3,h4,h5,h6⟩:=MM (S.own_at hi) aA;simp only[Value.ownBlock,Option.some.injEq] at hg;subst hg;refine⟨cur,T,(0,0),?_,?_⟩
 ·simp[view,hY g' rfl,h2]
 ·intro jj u hu;have:=hc jj u hu;rw[cell_of_row w g' _ cur T (0,0) h2] at this;exact this
theorem Mt {T TE el k by_ i j:Nat} {x y:Operand} {v:Value} {xs:List α} {e:α} {z:Int} {kk:IntKind} (h:SlT P T el k by_) (hE:Enc k enc) (S:Sx w0 X φ L K n a w) (hi:L[i]? =some (.own v TE k xs.length (xs.flatMap enc))) (hj:xs[j]? =some e) (hz:z=(j:Int))
 (hx:a.eval x=v) (hy:a.eval y= .int kk z):∃g,v.ownBlock=some g/\∀w,Rn P a w (.indexAddr T x y) ty (.pointer (some ⟨g,j*k,none⟩)):=by
 have hi':L[i]? =some (.own v TE k xs.length (xs.map enc).flatten):=by rw[hi];rfl
 obtain⟨g,h1,h2,h3⟩:=Aex (rows:=xs.map enc) (ty:=ty) S hi' h.under h.size (hE.rows xs) aB (by rw[List.getElem?_map,hj];rfl) hz hx hy;exact⟨g,h1,h3⟩
theorem BJ {xs:List α} {j:Nat} {e e':α} (h:xs[j]? =some e):(xs.set j e')[j]? =some e':=by
 have hlt:j<xs.length:=(List.getElem?_eq_some_iff.1 h).1;simp[hlt]
theorem BS {T k kk i g j c:Nat} {TE:TypeId} {x y:Operand} {v u:Value} {xs:List α} {vs:List Value} {e:α} (e':α) (hE:Enc k enc) (S:Sx w0 X φ L K n a w) (hx:a.eval x= .pointer (some ⟨g,j*k+c,none⟩)) (hy:a.eval y=u)
 (hi:L[i]? =some (.own v TE k xs.length (xs.flatMap enc))) (hg:v.ownBlock=some g) (hj:xs[j]? =some e) (hz:∀w,(sizeOf T).run P w= .ok kk w) (hvs:u.cells.toList=vs) (hl:vs.length=kk) (hc:Nat.ble (c+kk) k=true) (h1:vs.all (·.oneCell')=true) (hlay:lay (enc e) c vs=enc e')
 (kont:∀w',Keep v.ownBlock.toList w w'->Sx w0 X φ (L.set i (.own v TE k (xs.set j e').length ((xs.set j e').flatMap enc))) K n a w'->wpList P ops Q rest a w'):
 wpList P ops Q ({dst:=none,op:= .store T x y,type:=ty,pos,after,guard:=none}::rest) a w:=by
 have hlt:j<xs.length:=(List.getElem?_eq_some_iff.1 hj).1;obtain⟨g',cap,cur,rfl,h2,h3,h4,h5,h6⟩:=MM (S.own_at hi) aA;simp only[Value.ownBlock,Option.some.injEq] at hg;subst hg;have hck:c+kk<=k:=by simpa using hc
 have hjk:j*k+k<=xs.length*k:=by rw[←Nat.succ_mul];exact Nat.mul_le_mul_right _ hlt
 have hmk:xs.length*k<=cap*k:=Nat.mul_le_mul_right _ h3;have hcl:cur.toList.length=cap*k:=by simpa using h5
 have hfit:j*k+c+vs.length<=cur.toList.length:=by rw[hcl,hl];omega
 have hb:w.heap[g']? =some (.cells cur.toList.toArray TE (0,0)):=by rw[h2]
 have hrun:=UM (P:=P) hz hvs hl hb hfit h1;have hspl:xs=xs.take j++e::xs.drop (j+1):=by
  have:=List.getElem?_eq_some_iff.1 hj;rw[←this.2,List.getElem_cons_drop,List.take_append_drop]
 have hfl:(xs.set j e').flatMap enc=lay (xs.flatMap enc) (j*k+c) vs:=by
  have hA:((xs.take j).flatMap enc).length=j*k:=by rw[hE.flat,List.length_take,Nat.min_eq_left aA]
  have h8:xs.flatMap enc=(xs.take j).flatMap enc++enc e++(xs.drop (j+1)).flatMap enc:=by
   conv=>lhs;rw[hspl]
   simp[List.flatMap_append]
  rw[h8,←hA,lay_mid (by rw[hE.len,hl];exact hck),hlay];rw[List.set_eq_take_append_cons_drop,aQ hlt];simp[List.flatMap_append]
 refine Aby (w':=w.setRow g' (lay cur.toList (j*k+c) vs).toArray) (by simp[execOp,hx,hy,hrun]) ?_;refine kont _ (BO w g' _) (S.change (e':= .own (.slice (some ⟨g',0,none⟩) xs.length cap) TE k (xs.set j e').length ((xs.set j e').flatMap enc)) hi (BO w g' _) (by simp[LEnt.fp,Value.ownBlock]) ?_ (λc hc=> .inl hc));refine⟨hE.flat _,.inr ⟨g',cap,(lay cur.toList (j*k+c) vs).toArray,by simp,Nat.zero_le _,setRow_heap w g' _ _ _ _ h2,by simpa using h3,h4,?_,?_⟩⟩
 ·simp[lay];omega
 ·rw[List.length_set,List.toList_toArray,Ahd (by rw[hl];omega) aA,h6,hfl]
end typed
end
end Go.Proofs.YthlielagemkjcaaGreatDoor
