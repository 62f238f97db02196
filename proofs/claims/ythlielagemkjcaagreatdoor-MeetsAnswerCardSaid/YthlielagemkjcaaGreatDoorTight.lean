/- Rules that come together,for shorter walks. No statement here. -/
import Derived.Test.YthlielagemkjcaaGreatDoorArena
namespace Go.Proofs.YthlielagemkjcaaGreatDoor
open Go
section
variable {P:Program}{ops:Array Oper}{Q:Exit->Act->World->Prop}{rest:List Oper}
variable {w0:World}{X:List Nat}{φ:View}{L:List LEnt}{K:List (Nat×Value)}{n:Nat}{a:Act}{w:World}
variable {d:Nat}{ty:TypeId}{pos:String}{after:Array Edge}
theorem BT{α:Type}{x y:α}(h:some x=some y):x=y:=bH h
theorem Sx.nm(S:Sx w0 X φ L K n a w)(m:List Bool):Sx w0 X φ (CY m L) K n a w:=S.drop (MN m L)
theorem Sx.c1{t0:Nat}{v0:Value}(S:Sx w0 X φ L K n a w)(h:look K t0=some v0):EvL a [.tmp t0] [v0]:=⟨S.tm h,trivial⟩
theorem Sx.c2{t0 t1:Nat}{v0 v1:Value}(S:Sx w0 X φ L K n a w)(h:[look K t0,look K t1]=[some v0,some v1]):EvL a [.tmp t0,.tmp t1] [v0,v1]:=by
 simp only[bL] at h;exact⟨S.tm h.1,S.tm h.2.1,trivial⟩
theorem Sx.c3{t0 t1 t2:Nat}{v0 v1 v2:Value}(S:Sx w0 X φ L K n a w)(h:[look K t0,look K t1,look K t2]=[some v0,some v1,some v2]):EvL a [.tmp t0,.tmp t1,.tmp t2] [v0,v1,v2]:=by
 simp only[bL] at h;exact⟨S.tm h.1,S.tm h.2.1,S.tm h.2.2.1,trivial⟩
theorem Sx.c4{t0 t1 t2 t3:Nat}{v0 v1 v2 v3:Value}(S:Sx w0 X φ L K n a w)(h:[look K t0,look K t1,look K t2,look K t3]=[some v0,some v1,some v2,some v3]):EvL a [.tmp t0,.tmp t1,.tmp t2,.tmp t3] [v0,v1,v2,v3]:=by
 simp only[bL] at h;exact⟨S.tm h.1,S.tm h.2.1,S.tm h.2.2.1,S.tm h.2.2.2.1,trivial⟩
theorem evl1{x0:Operand}{v0:Value}(h0:a.eval x0=v0):EvL a [x0] [v0]:=⟨h0,trivial⟩
theorem evl2{x0 x1:Operand}{v0 v1:Value}(h0:a.eval x0=v0)(h1:a.eval x1=v1):EvL a [x0,x1] [v0,v1]:=⟨h0,h1,trivial⟩
theorem ZZ{x0 x1 x2:Operand}{v0 v1 v2:Value}(h0:a.eval x0=v0)(h1:a.eval x1=v1)(h2:a.eval x2=v2):EvL a [x0,x1,x2] [v0,v1,v2]:=⟨h0,h1,h2,trivial⟩
theorem evl4{x0 x1 x2 x3:Operand}{v0 v1 v2 v3:Value}(h0:a.eval x0=v0)(h1:a.eval x1=v1)(h2:a.eval x2=v2)(h3:a.eval x3=v3):EvL a [x0,x1,x2,x3] [v0,v1,v2,v3]:=⟨h0,h1,h2,h3,trivial⟩
theorem l_cl{f:FuncId}{xs:List Operand}{vs:List Value}{ats:Array TypeId}{Φ:View->Value->World->Prop}(S:Sx w0 X φ L K n a w)(hev:EvL a xs vs)(hcf:∀args w,(callFunc f args).run P w= .ok (.enter f args) w)
 (hc:Calls P f vs.toArray w (Ret w [] Φ)) (hd:Nat.blt d n=true) (k:∀v a' w',Φ (newer w w') v w'->Keep [] w w'->New w φ L->Sx w0 X φ L ((d,v)::K) n a' w'->wpList P ops Q rest a' w'):
 wpList P ops Q ({dst:=some d,op:=.call {callee:=.value (.func f),args:=xs.toArray,argTypes:=ats},type:=ty,pos,after,guard:=none}::rest) a w:=YN S (λ_=>Oq hev hcf) hc hd k
theorem XP{f:FuncId}{xs:List Operand}{vs:List Value}{ats:Array TypeId}{V:Value}(S:Sx w0 X φ L K n a w)(hev:EvL a xs vs)(hcf:∀args w,(callFunc f args).run P w= .ok (.enter f args) w)
 (hc:Calls P f vs.toArray w (Ret w [] λ_ v _=>v=V)) (hd:Nat.blt d n=true) (k:∀a' w',Keep [] w w'->New w φ L->Sx w0 X φ L ((d,V)::K) n a' w'->wpList P ops Q rest a' w'):
 wpList P ops Q ({dst:=some d,op:=.call {callee:=.value (.func f),args:=xs.toArray,argTypes:=ats},type:=ty,pos,after,guard:=none}::rest) a w:=l_cl S hev hcf hc hd λv a' w' hv hk hn S=>by subst hv;exact k a' w' hk hn S
theorem FX{i:Nat}{b T:Nat}{cells cells':List Value}{f:FuncId}{xs:List Operand}{vs:List Value}{ats:Array TypeId}{V:Value}(S:Sx w0 X φ L K n a w)(hi:L[i]? =some (.blk b cells T))(hev:EvL a xs vs)(hcf:∀args w,(callFunc f args).run P w= .ok (.enter f args) w)
 (hc:Calls P f vs.toArray w (Ret w [b] λ_ v w'=>(LEnt.blk b cells' T).holds w'/\v=V)) (hd:Nat.blt d n=true) (k:∀a' w',Keep [b] w w'->New w φ L->Sx w0 X φ (L.set i (.blk b cells' T)) ((d,V)::K) n a' w'->wpList P ops Q rest a' w'):
 wpList P ops Q ({dst:=some d,op:=.call {callee:=.value (.func f),args:=xs.toArray,argTypes:=ats},type:=ty,pos,after,guard:=none}::rest) a w:=
 HD i S (b:=b) hi rfl (λ_=>.blk b cells' T) (λ_=>Oq hev hcf) hc hd (λ_ _ _ h=>⟨h.1,λ_ hc=>by cases hc;rfl⟩) λv a' w' hv hk hn S=>by obtain⟨_,rfl⟩:=hv;exact k a' w' hk hn S
theorem Sx.hd{e:LEnt}(S:Sx w0 X φ L K n a w)(i:Nat)(h:L[i]? =some e):e.holds w:=S.holds _ (List.mem_of_getElem? h)
theorem Sx.la{e:LEnt}(S:Sx w0 X φ L K n a w)(i:Nat)(h:L[i]? =some e):View.le (view w0 X) (view w e.fp.toList):=S.le_arg (Aez h)
section
variable {R:Type}{r:R}{c:Code}
theorem f_jn0{KJ:R}{f:R->R}(h:Fq KJ f=r)(G:Act->World->Prop)(h1:∀j,f j=r->Wq P c (Exit.then (λa w'=>j=r/\G a w') Q) a w)(h2:∀a w',KJ=r->G a w'->Q .normal a w'):Wq P c Q a w:=
 Qk (λa w'=>KJ=r/\G a w') (h1 KJ h) λa w' ⟨e,g⟩=>h2 a w' e g
theorem Aho{β:Type}{KJ:β->R}{f:(β->R)->R}(h:Fq KJ f=r)(G:β->Act->World->Prop)(h1:∀j,f j=r->Wq P c (Exit.then (λa w'=>∃x,j x=r/\G x a w') Q) a w)(h2:∀x a w',KJ x=r->G x a w'->Q .normal a w'):Wq P c Q a w:=
 Qk (λa w'=>∃x,KJ x=r/\G x a w') (h1 KJ h) λa w' ⟨x,e,g⟩=>h2 x a w' e g
theorem f_jn1v{β:Type}{KJ:β->R}{f:(β->R)->R}(h:Fq KJ f=r)(G:β->Value->Act->World->Prop)(h1:∀j,f j=r->Wq P c (Exit.then (λa w'=>∃x v,j x=r/\G x v a w') Q) a w)(h2:∀x v a w',KJ x=r->G x v a w'->Q .normal a w'):Wq P c Q a w:=
 Qk (λa w'=>∃x v,KJ x=r/\G x v a w') (h1 KJ h) λa w' ⟨x,v,e,g⟩=>h2 x v a w' e g
theorem f_jn2{β γ:Type}{KJ:β->γ->R}{f:(β->γ->R)->R}(h:Fq KJ f=r)(G:β->γ->Act->World->Prop)(h1:∀j,f j=r->Wq P c (Exit.then (λa w'=>∃x y,j x y=r/\G x y a w') Q) a w)(h2:∀x y a w',KJ x y=r->G x y a w'->Q .normal a w'):Wq P c Q a w:=
 Qk (λa w'=>∃x y,KJ x y=r/\G x y a w') (h1 KJ h) λa w' ⟨x,y,e,g⟩=>h2 x y a w' e g
theorem f_ct{l:List Oper}(m:Nat)(G:Act->World->Prop)(h:wpList P ops (Exit.then (λa w'=>Keep [] w w'/\G a w') Q) (l.take m) a w)(k:∀a w',Keep [] w w'->G a w'->wpList P ops Q (l.drop m) a w'):wpList P ops Q l a w:=
 Akm m _ h λa w' ⟨e,g⟩=>k a w' e g
theorem f_ctj{l:List Oper}{β:Type}{KJ:β->R}{f:(β->R)->R}(m:Nat)(h:Fq KJ f=r)(G:β->Act->World->Prop)(h1:∀j,f j=r->wpList P ops (Exit.then (λa w'=>∃x,j x=r/\Keep [] w w'/\G x a w') Q) (l.take m) a w)(k:∀x a w',KJ x=r->Keep [] w w'->G x a w'->wpList P ops Q (l.drop m) a w'):wpList P ops Q l a w:=
 Akm m (λa w'=>∃x,KJ x=r/\Keep [] w w'/\G x a w') (h1 KJ h) λa w' ⟨x,e,q,g⟩=>k x a w' e q g
end
theorem Sx.wf{t:Nat}{b:Bool}{x y:Code}(S:Sx w0 X φ L K n a w)(hb:b=false)(h:look K t=some (.bool b))(k:Wq P y Q a w):Wq P (Code.cond (.tmp t) x y) Q a w:=GW ((S.tm h).trans (congrArg Value.bool hb)) k
theorem Sx.wt{t:Nat}{b:Bool}{x y:Code}(S:Sx w0 X φ L K n a w)(hb:b=true)(h:look K t=some (.bool b))(k:Wq P x Q a w):Wq P (Code.cond (.tmp t) x y) Q a w:=IX ((S.tm h).trans (congrArg Value.bool hb)) k
theorem lw{op:Op}{v:Value}(S:Sx w0 X φ L K n a w)(h:Rn P a w op ty v)(k:∀a',Sx w0 X φ L ((d,v)::K) n a' w->wpList P ops Q rest a' w)(hd:Nat.blt d n=true:=by rfl):
 wpList P ops Q ({dst:=some d,op,type:=ty,pos,after,guard:=none}::rest) a w:=lv S h hd k
section
variable {Y B:List Nat}{N:Act->World->Prop}{fuel:Nat}{listed:Array Bool}
theorem dq(i:Nat){op:Op}{v:Value}(S:Sx w0 X φ L K n a w)(hs:Region.noSelect ops=true)(hi:ops[i]? =some {dst:=some d,op,type:=ty,pos,after,guard:=none})
 (hy:∀w',Keep Y w w'->Rn P a w' op ty v) (k:∀a',Sx w0 X φ L ((d,v)::K) n a' w->wpD P ops B Y N fuel (listed.setIfInBounds i true) a' w)
 (hp:SU ops B i=true:=by rfl) (hn:noB B listed=true:=by rfl) (hr:(Region.ready .any ops listed).contains i=true:=by kernel_rfl) (hf:Region.free .any ops listed i=true:=by kernel_rfl) (hd:Nat.blt d n=true:=by rfl):wpD P ops B Y N (fuel+1) listed a w:=BI i S hs hi hp hn hr hf hd hy k
end
variable {α:Type}[Inhabited α]{enc:α->List Value}
theorem l_idx{ψ:View}{T el k by_ t u:Nat}{v:Value}{xs:List α}{z:Int}{kk:IntKind}(S:Sx w0 X φ L K n a w)(h:SlT P T el k by_)(hs:Slc ψ k v (xs.map enc))(hj:inB z xs.length=true)(hx:look K t=some v)(hy:look K u=some (.int kk z))(hd:Nat.blt d n=true)
 (kont:∀a' b off,Mem ψ b off (enc (nth xs z))->Sx w0 X φ L ((d,.pointer (some ⟨b,off,none⟩))::K) n a' w->wpList P ops Q rest a' w):
 wpList P ops Q ({dst:=some d,op:=.indexAddr T (.tmp t) (.tmp u),type:=ty,pos,after,guard:=none}::rest) a w:=by
 obtain⟨b,off,hm,hr⟩:=Rx (a:=a) (x:=.tmp t) (y:=.tmp u) (ty:=ty) h hs (Gd hj).1 (Gd hj).2 (S.tm hx) (S.tm hy);exact lv S (hr w) hd λa' S'=>kont a' b off hm S'
omit [Inhabited α] in
theorem Aaa{ψ:View}{T el k by_ t u j:Nat}{v:Value}{xs:List α}{e:α}{z:Int}{kk:IntKind}(S:Sx w0 X φ L K n a w)(h:SlT P T el k by_)(hs:Slc ψ k v (xs.map enc))(hj:xs[j]? =some e)(hz:z=(j:Int))(hx:look K t=some v)(hy:look K u=some (.int kk z))(hd:Nat.blt d n=true)
 (kont:∀a' b off,Mem ψ b off (enc e)->Sx w0 X φ L ((d,.pointer (some ⟨b,off,none⟩))::K) n a' w->wpList P ops Q rest a' w):
 wpList P ops Q ({dst:=some d,op:=.indexAddr T (.tmp t) (.tmp u),type:=ty,pos,after,guard:=none}::rest) a w:=by
 obtain⟨b,off,hm,hr⟩:=Rx (a:=a) (x:=.tmp t) (y:=.tmp u) (ty:=ty) h hs hj hz (S.tm hx) (S.tm hy);exact lv S (hr w) hd λa' S'=>kont a' b off hm S'
end
end Go.Proofs.YthlielagemkjcaaGreatDoor
