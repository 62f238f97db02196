/- What is asked of the program's tables,in bundles,and the rules stated by them. No statement here. -/
import Derived.Test.YthlielagemkjcaaGreatDoorSlice
import Derived.OwnWalk
namespace Go.Proofs.YthlielagemkjcaaGreatDoor
open Go
structure SlT(P:Program)(t T k by_:Nat):Prop where
 under:P.underlying t=some (.slice T)
 size:∀w,(sizeOf T).run P w= .ok k w
 info:∃inf z,P.info? T=some inf/\inf.zero=some z/\inf.size=k/\inf.bytes=by_/\z.cells.size=k
theorem BR{P:Program}{t T k by_:Nat}{z:Value}(h1:P.underlying t=some (.slice T))(h2:∀w,(sizeOf T).run P w= .ok k w)
 (h3:(P.info? T).map (λi=>(i.zero,i.size,i.bytes))=some (some z,k,by_)) (h4:z.cells.size=k):SlT P t T k by_:=by
 obtain⟨i,hi,hz,hs,hb⟩:=info_parts h3;exact⟨h1,h2,i,z,hi,hz,hs,hb,h4⟩
def Oi(P:Program)(s i o:Nat):Prop:=∃fs f sz,P.underlying s=some (.struct fs)/\fs[i]? =some f/\(∀w,(sizeOf f.type).run P w= .ok sz w)/\(sz==0)=false/\f.offset=o
def IY(P:Program)(T:Nat)(z:Value)(places:List (Nat×Nat)):Prop:=
 ∃fs,P.underlying T=some (.struct fs)/\(∀w,(zeroValue T).run P w= .ok z w)/\(∀w,(fs.mapM λf=>do pure (f.offset,←sizeOf f.type):Sem (Array (Nat×Nat))).run P w= .ok places.toArray w)
structure Enc{α:Type}(k:Nat)(enc:α->List Value):Prop where
 len:∀x,(enc x).length=k
 one:∀x,∀u∈enc x,u.oneCell'=true
def eInt(x:Int):List Value:=[.int .i64 x]
def Io(x:ByteArray):List Value:=[.string x]
theorem Xn:Enc 1 eInt:=⟨λ_=>rfl,λ_ u h=>by simp[eInt] at h;subst h;rfl⟩
theorem Tm:Enc 1 Io:=⟨λ_=>rfl,λ_ u h=>by simp[Io] at h;subst h;rfl⟩
theorem Enc.rows{α:Type}{k:Nat}{enc:α->List Value}(h:Enc k enc)(xs:List α):∀r∈xs.map enc,r.length=k:=by
 intro r hr;obtain⟨x,_,rfl⟩:=bD.1 hr;exact h.len x
theorem Enc.flat{α:Type}{k:Nat}{enc:α->List Value}(h:Enc k enc)(xs:List α):(xs.flatMap enc).length=xs.length*k:=by
 induction xs with
 |nil=>simp
 |cons x r ih=>simp[ih,h.len,Nat.add_mul,Nat.add_comm]
def CY:List Bool->List LEnt->List LEnt
 |b::m,e::l=>match b with
  |true=>e::CY m l
  |false=>CY m l
 |_,l=>l
theorem MN:∀(m:List Bool) (l:List LEnt),List.Sublist (CY m l) l
 |[],_=>List.Sublist.refl _
 |_::_,[]=>List.Sublist.refl _
 |true::m,_::l=>.cons_cons _ (MN m l)
 |false::m,_::l=>.cons _ (MN m l)
section
variable {P:Program}{ops:Array Oper}{Q:Exit->Act->World->Prop}{rest:List Oper}
variable {w0:World}{X:List Nat}{φ:View}{L:List LEnt}{K:List (Nat×Value)}{n:Nat}{a:Act}{w:World}
variable {d:Nat}{ty:TypeId}{pos:String}{after:Array Edge}
theorem Sx.nf{L':List LEnt}{K':List (Nat×Value)}(S:Sx w0 X φ L K n a w)(m:List Bool)(hL:CY m L=L')(hK:subK K K'):Sx w0 X φ L' K' n a w:=by
 subst hL;exact(S.drop (MN m L)).sub hK
theorem Sx.nk(S:Sx w0 X φ L K n a w)(L':List LEnt)(K':List (Nat×Value))(m:List Bool)(hL:CY m L=L')(hK:subK K K'):Sx w0 X φ L' K' n a w:=S.nf m hL hK
theorem Sx.nl(S:Sx w0 X φ L K n a w)(L':List LEnt)(m:List Bool)(hL:CY m L=L'):Sx w0 X φ L' K n a w:=by
 subst hL;exact S.drop (MN m L)
theorem Sx.n0(S:Sx w0 X φ L K n a w):Sx w0 X φ [] K n a w:=S.drop (List.nil_sublist _)
theorem Sx.k0(S:Sx w0 X φ L K n a w):Sx w0 X φ L [] n a w:=S.sub trivial
theorem Sx.k1{v0:Value}(S:Sx w0 X φ L K n a w)(i0:Nat)(h0:look K i0=some v0):Sx w0 X φ L [(i0,v0)] n a w:=S.sub ⟨h0,trivial⟩
theorem Sx.k2{v0 v1:Value}(S:Sx w0 X φ L K n a w)(i0 i1:Nat)(h:[look K i0,look K i1]=[some v0,some v1]):Sx w0 X φ L [(i0,v0),(i1,v1)] n a w:=by
 simp only[bL] at h;exact S.sub ⟨h.1,h.2.1,trivial⟩
theorem Sx.k3{v0 v1 v2:Value}(S:Sx w0 X φ L K n a w)(i0 i1 i2:Nat)(h:[look K i0,look K i1,look K i2]=[some v0,some v1,some v2]):Sx w0 X φ L [(i0,v0),(i1,v1),(i2,v2)] n a w:=by
 simp only[bL] at h;exact S.sub ⟨h.1,h.2.1,h.2.2.1,trivial⟩
theorem Sx.k4{v0 v1 v2 v3:Value}(S:Sx w0 X φ L K n a w)(i0 i1 i2 i3:Nat)(h:[look K i0,look K i1,look K i2,look K i3]=[some v0,some v1,some v2,some v3]):Sx w0 X φ L [(i0,v0),(i1,v1),(i2,v2),(i3,v3)] n a w:=by
 simp only[bL] at h;exact S.sub ⟨h.1,h.2.1,h.2.2.1,h.2.2.2.1,trivial⟩
theorem Sx.k5{v0 v1 v2 v3 v4:Value}(S:Sx w0 X φ L K n a w)(i0 i1 i2 i3 i4:Nat)(h:[look K i0,look K i1,look K i2,look K i3,look K i4]=[some v0,some v1,some v2,some v3,some v4]):Sx w0 X φ L [(i0,v0),(i1,v1),(i2,v2),(i3,v3),(i4,v4)] n a w:=by
 simp only[bL] at h;exact S.sub ⟨h.1,h.2.1,h.2.2.1,h.2.2.2.1,h.2.2.2.2.1,trivial⟩
theorem Sx.k6{v0 v1 v2 v3 v4 v5:Value}(S:Sx w0 X φ L K n a w)(i0 i1 i2 i3 i4 i5:Nat)(h:[look K i0,look K i1,look K i2,look K i3,look K i4,look K i5]=[some v0,some v1,some v2,some v3,some v4,some v5]):Sx w0 X φ L [(i0,v0),(i1,v1),(i2,v2),(i3,v3),(i4,v4),(i5,v5)] n a w:=by
 simp only[bL] at h;exact S.sub ⟨h.1,h.2.1,h.2.2.1,h.2.2.2.1,h.2.2.2.2.1,h.2.2.2.2.2.1,trivial⟩
theorem Sx.k7{v0 v1 v2 v3 v4 v5 v6:Value}(S:Sx w0 X φ L K n a w)(i0 i1 i2 i3 i4 i5 i6:Nat)(h:[look K i0,look K i1,look K i2,look K i3,look K i4,look K i5,look K i6]=[some v0,some v1,some v2,some v3,some v4,some v5,some v6]):Sx w0 X φ L [(i0,v0),(i1,v1),(i2,v2),(i3,v3),(i4,v4),(i5,v5),(i6,v6)] n a w:=by
 simp only[bL] at h;exact S.sub ⟨h.1,h.2.1,h.2.2.1,h.2.2.2.1,h.2.2.2.2.1,h.2.2.2.2.2.1,h.2.2.2.2.2.2.1,trivial⟩
theorem Sx.k8{v0 v1 v2 v3 v4 v5 v6 v7:Value}(S:Sx w0 X φ L K n a w)(i0 i1 i2 i3 i4 i5 i6 i7:Nat)(h:[look K i0,look K i1,look K i2,look K i3,look K i4,look K i5,look K i6,look K i7]=[some v0,some v1,some v2,some v3,some v4,some v5,some v6,some v7]):Sx w0 X φ L [(i0,v0),(i1,v1),(i2,v2),(i3,v3),(i4,v4),(i5,v5),(i6,v6),(i7,v7)] n a w:=by
 simp only[bL] at h;exact S.sub ⟨h.1,h.2.1,h.2.2.1,h.2.2.2.1,h.2.2.2.2.1,h.2.2.2.2.2.1,h.2.2.2.2.2.2.1,h.2.2.2.2.2.2.2.1,trivial⟩
theorem Sx.k9{v0 v1 v2 v3 v4 v5 v6 v7 v8:Value}(S:Sx w0 X φ L K n a w)(i0 i1 i2 i3 i4 i5 i6 i7 i8:Nat)(h:[look K i0,look K i1,look K i2,look K i3,look K i4,look K i5,look K i6,look K i7,look K i8]=[some v0,some v1,some v2,some v3,some v4,some v5,some v6,some v7,some v8]):Sx w0 X φ L [(i0,v0),(i1,v1),(i2,v2),(i3,v3),(i4,v4),(i5,v5),(i6,v6),(i7,v7),(i8,v8)] n a w:=by
 simp only[bL] at h;exact S.sub ⟨h.1,h.2.1,h.2.2.1,h.2.2.2.1,h.2.2.2.2.1,h.2.2.2.2.2.1,h.2.2.2.2.2.2.1,h.2.2.2.2.2.2.2.1,h.2.2.2.2.2.2.2.2.1,trivial⟩
theorem Sx.k10{v0 v1 v2 v3 v4 v5 v6 v7 v8 v9:Value}(S:Sx w0 X φ L K n a w)(i0 i1 i2 i3 i4 i5 i6 i7 i8 i9:Nat)(h:[look K i0,look K i1,look K i2,look K i3,look K i4,look K i5,look K i6,look K i7,look K i8,look K i9]=[some v0,some v1,some v2,some v3,some v4,some v5,some v6,some v7,some v8,some v9]):Sx w0 X φ L [(i0,v0),(i1,v1),(i2,v2),(i3,v3),(i4,v4),(i5,v5),(i6,v6),(i7,v7),(i8,v8),(i9,v9)] n a w:=by
 simp only[bL] at h;exact S.sub ⟨h.1,h.2.1,h.2.2.1,h.2.2.2.1,h.2.2.2.2.1,h.2.2.2.2.2.1,h.2.2.2.2.2.2.1,h.2.2.2.2.2.2.2.1,h.2.2.2.2.2.2.2.2.1,h.2.2.2.2.2.2.2.2.2.1,trivial⟩
theorem Sx.k11{v0 v1 v2 v3 v4 v5 v6 v7 v8 v9 v10:Value}(S:Sx w0 X φ L K n a w)(i0 i1 i2 i3 i4 i5 i6 i7 i8 i9 i10:Nat)(h:[look K i0,look K i1,look K i2,look K i3,look K i4,look K i5,look K i6,look K i7,look K i8,look K i9,look K i10]=[some v0,some v1,some v2,some v3,some v4,some v5,some v6,some v7,some v8,some v9,some v10]):Sx w0 X φ L [(i0,v0),(i1,v1),(i2,v2),(i3,v3),(i4,v4),(i5,v5),(i6,v6),(i7,v7),(i8,v8),(i9,v9),(i10,v10)] n a w:=by
 simp only[bL] at h;exact S.sub ⟨h.1,h.2.1,h.2.2.1,h.2.2.2.1,h.2.2.2.2.1,h.2.2.2.2.2.1,h.2.2.2.2.2.2.1,h.2.2.2.2.2.2.2.1,h.2.2.2.2.2.2.2.2.1,h.2.2.2.2.2.2.2.2.2.1,h.2.2.2.2.2.2.2.2.2.2.1,trivial⟩
theorem Sx.k12{v0 v1 v2 v3 v4 v5 v6 v7 v8 v9 v10 v11:Value}(S:Sx w0 X φ L K n a w)(i0 i1 i2 i3 i4 i5 i6 i7 i8 i9 i10 i11:Nat)(h:[look K i0,look K i1,look K i2,look K i3,look K i4,look K i5,look K i6,look K i7,look K i8,look K i9,look K i10,look K i11]=[some v0,some v1,some v2,some v3,some v4,some v5,some v6,some v7,some v8,some v9,some v10,some v11]):Sx w0 X φ L [(i0,v0),(i1,v1),(i2,v2),(i3,v3),(i4,v4),(i5,v5),(i6,v6),(i7,v7),(i8,v8),(i9,v9),(i10,v10),(i11,v11)] n a w:=by
 simp only[bL] at h;exact S.sub ⟨h.1,h.2.1,h.2.2.1,h.2.2.2.1,h.2.2.2.2.1,h.2.2.2.2.2.1,h.2.2.2.2.2.2.1,h.2.2.2.2.2.2.2.1,h.2.2.2.2.2.2.2.2.1,h.2.2.2.2.2.2.2.2.2.1,h.2.2.2.2.2.2.2.2.2.2.1,h.2.2.2.2.2.2.2.2.2.2.2.1,trivial⟩
theorem Sx.d0{e0:LEnt}(S:Sx w0 X φ (e0::L) K n a w):Sx w0 X φ (L) K n a w:=S.drop (List.sublist_cons_self _ _)
theorem Sx.d1{e0 e1:LEnt}(S:Sx w0 X φ (e0::e1::L) K n a w):Sx w0 X φ (e0::L) K n a w:=S.drop (.cons_cons _ (List.sublist_cons_self _ _))
theorem Sx.d2{e0 e1 e2:LEnt}(S:Sx w0 X φ (e0::e1::e2::L) K n a w):Sx w0 X φ (e0::e1::L) K n a w:=S.drop (.cons_cons _ (.cons_cons _ (List.sublist_cons_self _ _)))
theorem Sx.d3{e0 e1 e2 e3:LEnt}(S:Sx w0 X φ (e0::e1::e2::e3::L) K n a w):Sx w0 X φ (e0::e1::e2::L) K n a w:=S.drop (.cons_cons _ (.cons_cons _ (.cons_cons _ (List.sublist_cons_self _ _))))
theorem Sx.d4{e0 e1 e2 e3 e4:LEnt}(S:Sx w0 X φ (e0::e1::e2::e3::e4::L) K n a w):Sx w0 X φ (e0::e1::e2::e3::L) K n a w:=S.drop (.cons_cons _ (.cons_cons _ (.cons_cons _ (.cons_cons _ (List.sublist_cons_self _ _)))))
theorem Sx.d5{e0 e1 e2 e3 e4 e5:LEnt}(S:Sx w0 X φ (e0::e1::e2::e3::e4::e5::L) K n a w):Sx w0 X φ (e0::e1::e2::e3::e4::L) K n a w:=S.drop (.cons_cons _ (.cons_cons _ (.cons_cons _ (.cons_cons _ (.cons_cons _ (List.sublist_cons_self _ _))))))
theorem ME{s i o b off:Nat}{x:Operand}(h:Oi P s i o)(hx:a.eval x= .pointer (some ⟨b,off,none⟩)):Rn P a w (.fieldAddr s x i) ty (.pointer (some ⟨b,off+o,none⟩)):=by
 obtain⟨fs,f,sz,h1,h2,h3,h4,h5⟩:=h;exact Aet h1 h2 h3 h4 h5 hx
theorem IA{T:TypeId}{z:Value}{ps:List (Nat×Operand)}{pv:List (Nat×Value)}{places:List (Nat×Nat)}{cs:List Value}(h:IY P T z places)(hev:EvP a ps pv)(hf:Instr.fill (places.toArray[·]?) z.cells pv=some cs.toArray):
 Rn P a w (.build T ps.toArray) ty (.agg cs.toArray):=by
 obtain⟨fs,h1,h2,h3⟩:=h;exact rn_build h1 h2 h3 hev hf
theorem Uo{t T k by_ m:Nat}{x:Operand}{v:Value}(h:SlT P t T k by_)(hx:a.eval x=v)(hv:Jc v m):
 Rn P a w (.call {callee:=.builtin .len,args:=#[x],argTypes:=#[t]}) ty (.int .i64 m):=rn_len h.under hx hv
section typed
variable {α:Type}{enc:α->List Value}
theorem Ku{ψ:View}{k:Nat}{v:Value}{xs:List α}(h:Slc ψ k v (xs.map enc)):Jc v xs.length:=by have:=h.len;rwa [aV] at this
theorem GX{ψ:View}{k:Nat}{v:Value}{xs:List α}(h:Slc ψ k v (xs.map enc)):xs.length<=9223372036854775807:=by
 have:=h.max;rw[aV] at this;simpa[maxLen] using this
theorem Rx{ψ:View}{T el k by_ j:Nat}{x y:Operand}{v:Value}{xs:List α}{e:α}{z:Int}{kk:IntKind}(h:SlT P T el k by_)(hs:Slc ψ k v (xs.map enc))(hj:xs[j]? =some e)(hz:z=(j:Int))
 (hx:a.eval x=v) (hy:a.eval y= .int kk z):∃b off,Mem ψ b off (enc e)/\∀w,Rn P a w (.indexAddr T x y) ty (.pointer (some ⟨b,off,none⟩)):=
 rn_index h.under h.size hs (by rw[List.getElem?_map,hj];rfl) hz hx hy
theorem EP{i T k:Nat}{v:Value}{xs:List α}{Y:List Nat}(hE:Enc k enc)(S:Sx w0 X φ L K n a w)(hi:L[i]? =some (.own v T k xs.length (xs.flatMap enc)))(hY:∀b,v.ownBlock=some b->b∉Y):Slc (view w Y) k v (xs.map enc):=
 S.own_slc hi rfl (hE.rows xs) aB hY
theorem Iw{ψ:View}{T k:Nat}{v:Value}{xs:List α}(hE:Enc k enc)(h:Kr ψ T k v xs.length (xs.flatMap enc)):Slc ψ k v (xs.map enc):=
 h.slc rfl (hE.rows xs) aB
theorem Ako{t T TB k by_ i j b q:Nat}{s x:Operand}{v:Value}{xs ys:List α}{news:List Value}(h:SlT P t T k by_)(hE:Enc k enc)(S:Sx w0 X φ L K n a w)(hs:a.eval s=v)(hi:L[i]? =some (.own v T k xs.length (xs.flatMap enc)))
 (hx:a.eval x= .slice (some ⟨b,0,none⟩) q q) (hj:L[j]? =some (.blk b news TB)) (hq:ys.length=q) (hn:ys.flatMap enc=news) (hk0:Nat.blt 0 k=true) (hb0:Nat.blt 0 by_=true)
 (hroom:(xs.length+q)*by_<=140737488355328) (hd:Nat.blt d n=true)
 (kk:∀v' a' w',Keep v.ownBlock.toList w w'->(∀c,v'.ownBlock=some c->v.ownBlock=some c\/w.heap.size<=c)->Sx w0 X φ (L.set i (.own v' T k (xs++ys).length ((xs++ys).flatMap enc))) ((d,v')::K) n a' w'->wpList P ops Q rest a' w'):
 wpList P ops Q ({dst:=some d,op:=.call {callee:=.builtin .append,args:=#[s,x],argTypes:=#[t,t]},type:=ty,pos,after,guard:=none}::rest) a w:=by
 obtain⟨inf,z,h1,h2,h3,h4,h5⟩:=h.info;subst hq hn;refine Akn S hs hi hx hj h.under h1 h2 h3 h4 h5 hk0 (hE.flat ys) ?_ hb0 hroom hd ?_
 ·rw[List.all_eq_true];intro u hu;obtain⟨y,_,hy⟩:=List.mem_flatMap.1 hu;exact hE.one y u hy
 ·intro v' a' w' hk hf S';refine kk v' a' w' hk hf ?_;rw[aU,List.flatMap_append];exact S'
theorem CN{t T TB k by_ i j b q:Nat}{s x:Operand}{v:Value}{xs ys:List α}{news:List Value}(h:SlT P t T k by_)(hE:Enc k enc)(S:Sx w0 X φ L K n a w)(hs:a.eval s=v)(hi:L[i]? =some (.own v T k xs.length (xs.flatMap enc)))
 (hx:a.eval x= .slice (some ⟨b,0,none⟩) q q) (hj:L[j]? =some (.blk b news TB)) (hq:ys.length=q) (hn:ys.flatMap enc=news) (hk0:Nat.blt 0 k=true) (hb0:Nat.blt 0 by_=true)
 (hroom:(xs.length+q)*by_<=140737488355328) (hd:Nat.blt d n=true)
 (kk:∀v' a' w',Keep v.ownBlock.toList w w'->Sx w0 X φ (L.set i (.own v' T k (xs++ys).length ((xs++ys).flatMap enc))) ((d,v')::K) n a' w'->wpList P ops Q rest a' w'):
 wpList P ops Q ({dst:=some d,op:=.call {callee:=.builtin .append,args:=#[s,x],argTypes:=#[t,t]},type:=ty,pos,after,guard:=none}::rest) a w:=
 Ako h hE S hs hi hx hj hq hn hk0 hb0 hroom hd λv' a' w' hk _=>kk v' a' w' hk
theorem Ot{i T k:Nat}{v:Value}{xs:List α}(S:Sx w0 X φ L K n a w)(hi:L[i]? =some (.own v T k xs.length (xs.flatMap enc)))(hX:X=[]):Kr (newer w0 w) T k v xs.length (xs.flatMap enc):=S.own_ret hi hX
theorem HE(ψ:View)(T k:Nat):Kr ψ T k (.slice none 0 0) ([]:List α).length (([]:List α).flatMap enc):=⟨by simp,.inl ⟨rfl,rfl⟩⟩
end typed
theorem OJ{α:Type}{xs dn:List α}{i:Nat}(hd:xs=dn++[])(hi:dn.length=i):decide ((i:Int)<(xs.length:Int))=false:=by subst hd hi;simp
theorem JQ{α:Type}{xs dn ys:List α}{x:α}{i:Nat}(hd:xs=dn++x::ys)(hi:dn.length=i):decide ((i:Int)<(xs.length:Int))=true:=by subst hd hi;simp;omega
theorem JR{α:Type}{xs dn ys:List α}{x:α}{i:Nat}(hd:xs=dn++x::ys)(hi:dn.length=i)(hm:xs.length<=9223372036854775807):W ((i:Int)+1)=((i+1:Nat):Int):=by
 subst hd hi;simp only[aU,aT] at hm;rw[Hl aA aA];omega
theorem Wf{T k m b:Nat}{v:Value}{cs:List Value}(h:w.ownsRow b T k v m cs):m<=9223372036854775807:=by
 rcases h.2 with ⟨_,rfl⟩|⟨g,cap,cur,_,_,_,h3,h4,_⟩
 ·omega
 ·simp only[maxLen] at h4;omega
theorem Tn{J:Act->World->Prop}(h:J a w):Exit.then J Q .normal a w:=h
theorem Nq{J:Act->World->Prop}{i:Nat}(h:Q (.exit i) a w):Exit.then J Q (.exit i) a w:=h
theorem Vo{J:Act->World->Prop}(h:Q .ret a w):Exit.then J Q .ret a w:=h
theorem AQ{i:Nat}(h:Q .normal a w):Exit.inBlock i Q .normal a w:=h
theorem LH{i:Nat}(h:Q .ret a w):Exit.inBlock i Q .ret a w:=h
theorem IZ{ψ:View}{b T:Nat}{cs:List Value}(h:ψ b=some (.cells cs.toArray T (0,0))):Mem ψ b 0 cs:=⟨_,_,_,h,λj v hv=>by simpa using hv⟩
theorem Sx.blk_view{i b T:Nat}{cells:List Value}{Y:List Nat}(S:Sx w0 X φ L K n a w)(hi:L[i]? =some (.blk b cells T))(hY:b∉Y):view w Y b=some (.cells cells.toArray T (0,0)):=by
 unfold view;rw[aP hY];exact S.blk_at hi
theorem evA{l:List Operand}{vs:List Value}(h:EvL a l vs):l.toArray.map a.eval=vs.toArray:=by
 rw[List.map_toArray,h.map]
theorem UO{α:Type}{enc:α->List Value}{i T k:Nat}{v:Value}{xs:List α}(S:Sx w0 X φ L K n a w)(hi:L[i]? =some (.own v T k xs.length (xs.flatMap enc)))(hX:∀c∈X,v.ownBlock≠some c):Kr (newer w0 w) T k v xs.length (xs.flatMap enc):=by
 have ho:=S.own_at hi;refine⟨ho.1,?_⟩;rcases ho.2 with h|⟨g,cap,cur,h1,_,h2,h3⟩
 ·exact .inl h
 ·refine .inr ⟨g,cap,cur,h1,?_,h3⟩;have hs:=(S.sep g (Sx.fp_mem hi (by simp[LEnt.fp,h1,Value.ownBlock]))).2.1;unfold newer;rw[aQ]
  ·exact h2
  ·rcases hs with h|h
   ·exact h
   ·exact absurd (by rw[h1];rfl) (hX g h)
theorem Sx.see'{wo:World}(S:Sx w0 X φ L K n a w)(hn:New wo φ L)(hs:w0.heap.size<=wo.heap.size):∃φ',View.le φ φ'/\View.le (newer wo w) φ'/\Sx w0 X φ' L K n a w:=
 ⟨_,New.le_left,New.le_right hn,S.see hn hs⟩
theorem QL{α:Type}{enc:α->List Value}{k i b T q:Nat}{cells:List Value}{xs:List α}{Y:List Nat}(hE:Enc k enc)(S:Sx w0 X φ L K n a w)(hi:L[i]? =some (.blk b cells T))(hx:xs.flatMap enc=cells)(hq:xs.length=q)(hb:Nat.ble q 4096=true)(hY:b∉Y):
 Slc (view w Y) k (.slice (some ⟨b,0,none⟩) q q) (xs.map enc):=by
 subst hx hq;have hb':xs.length<=4096:=by simpa using hb
 refine Iw (T:=T) hE ⟨hE.flat xs,.inr ⟨b,xs.length,(xs.flatMap enc).toArray,rfl,S.blk_view hi hY,bU _,by simp[maxLen];omega,by simpa using hE.flat xs,?_⟩⟩;rw[←hE.flat xs];exact List.take_of_length_le aB
theorem f_ret0{fn:Func}{Φ:View->Value->World->Prop}(S:Sx w0 X φ L K n a w)(hr:fn.results= #[])(h:Φ (newer w0 w) (.tuple #[]) w):bodyPost P fn (Ret w0 X Φ) .ret a w:=
 ⟨S.nodefer,_,results_none hr _ _ _,_,rfl,S.keep,h⟩
theorem l_skipU{op:Op}{j:Nat}{want:Bool}{oj:Oper}{tj:Nat}(S:Sx w0 X φ L K n a w)(hj:ops[j]? =some oj)(ht:oj.dst=some tj)(hv:look K tj=some undef)(hd:Nat.blt d n=true)
 (k:∀a',Sx w0 X φ L ((d,undef)::K) n a' w->wpList P ops Q rest a' w):
 wpList P ops Q ({dst:=some d,op:=op,type:=ty,pos,after,guard:=some (j,want)}::rest) a w:=by
 have hs:=S.slots tj _ hv;refine wpList_skip ?_ (k _ (S.put (by simpa using hd)));simp[Region.wanted,yielded,hj,ht,hs,undef]
theorem Akp{T:TypeId}{x y:Operand}{s:ByteArray}{z:Int}{kk:IntKind}(ht:P.underlying T=some .string)(hx:a.eval x= .string s)(hy:a.eval y= .int kk z)(hc:inB z s.size=true):
 Rn P a w (.index T x y) ty (.int .u8 (LD s z)):=by
 obtain⟨h1,h2⟩:=Fy.1 hc;have h3:z.toNat<s.size:=by omega
 have h4:s[z.toNat]? =some s[z.toNat]:=ByteArray.getElem?_lt' s _ h3;have h5:=Apl (P:=P) (w:=w) (ty:=ty) ht hx hy (show z=(z.toNat:Int) by omega) h4;have h6:LD s z=(s[z.toNat].toNat:Int):=by
  unfold LD;have:s.data.toList.getD z.toNat 0=s[z.toNat]:=by
   rw[List.getD_eq_getElem?_getD,List.getElem?_eq_getElem (by simpa using h3)];rfl
  rw[this]
 rw[h6];exact h5
section cutT
variable {α:Type}{enc:α->List Value}{ψ:View}{T el k by_:Nat}{x y y':Operand}{v:Value}{xs:List α}{zl zh:Int}{k1 k2:IntKind}
variable (hT:SlT P T el k by_)(hs:Slc ψ k v (xs.map enc))(hx:a.eval x=v)
include hT hs hx
theorem rn_cutT3{y2:Operand}{k3:IntKind}(hy:a.eval y= .int k1 zl)(hy':a.eval y'= .int k2 zh)(hy2:a.eval y2= .int k3 zh)(hc:Tv zl zh xs.length=true):∃v',Slc ψ k v' ((cut xs zl zh).map enc)/\∀w,Rn P a w (.slice T x (some y) (some y') (some y2)) ty v':=by
 obtain⟨h1,h2,h3⟩:=Lc.1 hc;obtain⟨v',h4,h5⟩:=rn_cut3 (ty:=ty) hT.under hT.size hs hx hy hy' hy2 (show zl=(zl.toNat:Int) by omega) (show zh=(zh.toNat:Int) by omega) aA aD;exact⟨v',by unfold cut;rw[List.map_drop,List.map_take];exact h4,h5⟩
theorem MO(hy:a.eval y= .int k1 zl)(hc:Tv zl (xs.length:Int) xs.length=true):∃v',Slc ψ k v' ((cut xs zl xs.length).map enc)/\∀w,Rn P a w (.slice T x (some y) none none) ty v':=by
 obtain⟨h1,h2,h3⟩:=Lc.1 hc;obtain⟨v',h4,h5⟩:=rn_cutl (ty:=ty) hT.under hT.size hs hx hy (show zl=(zl.toNat:Int) by omega) aD;exact⟨v',by unfold cut;rw[bI,List.take_length,List.map_drop];exact h4,h5⟩
theorem UP(hy':a.eval y'= .int k2 zh)(hc:Tv 0 zh xs.length=true):∃v',Slc ψ k v' ((cut xs 0 zh).map enc)/\∀w,Rn P a w (.slice T x none (some y') none) ty v':=by
 obtain⟨h1,h2,h3⟩:=Lc.1 hc;obtain⟨v',h4,h5⟩:=rn_cuth (ty:=ty) hT.under hT.size hs hx hy' (show zh=(zh.toNat:Int) by omega) aD;exact⟨v',by unfold cut;rw[Int.toNat_zero,List.drop_zero,List.map_take];exact h4,h5⟩
end cutT
theorem Apm{T:TypeId}{x y y':Operand}{s:ByteArray}{zl zh:Int}{k1 k2:IntKind}(ht:P.underlying T=some .string)(hx:a.eval x= .string s)(hy:a.eval y= .int k1 zl)(hy':a.eval y'= .int k2 zh)(hc:Tv zl zh s.size=true):
 Rn P a w (.slice T x (some y) (some y') none) ty (.string (KY s zl zh)):=by
 obtain⟨h1,h2,h3⟩:=Lc.1 hc;exact rn_scut2 ht hx hy hy' aA aA aA aA
theorem Apn{T:TypeId}{x y:Operand}{s:ByteArray}{zl:Int}{k1:IntKind}(ht:P.underlying T=some .string)(hx:a.eval x= .string s)(hy:a.eval y= .int k1 zl)(hc:Tv zl (s.size:Int) s.size=true):
 Rn P a w (.slice T x (some y) none none) ty (.string (KY s zl s.size)):=by
 obtain⟨h1,h2,h3⟩:=Lc.1 hc;exact rn_scutl ht hx hy aA aA
theorem Apo{T:TypeId}{x y':Operand}{s:ByteArray}{zh:Int}{k2:IntKind}(ht:P.underlying T=some .string)(hx:a.eval x= .string s)(hy':a.eval y'= .int k2 zh)(hc:Tv 0 zh s.size=true):
 Rn P a w (.slice T x none (some y') none) ty (.string (KY s 0 zh)):=by
 obtain⟨h1,h2,h3⟩:=Lc.1 hc;exact rn_scuth ht hx hy' aA aA
theorem Qk{c:Code}(J:Act->World->Prop)(h:Wq P c (Exit.then J Q) a w)(k:∀a w,J a w->Q .normal a w):Wq P c Q a w:=
 wp_mono h λe a w q=>by cases e<;>first|exact k a w q|exact q
theorem Vm{t:Nat}{v:Value}(S:Sx w0 X φ L K n a w)(h:look K t=some v)(hd:Nat.blt d n=true)(k:∀a',Sx w0 X φ L ((d,v)::K) n a' w->wpList P ops Q rest a' w):
 wpList P ops Q ({dst:=some d,op:=.move (.tmp t),type:=ty,pos,after,guard:=none}::rest) a w:=lv S (Rm (S.tm h)) hd k
theorem Va{t:Nat}{v:Value}(S:Sx w0 X φ L K n a w)(h:look K t=some v)(hd:Nat.blt d n=true)(k:∀a',Sx w0 X φ L ((d,v)::K) n a' w->wpList P ops Q rest a' w):
 wpList P ops Q ({dst:=some d,op:=.assign (.tmp t),type:=ty,pos,after,guard:=none}::rest) a w:=lv S (Ra (S.tm h)) hd k
theorem Vk{x:Operand}{v:Value}(S:Sx w0 X φ L K n a w)(h:a.eval x=v)(hd:Nat.blt d n=true)(k:∀a',Sx w0 X φ L ((d,v)::K) n a' w->wpList P ops Q rest a' w):
 wpList P ops Q ({dst:=some d,op:=.assign x,type:=ty,pos,after,guard:=none}::rest) a w:=lv S (Ra h) hd k
theorem Vl{T:TypeId}(hT:∀w,(isAgg T).run P w= .ok false w)(i:Nat){t b off:Nat}{v:Value}{cells:List Value}{T':TypeId}(S:Sx w0 X φ L K n a w)(h:look K t=some (.pointer (some ⟨b,off,none⟩)))(hi:L[i]? =some (.blk b cells T'))(hv:cells[off]? =some v)(hd:Nat.blt d n=true)(k:∀a',Sx w0 X φ L ((d,v)::K) n a' w->wpList P ops Q rest a' w):
 wpList P ops Q ({dst:=some d,op:=.load T (.tmp t),type:=ty,pos,after,guard:=none}::rest) a w:=lv S (OI hT (S.tm h) (S.cell hi hv)) hd k
theorem Vf{s i o b off t:Nat}(hf:Oi P s i o)(S:Sx w0 X φ L K n a w)(h:look K t=some (.pointer (some ⟨b,off,none⟩)))(hd:Nat.blt d n=true)(k:∀a',Sx w0 X φ L ((d,.pointer (some ⟨b,off+o,none⟩))::K) n a' w->wpList P ops Q rest a' w):
 wpList P ops Q ({dst:=some d,op:=.fieldAddr s (.tmp t) i,type:=ty,pos,after,guard:=none}::rest) a w:=lv S (ME hf (S.tm h)) hd k
theorem Vb{op:Op}{t t':Nat}{u u' v:Value}(S:Sx w0 X φ L K n a w)(R:a.eval (.tmp t)=u->a.eval (.tmp t')=u'->Rn P a w op ty v)(h:look K t=some u)(h':look K t'=some u')(hd:Nat.blt d n=true)(k:∀a',Sx w0 X φ L ((d,v)::K) n a' w->wpList P ops Q rest a' w):
 wpList P ops Q ({dst:=some d,op,type:=ty,pos,after,guard:=none}::rest) a w:=lv S (R (S.tm h) (S.tm h')) hd k
theorem Vq{op:Op}{t:Nat}{u v:Value}{q:Prop}(S:Sx w0 X φ L K n a w)(R:a.eval (.tmp t)=u->q->Rn P a w op ty v)(h:look K t=some u)(h':q)(hd:Nat.blt d n=true)(k:∀a',Sx w0 X φ L ((d,v)::K) n a' w->wpList P ops Q rest a' w):
 wpList P ops Q ({dst:=some d,op,type:=ty,pos,after,guard:=none}::rest) a w:=lv S (R (S.tm h) h') hd k
theorem Dl{J:Act->World->Prop}(h:J a w):wpList P ops (Exit.then J Q) [] a w:=h
theorem Fr{id:Nat}{l:List Oper}{y:Code}(h:wpList P l.toArray (Exit.then (Wq P y Q) Q) l a w):Wq P (Code.seq (.region id l.toArray false) y) Q a w:=Fs (Fg h)
theorem Dz{id:Nat}{l:List Oper}{y:Code}{Q':Exit->Act->World->Prop}(h:wpList P l.toArray (Exit.then (Wq P y Q) Q) l a w):wpList P ops (Exit.then (Wq P (Code.seq (.region id l.toArray false) y) Q) Q') [] a w:=Dl (Fr h)
theorem Fe{f:FuncId}{fn:Func}{c:Code}{vs:List Value}{R:Ending->World->Prop}{nt:Nat}(hf:P.funcs[f]? =some fn)(hb:fn.body=some c)(hnt:fn.ntmps=nt)(hn:Nat.ble vs.length nt=true)
 (k:∀a,Sx w [] nov [] (ZO 0 vs) nt a w->Wq P c (bodyPost P fn R) a w):Calls P f vs.toArray w R:=Ka [] [] hf hb hnt hn aB (by simp[fps]) (by simp[fps]) k
theorem Fc{c:Operand}{x y:Code}{b:Bool}{R:Type}{A B r:R}(h:(if b=true then A else B)=r)(hc:a.eval c= .bool b)(ht:b=true->A=r->Wq P x Q a w)(hf:b=false->B=r->Wq P y Q a w):Wq P (Code.cond c x y) Q a w:=
 ZN hc (λhb=>ht hb (ZH h hb)) (λhb=>hf hb (ZI h hb))
end
end Go.Proofs.YthlielagemkjcaaGreatDoor
