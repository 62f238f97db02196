/- More rules for slices that are owned: parts of them,clearing,parameters that a callee turns. No statement here. -/
import Derived.Test.YthlielagemkjcaaGreatDoorLib
namespace Go.Proofs.YthlielagemkjcaaGreatDoor
open Go
section
variable {P:Program}{ops:Array Oper}{Q:Exit->Act->World->Prop}{rest:List Oper}
variable {w0:World}{X:List Nat}{φ:View}{L:List LEnt}{K:List (Nat×Value)}{n:Nat}{a:Act}{w:World}
variable {d:Nat}{ty:TypeId}{pos:String}{after:Array Edge}
theorem Yc{v:Value}{l:List Value}(h:v.oneCell'=true)(k:l.all (·.oneCell')=true):(v::l).all (·.oneCell')=true:=by simp only[List.all_cons,h,k,Bool.and_self]
def SS(k:Nat)(v:Value)(l h:Nat)(u:Value):Prop:=
 ∃ao m cap,v= .slice ao m cap/\u= .slice (if cap=l then ao else ao.map (·.add (l*k))) (h-l) (cap-l)/\l<=h/\h<=m/\m<=cap
theorem SS.len{k l h:Nat}{v u:Value}(hu:SS k v l h u):Jc u (h-l):=by
 obtain⟨ao,m,cap,_,rfl,_⟩:=hu;exact⟨_,_,rfl⟩
theorem subLen{k:Nat}{v u:Value}{lo hi:Int}(hu:SS k v lo.toNat hi.toNat u):Jc u (hi.toNat-lo.toNat):=hu.len
theorem SC{b T k m:Nat}{v:Value}{cs:List Value}(h:w.ownsRow b T k v m cs):∃ao cap,v= .slice ao m cap/\m<=cap:=by
 rcases h.2 with ⟨rfl,rfl⟩|⟨g,cap,cur,rfl,_,_,h3,_⟩
 ·exact⟨none,0,rfl,bU _⟩
 ·exact⟨_,cap,rfl,h3⟩
section subs
variable {T el TE:TypeId}{x y y':Operand}{v:Value}{i k m by_:Nat}{zl zh:Int}{k1 k2:IntKind}{cs:List Value}
variable (h:SlT P T el k by_)(S:Sx w0 X φ L K n a w)(hi:L[i]? =some (.own v TE k m cs))(hx:a.eval x=v)
include h S hi hx
theorem rn_sub2(hy:a.eval y= .int k1 zl)(hy':a.eval y'= .int k2 zh)(hc:Tv zl zh m=true):
 ∃u,SS k v zl.toNat zh.toNat u/\∀w,Rn P a w (.slice T x (some y) (some y') none) ty u:=by
 obtain⟨ao,cap,rfl,h3⟩:=SC (S.own_at hi);obtain⟨c1,c2,c3⟩:=Lc.1 hc;obtain⟨l,rfl⟩:=Int.eq_ofNat_of_zero_le c1;obtain⟨hh,rfl⟩:=Int.eq_ofNat_of_zero_le (Int.le_trans c1 c2);refine⟨_,⟨ao,m,cap,rfl,rfl,by omega,by omega,h3⟩,?_⟩;intro w dd p e g;have h6:hh<=cap:=by omega
 have hlh:l<=hh:=by omega
 simp[execOp,hx,hy,hy',Instr.sliceAt,run_underlying h.under,Instr.slice,Instr.sliceBounds,Instr.sliceBound,asIntOf,h6,hlh,h.size]
theorem Amy(hy:a.eval y= .int k1 zl)(hc:Tv zl (m:Int) m=true):
 ∃u,SS k v zl.toNat (m:Int).toNat u/\∀w,Rn P a w (.slice T x (some y) none none) ty u:=by
 obtain⟨ao,cap,rfl,h3⟩:=SC (S.own_at hi);obtain⟨c1,c2,c3⟩:=Lc.1 hc;obtain⟨l,rfl⟩:=Int.eq_ofNat_of_zero_le c1;refine⟨_,⟨ao,m,cap,rfl,rfl,by omega,by omega,h3⟩,?_⟩;intro w dd p e g;have hlh:l<=m:=by omega
 simp[execOp,hx,hy,Instr.sliceAt,run_underlying h.under,Instr.slice,Instr.sliceBounds,Instr.sliceBound,asIntOf,hlh,h.size]
theorem rn_subh(hy':a.eval y'= .int k2 zh)(hc:Tv 0 zh m=true):
 ∃u,SS k v (0:Int).toNat zh.toNat u/\∀w,Rn P a w (.slice T x none (some y') none) ty u:=by
 obtain⟨ao,cap,rfl,h3⟩:=SC (S.own_at hi);obtain⟨c1,c2,c3⟩:=Lc.1 hc;obtain⟨hh,rfl⟩:=Int.eq_ofNat_of_zero_le (Int.le_trans c1 c2);refine⟨_,⟨ao,m,cap,rfl,rfl,by simp,by omega,h3⟩,?_⟩;intro w dd p e g;have h6:hh<=cap:=by omega
 simp[execOp,hx,hy',Instr.sliceAt,run_underlying h.under,Instr.slice,Instr.sliceBounds,Instr.sliceBound,asIntOf,h6,h.size]
end subs
section typed
variable {α:Type}{enc:α->List Value}{k:Nat}
theorem Acv{xs:List α}{j:Nat}(hE:Enc k enc)(h:j<=xs.length):(xs.take j).flatMap enc=(xs.flatMap enc).take (j*k):=by
 have hA:((xs.take j).flatMap enc).length=j*k:=by rw[hE.flat,List.length_take,Nat.min_eq_left h]
 have hB:xs.flatMap enc=(xs.take j).flatMap enc++(xs.drop j).flatMap enc:=by rw[←List.flatMap_append,List.take_append_drop]
 have hC:=congrArg (List.take (j*k)) hB;rw[hC,←hA];exact List.take_left.symm
theorem Apv{xs:List α}{j:Nat}(hE:Enc k enc)(h:j<=xs.length):(xs.drop j).flatMap enc=(xs.flatMap enc).drop (j*k):=by
 have hA:((xs.take j).flatMap enc).length=j*k:=by rw[hE.flat,List.length_take,Nat.min_eq_left h]
 have hB:xs.flatMap enc=(xs.take j).flatMap enc++(xs.drop j).flatMap enc:=by rw[←List.flatMap_append,List.take_append_drop]
 have hC:=congrArg (List.drop (j*k)) hB;rw[hC,←hA];exact List.drop_left.symm
theorem Sx.ownCut{i T:Nat}{v u:Value}{xs:List α}{zh:Int}(hE:Enc k enc)(S:Sx w0 X φ L K n a w)(hi:L[i]? =some (.own v T k xs.length (xs.flatMap enc)))(hu:SS k v (0:Int).toNat zh.toNat u):
 Sx w0 X φ (L.set i (.own u T k (cut xs 0 zh).length ((cut xs 0 zh).flatMap enc))) K n a w/\∀c,u.ownBlock=some c->v.ownBlock=some c:=by
 obtain⟨ao,m,cap,rfl,rfl,_,h2,h3⟩:=hu;have hw:=S.own_at hi;have hm:m=xs.length:=by
  obtain⟨ao',cap',he,_⟩:=SC hw
  cases he;rfl
 subst hm;have hl:(cut xs 0 zh).length=zh.toNat:=by simp[cut];omega
 have hz:(0:Int).toNat=0:=rfl;have hao:(if cap=0 then ao else ao.map (·.add (0*k)))=ao:=by
  split
  ·rfl
  ·cases ao with
   |none=>rfl
   |some ad=>cases ad;rename_i b o sp;cases sp<;>simp[Addr.add]
 rw[hz,hao];refine⟨S.change hi (Keep.refl [] w) (λ_ h=>by cases h) ⟨hE.flat _,?_⟩ (λc hc=>.inl ?_),?_⟩
 ·rcases hw.2 with ⟨he,h0⟩|⟨g,cap',cur,he,h4,h5,h6,h7,h8,h9⟩
  ·injection he with e1 e2 e3
   subst e1 e3;left;rw[hl];have h0':zh.toNat=0:=by omega
   exact⟨by rw[h0'],h0'⟩
  ·cases he
   right;refine⟨g,cap,cur,by rw[hl];rfl,h4,h5,by rw[hl];omega,h7,h8,?_⟩;rw[hl];have hc:cut xs 0 zh=xs.take zh.toNat:=by simp[cut]
   have h10:=Acv hE h2;rw[hc,h10,←h9,List.take_take]
   congr 1
   exact(Nat.min_eq_left (Nat.mul_le_mul_right _ h2)).symm
 ·cases ao with
  |none=>exact hc
  |some ad=>exact hc
 ·intro c hc
  cases ao with
  |none=>exact hc
  |some ad=>exact hc
theorem SS.block{k:Nat}{zh:Int}{v u:Value}(hu:SS k v (0:Int).toNat zh.toNat u):u.ownBlock=v.ownBlock:=by
 obtain⟨ao,m,cap,rfl,rfl,_,h2,h3⟩:=hu;have hz:(0:Int).toNat=0:=rfl;rw[hz]
 split
 ·cases ao<;>rfl
 ·cases ao with
  |none=>rfl
  |some ad=>cases ad;rename_i b o sp;cases sp<;>simp[Addr.add,Value.ownBlock]
theorem ZT{z:Array Value}{cs:List Value}(hz:z.toList=cs)(hk:cs.length=k)(_:0<k)(m:Nat):(Builtin.zeroCells z m).toList=(List.replicate m cs).flatten:=by
 have hs:z.size=k:=by rw[←hk,←hz];simp
 unfold Builtin.zeroCells;rw[hs]
 induction m with
 |zero=>simp
 |succ m ih=>
  rw[List.replicate_succ',List.flatten_append,←ih];simp only[Array.toList_map,Array.toList_range,Nat.succ_mul,List.range_add,List.map_append,List.map_map,List.flatten_cons,List.flatten_nil,List.append_nil]
  congr 1
  apply List.ext_getElem
  ·simp[hk]
  ·intro j h1 h2;have hj:j<k:=by simpa using h1
   simp only[List.getElem_map,List.getElem_range,Function.comp];have hm:(m*k+j) % k=j:=by rw[Nat.add_comm,Nat.add_mul_mod_self_right,Nat.mod_eq_of_lt hj]
   rw[hm,getElem!_pos z j aA];subst hz;simp
theorem set_get{β:Type}{l:List β}{i:Nat}{e:β}(h:l[i]? =some e):l.set i e=l:=by
 obtain⟨h1,h2⟩:=List.getElem?_eq_some_iff.1 h;subst h2;exact List.set_getElem_self h1
theorem Akt{t T:TypeId}(ht:P.underlying t=some (.slice T))(ao:Option Addr)(c:Nat):(Builtin.clear_ #[t] ty #[.slice ao 0 c]).run P w= .ok (.tuple #[]) w:=by
 unfold Builtin.clear_
 cases ao<;>simp[run_underlying ht]
theorem Aku{t T:TypeId}{zv:Value}(ht:P.underlying t=some (.slice T))(hz:∀w,(zeroValue T).run P w= .ok zv w)(b off m c:Nat){w':World}
 (hs:(storeCells ⟨b,off,none⟩ (Builtin.zeroCells zv.cells (m+1)).toList).run P w= .ok () w'):(Builtin.clear_ #[t] ty #[.slice (some ⟨b,off,none⟩) (m+1) c]).run P w= .ok (.tuple #[]) w':=by
 unfold Builtin.clear_;simp[run_underlying ht,hz,hs]
theorem l_clear{t TE T by_ i:Nat}{x:Operand}{v u:Value}{xs:List α}{zl zh:Int}{z:α}{zv:Value}(h:SlT P t T k by_)(hk0:Nat.blt 0 k=true)(hE:Enc k enc)(S:Sx w0 X φ L K n a w)(hi:L[i]? =some (.own v TE k xs.length (xs.flatMap enc)))(hu:SS k v zl.toNat zh.toNat u)
 (hx:a.eval x=u) (hz:∀w,(zeroValue T).run P w= .ok zv w) (hzc:zv.cells.toList=enc z)
 (kont:∀w',Keep v.ownBlock.toList w w'->Sx w0 X φ (L.set i (.own v TE k (clr xs zl zh z).length ((clr xs zl zh z).flatMap enc))) K n a w'->wpList P ops Q rest a w'):
 wpList P ops Q ({dst:=none,op:=.call {callee:=.builtin .clear,args:=#[x],argTypes:=#[t]},type:=ty,pos,after,guard:=none}::rest) a w:=by
 obtain⟨ao,m,cap,rfl,rfl,h1,h2,h3⟩:=hu;have hw:=S.own_at hi;have hm:m=xs.length:=by
  obtain⟨ao',cap',he,_⟩:=SC hw
  cases he;rfl
 subst hm;have hk0':0<k:=by simpa using hk0
 have hclr:clr xs zl zh z=xs.take zl.toNat++List.replicate (zh.toNat-zl.toNat) z++xs.drop zh.toNat:=rfl;generalize zl.toNat=l at h1 hx hclr;generalize zh.toNat=hh at h1 h2 hx hclr
 by_cases hlh:l=hh
 ·subst hlh;have hcl:clr xs zl zh z=xs:=by rw[hclr];simp
  rw[hcl] at kont;rw[Nat.sub_self] at hx;rw[set_get hi] at kont;refine QK (v:=.tuple #[]) (w':=w) ?_ (kont w (Keep.refl _ _) S);simp only[execOp,resolve,invoke,builtin,Sem.run_bind,Sem.run_pure,Result.andThen_ok,List.map_toArray,aY,List.map_nil,hx,Akt h.under]
 ·obtain⟨g,cap',cur,he,hg,h5,h6,h7,h8⟩:=MM hw aA
  cases he
  obtain⟨q,hq⟩:∃q,hh-l=q+1:=⟨hh-l-1,by omega⟩;rw[aP aA,hq,Option.map_some,BP,Nat.zero_add] at hx;have hmk:xs.length*k<=cap*k:=Nat.mul_le_mul_right _ h3;have hcl:cur.toList.length=cap*k:=by simpa using h7
  have hzl:(Builtin.zeroCells zv.cells (q+1)).toList=(List.replicate (q+1) (enc z)).flatten:=ZT hzc (hE.len z) hk0' _;have hvl:(List.replicate (q+1) (enc z)).flatten.length=(q+1)*k:=by
   have:=hE.flat (List.replicate (q+1) z);simpa[List.flatMap,List.map_replicate] using this
  have hlk:l*k+(q+1)*k=hh*k:=by rw[←Nat.add_mul];congr 1;omega
  have hhk:hh*k<=xs.length*k:=Nat.mul_le_mul_right _ h2;have hb:w.heap[g]? =some (.cells cur.toList.toArray TE (0,0)):=by rw[hg]
  have hst:=run_storeCells_at P g (l*k) TE (List.replicate (q+1) (enc z)).flatten 0 cur.toList.toArray w hb (by simp only[List.size_toArray,hvl,hcl];omega) (λu hu=>by
   obtain⟨r,hr,hu'⟩:=List.mem_flatten.1 hu;exact hE.one z u (by rw[←(List.mem_replicate.1 hr).2];exact hu'))
  rw[←hzl] at hst;simp only[Nat.add_zero] at hst;have hfl:(clr xs zl zh z).flatMap enc=lay (xs.flatMap enc) (l*k) (List.replicate (q+1) (enc z)).flatten:=by
   unfold lay;rw[hvl,hlk,←Acv hE aA,←Apv hE h2,hclr,hq,List.flatMap_append,List.flatMap_append]
   congr 2
   rw[List.flatMap,List.map_replicate]
  have hlen:(clr xs zl zh z).length=xs.length:=by
   rw[hclr];simp;omega
  have hrun:(storeCells ⟨g,l*k,none⟩ (Builtin.zeroCells zv.cells (q+1)).toList).run P w= .ok () (w.setRow g (lay cur.toList (l*k) (List.replicate (q+1) (enc z)).flatten).toArray):=by
   rw[hst,hzl];simp[lay]
  refine QK (v:=.tuple #[]) (w':=w.setRow g (lay cur.toList (l*k) (List.replicate (q+1) (enc z)).flatten).toArray) ?_ ?_
  ·simp only[execOp,resolve,invoke,builtin,Sem.run_bind,Sem.run_pure,Result.andThen_ok,List.map_toArray,aY,List.map_nil,hx,Aku h.under hz _ _ _ _ hrun]
  refine kont _ (BO w g _) (S.change (e':=.own (.slice (some ⟨g,0,none⟩) xs.length cap) TE k (clr xs zl zh z).length ((clr xs zl zh z).flatMap enc)) hi (BO w g _) (by simp[LEnt.fp,Value.ownBlock]) ?_ (λc hc=>.inl hc));refine⟨hE.flat _,.inr ⟨g,cap,(lay cur.toList (l*k) (List.replicate (q+1) (enc z)).flatten).toArray,by rw[hlen],Nat.zero_le _,setRow_heap w g _ _ _ _ hg,by rw[hlen];exact h3,h6,?_,?_⟩⟩
  ·simp only[lay,List.size_toArray,aU,List.length_take,List.length_drop,hvl,hcl];omega
  ·rw[hlen,List.toList_toArray,Ahd (by rw[hvl];omega) aA,h8,hfl]
theorem YS[Inhabited α]{xs:List α}{l h e:Int}(h2:h.toNat<=xs.length)(hc:inB e (h.toNat-l.toNat)=true):xs[l.toNat+e.toNat]? =some (nth (cut xs l h) e)/\e=(e.toNat:Int):=by
 obtain⟨c1,c2⟩:=Fy.1 hc;have h3:l.toNat+e.toNat<xs.length:=by omega
 refine⟨?_,by omega⟩;have h4:(cut xs l h)[e.toNat]? =xs[l.toNat+e.toNat]?:=by
  unfold cut;rw[List.getElem?_drop,List.getElem?_take,aQ aA]
 rw[nth,List.getD,h4,List.getElem?_eq_getElem h3];rfl
theorem ZU{i T:Nat}{v u:Value}{xs:List α}{l h:Nat}(S:Sx w0 X φ L K n a w)(hi:L[i]? =some (.own v T k xs.length (xs.flatMap enc)))(hu:SS k v l h u):h<=xs.length:=by
 obtain⟨ao,m,cap,rfl,_,_,h2,_⟩:=hu;obtain⟨ao',cap',he,_⟩:=SC (S.own_at hi)
 cases he
 exact h2
theorem LI{T TE el by_ i:Nat}{x y:Operand}{v u:Value}{xs:List α}{zl zh z:Int}{kk:IntKind}(h:SlT P T el k by_)(_:Enc k enc)(S:Sx w0 X φ L K n a w)(hi:L[i]? =some (.own v TE k xs.length (xs.flatMap enc)))(hu:SS k v zl.toNat zh.toNat u)
 (hc:inB z (zh.toNat-zl.toNat)=true) (hx:a.eval x=u) (hy:a.eval y= .int kk z):∃g,v.ownBlock=some g/\∀w,Rn P a w (.indexAddr T x y) ty (.pointer (some ⟨g,(zl.toNat+z.toNat)*k,none⟩)):=by
 have hle:=ZU S hi hu;obtain⟨c1,c2⟩:=Fy.1 hc;obtain⟨ao,m,cap,rfl,rfl,h1,h2,h3⟩:=hu;obtain⟨g,cap',cur,he,hg,h5,h6,h7,h8⟩:=MM (S.own_at hi) aA
 cases he
 refine⟨g,rfl,?_⟩;intro w' dd p e gg;obtain⟨j,rfl⟩:=Int.eq_ofNat_of_zero_le c1;have hj:j<zh.toNat-zl.toNat:=by omega
 rw[aP aA,Option.map_some,BP,Nat.zero_add] at hx;have he:zl.toNat*k+j*k=(zl.toNat+j)*k:=(Nat.add_mul _ _ _).symm;simp[execOp,hx,hy,Instr.indexAt,asIntOf,run_underlying h.under,hj,h.size,BP,he]
theorem Amz{e:LEnt}:fps [e]=e.fp.toList:=by
 cases h:e.fp<;>simp[fps,h]
theorem Jj(e:LEnt):(fps [e]).Nodup:=by
 rw[Amz];cases e.fp<;>simp
theorem Le(e:LEnt):∀b∈fps [e],b∈e.fp.toList:=λb h=>by rwa [Amz] at h
end typed
theorem ET{op:Op}{f:FuncId}{vs:Array Value}{Φ:View->Value->World->Prop}(i:Nat){e:LEnt}(S:Sx w0 X φ L K n a w)(hi:L[i]? =some e)(e':Value->LEnt)
 (hr:∀dst,(execOp a.eval {dst,op,type:=ty,pos,after,guard:=none}).run P w= .ok (.enter f vs) w) (hc:Calls P f vs w (Ret w e.fp.toList Φ)) (hd:Nat.blt d n=true)
 (he:∀τ v w',Φ τ v w'->(e' v).holds w'/\∀c,(e' v).fp=some c->e.fp=some c)
 (k:∀v a' w',Φ (newer w w') v w'->Keep e.fp.toList w w'->New w φ L->Sx w0 X φ (L.set i (e' v)) ((d,v)::K) n a' w'->wpList P ops Q rest a' w'):
 wpList P ops Q ({dst:=some d,op,type:=ty,pos,after,guard:=none}::rest) a w:=by
 refine wpList_plain rfl λK' hK=>?_;unfold Oper.wp;rw[hr,Oper.upon_enter];refine hc.mono ?_;rintro x w' ⟨v,rfl,hk,hΦ⟩;obtain⟨h1,h2⟩:=he _ _ _ hΦ;refine hK _ _ (k v _ w' hΦ hk S.new ((S.change hi hk (λy hy=>by simpa using hy) h1 (λc hc=>.inl (h2 c hc))).put (by simpa using hd)))
end
def Grp(w w':World)(X:List Nat)(Ls:List LEnt):Prop:=(∀e∈Ls,e.holds w')/\(fps Ls).Nodup/\∀b∈fps Ls,b∈X\/w.heap.size<=b
theorem Vv(e:LEnt)(L:List LEnt):fps (e::L)=e.fp.toList++fps L:=by
 cases h:e.fp<;>simp[fps,h]
theorem pick_all(L:List LEnt):(List.range L.length).filterMap (L[·]?)=L:=by
 induction L with
 |nil=>rfl
 |cons e L ih=>
  rw[aT,List.range_succ_eq_map,List.filterMap_cons];simp only[List.getElem?_cons_zero,List.filterMap_map]
  congr 1
section
variable {P:Program}{ops:Array Oper}{Q:Exit->Act->World->Prop}{rest:List Oper}
variable {w0:World}{X:List Nat}{φ:View}{L:List LEnt}{K:List (Nat×Value)}{n:Nat}{a:Act}{w:World}
variable {d:Nat}{ty:TypeId}{pos:String}{after:Array Edge}
theorem Sx.permL{L':List LEnt}(S:Sx w0 X φ L K n a w)(hp:L'.Perm L):Sx w0 X φ L' K n a w:=
 {S with
  holds:=λe he=>S.holds e (hp.subset he)
  nodup:=(hp.filterMap LEnt.fp).nodup_iff.2 S.nodup
  sep:=λb hb=>S.sep b ((hp.filterMap LEnt.fp).subset hb)}
theorem Sx.pk{Ls Lr:List LEnt}(S:Sx w0 X φ L K n a w)(is js:List Nat)(hp:(is++js).isPerm (List.range L.length)=true)(hA:is.filterMap (L[·]?)=Ls)(hB:js.filterMap (L[·]?)=Lr):Sx w0 X φ (Ls++Lr) K n a w:=by
 refine S.permL ?_;have h:=(List.isPerm_iff.1 hp).filterMap (L[·]?);rw[pick_all,List.filterMap_append,hA,hB] at h;exact h
theorem Sx.grp{Ls Lr:List LEnt}(S:Sx w0 X φ L K n a w)(is js:List Nat)(hp:(is++js).isPerm (List.range L.length)=true)(hA:is.filterMap (L[·]?)=Ls)(hB:js.filterMap (L[·]?)=Lr):Grp w0 w X Ls:=by
 have S':=(S.pk is js hp hA hB).drop (List.sublist_append_left _ _);exact⟨S'.holds,S'.nodup,λb hb=>(S'.sep b hb).2.1.symm⟩
theorem Acw{β:Type}(zs:List β)(hk:0<zs.length):∀n:Nat,(List.range (n*zs.length)).map (λi=>zs[i % zs.length]'(Nat.mod_lt _ hk))=(List.replicate n zs).flatten
 |0=>by simp
 |n+1=>by
  rw[Nat.add_mul,Nat.one_mul,Nat.add_comm,List.range_add,List.map_append,List.replicate_succ,List.flatten_cons,←Acw zs hk n]
  congr 1
  ·apply List.ext_getElem
   ·simp
   ·intro i h1 h2
    simp only[List.getElem_map,List.getElem_range]
    have:i % zs.length=i:=Nat.mod_eq_of_lt (by simpa using h2)
    simp only[this]
  ·rw[List.map_map]
   refine List.map_congr_left λi _=>?_
   simp only[Function.comp,Nat.add_mod_left]
theorem mk_lo{n:Int}(h:(decide (0<=n) && decide (n<1073741824))=true):0<=n:=by simp at h;omega
theorem mk_hi{n:Int}(h:(decide (0<=n) && decide (n<1073741824))=true):n<1073741824:=by simp at h;omega
theorem l_make{α:Type}{enc:α->List Value}{T el k by_:Nat}{x:Operand}{m:Int}{Z:α}(S:Sx w0 X φ L K n a w)(hT:SlT P T el k by_)(hE:Enc k enc)(hz:(P.info? el).map (λi=>i.zero.map λz=>z.cells.toList)=some (some (enc Z)))(hb:Nat.ble by_ 65536=true)(hk:Nat.blt 0 k=true)
 (hx:a.eval x= .int .i64 m) (h0:0<=m) (h1:m<1073741824) (hd:Nat.blt d n=true)
 (kk:∀a' w' b,b=w.heap.size->Keep [] w w'->Sx w0 X φ (.own (.slice (some ⟨b,0,none⟩) m.toNat m.toNat) el k (List.replicate m.toNat Z).length ((List.replicate m.toNat Z).flatMap enc)::L) ((d,.slice (some ⟨b,0,none⟩) m.toNat m.toNat)::K) n a' w'->wpList P ops Q rest a' w'):
 wpList P ops Q ({dst:=some d,op:=.makeSlice T x x,type:=ty,pos,after,guard:=none}::rest) a w:=by
 obtain⟨hu,hs,inf,z,hi,hiz,hsz,hby,hzs⟩:=hT;have hzl:z.cells.toList=enc Z:=by rw[hi] at hz;simpa[hiz] using hz
 have hb':by_<=65536:=by simpa using hb
 have hk':0<k:=by simpa using hk
 have hbytes:(inf.bytes:Int)*m<=281474976710656:=by
  rw[hby];have:(by_:Int)*m<=65536*1073741824:=Int.mul_le_mul aA aA h0 aA;omega
 have hr:=run_make (P:=P) w T el inf z hu hi hiz .i64 .i64 m m h0 (Int.le_refl _) hbytes aA;rw[hsz] at hr;have hlist:(List.replicate m.toNat Z).flatMap enc=(List.replicate m.toNat z.cells.toList).flatten:=by
  rw[hzl,List.flatMap_replicate]
 have hcells:madeCells z.cells (m.toNat*k)=((List.replicate m.toNat Z).flatMap enc).toArray:=by
  have hl:z.cells.toList.length=k:=by simpa using hzs
  rw[hlist,←Acw z.cells.toList aA m.toNat,show m.toNat*k=m.toNat*z.cells.toList.length by rw[hl]];apply Array.ext';unfold madeCells;simp only[Array.toList_map,Array.toList_range];refine List.map_congr_left λi _=>?_;have hlt:i % z.cells.size<z.cells.size:=Nat.mod_lt _ aA;rw[getElem!_pos z.cells (i % z.cells.size) hlt];simp only[Array.getElem_toList,Array.length_toList]
 refine QK (v:=.slice (some ⟨w.heap.size,0,none⟩) m.toNat m.toNat) (w':=w.alloc (.cells ((List.replicate m.toNat Z).flatMap enc).toArray el)) ?_ ?_
 ·have he:execOp a.eval {dst:=some d,op:=.makeSlice T x x,type:=ty,pos,after,guard:=none}=(do pure (.value (←Instr.makeSlice T (a.eval x) (a.eval x)))):=rfl;rw[he,hx,Sem.run_bind,hr,hcells];rfl
 ·refine kk _ _ w.heap.size rfl (Rq w _) (((S.more (e:=.own (.slice (some ⟨w.heap.size,0,none⟩) m.toNat m.toNat) el k (List.replicate m.toNat Z).length ((List.replicate m.toNat Z).flatMap enc)) (Rq w _) ?_ ?_)).put (by simpa using hd))
  ·have hlen:((List.replicate m.toNat Z).flatMap enc).length=(List.replicate m.toNat Z).length*k:=hE.flat _;refine⟨hlen,.inr ⟨w.heap.size,m.toNat,((List.replicate m.toNat Z).flatMap enc).toArray,by rw[List.length_replicate],Nat.zero_le _,?_,by rw[List.length_replicate];exact bU _,by simp[maxLen];omega,by simpa using hlen,?_⟩⟩
   ·show (w.alloc _).heap[w.heap.size]? =_;rw[heap_alloc_new]
   ·rw[←hlen];exact List.take_of_length_le (bU _)
  ·intro b hb;cases hb;exact bU _
end
end Go.Proofs.YthlielagemkjcaaGreatDoor
