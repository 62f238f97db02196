/- More rules for slices that are owned: parts of them,clearing,parameters that a callee turns. No statement of the seat is proved here. -/
import Derived.Test.YtconmpkpdfidiaaGreatDoorLib
namespace Go.Proofs.YtconmpkpdfidiaaGreatDoor
open Go
section
variable {P:Program}{ops:Array Oper}{Q:Exit->Act->World->Prop}{rest:List Oper}
variable {w0:World}{X:List Nat}{φ:View}{L:List LEnt}{K:List (Nat×Value)}{n:Nat}{a:Act}{w:World}
variable {d:Nat}{ty:TypeId}{pos:String}{after:Array Edge}
theorem Rf{v:Value}{l:List Value}(h:v.oneCell'=true)(k:l.all (·.oneCell')=true):(v::l).all (·.oneCell')=true:=by simp only[List.all_cons,h,k,Bool.and_self]
def TS(k:Nat)(v:Value)(l h:Nat)(u:Value):Prop:=
 ∃ao m cap,v= .slice ao m cap/\u= .slice (if cap=l then ao else ao.map (·.add (l*k))) (h-l) (cap-l)/\l<=h/\h<=m/\m<=cap
theorem TS.len{k l h:Nat}{v u:Value}(hu:TS k v l h u):Ir u (h-l):=by
 obtain⟨ao,m,cap,_,rfl,_⟩:=hu;exact⟨_,_,rfl⟩
theorem subLen{k:Nat}{v u:Value}{lo hi:Int}(hu:TS k v lo.toNat hi.toNat u):Ir u (hi.toNat-lo.toNat):=hu.len
theorem XN{b T k m:Nat}{v:Value}{cs:List Value}(h:w.ownsRow b T k v m cs):∃ao cap,v= .slice ao m cap/\m<=cap:=by
 rcases h.2 with ⟨rfl,rfl⟩|⟨g,cap,cur,rfl,_,_,h3,_⟩
 ·exact⟨none,0,rfl,bU _⟩
 ·exact⟨_,cap,rfl,h3⟩
section subs
variable {T el TE:TypeId}{x y y':Operand}{v:Value}{i k m by_:Nat}{zl zh:Int}{k1 k2:IntKind}{cs:List Value}
variable (h:SlT P T el k by_)(S:Sx w0 X φ L K n a w)(hi:L[i]? =some (.own v TE k m cs))(hx:a.eval x=v)
include h S hi hx
theorem rn_sub2(hy:a.eval y= .int k1 zl)(hy':a.eval y'= .int k2 zh)(hc:DO zl zh m=true):
 ∃u,TS k v zl.toNat zh.toNat u/\∀w,Rn P a w (.slice T x (some y) (some y') none) ty u:=by
 obtain⟨ao,cap,rfl,h3⟩:=XN (S.own_at hi);obtain⟨c1,c2,c3⟩:=Wp.1 hc;obtain⟨l,rfl⟩:=Int.eq_ofNat_of_zero_le c1;obtain⟨hh,rfl⟩:=Int.eq_ofNat_of_zero_le (Int.le_trans c1 c2);refine⟨_,⟨ao,m,cap,rfl,rfl,by omega,by omega,h3⟩,?_⟩;intro w dd p e g;have h6:hh<=cap:=by omega
 have hlh:l<=hh:=by omega
 simp[execOp,hx,hy,hy',Instr.sliceAt,run_underlying h.under,Instr.slice,Instr.sliceBounds,Instr.sliceBound,asIntOf,h6,hlh,h.size]
end subs
section typed
variable {α:Type}{enc:α->List Value}{k:Nat}
theorem TS.block{k:Nat}{zh:Int}{v u:Value}(hu:TS k v (0:Int).toNat zh.toNat u):u.ownBlock=v.ownBlock:=by
 obtain⟨ao,m,cap,rfl,rfl,_,h2,h3⟩:=hu;have hz:(0:Int).toNat=0:=rfl;rw[hz]
 split
 ·cases ao<;>rfl
 ·cases ao with
  |none=>rfl
  |some ad=>cases ad;rename_i b o sp;cases sp<;>simp[Addr.add,Value.ownBlock]
theorem sub_get[Inhabited α]{xs:List α}{l h e:Int}(h2:h.toNat<=xs.length)(hc:inB e (h.toNat-l.toNat)=true):xs[l.toNat+e.toNat]? =some (nth (cut xs l h) e)/\e=(e.toNat:Int):=by
 obtain⟨c1,c2⟩:=Ih.1 hc;have h3:l.toNat+e.toNat<xs.length:=by omega
 refine⟨?_,by omega⟩;have h4:(cut xs l h)[e.toNat]? =xs[l.toNat+e.toNat]?:=by
  unfold cut;rw[List.getElem?_drop,List.getElem?_take,aQ aA]
 rw[nth,List.getD,h4,List.getElem?_eq_getElem h3];rfl
theorem sub_le{i T:Nat}{v u:Value}{xs:List α}{l h:Nat}(S:Sx w0 X φ L K n a w)(hi:L[i]? =some (.own v T k xs.length (xs.flatMap enc)))(hu:TS k v l h u):h<=xs.length:=by
 obtain⟨ao,m,cap,rfl,_,_,h2,_⟩:=hu;obtain⟨ao',cap',he,_⟩:=XN (S.own_at hi)
 cases he
 exact h2
theorem TT{T TE el by_ i:Nat}{x y:Operand}{v u:Value}{xs:List α}{zl zh z:Int}{kk:IntKind}(h:SlT P T el k by_)(hE:Enc k enc)(S:Sx w0 X φ L K n a w)(hi:L[i]? =some (.own v TE k xs.length (xs.flatMap enc)))(hu:TS k v zl.toNat zh.toNat u)
 (hc:inB z (zh.toNat-zl.toNat)=true) (hx:a.eval x=u) (hy:a.eval y= .int kk z):∃g,v.ownBlock=some g/\∀w,Rn P a w (.indexAddr T x y) ty (.pointer (some ⟨g,(zl.toNat+z.toNat)*k,none⟩)):=by
 have hle:=sub_le S hi hu;obtain⟨c1,c2⟩:=Ih.1 hc;obtain⟨ao,m,cap,rfl,rfl,h1,h2,h3⟩:=hu;obtain⟨g,cap',cur,he,hg,h5,h6,h7,h8⟩:=FK (S.own_at hi) aA
 cases he
 refine⟨g,rfl,?_⟩;intro w' dd p e gg;obtain⟨j,rfl⟩:=Int.eq_ofNat_of_zero_le c1;have hj:j<zh.toNat-zl.toNat:=by omega
 rw[aP aA,Option.map_some,Yk,Nat.zero_add] at hx;have he:zl.toNat*k+j*k=(zl.toNat+j)*k:=(Nat.add_mul _ _ _).symm;simp[execOp,hx,hy,Instr.indexAt,asIntOf,run_underlying h.under,hj,h.size,Yk,he]
theorem XO{e:LEnt}:fps [e]=e.fp.toList:=by
 cases h:e.fp<;>simp[fps,h]
theorem Nu(e:LEnt):(fps [e]).Nodup:=by
 rw[XO];cases e.fp<;>simp
theorem Qb(e:LEnt):∀b∈fps [e],b∈e.fp.toList:=λb h=>by rwa [XO] at h
end typed
theorem Qw{op:Op}{f:FuncId}{vs:Array Value}{Φ:View->Value->World->Prop}(i:Nat){e:LEnt}(S:Sx w0 X φ L K n a w)(hi:L[i]? =some e)(e':Value->LEnt)
 (hr:∀dst,(execOp a.eval {dst,op,type:=ty,pos,after,guard:=none}).run P w= .ok (.enter f vs) w) (hc:Calls P f vs w (Ret w e.fp.toList Φ)) (hd:Nat.blt d n=true)
 (he:∀τ v w',Φ τ v w'->(e' v).holds w'/\∀c,(e' v).fp=some c->e.fp=some c)
 (k:∀v a' w',Φ (newer w w') v w'->Keep e.fp.toList w w'->New w φ L->Sx w0 X φ (L.set i (e' v)) ((d,v)::K) n a' w'->wpList P ops Q rest a' w'):
 wpList P ops Q ({dst:=some d,op,type:=ty,pos,after,guard:=none}::rest) a w:=by
 refine wpList_plain rfl λK' hK=>?_;unfold Oper.wp;rw[hr,Oper.upon_enter];refine hc.mono ?_;rintro x w' ⟨v,rfl,hk,hΦ⟩;obtain⟨h1,h2⟩:=he _ _ _ hΦ;refine hK _ _ (k v _ w' hΦ hk S.new ((S.change hi hk (λy hy=>by simpa using hy) h1 (λc hc=>.inl (h2 c hc))).put (by simpa using hd)))
end
def Grp(w w':World)(X:List Nat)(Ls:List LEnt):Prop:=(∀e∈Ls,e.holds w')/\(fps Ls).Nodup/\∀b∈fps Ls,b∈X\/w.heap.size<=b
theorem pick_all(L:List LEnt):(List.range L.length).filterMap (L[·]?)=L:=by
 induction L with
 |nil=>rfl
 |cons e L ih=>
  rw[aT,List.range_succ_eq_map,List.filterMap_cons];simp only[List.getElem?_cons_zero,List.filterMap_map]
  congr 1
section
variable {P:Program}{ops:Array Oper}{Q:Exit->Act->World->Prop}{rest:List Oper}
variable {w0:World}{X:List Nat}{φ:View}{L:List LEnt}{K:List (Nat×Value)}{n:Nat}{a:Act}{w:World}
variable {d:Nat}{ty:TypeId}{pos:String}{after:Array Edge}
theorem Sx.permL{L':List LEnt}(S:Sx w0 X φ L K n a w)(hp:L'.Perm L):Sx w0 X φ L' K n a w:=
 {S with
  holds:=λe he=>S.holds e (hp.subset he)
  nodup:=(hp.filterMap LEnt.fp).nodup_iff.2 S.nodup
  sep:=λb hb=>S.sep b ((hp.filterMap LEnt.fp).subset hb)}
theorem Sx.pk{Ls Lr:List LEnt}(S:Sx w0 X φ L K n a w)(is js:List Nat)(hp:(is++js).isPerm (List.range L.length)=true)(hA:is.filterMap (L[·]?)=Ls)(hB:js.filterMap (L[·]?)=Lr):Sx w0 X φ (Ls++Lr) K n a w:=by
 refine S.permL ?_;have h:=(List.isPerm_iff.1 hp).filterMap (L[·]?);rw[pick_all,List.filterMap_append,hA,hB] at h;exact h
theorem Sx.grp{Ls Lr:List LEnt}(S:Sx w0 X φ L K n a w)(is js:List Nat)(hp:(is++js).isPerm (List.range L.length)=true)(hA:is.filterMap (L[·]?)=Ls)(hB:js.filterMap (L[·]?)=Lr):Grp w0 w X Ls:=by
 have S':=(S.pk is js hp hA hB).drop (List.sublist_append_left _ _);exact⟨S'.holds,S'.nodup,λb hb=>(S'.sep b hb).2.1.symm⟩
end
end Go.Proofs.YtconmpkpdfidiaaGreatDoor
