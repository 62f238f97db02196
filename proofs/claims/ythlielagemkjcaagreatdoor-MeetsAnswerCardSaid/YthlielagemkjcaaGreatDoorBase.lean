/- Words that the plain twins of the Go functions use: Go's int arithmetic,the order of strings,joins,checks. No program stands here. -/
import GoSem.Core.View
import GoSem.Op.String
import Derived.Lib.Bytealg
import Derived.Lib.SlTrimSet
namespace Go.Proofs.YthlielagemkjcaaGreatDoor
open Go
theorem aA{p:Prop}(h:p:=by omega):p:=h
theorem aB{p:Prop}(h:p:=by simp):p:=h
theorem aC{p:Prop}(h:p:=by decide):p:=h
theorem aD{p:Prop}(h:p:=by simp;omega):p:=h
abbrev aG:= @Option.bind_some
abbrev aH:= @decide_eq_true
abbrev aI:= @decide_eq_false
abbrev aJ:= @decide_true
abbrev aK:= @decide_eq_true_eq
abbrev aL:= @decide_eq_false_iff_not
abbrev aM:= @List.mem_cons_of_mem
abbrev aN:= @List.mem_cons_self
abbrev aO:= @Bool.false_eq_true
abbrev aP:= @if_neg
abbrev aQ:= @if_pos
abbrev aR:= @if_false
abbrev aS:= @if_true
abbrev aT:= @List.length_cons
abbrev aU:= @List.length_append
abbrev aV:= @List.length_map
abbrev aW:= @List.length_nil
abbrev aX:= @List.length_singleton
abbrev aY:= @List.map_cons
abbrev aZ:= @List.nil_append
abbrev bA:= @List.mem_singleton
abbrev bB:= @List.mem_cons
abbrev bC:= @List.mem_append
abbrev bD:= @List.mem_map
abbrev bE:= @List.append_cons
abbrev bF:= @Nat.lt_succ_self
abbrev bG:= @Bool.eq_false_or_eq_true
abbrev bH:= @Option.some.inj
abbrev bI:= @Int.toNat_natCast
abbrev bJ:= @List.mem_map_of_mem
abbrev bK:= @List.pairwise_append
abbrev bL:= @List.cons.injEq
abbrev bM:= @List.not_mem_nil
abbrev bN:= @Bool.not_true
abbrev bO:= @Bool.true_and
abbrev bP:= @Bool.false_and
abbrev bQ:= @Bool.and_eq_true
abbrev bR:= @List.filter_cons_of_pos
abbrev bS:= @List.filter_cons_of_neg
abbrev bT:= @List.nodup_cons
abbrev bU:= @Nat.le_refl
def Py(k:IntKind)(x y:Int):Int:=x.fdiv (2 ^ (min y.toNat k.bits))
def W(n:Int):Int:=IntKind.i64.wrap n
theorem W_eq(n:Int):W n=if 9223372036854775808<=n % 18446744073709551616 then n % 18446744073709551616-18446744073709551616 else n % 18446744073709551616:=by
 simp[W,IntKind.wrap,IntKind.bits,IntKind.signed]
theorem Hl{n:Int}(h1: -9223372036854775808<=n)(h2:n<=9223372036854775807):W n=n:=by
 rw[W_eq]
 split<;>omega
def XL(s t:ByteArray):Bool:=Op.bytesLess s.toList t.toList
def Fq{κ R:Type}(K:κ)(f:κ->R):R:=f K
theorem LB{κ R:Type}{K:κ}{f:κ->R}{r:R}(h:Fq K f=r):∃j,j=K/\f j=r:=⟨K,rfl,h⟩
theorem Rw{α β:Type}{o:Option α}{f:α->Option β}{r:β}(h:Option.bind o f=some r):∃x,o=some x/\f x=some r:=by
 cases o with
 |none=>cases h
 |some x=>exact⟨x,rfl,h⟩
theorem ZH{R:Type}{b:Bool}{A B r:R}(h:(if b then A else B)=r)(hb:b=true):A=r:=by rw[if_pos hb] at h;exact h
theorem ZI{R:Type}{b:Bool}{A B r:R}(h:(if b then A else B)=r)(hb:b=false):B=r:=by rw[if_neg (by simp[hb])] at h;exact h
theorem neq_t{b:Bool}(h:b=true):(b==false)=false:=by subst h;rfl
theorem UL{b:Bool}(h:b=false):(b==true)=false:=by subst h;rfl
def Chk{R:Type}(c:Bool)(k:Option R):Option R:=if c then k else none
theorem On{R:Type}{c:Bool}{k:Option R}{r:R}(h:Chk c k=some r):c=true/\k=some r:=by
 unfold Chk at h
 cases c with
 |true=>exact⟨rfl,h⟩
 |false=>cases h
def inB(e:Int)(n:Nat):Bool:=decide (0<=e) && decide (e<n)
def nth{α:Type}[Inhabited α](l:List α)(e:Int):α:=l.getD e.toNat default
theorem Fy{e:Int}{n:Nat}:inB e n=true↔0<=e/\e<n:=by simp[inB]
theorem Gd{α:Type}[Inhabited α]{l:List α}{e:Int}(h:inB e l.length=true):l[e.toNat]? =some (nth l e)/\e=(e.toNat:Int):=by
 obtain⟨h1,h2⟩:=Fy.1 h;have h3:e.toNat<l.length:=by omega
 exact⟨by simp[nth,List.getD,List.getElem?_eq_getElem h3],by omega⟩
theorem CK{α:Type}{xs done ys:List α}{x:α}{i:Nat}(h:xs=done++x::ys)(hi:done.length=i):xs[i]? =some x:=by subst h hi;simp
theorem CL{n:Nat}(h:decide (n<1073741824)=true):n<1073741824:=by simpa using h
def Ja(n:Nat):Bool:=decide (n<1073741824)
def YF(m n:Int):Int:=if n>m then n else m
def Xp(m n:Int):Int:=if n<m then n else m
def LD(s:ByteArray)(e:Int):Int:=((s.data.toList.getD e.toNat 0).toNat:Int)
def Tv(l h:Int)(n:Nat):Bool:=decide (0<=l) && decide (l<=h) && decide (h<=n)
def cut{α:Type}(xs:List α)(l h:Int):List α:=(xs.take h.toNat).drop l.toNat
def clr{α:Type}(xs:List α)(l h:Int)(z:α):List α:=xs.take l.toNat++List.replicate (h.toNat-l.toNat) z++xs.drop h.toNat
def KY(s:ByteArray)(l h:Int):ByteArray:=s.extract l.toNat h.toNat
theorem Lc{l h:Int}{n:Nat}:Tv l h n=true↔0<=l/\l<=h/\h<=n:=by simp[Tv,and_assoc]
def Nc{α:Type}(c:α->α->Int)(l:List α):List α:=l.mergeSort λx y=>!decide (c y x<0)
def YL{α:Type}(c:α->α->Int)(l:List α):Prop:=
 (∀x,¬c x x<0)/\(∀x y z,c x y<0->c y z<0->c x z<0)/\(∀x y z,¬c x y<0->¬c y z<0->¬c x z<0)/\∀x∈l,∀y∈l,¬c x y<0->¬c y x<0->x=y
def HC{α:Type}[Inhabited α](c:α->α->Int)(l:List α):Prop:=
 (∀x∈default::l,¬c x x<0)/\(∀x∈default::l,∀y∈default::l,∀z∈default::l,c x y<0->c y z<0->c x z<0)/\(∀x∈default::l,∀y∈default::l,∀z∈default::l,¬c x y<0->¬c y z<0->¬c x z<0)/\∀x∈l,∀y∈l,¬c x y<0->¬c y x<0->x=y
section
variable {α σ R:Type}
noncomputable def AllP (m:List α) (F:List α->Option R):Option R:=open Classical in if h:∃r,∀p:List α,p.Perm m->F p=some r then some h.choose else none
theorem allE{m:List α}{F:List α->Option R}{r:R}(h:AllP m F=some r):∀p:List α,p.Perm m->F p=some r:=by
 unfold AllP at h
 split at h
 ·rename_i hx;obtain rfl:=Option.some.inj h;exact hx.choose_spec
 ·cases h
theorem Amr{m:List α}{F:List α->Option R}{r:R}(h:∀p:List α,p.Perm m->F p=some r):AllP m F=some r:=by
 have hx:∃r,∀p:List α,p.Perm m->F p=some r:=⟨r,h⟩;unfold AllP;rw[dif_pos hx];have h1:=hx.choose_spec m (List.Perm.refl _);rw[h m (List.Perm.refl _)] at h1;rw[←Option.some.inj h1]
theorem Aha{F:List α->Option R}{q:List α}{r:R}(h:∀p:List α,p.Perm q->F p=some r)(hq:q=[]):F []=some r:=h [] (by rw[hq])
theorem Abx{F:List α->Option R}{B:Option σ}{G:List α->σ->Option R}{q q':List α}{e:α}{r:R}(h:∀p:List α,p.Perm q->F p=some r)(hp:q.Perm (e::q'))(he:∀ys,F (e::ys)=Option.bind B (G ys)):
 ∃s,B=some s/\∀ys:List α,ys.Perm q'->G ys s=some r:=by
 have h1:∀ys:List α,ys.Perm q'->Option.bind B (G ys)=some r:=λys hy=>by rw[←he];exact h _ ((hy.cons e).trans hp.symm)
 obtain⟨s,hs,_⟩:=Rw (h1 q' (List.Perm.refl _));exact⟨s,hs,λys hy=>by have:=h1 ys hy;rw[hs] at this;exact this⟩
end
section
variable {κ ν:Type}[DecidableEq κ]
def Iv:List (κ×ν)->κ->ν->List (κ×ν)
 |[],k,v=>[(k,v)]
 |(k',v')::m,k,v=>if k=k' then(k,v)::m else(k',v')::Iv m k v
def Oo:List (κ×ν)->κ->Nat->Option (Nat×ν)
 |[],_,_=>none
 |(k',v')::m,k,i=>if k=k' then some (i,v') else Oo m k (i+1)
def Tw(m:List (κ×ν))(k:κ):Option ν:=(Oo m k 0).map (·.2)
def Gm(m:List (κ×ν))(k:κ)(d:ν):ν:=(Tw m k).getD d
def KZ:List (κ×ν)->κ->List (κ×ν)
 |[],_=>[]
 |(k',v)::m,k=>if k=k' then m else(k',v)::KZ m k
end
def FW(m:Nat):List Nat:=(List.range m).reverse
end Go.Proofs.YthlielagemkjcaaGreatDoor
