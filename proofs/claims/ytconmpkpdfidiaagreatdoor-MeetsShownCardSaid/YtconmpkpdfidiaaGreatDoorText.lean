/- Tables of the library,and strings.Builder. No statement of the seat is proved here. -/
import Derived.Test.YtconmpkpdfidiaaGreatDoorArena
import Derived.Lib.LaidTab
import Derived.Laws.BytesArg
import Derived.Shelf.Strings.BuilderF
import Derived.Shelf.Strings.BuilderK
import Derived.Shelf.Strings.BuilderX
import Derived.Sort.Grow
import Derived.Shelf.Strconv.Itoa3
import Derived.Shelf.Strconv.Atoi
import Derived.Shelf.Strings.Cut
import Derived.Shelf.Strings.Split
import Derived.Shelf.Strings.OnBuilder
import Derived.Shelf.Small.Wraps
import Derived.Shelf.Strings.Prefix
import Derived.Lib.SplitLaws
import Derived.Shelf.Strings.Repeat
import Derived.Shelf.Strings.Search3
import Derived.Lib.SmallJoins
namespace Go.Proofs.YtconmpkpdfidiaaGreatDoor
open Go Go.Shelf
def DV(φ:View)(g:Nat)(cs:List Value):Prop:=∃T fr,φ g=some (.cells cs.toArray T fr)
theorem DV.mono{φ ψ:View}{g:Nat}{cs:List Value}(h:DV φ g cs)(l:View.le φ ψ):DV ψ g cs:=by
 obtain⟨T,fr,e⟩:=h;exact⟨T,fr,l _ _ e⟩
def TZ(φ:View)(g:Nat):Prop:=∃(m:Int) (c:Array Value) (T:TypeId) (fr:Nat×Nat),φ g=some (.cells c T fr)/\c[0]? =some (.int .i64 m)
theorem TZ.mono{φ ψ:View}{g:Nat}(h:TZ φ g)(l:View.le φ ψ):TZ ψ g:=by
 obtain⟨m,c,T,fr,e,h0⟩:=h;exact⟨m,c,T,fr,l _ _ e,h0⟩
theorem UA{P:Program}{w:World}{g:Nat}{nm:String}{k:IntKind}{zs:List Int}(h:Lib.TabIs P w nm k zs)(hn:P.globalNamed nm=some g):DV (view w []) g (zs.map λz=>Value.int k z):=by
 unfold Lib.TabIs World.var? at h;rw[hn] at h;simp only[aG] at h
 cases hb:w.heap[g]? with
 |none=>rw[hb] at h;cases h
 |some o=>
  rw[hb] at h
  cases o with
  |cells c T fr=>
   simp only[Option.some.injEq] at h;exact⟨T,fr,by simp[view,hb,h]⟩
  |_=>cases h
def Ue:List Value:=Lib.pow10Tab.map λz=>Value.int .u64 z
theorem DV.cell{w:World}{g i:Nat}{cs:List Value}{v:Value}(h:DV (view w []) g cs)(hv:cs[i]? =some v):w.cell? ⟨g,i,none⟩=some v:=by
 obtain⟨T,fr,e⟩:=h;have e':w.heap[g]? =some (.cells cs.toArray T fr):=by simpa[view] using e
 simp[World.cell?,e',hv]
theorem DV.tab{P:Program}{w:World}{g:Nat}{nm:String}{k:IntKind}{zs:List Int}(h:DV (view w []) g (zs.map λz=>Value.int k z))(hn:P.globalNamed nm=some g):Lib.TabIs P w nm k zs:=by
 obtain⟨T,fr,e⟩:=h;have e':w.heap[g]? =some (.cells (zs.map λz=>Value.int k z).toArray T fr):=by simpa[view] using e
 simp[Lib.TabIs,World.var?,hn,e']
theorem UB{P:Program}{w:World}{f:FuncId}{args:Array Value}{v:Value}(h:Calls P f args w λe w'=>e= .returned v/\∃k os,w'=Go.Sort.grow (w.drewN k) os):Calls P f args w (Ret w [] λ_ v' _=>v'=v):=
 h.mono λ_ w' ⟨he,k,os,hw⟩=>⟨v,he,by subst hw;exact⟨rfl,rfl,rfl,by simp[Go.Sort.grow,World.drewN],λb hb _=>Go.Sort.heap_grow_old _ _ hb⟩,rfl⟩
theorem TZ.cell{w:World}{g:Nat}(h:TZ (view w []) g):∃m:Int,w.cell? ⟨g,0,none⟩=some (.int .i64 m):=by
 obtain⟨m,c,T,fr,e,h0⟩:=h;have e':w.heap[g]? =some (.cells c T fr):=by simpa[view] using e
 exact⟨m,by simp[World.cell?,e',h0]⟩
theorem join_ret{P:Program}{ρ:Ren}(L:Lays.n156 P ρ)(X:Builder.Extra P ρ)(v:Value)(xs:List ByteArray)(sep:ByteArray)(w:World)(hx:Slc (view w []) 1 v (xs.map Sh))(hN:xs.length<=140737488355328)(hlen:(Lib.join (xs.map (·.data.toList)) sep.data.toList).length<=140737488355328):
 Calls P (ρ.f 156) #[v,.string sep] w (Ret w [] λ_ u _=>u= .string ⟨(Lib.join (xs.map (·.data.toList)) sep.data.toList).toArray⟩):=by
 obtain⟨ao,cap,rfl,h2,h3,h4,h5⟩:=hx;rw[aV] at*
 cases xs with
 |nil=>exact FL (Any.strings_Join_none L X ao cap sep w)
 |cons x xs=>
  cases ao with
  |none=>
   have:=h4 rfl;simp at h2;omega
  |some ad=>
   obtain⟨h6,h7⟩:=h5 ad rfl;obtain⟨bk,o,sp⟩:=ad;simp only at h6;subst h6;have hcell:∀(j:Nat) y,(x::xs)[j]? =some y->w.cell? ⟨bk,o+j,none⟩=some (.string y)/\bk<w.heap.size:=λj y hj=>by
    obtain⟨_,c,T,fr,e1,e2⟩:=h7 j (Sh y) (by rw[List.getElem?_map,hj];rfl);have e3:w.heap[bk]? =some (.cells c T fr):=by simpa[view] using e1
    have e4:=e2 0 (.string y) rfl;rw[Nat.mul_one,Nat.add_zero] at e4;exact⟨by simp[World.cell?,e3,e4],heap_lt e3⟩
   exact JC (Any.strings_Join L X bk o cap (x::xs) sep w (λj y hj=>(hcell j y hj).1) (hcell 0 x rfl).2 hN h2 hlen)
section
variable {P:Program}{a:Act}{w:World}{ty:TypeId}
end
section
variable {P:Program}{ρ:Ren}{ops:Array Oper}{Q:Exit->Act->World->Prop}{rest:List Oper}
variable {w0:World}{L Lr:List LEnt}{K:List (Nat×Value)}{n:Nat}{a:Act}{w:World}
variable {d:Nat}{ty:TypeId}{pos:String}{after:Array Edge}
end
section
variable {P:Program}{w0:World}{X:List Nat}{φ:View}{L:List LEnt}{K:List (Nat×Value)}{n:Nat}{a:Act}{w:World}
theorem WI{t e dd ty:TypeId}{b i T q:Nat}{x:Operand}{cs:List Value}(xs:List Int)(hs:P.underlying t=some (.slice e))(he:P.underlying e=some (.int .u8))(hd:P.underlying dd=some .string)(S:Sx w0 X φ L K n a w)(hi:L[i]? =some (.blk b cs T))(hc:xs.map (Value.int .u8)=cs)(hq:xs.length=q)(hx:a.eval x= .slice (some ⟨b,0,none⟩) q q):
 Rn P a w (.convert t dd x) ty (.string (strOfNums xs)):=by
 intro d p e' g;subst hc;have h:=run_convert_bytes_arg (P:=P) w t e hs he b 0 q q xs hq (λj hj=>by
  rw[Nat.zero_add];refine S.cell hi ?_;rw[List.getElem?_map,List.getElem?_eq_getElem aA];simp[List.getD,List.getElem?_eq_getElem (show j<xs.length by omega)]) dd hd
 simp only[execOp,hx,Sem.run_bind,h];rfl
end
end Go.Proofs.YtconmpkpdfidiaaGreatDoor
