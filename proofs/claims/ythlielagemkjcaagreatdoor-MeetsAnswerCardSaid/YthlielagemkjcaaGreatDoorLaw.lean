/- From a law's walk to what its row asks: the frame,for every law that takes a slice of ints. No statement here. -/
import Derived.Test.YthlielagemkjcaaGreatDoorMap
import Derived.Test.YthlielagemkjcaaGreatDoorProg
import Derived.ProofKit
import Derived.OpenShut
import Derived.Carry
namespace Go.Proofs.YthlielagemkjcaaGreatDoor
open Go Go.ChangeShapes Go.WideShapes Go.ChangeAt Go.RowKit
theorem Akv{w w':World}(h:Keep [] w w'):Below w.heap.size w w':=⟨h.os,h.tape,h.output,h.size,λk hk=>h.block k hk bM⟩
theorem Akw{P:Program}{t e base:Nat}{W:World}{v:Value}{H:Type}{enc:TypeId×Value->H}{d:DataW H}{ps:List MemPlace}(ht:P.underlying t=some (.slice e))(he:P.underlying e=some (.int .i64))(hc:P.cellsOf e=1)
 (hok:Value.okWide P W .any base t v) (h:DataW.Trod enc P W 0 (λ_=>true) true t v d ps):∃l:List Int,Slc (view W []) 1 v (l.map eInt):=by
 obtain⟨a0,len,cap,rfl⟩:=okWide_slice ht hok;obtain⟨fuel,hf⟩:=h;rcases open_ints ht he hc hf with ⟨hcs,_⟩|⟨a,len',cap',zs,hcs,_,hl,hm,hz,_,hcell,_⟩
 ·have h1:a0=none/\len=0/\cap=0:=by simpa[Value.cells] using hcs
  obtain⟨rfl,rfl,rfl⟩:=h1;exact⟨[],LE _ _⟩
 ·have h1:a0=some a/\len=len'/\cap=cap':=by simpa[Value.cells] using hcs
  obtain⟨rfl,rfl,rfl⟩:=h1;simp only[aS] at hz;have hsp:a.spot=none:=by
   have h2:Cell.okWide P W .any base t (.slice (some a) len cap):=by
    unfold Value.okWide at hok;rw[ht] at hok;exact hok
   unfold Cell.okWide at h2;rw[ht] at h2;unfold Cell.ok at h2;rw[ht] at h2;exact h2.2.2.2.1
  obtain⟨b,off,sp⟩:=a;simp only at hsp;subst hsp;have hlen:(zs.take len).length=len:=by rw[List.length_take];omega
  refine⟨zs.take len,some ⟨b,off,none⟩,cap,by rw[aV,hlen],by rw[aV,hlen];exact hl,hm,λh=>(by cases h),?_⟩;intro ad had
  cases had
  refine⟨rfl,λi cs hi=>?_⟩;rw[List.getElem?_map] at hi
  cases hz':(zs.take len)[i]? with
  |none=>rw[hz'] at hi;cases hi
  |some z=>
   rw[hz'] at hi
   cases hi
   have hil:i<len:=by
    have:=(List.getElem?_eq_some_iff.1 hz').1;omega
   have hiz:i<zs.length:=by omega
   have hgz:zs.getD i 0=z:=by
    rw[List.getElem?_take,aQ hil] at hz';simp[List.getD,hz']
   have h3:=hcell i hiz;rw[hgz,BP] at h3;refine⟨rfl,?_⟩;unfold World.cell? at h3;simp only at h3
   cases hb:W.heap[b]? with
   |none=>rw[hb] at h3;cases h3
   |some o=>
    rw[hb] at h3
    cases o with
    |cells c T fr=>
     simp only[Option.isSome_none,aO,aR] at h3;refine⟨c,T,fr,by simp[view,hb],λj u hj=>?_⟩
     cases j with
     |zero=>cases hj;simpa using h3
     |succ j=>cases hj
    |_=>cases h3
theorem Apw{P:Program}{F:FuncId}{f:Func}{s:ChangeSpec}{t e tb base:Nat}(hp:f.params= #[t])(hr:f.resultTypes= #[tb])(hs:s.vars=[])(hfn:∀(H:Type) (d:DataW H),s.fn H [d]={results:=[.lit (.bool true)],args:=[d]})
 (ht:P.underlying t=some (.slice e)) (he:P.underlying e=some (.int .i64)) (hc:P.cellsOf e=1) (hb:P.underlying tb=some .bool) (hlo:laidOutB P=true) (hrr:P.readableRec t=true) (hrow:Nat.blt t P.types.size=true)
 (H:Type) (enc:TypeId×Value->H) (W:World) (hcall:∀(v:Value) (l:List Int),Slc (view W []) 1 v (l.map eInt)->Calls P F #[v] W (Ret W [] λ_ u _=>u= .bool true)) (args:Array Value) (ds gs:List (DataW H)) (AP:List MemPlace)
 (hval:∀(j:Nat) t v,f.params[j]? =some t->args[j]? =some v->Value.okWide P W .any base t v)
 (hW:DataW.Whole enc P f.params.toList s.vars false W args.toList ds gs AP):
 Calls P F args W λe W'=>∃v,e= .returned v/\s.post enc P f false true false false W args v W':=by
 have hW':=hW;have hlt:=hW.lt;obtain⟨p,q,hA0,hV,rfl,_,_⟩:=hW;have hA:DataW.TrodAll enc P W 0 (λ_=>true) true f.params.toList args.toList ds p:=hA0;rw[hp] at hA hval;obtain⟨v0,d0,rfl,rfl,h0⟩:=trodAll_one hA;rw[hs] at hV;obtain⟨rfl,rfl⟩:=trodVars_none hV;obtain⟨l,hl⟩:=Akw ht he hc (hval 0 t v0 rfl rfl) h0;refine(hcall v0 l hl).mono λe W' he'=>?_;obtain⟨v,rfl,hk,rfl⟩:=he';have hbel:=Akv hk;simp only[List.append_nil] at hW' hlt;refine⟨_,rfl,_,_,_,[],p,[],hW',?_,?_,?_,hbel.frame _,λh=>by cases h⟩
 ·rw[hr,List.append_nil,hfn];exact trodAll_mk1 (shut_bool hb _)
 ·rw[hp,List.append_nil,hfn];exact trodAll_mk1 (hbel.trod hlo hrr (by simpa using hrow) h0 hlt)
 ·rw[hs,List.append_nil,hfn];exact rfl
end Go.Proofs.YthlielagemkjcaaGreatDoor
