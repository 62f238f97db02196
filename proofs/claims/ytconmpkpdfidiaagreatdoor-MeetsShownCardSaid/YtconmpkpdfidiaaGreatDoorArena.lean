/- Blocks that a call makes in a loop and keeps by their places in a list: an arena. No statement of the seat is proved here. -/
import Derived.Test.YtconmpkpdfidiaaGreatDoorDeep
namespace Go.Proofs.YtconmpkpdfidiaaGreatDoor
open Go
section
variable {α:Type}
def arena(T:TypeId)(enc:α->List Value):List Nat->List α->List LEnt
 |b::bs,x::xs=>.blk b (enc x) T::arena T enc bs xs
 |_,_=>[]
end
section
variable {w0:World}{X:List Nat}{φ:View}{L:List LEnt}{K:List (Nat×Value)}{n:Nat}{a:Act}{w:World}
end
section
variable {P:Program}{w0:World}{X:List Nat}{φ:View}{L:List LEnt}{K:List (Nat×Value)}{n:Nat}{a:Act}{w:World}{ty:TypeId}
end
section
variable {κ:Type}[DecidableEq κ]
section
variable {α:Type}{key:α->κ}{bs:List Nat}{xs:List α}{k:κ}{o:Option Nat}
end
end
section rows
variable {α:Type}{enc:α->List Value}{T k:Nat}
section
variable {κ:Type}[DecidableEq κ]
end
variable {w0:World}{X:List Nat}{K:List (Nat×Value)}{n:Nat}{a:Act}{w:World}
end rows
section rzT
variable {κ α:Type}
def rzT:Nat->List (κ×List α)->List Value->List (κ×(Nat×List α×Value))
 |n,e::xs,v::vs=>(e.1,(n,e.2,v))::rzT (n+1) xs vs
 |_,_,_=>[]
def RowsI(q:List (κ×(Nat×List α×Value)))(vs:List Value)(xss:List (List α)):Prop:=(q.map (·.2.1)).Nodup/\∀e∈q,vs[e.2.1]? =some e.2.2.2/\xss[e.2.1]? =some e.2.2.1
theorem RowsI.step{q q':List (κ×(Nat×List α×Value))}{y:κ×(Nat×List α×Value)}{vs:List Value}{xss:List (List α)}(h:RowsI q vs xss)(hp:q.Perm (y::q'))(u:Value)(zs:List α):
 vs[y.2.1]? =some y.2.2.2/\xss[y.2.1]? =some y.2.2.1/\RowsI q' (vs.set y.2.1 u) (xss.set y.2.1 zs):=by
 obtain⟨h1,h2⟩:=h;have h3:=(hp.map (λe:κ×(Nat×List α×Value)=>e.2.1)).nodup_iff.1 h1;rw[aY,bT] at h3;have hy:=h2 y (hp.mem_iff.2 (aN ..));refine⟨hy.1,hy.2,h3.2,λe he=>?_⟩;have h4:y.2.1≠e.2.1:=λh5=>h3.1 (by rw[h5];exact bJ he);have h6:=h2 e (hp.mem_iff.2 (aM _ he));rw[List.getElem?_set_ne h4,List.getElem?_set_ne h4];exact h6
end rzT
section
variable {P:Program}{w0:World}{X:List Nat}{φ:View}{L:List LEnt}{K:List (Nat×Value)}{n:Nat}{a:Act}{w:World}
end
section
variable {P:Program}{a:Act}{w:World}{ty:TypeId}
end
end Go.Proofs.YtconmpkpdfidiaaGreatDoor
