/- Blocks that a call makes in a loop and keeps by their places in a list: an arena. No statement here. -/
import Derived.Test.YthlielagemkjcaaGreatDoorDeep
namespace Go.Proofs.YthlielagemkjcaaGreatDoor
open Go
section
variable {α:Type}
def arena(T:TypeId)(enc:α->List Value):List Nat->List α->List LEnt
 |b::bs,x::xs=>.blk b (enc x) T::arena T enc bs xs
 |_,_=>[]
end
section
variable {w0:World}{X:List Nat}{φ:View}{L:List LEnt}{K:List (Nat×Value)}{n:Nat}{a:Act}{w:World}
theorem Sx.perm{L':List LEnt}(S:Sx w0 X φ L K n a w)(h:L.Perm L'):Sx w0 X φ L' K n a w:=
 {S with
  holds:=λe he=>S.holds e (h.mem_iff.2 he)
  nodup:=(h.filterMap _).nodup_iff.1 S.nodup
  sep:=λb hb=>S.sep b ((h.filterMap _).mem_iff.2 hb)}
end
section
variable {P:Program}{w0:World}{X:List Nat}{φ:View}{L:List LEnt}{K:List (Nat×Value)}{n:Nat}{a:Act}{w:World}{ty:TypeId}
end
section
variable {κ:Type}[DecidableEq κ]
section
variable {α:Type}{key:α->κ}{bs:List Nat}{xs:List α}{k:κ}{o:Option Nat}
end
end
section rows
variable {α:Type}{enc:α->List Value}{T k:Nat}
def Lj(T k:Nat)(enc:α->List Value):List Value->List (List α)->List LEnt
 |v::vs,xs::xss=>.own v T k xs.length (xs.flatMap enc)::Lj T k enc vs xss
 |_,_=>[]
theorem Ahn:∀{vs:List Value} {xss:List (List α)} {j:Nat} {v:Value} {xs:List α},vs[j]? =some v->xss[j]? =some xs->(Lj T k enc vs xss)[j]? =some (.own v T k xs.length (xs.flatMap enc))
 |[],_,_,_,_,h,_=>by simp at h
 |_::_,[],_,_,_,_,h=>by simp at h
 |v::vs,xs::xss,0,_,_,h,h2=>by
  simp only[List.getElem?_cons_zero,Option.some.injEq] at h h2
  subst h h2
  rfl
 |v::vs,xs::xss,j+1,_,_,h,h2=>by
  simp only[List.getElem?_cons_succ] at h h2
  simp only[Lj,List.getElem?_cons_succ]
  exact Ahn h h2
theorem Acx(v:Value)(xs:List α):∀{vs:List Value} {xss:List (List α)},vs.length=xss.length->Lj T k enc (vs++[v]) (xss++[xs])=Lj T k enc vs xss++[.own v T k xs.length (xs.flatMap enc)]
 |[],[],_=>rfl
 |[],_::_,h=>by simp at h
 |_::_,[],h=>by simp at h
 |_::vs,_::xss,h=>by
  simp only[aT,Nat.add_right_cancel_iff] at h
  simp only[List.cons_append,Lj]
  rw[Acx v xs h]
section
variable {κ:Type}[DecidableEq κ]
end
variable {w0:World}{X:List Nat}{K:List (Nat×Value)}{n:Nat}{a:Act}{w:World}
theorem Sx.join_rows{φ:View}{F:List LEnt}{v:Value}{xs:List α}{vs:List Value}{xss:List (List α)}(hl:vs.length=xss.length)(S:Sx w0 X φ (.own v T k xs.length (xs.flatMap enc)::(F++Lj T k enc vs xss)) K n a w):
 Sx w0 X φ (F++Lj T k enc (vs++[v]) (xss++[xs])) K n a w:=by
 rw[Acx v xs hl,←List.append_assoc];exact S.perm (List.perm_append_comm (l₁:=[_]) (l₂:=F++Lj T k enc vs xss))
theorem YT{F:List LEnt}{vs:List Value}{xss:List (List α)}{j:Nat}{v:Value}{xs:List α}(h:vs[j]? =some v)(h2:xss[j]? =some xs):(F++Lj T k enc vs xss)[F.length+j]? =some (.own v T k xs.length (xs.flatMap enc)):=by
 rw[List.getElem?_append_right (Nat.le_add_right _ _),Nat.add_sub_cancel_left];exact Ahn h h2
theorem Sx.seeRows(hX:X=[]):∀{vs:List Value} {xss:List (List α)} {F:List LEnt} {φ:View},vs.length=xss.length->Sx w0 X φ (F++Lj T k enc vs xss) K n a w->
 ∃φ',View.le φ φ'/\Mu (λxs v=>Kr φ' T k v xs.length (xs.flatMap enc)) xss vs/\Sx w0 X φ' F K n a w
 |[],[],F,φ,_,S=>⟨φ,View.le_refl _,.nil,by simpa[Lj] using S⟩
 |[],_::_,_,_,h,_=>by simp at h
 |_::_,[],_,_,h,_=>by simp at h
 |v::vs,xs::xss,F,φ,h,S=>by
  simp only[aT,Nat.add_right_cancel_iff] at h
  have S1:Sx w0 X φ (.own v T k xs.length (xs.flatMap enc)::(F++Lj T k enc vs xss)) K n a w:=S.perm (by simp[Lj])
  obtain⟨φ1,l1,o1,S2⟩:=S1.freezeT (i:=0) rfl (by rw[hX];intro c hc;cases hc)
  obtain⟨φ',l,h2,S3⟩:=Sx.seeRows hX h S2
  exact⟨φ',View.le_trans l1 l,.cons (o1.mono l) h2,S3⟩
theorem Sx.nilRows{F:List LEnt}{φ:View}:∀(m:Nat),Sx w0 X φ F K n a w->Sx w0 X φ (F++Lj T k enc (List.replicate m (.slice none 0 0)) (List.replicate m ([]:List α))) K n a w
 |0,S=>by simpa[Lj] using S
 |m+1,S=>by
  have S1:=(Sx.nilRows m S).nil T k
  rw[List.replicate_succ',List.replicate_succ']
  exact Sx.join_rows (xs:=([]:List α)) aB S1
theorem Sx.take_row{φ:View}{F:List LEnt}{vs:List Value}{xss:List (List α)}{j:Nat}{v:Value}{ys:List α}(h:vs[j]? =some v)(h2:xss[j]? =some ys)(S:Sx w0 X φ (F++Lj T k enc vs xss) K n a w):
 Sx w0 X φ (.own v T k ys.length (ys.flatMap enc)::(F++Lj T k enc (vs.set j (.slice none 0 0)) (xss.set j []))) K n a w:=by
 have hset:∀{vs:List Value} {xss:List (List α)} {j:Nat} {v:Value} {ys:List α},vs[j]? =some v->xss[j]? =some ys->
  (LEnt.own (.slice none 0 0) T k ([]:List α).length (([]:List α).flatMap enc)::Lj T k enc vs xss).Perm (.own v T k ys.length (ys.flatMap enc)::Lj T k enc (vs.set j (.slice none 0 0)) (xss.set j [])):=by
  intro vs
  induction vs with
  |nil=>intro xss j v ys h;simp at h
  |cons u vs ih=>
   intro xss j v ys h h2
   cases xss with
   |nil=>simp at h2
   |cons zs xss=>
    cases j with
    |zero=>
     simp only[List.getElem?_cons_zero,Option.some.injEq] at h h2;subst h h2;simp only[List.set_cons_zero,Lj];exact List.Perm.swap _ _ _
    |succ j=>
     simp only[List.getElem?_cons_succ] at h h2;simp only[List.set_cons_succ,Lj];exact(List.Perm.swap _ _ _).trans (((ih h h2).cons _).trans (List.Perm.swap _ _ _))
 have S1:Sx w0 X φ (.own (.slice none 0 0) T k ([]:List α).length (([]:List α).flatMap enc)::(F++Lj T k enc vs xss)) K n a w:=S.nil T k;refine S1.perm ?_;have h3:=hset h h2;refine(List.perm_middle (l₁:=F)).symm.trans (((List.Perm.append_left F h3)).trans ?_);exact List.perm_middle (l₁:=F)
theorem Sx.put_row{φ:View}{F:List LEnt}{vs:List Value}{xss:List (List α)}{j:Nat}{v u:Value}{ys zs:List α}(h:vs[j]? =some u)(h2:xss[j]? =some zs)(S:Sx w0 X φ (.own v T k ys.length (ys.flatMap enc)::(F++Lj T k enc vs xss)) K n a w):
 Sx w0 X φ (F++Lj T k enc (vs.set j v) (xss.set j ys)) K n a w:=by
 have hset:∀{vs:List Value} {xss:List (List α)} {j:Nat} {u:Value} {zs:List α},vs[j]? =some u->xss[j]? =some zs->
  ∃e,(LEnt.own v T k ys.length (ys.flatMap enc)::Lj T k enc vs xss).Perm (e::Lj T k enc (vs.set j v) (xss.set j ys)):=by
  intro vs
  induction vs with
  |nil=>intro xss j u zs h;simp at h
  |cons u' vs ih=>
   intro xss j u zs h h2
   cases xss with
   |nil=>simp at h2
   |cons zs' xss=>
    cases j with
    |zero=>
     simp only[List.set_cons_zero,Lj];exact⟨_,List.Perm.swap _ _ _⟩
    |succ j=>
     simp only[List.getElem?_cons_succ] at h h2;simp only[List.set_cons_succ,Lj];obtain⟨e,he⟩:=ih h h2;exact⟨e,(List.Perm.swap _ _ _).trans ((he.cons _).trans (List.Perm.swap _ _ _))⟩
 obtain⟨e,he⟩:=hset h h2;have S1:Sx w0 X φ (e::(F++Lj T k enc (vs.set j v) (xss.set j ys))) K n a w:=by
  refine S.perm ?_;refine(List.perm_middle (l₁:=F)).symm.trans (((List.Perm.append_left F he)).trans ?_);exact List.perm_middle (l₁:=F)
 exact S1.drop (List.sublist_cons_self _ _)
end rows
section rzT
variable {κ α:Type}
def rzT:Nat->List (κ×List α)->List Value->List (κ×(Nat×List α×Value))
 |n,e::xs,v::vs=>(e.1,(n,e.2,v))::rzT (n+1) xs vs
 |_,_,_=>[]
def RowsI(q:List (κ×(Nat×List α×Value)))(vs:List Value)(xss:List (List α)):Prop:=(q.map (·.2.1)).Nodup/\∀e∈q,vs[e.2.1]? =some e.2.2.2/\xss[e.2.1]? =some e.2.2.1
theorem RowsI.step{q q':List (κ×(Nat×List α×Value))}{y:κ×(Nat×List α×Value)}{vs:List Value}{xss:List (List α)}(h:RowsI q vs xss)(hp:q.Perm (y::q'))(u:Value)(zs:List α):
 vs[y.2.1]? =some y.2.2.2/\xss[y.2.1]? =some y.2.2.1/\RowsI q' (vs.set y.2.1 u) (xss.set y.2.1 zs):=by
 obtain⟨h1,h2⟩:=h;have h3:=(hp.map (λe:κ×(Nat×List α×Value)=>e.2.1)).nodup_iff.1 h1;rw[aY,bT] at h3;have hy:=h2 y (hp.mem_iff.2 (aN ..));refine⟨hy.1,hy.2,h3.2,λe he=>?_⟩;have h4:y.2.1≠e.2.1:=λh5=>h3.1 (by rw[h5];exact bJ he);have h6:=h2 e (hp.mem_iff.2 (aM _ he));rw[List.getElem?_set_ne h4,List.getElem?_set_ne h4];exact h6
end rzT
theorem TN{α β γ:Type}{R:α->γ->Prop}{f:β->γ}:∀{xs:List α} {ys:List β},Mu R xs (ys.map f)->Mu (λx y=>R x (f y)) xs ys
 |_,[],h=>by cases h;exact .nil
 |_,y::ys,h=>by cases h with
  |cons h1 h2=>exact .cons h1 (TN h2)
section
variable {P:Program}{w0:World}{X:List Nat}{φ:View}{L:List LEnt}{K:List (Nat×Value)}{n:Nat}{a:Act}{w:World}
end
section
variable {P:Program}{a:Act}{w:World}{ty:TypeId}
end
end Go.Proofs.YthlielagemkjcaaGreatDoor
