/- The rules for memory: blocks,slices,appends,calls. No statement here. -/
import Derived.Test.YthlielagemkjcaaGreatDoorOps
namespace Go.Proofs.YthlielagemkjcaaGreatDoor
open Go
theorem LEnt.holds.keep{e:LEnt}{w w':World}{Y:List Nat}(h:e.holds w)(k:Keep Y w w')(hY:∀b,e.fp=some b->b∉Y):e.holds w':=by
 cases e with
 |blk b c T=>
  have h':w.heap[b]? =some (.cells c.toArray T (0,0)):=h;show w'.heap[b]? =_;rw[k.block b (heap_lt h') (hY b rfl)];exact h'
 |map b es clk=>
  have h':w.heap[b]? =some (.map es clk):=h;show w'.heap[b]? =_;rw[k.block b (heap_lt h') (hY b rfl)];exact h'
 |iter b m s e l=>
  have h':w.heap[b]? =some (.mapIter (some m) s e l):=h;show w'.heap[b]? =_;rw[k.block b (heap_lt h') (hY b rfl)];exact h'
 |obj b o=>
  have h':w.heap[b]? =some o:=h;show w'.heap[b]? =_;rw[k.block b (heap_lt h') (hY b rfl)];exact h'
 |own v T kk n cs=>
  have h':w.ownsRow 0 T kk v n cs:=h;refine⟨h'.1,?_⟩;rcases h'.2 with hn|⟨g,cap,cur,rfl,hb,hg,rest⟩
  ·exact .inl hn
  ·exact .inr ⟨g,cap,cur,rfl,hb,by rw[k.block g (heap_lt hg) (hY g rfl)];exact hg,rest⟩
 |ownF v T n cs=>
  have h':w.ownsRowF 0 T 1 v n cs:=h;refine⟨h'.1,?_⟩;rcases h'.2 with hn|⟨g,cap,cur,fz,rfl,hb,hg,rest⟩
  ·exact .inl hn
  ·exact .inr ⟨g,cap,cur,fz,rfl,hb,by rw[k.block g (heap_lt hg) (hY g rfl)];exact hg,rest⟩
theorem LEnt.holds.lt{e:LEnt}{w:World}(h:e.holds w){b:Nat}(hb:e.fp=some b):b<w.heap.size:=by
 cases e with
 |blk b' c T=>cases hb;exact heap_lt (show w.heap[b]? =_ from h)
 |map b' es clk=>cases hb;exact heap_lt (show w.heap[b]? =_ from h)
 |iter b' m s e l=>cases hb;exact heap_lt (show w.heap[b]? =_ from h)
 |obj b' o=>cases hb;exact heap_lt (show w.heap[b]? =_ from h)
 |own v T kk n cs=>
  have h':w.ownsRow 0 T kk v n cs:=h;exact(h'.lt b hb).2
 |ownF v T n cs=>
  have h':w.ownsRowF 0 T 1 v n cs:=h;rcases h'.2 with ⟨rfl,_⟩|⟨g,cap,cur,fz,rfl,_,hg,_⟩
  ·cases hb
  ·cases hb;exact heap_lt hg
theorem QJ{α:Type}{L:List α}{i:Nat}{e:α}(h:L[i]? =some e):∃l1 l2,L=l1++e::l2/\l1.length=i:=by
 have hi:i<L.length:=by
  rcases Nat.lt_or_ge i L.length with h'|h'
  ·exact h'
  ·rw[List.getElem?_eq_none h'] at h;cases h
 refine⟨L.take i,L.drop (i+1),?_,by simp;omega⟩;rw[List.getElem?_eq_getElem hi] at h
 cases h
 simp
section
variable {w0:World}{X:List Nat}{φ:View}{L:List LEnt}{K:List (Nat×Value)}{n:Nat}{a:Act}{w:World}
theorem Sx.fp_mem{i:Nat}{e:LEnt}{b:Nat}(hi:L[i]? =some e)(hb:e.fp=some b):b∈fps L:=
 List.mem_filterMap.2 ⟨e,List.mem_of_getElem? hi,hb⟩
theorem EN{b:Nat}:b∈fps L->∃e∈L,e.fp=some b:=λh=>by
 obtain⟨e,he,hb⟩:=List.mem_filterMap.1 h
 exact⟨e,he,hb⟩
theorem Sx.change{i:Nat}{e e':LEnt}{w':World}{Y:List Nat}(S:Sx w0 X φ L K n a w)(hi:L[i]? =some e)(k:Keep Y w w')(hY:∀y∈Y,e.fp=some y)
 (hh:e'.holds w') (hf:∀b,e'.fp=some b->e.fp=some b\/w.heap.size<=b):Sx w0 X φ (L.set i e') K n a w':=by
 obtain⟨l1,l2,rfl,hl⟩:=QJ hi;have hset:(l1++e::l2).set i e'=l1++e'::l2:=by subst hl;simp
 rw[hset];have hnd:=S.nodup;have hfe:fps (l1++e::l2)=fps l1++(e.fp.toList++fps l2):=by
  simp[fps,List.filterMap_append,List.filterMap_cons];cases e.fp<;>simp
 have hfe':fps (l1++e'::l2)=fps l1++(e'.fp.toList++fps l2):=by
  simp[fps,List.filterMap_append,List.filterMap_cons];cases e'.fp<;>simp
 have hnot:∀x∈l1++l2,∀b,x.fp=some b->b∉Y:=by
  intro x hx b hb hby;have h1:=hY b hby;rw[hfe,h1] at hnd;have hb':b∈fps l1\/b∈fps l2:=by
   rcases bC.1 hx with h|h
   ·exact .inl (List.mem_filterMap.2 ⟨x,h,hb⟩)
   ·exact .inr (List.mem_filterMap.2 ⟨x,h,hb⟩)
  simp only[Option.toList_some,List.nodup_append,bT,List.singleton_append] at hnd;rcases hb' with h|h
  ·exact hnd.2.2 b h b (aN) rfl
  ·exact hnd.2.1.1 h
 have hsepY:∀y∈Y,φ y=none/\(w0.heap.size<=y\/y∈X):=λy hy=>by
  have:=S.sep y (Sx.fp_mem hi (hY y hy));exact⟨this.1,this.2.1⟩
 refine⟨S.keep.step k λy hy=>(hsepY y hy).2,S.emb.keep k λy hy=>(hsepY y hy).1,S.fresh,?_,?_,?_,S.nodefer,S.size,S.slots⟩
 ·intro x hx;rcases bC.1 hx with h|h
  ·exact(S.holds x (bC.2 (.inl h))).keep k (hnot x (bC.2 (.inl h)))
  ·rcases bB.1 h with rfl|h
   ·exact hh
   ·exact(S.holds x (bC.2 (.inr (aM _ h)))).keep k (hnot x (bC.2 (.inr h)))
 ·rw[hfe'];rw[hfe] at hnd
  cases hb:e'.fp with
  |none=>
   refine hnd.sublist ?_;simp only[Option.toList_none,aZ];exact(List.Sublist.refl _).append (List.sublist_append_right _ _)
  |some b=>
   rcases hf b hb with h|h
   ·rw[h] at hnd;exact hnd
   ·have hold:∀x∈l1++l2,∀c,x.fp=some c->c≠b:=by
     intro x hx c hc hcb;have hx':x∈l1++e::l2:=by
      rcases bC.1 hx with h|h
      ·exact bC.2 (.inl h)
      ·exact bC.2 (.inr (aM _ h))
     have:=(S.holds x hx').lt hc;omega
    have hn1:b∉fps l1:=λhm=>by
     obtain⟨x,hx,hc⟩:=EN hm;exact hold x (bC.2 (.inl hx)) b hc rfl
    have hn2:b∉fps l2:=λhm=>by
     obtain⟨x,hx,hc⟩:=EN hm;exact hold x (bC.2 (.inr hx)) b hc rfl
    have hsub:(fps l1++fps l2).Nodup:=hnd.sublist ((List.Sublist.refl _).append (List.sublist_append_right _ _));simp only[List.nodup_append,Option.toList_some,List.singleton_append,bT,bB] at hsub ⊢;refine⟨hsub.1,⟨hn2,hsub.2.1⟩,?_⟩;intro x hx y hy hxy;rcases hy with rfl|hy
    ·exact hn1 (hxy ▸ hx)
    ·exact hsub.2.2 x hx y hy hxy
 ·intro b hb;obtain⟨x,hx,hc⟩:=EN hb;rcases bC.1 hx with h|h
  ·have:=S.sep b (List.mem_filterMap.2 ⟨x,bC.2 (.inl h),hc⟩);exact⟨this.1,this.2.1,Nat.lt_of_lt_of_le this.2.2 k.size⟩
  ·rcases bB.1 h with rfl|h
   ·rcases hf b hc with h1|h1
    ·have:=S.sep b (Sx.fp_mem hi h1);exact⟨this.1,this.2.1,Nat.lt_of_lt_of_le this.2.2 k.size⟩
    ·refine⟨?_,.inl (Nat.le_trans S.keep.size h1),hh.lt hc⟩
     cases hφ:φ b with
     |none=>rfl
     |some o=>have:=heap_lt (S.emb b o hφ);omega
   ·have:=S.sep b (List.mem_filterMap.2 ⟨x,bC.2 (.inr (aM _ h)),hc⟩);exact⟨this.1,this.2.1,Nat.lt_of_lt_of_le this.2.2 k.size⟩
theorem Sx.more{e:LEnt}{w':World}(S:Sx w0 X φ L K n a w)(k:Keep [] w w')(hh:e.holds w')(hf:∀b,e.fp=some b->w.heap.size<=b):Sx w0 X φ (e::L) K n a w':=by
 have h0:Sx w0 X φ (.own (.slice none 0 0) 0 0 0 []::L) K n a w:=by
  refine {S with holds:=?_,nodup:=S.nodup,sep:=S.sep};intro x hx;rcases bB.1 hx with rfl|h
  ·exact World.ownsRow_nil w 0 0 0
  ·exact S.holds x h
 exact h0.change (i:=0) (e:=.own (.slice none 0 0) 0 0 0 []) rfl k aB hh (λb hb=>.inr (hf b hb))
theorem Sx.nil(T k:Nat)(S:Sx w0 X φ L K n a w):Sx w0 X φ (.own (.slice none 0 0) T k 0 []::L) K n a w:=by
 refine {S with holds:=?_,nodup:=S.nodup,sep:=S.sep};intro x hx;rcases bB.1 hx with rfl|h
 ·exact World.ownsRow_nil w 0 T k
 ·exact S.holds x h
theorem Rq(w:World)(o:Obj):Keep [] w (w.alloc o):=
 ⟨rfl,rfl,rfl,by simp,λk hk _=>heap_alloc_old w o k hk⟩
theorem BO(w:World)(g:Nat)(cs:Array Value):Keep [g] w (w.setRow g cs):=
 ⟨rfl,rfl,rfl,by simp,λk _ hx=>setRow_other w g k cs (by simpa using hx)⟩
theorem Sx.blk_at{i b:Nat}{cells:List Value}{T:TypeId}(S:Sx w0 X φ L K n a w)(hi:L[i]? =some (.blk b cells T)):w.heap[b]? =some (.cells cells.toArray T (0,0)):=
 S.holds _ (List.mem_of_getElem? hi)
theorem Sx.own_at{i:Nat}{v:Value}{T k m:Nat}{cs:List Value}(S:Sx w0 X φ L K n a w)(hi:L[i]? =some (.own v T k m cs)):w.ownsRow 0 T k v m cs:=
 S.holds _ (List.mem_of_getElem? hi)
end
def Mem(φ:View)(b off:Nat)(cs:List Value):Prop:=
 ∃c T fr,φ b=some (.cells c T fr)/\∀j v,cs[j]? =some v->c[off+j]? =some v
theorem Mem.mono{φ ψ:View}{b off:Nat}{cs:List Value}(h:Mem φ b off cs)(k:View.le φ ψ):Mem ψ b off cs:=by
 obtain⟨c,T,fr,h1,h2⟩:=h;exact⟨c,T,fr,k _ _ h1,h2⟩
theorem Mem.cell{φ:View}{b off:Nat}{cs:List Value}{w:World}(h:Mem φ b off cs)(e:Emb φ w):∀j v,cs[j]? =some v->w.cell? ⟨b,off+j,none⟩=some v:=by
 obtain⟨c,T,fr,h1,h2⟩:=h;intro j v hv;rw[cell_of_row w b (off+j) c T fr (e _ _ h1)];exact h2 j v hv
theorem BP(b off j:Nat):(⟨b,off,none⟩:Addr).add j=⟨b,off+j,none⟩:=by unfold Addr.add;split<;>simp_all
def Slc(φ:View)(k:Nat)(v:Value)(rows:List (List Value)):Prop:=
 ∃ao cap,v= .slice ao rows.length cap/\rows.length<=cap/\cap<=maxLen/\(ao=none->cap=0)/\
  ∀ad,ao=some ad->ad.spot=none/\∀i cs,rows[i]? =some cs->cs.length=k/\Mem φ ad.block (ad.off+i*k) cs
theorem Slc.mono{φ ψ:View}{k:Nat}{v:Value}{rows:List (List Value)}(h:Slc φ k v rows)(l:View.le φ ψ):Slc ψ k v rows:=by
 obtain⟨ao,cap,h1,h2,h3,h4,h5⟩:=h;exact⟨ao,cap,h1,h2,h3,h4,λad e=>⟨(h5 ad e).1,λi cs hc=>⟨((h5 ad e).2 i cs hc).1,((h5 ad e).2 i cs hc).2.mono l⟩⟩⟩
theorem LE(φ:View)(k:Nat):Slc φ k (.slice none 0 0) []:=
 ⟨none,0,rfl,by simp,by simp,λ_=>rfl,λad h=>by cases h⟩
theorem slc_nilT{α:Type}{enc:α->List Value}(φ:View)(k:Nat):Slc φ k (.slice none 0 0) (([]:List α).map enc):=LE φ k
def Kr(φ:View)(T k:Nat)(v:Value)(m:Nat)(cs:List Value):Prop:=
 cs.length=m*k/\((v= .slice none 0 0/\m=0)\/
  ∃g cap cur,v= .slice (some ⟨g,0,none⟩) m cap/\φ g=some (.cells cur T (0,0))/\m<=cap/\cap<=maxLen/\cur.size=cap*k/\cur.toList.take (m*k)=cs)
theorem Kr.mono{φ ψ:View}{T k m:Nat}{v:Value}{cs:List Value}(h:Kr φ T k v m cs)(l:View.le φ ψ):Kr ψ T k v m cs:=by
 refine⟨h.1,?_⟩;rcases h.2 with h|⟨g,cap,cur,h1,h2,h3⟩
 ·exact .inl h
 ·exact .inr ⟨g,cap,cur,h1,l _ _ h2,h3⟩
theorem LF{k:Nat}{rows:List (List Value)}(hk:∀r∈rows,r.length=k){i:Nat}{cs:List Value}(hi:rows[i]? =some cs){j:Nat}{v:Value}(hj:cs[j]? =some v):
 rows.flatten[i*k+j]? =some v:=by
 induction rows generalizing i with
 |nil=>cases hi
 |cons r rs ih=>
  have hr:r.length=k:=hk r aN
  cases i with
  |zero=>
   simp at hi;subst hi;have hjl:j<r.length:=by
    rcases Nat.lt_or_ge j r.length with h|h
    ·exact h
    ·rw[List.getElem?_eq_none h] at hj;cases hj
   simp only[List.flatten_cons,Nat.zero_mul,Nat.zero_add];rw[List.getElem?_append_left hjl];exact hj
  |succ i=>
   simp only[List.getElem?_cons_succ] at hi;have:=ih (λr' h'=>hk r' (aM _ h')) hi;simp only[List.flatten_cons];rw[List.getElem?_append_right (by rw[hr,Nat.succ_mul];omega)];rw[hr,show (i+1)*k+j-k=i*k+j by rw[Nat.succ_mul];omega];exact this
theorem Kr.slc{φ:View}{T k m:Nat}{v:Value}{cs:List Value}(h:Kr φ T k v m cs){rows:List (List Value)}(hr:rows.flatten=cs)(hk:∀r∈rows,r.length=k)(hm:rows.length=m):
 Slc φ k v rows:=by
 subst hm;rcases h.2 with ⟨rfl,h0⟩|⟨g,cap,cur,rfl,h2,h3,h4,h5,h6⟩
 ·have:rows=[]:=List.eq_nil_of_length_eq_zero h0;subst this;exact LE φ k
 ·refine⟨_,cap,rfl,h3,h4,(λh=>by cases h),λad e=>?_⟩
  cases e
  refine⟨rfl,λi cs' hi=>⟨hk _ (List.mem_of_getElem? hi),cur,T,(0,0),h2,λj v hj=>?_⟩⟩;have h7:=LF hk hi hj;rw[hr,←h6,List.getElem?_take] at h7
  split at h7
  ·simpa[Nat.add_comm] using h7
  ·cases h7
end Go.Proofs.YthlielagemkjcaaGreatDoor
