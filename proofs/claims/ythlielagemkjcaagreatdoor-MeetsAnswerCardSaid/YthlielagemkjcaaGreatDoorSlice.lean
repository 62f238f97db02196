/- The rules for slices and strings. No statement here. -/
import Derived.Test.YthlielagemkjcaaGreatDoorDraw
namespace Go.Proofs.YthlielagemkjcaaGreatDoor
open Go
def Jc(v:Value)(m:Nat):Prop:=∃ao c,v= .slice ao m c
theorem Slc.len{φ:View}{k:Nat}{v:Value}{rows:List (List Value)}(h:Slc φ k v rows):Jc v rows.length:=by
 obtain⟨ao,cap,h1,_⟩:=h;exact⟨ao,cap,h1⟩
theorem Li{w:World}{b T k m:Nat}{v:Value}{cs:List Value}(h:w.ownsRow b T k v m cs):Jc v m:=by
 rcases h.2 with ⟨rfl,rfl⟩|⟨g,cap,cur,rfl,_⟩
 ·exact⟨none,0,rfl⟩
 ·exact⟨_,cap,rfl⟩
theorem Jc.one{v:Value}{m:Nat}(h:Jc v m):v.oneCell'=true:=by obtain⟨ao,c,rfl⟩:=h;rfl
theorem Jc.cells{v:Value}{m:Nat}(h:Jc v m):v.cells.toList=[v]:=by obtain⟨ao,c,rfl⟩:=h;rfl
theorem Slc.max{φ:View}{k:Nat}{v:Value}{rows:List (List Value)}(h:Slc φ k v rows):rows.length<=maxLen:=by
 obtain⟨ao,cap,h1,h2,h3,_⟩:=h;omega
theorem Keep.cell{Y:List Nat}{w w':World}{b off:Nat}{v:Value}(hk:Keep Y w w')(h:w.cell? ⟨b,off,none⟩=some v)(hb:b∉Y):w'.cell? ⟨b,off,none⟩=some v:=by
 have hlt:b<w.heap.size:=World.block_lt_of_cell? w ⟨b,off,none⟩ h;rw[World.cell?_of_block (w:=w) (hk.block b hlt hb)];exact h
def Un(w:World)(b off:Nat)(cs:List Value):Prop:=∀j v,cs[j]? =some v->w.cell? ⟨b,off+j,none⟩=some v
theorem Mem.at{φ:View}{b off:Nat}{cs:List Value}{w:World}(h:Mem φ b off cs)(e:Emb φ w):Un w b off cs:=h.cell e
theorem Un.keep{Y:List Nat}{w w':World}{b off:Nat}{cs:List Value}(h:Un w b off cs)(hk:Keep Y w w')(hb:b∉Y):Un w' b off cs:=λj v hv=>hk.cell (h j v hv) hb
section
variable {P:Program}{ops:Array Oper}{Q:Exit->Act->World->Prop}{rest:List Oper}
variable {w0:World}{X:List Nat}{φ:View}{L:List LEnt}{K:List (Nat×Value)}{n:Nat}{a:Act}{w:World}
variable {d:Nat}{ty:TypeId}{pos:String}{after:Array Edge}
theorem Sx.cellsAt{i b:Nat}{cells:List Value}{T:TypeId}(S:Sx w0 X φ L K n a w)(hi:L[i]? =some (.blk b cells T)):Un w b 0 cells:=by
 intro j v hv;rw[Nat.zero_add];exact S.cell hi hv
theorem Un.part{w:World}{b off o k:Nat}{cs part:List Value}(h:Un w b off cs)(hp:(cs.drop o).take k=part):Un w b (off+o) part:=by
 intro j v hv;subst hp;rw[List.getElem?_take] at hv
 split at hv
 ·rw[List.getElem?_drop] at hv;rw[Nat.add_assoc];exact h _ _ hv
 ·cases hv
theorem To{T:TypeId}{x:Operand}{b off o:Nat}{cs:List Value}{v:Value}(hT:∀w,(isAgg T).run P w= .ok false w)(hx:a.eval x= .pointer (some ⟨b,off+o,none⟩))(hc:Un w b off cs)(hv:cs[o]? =some v):
 Rn P a w (.load T x) ty v:=OI hT hx (hc o v hv)
theorem Wv{T:TypeId}{x:Operand}{b off o kk:Nat}{cs part:List Value}(hT:∀w,(isAgg T).run P w= .ok true w)(hz:∀w,(sizeOf T).run P w= .ok kk w)(hp:(cs.drop o).take kk=part)(hl:part.length=kk)
 (hx:a.eval x= .pointer (some ⟨b,off+o,none⟩)) (hc:Un w b off cs):Rn P a w (.load T x) ty (.agg part.toArray):=
 rn_loadA hT hz hl hx (hc.part hp)
theorem rn_len{t:TypeId}{x:Operand}{v:Value}{m:Nat}{el:TypeId}(ht:P.underlying t=some (.slice el))(hx:a.eval x=v)(hv:Jc v m):
 Rn P a w (.call {callee:=.builtin .len,args:=#[x],argTypes:=#[t]}) ty (.int .i64 m):=by
 obtain⟨ao,c,rfl⟩:=hv;exact Aeu ht hx
theorem rn_index{ψ:View}{T el:TypeId}{x y:Operand}{v:Value}{rows:List (List Value)}{cs:List Value}{j k:Nat}{z:Int}{kk:IntKind}(ht:P.underlying T=some (.slice el))(hsz:∀w,(sizeOf el).run P w= .ok k w)
 (hs:Slc ψ k v rows) (hj:rows[j]? =some cs) (hz:z=(j:Int)) (hx:a.eval x=v) (hy:a.eval y= .int kk z):
 ∃b off,Mem ψ b off cs/\∀w,Rn P a w (.indexAddr T x y) ty (.pointer (some ⟨b,off,none⟩)):=by
 obtain⟨ao,cap,rfl,h2,h3,h4,h5⟩:=hs;have hlt:j<rows.length:=by
  rcases Nat.lt_or_ge j rows.length with h|h
  ·exact h
  ·rw[List.getElem?_eq_none h] at hj;cases hj
 cases ao with
 |none=>have:=h4 rfl;omega
 |some ad=>
  obtain⟨hsp,hm⟩:=h5 ad rfl;obtain⟨b,off,sp⟩:=ad
  cases hsp
  refine⟨b,off+j*k,(hm j cs hj).2,?_⟩;intro w dd p e g;subst hz;simp[execOp,hx,hy,Instr.indexAt,asIntOf,run_underlying ht,hlt,hsz,BP]
theorem MM{b0 T k m:Nat}{v:Value}{cs:List Value}(h:w.ownsRow b0 T k v m cs)(hm:0<m):∃g cap cur,v= .slice (some ⟨g,0,none⟩) m cap/\w.heap[g]? =some (.cells cur T (0,0))/\m<=cap/\cap<=maxLen/\cur.size=cap*k/\cur.toList.take (m*k)=cs:=by
 rcases h.2 with ⟨_,h0⟩|⟨g,cap,cur,h1,_,h2⟩
 ·omega
 ·exact⟨g,cap,cur,h1,h2⟩
theorem Aex{T TE el:TypeId}{x y:Operand}{v:Value}{i j k m:Nat}{z:Int}{kk:IntKind}{rows:List (List Value)}{cs:List Value}(S:Sx w0 X φ L K n a w)(hi:L[i]? =some (.own v TE k m rows.flatten))(ht:P.underlying T=some (.slice el))(hsz:∀w,(sizeOf el).run P w= .ok k w)
 (hk:∀r∈rows,r.length=k) (hm:rows.length=m) (hj:rows[j]? =some cs) (hz:z=(j:Int)) (hx:a.eval x=v) (hy:a.eval y= .int kk z):
 ∃g,v.ownBlock=some g/\Un w g (j*k) cs/\∀w,Rn P a w (.indexAddr T x y) ty (.pointer (some ⟨g,j*k,none⟩)):=by
 have hlt:j<rows.length:=by
  rcases Nat.lt_or_ge j rows.length with h|h
  ·exact h
  ·rw[List.getElem?_eq_none h] at hj;cases hj
 obtain⟨g,cap,cur,rfl,h2,h3,h4,h5,h6⟩:=MM (S.own_at hi) aA;refine⟨g,rfl,?_,?_⟩
 ·intro jj u hu;have h7:=LF hk hj hu;rw[←h6,List.getElem?_take] at h7
  split at h7
  ·rw[cell_of_row w g _ cur TE (0,0) h2];simpa using h7
  ·cases h7
 ·intro w' dd p e gg;subst hz;have hlt':j<m:=by omega
  simp[execOp,hx,hy,Instr.indexAt,asIntOf,run_underlying ht,hlt',hsz,BP]
theorem Sx.own_slc{i T k m:Nat}{v:Value}{cs:List Value}{rows:List (List Value)}{Y:List Nat}(S:Sx w0 X φ L K n a w)(hi:L[i]? =some (.own v T k m cs))(hr:rows.flatten=cs)(hk:∀r∈rows,r.length=k)(hm:rows.length=m)
 (hY:∀b,v.ownBlock=some b->b∉Y):Slc (view w Y) k v rows:=by
 have ho:=S.own_at hi;refine Kr.slc (T:=T) (m:=m) (cs:=cs) ⟨ho.1,?_⟩ hr hk hm;rcases ho.2 with h|⟨g,cap,cur,h1,_,h2,h3⟩
 ·exact .inl h
 ·refine .inr ⟨g,cap,cur,h1,?_,h3⟩;unfold view;rw[aP (hY g (by rw[h1];rfl))];exact h2
theorem Sx.own_ret{i T k m:Nat}{v:Value}{cs:List Value}(S:Sx w0 X φ L K n a w)(hi:L[i]? =some (.own v T k m cs))(hX:X=[]):Kr (newer w0 w) T k v m cs:=by
 have ho:=S.own_at hi;refine⟨ho.1,?_⟩;rcases ho.2 with h|⟨g,cap,cur,h1,_,h2,h3⟩
 ·exact .inl h
 ·refine .inr ⟨g,cap,cur,h1,?_,h3⟩;have hs:=(S.sep g (Sx.fp_mem hi (by simp[LEnt.fp,h1,Value.ownBlock]))).2.1;unfold newer;rw[aQ]
  ·exact h2
  ·rcases hs with h|h
   ·exact h
   ·subst hX;cases h
theorem YG{t ty T:TypeId}{inf:TypeInfo}{z:Value}{k bytes:Nat}(ht:P.underlying t=some (.slice T))(hinf:P.info? T=some inf)(hz:inf.zero=some z)(hsize:inf.size=k)(hby:inf.bytes=bytes)
 (hzs:z.cells.size=k) (hk0:0<k) (v:Value) (m:Nat) (cs:List Value) (ho:w.ownsRow 0 T k v m cs) (ad:Addr) (q c:Nat) (news:List Value) (hl:news.length=q*k)
 (hn:∀j u,news[j]? =some u->w.cell? (ad.add j)=some u) (h1:∀u∈news,u.oneCell'=true) (hmax:m+q<=maxLen) (hroom:(m+q)*bytes<=140737488355328):
 ∃v' w',(Builtin.append_ #[t,t] ty #[v,.slice (some ad) q c]).run P w= .ok v' w'/\w'.ownsRow 0 T k v' (m+q) (cs++news)/\Keep v.ownBlock.toList w w'/\(∀b,v'.ownBlock=some b->v.ownBlock=some b\/w.heap.size<=b):=by
 rcases ho.2 with ⟨rfl,rfl⟩|⟨g,cap,cur,rfl,hbg,hg,hnc,hcm,hcs,htake⟩
 ·have hcs0:cs=[]:=List.eq_nil_of_length_eq_zero (by simpa using ho.1);subst hcs0;obtain⟨v',w',hr,ho',hg,_⟩:=run_append_own (P:=P) w w.heap.size t ty T inf z k bytes ht hinf hz hsize hby hzs hk0 _ 0 [] (World.ownsRow_nil w w.heap.size T k) ad q c news hl hn h1 hmax hroom (bU _);refine⟨v',w',hr,⟨ho'.1,?_⟩,⟨hg.os,hg.tape,hg.output,hg.size,λb hb _=>hg.block b hb (by simp[Value.ownBlock])⟩,λb hb=>.inr (ho'.lt b hb).1⟩;rcases ho'.2 with h|⟨g,cap,cur,h2,_,h3⟩
  ·exact .inl h
  ·exact .inr ⟨g,cap,cur,h2,Nat.zero_le _,h3⟩
 ·subst hsize;have hsmall:m+q<=9223372036854775807:=by simp only[maxLen] at hmax;omega
  have hlen:(cs++news).length=(m+q)*inf.size:=by rw[aU,ho.1,hl,Nat.add_mul]
  by_cases hroomy:m+q<=cap
  ·have hfit:m*inf.size+news.length<=cur.size:=by rw[hl,hcs,←Nat.add_mul];exact Nat.mul_le_mul_right _ hroomy
   have hr:=run_append_room (P:=P) w t ty T inf ht hinf g m cap cur hg ad q c news hl hn h1 hroomy hfit;refine⟨_,_,hr,⟨hlen,.inr ⟨g,cap,_,rfl,Nat.zero_le _,setRow_heap w g cur _ T _ hg,hroomy,hcm,?_,?_⟩⟩,BO w g _,λb hb=>.inl hb⟩
   ·simp only[List.size_toArray,aU,List.length_take,List.length_drop,Array.length_toList];omega
   ·rw[htake,←hlen];exact List.take_left
  ·have holds:∀j u,cs[j]? =some u->w.cell? ((⟨g,0,none⟩:Addr).add j)=some u:=ho.cells (g:=g) rfl;have hby':(m+q)*inf.bytes<=140737488355328:=by rw[hby];exact hroom
   have hr:=run_append_grow (P:=P) w t ty T inf z ht hinf hz ⟨g,0,none⟩ m cap cs ho.1 holds ad q c news hl hn aA aA (growslice_fits aA hby');have hge:=grownCap_ge w (m+q) cap T;have hcm':grownCap w (m+q) cap T<=maxLen:=grownCap_le_maxLen w (m+q) cap T hmax;refine⟨_,_,hr,⟨hlen,.inr ⟨w.heap.size,_,_,rfl,Nat.zero_le _,heap_alloc_new w.drew _,hge,hcm',?_,?_⟩⟩,⟨rfl,rfl,rfl,by simp,λb hb _=>heap_alloc_old w.drew _ b hb⟩,λb hb=>by cases hb;exact .inr (bU _)⟩
   ·simp only[Array.size_append,List.size_toArray,size_zeroCells,hzs,ho.1,hl,←Nat.add_mul]
    congr 1
    omega
   ·simp only[Array.toList_append,List.append_assoc];rw[←List.append_assoc,←hlen];exact List.take_left
theorem Acg{t T:TypeId}{s x:Operand}{i k bytes m q c:Nat}{v z:Value}{cs news:List Value}{ad:Addr}{inf:TypeInfo}(S:Sx w0 X φ L K n a w)(hs:a.eval s=v)(hi:L[i]? =some (.own v T k m cs))
 (ht:P.underlying t=some (.slice T)) (hinf:P.info? T=some inf) (hz:inf.zero=some z) (hsize:inf.size=k) (hby:inf.bytes=bytes) (hzs:z.cells.size=k) (hk0:Nat.blt 0 k=true)
 (hx:a.eval x= .slice (some ad) q c) (hl:news.length=q*k) (hn:∀j u,news[j]? =some u->w.cell? (ad.add j)=some u) (h1:∀u∈news,u.oneCell'=true) (hb0:Nat.blt 0 bytes=true)
 (hroom:(m+q)*bytes<=140737488355328) (hd:Nat.blt d n=true)
 (kk:∀v' a' w',Keep v.ownBlock.toList w w'->(∀c,v'.ownBlock=some c->v.ownBlock=some c\/w.heap.size<=c)->Sx w0 X φ (L.set i (.own v' T k (m+q) (cs++news))) ((d,v')::K) n a' w'->wpList P ops Q rest a' w'):
 wpList P ops Q ({dst:=some d,op:=.call {callee:=.builtin .append,args:=#[s,x],argTypes:=#[t,t]},type:=ty,pos,after,guard:=none}::rest) a w:=by
 have hb0':0<bytes:=by simpa using hb0
 have hmax:m+q<=maxLen:=by
  have h2:(m+q)*1<=(m+q)*bytes:=Nat.mul_le_mul_left _ hb0';simp only[maxLen];omega
 obtain⟨v',w',hr,ho,hkeep,hfp⟩:=YG (P:=P) (ty:=ty) ht hinf hz hsize hby hzs (by simpa using hk0) v m cs (S.own_at hi) ad q c news hl hn h1 hmax hroom;refine QK (v:=v') (w':=w') ?_ ?_
 ·simp only[execOp,resolve,invoke,builtin,Sem.run_bind,Sem.run_pure,Result.andThen_ok,List.map_toArray,aY,List.map_nil,hs,hx,hr]
 ·exact kk v' _ w' hkeep hfp ((S.change (e':=.own v' T k (m+q) (cs++news)) hi hkeep (by simp[LEnt.fp]) ho hfp).put (by simpa using hd))
theorem l_append{t T:TypeId}{s x:Operand}{i k bytes m q c:Nat}{v z:Value}{cs news:List Value}{ad:Addr}{inf:TypeInfo}(S:Sx w0 X φ L K n a w)(hs:a.eval s=v)(hi:L[i]? =some (.own v T k m cs))
 (ht:P.underlying t=some (.slice T)) (hinf:P.info? T=some inf) (hz:inf.zero=some z) (hsize:inf.size=k) (hby:inf.bytes=bytes) (hzs:z.cells.size=k) (hk0:Nat.blt 0 k=true)
 (hx:a.eval x= .slice (some ad) q c) (hl:news.length=q*k) (hn:∀j u,news[j]? =some u->w.cell? (ad.add j)=some u) (h1:∀u∈news,u.oneCell'=true) (hb0:Nat.blt 0 bytes=true)
 (hroom:(m+q)*bytes<=140737488355328) (hd:Nat.blt d n=true)
 (kk:∀v' a' w',Keep v.ownBlock.toList w w'->Sx w0 X φ (L.set i (.own v' T k (m+q) (cs++news))) ((d,v')::K) n a' w'->wpList P ops Q rest a' w'):
 wpList P ops Q ({dst:=some d,op:=.call {callee:=.builtin .append,args:=#[s,x],argTypes:=#[t,t]},type:=ty,pos,after,guard:=none}::rest) a w:=
 Acg S hs hi ht hinf hz hsize hby hzs hk0 hx hl hn h1 hb0 hroom hd λv' a' w' h _=>kk v' a' w' h
theorem Akn{t T TB:TypeId}{s x:Operand}{i j b k bytes m q:Nat}{v z:Value}{cs news:List Value}{inf:TypeInfo}(S:Sx w0 X φ L K n a w)(hs:a.eval s=v)(hi:L[i]? =some (.own v T k m cs))
 (hx:a.eval x= .slice (some ⟨b,0,none⟩) q q) (hj:L[j]? =some (.blk b news TB))
 (ht:P.underlying t=some (.slice T)) (hinf:P.info? T=some inf) (hz:inf.zero=some z) (hsize:inf.size=k) (hby:inf.bytes=bytes) (hzs:z.cells.size=k) (hk0:Nat.blt 0 k=true)
 (hl:news.length=q*k) (h1:news.all (·.oneCell')=true) (hb0:Nat.blt 0 bytes=true)
 (hroom:(m+q)*bytes<=140737488355328) (hd:Nat.blt d n=true)
 (kk:∀v' a' w',Keep v.ownBlock.toList w w'->(∀c,v'.ownBlock=some c->v.ownBlock=some c\/w.heap.size<=c)->Sx w0 X φ (L.set i (.own v' T k (m+q) (cs++news))) ((d,v')::K) n a' w'->wpList P ops Q rest a' w'):
 wpList P ops Q ({dst:=some d,op:=.call {callee:=.builtin .append,args:=#[s,x],argTypes:=#[t,t]},type:=ty,pos,after,guard:=none}::rest) a w:=
 Acg S hs hi ht hinf hz hsize hby hzs hk0 hx hl (λjj u hu=>by rw[BP];exact S.cellsAt hj jj u hu) (λu hu=>List.all_eq_true.1 h1 u hu) hb0 hroom hd kk
theorem Aey{ψ:View}{k:Nat}{ao:Option Addr}{cap:Nat}{rows:List (List Value)}{l h:Nat}(hlh:l<=h)(hh:h<=rows.length)
 (h2:rows.length<=cap) (h3:cap<=maxLen) (h4:ao=none->cap=0) (h5:∀ad,ao=some ad->ad.spot=none/\∀i cs,rows[i]? =some cs->cs.length=k/\Mem ψ ad.block (ad.off+i*k) cs):
 Slc ψ k (.slice (if cap=l then ao else ao.map (·.add (l*k))) (h-l) (cap-l)) ((rows.take h).drop l):=by
 have hlen:((rows.take h).drop l).length=h-l:=by simp;omega
 refine⟨_,cap-l,by rw[hlen],by rw[hlen];omega,by omega,?_,?_⟩
 ·intro hn
  split at hn
  ·have:=h4 hn;omega
  ·cases ao with
   |none=>have:=h4 rfl;omega
   |some ad=>cases hn
 ·intro ad had;have hrow:∀i cs,((rows.take h).drop l)[i]? =some cs->rows[l+i]? =some cs:=by
   intro i cs hi;rw[List.getElem?_drop,List.getElem?_take] at hi
   split at hi
   ·exact hi
   ·cases hi
  split at had
  ·rename_i hcl;obtain⟨h6,h7⟩:=h5 ad had;refine⟨h6,λi cs hi=>?_⟩;exfalso;have hlt:i<((rows.take h).drop l).length:=by
    rcases Nat.lt_or_ge i ((rows.take h).drop l).length with h'|h'
    ·exact h'
    ·rw[List.getElem?_eq_none h'] at hi;cases hi
   omega
  ·cases ao with
   |none=>cases had
   |some ad0=>
    obtain⟨h6,h7⟩:=h5 ad0 rfl;obtain⟨b,off,sp⟩:=ad0
    cases h6
    simp only[Option.map_some,Option.some.injEq] at had;rw[BP] at had;subst had;refine⟨rfl,λi cs hi=>?_⟩;have h8:=h7 (l+i) cs (hrow i cs hi);refine⟨h8.1,?_⟩;show Mem ψ b (off+l*k+i*k) cs;have:off+l*k+i*k=off+(l+i)*k:=by rw[Nat.add_mul];omega
    rw[this];exact h8.2
section cuts
variable {ψ:View}{T el:TypeId}{x y y':Operand}{v:Value}{rows:List (List Value)}{l h k:Nat}{zl zh:Int}{k1 k2:IntKind}
variable (ht:P.underlying T=some (.slice el))(hsz:∀w,(sizeOf el).run P w= .ok k w)(hs:Slc ψ k v rows)(hx:a.eval x=v)
include ht hsz hs hx
theorem rn_cut3{y2:Operand}{k3:IntKind}(hy:a.eval y= .int k1 zl)(hy':a.eval y'= .int k2 zh)(hy2:a.eval y2= .int k3 zh)(hl:zl=(l:Int))(hh:zh=(h:Int))(hlh:l<=h)(hhn:h<=rows.length):
 ∃v',Slc ψ k v' ((rows.take h).drop l)/\∀w,Rn P a w (.slice T x (some y) (some y') (some y2)) ty v':=by
 obtain⟨ao,cap,rfl,h2,h3,h4,h5⟩:=hs;have hc:=Aey (ψ:=ψ) (k:=k) (ao:=ao) (cap:=h) (rows:=rows.take h) (l:=l) (h:=h) hlh aD aD aA (λe=>by have:=h4 e;omega) (λad e=>⟨(h5 ad e).1,λi cs hi=>(h5 ad e).2 i cs (by rw[List.getElem?_take] at hi;split at hi;exact hi;cases hi)⟩);rw[List.take_take,Nat.min_self] at hc;refine⟨_,hc,?_⟩;intro w dd p e g;subst hl hh;have h6:h<=cap:=by omega
 simp[execOp,hx,hy,hy',hy2,Instr.sliceAt,run_underlying ht,Instr.slice,Instr.sliceBounds,Instr.sliceBound,asIntOf,h6,hlh,hsz]
theorem rn_cutl(hy:a.eval y= .int k1 zl)(hl:zl=(l:Int))(hln:l<=rows.length):
 ∃v',Slc ψ k v' (rows.drop l)/\∀w,Rn P a w (.slice T x (some y) none none) ty v':=by
 obtain⟨ao,cap,rfl,h2,h3,h4,h5⟩:=hs;have hc:=Aey (l:=l) (h:=rows.length) aA (bU _) h2 h3 h4 h5;rw[List.take_length] at hc;refine⟨_,hc,?_⟩;intro w dd p e g;subst hl;simp[execOp,hx,hy,Instr.sliceAt,run_underlying ht,Instr.slice,Instr.sliceBounds,Instr.sliceBound,asIntOf,hln,hsz]
theorem rn_cuth(hy':a.eval y'= .int k2 zh)(hh:zh=(h:Int))(hhn:h<=rows.length):
 ∃v',Slc ψ k v' (rows.take h)/\∀w,Rn P a w (.slice T x none (some y') none) ty v':=by
 obtain⟨ao,cap,rfl,h2,h3,h4,h5⟩:=hs;have hc:=Aey (l:=0) (h:=h) aA hhn h2 h3 h4 h5;rw[List.drop_zero] at hc;refine⟨_,hc,?_⟩;intro w dd p e g;subst hh;have h6:h<=cap:=by omega
 simp[execOp,hx,hy',Instr.sliceAt,run_underlying ht,Instr.slice,Instr.sliceBounds,Instr.sliceBound,asIntOf,h6,hsz]
end cuts
theorem Apl{T:TypeId}{x y:Operand}{s:ByteArray}{j:Nat}{z:Int}{kk:IntKind}{u:UInt8}(ht:P.underlying T=some .string)(hx:a.eval x= .string s)(hy:a.eval y= .int kk z)(hz:z=(j:Int))(hu:s[j]? =some u):
 Rn P a w (.index T x y) ty (.int .u8 u.toNat):=by
 intro dd p e g;subst hz;simp[execOp,hx,hy,Instr.index,asIntOf,run_underlying ht,hu]
theorem rn_scut2{T:TypeId}{x y y':Operand}{s:ByteArray}{l h:Nat}{zl zh:Int}{k1 k2:IntKind}(ht:P.underlying T=some .string)(hx:a.eval x= .string s)(hy:a.eval y= .int k1 zl)(hy':a.eval y'= .int k2 zh)
 (hl:zl=(l:Int)) (hh:zh=(h:Int)) (hlh:l<=h) (hhn:h<=s.size):Rn P a w (.slice T x (some y) (some y') none) ty (.string (s.extract l h)):=by
 intro dd p e g;subst hl hh;simp[execOp,hx,hy,hy',Instr.sliceAt,run_underlying ht,Instr.slice,Instr.sliceBounds,Instr.sliceBound,asIntOf,hhn,hlh]
theorem rn_scutl{T:TypeId}{x y:Operand}{s:ByteArray}{l:Nat}{zl:Int}{k1:IntKind}(ht:P.underlying T=some .string)(hx:a.eval x= .string s)(hy:a.eval y= .int k1 zl)
 (hl:zl=(l:Int)) (hhn:l<=s.size):Rn P a w (.slice T x (some y) none none) ty (.string (s.extract l s.size)):=by
 intro dd p e g;subst hl;simp[execOp,hx,hy,Instr.sliceAt,run_underlying ht,Instr.slice,Instr.sliceBounds,Instr.sliceBound,asIntOf,hhn]
theorem rn_scuth{T:TypeId}{x y':Operand}{s:ByteArray}{h:Nat}{zh:Int}{k2:IntKind}(ht:P.underlying T=some .string)(hx:a.eval x= .string s)(hy':a.eval y'= .int k2 zh)
 (hh:zh=(h:Int)) (hhn:h<=s.size):Rn P a w (.slice T x none (some y') none) ty (.string (s.extract 0 h)):=by
 intro dd p e g;subst hh;simp[execOp,hx,hy',Instr.sliceAt,run_underlying ht,Instr.slice,Instr.sliceBounds,Instr.sliceBound,asIntOf,hhn]
end
end Go.Proofs.YthlielagemkjcaaGreatDoor
