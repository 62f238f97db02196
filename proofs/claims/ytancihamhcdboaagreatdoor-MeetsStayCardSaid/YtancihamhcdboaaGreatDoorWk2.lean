/- Each Go function computes its plain twin,by program. -/
import Derived.Test.YtancihamhcdboaaGreatDoorWk1
namespace Go.Proofs.YtancihamhcdboaaGreatDoor
open Go
open Go.Proofs.Tryz
set_option maxRecDepth 20000 in
theorem Wj (w : World) (Ab : Value) (Ae : List Dx) (Ag : Slc (view w []) 11 Ab (Ae.map Dx.enc)) (r : Int) (h : Ot Ae = some r) :
    Calls prog 22 [Ab].toArray w (Ret w [] fun _ v _=>v = iV r):=by
 refine Fe func22 rfl ntmps22 rfl fun a S=>?_
 unfold Ot at h
 replace S:=S.k1 0 rfl
 refine Fr (Vk S rfl rfl fun a S=>Dl (Fs (Fr (Vm S rfl rfl fun a S=>lv S (Fq La (S.tm rfl) (Fm Ag)) rfl fun a S=>Vq S Jj rfl rfl rfl ?_))));clear S;intro a S
 refine Dl (Fc h (S.tm rfl) (fun hb1 h=>?_) (fun hb1 h=>?_))
 ·refine Fr (Vk S rfl rfl fun a S=>Dl (wp_ret (Ec ?_)))
  obtain rfl:=Option.some.inj h
  exact Eu S results22 rfl rfl
 ·refine wp_skip (Tn (Fr (Rc (κ:=Eo) (ν:=Bool) S rfl (fun x=>Value.agg (Eo.enc x).toArray) Value.bool ?_)));clear S;intro a w1 b1 hz1 hk1 S
  refine Va S rfl rfl fun a S=>Dz (Vk S rfl rfl fun a S=>Dl (Fs (Fs (Fg ?_))))
  refine Vm S rfl rfl fun a S=>lv S (Fq La (S.tm rfl) (Fm Ag)) rfl fun a S=>lv S (Rm rfl) rfl fun a S=>Dl ?_
  replace S:=(S.nl [.map b1 (Ft (fun x=>Value.agg (Eo.enc x).toArray) Value.bool ([] : List (Eo × Bool))) ([] : List (Eo × Bool)).length] [true] rfl).k6 0 3 4 12 13 14 rfl
  obtain ⟨j1,hj1,h⟩:=Ey h
  refine Es (fun a w'=>∃ x1 : List (Eo × Bool),∃ x2 : Bool,j1 x1 x2 = some r ∧ Sx w [] nov [.map b1 (Ft (fun x=>Value.agg (Eo.enc x).toArray) Value.bool x1) x1.length] [(4,bV x2)] 48 a w') ?_ ?_
  ·refine wp_block (Gz (fun (ys1 : List Dx) a w'=>∃ i1 : Nat,∃ x1 : List (Eo × Bool),∃ x2 : Bool,(∃ dn,Ae = dn ++ ys1 ∧ dn.length = i1) ∧ Ir Ae j1 ys1 i1 x1 x2 = some r ∧ Sx w [] nov [.map b1 (Ft (fun x=>Value.agg (Eo.enc x).toArray) Value.bool x1) x1.length] [(0,Ab),(3,.map (some b1)),(4,bV x2),(12,Ab),(13,iV (Ae.length : Int)),(14,iV (i1 : Int))] 48 a w') List.length Ae ⟨0,([] : List (Eo × Bool)),false,⟨[],rfl,rfl⟩,h,S.nf [true] rfl (subR rfl)⟩ ?_)
   clear S h;rintro ys1 a w2 ⟨i1,x1,x2,⟨dn,hd1,hi1⟩,h,S⟩
   cases ys1 with
   | nil =>
    rw [Ir.eq_1] at h
    refine Fr (Vb S Ev rfl rfl rfl fun a S=>Ld ?_)
    replace S:=S.k7 0 3 4 12 13 14 15 rfl
    exact Tn (Fs (wp_cond_false ((S.tm rfl).trans (congrArg Value.bool (Im hd1 hi1))) (wp_exit (Ep (Ep (Gr (Tn (⟨x1,x2,h,S.nf [true] rfl ⟨rfl,trivial⟩⟩))))))))
   | cons y1 ys1 =>
    rw [Ir.eq_2] at h
    refine Fr (Vb S Ev rfl rfl rfl fun a S=>Ld ?_)
    replace S:=S.k7 0 3 4 12 13 14 15 rfl
    refine Tn (Fs (wp_cond_true ((S.tm rfl).trans (congrArg Value.bool (Hr hd1 hi1))) (wp_skip (Tn (Fs (wp_block (Fr (Vm S rfl rfl ?_))))))));clear S;intro a S
    obtain ⟨b2,o1,hm1,hr1⟩:=Fh (a:=a) (x:=.tmp 12) (y:=.tmp 14) (ty:=0) La Ag (Iv hd1 hi1) rfl (S.tm rfl) (S.tm rfl)
    refine lv S (hr1 _) rfl ?_;clear S;intro a S
    clear hr1
    refine lv S (Fk isAgg41 sizeOf41 (off:=o1) (o:=0) (part:=(Dx.enc y1)) rfl rfl (S.tm rfl) (hm1.at S.emb0)) rfl fun a S=>Hu S zeroValue41 (cs:=[sV An,iV 0,iV 0,iV 0,sV An,sV An,sV An,iV 0,iV 0,sV An,iV 0]) rfl rfl ?_;clear S;intro a w4 b3 hz2 hk2 S
    refine Va S rfl rfl fun a S=>Fj S (S.tm rfl) (S.tm rfl) (i:=0) (off:=0) rfl sizeOf41 (vs:=(Dx.enc y1)) rfl rfl rfl rfl ?_;clear S;intro w5 hk3 S
    refine Dl (Fs (Fr (lv S (Fk isAgg41 sizeOf41 (off:=0) (o:=0) (part:=(Dx.enc y1)) rfl rfl (S.tm rfl) (S.cellsAt (i:=0) rfl)) rfl ?_)));clear S;intro a S
    obtain ⟨r1,hr2,h⟩:=Fd h
    refine Ei S (fun _=>Ea (vs:=[.agg (Dx.enc y1).toArray]) ⟨(S.tm rfl),trivial⟩ call48) (GT _ y1 _ hr2) rfl ?_;clear S;intro v1 a w6 hv1 hk4 hn1 S
    subst hv1
    refine Va S rfl rfl fun a S=>Ld ?_
    replace S:=(S.nl [.blk b3 (Dx.enc y1) 41,.map b1 (Ft (fun x=>Value.agg (Eo.enc x).toArray) Value.bool x1) x1.length] [true,true] rfl).k9 0 3 4 5 6 7 12 13 14 rfl
    refine Tn (Fr (Vm S rfl rfl fun a S=>Vq S Lf rfl rfl rfl fun a S=>Dl (Fc h (S.tm rfl) (fun hb2 h=>?_) (fun hb2 h=>?_))))
    ·refine Fr (Vm S rfl rfl fun a S=>Va S rfl rfl fun a S=>Dl (wp_ret (Ec (Ga (Ec (Ec ?_))))))
     refine Ga (Ec (Ec ?_))
     obtain rfl:=Option.some.inj h
     exact Eu S results22 rfl rfl
    ·refine wp_skip (Tn (Fs (Fs ?_)))
     obtain ⟨j2,hj2,h⟩:=Ey h
     refine Es (fun a w'=>∃ x3 : Bool,j2 x3 = some r ∧ Sx w [] nov [.blk b3 (Dx.enc y1) 41,.map b1 (Ft (fun x=>Value.agg (Eo.enc x).toArray) Value.bool x1) x1.length] [(0,Ab),(3,.map (some b1)),(4,bV x2),(6,.pointer (some ⟨b3,0,none⟩)),(12,Ab),(13,iV (Ae.length : Int)),(14,iV (i1 : Int)),(35,bV x3)] 48 a w') ?_ ?_
     ·rcases Bool.eq_false_or_eq_true (decide (0 < (i1 : Int))) with hb3 | hb3
      ·replace h:=Rg h hb3
       obtain ⟨hc1,h⟩:=Ij h
       refine Hd [] ([]) Tryz.mixed S rfl (by kernel_rfl) ?_;clear S;intro w9 hk6 hsel S
       refine Ek 0 S hsel rfl rfl rfl (by kernel_rfl) (by kernel_rfl) rfl (fun _ hw=>(Rm (S.tm rfl))) fun a S=>Ek 1 S hsel rfl rfl rfl (by kernel_rfl) (by kernel_rfl) rfl (fun _ hw=>(Jj (S.tm rfl) rfl)) fun a S=>Ek 2 S hsel rfl rfl rfl (by kernel_rfl) (by kernel_rfl) rfl (fun _ hw=>(Rm (S.tm rfl))) fun a S=>Et 3 S hsel rfl rfl rfl rfl hb3 rfl rfl (by kernel_rfl) (by kernel_rfl) rfl (fun _ hw=>(Rm (S.tm rfl))) fun a S=>Et 4 S hsel rfl rfl rfl rfl hb3 rfl rfl (by kernel_rfl) (by kernel_rfl) rfl (fun _ hw=>(Rm (S.tm rfl))) fun a S=>Et 5 S hsel rfl rfl rfl rfl hb3 rfl rfl (by kernel_rfl) (by kernel_rfl) rfl (fun _ hw=>(Iy (S.tm rfl) rfl)) ?_;clear S;intro a S
       obtain ⟨b5,o3,hm3,hr4⟩:=Fh (a:=a) (x:=.tmp 27) (y:=.tmp 29) (ty:=0) La (Ag.mono (S.le_arg Er)) (Eh hc1).1 (Eh hc1).2 (S.tm rfl) (S.tm rfl)
       refine Et 6 S hsel rfl rfl rfl rfl hb3 rfl rfl (by kernel_rfl) (by kernel_rfl) rfl (fun _ hw=>hr4 _) ?_;clear S;intro a S
       clear hr4
       refine Et 7 S hsel rfl rfl rfl rfl hb3 rfl rfl (by kernel_rfl) (by kernel_rfl) rfl (fun _ hw=>(Fk isAgg41 sizeOf41 (off:=o3) (o:=0) (part:=(Dx.enc (nth Ae (W ((i1 : Int) - 1))))) rfl rfl (S.tm rfl) (hm3.kept hw))) fun a S=>Et 8 S hsel rfl rfl rfl rfl hb3 rfl rfl (by kernel_rfl) (by kernel_rfl) rfl (fun _ hw=>(Fk isAgg41 sizeOf41 (off:=0) (o:=0) (part:=(Dx.enc y1)) rfl rfl (S.tm rfl) ((S.blk_mem (i:=0) (cells:=(Dx.enc y1)) (b:=b3) (T:=41) rfl (Ie (e':=.blk b3 (Dx.enc y1) 41))).kept hw))) fun a S=>Hi 9 (by kernel_rfl) rfl (Ef S rfl rfl rfl hb3 (Ei S (fun _=>Ea (vs:=[.agg (Dx.enc (nth Ae (W ((i1 : Int) - 1)))).toArray,.agg (Dx.enc y1).toArray]) ⟨(S.tm rfl),(S.tm rfl),trivial⟩ call26) (BZ _ (nth Ae (W ((i1 : Int) - 1))) y1 _ rfl) rfl ?_));clear S;intro v3 a w10 hv3 hk7 hn3 S
       subst hv3
       refine Ld (Ik hk7 (Lg [10,11] hsel (by kernel_rfl) rfl ?_))
       clear hsel
       refine Gc S rfl rfl rfl rfl hb3 (Hm S (Rt (S.tm rfl) rfl) rfl fun a S=>Gp S rfl (Qi hb3 (S.tm rfl) (S.tm rfl)) rfl fun a S=>It ?_)
       replace S:=S.k16 0 3 4 6 12 13 14 27 28 29 30 31 32 33 34 35 rfl
       exact Tn (⟨decide (0 ≤ (Kj (nth Ae (W ((i1 : Int) - 1))) y1)),h,S.nf [true,true] rfl (subR rfl)⟩)
      ·replace h:=Rh h hb3
       refine Hd [] ([]) Tryz.mixed S rfl (by kernel_rfl) ?_;clear S;intro w11 hk8 hsel S
       refine Lg [0,1,2,3,4,5,6,7,8,9,10,11] hsel (by kernel_rfl) rfl ?_
       clear hsel
       refine Gp S rfl (Rm (S.tm rfl)) rfl fun a S=>Gp S rfl (Jj (S.tm rfl) rfl) rfl fun a S=>Gp S rfl (Rm (S.tm rfl)) rfl ?_;clear S;intro a S
       iterate 8 (refine Qs S rfl rfl rfl rfl (Jw hb3) rfl ?_ rfl;clear S;intro a S)
       refine Gp S rfl (Qj hb3 (S.tm rfl) rfl) rfl fun a S=>It ?_
       replace S:=S.k8 0 3 4 6 12 13 14 35 rfl
       exact Tn (⟨false,h,S.nf [true,true] rfl (subR rfl)⟩)
     clear S h;rintro a w7 ⟨x3,h,S⟩;rw [hj2] at h;clear hj2 j2
     refine Tn (Fc h (S.tm rfl) (fun hb4 h=>?_) (fun hb4 h=>?_))
     ·refine Fr (Vk S rfl rfl fun a S=>Dl (wp_ret (Ec (Ga (Ec (Ec (Ga ?_)))))))
      refine Ec (Ec ?_)
      obtain rfl:=Option.some.inj h
      exact Eu S results22 rfl rfl
     ·refine wp_skip (Tn (Fr (Vm S rfl rfl fun a S=>Vm S rfl rfl fun a S=>Ib 5 (fun a w'=>Keep [] w7 w' ∧ Sx w [] nov [.blk b3 (Dx.enc y1) 41,.map b1 (Ft (fun x=>Value.agg (Eo.enc x).toArray) Value.bool x1) x1.length] [(0,Ab),(3,.map (some b1)),(6,.pointer (some ⟨b3,0,none⟩)),(12,Ab),(13,iV (Ae.length : Int)),(14,iV (i1 : Int)),(42,bV (x2 || (El x1 (En y1) false)))] 48 a w') ?_ ?_)))
      ·rcases Bool.eq_false_or_eq_true x2 with hb5 | hb5
       ·iterate 4 (refine Hh S rfl rfl rfl (Nm hb5) rfl ?_ rfl;clear S;intro a S)
        exact lv S (Lj (El x1 (En y1) false) hb5 (S.tm rfl) rfl) rfl fun a S=>Dl (⟨Keep.refl _ _,S.nf [true,true] rfl (subR rfl)⟩)
       ·refine Ef S rfl rfl rfl hb5 (Vm S rfl rfl fun a S=>Ef S rfl rfl rfl hb5 (lv S (Fk isAgg41 sizeOf41 (off:=0) (o:=0) (part:=(Dx.enc y1)) rfl rfl (S.tm rfl) (S.cellsAt (i:=0) rfl)) rfl fun a S=>Ef S rfl rfl rfl hb5 (Ei S (fun _=>Ea (vs:=[.agg (Dx.enc y1).toArray]) ⟨(S.tm rfl),trivial⟩ call23) (Ub _ y1 _ rfl) rfl ?_)));clear S;intro v4 a w13 hv4 hk9 hn4 S
        subst hv4
        exact Ef S rfl rfl rfl hb5 (lv S (Qk (kv:=(fun x=>Value.agg (Eo.enc x).toArray)) (vv:=Value.bool) (m:=x1) (key:=(En y1)) (z:=false) (S.map_at (i:=1) rfl) underlying114 EF zeroValue4 (S.tm rfl) (S.tm rfl)) rfl fun a S=>lv S (Lk hb5 (S.tm rfl) (S.tm rfl)) rfl fun a S=>Dl (⟨hk9,S.nf [true,true] rfl (subR rfl)⟩))
      clear S;rintro a w12 ⟨hk10,S⟩
      refine Va S rfl rfl fun a S=>Dl (Fg (Vm S rfl rfl fun a S=>lv S (Fk isAgg41 sizeOf41 (off:=0) (o:=0) (part:=(Dx.enc y1)) rfl rfl (S.tm rfl) (S.cellsAt (i:=0) rfl)) rfl fun a S=>Ei S (fun _=>Ea (vs:=[.agg (Dx.enc y1).toArray]) ⟨(S.tm rfl),trivial⟩ call23) (Ub _ y1 _ rfl) rfl ?_));clear S;intro v5 a w14 hv5 hk11 hn5 S
      subst hv5
      refine Oi (kv:=(fun x=>Value.agg (Eo.enc x).toArray)) (vv:=Value.bool) (m:=x1) (key:=(En y1)) (val:=true) S (i:=1) rfl underlying114 EF (S.tm rfl) (S.tm rfl) rfl ?_;clear S;intro w15 hk12 S
      exact Ld (Hn (Tn (Fg (Vq S Gf rfl rfl rfl fun a S=>Vm S rfl rfl fun a S=>Dl (⟨ys1,⟨i1 + 1,(Gw x1 (En y1) true),(x2 || (El x1 (En y1) false)),⟨_,(hd1).trans (List.append_cons _ _ _),by simp [hi1]⟩,h,S.nf [false,true] rfl ⟨rfl,rfl,rfl,rfl,rfl,(congrArg (fun z=>some (Value.int .i64 z)) (Hs hd1 hi1 (Jg Ag))),trivial⟩⟩,Nat.lt_succ_self _⟩)))))
  clear S h;rintro a w3 ⟨x1,x2,h,S⟩;rw [hj1] at h;clear hj1 j1
  refine Tn (Fs (Fr (Vm S rfl rfl fun a S=>Dl (Fc h (S.tm rfl) (fun hb6 h=>?_) (fun hb6 h=>?_)))))
  ·refine Fr (Vk S rfl rfl fun a S=>Dl (wp_ret (Ec ?_)))
   obtain rfl:=Option.some.inj h
   exact Eu S results22 rfl rfl
  ·refine wp_skip (Tn (Fr (Vk S rfl rfl fun a S=>Dl (wp_ret ?_))))
   obtain rfl:=Option.some.inj h
   exact Eu S results22 rfl rfl
theorem DI (w : World) (Ax : Value) (Av : List Dx) (Bg : Slc (view w []) 11 Ax (Av.map Dx.enc)) (r : (List Dx)) (h : Qm Av = some r) :
    Calls prog 24 [Ax].toArray w (Ret w [] fun τ v _=>Up τ 41 11 v r.length (r.flatMap Dx.enc)):=by
 refine Fe func24 rfl ntmps24 rfl fun a S=>?_
 unfold Qm at h
 replace S:=S.k1 0 rfl
 refine Fr (Vk S rfl rfl fun a S=>Dl (Fs (Fr (Vm S rfl rfl fun a S=>lv S (WS underlying34 (Fm Bg) (S.tm rfl) rfl) rfl fun a S=>Ld ?_))))
 refine Tn (WJ (S.tm rfl) (fun hb1=>?_) (fun hb1=>?_))
 ·have hx1:=WR Bg hb1
  subst hx1
  replace h : some ([] : List Dx) = some r:=h
  refine Fr (Vk S rfl rfl fun a S=>Dl (wp_ret (Ec ?_)))
  obtain rfl:=Option.some.inj h
  exact Eu S results24 rfl (Oz _ _ _)
 ·refine wp_skip (Tn (Fr (LJ S underlying34 sizeOf41 rfl ?_)));clear S;intro a w1 b1 hz1 hk1 S
  refine Vm S rfl rfl ?_;clear S;intro a S
  replace S:=S.litOwn (i:=0) (xs:=([] : List Dx)) rfl Dx.enc_ok rfl rfl rfl
  replace S:=S.nk [.own (.slice (some ⟨b1,0,none⟩) 0 0) 41 11 (([] : List Dx) : List Dx).length ((([] : List Dx) : List Dx).flatMap Dx.enc)] [(0,Ax),(2,.slice none 0 0),(3,Ax),(4,bV (nilB Ax)),(5,(.slice (some ⟨b1,0,none⟩) 0 0)),(6,Ax)] [] rfl (subR rfl)
  obtain ⟨hc1,h⟩:=Ij h
  refine HP (Y:=[]) La Dx.enc_ok S (S.tm rfl) (i:=0) rfl (S.tm rfl) (Bg.mono (S.le_arg (fun _ h=>by cases h))) rfl rfl (by have:=Ob hc1;omega) rfl ?_;clear S;intro v1 a w2 hk2 S
  refine Va S rfl rfl fun a S=>Dl (wp_ret ?_)
  obtain rfl:=Option.some.inj h
  exact Eu S results24 rfl (Tt S (i:=0) rfl rfl)
set_option maxRecDepth 20000 in
theorem LK (w : World) (Ac : Int) (r : Int) (h : FI Ac = some r) :
    Calls prog 96 [.int .u32 Ac].toArray w (Ret w [] fun _ v _=>v = iV r):=by
 refine Fe func96 rfl ntmps96 rfl fun a S=>?_
 unfold FI at h
 replace S:=S.k1 0 rfl
 refine Fr (Vk S rfl rfl fun a S=>Dl (Fs (Fr (Vm S rfl rfl fun a S=>Vq S Rt rfl rfl rfl fun a S=>Ld ?_))))
 refine Tn ?_
 obtain ⟨j1,hj1,h⟩:=Ey h
 refine Es (fun a w'=>∃ x1 : Int,∃ x2 : Int,j1 x1 x2 = some r ∧ Sx w [] nov [] [(0,.int .u32 x1),(2,iV x2)] 19 a w') ?_ ?_
 ·refine Fc h (S.tm rfl) (fun hb1 h=>?_) (fun hb1 h=>?_)
  ·refine Fr (Vm S rfl rfl fun a S=>lv S (Wp (S.tm rfl) rfl (by decide)) rfl fun a S=>Va S rfl rfl fun a S=>Dl (Fg (Vk S rfl rfl fun a S=>Dl ?_)))
   exact ⟨Hf .u32 Ac 16,16,h,S.nf [] rfl (subR rfl)⟩
  ·exact wp_skip (Tn (⟨Ac,0,h,S.nf [] rfl (subR rfl)⟩))
 clear S h;rintro a w1 ⟨x1,x2,h,S⟩;rw [hj1] at h;clear hj1 j1
 refine Tn (Fs (Fr (Vm S rfl rfl fun a S=>Vq S Rt rfl rfl rfl fun a S=>Dl ?_)))
 obtain ⟨j2,hj2,h⟩:=Ey h
 refine Es (fun a w'=>∃ x3 : Int,∃ x4 : Int,j2 x3 x4 = some r ∧ Sx w [] nov [] [(0,.int .u32 x3),(2,iV x4)] 19 a w') ?_ ?_
 ·refine Fc h (S.tm rfl) (fun hb2 h=>?_) (fun hb2 h=>?_)
  ·refine Fr (Vm S rfl rfl fun a S=>lv S (Wp (S.tm rfl) rfl (by decide)) rfl fun a S=>Va S rfl rfl fun a S=>Dl (Fg (Vm S rfl rfl fun a S=>Vq S Gf rfl rfl rfl fun a S=>Va S rfl rfl ?_)));clear S;intro a S
   exact Dl (⟨Hf .u32 x1 8,W (x2 + 8),h,S.nf [] rfl (subR rfl)⟩)
  ·exact wp_skip (Tn (⟨x1,x2,h,S.nf [] rfl (subR rfl)⟩))
 clear S h;rintro a w2 ⟨x3,x4,h,S⟩;rw [hj2] at h;clear hj2 j2
 refine Tn (Fr (Vm S rfl rfl fun a S=>Vm S rfl rfl fun a S=>Vu S (Wb underlying167 underlying5) rfl rfl ?_));clear S;intro a S
 obtain ⟨hc1,h⟩:=Ij h
 refine lv S (Zd underlying9 rfl (S.tm rfl) hc1) rfl fun a S=>Vu S (Wb underlying5 underlying3) rfl rfl fun a S=>Vb S Gf rfl rfl rfl fun a S=>Va S rfl rfl fun a S=>Dl (wp_ret ?_)
 obtain rfl:=Option.some.inj h
 exact Eu S results96 rfl rfl
set_option maxRecDepth 20000 in
theorem FC (w : World) (Ac : Int) (r : Int) (h : BK Ac = some r) :
    Calls prog 97 [.int .u64 Ac].toArray w (Ret w [] fun _ v _=>v = iV r):=by
 refine Fe func97 rfl ntmps97 rfl fun a S=>?_
 unfold BK at h
 replace S:=S.k1 0 rfl
 refine Fr (Vk S rfl rfl fun a S=>Dl (Fs (Fr (Vm S rfl rfl fun a S=>Vq S Rt rfl rfl rfl fun a S=>Ld ?_))))
 refine Tn ?_
 obtain ⟨j1,hj1,h⟩:=Ey h
 refine Es (fun a w'=>∃ x1 : Int,∃ x2 : Int,j1 x1 x2 = some r ∧ Sx w [] nov [] [(0,.int .u64 x1),(2,iV x2)] 25 a w') ?_ ?_
 ·refine Fc h (S.tm rfl) (fun hb1 h=>?_) (fun hb1 h=>?_)
  ·refine Fr (Vm S rfl rfl fun a S=>lv S (Wp (S.tm rfl) rfl (by decide)) rfl fun a S=>Va S rfl rfl fun a S=>Dl (Fg (Vk S rfl rfl fun a S=>Dl ?_)))
   exact ⟨Hf .u64 Ac 32,32,h,S.nf [] rfl (subR rfl)⟩
  ·exact wp_skip (Tn (⟨Ac,0,h,S.nf [] rfl (subR rfl)⟩))
 clear S h;rintro a w1 ⟨x1,x2,h,S⟩;rw [hj1] at h;clear hj1 j1
 refine Tn (Fs (Fr (Vm S rfl rfl fun a S=>Vq S Rt rfl rfl rfl fun a S=>Dl ?_)))
 obtain ⟨j2,hj2,h⟩:=Ey h
 refine Es (fun a w'=>∃ x3 : Int,∃ x4 : Int,j2 x3 x4 = some r ∧ Sx w [] nov [] [(0,.int .u64 x3),(2,iV x4)] 25 a w') ?_ ?_
 ·refine Fc h (S.tm rfl) (fun hb2 h=>?_) (fun hb2 h=>?_)
  ·refine Fr (Vm S rfl rfl fun a S=>lv S (Wp (S.tm rfl) rfl (by decide)) rfl fun a S=>Va S rfl rfl fun a S=>Dl (Fg (Vm S rfl rfl fun a S=>Vq S Gf rfl rfl rfl fun a S=>Va S rfl rfl ?_)));clear S;intro a S
   exact Dl (⟨Hf .u64 x1 16,W (x2 + 16),h,S.nf [] rfl (subR rfl)⟩)
  ·exact wp_skip (Tn (⟨x1,x2,h,S.nf [] rfl (subR rfl)⟩))
 clear S h;rintro a w2 ⟨x3,x4,h,S⟩;rw [hj2] at h;clear hj2 j2
 refine Tn (Fs (Fr (Vm S rfl rfl fun a S=>Vq S Rt rfl rfl rfl fun a S=>Dl ?_)))
 obtain ⟨j3,hj3,h⟩:=Ey h
 refine Es (fun a w'=>∃ x5 : Int,∃ x6 : Int,j3 x5 x6 = some r ∧ Sx w [] nov [] [(0,.int .u64 x5),(2,iV x6)] 25 a w') ?_ ?_
 ·refine Fc h (S.tm rfl) (fun hb3 h=>?_) (fun hb3 h=>?_)
  ·refine Fr (Vm S rfl rfl fun a S=>lv S (Wp (S.tm rfl) rfl (by decide)) rfl fun a S=>Va S rfl rfl fun a S=>Dl (Fg (Vm S rfl rfl fun a S=>Vq S Gf rfl rfl rfl fun a S=>Va S rfl rfl ?_)));clear S;intro a S
   exact Dl (⟨Hf .u64 x3 8,W (x4 + 8),h,S.nf [] rfl (subR rfl)⟩)
  ·exact wp_skip (Tn (⟨x3,x4,h,S.nf [] rfl (subR rfl)⟩))
 clear S h;rintro a w3 ⟨x5,x6,h,S⟩;rw [hj3] at h;clear hj3 j3
 refine Tn (Fr (Vm S rfl rfl fun a S=>Vm S rfl rfl fun a S=>Vu S (Wb underlying169 underlying5) rfl rfl ?_));clear S;intro a S
 obtain ⟨hc1,h⟩:=Ij h
 refine lv S (Zd underlying9 rfl (S.tm rfl) hc1) rfl fun a S=>Vu S (Wb underlying5 underlying3) rfl rfl fun a S=>Vb S Gf rfl rfl rfl fun a S=>Va S rfl rfl fun a S=>Dl (wp_ret ?_)
 obtain rfl:=Option.some.inj h
 exact Eu S results97 rfl rfl
theorem DJ (w : World) (Ac : Int) (r : Int) (h : AJ Ac = some r) :
    Calls prog 50 [.int .u64 Ac].toArray w (Ret w [] fun _ v _=>v = iV r):=by
 refine Fe func50 rfl ntmps50 rfl fun a S=>?_
 unfold AJ at h
 replace S:=S.k1 0 rfl
 refine Fr (Vk S rfl rfl fun a S=>Dl (Fs (Fc h rfl (fun hb1 h=>?_) (fun hb1 h=>?_))))
 ·refine Fr (Vm S rfl rfl fun a S=>Vu S (Wb underlying117 underlying167) rfl rfl ?_);clear S;intro a S
  obtain ⟨r1,hr1,h⟩:=Fd h
  refine Ei S (fun _=>Ea (vs:=[.int .u32 (IntKind.wrap .u32 Ac)]) ⟨(S.tm rfl),trivial⟩ call96) (LK _ (IntKind.wrap .u32 Ac) _ hr1) rfl ?_;clear S;intro v1 a w1 hv1 hk1 hn1 S
  subst hv1
  refine Va S rfl rfl fun a S=>Dl (wp_ret (Ec ?_))
  obtain rfl:=Option.some.inj h
  exact Eu S results50 rfl rfl
 ·refine wp_skip (Tn (Fr (Vm S rfl rfl ?_)));clear S;intro a S
  obtain ⟨r2,hr2,h⟩:=Fd h
  refine Ei S (fun _=>Ea (vs:=[.int .u64 Ac]) ⟨(S.tm rfl),trivial⟩ call97) (FC _ Ac _ hr2) rfl ?_;clear S;intro v2 a w2 hv2 hk2 hn2 S
  subst hv2
  refine Va S rfl rfl fun a S=>Dl (wp_ret ?_)
  obtain rfl:=Option.some.inj h
  exact Eu S results50 rfl rfl
set_option maxRecDepth 20000 in
theorem Rv (w : World) (O : Value) (Ai : List Dx) (Be : (LEnt.own O 41 11 Ai.length (Ai.flatMap Dx.enc)).holds w) (Aj : Int) (Al : Int) (r : (List Dx)) (h : Ix Ai Aj Al = some r) :
    Calls prog 88 [O,iV Aj,iV Al,.func (.func 26) #[] #[]].toArray w (Ret w (O.ownBlock.toList) fun _ v w'=>(LEnt.own O 41 11 r.length (r.flatMap Dx.enc)).holds w' ∧ v = .tuple #[]):=by
 refine Lb (O.ownBlock.toList) [.own O 41 11 Ai.length (Ai.flatMap Dx.enc)] func88 rfl ntmps88 rfl (fun e he=>by simp only [List.mem_singleton] at he;subst he;exact Be) (Iu _) (Js _) fun a S=>?_
 unfold Ix at h
 replace S:=(S.nl [.own O 41 11 Ai.length (Ai.flatMap Dx.enc)] [true] rfl).k4 0 1 2 3 rfl
 refine Fr (Vm S rfl rfl fun a S=>Vq S Gf rfl rfl rfl fun a S=>Va S rfl rfl fun a S=>Dl ?_)
 replace S:=S.k5 0 1 2 3 8 rfl
 obtain ⟨j1,hj1,h⟩:=Ey h
 refine Es (fun a w'=>∃ x1 : List Dx,j1 x1 = some r ∧ Sx w (O.ownBlock.toList) nov [.own O 41 11 x1.length (x1.flatMap Dx.enc)] [] 53 a w') ?_ ?_
 ·refine wp_block (Gz (fun (m1 : Nat) a w'=>∃ x1 : List Dx,∃ x2 : Int,Gg Al Aj j1 m1 x1 x2 = some r ∧ Sx w (O.ownBlock.toList) nov [.own O 41 11 x1.length (x1.flatMap Dx.enc)] [(0,O),(1,iV Aj),(2,iV Al),(3,.func (.func 26) #[] #[]),(8,iV x2)] 53 a w') id ((Al - (W (Aj + 1))).toNat + 2) ⟨Ai,W (Aj + 1),h,S.nf [true] rfl (subR rfl)⟩ ?_)
  clear S h;rintro m1 a w1 ⟨x1,x2,h,S⟩
  cases m1 with
  | zero=>rw [Gg.eq_1] at h;cases h
  | succ m1 =>
   rw [Gg.eq_2] at h
   refine Fs (Fr (Vm S rfl rfl fun a S=>Vm S rfl rfl fun a S=>Vb S Ev rfl rfl rfl fun a S=>Dl (Fc h (S.tm rfl) (fun hb1 h=>?_) (fun hb1 h=>?_))))
   ·refine wp_skip (Tn (Fs (wp_block (Fr (Vm S rfl rfl fun a S=>Va S rfl rfl fun a S=>Dl ?_)))))
    replace S:=S.k6 0 1 2 3 8 9 rfl
    obtain ⟨j2,hj2,h⟩:=Ey h
    refine Es (fun a w'=>∃ x3 : List Dx,j2 x3 = some r ∧ Sx w (O.ownBlock.toList) nov [.own O 41 11 x3.length (x3.flatMap Dx.enc)] [(0,O),(1,iV Aj),(2,iV Al),(3,.func (.func 26) #[] #[]),(8,iV x2)] 53 a w') ?_ ?_
    ·refine wp_block (Gz (fun (m2 : Nat) a w'=>∃ x3 : List Dx,∃ x4 : Int,Fi Aj j2 m2 x3 x4 = some r ∧ Sx w (O.ownBlock.toList) nov [.own O 41 11 x3.length (x3.flatMap Dx.enc)] [(0,O),(1,iV Aj),(2,iV Al),(3,.func (.func 26) #[] #[]),(8,iV x2),(9,iV x4)] 53 a w') id ((x2 - Aj).toNat + 2) ⟨x1,x2,h,S.nf [true] rfl (subR rfl)⟩ ?_)
     clear S h;rintro m2 a w3 ⟨x3,x4,h,S⟩
     cases m2 with
     | zero=>rw [Fi.eq_1] at h;cases h
     | succ m2 =>
      rw [Fi.eq_2] at h
      refine Fs (Fs ?_)
      obtain ⟨j3,hj3,h⟩:=Ey h
      refine Es (fun a w'=>∃ x5 : Bool,j3 x5 = some r ∧ Sx w (O.ownBlock.toList) nov [.own O 41 11 x3.length (x3.flatMap Dx.enc)] [(0,O),(1,iV Aj),(2,iV Al),(3,.func (.func 26) #[] #[]),(8,iV x2),(9,iV x4),(34,bV x5)] 53 a w') ?_ ?_
      ·rcases Bool.eq_false_or_eq_true (decide (Aj < x4)) with hb2 | hb2
       ·replace h:=Rg h hb2
        obtain ⟨hc1,h⟩:=Ij h
        obtain ⟨hc2,h⟩:=Ij h
        refine Hd [] ([]) Tryz.mixed S rfl (by kernel_rfl) ?_;clear S;intro w7 hk2 hsel S
        refine Ek 0 S hsel rfl rfl rfl (by kernel_rfl) (by kernel_rfl) rfl (fun _ hw=>(Rm (S.tm rfl))) fun a S=>Ek 1 S hsel rfl rfl rfl (by kernel_rfl) (by kernel_rfl) rfl (fun _ hw=>(Rm (S.tm rfl))) fun a S=>Ek 2 S hsel rfl rfl rfl (by kernel_rfl) (by kernel_rfl) rfl (fun _ hw=>(Jj (S.tm rfl) (S.tm rfl))) fun a S=>Ek 3 S hsel rfl rfl rfl (by kernel_rfl) (by kernel_rfl) rfl (fun _ hw=>(Rm (S.tm rfl))) fun a S=>Et 4 S hsel rfl rfl rfl rfl hb2 rfl rfl (by kernel_rfl) (by kernel_rfl) rfl (fun _ hw=>(Rm (S.tm rfl))) fun a S=>Et 5 S hsel rfl rfl rfl rfl hb2 rfl rfl (by kernel_rfl) (by kernel_rfl) rfl (fun _ hw=>(Rm (S.tm rfl))) fun a S=>Et 6 S hsel rfl rfl rfl rfl hb2 rfl rfl (by kernel_rfl) (by kernel_rfl) rfl (fun _ hw=>(Rm (S.tm rfl))) ?_;clear S;intro a S
        obtain ⟨b3,hg3,hr3⟩:=Gx (a:=a) (x:=.tmp 23) (y:=.tmp 24) (ty:=0) La Dx.enc_ok S (i:=0) rfl (Eh hc1).1 (Eh hc1).2 (S.tm rfl) (S.tm rfl)
        refine Et 7 S hsel rfl rfl rfl rfl hb2 rfl rfl (by kernel_rfl) (by kernel_rfl) rfl (fun _ hw=>(hr3 _)) ?_;clear S;intro a S
        clear hr3
        refine Et 8 S hsel rfl rfl rfl rfl hb2 rfl rfl (by kernel_rfl) (by kernel_rfl) rfl (fun _ hw=>(Fk isAgg41 sizeOf41 (off:=x4.toNat * 11) (o:=0) (part:=(Dx.enc (nth x3 x4))) rfl rfl (S.tm rfl) ((Ns Dx.enc_ok S (i:=0) rfl hg3 (Eh hc1).1 (Ie (e':=.own O 41 11 x3.length (x3.flatMap Dx.enc)))).kept hw))) fun a S=>Et 9 S hsel rfl rfl rfl rfl hb2 rfl rfl (by kernel_rfl) (by kernel_rfl) rfl (fun _ hw=>(Rm (S.tm rfl))) fun a S=>Et 10 S hsel rfl rfl rfl rfl hb2 rfl rfl (by kernel_rfl) (by kernel_rfl) rfl (fun _ hw=>(Rm (S.tm rfl))) fun a S=>Et 11 S hsel rfl rfl rfl rfl hb2 rfl rfl (by kernel_rfl) (by kernel_rfl) rfl (fun _ hw=>(Iy (S.tm rfl) rfl)) ?_;clear S;intro a S
        obtain ⟨b4,hg4,hr4⟩:=Gx (a:=a) (x:=.tmp 27) (y:=.tmp 29) (ty:=0) La Dx.enc_ok S (i:=0) rfl (Eh hc2).1 (Eh hc2).2 (S.tm rfl) (S.tm rfl)
        refine Et 12 S hsel rfl rfl rfl rfl hb2 rfl rfl (by kernel_rfl) (by kernel_rfl) rfl (fun _ hw=>(hr4 _)) ?_;clear S;intro a S
        clear hr4
        refine Et 13 S hsel rfl rfl rfl rfl hb2 rfl rfl (by kernel_rfl) (by kernel_rfl) rfl (fun _ hw=>(Fk isAgg41 sizeOf41 (off:=((W (x4 - 1)).toNat) * 11) (o:=0) (part:=(Dx.enc (nth x3 (W (x4 - 1))))) rfl rfl (S.tm rfl) ((Ns Dx.enc_ok S (i:=0) rfl hg4 (Eh hc2).1 (Ie (e':=.own O 41 11 x3.length (x3.flatMap Dx.enc)))).kept hw))) fun a S=>Hi 14 (by kernel_rfl) rfl (Ef S rfl rfl rfl hb2 (Ei S (fun _=>Ud (cap:=[]) (S.tm rfl) (vs:=[.agg (Dx.enc (nth x3 x4)).toArray,.agg (Dx.enc (nth x3 (W (x4 - 1)))).toArray]) ⟨(S.tm rfl),(S.tm rfl),trivial⟩ call26) (BZ _ (nth x3 x4) (nth x3 (W (x4 - 1))) _ rfl) rfl ?_));clear S;intro v2 a w8 hv2 hk3 hn2 S
        subst hv2
        refine Ld (Ik hk3 (Lg [15,16] hsel (by kernel_rfl) rfl ?_))
        clear hsel
        refine Gc S rfl rfl rfl rfl hb2 (Hm S (Ev (S.tm rfl) rfl) rfl fun a S=>Gp S rfl (Qi hb2 (S.tm rfl) (S.tm rfl)) rfl fun a S=>It ?_)
        replace S:=S.nk [.own O 41 11 x3.length (x3.flatMap Dx.enc)] [(0,O),(1,iV Aj),(2,iV Al),(3,.func (.func 26) #[] #[]),(8,iV x2),(9,iV x4),(22,.func (.func 26) #[] #[]),(23,O),(24,iV x4),(25,.pointer (some ⟨b3,x4.toNat * 11,none⟩)),(26,.agg (Dx.enc (nth x3 x4)).toArray),(27,O),(28,iV x4),(29,iV (W (x4 - 1))),(30,.pointer (some ⟨b4,((W (x4 - 1)).toNat) * 11,none⟩)),(31,.agg (Dx.enc (nth x3 (W (x4 - 1)))).toArray),(32,iV (Kj (nth x3 x4) (nth x3 (W (x4 - 1))))),(33,bV (decide ((Kj (nth x3 x4) (nth x3 (W (x4 - 1)))) < 0))),(34,bV (decide ((Kj (nth x3 x4) (nth x3 (W (x4 - 1)))) < 0)))] [true] rfl (subR rfl)
        exact Tn (⟨decide ((Kj (nth x3 x4) (nth x3 (W (x4 - 1)))) < 0),h,S.nf [true] rfl (subR rfl)⟩)
       ·replace h:=Rh h hb2
        refine Hd [] ([]) Tryz.mixed S rfl (by kernel_rfl) ?_;clear S;intro w9 hk4 hsel S
        refine Lg [0,1,2,3,4,5,6,7,8,9,10,11,12,13,14,15,16] hsel (by kernel_rfl) rfl ?_
        clear hsel
        refine Gp S rfl (Rm (S.tm rfl)) rfl fun a S=>Gp S rfl (Rm (S.tm rfl)) rfl fun a S=>Gp S rfl (Jj (S.tm rfl) (S.tm rfl)) rfl fun a S=>Gp S rfl (Rm (S.tm rfl)) rfl ?_;clear S;intro a S
        iterate 12 (refine Qs S rfl rfl rfl rfl (Jw hb2) rfl ?_ rfl;clear S;intro a S)
        refine Gp S rfl (Qj hb2 (S.tm rfl) rfl) rfl fun a S=>It ?_
        replace S:=S.k7 0 1 2 3 8 9 34 rfl
        exact Tn (⟨false,h,S.nf [true] rfl (subR rfl)⟩)
      clear S h;rintro a w5 ⟨x5,h,S⟩;rw [hj3] at h;clear hj3 j3
      refine Tn (Fc h (S.tm rfl) (fun hb3 h=>?_) (fun hb3 h=>?_))
      ·refine wp_skip (Tn (Fs (wp_block ?_)))
       obtain ⟨hc3,h⟩:=Ij h
       obtain ⟨hc4,h⟩:=Ij h
       obtain ⟨hc5,h⟩:=Ij h
       obtain ⟨hc6,h⟩:=Ij h
       refine Hd [15,17] ([]) Tryz.mixed S rfl (by kernel_rfl) ?_;clear S;intro w14 hk9 hsel S
       refine Fz 0 S hsel rfl rfl (by kernel_rfl) (by kernel_rfl) rfl (fun _=>(Rm (S.tm rfl))) fun a S=>Fz 1 S hsel rfl rfl (by kernel_rfl) (by kernel_rfl) rfl (fun _=>(Rm (S.tm rfl))) fun a S=>Fz 2 S hsel rfl rfl (by kernel_rfl) (by kernel_rfl) rfl (fun _=>(Rm (S.tm rfl))) fun a S=>Fz 3 S hsel rfl rfl (by kernel_rfl) (by kernel_rfl) rfl (fun _=>(Rm (S.tm rfl))) fun a S=>Fz 4 S hsel rfl rfl (by kernel_rfl) (by kernel_rfl) rfl (fun _=>(Iy (S.tm rfl) rfl)) fun a S=>Fz 5 S hsel rfl rfl (by kernel_rfl) (by kernel_rfl) rfl (fun _=>(Rm (S.tm rfl))) fun a S=>Fz 6 S hsel rfl rfl (by kernel_rfl) (by kernel_rfl) rfl (fun _=>(Rm (S.tm rfl))) fun a S=>Fz 7 S hsel rfl rfl (by kernel_rfl) (by kernel_rfl) rfl (fun _=>(Iy (S.tm rfl) rfl)) ?_;clear S;intro a S
       obtain ⟨b9,hg9,hr9⟩:=Gx (a:=a) (x:=.tmp 42) (y:=.tmp 44) (ty:=0) La Dx.enc_ok S (i:=0) rfl (Eh hc3).1 (Eh hc3).2 (S.tm rfl) (S.tm rfl)
       refine Fz 8 S hsel rfl rfl (by kernel_rfl) (by kernel_rfl) rfl (fun _=>(hr9 _)) ?_;clear S;intro a S
       clear hr9
       refine Ek 9 S hsel rfl (by kernel_rfl) (by kernel_rfl) (by kernel_rfl) (by kernel_rfl) rfl (fun _ hw=>(Fk isAgg41 sizeOf41 (off:=((W (x4 - 1)).toNat) * 11) (o:=0) (part:=(Dx.enc (nth x3 (W (x4 - 1))))) rfl rfl (S.tm rfl) ((Ns Dx.enc_ok S (i:=0) rfl hg9 (Eh hc3).1 (Ie (e':=.own O 41 11 x3.length (x3.flatMap Dx.enc)))).kept hw))) fun a S=>Fz 10 S hsel rfl rfl (by kernel_rfl) (by kernel_rfl) rfl (fun _=>(Rm (S.tm rfl))) fun a S=>Fz 11 S hsel rfl rfl (by kernel_rfl) (by kernel_rfl) rfl (fun _=>(Rm (S.tm rfl))) ?_;clear S;intro a S
       obtain ⟨b10,hg10,hr10⟩:=Gx (a:=a) (x:=.tmp 47) (y:=.tmp 48) (ty:=0) La Dx.enc_ok S (i:=0) rfl (Eh hc4).1 (Eh hc4).2 (S.tm rfl) (S.tm rfl)
       refine Fz 12 S hsel rfl rfl (by kernel_rfl) (by kernel_rfl) rfl (fun _=>(hr10 _)) ?_;clear S;intro a S
       clear hr10
       refine Ek 13 S hsel rfl (by kernel_rfl) (by kernel_rfl) (by kernel_rfl) (by kernel_rfl) rfl (fun _ hw=>(Fk isAgg41 sizeOf41 (off:=x4.toNat * 11) (o:=0) (part:=(Dx.enc (nth x3 x4))) rfl rfl (S.tm rfl) ((Ns Dx.enc_ok S (i:=0) rfl hg10 (Eh hc4).1 (Ie (e':=.own O 41 11 x3.length (x3.flatMap Dx.enc)))).kept hw))) ?_;clear S;intro a S
       obtain ⟨b11,hg11,hr11⟩:=Gx (a:=a) (x:=.tmp 37) (y:=.tmp 38) (ty:=0) La Dx.enc_ok S (i:=0) rfl (Eh hc5).1 (Eh hc5).2 (S.tm rfl) (S.tm rfl)
       refine Fz 14 S hsel rfl rfl (by kernel_rfl) (by kernel_rfl) rfl (fun _=>(hr11 _)) ?_;clear S;intro a S
       clear hr11
       refine Wq 15 (O.ownBlock.toList) rfl (by kernel_rfl) rfl (Oe (c:=0) (j:=x4.toNat) (nth x3 (W (x4 - 1))) Dx.enc_ok S (S.tm rfl) (S.tm rfl) (i:=0) rfl hg11 (Eh hc5).1 sizeOf41 (vs:=[sV ((nth x3 (W (x4 - 1))).Site),iV ((nth x3 (W (x4 - 1))).No),iV ((nth x3 (W (x4 - 1))).At),iV ((nth x3 (W (x4 - 1))).Kind),sV ((nth x3 (W (x4 - 1))).Who),sV ((nth x3 (W (x4 - 1))).Club),sV ((nth x3 (W (x4 - 1))).Race),iV ((nth x3 (W (x4 - 1))).Time),iV ((nth x3 (W (x4 - 1))).Fault),sV ((nth x3 (W (x4 - 1))).Of),iV ((nth x3 (W (x4 - 1))).Other)]) rfl rfl rfl rfl rfl ?_);clear S;intro w16 hk11 S
       refine Ld (Wr ?_)
       obtain ⟨b12,hg12,hr12⟩:=Gx (a:=a) (x:=.tmp 39) (y:=.tmp 41) (ty:=0) La Dx.enc_ok S (i:=0) rfl (Eh hc6).1 (Eh hc6).2 (S.tm rfl) (S.tm rfl)
       refine Ek 16 S hsel rfl rfl rfl (by kernel_rfl) (by kernel_rfl) rfl (fun _ hw=>(hr12 _)) ?_;clear S;intro a S
       clear hr12
       refine Hi 17 (by kernel_rfl) rfl (Oe (c:=0) (j:=(W (x4 - 1)).toNat) (nth x3 x4) Dx.enc_ok S (S.tm rfl) (S.tm rfl) (i:=0) rfl hg12 (Eh hc6).1 sizeOf41 (vs:=[sV ((nth x3 x4).Site),iV ((nth x3 x4).No),iV ((nth x3 x4).At),iV ((nth x3 x4).Kind),sV ((nth x3 x4).Who),sV ((nth x3 x4).Club),sV ((nth x3 x4).Race),iV ((nth x3 x4).Time),iV ((nth x3 x4).Fault),sV ((nth x3 x4).Of),iV ((nth x3 x4).Other)]) rfl rfl rfl rfl rfl ?_);clear S;intro w18 hk13 S
       refine Ld (Ik hk13 (Wl (by kernel_rfl) ?_))
       clear hsel
       replace S:=(S.nl [.own O 41 11 ((x3.set x4.toNat (nth x3 (W (x4 - 1)))).set ((W (x4 - 1)).toNat) (nth x3 x4)).length (((x3.set x4.toNat (nth x3 (W (x4 - 1)))).set ((W (x4 - 1)).toNat) (nth x3 x4)).flatMap Dx.enc)] [true] rfl).k6 0 1 2 3 8 9 rfl
       exact Hn (Tn (Fg (Vm S rfl rfl fun a S=>Vq S Iy rfl rfl rfl fun a S=>Va S rfl rfl fun a S=>Dl (⟨m2,⟨((x3.set x4.toNat (nth x3 (W (x4 - 1)))).set ((W (x4 - 1)).toNat) (nth x3 x4)),W (x4 - 1),h,S.nf [true] rfl ⟨rfl,rfl,rfl,rfl,rfl,rfl,trivial⟩⟩,Nat.lt_succ_self _⟩))))
      ·exact wp_exit (Ep (Ep (Gr (Tn (⟨x3,h,S.nf [true] rfl (subR rfl)⟩)))))
    clear S h;rintro a w4 ⟨x3,h,S⟩;rw [hj2] at h;clear hj2 j2
    exact Hn (Tn (Fg (Vm S rfl rfl fun a S=>Vq S Gf rfl rfl rfl fun a S=>Va S rfl rfl fun a S=>Dl (⟨m1,⟨x3,W (x2 + 1),h,S.nf [true] rfl ⟨rfl,rfl,rfl,rfl,rfl,trivial⟩⟩,Nat.lt_succ_self _⟩))))
   ·exact wp_exit (Ep (Ep (Gr (Tn (⟨x1,h,S.nf [true] rfl trivial⟩)))))
 clear S h;rintro a w2 ⟨x1,h,S⟩;rw [hj1] at h;clear hj1 j1
 obtain rfl:=Option.some.inj h
 exact Ri S results88 ⟨(S.holds _ (List.mem_of_getElem? (i:=0) rfl)),rfl⟩
theorem Tq (w : World) (O : Value) (Ai : List Dx) (Be : (LEnt.own O 41 11 Ai.length (Ai.flatMap Dx.enc)).holds w) (Aj : Int) (Al : Int) (Cd : Int) (r : (List Dx)) (h : Ll Ai Aj Al Cd = some r) :
    Calls prog 49 [O,iV Aj,iV Al,iV Cd,.func (.func 26) #[] #[]].toArray w (Ret w (O.ownBlock.toList) fun _ v w'=>(LEnt.own O 41 11 r.length (r.flatMap Dx.enc)).holds w' ∧ v = .tuple #[]):=by
 refine Lb (O.ownBlock.toList) [.own O 41 11 Ai.length (Ai.flatMap Dx.enc)] func49 rfl ntmps49 rfl (fun e he=>by simp only [List.mem_singleton] at he;subst he;exact Be) (Iu _) (Js _) fun a S=>?_
 unfold Ll at h
 replace S:=(S.nl [.own O 41 11 Ai.length (Ai.flatMap Dx.enc)] [true] rfl).k5 0 1 2 3 4 rfl
 refine Fr (Vk S rfl rfl fun a S=>Dz (Vk S rfl rfl fun a S=>Dl ?_))
 replace S:=S.k6 0 1 2 3 4 10 rfl
 refine Es (fun a w'=>False) ?_ ?_
 ·refine wp_block (Gz (fun (m1 : Nat) a w'=>∃ x1 : Int,∃ x2 : Int,∃ x3 : Int,∃ x4 : Bool,Hk Ai m1 x1 x2 x3 x4 = some r ∧ Sx w (O.ownBlock.toList) nov [.own O 41 11 Ai.length (Ai.flatMap Dx.enc)] [(0,O),(1,iV x1),(2,iV x2),(3,iV x3),(4,.func (.func 26) #[] #[]),(10,bV x4)] 148 a w') id 4611686018427387904 ⟨Aj,Al,Cd,true,h,S.nf [true] rfl (subR rfl)⟩ ?_)
  clear S h;rintro m1 a w1 ⟨x1,x2,x3,x4,h,S⟩
  cases m1 with
  | zero=>rw [Hk.eq_1] at h;cases h
  | succ m1 =>
   rw [Hk.eq_2] at h
   refine wp_block (Fr (Vm S rfl rfl fun a S=>Vm S rfl rfl fun a S=>Vb S Iy rfl rfl rfl fun a S=>Va S rfl rfl fun a S=>Dl (Fs (Fs ?_))))
   refine Fg (Vm S rfl rfl fun a S=>Vq S Us rfl rfl rfl fun a S=>Dl (Fc h (S.tm rfl) (fun hb1 h=>?_) (fun hb1 h=>?_)))
   ·refine Fs (Fg ?_)
    iterate 4 (refine Vm S rfl rfl ?_;clear S;intro a S)
    obtain ⟨r1,hr1,h⟩:=Fd h
    refine Mr 0 S rfl (fun _=>.own O 41 11 r1.length (r1.flatMap Dx.enc)) (fun _=>Ea (vs:=[O,iV x1,iV x2,.func (.func 26) #[] #[]]) ⟨(S.tm rfl),(S.tm rfl),(S.tm rfl),(S.tm rfl),trivial⟩ call88) (Rv _ O Ai (S.holds _ (List.mem_of_getElem? (i:=0) rfl)) x1 x2 _ hr1) rfl (fun _ _ _ h=>⟨h.1,fun _ hc=>hc⟩) ?_;clear S;intro v1 a w3 hv1 hk1 hn1 S
    replace hv1:=hv1.2
    subst hv1
    refine Ld ?_
    replace S:=(S.nl [.own O 41 11 r1.length (r1.flatMap Dx.enc)] [true] rfl).k0
    refine Tn (wp_ret (Ec (Ga (Ec (Ga (Ec ?_))))))
    obtain rfl:=Option.some.inj h
    exact Ri S results49 ⟨(S.holds _ (List.mem_of_getElem? (i:=0) rfl)),rfl⟩
   ·refine wp_skip (Tn (Fs (Fr (Vm S rfl rfl fun a S=>Vq S Jh rfl rfl rfl fun a S=>Dl (Fc h (S.tm rfl) (fun hb2 h=>?_) (fun hb2 h=>?_))))))
    ·refine Fs ?_
     cases h
    ·refine wp_skip (Tn (Fs (Fr (Vm S rfl rfl fun a S=>Vu S Hv rfl rfl fun a S=>Ld ?_))))
     replace S:=S.k1 39 rfl
     refine Tn (Fc h (S.tm rfl) (fun hb3 h=>?_) (fun hb3 h=>?_))
     ·refine Fs ?_
      cases h
     ·refine wp_skip (Tn (Fs ?_))
      cases h
 exact fun _ _ h=>h.elim
theorem Vs (w : World) (Ay : Value) (Ac : List Dx) (Ci : (LEnt.own Ay 41 11 Ac.length (Ac.flatMap Dx.enc)).holds w) (r : (List Dx)) (h : Jq Ac = some r) :
    Calls prog 25 [Ay,.func (.func 26) #[] #[]].toArray w (Ret w (Ay.ownBlock.toList) fun _ v w'=>(LEnt.own Ay 41 11 r.length (r.flatMap Dx.enc)).holds w' ∧ v = .tuple #[]):=by
 refine Lb (Ay.ownBlock.toList) [.own Ay 41 11 Ac.length (Ac.flatMap Dx.enc)] func25 rfl ntmps25 rfl (fun e he=>by simp only [List.mem_singleton] at he;subst he;exact Ci) (Iu _) (Js _) fun a S=>?_
 unfold Jq at h
 replace S:=(S.nl [.own Ay 41 11 Ac.length (Ac.flatMap Dx.enc)] [true] rfl).k2 0 1 rfl
 refine Fr (Vm S rfl rfl fun a S=>lv S (Fq La (S.tm rfl) (Oh (S.own_at (i:=0) rfl))) rfl fun a S=>Va S rfl rfl fun a S=>Dl (Fg ?_))
 iterate 3 (refine Vm S rfl rfl ?_;clear S;intro a S)
 refine Vu S (Wb underlying3 underlying117) rfl rfl ?_;clear S;intro a S
 obtain ⟨r1,hr1,h⟩:=Fd h
 refine Ei S (fun _=>Ea (vs:=[.int .u64 (IntKind.wrap .u64 (Ac.length : Int))]) ⟨(S.tm rfl),trivial⟩ call50) (DJ _ (IntKind.wrap .u64 (Ac.length : Int)) _ hr1) rfl ?_;clear S;intro v1 a w1 hv1 hk1 hn1 S
 subst hv1
 refine Vm S rfl rfl ?_;clear S;intro a S
 obtain ⟨r2,hr2,h⟩:=Fd h
 refine Mr 0 S rfl (fun _=>.own Ay 41 11 r2.length (r2.flatMap Dx.enc)) (fun _=>Ea (vs:=[Ay,iV 0,iV (Ac.length : Int),iV r1,.func (.func 26) #[] #[]]) ⟨(S.tm rfl),rfl,(S.tm rfl),(S.tm rfl),(S.tm rfl),trivial⟩ call49) (Tq _ Ay Ac (S.holds _ (List.mem_of_getElem? (i:=0) rfl)) 0 (Ac.length : Int) r1 _ hr2) rfl (fun _ _ _ h=>⟨h.1,fun _ hc=>hc⟩) ?_;clear S;intro v2 a w2 hv2 hk2 hn2 S
 replace hv2:=hv2.2
 subst hv2
 refine Ld ?_
 obtain rfl:=Option.some.inj h
 exact Ri S results25 ⟨(S.holds _ (List.mem_of_getElem? (i:=0) rfl)),rfl⟩
theorem LL (w : World) (Cy : Value) (Aj : List Dx) (Df : Slc (view w []) 11 Cy (Aj.map Dx.enc)) (Cx : Value) (Al : List Dx) (Dk : Slc (view w []) 11 Cx (Al.map Dx.enc)) (r : (List Dx) × Int) (h : Zf Aj Al = some r) :
    Calls prog 6 [Cy,Cx].toArray w (Ret w [] fun τ v _=>∃ u1 : Value,v = .tuple #[u1,iV r.2] ∧ Up τ 41 11 u1 r.1.length (r.1.flatMap Dx.enc)):=by
 refine Fe func6 rfl ntmps6 rfl fun a S=>?_
 unfold Zf at h
 replace S:=S.k2 0 1 rfl
 refine Fr (Vk S rfl rfl fun a S=>Vk S rfl rfl fun a S=>Dl (Fs (Fr (Vm S rfl rfl ?_))));clear S;intro a S
 obtain ⟨r1,hr1,h⟩:=Fd h
 refine Ei S (fun _=>Ea (vs:=[Cy]) ⟨(S.tm rfl),trivial⟩ call22) (Wj _ Cy Aj (Df.mono (S.le_arg Er)) _ hr1) rfl ?_;clear S;intro v1 a w1 hv1 hk1 hn1 S
 subst hv1
 refine Va S rfl rfl fun a S=>Dz (Vm S rfl rfl fun a S=>Vq S Lf rfl rfl rfl fun a S=>Dl (Fc h (S.tm rfl) (fun hb1 h=>?_) (fun hb1 h=>?_)))
 ·refine Fr (Vm S rfl rfl fun a S=>Vk S rfl rfl fun a S=>Va S rfl rfl fun a S=>Dl (wp_ret (Ec ?_)))
  obtain rfl:=Option.some.inj h
  exact Ln S results6 rfl rfl ⟨_,rfl,(Oz _ _ _)⟩
 ·refine wp_skip (Tn (Fs (Fr (Vm S rfl rfl ?_))));clear S;intro a S
  obtain ⟨r2,hr2,h⟩:=Fd h
  refine Ei S (fun _=>Ea (vs:=[Cx]) ⟨(S.tm rfl),trivial⟩ call22) (Wj _ Cx Al (Dk.mono (S.le_arg Er)) _ hr2) rfl ?_;clear S;intro v2 a w2 hv2 hk2 hn2 S
  subst hv2
  refine Va S rfl rfl fun a S=>Dz (Vm S rfl rfl fun a S=>Vq S Lf rfl rfl rfl fun a S=>Dl (Fc h (S.tm rfl) (fun hb2 h=>?_) (fun hb2 h=>?_)))
  ·refine Fr (Vm S rfl rfl fun a S=>Vk S rfl rfl fun a S=>Va S rfl rfl fun a S=>Ld ?_)
   replace S:=S.k2 4 5 rfl
   refine Tn (wp_ret (Ec ?_))
   obtain rfl:=Option.some.inj h
   exact Ln S results6 rfl rfl ⟨_,rfl,(Oz _ _ _)⟩
  ·refine wp_skip (Tn (Fr (Rc (κ:=Eo) (ν:=Dx) S rfl (fun x=>Value.agg (Eo.enc x).toArray) (fun x=>Value.agg (Dx.enc x).toArray) ?_)));clear S;intro a w3 b1 hz1 hk3 S
   refine Va S rfl rfl fun a S=>Ld ?_
   replace S:=(S.nl [.map b1 (Ft (fun x=>Value.agg (Eo.enc x).toArray) (fun x=>Value.agg (Dx.enc x).toArray) ([] : List (Eo × Dx))) ([] : List (Eo × Dx)).length] [true] rfl).k3 0 1 8 rfl
   refine Tn (Fs (Fr (Vm S rfl rfl fun a S=>lv S (Fq La (S.tm rfl) (Fm Df)) rfl fun a S=>lv S (Rm rfl) rfl fun a S=>Dl ?_)))
   replace S:=S.k6 0 1 8 27 28 29 rfl
   obtain ⟨j1,hj1,h⟩:=Ey h
   refine Es (fun a w'=>∃ x1 : List (Eo × Dx),j1 x1 = some r ∧ Sx w [] nov [.map b1 (Ft (fun x=>Value.agg (Eo.enc x).toArray) (fun x=>Value.agg (Dx.enc x).toArray) x1) x1.length] [(0,Cy),(1,Cx),(8,.map (some b1))] 72 a w') ?_ ?_
   ·refine wp_block (Gz (fun (ys1 : List Dx) a w'=>∃ i1 : Nat,∃ x1 : List (Eo × Dx),(∃ dn,Aj = dn ++ ys1 ∧ dn.length = i1) ∧ Pk j1 ys1 i1 x1 = some r ∧ Sx w [] nov [.map b1 (Ft (fun x=>Value.agg (Eo.enc x).toArray) (fun x=>Value.agg (Dx.enc x).toArray) x1) x1.length] [(0,Cy),(1,Cx),(8,.map (some b1)),(27,Cy),(28,iV (Aj.length : Int)),(29,iV (i1 : Int))] 72 a w') List.length Aj ⟨0,([] : List (Eo × Dx)),⟨[],rfl,rfl⟩,h,S.nf [true] rfl (subR rfl)⟩ ?_)
    clear S h;rintro ys1 a w4 ⟨i1,x1,⟨dn,hd1,hi1⟩,h,S⟩
    cases ys1 with
    | nil =>
     rw [Pk.eq_1] at h
     refine Fr (Vb S Ev rfl rfl rfl fun a S=>Ld ?_)
     replace S:=S.k7 0 1 8 27 28 29 30 rfl
     exact Tn (Fs (wp_cond_false ((S.tm rfl).trans (congrArg Value.bool (Im hd1 hi1))) (wp_exit (Ep (Ep (Gr (Tn (⟨x1,h,S.nf [true] rfl (subR rfl)⟩))))))))
    | cons y1 ys1 =>
     rw [Pk.eq_2] at h
     refine Fr (Vb S Ev rfl rfl rfl fun a S=>Ld ?_)
     replace S:=S.k7 0 1 8 27 28 29 30 rfl
     refine Tn (Fs (wp_cond_true ((S.tm rfl).trans (congrArg Value.bool (Hr hd1 hi1))) (wp_skip (Tn (Fs (wp_block (Fs (Fg ?_))))))))
     obtain ⟨b2,o1,hm1,hr3⟩:=Fh (a:=a) (x:=.tmp 27) (y:=.tmp 29) (ty:=0) La Df (Iv hd1 hi1) rfl (S.tm rfl) (S.tm rfl)
     refine lv S (hr3 _) rfl ?_;clear S;intro a S
     clear hr3
     refine lv S (Fk isAgg41 sizeOf41 (off:=o1) (o:=0) (part:=(Dx.enc y1)) rfl rfl (S.tm rfl) (hm1.at S.emb0)) rfl fun a S=>Hu S zeroValue41 (cs:=[sV An,iV 0,iV 0,iV 0,sV An,sV An,sV An,iV 0,iV 0,sV An,iV 0]) rfl rfl ?_;clear S;intro a w6 b3 hz2 hk4 S
     refine Fj S (S.tm rfl) (S.tm rfl) (i:=0) (off:=0) rfl sizeOf41 (vs:=(Dx.enc y1)) rfl rfl rfl rfl ?_;clear S;intro w7 hk5 S
     refine Dl (Hd [] ([b1]) Tryz.mixed S rfl (by kernel_rfl) ?_);clear S;intro w10 hk8 hsel S
     refine Ek 0 S hsel rfl rfl rfl (by kernel_rfl) (by kernel_rfl) rfl (fun _ hw=>(Rm (S.tm rfl))) fun a S=>Ek 1 S hsel rfl rfl rfl (by kernel_rfl) (by kernel_rfl) rfl (fun _ hw=>(Fk isAgg41 sizeOf41 (off:=0) (o:=0) (part:=(Dx.enc y1)) rfl rfl (S.tm rfl) ((S.blk_mem (i:=0) (cells:=(Dx.enc y1)) (b:=b3) (T:=41) rfl (My (i:=1) (j:=0) (e:=.map b1 (Ft (fun x=>Value.agg (Eo.enc x).toArray) (fun x=>Value.agg (Dx.enc x).toArray) x1) x1.length) (e':=.blk b3 (Dx.enc y1) 41) S rfl rfl rfl)).kept hw))) fun a S=>Ek 3 S hsel rfl rfl rfl (by kernel_rfl) (by kernel_rfl) rfl (fun _ hw=>(Fk isAgg41 sizeOf41 (off:=0) (o:=0) (part:=(Dx.enc y1)) rfl rfl (S.tm rfl) ((S.blk_mem (i:=0) (cells:=(Dx.enc y1)) (b:=b3) (T:=41) rfl (My (i:=1) (j:=0) (e:=.map b1 (Ft (fun x=>Value.agg (Eo.enc x).toArray) (fun x=>Value.agg (Dx.enc x).toArray) x1) x1.length) (e':=.blk b3 (Dx.enc y1) 41) S rfl rfl rfl)).kept hw))) fun a S=>Hi 2 (by kernel_rfl) rfl (Ei S (fun _=>Ea (vs:=[.agg (Dx.enc y1).toArray]) ⟨(S.tm rfl),trivial⟩ call23) (Ub _ y1 _ rfl) rfl ?_);clear S;intro v4 a w11 hv4 hk9 hn4 S
     subst hv4
     refine Ld (Ik (Keep.none hk9) (Hi 4 (by kernel_rfl) rfl (Oi (kv:=(fun x=>Value.agg (Eo.enc x).toArray)) (vv:=(fun x=>Value.agg (Dx.enc x).toArray)) (m:=x1) (key:=(En y1)) (val:=y1) S (i:=1) rfl underlying68 EF (S.tm rfl) (S.tm rfl) (S.tm rfl) ?_)));clear S;intro w12 hk10 S
     refine Ld (Ik hk10 (Wl (by kernel_rfl) ?_))
     clear hsel
     replace S:=(S.nl [.map b1 (Ft (fun x=>Value.agg (Eo.enc x).toArray) (fun x=>Value.agg (Dx.enc x).toArray) (Gw x1 (En y1) y1)) (Gw x1 (En y1) y1).length] [false,true] rfl).k6 0 1 8 27 28 29 rfl
     exact Hn (Tn (Fg (Vq S Gf rfl rfl rfl fun a S=>Vm S rfl rfl fun a S=>Dl (⟨ys1,⟨i1 + 1,(Gw x1 (En y1) y1),⟨_,(hd1).trans (List.append_cons _ _ _),by simp [hi1]⟩,h,S.nf [true] rfl ⟨rfl,rfl,rfl,rfl,rfl,(congrArg (fun z=>some (Value.int .i64 z)) (Hs hd1 hi1 (Jg Df))),trivial⟩⟩,Nat.lt_succ_self _⟩))))
   clear S h;rintro a w5 ⟨x1,h,S⟩;rw [hj1] at h;clear hj1 j1
   refine Tn (Fr (Vm S rfl rfl ?_));clear S;intro a S
   obtain ⟨r3,hr4,h⟩:=Fd h
   have hz3:=S.keep.size
   refine Ei S (fun _=>Ea (vs:=[Cy]) ⟨(S.tm rfl),trivial⟩ call24) (DI _ Cy Aj (Df.mono (S.le_arg Er)) _ hr4) rfl ?_;clear S;intro v5 a w13 hv5 hk11 hn5 S
   replace S:=S.take hn5 hz3 hv5
   refine Va S rfl rfl fun a S=>Dl (Fs (Fr (Vm S rfl rfl fun a S=>lv S (Fq La (S.tm rfl) (Fm Dk)) rfl fun a S=>lv S (Rm rfl) rfl fun a S=>Dl ?_)))
   replace S:=(S.nl [.own v5 41 11 r3.length (r3.flatMap Dx.enc),.map b1 (Ft (fun x=>Value.agg (Eo.enc x).toArray) (fun x=>Value.agg (Dx.enc x).toArray) x1) x1.length] [true,true] rfl).k5 8 11 40 41 42 rfl
   obtain ⟨j2,hj2,h⟩:=Ey h
   refine Es (fun a w'=>∃ x2 : List Dx,∃ v6 : Value,j2 x2 = some r ∧ Sx w [] nov [.own v6 41 11 x2.length (x2.flatMap Dx.enc),.map b1 (Ft (fun x=>Value.agg (Eo.enc x).toArray) (fun x=>Value.agg (Dx.enc x).toArray) x1) x1.length] [(11,v6)] 72 a w') ?_ ?_
   ·refine wp_block (Gz (fun (ys2 : List Dx) a w'=>∃ i2 : Nat,∃ x2 : List Dx,∃ v6 : Value,(∃ dn,Al = dn ++ ys2 ∧ dn.length = i2) ∧ Nz x1 j2 ys2 i2 x2 = some r ∧ Sx w [] nov [.own v6 41 11 x2.length (x2.flatMap Dx.enc),.map b1 (Ft (fun x=>Value.agg (Eo.enc x).toArray) (fun x=>Value.agg (Dx.enc x).toArray) x1) x1.length] [(8,.map (some b1)),(11,v6),(40,Cx),(41,iV (Al.length : Int)),(42,iV (i2 : Int))] 72 a w') List.length Al ⟨0,r3,v5,⟨[],rfl,rfl⟩,h,S.nf [true,true] rfl (subR rfl)⟩ ?_)
    clear S h;rintro ys2 a w14 ⟨i2,x2,v6,⟨dn,hd2,hi2⟩,h,S⟩
    cases ys2 with
    | nil =>
     rw [Nz.eq_1] at h
     refine Fr (Vb S Ev rfl rfl rfl fun a S=>Ld ?_)
     replace S:=S.k6 8 11 40 41 42 43 rfl
     exact Tn (Fs (wp_cond_false ((S.tm rfl).trans (congrArg Value.bool (Im hd2 hi2))) (wp_exit (Ep (Ep (Gr (Tn (⟨x2,v6,h,S.nf [true,true] rfl ⟨rfl,trivial⟩⟩))))))))
    | cons y2 ys2 =>
     rw [Nz.eq_2] at h
     refine Fr (Vb S Ev rfl rfl rfl fun a S=>Ld ?_)
     replace S:=S.k6 8 11 40 41 42 43 rfl
     refine Tn (Fs (wp_cond_true ((S.tm rfl).trans (congrArg Value.bool (Hr hd2 hi2))) (wp_skip (Tn (Fs ?_)))))
     obtain ⟨j3,hj3,h⟩:=Ey h
     refine Es (fun a w'=>∃ x3 : List Dx,∃ v7 : Value,j3 x3 = some r ∧ Sx w [] nov [.own v7 41 11 x3.length (x3.flatMap Dx.enc),.map b1 (Ft (fun x=>Value.agg (Eo.enc x).toArray) (fun x=>Value.agg (Dx.enc x).toArray) x1) x1.length] [(8,.map (some b1)),(11,v7),(40,Cx),(41,iV (Al.length : Int)),(42,iV (i2 : Int))] 72 a w') ?_ ?_
     ·refine wp_block (Fs (Fg ?_))
      obtain ⟨b4,o2,hm2,hr5⟩:=Fh (a:=a) (x:=.tmp 40) (y:=.tmp 42) (ty:=0) La Dk (Iv hd2 hi2) rfl (S.tm rfl) (S.tm rfl)
      refine lv S (hr5 _) rfl ?_;clear S;intro a S
      clear hr5
      refine lv S (Fk isAgg41 sizeOf41 (off:=o2) (o:=0) (part:=(Dx.enc y2)) rfl rfl (S.tm rfl) (hm2.at S.emb0)) rfl fun a S=>Hu S zeroValue41 (cs:=[sV An,iV 0,iV 0,iV 0,sV An,sV An,sV An,iV 0,iV 0,sV An,iV 0]) rfl rfl ?_;clear S;intro a w17 b5 hz4 hk12 S
      refine Fj S (S.tm rfl) (S.tm rfl) (i:=0) (off:=0) rfl sizeOf41 (vs:=(Dx.enc y2)) rfl rfl rfl rfl ?_;clear S;intro w18 hk13 S
      refine Dz (Vm S rfl rfl fun a S=>lv S (Fk isAgg41 sizeOf41 (off:=0) (o:=0) (part:=(Dx.enc y2)) rfl rfl (S.tm rfl) (S.cellsAt (i:=0) rfl)) rfl fun a S=>Ei S (fun _=>Ea (vs:=[.agg (Dx.enc y2).toArray]) ⟨(S.tm rfl),trivial⟩ call23) (Ub _ y2 _ rfl) rfl ?_);clear S;intro v8 a w19 hv6 hk14 hn6 S
      subst hv6
      refine lv S (BH (kv:=(fun x=>Value.agg (Eo.enc x).toArray)) (vv:=(fun x=>Value.agg (Dx.enc x).toArray)) (m:=x1) (key:=(En y2)) (z:=(Dx.mk An 0 0 0 An An An 0 0 An 0)) (S.map_at (i:=2) rfl) underlying68 EF zeroValue41 (S.tm rfl) (S.tm rfl)) rfl fun a S=>Vm S rfl rfl fun a S=>Vq S Fy rfl rfl rfl fun a S=>Vq S Fy rfl rfl rfl fun a S=>Hu S zeroValue41 (cs:=[sV An,iV 0,iV 0,iV 0,sV An,sV An,sV An,iV 0,iV 0,sV An,iV 0]) rfl rfl ?_;clear S;intro a w20 b6 hz5 hk15 S
      refine Fj S (S.tm rfl) (S.tm rfl) (i:=0) (off:=0) rfl sizeOf41 (vs:=(Dx.enc (El x1 (En y2) (Dx.mk An 0 0 0 An An An 0 0 An 0)))) rfl rfl rfl rfl ?_;clear S;intro w21 hk16 S
      refine Va S rfl rfl fun a S=>Ld ?_
      replace S:=(S.nl [.blk b6 (Dx.enc (El x1 (En y2) (Dx.mk An 0 0 0 An An An 0 0 An 0))) 41,.blk b5 (Dx.enc y2) 41,.own v6 41 11 x2.length (x2.flatMap Dx.enc),.map b1 (Ft (fun x=>Value.agg (Eo.enc x).toArray) (fun x=>Value.agg (Dx.enc x).toArray) x1) x1.length] [true,true,true,true] rfl).k8 8 11 13 14 15 40 41 42 rfl
      refine Tn (Fs (Fr (Vm S rfl rfl fun a S=>Vm S rfl rfl fun a S=>Ib 4 (fun a w'=>Keep [] w21 w' ∧ Sx w [] nov [.blk b6 (Dx.enc (El x1 (En y2) (Dx.mk An 0 0 0 An An An 0 0 An 0))) 41,.blk b5 (Dx.enc y2) 41,.own v6 41 11 x2.length (x2.flatMap Dx.enc),.map b1 (Ft (fun x=>Value.agg (Eo.enc x).toArray) (fun x=>Value.agg (Dx.enc x).toArray) x1) x1.length] [(8,.map (some b1)),(11,v6),(13,.pointer (some ⟨b5,0,none⟩)),(15,bV ((Pi x1 (En y2)).isSome)),(40,Cx),(41,iV (Al.length : Int)),(42,iV (i2 : Int)),(58,bV (((Pi x1 (En y2)).isSome) && (!decide (y2 = (El x1 (En y2) (Dx.mk An 0 0 0 An An An 0 0 An 0))))))] 72 a w') ?_ ?_)))
      ·rcases Bool.eq_false_or_eq_true ((Pi x1 (En y2)).isSome) with hb3 | hb3
       ·exact Ef S rfl rfl rfl hb3 (lv S (Fk isAgg41 sizeOf41 (off:=0) (o:=0) (part:=(Dx.enc y2)) rfl rfl (S.tm rfl) (S.cellsAt (i:=1) rfl)) rfl fun a S=>Ef S rfl rfl rfl hb3 (lv S (Fk isAgg41 sizeOf41 (off:=0) (o:=0) (part:=(Dx.enc (El x1 (En y2) (Dx.mk An 0 0 0 An An An 0 0 An 0)))) rfl rfl (S.tm rfl) (S.cellsAt (i:=0) rfl)) rfl fun a S=>Ef S rfl rfl rfl hb3 (lv S (EE (m:=y2) (n:=(El x1 (En y2) (Dx.mk An 0 0 0 An An An 0 0 An 0))) (S.tm rfl) (S.tm rfl)) rfl fun a S=>lv S (Hz hb3 (S.tm rfl) (S.tm rfl)) rfl fun a S=>Dl (⟨Keep.refl _ _,S.nf [true,true,true,true] rfl (subR rfl)⟩))))
       ·iterate 3 (refine Hh S rfl rfl rfl (Jw hb3) rfl ?_ rfl;clear S;intro a S)
        exact lv S (Ia (!decide (y2 = (El x1 (En y2) (Dx.mk An 0 0 0 An An An 0 0 An 0)))) hb3 (S.tm rfl) rfl) rfl fun a S=>Dl (⟨Keep.refl _ _,S.nf [true,true,true,true] rfl (subR rfl)⟩)
      clear S;rintro a w22 ⟨hk17,S⟩
      refine Dl (Fc h (S.tm rfl) (fun hb4 h=>?_) (fun hb4 h=>?_))
      ·refine Fr (Vk S rfl rfl fun a S=>Vk S rfl rfl fun a S=>Dl (wp_ret (Ec (Ga ?_))))
       iterate 3 (refine Ec ?_)
       refine Ga (Ec (Ec ?_))
       obtain rfl:=Option.some.inj h
       exact Ln S results6 rfl rfl ⟨_,rfl,(Oz _ _ _)⟩
      ·refine wp_skip (Tn (Fr (Vm S rfl rfl fun a S=>Vu S Hv rfl rfl fun a S=>Dl ?_)))
       obtain ⟨j4,hj4,h⟩:=Ey h
       refine Es (fun a w'=>∃ x4 : List Dx,∃ v9 : Value,j4 x4 = some r ∧ Sx w [] nov [.blk b6 (Dx.enc (El x1 (En y2) (Dx.mk An 0 0 0 An An An 0 0 An 0))) 41,.blk b5 (Dx.enc y2) 41,.own v9 41 11 x4.length (x4.flatMap Dx.enc),.map b1 (Ft (fun x=>Value.agg (Eo.enc x).toArray) (fun x=>Value.agg (Dx.enc x).toArray) x1) x1.length] [(8,.map (some b1)),(11,v9),(40,Cx),(41,iV (Al.length : Int)),(42,iV (i2 : Int))] 72 a w') ?_ ?_
       ·refine Fc h (S.tm rfl) (fun hb5 h=>?_) (fun hb5 h=>?_)
        ·refine Fg (Vm S rfl rfl fun a S=>lv S (Fk isAgg41 sizeOf41 (off:=0) (o:=0) (part:=(Dx.enc y2)) rfl rfl (S.tm rfl) (S.cellsAt (i:=1) rfl)) rfl fun a S=>Ff S underlying34 sizeOf41 zeroValue41 rfl rfl (pv:=[(0,.agg (Dx.enc y2).toArray)]) ⟨rfl,(S.tm rfl),trivial⟩ (cs:=[sV y2.Site,iV y2.No,iV y2.At,iV y2.Kind,sV y2.Who,sV y2.Club,sV y2.Race,iV y2.Time,iV y2.Fault,sV y2.Of,iV y2.Other]) (by kernel_rfl) rfl ?_);clear S;intro a w24 b7 hz6 hk18 S
         obtain ⟨hc1,h⟩:=Ij h
         refine Np La Dx.enc_ok S (S.tm rfl) (i:=3) rfl (S.tm rfl) (j:=0) rfl (ys:=[y2]) rfl rfl rfl rfl (by have:=Ob hc1;omega) rfl ?_;clear S;intro v10 a w25 hk19 S
         exact Va S rfl rfl fun a S=>Dl (⟨(x2 ++ [y2]),v10,h,S.nf [false,true,true,true,true] rfl (subR rfl)⟩)
        ·exact wp_skip (Tn (⟨x2,v6,h,S.nf [true,true,true,true] rfl (subR rfl)⟩))
       clear S h;rintro a w23 ⟨x4,v9,h,S⟩;rw [hj4] at h;clear hj4 j4
       exact Hn (Tn (⟨x4,v9,h,S.nf [false,false,true,true] rfl (subR rfl)⟩))
     clear S h;rintro a w16 ⟨x3,v7,h,S⟩;rw [hj3] at h;clear hj3 j3
     exact Tn (Fg (Vq S Gf rfl rfl rfl fun a S=>Vm S rfl rfl fun a S=>Dl (⟨ys2,⟨i2 + 1,x3,v7,⟨_,(hd2).trans (List.append_cons _ _ _),by simp [hi2]⟩,h,S.nf [true,true] rfl ⟨rfl,rfl,rfl,rfl,(congrArg (fun z=>some (Value.int .i64 z)) (Hs hd2 hi2 (Jg Dk))),trivial⟩⟩,Nat.lt_succ_self _⟩)))
   clear S h;rintro a w15 ⟨x2,v6,h,S⟩;rw [hj2] at h;clear hj2 j2
   refine Tn (Fs (Fr (Vm S rfl rfl fun a S=>lv S (Fq La (S.tm rfl) (Oh (S.own_at (i:=0) rfl))) rfl fun a S=>Vq S Jj rfl rfl rfl fun a S=>Dl (Fc h (S.tm rfl) (fun hb6 h=>?_) (fun hb6 h=>?_)))))
   ·refine Fr (Vk S rfl rfl fun a S=>Vk S rfl rfl fun a S=>Dl (wp_ret (Ec ?_)))
    obtain rfl:=Option.some.inj h
    exact Ln S results6 rfl rfl ⟨_,rfl,(Oz _ _ _)⟩
   ·refine wp_skip (Tn (Fr (Vm S rfl rfl ?_)));clear S;intro a S
    obtain ⟨r4,hr6,h⟩:=Fd h
    refine Mr 0 S rfl (fun _=>.own v6 41 11 r4.length (r4.flatMap Dx.enc)) (fun _=>Ea (vs:=[v6,.func (.func 26) #[] #[]]) ⟨(S.tm rfl),rfl,trivial⟩ call25) (Vs _ v6 x2 (S.holds _ (List.mem_of_getElem? (i:=0) rfl)) _ hr6) rfl (fun _ _ _ h=>⟨h.1,fun _ hc=>hc⟩) ?_;clear S;intro v11 a w26 hv7 hk20 hn7 S
    replace hv7:=hv7.2
    subst hv7
    refine Dz (Vm S rfl rfl fun a S=>Va S rfl rfl fun a S=>Vk S rfl rfl fun a S=>Dl (wp_ret ?_))
    obtain rfl:=Option.some.inj h
    exact Ln S results6 rfl rfl ⟨_,rfl,(Tt S (i:=0) rfl rfl)⟩
theorem AR (w : World) (Ab : Value) (Ae : List Dx) (Dg : (LEnt.own Ab 41 11 Ae.length (Ae.flatMap Dx.enc)).holds w) (r : (List Dx)) (h : Sc Ae = some r) :
    Calls prog 7 [Ab].toArray w (Ret w (Ab.ownBlock.toList) fun _ v w'=>(LEnt.own Ab 41 11 r.length (r.flatMap Dx.enc)).holds w' ∧ v = .tuple #[]):=by
 refine Lb (Ab.ownBlock.toList) [.own Ab 41 11 Ae.length (Ae.flatMap Dx.enc)] func7 rfl ntmps7 rfl (fun e he=>by simp only [List.mem_singleton] at he;subst he;exact Dg) (Iu _) (Js _) fun a S=>?_
 unfold Sc at h
 replace S:=(S.nl [.own Ab 41 11 Ae.length (Ae.flatMap Dx.enc)] [true] rfl).k1 0 rfl
 refine Fr (Hu S zeroValue41 (cs:=[sV An,iV 0,iV 0,iV 0,sV An,sV An,sV An,iV 0,iV 0,sV An,iV 0]) rfl rfl ?_);clear S;intro a w1 b1 hz1 hk1 S
 refine Dz (Vm S rfl rfl fun a S=>lv S (Fq La (S.tm rfl) (Oh (S.own_at (i:=1) rfl))) rfl fun a S=>lv S (Rm rfl) rfl fun a S=>Dl ?_)
 replace S:=(S.nl [.blk b1 (Dx.enc (Dx.mk An 0 0 0 An An An 0 0 An 0)) 41,.own Ab 41 11 Ae.length (Ae.flatMap Dx.enc)] [true,true] rfl).k4 0 2 5 6 rfl
 have hm1:=JF (S.own_at (i:=1) rfl)
 obtain ⟨j1,hj1,h⟩:=Ey h
 refine Es (fun a w'=>∃ x1 : List Dx,j1 x1 = some r ∧ Sx w (Ab.ownBlock.toList) nov [.blk b1 (Dx.enc (Dx.mk An 0 0 0 An An An 0 0 An 0)) 41,.own Ab 41 11 x1.length (x1.flatMap Dx.enc)] [] 14 a w') ?_ ?_
 ·refine wp_block (Gz (fun (ys1 : List Dx) a w'=>∃ i1 : Nat,∃ x1 : List Dx,(∃ dn,Ae = dn ++ ys1 ∧ dn.length = i1) ∧ Jy j1 ys1 i1 x1 = some r ∧ Sx w (Ab.ownBlock.toList) nov [.blk b1 (Dx.enc (Dx.mk An 0 0 0 An An An 0 0 An 0)) 41,.own Ab 41 11 x1.length (x1.flatMap Dx.enc)] [(0,Ab),(2,.pointer (some ⟨b1,0,none⟩)),(5,iV (Ae.length : Int)),(6,iV (i1 : Int))] 14 a w') List.length Ae ⟨0,Ae,⟨[],rfl,rfl⟩,h,S.nf [true,true] rfl (subR rfl)⟩ ?_)
  clear S h;rintro ys1 a w2 ⟨i1,x1,⟨dn,hd1,hi1⟩,h,S⟩
  cases ys1 with
  | nil =>
   rw [Jy.eq_1] at h
   refine Fr (Vb S Ev rfl rfl rfl fun a S=>Ld ?_)
   replace S:=S.k5 0 2 5 6 7 rfl
   exact Tn (Fs (wp_cond_false ((S.tm rfl).trans (congrArg Value.bool (Im hd1 hi1))) (wp_exit (Ep (Ep (Gr (Tn (⟨x1,h,S.nf [true,true] rfl trivial⟩))))))))
  | cons y1 ys1 =>
   rw [Jy.eq_2] at h
   refine Fr (Vb S Ev rfl rfl rfl fun a S=>Ld ?_)
   replace S:=S.k5 0 2 5 6 7 rfl
   refine Tn (Fs (wp_cond_true ((S.tm rfl).trans (congrArg Value.bool (Hr hd1 hi1))) (wp_skip (Tn (Fs (wp_block (Fr (Vm S rfl rfl fun a S=>Va S rfl rfl ?_))))))));clear S;intro a S
   refine Dl (Fg (Vm S rfl rfl fun a S=>Vm S rfl rfl fun a S=>lv S (Fk isAgg41 sizeOf41 (off:=0) (o:=0) (part:=(Dx.enc (Dx.mk An 0 0 0 An An An 0 0 An 0))) rfl rfl (S.tm rfl) (S.cellsAt (i:=0) rfl)) rfl ?_));clear S;intro a S
   obtain ⟨hc1,h⟩:=Ij h
   obtain ⟨b2,hg1,hr1⟩:=Gx (a:=a) (x:=.tmp 9) (y:=.tmp 10) (ty:=0) La Dx.enc_ok S (i:=1) rfl (Eh hc1).1 (Eh hc1).2 (S.tm rfl) (S.tm rfl)
   refine lv S (hr1 _) rfl ?_;clear S;intro a S
   clear hr1
   refine Oe (c:=0) (j:=(i1 : Int).toNat) (Dx.mk An 0 0 0 An An An 0 0 An 0) Dx.enc_ok S (S.tm rfl) (S.tm rfl) (i:=1) rfl hg1 (Eh hc1).1 sizeOf41 (vs:=[sV An,iV 0,iV 0,iV 0,sV An,sV An,sV An,iV 0,iV 0,sV An,iV 0]) rfl rfl rfl rfl rfl ?_;clear S;intro w5 hk3 S
   exact Ld (Hn (Tn (Fg (Vq S Gf rfl rfl rfl fun a S=>Vm S rfl rfl fun a S=>Dl (⟨ys1,⟨i1 + 1,(x1.set ((i1 : Int).toNat) (Dx.mk An 0 0 0 An An An 0 0 An 0)),⟨_,(hd1).trans (List.append_cons _ _ _),by simp [hi1]⟩,h,S.nf [true,true] rfl ⟨rfl,rfl,rfl,(congrArg (fun z=>some (Value.int .i64 z)) (Hs hd1 hi1 hm1)),trivial⟩⟩,Nat.lt_succ_self _⟩)))))
 clear S h;rintro a w3 ⟨x1,h,S⟩;rw [hj1] at h;clear hj1 j1
 obtain rfl:=Option.some.inj h
 exact Ri S results7 ⟨(S.holds _ (List.mem_of_getElem? (i:=1) rfl)),rfl⟩
theorem EP (w : World) (As : Em) (r : Int) (h : Pc As = some r) :
    Calls prog 107 [.agg (Em.enc As).toArray].toArray w (Ret w [] fun _ v _=>v = iV r):=by
 refine Fe func107 rfl ntmps107 rfl fun a S=>?_
 unfold Pc at h
 replace S:=S.k1 0 rfl
 refine Fr (Mx S (S.tm rfl) (cs:=(Em.enc As)) rfl rfl ?_);clear S;intro a w1 b1 hz1 hk1 S
 refine Vk S rfl rfl fun a S=>Dl (Fs (wp_block (Fr (Vf Ya S rfl rfl fun a S=>Vl isAgg9 0 S rfl rfl rfl rfl ?_))));clear S;intro a S
 obtain ⟨r1,hr1,h⟩:=Fd h
 refine Ei S (fun _=>Ea (vs:=[sV As.Key]) ⟨(S.tm rfl),trivial⟩ call87) (Ja _ As.Key _ hr1) rfl ?_;clear S;intro v1 a w2 hv1 hk2 hn1 S
 subst hv1
 refine Vu S Hv rfl rfl fun a S=>Va S rfl rfl fun a S=>Dl (Fc h (S.tm rfl) (fun hb1 h=>?_) (fun hb1 h=>?_))
 ·refine Fr (Vk S rfl rfl fun a S=>Dl (wp_ret (Ga (Ec ?_))))
  obtain rfl:=Option.some.inj h
  exact Eu S results107 rfl rfl
 ·refine Fr (Vf NT S rfl rfl fun a S=>Vl isAgg3 0 S rfl rfl rfl rfl fun a S=>Ei S (fun _=>Ea (vs:=[iV As.Stroke,iV 1,iV 5]) ⟨(S.tm rfl),rfl,rfl,trivial⟩ call67) (Ge _ As.Stroke 1 5 _ rfl) rfl ?_);clear S;intro v2 a w3 hv2 hk3 hn2 S
  subst hv2
  refine Vu S Hv rfl rfl fun a S=>Vm S rfl rfl fun a S=>Ib 5 (fun a w'=>Keep [] w3 w' ∧ Sx w [] nov [.blk b1 (Em.enc As) 43] [(1,.pointer (some ⟨b1,0,none⟩)),(18,bV ((!(Ed As.Stroke 1 5)) || (!(Ed As.Sex 0 2))))] 95 a w') ?_ ?_
  ·rcases Bool.eq_false_or_eq_true (!(Ed As.Stroke 1 5)) with hb2 | hb2
   ·iterate 4 (refine Hh S rfl rfl rfl (Nm hb2) rfl ?_ rfl;clear S;intro a S)
    exact lv S (Lj (!(Ed As.Sex 0 2)) hb2 (S.tm rfl) rfl) rfl fun a S=>Dl (⟨Keep.refl _ _,S.nf [true] rfl (subR rfl)⟩)
   ·refine Ef S rfl rfl rfl hb2 (Vf fa_43_5 S rfl rfl fun a S=>Ef S rfl rfl rfl hb2 (Vl isAgg3 0 S rfl rfl rfl rfl fun a S=>Ef S rfl rfl rfl hb2 (Ei S (fun _=>Ea (vs:=[iV As.Sex,iV 0,iV 2]) ⟨(S.tm rfl),rfl,rfl,trivial⟩ call67) (Ge _ As.Sex 0 2 _ rfl) rfl ?_)));clear S;intro v3 a w5 hv3 hk4 hn3 S
    subst hv3
    exact Ef S rfl rfl rfl hb2 (Vu S Hv rfl rfl fun a S=>lv S (Lk hb2 (S.tm rfl) (S.tm rfl)) rfl fun a S=>Dl (⟨hk4,S.nf [true] rfl (subR rfl)⟩))
  clear S;rintro a w4 ⟨hk5,S⟩
  refine Va S rfl rfl fun a S=>Dl (Fc h (S.tm rfl) (fun hb3 h=>?_) (fun hb3 h=>?_))
  ·refine Fr (Vk S rfl rfl fun a S=>Dl (wp_ret (Ga (Ec ?_))))
   obtain rfl:=Option.some.inj h
   exact Eu S results107 rfl rfl
  ·refine Fr (Vf JI S rfl rfl fun a S=>Vl isAgg3 0 S rfl rfl rfl rfl fun a S=>Vq S Lf rfl rfl rfl fun a S=>Vm S rfl rfl fun a S=>Ib 4 (fun a w'=>Keep [] w4 w' ∧ Sx w [] nov [.blk b1 (Em.enc As) 43] [(1,.pointer (some ⟨b1,0,none⟩)),(27,bV ((!decide (As.Course = 25)) && (!decide (As.Course = 50))))] 95 a w') ?_ ?_)
   ·rcases Bool.eq_false_or_eq_true (!decide (As.Course = 25)) with hb4 | hb4
    ·exact Ef S rfl rfl rfl hb4 (Vf JI S rfl rfl fun a S=>Ef S rfl rfl rfl hb4 (Vl isAgg3 0 S rfl rfl rfl rfl fun a S=>Ef S rfl rfl rfl hb4 (Vq S Lf rfl rfl rfl fun a S=>lv S (Hz hb4 (S.tm rfl) (S.tm rfl)) rfl fun a S=>Dl (⟨Keep.refl _ _,S.nf [true] rfl (subR rfl)⟩))))
    ·iterate 3 (refine Hh S rfl rfl rfl (Jw hb4) rfl ?_ rfl;clear S;intro a S)
     exact lv S (Ia (!decide (As.Course = 50)) hb4 (S.tm rfl) rfl) rfl fun a S=>Dl (⟨Keep.refl _ _,S.nf [true] rfl (subR rfl)⟩)
   clear S;rintro a w6 ⟨hk6,S⟩
   refine Vm S rfl rfl fun a S=>Ib 5 (fun a w'=>Keep [] w6 w' ∧ Sx w [] nov [.blk b1 (Em.enc As) 43] [(1,.pointer (some ⟨b1,0,none⟩)),(33,bV (((!decide (As.Course = 25)) && (!decide (As.Course = 50))) || (!(Ed As.Legs 1 4))))] 95 a w') ?_ ?_
   ·rcases Bool.eq_false_or_eq_true ((!decide (As.Course = 25)) && (!decide (As.Course = 50))) with hb5 | hb5
    ·iterate 4 (refine Hh S rfl rfl rfl (Nm hb5) rfl ?_ rfl;clear S;intro a S)
     exact lv S (Lj (!(Ed As.Legs 1 4)) hb5 (S.tm rfl) rfl) rfl fun a S=>Dl (⟨Keep.refl _ _,S.nf [true] rfl (subR rfl)⟩)
    ·refine Ef S rfl rfl rfl hb5 (Vf GM S rfl rfl fun a S=>Ef S rfl rfl rfl hb5 (Vl isAgg3 0 S rfl rfl rfl rfl fun a S=>Ef S rfl rfl rfl hb5 (Ei S (fun _=>Ea (vs:=[iV As.Legs,iV 1,iV 4]) ⟨(S.tm rfl),rfl,rfl,trivial⟩ call67) (Ge _ As.Legs 1 4 _ rfl) rfl ?_)));clear S;intro v4 a w8 hv4 hk7 hn4 S
     subst hv4
     exact Ef S rfl rfl rfl hb5 (Vu S Hv rfl rfl fun a S=>lv S (Lk hb5 (S.tm rfl) (S.tm rfl)) rfl fun a S=>Dl (⟨hk7,S.nf [true] rfl (subR rfl)⟩))
   clear S;rintro a w7 ⟨hk8,S⟩
   refine Vm S rfl rfl fun a S=>Ib 5 (fun a w'=>Keep [] w7 w' ∧ Sx w [] nov [.blk b1 (Em.enc As) 43] [(1,.pointer (some ⟨b1,0,none⟩)),(39,bV ((((!decide (As.Course = 25)) && (!decide (As.Course = 50))) || (!(Ed As.Legs 1 4))) || (!(Ed As.Metres 25 1500))))] 95 a w') ?_ ?_
   ·rcases Bool.eq_false_or_eq_true (((!decide (As.Course = 25)) && (!decide (As.Course = 50))) || (!(Ed As.Legs 1 4))) with hb6 | hb6
    ·iterate 4 (refine Hh S rfl rfl rfl (Nm hb6) rfl ?_ rfl;clear S;intro a S)
     exact lv S (Lj (!(Ed As.Metres 25 1500)) hb6 (S.tm rfl) rfl) rfl fun a S=>Dl (⟨Keep.refl _ _,S.nf [true] rfl (subR rfl)⟩)
    ·refine Ef S rfl rfl rfl hb6 (Vf NS S rfl rfl fun a S=>Ef S rfl rfl rfl hb6 (Vl isAgg3 0 S rfl rfl rfl rfl fun a S=>Ef S rfl rfl rfl hb6 (Ei S (fun _=>Ea (vs:=[iV As.Metres,iV 25,iV 1500]) ⟨(S.tm rfl),rfl,rfl,trivial⟩ call67) (Ge _ As.Metres 25 1500 _ rfl) rfl ?_)));clear S;intro v5 a w10 hv5 hk9 hn5 S
     subst hv5
     exact Ef S rfl rfl rfl hb6 (Vu S Hv rfl rfl fun a S=>lv S (Lk hb6 (S.tm rfl) (S.tm rfl)) rfl fun a S=>Dl (⟨hk9,S.nf [true] rfl (subR rfl)⟩))
   clear S;rintro a w9 ⟨hk10,S⟩
   refine Vm S rfl rfl fun a S=>Ib 4 (fun a w'=>Keep [] w9 w' ∧ Sx w [] nov [.blk b1 (Em.enc As) 43] [(1,.pointer (some ⟨b1,0,none⟩)),(44,bV (((((!decide (As.Course = 25)) && (!decide (As.Course = 50))) || (!(Ed As.Legs 1 4))) || (!(Ed As.Metres 25 1500))) || (decide (As.Young < 0))))] 95 a w') ?_ ?_
   ·rcases Bool.eq_false_or_eq_true ((((!decide (As.Course = 25)) && (!decide (As.Course = 50))) || (!(Ed As.Legs 1 4))) || (!(Ed As.Metres 25 1500))) with hb7 | hb7
    ·iterate 3 (refine Hh S rfl rfl rfl (Nm hb7) rfl ?_ rfl;clear S;intro a S)
     exact lv S (Lj (decide (As.Young < 0)) hb7 (S.tm rfl) rfl) rfl fun a S=>Dl (⟨Keep.refl _ _,S.nf [true] rfl (subR rfl)⟩)
    ·exact Ef S rfl rfl rfl hb7 (Vf NU S rfl rfl fun a S=>Ef S rfl rfl rfl hb7 (Vl isAgg3 0 S rfl rfl rfl rfl fun a S=>Ef S rfl rfl rfl hb7 (Vq S Ev rfl rfl rfl fun a S=>lv S (Lk hb7 (S.tm rfl) (S.tm rfl)) rfl fun a S=>Dl (⟨Keep.refl _ _,S.nf [true] rfl (subR rfl)⟩))))
   clear S;rintro a w11 ⟨hk11,S⟩
   refine Vm S rfl rfl fun a S=>Ib 6 (fun a w'=>Keep [] w11 w' ∧ Sx w [] nov [.blk b1 (Em.enc As) 43] [(1,.pointer (some ⟨b1,0,none⟩)),(51,bV ((((((!decide (As.Course = 25)) && (!decide (As.Course = 50))) || (!(Ed As.Legs 1 4))) || (!(Ed As.Metres 25 1500))) || (decide (As.Young < 0))) || (decide (As.Old < As.Young))))] 95 a w') ?_ ?_
   ·rcases Bool.eq_false_or_eq_true (((((!decide (As.Course = 25)) && (!decide (As.Course = 50))) || (!(Ed As.Legs 1 4))) || (!(Ed As.Metres 25 1500))) || (decide (As.Young < 0))) with hb8 | hb8
    ·iterate 5 (refine Hh S rfl rfl rfl (Nm hb8) rfl ?_ rfl;clear S;intro a S)
     exact lv S (Lj (decide (As.Old < As.Young)) hb8 (S.tm rfl) rfl) rfl fun a S=>Dl (⟨Keep.refl _ _,S.nf [true] rfl (subR rfl)⟩)
    ·refine Ef S rfl rfl rfl hb8 (Vf NU S rfl rfl fun a S=>Ef S rfl rfl rfl hb8 (Vl isAgg3 0 S rfl rfl rfl rfl fun a S=>Ef S rfl rfl rfl hb8 (Vf NV S rfl rfl fun a S=>Ef S rfl rfl rfl hb8 (Vl isAgg3 0 S rfl rfl rfl rfl fun a S=>Ef S rfl rfl rfl hb8 (Vb S Jj rfl rfl rfl fun a S=>lv S (Lk hb8 (S.tm rfl) (S.tm rfl)) rfl ?_)))));clear S;intro a S
     exact Dl (⟨Keep.refl _ _,S.nf [true] rfl (subR rfl)⟩)
   clear S;rintro a w12 ⟨hk12,S⟩
   refine Vm S rfl rfl fun a S=>Ib 4 (fun a w'=>Keep [] w12 w' ∧ Sx w [] nov [.blk b1 (Em.enc As) 43] [(1,.pointer (some ⟨b1,0,none⟩)),(56,bV (((((((!decide (As.Course = 25)) && (!decide (As.Course = 50))) || (!(Ed As.Legs 1 4))) || (!(Ed As.Metres 25 1500))) || (decide (As.Young < 0))) || (decide (As.Old < As.Young))) || (decide (120 < As.Old))))] 95 a w') ?_ ?_
   ·rcases Bool.eq_false_or_eq_true ((((((!decide (As.Course = 25)) && (!decide (As.Course = 50))) || (!(Ed As.Legs 1 4))) || (!(Ed As.Metres 25 1500))) || (decide (As.Young < 0))) || (decide (As.Old < As.Young))) with hb9 | hb9
    ·iterate 3 (refine Hh S rfl rfl rfl (Nm hb9) rfl ?_ rfl;clear S;intro a S)
     exact lv S (Lj (decide (120 < As.Old)) hb9 (S.tm rfl) rfl) rfl fun a S=>Dl (⟨Keep.refl _ _,S.nf [true] rfl (subR rfl)⟩)
    ·exact Ef S rfl rfl rfl hb9 (Vf NV S rfl rfl fun a S=>Ef S rfl rfl rfl hb9 (Vl isAgg3 0 S rfl rfl rfl rfl fun a S=>Ef S rfl rfl rfl hb9 (Vq S Jj rfl rfl rfl fun a S=>lv S (Lk hb9 (S.tm rfl) (S.tm rfl)) rfl fun a S=>Dl (⟨Keep.refl _ _,S.nf [true] rfl (subR rfl)⟩))))
   clear S;rintro a w13 ⟨hk13,S⟩
   refine Va S rfl rfl fun a S=>Dl (Fc h (S.tm rfl) (fun hb10 h=>?_) (fun hb10 h=>?_))
   ·refine Fr (Vk S rfl rfl fun a S=>Dl (wp_ret (Ga (Ec ?_))))
    obtain rfl:=Option.some.inj h
    exact Eu S results107 rfl rfl
   ·refine Fr (Vf NS S rfl rfl fun a S=>Vl isAgg3 0 S rfl rfl rfl rfl fun a S=>Vf JI S rfl rfl fun a S=>Vl isAgg3 0 S rfl rfl rfl rfl ?_);clear S;intro a S
    obtain ⟨hc1,h⟩:=Ij h
    refine lv S (CJ (S.tm rfl) (S.tm rfl) (Vo hc1)) rfl fun a S=>Vq S Lf rfl rfl rfl fun a S=>Va S rfl rfl fun a S=>Dl (Fc h (S.tm rfl) (fun hb11 h=>?_) (fun hb11 h=>?_))
    ·refine Fr (Vk S rfl rfl fun a S=>Dl (wp_ret (Ga (Ec ?_))))
     obtain rfl:=Option.some.inj h
     exact Eu S results107 rfl rfl
    ·refine Fs (Fr (Vf NT S rfl rfl fun a S=>Vl isAgg3 0 S rfl rfl rfl rfl fun a S=>Vq S Jh rfl rfl rfl fun a S=>Vm S rfl rfl fun a S=>Ib 4 (fun a w'=>Keep [] w13 w' ∧ Sx w [] nov [.blk b1 (Em.enc As) 43] [(1,.pointer (some ⟨b1,0,none⟩)),(72,bV ((decide (As.Stroke = 5)) && (decide (As.Legs = 1))))] 95 a w') ?_ ?_))
     ·rcases Bool.eq_false_or_eq_true (decide (As.Stroke = 5)) with hb12 | hb12
      ·exact Ef S rfl rfl rfl hb12 (Vf GM S rfl rfl fun a S=>Ef S rfl rfl rfl hb12 (Vl isAgg3 0 S rfl rfl rfl rfl fun a S=>Ef S rfl rfl rfl hb12 (Vq S Jh rfl rfl rfl fun a S=>lv S (Hz hb12 (S.tm rfl) (S.tm rfl)) rfl fun a S=>Dl (⟨Keep.refl _ _,S.nf [true] rfl (subR rfl)⟩))))
      ·iterate 3 (refine Hh S rfl rfl rfl (Jw hb12) rfl ?_ rfl;clear S;intro a S)
       exact lv S (Ia (decide (As.Legs = 1)) hb12 (S.tm rfl) rfl) rfl fun a S=>Dl (⟨Keep.refl _ _,S.nf [true] rfl (subR rfl)⟩)
     clear S;rintro a w14 ⟨hk14,S⟩
     refine Vm S rfl rfl ?_;clear S;intro a S
     obtain ⟨j1,hj1,h⟩:=Ey h
     refine Ib 8 (fun a w'=>∃ c1,j1 c1 = some r ∧ Keep [] w14 w' ∧ Sx w [] nov [.blk b1 (Em.enc As) 43] [(1,.pointer (some ⟨b1,0,none⟩)),(81,bV c1)] 95 a w') ?_ ?_
     ·rcases Bool.eq_false_or_eq_true ((decide (As.Stroke = 5)) && (decide (As.Legs = 1))) with hb13 | hb13
      ·replace h:=Rg h hb13
       refine Ef S rfl rfl rfl hb13 (Vf NS S rfl rfl fun a S=>Ef S rfl rfl rfl hb13 (Vl isAgg3 0 S rfl rfl rfl rfl fun a S=>Ef S rfl rfl rfl hb13 (Vf JI S rfl rfl fun a S=>Ef S rfl rfl rfl hb13 (Vl isAgg3 0 S rfl rfl rfl rfl fun a S=>Ef S rfl rfl rfl hb13 (Vu S (Xk rfl) rfl rfl fun a S=>Ef S rfl rfl rfl hb13 ?_)))))
       obtain ⟨hc2,h⟩:=Ij h
       exact lv S (CJ (S.tm rfl) (S.tm rfl) (Vo hc2)) rfl fun a S=>Ef S rfl rfl rfl hb13 (Vq S Lf rfl rfl rfl fun a S=>lv S (Hz hb13 (S.tm rfl) (S.tm rfl)) rfl fun a S=>Dl (⟨_,h,Keep.refl _ _,S.nf [true] rfl (subR rfl)⟩))
      ·replace h:=Rh h hb13
       iterate 7 (refine Hh S rfl rfl rfl (Jw hb13) rfl ?_ rfl;clear S;intro a S)
       exact Vq S (Ia true hb13) rfl rfl rfl fun a S=>Dl (⟨_,h,Keep.refl _ _,S.nf [true] rfl (subR rfl)⟩)
     clear S h;rintro a w15 ⟨c1,h,hk15,S⟩;rw [hj1] at h;clear hj1 j1
     refine Va S rfl rfl fun a S=>Dl ?_
     obtain ⟨j2,hj2,h⟩:=Ey h
     refine Es (fun a w'=>∃ x1 : Bool,j2 x1 = some r ∧ Sx w [] nov [.blk b1 (Em.enc As) 43] [(64,bV x1)] 95 a w') ?_ ?_
     ·refine Fc h (S.tm rfl) (fun hb14 h=>?_) (fun hb14 h=>?_)
      ·exact wp_skip (Tn (⟨c1,h,S.nf [true] rfl ⟨rfl,trivial⟩⟩))
      ·refine Fg (Vf NT S rfl rfl fun a S=>Vl isAgg3 0 S rfl rfl rfl rfl fun a S=>Vq S Jh rfl rfl rfl fun a S=>Vm S rfl rfl fun a S=>Ib 4 (fun a w'=>Keep [] w15 w' ∧ Sx w [] nov [.blk b1 (Em.enc As) 43] [(1,.pointer (some ⟨b1,0,none⟩)),(89,bV ((decide (As.Stroke = 5)) && (decide (1 < As.Legs))))] 95 a w') ?_ ?_)
       ·rcases Bool.eq_false_or_eq_true (decide (As.Stroke = 5)) with hb15 | hb15
        ·exact Ef S rfl rfl rfl hb15 (Vf GM S rfl rfl fun a S=>Ef S rfl rfl rfl hb15 (Vl isAgg3 0 S rfl rfl rfl rfl fun a S=>Ef S rfl rfl rfl hb15 (Vq S Jj rfl rfl rfl fun a S=>lv S (Hz hb15 (S.tm rfl) (S.tm rfl)) rfl fun a S=>Dl (⟨Keep.refl _ _,S.nf [true] rfl (subR rfl)⟩))))
        ·iterate 3 (refine Hh S rfl rfl rfl (Jw hb15) rfl ?_ rfl;clear S;intro a S)
         exact lv S (Ia (decide (1 < As.Legs)) hb15 (S.tm rfl) rfl) rfl fun a S=>Dl (⟨Keep.refl _ _,S.nf [true] rfl (subR rfl)⟩)
       clear S;rintro a w17 ⟨hk16,S⟩
       refine Vm S rfl rfl fun a S=>Ib 4 (fun a w'=>Keep [] w17 w' ∧ Sx w [] nov [.blk b1 (Em.enc As) 43] [(94,bV (((decide (As.Stroke = 5)) && (decide (1 < As.Legs))) && (!decide (As.Legs = 4))))] 95 a w') ?_ ?_
       ·rcases Bool.eq_false_or_eq_true ((decide (As.Stroke = 5)) && (decide (1 < As.Legs))) with hb16 | hb16
        ·exact Ef S rfl rfl rfl hb16 (Vf GM S rfl rfl fun a S=>Ef S rfl rfl rfl hb16 (Vl isAgg3 0 S rfl rfl rfl rfl fun a S=>Ef S rfl rfl rfl hb16 (Vq S Lf rfl rfl rfl fun a S=>lv S (Hz hb16 (S.tm rfl) (S.tm rfl)) rfl fun a S=>Dl (⟨Keep.refl _ _,S.nf [true] rfl ⟨rfl,trivial⟩⟩))))
        ·iterate 3 (refine Hh S rfl rfl rfl (Jw hb16) rfl ?_ rfl;clear S;intro a S)
         exact lv S (Ia (!decide (As.Legs = 4)) hb16 (S.tm rfl) rfl) rfl fun a S=>Dl (⟨Keep.refl _ _,S.nf [true] rfl ⟨rfl,trivial⟩⟩)
       clear S;rintro a w18 ⟨hk17,S⟩
       exact Va S rfl rfl fun a S=>Dl (⟨(((decide (As.Stroke = 5)) && (decide (1 < As.Legs))) && (!decide (As.Legs = 4))),h,S.nf [true] rfl ⟨rfl,trivial⟩⟩)
     clear S h;rintro a w16 ⟨x1,h,S⟩;rw [hj2] at h;clear hj2 j2
     refine Tn (Fc h (S.tm rfl) (fun hb17 h=>?_) (fun hb17 h=>?_))
     ·refine Fr (Vk S rfl rfl fun a S=>Dl (wp_ret (Ga (Ec ?_))))
      obtain rfl:=Option.some.inj h
      exact Eu S results107 rfl rfl
     ·refine wp_skip (Hn (Tn (Fr (Vk S rfl rfl fun a S=>Dl (wp_ret ?_)))))
      obtain rfl:=Option.some.inj h
      exact Eu S results107 rfl rfl
theorem DK (w : World) (Ac : Em) (Cj : Nat) (Bt : Em) (Ck : (view w []) Cj = some (.cells [sV Bt.Key,iV Bt.Metres,iV Bt.Stroke,iV Bt.Course,iV Bt.Legs,iV Bt.Sex,iV Bt.Young,iV Bt.Old].toArray 43 (0,0))) (r : Bool) (h : Ul Ac Bt = r) :
    Calls prog 109 [.agg (Em.enc Ac).toArray,.pointer (some ⟨Cj,0,none⟩)].toArray w (Ret w [] fun _ v _=>v = bV r):=by
 refine Fe func109 rfl ntmps109 rfl fun a S=>?_
 unfold Ul at h
 replace S:=S.k2 0 1 rfl
 refine Fr (Mx S (S.tm rfl) (cs:=(Em.enc Ac)) rfl rfl ?_);clear S;intro a w1 b1 hz1 hk1 S
 refine Vk S rfl rfl fun a S=>Dz (Vf Ya S rfl rfl fun a S=>Vl isAgg9 0 S rfl rfl rfl rfl fun a S=>Vf Ya S rfl rfl fun a S=>lv S (Ic isAgg9 (off:=0) (o:=0) (S.tm rfl) ((Ti Ck).at S.emb0) rfl) rfl fun a S=>Vb S Xw rfl rfl rfl fun a S=>Va S rfl rfl ?_);clear S;intro a S
 refine Dl (wp_ret ?_)
 subst h
 exact Eu S results109 rfl rfl
theorem Tr (w : World) (Ax : Value) (Av : List Em) (Bg : Slc (view w []) 8 Ax (Av.map Em.enc)) (Bb : Nat) (Az : Em) (Bo : (view w []) Bb = some (.cells [sV Az.Key,iV Az.Metres,iV Az.Stroke,iV Az.Course,iV Az.Legs,iV Az.Sex,iV Az.Young,iV Az.Old].toArray 43 (0,0))) (r : Int) (h : Lm Av Az = r) :
    Calls prog 100 [Ax,.func (.func 109) #[] #[.pointer (some ⟨Bb,0,none⟩)]].toArray w (Ret w [] fun _ v _=>v = iV r):=by
 refine Fe func100 rfl ntmps100 rfl fun a S=>?_
 unfold Lm at h
 replace S:=S.k2 0 1 rfl
 refine Fr (Vk S rfl rfl fun a S=>Dl (Fs (Fr (Vm S rfl rfl fun a S=>lv S (Fq Th (S.tm rfl) (Fm Bg)) rfl fun a S=>lv S (Rm rfl) rfl ?_))));clear S;intro a S
 refine Dl ?_
 replace S:=S.k4 0 1 7 8 rfl
 obtain ⟨j1,hj1,h⟩:=Ey h
 refine Es (fun a w'=>j1 = r ∧ Sx w [] nov [] [] 19 a w') ?_ ?_
 ·refine wp_block (Gz (fun (ys1 : List Em) a w'=>∃ i1 : Nat,(∃ dn,Av = dn ++ ys1 ∧ dn.length = i1) ∧ Gm Az j1 ys1 i1 = r ∧ Sx w [] nov [] [(0,Ax),(1,.func (.func 109) #[] #[.pointer (some ⟨Bb,0,none⟩)]),(7,iV (Av.length : Int)),(8,iV (i1 : Int))] 19 a w') List.length Av ⟨0,⟨[],rfl,rfl⟩,h,S.nf [] rfl (subR rfl)⟩ ?_)
  clear S h;rintro ys1 a w1 ⟨i1,⟨dn,hd1,hi1⟩,h,S⟩
  cases ys1 with
  | nil =>
   rw [Gm.eq_1] at h
   refine Fr (Vb S Ev rfl rfl rfl fun a S=>Ld ?_)
   replace S:=S.k5 0 1 7 8 9 rfl
   exact Tn (Fs (wp_cond_false ((S.tm rfl).trans (congrArg Value.bool (Im hd1 hi1))) (wp_exit (Ep (Ep (Gr (Tn (⟨h,S.nf [] rfl trivial⟩))))))))
  | cons y1 ys1 =>
   rw [Gm.eq_2] at h
   refine Fr (Vb S Ev rfl rfl rfl fun a S=>Ld ?_)
   replace S:=S.k5 0 1 7 8 9 rfl
   refine Tn (Fs (wp_cond_true ((S.tm rfl).trans (congrArg Value.bool (Hr hd1 hi1))) (wp_skip (Tn (Fs (wp_block (Fr (Vm S rfl rfl fun a S=>Va S rfl rfl ?_))))))));clear S;intro a S
   refine Dl (Fs (Fg ?_))
   iterate 3 (refine Vm S rfl rfl ?_;clear S;intro a S)
   obtain ⟨b1,o1,hm1,hr1⟩:=Fh (a:=a) (x:=.tmp 12) (y:=.tmp 13) (ty:=0) Th Bg (Iv hd1 hi1) rfl (S.tm rfl) (S.tm rfl)
   refine lv S (hr1 _) rfl ?_;clear S;intro a S
   clear hr1
   refine lv S (Fk isAgg43 sizeOf43 (off:=o1) (o:=0) (part:=(Em.enc y1)) rfl rfl (S.tm rfl) (hm1.at S.emb0)) rfl fun a S=>Ei S (fun _=>Ud (cap:=[.pointer (some ⟨Bb,0,none⟩)]) (S.tm rfl) (vs:=[.agg (Em.enc y1).toArray]) ⟨(S.tm rfl),trivial⟩ call109) (DK _ y1 Bb Az ((S.le_arg Er) _ _ Bo) _ rfl) rfl ?_;clear S;intro v1 a w3 hv1 hk1 hn1 S
   subst hv1
   refine Dl (Fc h (S.tm rfl) (fun hb1 h=>?_) (fun hb1 h=>?_))
   ·refine Fr (Vm S rfl rfl fun a S=>Va S rfl rfl fun a S=>Ld ?_)
    replace S:=S.k1 4 rfl
    refine Tn (wp_ret (Ga (Ec (Ec (Ga (Ec (Ec ?_)))))))
    subst h
    exact Eu S results100 rfl rfl
   ·exact wp_skip (Hn (Tn (Fg (Vq S Gf rfl rfl rfl fun a S=>Vm S rfl rfl fun a S=>Dl (⟨ys1,⟨i1 + 1,⟨_,(hd1).trans (List.append_cons _ _ _),by simp [hi1]⟩,h,S.nf [] rfl ⟨rfl,rfl,rfl,(congrArg (fun z=>some (Value.int .i64 z)) (Hs hd1 hi1 (Jg Bg))),trivial⟩⟩,Nat.lt_succ_self _⟩)))))
 clear S h;rintro a w2 ⟨h,S⟩;rw [hj1] at h;clear hj1 j1
 refine Tn (Fr (Vk S rfl rfl fun a S=>Dl (wp_ret ?_)))
 subst h
 exact Eu S results100 rfl rfl
theorem Sr (w : World) (Ax : Value) (Av : List Em) (Bg : Slc (view w []) 8 Ax (Av.map Em.enc)) (Bb : Nat) (Az : Em) (Bo : (view w []) Bb = some (.cells [sV Az.Key,iV Az.Metres,iV Az.Stroke,iV Az.Course,iV Az.Legs,iV Az.Sex,iV Az.Young,iV Az.Old].toArray 43 (0,0))) (r : Bool) (h : Jd Av Az = r) :
    Calls prog 108 [Ax,.func (.func 109) #[] #[.pointer (some ⟨Bb,0,none⟩)]].toArray w (Ret w [] fun _ v _=>v = bV r):=by
 refine Fe func108 rfl ntmps108 rfl fun a S=>?_
 unfold Jd at h
 replace S:=S.k2 0 1 rfl
 refine Fr (Vk S rfl rfl fun a S=>Dz (Vm S rfl rfl fun a S=>Vm S rfl rfl fun a S=>Ei S (fun _=>Ea (vs:=[Ax,.func (.func 109) #[] #[.pointer (some ⟨Bb,0,none⟩)]]) ⟨(S.tm rfl),(S.tm rfl),trivial⟩ call100) (Tr _ Ax Av (Bg.mono (S.le_arg Er)) Bb Az ((S.le_arg Er) _ _ Bo) _ rfl) rfl ?_));clear S;intro v1 a w1 hv1 hk1 hn1 S
 subst hv1
 refine Vq S Rt rfl rfl rfl fun a S=>Va S rfl rfl fun a S=>Dl (wp_ret ?_)
 subst h
 exact Eu S results108 rfl rfl
theorem Ym (w : World) (Aw : Mz) (Ch : R28) (Cv : Zh (view w []) Aw Ch) (r : Int) (h : Pt Aw = some r) :
    Calls prog 110 [.agg (R28.enc Ch).toArray].toArray w (Ret w [] fun _ v _=>v = iV r):=by
 obtain ⟨u1,rfl,hs1⟩:=Cv
 refine Fe func110 rfl ntmps110 rfl fun a S=>?_
 unfold Pt at h
 replace S:=S.k1 0 rfl
 refine Fr (Mx S (S.tm rfl) (cs:=[u1.val,iV Aw.Relay,iV Aw.Most]) rfl rfl ?_);clear S;intro a w1 b1 hz1 hk1 S
 refine Vk S rfl rfl fun a S=>Dl (Fs (Fr (Vf Yx S rfl rfl fun a S=>Vl isAgg22 0 S rfl rfl rfl rfl fun a S=>lv S (Fq Pj (S.tm rfl) (Fm hs1)) rfl fun a S=>Vq S Jj rfl rfl rfl fun a S=>Ld ?_)))
 refine Tn (Fc h (S.tm rfl) (fun hb1 h=>?_) (fun hb1 h=>?_))
 ·refine Fr (Vk S rfl rfl fun a S=>Dl (wp_ret (Ec ?_)))
  obtain rfl:=Option.some.inj h
  exact Eu S results110 rfl rfl
 ·refine wp_skip (Tn (Fs (Fr (Vf Yx S rfl rfl fun a S=>Vl isAgg22 0 S rfl rfl rfl rfl fun a S=>lv S (Fq Pj (S.tm rfl) (Fm hs1)) rfl fun a S=>lv S (Rm rfl) rfl fun a S=>Dl ?_))))
  replace S:=(S.nl [.blk b1 [u1.val,iV Aw.Relay,iV Aw.Most] 28] [true] rfl).k4 1 10 11 12 rfl
  obtain ⟨j1,hj1,h⟩:=Ey h
  refine Es (fun a w'=>j1 = some r ∧ Sx w [] nov [.blk b1 [u1.val,iV Aw.Relay,iV Aw.Most] 28] [(1,.pointer (some ⟨b1,0,none⟩))] 43 a w') ?_ ?_
  ·refine wp_block (Gz (fun (ys1 : List Int) a w'=>∃ i1 : Nat,(∃ dn,Aw.Points = dn ++ ys1 ∧ dn.length = i1) ∧ Kp Aw j1 ys1 i1 = some r ∧ Sx w [] nov [.blk b1 [u1.val,iV Aw.Relay,iV Aw.Most] 28] [(1,.pointer (some ⟨b1,0,none⟩)),(10,u1.val),(11,iV (Aw.Points.length : Int)),(12,iV (i1 : Int))] 43 a w') List.length Aw.Points ⟨0,⟨[],rfl,rfl⟩,h,S.nf [true] rfl (subR rfl)⟩ ?_)
   clear S h;rintro ys1 a w2 ⟨i1,⟨dn,hd1,hi1⟩,h,S⟩
   cases ys1 with
   | nil =>
    rw [Kp.eq_1] at h
    refine Fr (Vb S Ev rfl rfl rfl fun a S=>Ld ?_)
    replace S:=S.k5 1 10 11 12 13 rfl
    exact Tn (Fs (wp_cond_false ((S.tm rfl).trans (congrArg Value.bool (Im hd1 hi1))) (wp_exit (Ep (Ep (Gr (Tn (⟨h,S.nf [true] rfl ⟨rfl,trivial⟩⟩))))))))
   | cons y1 ys1 =>
    rw [Kp.eq_2] at h
    refine Fr (Vb S Ev rfl rfl rfl fun a S=>Ld ?_)
    replace S:=S.k5 1 10 11 12 13 rfl
    refine Tn (Fs (wp_cond_true ((S.tm rfl).trans (congrArg Value.bool (Hr hd1 hi1))) (wp_skip (Tn (Fs (wp_block (Fr (Vm S rfl rfl ?_))))))));clear S;intro a S
    obtain ⟨b2,o1,hm1,hr1⟩:=Fh (a:=a) (x:=.tmp 10) (y:=.tmp 12) (ty:=0) Pj hs1 (Iv hd1 hi1) rfl (S.tm rfl) (S.tm rfl)
    refine lv S (hr1 _) rfl ?_;clear S;intro a S
    clear hr1
    refine lv S (Ic isAgg3 (off:=o1) (o:=0) (S.tm rfl) (hm1.at S.emb0) rfl) rfl fun a S=>Va S rfl rfl fun a S=>Va S rfl rfl fun a S=>Dl (Fs (Fr (Vm S rfl rfl fun a S=>Ei S (fun _=>Ea (vs:=[iV y1,iV 0,iV 10000]) ⟨(S.tm rfl),rfl,rfl,trivial⟩ call67) (Ge _ y1 0 10000 _ rfl) rfl ?_)));clear S;intro v1 a w4 hv1 hk2 hn1 S
    subst hv1
    refine Vu S Hv rfl rfl fun a S=>Dl (Fc h (S.tm rfl) (fun hb2 h=>?_) (fun hb2 h=>?_))
    ·refine Fr (Vk S rfl rfl fun a S=>Dl (wp_ret (Ec (Ga (Ec (Ec (Ga ?_)))))))
     refine Ec (Ec ?_)
     obtain rfl:=Option.some.inj h
     exact Eu S results110 rfl rfl
    ·refine wp_skip (Tn (Fr (Vm S rfl rfl fun a S=>Vq S Jj rfl rfl rfl fun a S=>Vm S rfl rfl ?_)));clear S;intro a S
     obtain ⟨j2,hj2,h⟩:=Ey h
     refine Ib 9 (fun a w'=>∃ c1,j2 c1 = some r ∧ Keep [] w4 w' ∧ Sx w [] nov [.blk b1 [u1.val,iV Aw.Relay,iV Aw.Most] 28] [(1,.pointer (some ⟨b1,0,none⟩)),(10,u1.val),(11,iV (Aw.Points.length : Int)),(12,iV (i1 : Int)),(31,bV c1)] 43 a w') ?_ ?_
     ·rcases Bool.eq_false_or_eq_true (decide (0 < (i1 : Int))) with hb3 | hb3
      ·replace h:=Rg h hb3
       refine Ef S rfl rfl rfl hb3 (Vm S rfl rfl fun a S=>Ef S rfl rfl rfl hb3 (Vf Yx S rfl rfl fun a S=>Ef S rfl rfl rfl hb3 (Vl isAgg22 0 S rfl rfl rfl rfl fun a S=>Ef S rfl rfl rfl hb3 (Vm S rfl rfl fun a S=>Ef S rfl rfl rfl hb3 (Vq S Iy rfl rfl rfl fun a S=>Ef S rfl rfl rfl hb3 ?_)))))
       obtain ⟨hc1,h⟩:=Ij h
       obtain ⟨b3,o2,hm2,hr2⟩:=Fh (a:=a) (x:=.tmp 25) (y:=.tmp 27) (ty:=0) Pj hs1 (Eh hc1).1 (Eh hc1).2 (S.tm rfl) (S.tm rfl)
       refine lv S (hr2 _) rfl ?_;clear S;intro a S
       clear hr2
       exact Ef S rfl rfl rfl hb3 (lv S (Ic isAgg3 (off:=o2) (o:=0) (S.tm rfl) (hm2.at S.emb0) rfl) rfl fun a S=>Ef S rfl rfl rfl hb3 (Vb S Jj rfl rfl rfl fun a S=>lv S (Hz hb3 (S.tm rfl) (S.tm rfl)) rfl fun a S=>Dl (⟨_,h,Keep.refl _ _,S.nf [true] rfl (subR rfl)⟩)))
      ·replace h:=Rh h hb3
       iterate 8 (refine Hh S rfl rfl rfl (Jw hb3) rfl ?_ rfl;clear S;intro a S)
       exact Vq S (Ia true hb3) rfl rfl rfl fun a S=>Dl (⟨_,h,Keep.refl _ _,S.nf [true] rfl (subR rfl)⟩)
     clear S h;rintro a w5 ⟨c1,h,hk3,S⟩;rw [hj2] at h;clear hj2 j2
     refine Dl (Fc h (S.tm rfl) (fun hb4 h=>?_) (fun hb4 h=>?_))
     ·refine Fr (Vk S rfl rfl fun a S=>Dl (wp_ret (Ga (Ec (Ec (Ga (Ec ?_)))))))
      refine Ec ?_
      obtain rfl:=Option.some.inj h
      exact Eu S results110 rfl rfl
     ·exact wp_skip (Hn (Tn (Fg (Vq S Gf rfl rfl rfl fun a S=>Vm S rfl rfl fun a S=>Dl (⟨ys1,⟨i1 + 1,⟨_,(hd1).trans (List.append_cons _ _ _),by simp [hi1]⟩,h,S.nf [true] rfl ⟨rfl,rfl,rfl,(congrArg (fun z=>some (Value.int .i64 z)) (Hs hd1 hi1 (Jg hs1))),trivial⟩⟩,Nat.lt_succ_self _⟩)))))
  clear S h;rintro a w3 ⟨h,S⟩;rw [hj1] at h;clear hj1 j1
  refine Tn (Fs (Fr (Vf TD S rfl rfl fun a S=>Vl isAgg3 0 S rfl rfl rfl rfl fun a S=>Ei S (fun _=>Ea (vs:=[iV Aw.Relay,iV 1,iV 10]) ⟨(S.tm rfl),rfl,rfl,trivial⟩ call67) (Ge _ Aw.Relay 1 10 _ rfl) rfl ?_)));clear S;intro v2 a w6 hv2 hk4 hn2 S
  subst hv2
  refine Vu S Hv rfl rfl fun a S=>Vm S rfl rfl fun a S=>Ib 5 (fun a w'=>Keep [] w6 w' ∧ Sx w [] nov [.blk b1 [u1.val,iV Aw.Relay,iV Aw.Most] 28] [(42,bV ((!(Ed Aw.Relay 1 10)) || (!(Ed Aw.Most 0 10))))] 43 a w') ?_ ?_
  ·rcases Bool.eq_false_or_eq_true (!(Ed Aw.Relay 1 10)) with hb5 | hb5
   ·iterate 4 (refine Hh S rfl rfl rfl (Nm hb5) rfl ?_ rfl;clear S;intro a S)
    exact lv S (Lj (!(Ed Aw.Most 0 10)) hb5 (S.tm rfl) rfl) rfl fun a S=>Dl (⟨Keep.refl _ _,S.nf [true] rfl ⟨rfl,trivial⟩⟩)
   ·refine Ef S rfl rfl rfl hb5 (Vf NR S rfl rfl fun a S=>Ef S rfl rfl rfl hb5 (Vl isAgg3 0 S rfl rfl rfl rfl fun a S=>Ef S rfl rfl rfl hb5 (Ei S (fun _=>Ea (vs:=[iV Aw.Most,iV 0,iV 10]) ⟨(S.tm rfl),rfl,rfl,trivial⟩ call67) (Ge _ Aw.Most 0 10 _ rfl) rfl ?_)));clear S;intro v3 a w8 hv3 hk5 hn3 S
    subst hv3
    exact Ef S rfl rfl rfl hb5 (Vu S Hv rfl rfl fun a S=>lv S (Lk hb5 (S.tm rfl) (S.tm rfl)) rfl fun a S=>Dl (⟨hk5,S.nf [true] rfl ⟨rfl,trivial⟩⟩))
  clear S;rintro a w7 ⟨hk6,S⟩
  refine Dl (Fc h (S.tm rfl) (fun hb6 h=>?_) (fun hb6 h=>?_))
  ·refine Fr (Vk S rfl rfl fun a S=>Dl (wp_ret (Ec ?_)))
   obtain rfl:=Option.some.inj h
   exact Eu S results110 rfl rfl
  ·refine wp_skip (Tn (Fr (Vk S rfl rfl fun a S=>Dl (wp_ret ?_))))
   obtain rfl:=Option.some.inj h
   exact Eu S results110 rfl rfl
theorem FP (w : World) (Cq : Uh) (r : Int) (h : Ry Cq = r) :
    Calls prog 111 [.agg (Uh.enc Cq).toArray].toArray w (Ret w [] fun _ v _=>v = iV r):=by
 refine Fe func111 rfl ntmps111 rfl fun a S=>?_
 unfold Ry at h
 replace S:=S.k1 0 rfl
 refine Fr (Mx S (S.tm rfl) (cs:=(Uh.enc Cq)) rfl rfl ?_);clear S;intro a w1 b1 hz1 hk1 S
 refine Vk S rfl rfl fun a S=>Dl (Fs (Fr (Vf fa_30_0 S rfl rfl fun a S=>Vl isAgg3 0 S rfl rfl rfl rfl fun a S=>Ei S (fun _=>Ea (vs:=[iV Cq.Size,iV 1,iV 10]) ⟨(S.tm rfl),rfl,rfl,trivial⟩ call67) (Ge _ Cq.Size 1 10 _ rfl) rfl ?_)));clear S;intro v1 a w2 hv1 hk2 hn1 S
 subst hv1
 refine Vu S Hv rfl rfl fun a S=>Vm S rfl rfl fun a S=>Ib 5 (fun a w'=>Keep [] w2 w' ∧ Sx w [] nov [.blk b1 (Uh.enc Cq) 30] [(1,.pointer (some ⟨b1,0,none⟩)),(12,bV ((!(Ed Cq.Size 1 10)) || (!(Ed Cq.Many 1 5))))] 19 a w') ?_ ?_
 ·rcases Bool.eq_false_or_eq_true (!(Ed Cq.Size 1 10)) with hb1 | hb1
  ·iterate 4 (refine Hh S rfl rfl rfl (Nm hb1) rfl ?_ rfl;clear S;intro a S)
   exact lv S (Lj (!(Ed Cq.Many 1 5)) hb1 (S.tm rfl) rfl) rfl fun a S=>Dl (⟨Keep.refl _ _,S.nf [true] rfl (subR rfl)⟩)
  ·refine Ef S rfl rfl rfl hb1 (Vf fa_30_1 S rfl rfl fun a S=>Ef S rfl rfl rfl hb1 (Vl isAgg3 0 S rfl rfl rfl rfl fun a S=>Ef S rfl rfl rfl hb1 (Ei S (fun _=>Ea (vs:=[iV Cq.Many,iV 1,iV 5]) ⟨(S.tm rfl),rfl,rfl,trivial⟩ call67) (Ge _ Cq.Many 1 5 _ rfl) rfl ?_)));clear S;intro v2 a w4 hv2 hk3 hn2 S
   subst hv2
   exact Ef S rfl rfl rfl hb1 (Vu S Hv rfl rfl fun a S=>lv S (Lk hb1 (S.tm rfl) (S.tm rfl)) rfl fun a S=>Dl (⟨hk3,S.nf [true] rfl (subR rfl)⟩))
 clear S;rintro a w3 ⟨hk4,S⟩
 refine Vm S rfl rfl fun a S=>Ib 5 (fun a w'=>Keep [] w3 w' ∧ Sx w [] nov [.blk b1 (Uh.enc Cq) 30] [(18,bV (((!(Ed Cq.Size 1 10)) || (!(Ed Cq.Many 1 5))) || (!(Ed Cq.Reserves 0 10))))] 19 a w') ?_ ?_
 ·rcases Bool.eq_false_or_eq_true ((!(Ed Cq.Size 1 10)) || (!(Ed Cq.Many 1 5))) with hb2 | hb2
  ·iterate 4 (refine Hh S rfl rfl rfl (Nm hb2) rfl ?_ rfl;clear S;intro a S)
   exact lv S (Lj (!(Ed Cq.Reserves 0 10)) hb2 (S.tm rfl) rfl) rfl fun a S=>Dl (⟨Keep.refl _ _,S.nf [true] rfl ⟨rfl,trivial⟩⟩)
  ·refine Ef S rfl rfl rfl hb2 (Vf fa_30_2 S rfl rfl fun a S=>Ef S rfl rfl rfl hb2 (Vl isAgg3 0 S rfl rfl rfl rfl fun a S=>Ef S rfl rfl rfl hb2 (Ei S (fun _=>Ea (vs:=[iV Cq.Reserves,iV 0,iV 10]) ⟨(S.tm rfl),rfl,rfl,trivial⟩ call67) (Ge _ Cq.Reserves 0 10 _ rfl) rfl ?_)));clear S;intro v3 a w6 hv3 hk5 hn3 S
   subst hv3
   exact Ef S rfl rfl rfl hb2 (Vu S Hv rfl rfl fun a S=>lv S (Lk hb2 (S.tm rfl) (S.tm rfl)) rfl fun a S=>Dl (⟨hk5,S.nf [true] rfl ⟨rfl,trivial⟩⟩))
 clear S;rintro a w5 ⟨hk6,S⟩
 refine Dl (Fc h (S.tm rfl) (fun hb3 h=>?_) (fun hb3 h=>?_))
 ·refine Fr (Vk S rfl rfl fun a S=>Dl (wp_ret (Ec ?_)))
  subst h
  exact Eu S results111 rfl rfl
 ·refine wp_skip (Tn (Fr (Vk S rfl rfl fun a S=>Dl (wp_ret ?_))))
  subst h
  exact Eu S results111 rfl rfl
theorem GU (w : World) (Ad : Kq) (Ca : R32) (Cl : Tp (view w []) Ad Ca) (r : Int) (h : Ux Ad = some r) :
    Calls prog 59 [.agg (R32.enc Ca).toArray].toArray w (Ret w [] fun _ v _=>v = iV r):=by
 obtain ⟨u1,u2,rfl,hs1,⟨u3,rfl,hs2⟩⟩:=Cl
 refine Fe func59 rfl ntmps59 rfl fun a S=>?_
 unfold Ux at h
 replace S:=S.k1 0 rfl
 refine Fr (Mx S (S.tm rfl) (cs:=[u1.val,u3.val,iV Ad.Table.Relay,iV Ad.Table.Most,iV Ad.Final.Size,iV Ad.Final.Many,iV Ad.Final.Reserves]) rfl rfl ?_);clear S;intro a w1 b1 hz1 hk1 S
 refine Vk S rfl rfl fun a S=>Dl (Fs (Fr (Vf Xc S rfl rfl fun a S=>Vl isAgg26 0 S rfl rfl rfl rfl fun a S=>lv S (Fq Th (S.tm rfl) (Fm hs1)) rfl fun a S=>Vq S Jj rfl rfl rfl fun a S=>Ld ?_)))
 refine Tn (Fc h (S.tm rfl) (fun hb1 h=>?_) (fun hb1 h=>?_))
 ·refine Fr (Vk S rfl rfl fun a S=>Dl (wp_ret (Ec ?_)))
  obtain rfl:=Option.some.inj h
  exact Eu S results59 rfl rfl
 ·refine wp_skip (Tn (Fs (Fr (Vf Xc S rfl rfl fun a S=>Vl isAgg26 0 S rfl rfl rfl rfl fun a S=>lv S (Fq Th (S.tm rfl) (Fm hs1)) rfl fun a S=>lv S (Rm rfl) rfl fun a S=>Dl ?_))))
  replace S:=(S.nl [.blk b1 [u1.val,u3.val,iV Ad.Table.Relay,iV Ad.Table.Most,iV Ad.Final.Size,iV Ad.Final.Many,iV Ad.Final.Reserves] 32] [true] rfl).k4 1 12 13 14 rfl
  obtain ⟨j1,hj1,h⟩:=Ey h
  refine Es (fun a w'=>j1 = some r ∧ Sx w [] nov [.blk b1 [u1.val,u3.val,iV Ad.Table.Relay,iV Ad.Table.Most,iV Ad.Final.Size,iV Ad.Final.Many,iV Ad.Final.Reserves] 32] [(1,.pointer (some ⟨b1,0,none⟩))] 40 a w') ?_ ?_
  ·refine wp_block (Gz (fun (ys1 : List Em) a w'=>∃ i1 : Nat,(∃ dn,Ad.Races = dn ++ ys1 ∧ dn.length = i1) ∧ Mn Ad j1 ys1 i1 = some r ∧ Sx w [] nov [.blk b1 [u1.val,u3.val,iV Ad.Table.Relay,iV Ad.Table.Most,iV Ad.Final.Size,iV Ad.Final.Many,iV Ad.Final.Reserves] 32] [(1,.pointer (some ⟨b1,0,none⟩)),(12,u1.val),(13,iV (Ad.Races.length : Int)),(14,iV (i1 : Int))] 40 a w') List.length Ad.Races ⟨0,⟨[],rfl,rfl⟩,h,S.nf [true] rfl (subR rfl)⟩ ?_)
   clear S h;rintro ys1 a w2 ⟨i1,⟨dn,hd1,hi1⟩,h,S⟩
   cases ys1 with
   | nil =>
    rw [Mn.eq_1] at h
    refine Fr (Vb S Ev rfl rfl rfl fun a S=>Ld ?_)
    replace S:=S.k5 1 12 13 14 15 rfl
    exact Tn (Fs (wp_cond_false ((S.tm rfl).trans (congrArg Value.bool (Im hd1 hi1))) (wp_exit (Ep (Ep (Gr (Tn (⟨h,S.nf [true] rfl ⟨rfl,trivial⟩⟩))))))))
   | cons y1 ys1 =>
    rw [Mn.eq_2] at h
    refine Fr (Vb S Ev rfl rfl rfl fun a S=>Ld ?_)
    replace S:=S.k5 1 12 13 14 15 rfl
    refine Tn (Fs (wp_cond_true ((S.tm rfl).trans (congrArg Value.bool (Hr hd1 hi1))) (wp_skip (Tn (Fs (wp_block (Fr (Vm S rfl rfl ?_))))))));clear S;intro a S
    obtain ⟨b2,o1,hm1,hr1⟩:=Fh (a:=a) (x:=.tmp 12) (y:=.tmp 14) (ty:=0) Th hs1 (Iv hd1 hi1) rfl (S.tm rfl) (S.tm rfl)
    refine lv S (hr1 _) rfl ?_;clear S;intro a S
    clear hr1
    refine lv S (Fk isAgg43 sizeOf43 (off:=o1) (o:=0) (part:=(Em.enc y1)) rfl rfl (S.tm rfl) (hm1.at S.emb0)) rfl fun a S=>Hu S zeroValue43 (cs:=[sV An,iV 0,iV 0,iV 0,iV 0,iV 0,iV 0,iV 0]) rfl rfl ?_;clear S;intro a w4 b3 hz2 hk2 S
    refine Va S rfl rfl fun a S=>Fj S (S.tm rfl) (S.tm rfl) (i:=0) (off:=0) rfl sizeOf43 (vs:=(Em.enc y1)) rfl rfl rfl rfl ?_;clear S;intro w5 hk3 S
    refine Dl (Fs (Fr (lv S (Fk isAgg43 sizeOf43 (off:=0) (o:=0) (part:=(Em.enc y1)) rfl rfl (S.tm rfl) (S.cellsAt (i:=0) rfl)) rfl ?_)));clear S;intro a S
    obtain ⟨r1,hr2,h⟩:=Fd h
    refine Ei S (fun _=>Ea (vs:=[.agg (Em.enc y1).toArray]) ⟨(S.tm rfl),trivial⟩ call107) (EP _ y1 _ hr2) rfl ?_;clear S;intro v1 a w6 hv1 hk4 hn1 S
    subst hv1
    refine Va S rfl rfl fun a S=>Dz (Vm S rfl rfl fun a S=>Vq S Lf rfl rfl rfl fun a S=>Ld ?_)
    replace S:=(S.nl [.blk b3 (Em.enc y1) 43,.blk b1 [u1.val,u3.val,iV Ad.Table.Relay,iV Ad.Table.Most,iV Ad.Final.Size,iV Ad.Final.Many,iV Ad.Final.Reserves] 32] [true,true] rfl).k8 1 3 4 5 12 13 14 22 rfl
    refine Tn (Fc h (S.tm rfl) (fun hb2 h=>?_) (fun hb2 h=>?_))
    ·refine Fr (Vm S rfl rfl fun a S=>Va S rfl rfl fun a S=>Dl (wp_ret (Ec (Ga (Ec (Ec ?_))))))
     refine Ga (Ec (Ec ?_))
     obtain rfl:=Option.some.inj h
     exact Eu S results59 rfl rfl
    ·refine wp_skip (Tn (Fr (Vf Xc S rfl rfl fun a S=>Vl isAgg26 1 S rfl rfl rfl rfl fun a S=>Vm S rfl rfl ?_)));clear S;intro a S
     obtain ⟨hc1,h⟩:=Ij h
     obtain ⟨v2,hs3,hr3⟩:=OW (a:=a) (x:=.tmp 25) (y':=.tmp 26) (ty:=26) Th hs1 (S.tm rfl) (S.tm rfl) hc1
     refine lv S (hr3 _) rfl ?_;clear S;intro a S
     clear hr3
     refine lv S (Wk (us:=#[]) (xs:=[].toArray) (ys:=[.tmp 4].toArray) (by simp) (evA ⟨(S.tm rfl),trivial⟩ (vs:=[.pointer (some ⟨b3,0,none⟩)]))) rfl fun a S=>Ei S (fun _=>Ea (vs:=[v2,.func (.func 109) #[] #[.pointer (some ⟨b3,0,none⟩)]]) ⟨(S.tm rfl),(S.tm rfl),trivial⟩ call108) (Sr _ v2 (cut Ad.Races 0 (i1 : Int)) (hs3.mono (S.le_arg Er)) b3 y1 (S.blk_view (i:=0) rfl ((Ie (e':=.blk b3 (Em.enc y1) 43)) _ rfl)) _ rfl) rfl ?_;clear S;intro v3 a w7 hv2 hk5 hn2 S
     subst hv2
     refine Dl (Fc h (S.tm rfl) (fun hb3 h=>?_) (fun hb3 h=>?_))
     ·refine Fr (Vk S rfl rfl fun a S=>Ld ?_)
      replace S:=S.n0.k1 2 rfl
      refine Tn (wp_ret (Ga (Ec (Ec (Ga (Ec (Ec ?_)))))))
      obtain rfl:=Option.some.inj h
      exact Eu S results59 rfl rfl
     ·refine wp_skip (Hn (Tn (Fg (Vq S Gf rfl rfl rfl fun a S=>Vm S rfl rfl fun a S=>Ld ?_))))
      replace S:=S.d0.k4 1 12 13 14 rfl
      exact Tn (⟨ys1,⟨i1 + 1,⟨_,(hd1).trans (List.append_cons _ _ _),by simp [hi1]⟩,h,S.nf [true] rfl ⟨rfl,rfl,rfl,(congrArg (fun z=>some (Value.int .i64 z)) (Hs hd1 hi1 (Jg hs1))),trivial⟩⟩,Nat.lt_succ_self _⟩)
  clear S h;rintro a w3 ⟨h,S⟩;rw [hj1] at h;clear hj1 j1
  refine Tn (Fs (Fr (Vf JH S rfl rfl fun a S=>lv S (Fk isAgg28 sizeOf28 (off:=0) (o:=1) (part:=[u3.val,iV Ad.Table.Relay,iV Ad.Table.Most]) rfl rfl (S.tm rfl) (S.cellsAt (i:=0) rfl)) rfl ?_)));clear S;intro a S
  obtain ⟨r2,hr4,h⟩:=Fd h
  refine Ei S (fun _=>Ea (vs:=[.agg (R28.enc (R28.mk u3 Ad.Table.Relay Ad.Table.Most)).toArray]) ⟨(S.tm rfl),trivial⟩ call110) (Ym _ Ad.Table (R28.mk u3 Ad.Table.Relay Ad.Table.Most) ⟨u3,rfl,(hs2.mono (S.le_arg Er))⟩ _ hr4) rfl ?_;clear S;intro v4 a w8 hv3 hk6 hn3 S
  subst hv3
  refine Va S rfl rfl fun a S=>Dz (Vm S rfl rfl fun a S=>Vq S Lf rfl rfl rfl fun a S=>Dl (Fc h (S.tm rfl) (fun hb4 h=>?_) (fun hb4 h=>?_)))
  ·refine Fr (Vm S rfl rfl fun a S=>Va S rfl rfl fun a S=>Dl (wp_ret (Ec ?_)))
   obtain rfl:=Option.some.inj h
   exact Eu S results59 rfl rfl
  ·refine wp_skip (Tn (Fr (Vf fa_32_2 S rfl rfl fun a S=>lv S (Fk isAgg30 sizeOf30 (off:=0) (o:=4) (part:=(Uh.enc Ad.Final)) rfl rfl (S.tm rfl) (S.cellsAt (i:=0) rfl)) rfl fun a S=>Ei S (fun _=>Ea (vs:=[.agg (Uh.enc Ad.Final).toArray]) ⟨(S.tm rfl),trivial⟩ call111) (FP _ Ad.Final _ rfl) rfl ?_)));clear S;intro v5 a w9 hv4 hk7 hn4 S
   subst hv4
   refine Va S rfl rfl fun a S=>Dl (wp_ret ?_)
   obtain rfl:=Option.some.inj h
   exact Eu S results59 rfl rfl
theorem CF (w : World) (Ax : Value) (Av : List Int) (Do : (LEnt.own Ax 3 1 Av.length (Av.flatMap eInt)).holds w) (r : (List Int)) (h : Pw Av = some r) :
    Calls prog 139 [Ax].toArray w (Ret w (Ax.ownBlock.toList) fun _ v w'=>(LEnt.own Ax 3 1 r.length (r.flatMap eInt)).holds w' ∧ v = .tuple #[]):=by
 refine Lb (Ax.ownBlock.toList) [.own Ax 3 1 Av.length (Av.flatMap eInt)] func139 rfl ntmps139 rfl (fun e he=>by simp only [List.mem_singleton] at he;subst he;exact Do) (Iu _) (Js _) fun a S=>?_
 unfold Pw at h
 replace S:=(S.nl [.own Ax 3 1 Av.length (Av.flatMap eInt)] [true] rfl).k1 0 rfl
 refine Fr (Vm S rfl rfl fun a S=>lv S (Fq Pj (S.tm rfl) (Oh (S.own_at (i:=0) rfl))) rfl fun a S=>Vq S Iy rfl rfl rfl fun a S=>Vk S rfl rfl fun a S=>Va S rfl rfl fun a S=>Dl ?_)
 replace S:=S.k3 0 2 3 rfl
 obtain ⟨j1,hj1,h⟩:=Ey h
 refine Es (fun a w'=>∃ x1 : List Int,j1 x1 = some r ∧ Sx w (Ax.ownBlock.toList) nov [.own Ax 3 1 x1.length (x1.flatMap eInt)] [] 28 a w') ?_ ?_
 ·refine wp_block (Gz (fun (m1 : Nat) a w'=>∃ x1 : List Int,∃ x2 : Int,∃ x3 : Int,Kc j1 m1 x1 x2 x3 = some r ∧ Sx w (Ax.ownBlock.toList) nov [.own Ax 3 1 x1.length (x1.flatMap eInt)] [(0,Ax),(2,iV x2),(3,iV x3)] 28 a w') id (((W ((Av.length : Int) - 1)) - 0).toNat + 2) ⟨Av,0,W ((Av.length : Int) - 1),h,S.nf [true] rfl (subR rfl)⟩ ?_)
  clear S h;rintro m1 a w1 ⟨x1,x2,x3,h,S⟩
  cases m1 with
  | zero=>rw [Kc.eq_1] at h;cases h
  | succ m1 =>
   rw [Kc.eq_2] at h
   refine Fs (Fr (Vm S rfl rfl fun a S=>Vm S rfl rfl fun a S=>Vb S Ev rfl rfl rfl fun a S=>Dl (Fc h (S.tm rfl) (fun hb1 h=>?_) (fun hb1 h=>?_))))
   ·refine wp_skip (Tn (Fs (wp_block ?_)))
    obtain ⟨hc1,h⟩:=Ij h
    obtain ⟨hc2,h⟩:=Ij h
    obtain ⟨hc3,h⟩:=Ij h
    obtain ⟨hc4,h⟩:=Ij h
    refine Hd [13,15] ([]) Tryz.mixed S rfl (by kernel_rfl) ?_;clear S;intro w7 hk5 hsel S
    refine Fz 0 S hsel rfl rfl (by kernel_rfl) (by kernel_rfl) rfl (fun _=>(Rm (S.tm rfl))) fun a S=>Fz 1 S hsel rfl rfl (by kernel_rfl) (by kernel_rfl) rfl (fun _=>(Rm (S.tm rfl))) fun a S=>Fz 2 S hsel rfl rfl (by kernel_rfl) (by kernel_rfl) rfl (fun _=>(Rm (S.tm rfl))) fun a S=>Fz 3 S hsel rfl rfl (by kernel_rfl) (by kernel_rfl) rfl (fun _=>(Rm (S.tm rfl))) fun a S=>Fz 4 S hsel rfl rfl (by kernel_rfl) (by kernel_rfl) rfl (fun _=>(Rm (S.tm rfl))) fun a S=>Fz 5 S hsel rfl rfl (by kernel_rfl) (by kernel_rfl) rfl (fun _=>(Rm (S.tm rfl))) ?_;clear S;intro a S
    obtain ⟨b5,hg5,hr5⟩:=Gx (a:=a) (x:=.tmp 18) (y:=.tmp 19) (ty:=0) Pj Jb S (i:=0) rfl (Eh hc1).1 (Eh hc1).2 (S.tm rfl) (S.tm rfl)
    refine Fz 6 S hsel rfl rfl (by kernel_rfl) (by kernel_rfl) rfl (fun _=>(hr5 _)) ?_;clear S;intro a S
    clear hr5
    refine Ek 7 S hsel rfl (by kernel_rfl) (by kernel_rfl) (by kernel_rfl) (by kernel_rfl) rfl (fun _ hw=>(Ic isAgg3 (off:=x3.toNat * 1) (o:=0) (S.tm rfl) ((Ns Jb S (i:=0) rfl hg5 (Eh hc1).1 (Ie (e':=.own Ax 3 1 x1.length (x1.flatMap eInt)))).kept hw) rfl)) fun a S=>Fz 8 S hsel rfl rfl (by kernel_rfl) (by kernel_rfl) rfl (fun _=>(Rm (S.tm rfl))) fun a S=>Fz 9 S hsel rfl rfl (by kernel_rfl) (by kernel_rfl) rfl (fun _=>(Rm (S.tm rfl))) ?_;clear S;intro a S
    obtain ⟨b6,hg6,hr6⟩:=Gx (a:=a) (x:=.tmp 22) (y:=.tmp 23) (ty:=0) Pj Jb S (i:=0) rfl (Eh hc2).1 (Eh hc2).2 (S.tm rfl) (S.tm rfl)
    refine Fz 10 S hsel rfl rfl (by kernel_rfl) (by kernel_rfl) rfl (fun _=>(hr6 _)) ?_;clear S;intro a S
    clear hr6
    refine Ek 11 S hsel rfl (by kernel_rfl) (by kernel_rfl) (by kernel_rfl) (by kernel_rfl) rfl (fun _ hw=>(Ic isAgg3 (off:=x2.toNat * 1) (o:=0) (S.tm rfl) ((Ns Jb S (i:=0) rfl hg6 (Eh hc2).1 (Ie (e':=.own Ax 3 1 x1.length (x1.flatMap eInt)))).kept hw) rfl)) ?_;clear S;intro a S
    obtain ⟨b7,hg7,hr7⟩:=Gx (a:=a) (x:=.tmp 14) (y:=.tmp 15) (ty:=0) Pj Jb S (i:=0) rfl (Eh hc3).1 (Eh hc3).2 (S.tm rfl) (S.tm rfl)
    refine Fz 12 S hsel rfl rfl (by kernel_rfl) (by kernel_rfl) rfl (fun _=>(hr7 _)) ?_;clear S;intro a S
    clear hr7
    refine Wq 13 (Ax.ownBlock.toList) rfl (by kernel_rfl) rfl (Oe (c:=0) (j:=x2.toNat) (nth x1 x3) Jb S (S.tm rfl) (S.tm rfl) (i:=0) rfl hg7 (Eh hc3).1 sizeOf3 (vs:=[iV (nth x1 x3)]) rfl rfl rfl rfl rfl ?_);clear S;intro w9 hk7 S
    refine Ld (Wr ?_)
    obtain ⟨b8,hg8,hr8⟩:=Gx (a:=a) (x:=.tmp 16) (y:=.tmp 17) (ty:=0) Pj Jb S (i:=0) rfl (Eh hc4).1 (Eh hc4).2 (S.tm rfl) (S.tm rfl)
    refine Ek 14 S hsel rfl rfl rfl (by kernel_rfl) (by kernel_rfl) rfl (fun _ hw=>(hr8 _)) ?_;clear S;intro a S
    clear hr8
    refine Hi 15 (by kernel_rfl) rfl (Oe (c:=0) (j:=x3.toNat) (nth x1 x2) Jb S (S.tm rfl) (S.tm rfl) (i:=0) rfl hg8 (Eh hc4).1 sizeOf3 (vs:=[iV (nth x1 x2)]) rfl rfl rfl rfl rfl ?_);clear S;intro w11 hk9 S
    refine Ld (Ik hk9 (Wl (by kernel_rfl) ?_))
    clear hsel
    replace S:=(S.nl [.own Ax 3 1 ((x1.set x2.toNat (nth x1 x3)).set x3.toNat (nth x1 x2)).length (((x1.set x2.toNat (nth x1 x3)).set x3.toNat (nth x1 x2)).flatMap eInt)] [true] rfl).k3 0 2 3 rfl
    refine Hn (Tn (Fg (Vm S rfl rfl fun a S=>Vq S Gf rfl rfl rfl fun a S=>Vm S rfl rfl fun a S=>Vq S Iy rfl rfl rfl fun a S=>Va S rfl rfl fun a S=>Va S rfl rfl fun a S=>Dl ?_)))
    exact ⟨m1,⟨((x1.set x2.toNat (nth x1 x3)).set x3.toNat (nth x1 x2)),W (x2 + 1),W (x3 - 1),h,S.nf [true] rfl ⟨rfl,rfl,rfl,trivial⟩⟩,Nat.lt_succ_self _⟩
   ·exact wp_exit (Ep (Ep (Gr (Tn (⟨x1,h,S.nf [true] rfl trivial⟩)))))
 clear S h;rintro a w2 ⟨x1,h,S⟩;rw [hj1] at h;clear hj1 j1
 obtain rfl:=Option.some.inj h
 exact Ri S results139 ⟨(S.holds _ (List.mem_of_getElem? (i:=0) rfl)),rfl⟩
def PU (xs : List Dx) (j : Nat) : Array Value:=#[iV (j : Int),.agg (Dx.enc (nth xs (j : Int))).toArray]
theorem back_in (φ ξ : View) (n Bs : Nat) (sv : Value) (xs : List Dx) (hB : φ Bs = some (.cells [sv].toArray 34 (0,0))) (hs : Slc ξ 11 sv (xs.map Dx.enc)) (l : Nat) (J : Nat → World → Prop) (w : World) (hJ : ∀ k w,J k w → Emb φ w ∧ Emb ξ w) (h0 : J 0 w)
    (hr : ∀ k x w1,(Zc xs.length)[k]? = some x → J k w1 → YieldAt (WF none) (n - 1) prog l (PU xs x) w1 fun e w'=>e = .returned (.bool true) ∧ J (k + 1) w') :
    CallsIn (WF none) n prog 169 (#[.func (.yield l) #[] #[]] ++ #[.pointer (some ⟨Bs,0,none⟩)]) w fun e w'=>(∃ v,e = .returned v) ∧ J (Zc xs.length).length w':=by
  refine i_enter (vs:=[.func (.yield l) #[] #[],.pointer (some ⟨Bs,0,none⟩)]) func169 rfl ntmps169 rfl fun a S=>?_
  have hlen : (Zc xs.length).length = xs.length:=by simp [Zc]
  have hmx:=Jg hs
  have hQ : ∀ fn a w,¬ bodyPost prog fn (fun e w'=>(∃ v,e = .returned v) ∧ J (Zc xs.length).length w') .outgrown a w:=fun _ _ _ ⟨⟨_,e⟩,_⟩=>by cases e
  have hbox : ∀ {k : Nat} {w : World},J k w → Sv w Bs 0 [sv]:=fun hj=>(Ti hB).at (hJ _ _ hj).1
  have hw : ∀ k : Nat,k ≤ xs.length → W ((xs.length : Int) - 1 - (k : Int)) = (xs.length : Int) - 1 - (k : Int):=fun k hk=>Ox (by omega) (by omega)
  refine Zi (Si (hQ f169) rfl (lv S (Ic isAgg34 (off:=0) (o:=0) (S.tm rfl) (hbox h0) rfl) rfl fun a S=>lv S (Fq La (S.tm rfl) (Fm hs)) rfl fun a S=>lv S (Iy (S.tm rfl) rfl) rfl fun a S=>lv S (Ra (S.tm rfl)) rfl fun a S=>Ld (Tn (wpIn_block (i_loop (fun m a w'=>∃ k : Nat,k ≤ xs.length ∧ m = xs.length - k ∧ J k w' ∧ Sx w' [] nov [] [(0,.func (.yield l) #[] #[]),(1,.pointer (some ⟨Bs,0,none⟩)),(3,iV ((xs.length : Int) - 1 - (k : Int)))] 19 a w') xs.length ⟨0,Nat.zero_le _,rfl,h0,?_⟩ ?_)))))
  · have h1:=(S.rebase (w':=w)).sub (K':=[(0,.func (.yield l) #[] #[]),(1,.pointer (some ⟨Bs,0,none⟩)),(3,iV (W ((xs.length : Int) - 1)))]) (subR rfl)
    have h2:=hw 0 (Nat.zero_le _)
    rw [show (((0 : Nat) : Int)) = 0 from rfl,Int.sub_zero] at h2 ⊢
    rw [h2] at h1
    exact h1
  · clear S;rintro m a w1 ⟨k,hk,rfl,hj,S⟩
    refine Zi (Zi (Si (hQ f169) rfl (lv S (Rm (S.tm rfl)) rfl fun a S=>lv S (Rt (S.tm rfl) rfl) rfl fun a S=>Ld (Tn (OD (S.tm rfl) (fun hb=>?_) (fun hb=>?_))))))
    · have hb' : (0 : Int) ≤ (xs.length : Int) - 1 - (k : Int):=by simpa using hb
      have hlt : k < xs.length:=by omega
      have hx:=revI_at hlt
      have hy:=hr k _ w1 hx hj
      have hidx : ((xs.length - 1 - k : Nat) : Int) = (xs.length : Int) - 1 - (k : Int):=by omega
      refine wpIn_skip (Tn (Zi (wpIn_block (Zi (wpIn_region_lit (RU S (Rm (S.tm rfl)) (fun _ h=>by cases h) rfl fun a S=>RU S (Rm (S.tm rfl)) (fun _ h=>by cases h) rfl fun a S=>RU S (Ic isAgg34 (off:=0) (o:=0) (S.tm rfl) (hbox hj) rfl) (fun _ h=>by cases h) rfl fun a S=>RU S (Rm (S.tm rfl)) (fun _ h=>by cases h) rfl ?_))))));clear S;intro a S
      obtain ⟨b1,o1,hm1,hr1⟩:=Fh (a:=a) (x:=.tmp 13) (y:=.tmp 14) (ty:=0) La hs (nth_q (show xs.length - 1 - k < xs.length by omega)) rfl (S.tm rfl) (S.tm (by rw [hidx];rfl))
      refine RU S (hr1 _) (fun _ h=>by cases h) rfl fun a S=>RU S (Fk isAgg41 sizeOf41 (off:=o1) (o:=0) (part:=(Dx.enc (nth xs ((xs.length - 1 - k : Nat) : Int)))) rfl rfl (S.tm rfl) (hm1.at (hJ _ _ hj).2)) (fun _ h=>by cases h) rfl ?_;clear S;intro a S
      have h12 : a.eval (.tmp 12) = iV (((xs.length - 1 - k : Nat)) : Int):=by rw [hidx];exact S.tm rfl
      have h16:=S.tm (t:=16) rfl
      refine n_yield S (S.tm rfl) (vs:=PU xs (xs.length - 1 - k)) (by simp [PU,h12,h16]) rfl hy ?_ (fun e w' h=>⟨_,h.1⟩)
      clear S;rintro v w2 a ⟨hv,hj2⟩ S
      obtain rfl : v = .bool true:=by injection hv
      refine RU S (Hv (S.tm rfl)) (fun _ h=>by cases h) rfl fun a S=>n_done (Tn (OD (S.tm rfl) (fun h=>by cases h) (fun _=>wpIn_skip (Hn (Tn ?_)))))
      refine Si (fun a w h=>hQ f169 a w h) rfl (lv S (Rm (S.tm rfl)) rfl fun a S=>lv S (Iy (S.tm rfl) rfl) rfl fun a S=>lv S (Ra (S.tm rfl)) rfl fun a S=>Ld (Tn ⟨xs.length - (k + 1),a,by omega,rfl,k + 1,hlt,rfl,hj2,?_⟩))
      have h1:=S.sub (K':=[(0,.func (.yield l) #[] #[]),(1,.pointer (some ⟨Bs,0,none⟩)),(3,iV (W ((xs.length : Int) - 1 - (k : Int) - 1)))]) (subR rfl)
      have h2:=hw (k + 1) hlt
      have h3 : (xs.length : Int) - 1 - ((k + 1 : Nat) : Int) = (xs.length : Int) - 1 - (k : Int) - 1:=by omega
      rw [h3] at h2 ⊢
      rw [h2] at h1
      exact h1
    · have hb' : ¬ (0 : Int) ≤ (xs.length : Int) - 1 - (k : Int):=by simpa using hb
      obtain rfl : k = xs.length:=by omega
      refine wpIn_exit (Ep (Ep (Gr ?_)))
      show bodyPost _ _ _ .normal _ _
      rw [DE]
      refine ⟨S.nodefer,.tuple #[],by rw [results_none results169],⟨_,rfl⟩,?_⟩
      rw [hlen]
      exact hj
theorem back_ok (w : World) (sv : Value) (m : Nat) (hsl : Ku sv m) : Calls prog 138 [sv].toArray w (Ret w [] fun τ v _=>∃ Bs,v = .func (.func 169) #[] #[.pointer (some ⟨Bs,0,none⟩)] ∧ τ Bs = some (.cells [sv].toArray 34 (0,0))):=by
  refine Lb [] [] func138 rfl ntmps138 rfl (by simp) (by simp [fps]) (by simp [fps]) fun a S=>(Fs (Fg (Mx S (S.tm rfl) (cs:=[sv]) (Ku.cells hsl) rfl ?_)));clear S;intro a w1 b1 hz1 hk1 S
  refine lv S (Ra rfl) rfl fun a S=>Ld (Tn (Fs (Fg (lv S (Wk (us:=#[]) (vs:=#[.pointer (some ⟨b1,0,none⟩)]) (by simp) (by simp [S.tm (t:=1) rfl])) rfl fun a S=>lv S (Ra (S.tm rfl)) rfl fun a S=>Ld (Tn (wp_ret ?_))))))
  exact Eu S results138 rfl ⟨b1,rfl,blk_ret S (i:=0) rfl rfl⟩
abbrev kvP : Eo → Value:=fun x=>Value.agg (Eo.enc x).toArray
abbrev JY (b1 b2 b3 b4 : Nat) (at_ : Int) (m : List (Eo × Bool)) (x : List Int) (v : Value) : List LEnt :=
  [.own v 3 1 x.length (x.flatMap eInt),.blk b4 [v] 22,.blk b3 [.map (some b2)] 114,.map b2 (Ft kvP Value.bool m) m.length,.blk b1 [iV at_] 3]
set_option maxRecDepth 20000 in
theorem HW (w : World) (v_l : Value) (l : List Dx) (hs_l : Slc (view w []) 11 v_l (l.map Dx.enc)) (at_ : Int) (r : List Int) (h : Xx l at_ = some r) :
    Calls prog 112 [v_l,iV at_].toArray w (Ret w [] fun τ v _=>Up τ 3 1 v r.length (r.flatMap eInt)):=by
  have hcons : ∀ {dn is : List Nat} {i : Nat} {k : Nat},Zc l.length = dn ++ i :: is → dn.length = k → (Zc l.length)[k]? = some i:=fun hd hk=>by rw [hd,← hk];simp
  have hQ : ∀ fn a w',¬ bodyPostM (WF none) 3 prog fn (Ret w [] fun τ v _=>Up τ 3 1 v r.length (r.flatMap eInt)) .outgrown a w':=fun _ _ _ ⟨_,e,_⟩=>by cases e
  refine XJ 3 func112 rfl ntmps112 rfl fun a S=>?_
  replace S:=S.nk [] [(0,v_l),(1,iV at_)] [] rfl (subR rfl)
  refine Zi (Si (hQ f112) rfl (Mx S (S.tm rfl) (cs:=[iV at_]) rfl rfl ?_));clear S;intro a w1 b1 hz1 hk1 S
  refine lv S (Ra rfl) rfl fun a S=>Ld (Tn (Zi (Si (hQ f112) rfl (Rc (κ:=Eo) (ν:=Bool) S rfl kvP Value.bool ?_))));clear S;intro a w2 b2 hz2 hk2 S
  refine Hu S zeroValue114 (cs:=[.map none]) rfl rfl ?_;clear S;intro a w3 b3 hz3 hk3 S
  refine Fj S (S.tm rfl) (S.tm rfl) (i:=0) (off:=0) rfl sizeOf114 (vs:=[.map (some b2)]) rfl rfl rfl rfl ?_;clear S;intro w4 hk4 S
  refine Ld (Tn (Zi (Si (hQ f112) rfl (Hu S zeroValue22 (cs:=[.slice none 0 0]) rfl rfl ?_))));clear S;intro a w5 b4 hz5 hk5 S
  replace S:=S.nil 3 1
  refine Ld (Tn (Zi (Zi (Si (hQ f112) rfl (lv S (Rm (S.tm rfl)) rfl ?_)))));clear S;intro a S
  have hz6:=S.keep.size
  refine Ei S (fun _=>Ea (vs:=[v_l]) ⟨(S.tm rfl),trivial⟩ call138) (back_ok _ v_l _ (Fm hs_l)) rfl ?_;clear S;intro v1 a w6 hv1 hk6 hn1 S
  obtain ⟨φ1,hl1,hm1,S⟩:=S.see' hn1 hz6
  obtain ⟨Bs,rfl,hB⟩:=hv1
  replace hB:=hm1 _ _ hB
  refine Ld (Tn (wpIn_block ?_))
  replace S:=S.nk (JY b1 b2 b3 b4 at_ [] [] (.slice none 0 0)) [(3,.pointer (some ⟨b1,0,none⟩)),(5,.pointer (some ⟨b3,0,none⟩)),(6,.pointer (some ⟨b4,0,none⟩)),(11,.func (.func 169) #[] #[.pointer (some ⟨Bs,0,none⟩)])] [true,true,true,true,true] rfl (subR rfl)
  rw [DE]
  refine i_range (n:=3) (Zc l.length) (PU l) S (S.tm rfl) (fun args w=>call169 args w) (fun _=>rfl)
    (fun ll J W hJ h0 hr=>back_in φ1 (view w []) (3 - 1) Bs v_l l hB hs_l ll J W hJ h0 hr)
    (fun k L'=>∃ m x v,(∃ dn is,Zc l.length = dn ++ is ∧ dn.length = k ∧ Lp l at_ is m x = some r) ∧ L' = JY b1 b2 b3 b4 at_ m x v)
    ⟨[],[],.slice none 0 0,⟨[],_,rfl,rfl,h⟩,rfl⟩ ?_ ?_
  · clear h
    rintro ll D rec k i L' w7 hst hss hx ⟨m,x,v,⟨dn,is,hd,hk,h⟩,rfl⟩ S0
    have hact:=prms2 a 12 13 (iV (i : Int)) (.agg (Dx.enc (nth l (i : Int))).toArray) S0.nodefer
    obtain ⟨is',rfl⟩ : ∃ is',is = i :: is':=by
      cases is with
      | nil=>rw [hd,List.append_nil,← hk] at hx;simp at hx
      | cons j is' =>
        have:=hcons hd hk
        rw [hx] at this
        exact ⟨is',by rw [Option.some.inj this]⟩
    unfold PU
    rw [hact]
    have S:=(S0.put (d:=12) (v:=iV (i : Int)) (by decide)).put (d:=13) (v:=.agg (Dx.enc (nth l (i : Int))).toArray) (by decide)
    generalize ((a.put (some 12) (iV (i : Int))).put (some 13) (.agg (Dx.enc (nth l (i : Int))).toArray)) = a' at S
    refine Zi (Si (fun _ _ h=>h) rfl (lv S (Ra (S.tm rfl)) rfl fun a S=>Ld (Tn (Si (fun _ _ h=>h) rfl (Hu S zeroValue41 (cs:=[sV An,iV 0,iV 0,iV 0,sV An,sV An,sV An,iV 0,iV 0,sV An,iV 0]) rfl rfl ?_)))));clear S;intro a w8 b5 hz8 hk8 S
    refine Fj S (S.tm rfl) (S.tm rfl) (i:=0) (off:=0) rfl sizeOf41 (vs:=(Dx.enc (nth l (i : Int)))) rfl rfl rfl rfl ?_;clear S;intro w9 hk9 S
    refine Ld (Tn (i_begin S (i:=1) rfl (hst _) ?_));clear S;intro w10 S
    rw [hss] at S
    replace S:=S.nk (.blk b5 (Dx.enc (nth l (i : Int))) 41 :: .obj ll (.loop (rec .busy)) :: .obj D (.deferred (some [])) :: JY b1 b2 b3 b4 at_ m x v) [(3,.pointer (some ⟨b1,0,none⟩)),(5,.pointer (some ⟨b3,0,none⟩)),(6,.pointer (some ⟨b4,0,none⟩)),(7,iV (i : Int)),(8,.pointer (some ⟨b5,0,none⟩))] [true,true,true,true,true,true,true,true] rfl (subR rfl)
    rw [Lp] at h
    refine wpIn_block (Zi (i_mid (fun b w'=>∃ a,b = Qd [] a ∧ Sx w [] φ1 (.blk b5 (Dx.enc (nth l (i : Int))) 41 :: .obj ll (.loop (rec .busy)) :: .obj D (.deferred (some [])) :: JY b1 b2 b3 b4 at_ m x v) [(3,.pointer (some ⟨b1,0,none⟩)),(5,.pointer (some ⟨b3,0,none⟩)),(6,.pointer (some ⟨b4,0,none⟩)),(7,iV (i : Int)),(8,.pointer (some ⟨b5,0,none⟩)),(23,bV (Xl l at_ i m))] 40 a w') ?_ ?_))
    · rcases Bool.eq_false_or_eq_true (decide (at_ < ((nth l (i : Int)).At))) with hb1 | hb1
      · refine JX [] [] Tryz.mixed rfl S rfl (by kernel_rfl) ?_;clear S;intro w11 hk11 hsel S
        refine Lg [0,1,2,3,4,5,6,7,8,9] hsel (by kernel_rfl) rfl (Gp S rfl (Gv Wg (S.tm rfl)) rfl fun a S=>Gp S rfl (Nn isAgg3 (S.tm rfl) (S.cell (i:=0) rfl rfl)) rfl fun a S=>Gp S rfl (Nn isAgg3 (S.tm rfl) (S.cell (i:=7) rfl rfl)) rfl fun a S=>Gp S rfl (Jj (S.tm rfl) (S.tm rfl)) rfl fun a S=>Gp S rfl (Rm (S.tm rfl)) rfl ?_);clear S;intro a S
        iterate 4 (refine Qs S rfl rfl rfl rfl (Nm hb1) rfl ?_ rfl;clear S;intro a S)
        refine Gp S rfl (Qi hb1 (S.tm rfl) rfl) rfl fun a S=>It ?_
        have hq : Xl l at_ i m = true:=by unfold Xl;rw [hb1];rfl
        refine Tn ⟨a,rfl,?_⟩
        rw [hq]
        exact S.nk (.blk b5 (Dx.enc (nth l (i : Int))) 41 :: .obj ll (.loop (rec .busy)) :: .obj D (.deferred (some [])) :: JY b1 b2 b3 b4 at_ m x v) [(3,.pointer (some ⟨b1,0,none⟩)),(5,.pointer (some ⟨b3,0,none⟩)),(6,.pointer (some ⟨b4,0,none⟩)),(7,iV (i : Int)),(8,.pointer (some ⟨b5,0,none⟩)),(23,bV true)] [true,true,true,true,true,true,true,true] rfl (subR rfl)
      · refine JX [] [] Tryz.mixed rfl S rfl (by kernel_rfl) ?_;clear S;intro w11 hk11 hsel S
        refine Ek 0 S hsel rfl rfl rfl (by kernel_rfl) (by kernel_rfl) rfl (fun _ hw=>(Gv Wg (S.tm rfl))) fun a S=>Ek 1 S hsel rfl rfl rfl (by kernel_rfl) (by kernel_rfl) rfl (fun _ hw=>(Ic isAgg3 (off:=0) (o:=2) (S.tm rfl) ((S.blk_mem (i:=0) (cells:=(Dx.enc (nth l (i : Int)))) (b:=b5) (T:=41) rfl (Ie (e':=.blk b5 (Dx.enc (nth l (i : Int))) 41))).kept hw) rfl)) fun a S=>Ek 2 S hsel rfl rfl rfl (by kernel_rfl) (by kernel_rfl) rfl (fun _ hw=>(Ic isAgg3 (off:=0) (o:=0) (S.tm rfl) ((S.blk_mem (i:=7) (cells:=[iV at_]) (b:=b1) (T:=3) rfl (Ie (e':=.blk b1 [iV at_] 3))).kept hw) rfl)) fun a S=>Ek 3 S hsel rfl rfl rfl (by kernel_rfl) (by kernel_rfl) rfl (fun _ hw=>(Jj (S.tm rfl) (S.tm rfl))) fun a S=>Ek 4 S hsel rfl rfl rfl (by kernel_rfl) (by kernel_rfl) rfl (fun _ hw=>(Rm (S.tm rfl))) fun a S=>Et 5 S hsel rfl rfl rfl rfl hb1 rfl rfl (by kernel_rfl) (by kernel_rfl) rfl (fun _ hw=>(Ic isAgg114 (off:=0) (o:=0) (S.tm rfl) ((S.blk_mem (i:=5) (cells:=[.map (some b2)]) (b:=b3) (T:=114) rfl (Ie (e':=.blk b3 [.map (some b2)] 114))).kept hw) rfl)) fun a S=>Et 6 S hsel rfl rfl rfl rfl hb1 rfl rfl (by kernel_rfl) (by kernel_rfl) rfl (fun _ hw=>(Fk isAgg41 sizeOf41 (off:=0) (o:=0) (part:=(Dx.enc (nth l (i : Int)))) rfl rfl (S.tm rfl) ((S.blk_mem (i:=0) (cells:=(Dx.enc (nth l (i : Int)))) (b:=b5) (T:=41) rfl (Ie (e':=.blk b5 (Dx.enc (nth l (i : Int))) 41))).kept hw))) fun a S=>Hi 7 (by kernel_rfl) rfl (Ef S rfl rfl rfl hb1 (Ei S (fun _=>Ea (vs:=[.agg (Dx.enc (nth l (i : Int))).toArray]) ⟨(S.tm rfl),trivial⟩ call23) (Ub _ (nth l (i : Int)) _ rfl) rfl ?_));clear S;intro v3 a w12 hv2 hk9 hn2 S
        subst hv2
        refine Ld (Ik hk9 (Lg [8,9] hsel (by kernel_rfl) rfl ?_))
        refine Gc S rfl rfl rfl rfl hb1 (Hm S (Qk (kv:=kvP) (vv:=Value.bool) (m:=m) (key:=(En (nth l (i : Int)))) (z:=false) (S.map_at (i:=6) rfl) underlying114 EF zeroValue4 (S.tm rfl) (S.tm rfl)) rfl fun a S=>Gp S rfl (Qj hb1 (S.tm rfl) (S.tm rfl)) rfl fun a S=>It ?_)
        have hq : Xl l at_ i m = El m (En (nth l (i : Int))) false:=by unfold Xl;rw [hb1];rfl
        refine Tn ⟨a,rfl,?_⟩
        rw [hq]
        exact S.nk (.blk b5 (Dx.enc (nth l (i : Int))) 41 :: .obj ll (.loop (rec .busy)) :: .obj D (.deferred (some [])) :: JY b1 b2 b3 b4 at_ m x v) [(3,.pointer (some ⟨b1,0,none⟩)),(5,.pointer (some ⟨b3,0,none⟩)),(6,.pointer (some ⟨b4,0,none⟩)),(7,iV (i : Int)),(8,.pointer (some ⟨b5,0,none⟩)),(23,bV (El m (En (nth l (i : Int))) false))] [true,true,true,true,true,true,true,true] rfl (subR rfl)
    · clear S;rintro _ w11 ⟨a,rfl,S⟩
      refine OD (S.tm rfl) (fun hb2=>?_) (fun hb2=>?_)
      · rw [if_pos hb2] at h
        refine wpIn_exit (Ep (Gr ?_))
        exact ⟨_,⟨m,x,v,⟨dn ++ [i],is',by rw [hd];simp,by simp [hk],h⟩,rfl⟩,S0.back (S.nk (.obj ll (.loop (rec .busy)) :: .obj D (.deferred (some [])) :: JY b1 b2 b3 b4 at_ m x v) [] [false,true,true,true,true,true,true,true] rfl (subR rfl))⟩
      · rw [if_neg (by rw [hb2];simp)] at h
        obtain ⟨hc2,h⟩:=Ij h
        refine wpIn_skip (Tn (i_mid (fun b w'=>∃ a,b = Qd [] a ∧ Sx w [] φ1 (.blk b5 (Dx.enc (nth l (i : Int))) 41 :: .obj ll (.loop (rec .busy)) :: .obj D (.deferred (some [])) :: JY b1 b2 b3 b4 at_ (if decide ((nth l (i : Int)).Kind = 4) = true then Gw m (Eo.mk ((nth l (i : Int)).Of) ((nth l (i : Int)).Other)) true else m) x v) [(6,.pointer (some ⟨b4,0,none⟩)),(7,iV (i : Int)),(8,.pointer (some ⟨b5,0,none⟩))] 40 a w') ?_ ?_))
        · refine Zi (Si (fun _ _ h=>h) rfl (lv S (Gv Qu (S.tm rfl)) rfl ?_));clear S;intro a S
          refine lv S (Nn isAgg3 (S.tm rfl) (S.cell (i:=0) rfl rfl)) rfl fun a S=>lv S (Jh (S.tm rfl) rfl) rfl fun a S=>Ld (Tn (OD (S.tm rfl) (fun hb3=>?_) (fun hb3=>?_)))
          · rw [if_pos hb3]
            refine Si (fun _ _ h=>h) rfl (lv S (Nn isAgg114 (S.tm rfl) (S.cell (i:=5) rfl rfl)) rfl fun a S=>lv S (Gv Zz (S.tm rfl)) rfl fun a S=>lv S (Nn isAgg9 (S.tm rfl) (S.cell (i:=0) rfl rfl)) rfl fun a S=>lv S (Gv Xd (S.tm rfl)) rfl fun a S=>lv S (Nn isAgg3 (S.tm rfl) (S.cell (i:=0) rfl rfl)) rfl fun a S=>lv S (Nl bt_70 (pv:=[(0,sV ((nth l (i : Int)).Of)),(1,iV ((nth l (i : Int)).Other))]) ⟨rfl,(S.tm rfl),rfl,(S.tm rfl),trivial⟩ (cs:=[sV ((nth l (i : Int)).Of),iV ((nth l (i : Int)).Other)]) (by kernel_rfl)) rfl fun a S=>Oi (kv:=kvP) (vv:=Value.bool) (m:=m) (key:=(Eo.mk ((nth l (i : Int)).Of) ((nth l (i : Int)).Other))) (val:=true) S (i:=6) rfl underlying114 EF (S.tm rfl) (S.tm rfl) rfl ?_);clear S;intro w13 hk10 S
            refine Ld (Tn ⟨a,rfl,?_⟩)
            exact S.nk (.blk b5 (Dx.enc (nth l (i : Int))) 41 :: .obj ll (.loop (rec .busy)) :: .obj D (.deferred (some [])) :: JY b1 b2 b3 b4 at_ (Gw m (Eo.mk ((nth l (i : Int)).Of) ((nth l (i : Int)).Other)) true) x v) [(6,.pointer (some ⟨b4,0,none⟩)),(7,iV (i : Int)),(8,.pointer (some ⟨b5,0,none⟩))] [true,true,true,true,true,true,true,true] rfl (subR rfl)
          · rw [if_neg (by rw [hb3];simp)]
            refine wpIn_skip (Tn ⟨a,rfl,?_⟩)
            exact S.nk (.blk b5 (Dx.enc (nth l (i : Int))) 41 :: .obj ll (.loop (rec .busy)) :: .obj D (.deferred (some [])) :: JY b1 b2 b3 b4 at_ m x v) [(6,.pointer (some ⟨b4,0,none⟩)),(7,iV (i : Int)),(8,.pointer (some ⟨b5,0,none⟩))] [true,true,true,true,true,true,true,true] rfl (subR rfl)
        · clear S;rintro _ w12 ⟨a,rfl,S⟩
          generalize (if decide ((nth l (i : Int)).Kind = 4) = true then Gw m (Eo.mk ((nth l (i : Int)).Of) ((nth l (i : Int)).Other)) true else m) = m2 at h S
          refine Si (fun _ _ h=>h) rfl (lv S (Nn isAgg22 (S.tm rfl) (S.cell (i:=4) rfl rfl)) rfl fun a S=>lv S (Rm (S.tm rfl)) rfl fun a S=>Ff S underlying22 sizeOf3 zeroValue3 rfl rfl (pv:=[(0,iV (i : Int))]) ⟨rfl,(S.tm rfl),trivial⟩ (cs:=[iV (i : Int)]) (by kernel_rfl) rfl ?_);clear S;intro a w14 b6 hz5 hk11 S
          refine Np Pj Jb S (S.tm rfl) (i:=4) rfl (S.tm rfl) (j:=0) rfl (ys:=[(i : Int)]) rfl rfl rfl rfl (by have:=Ob hc2;omega) rfl ?_;clear S;intro v4 a w15 hk12 S
          refine Fj S (S.tm rfl) (S.tm rfl) (i:=5) (off:=0) rfl sizeOf22 (vs:=[v4]) (Ku.cells (Oh (S.own_at (i:=4) rfl))) rfl rfl (Qn (Ku.one (Oh (S.own_at (i:=4) rfl))) rfl) ?_;clear S;intro w16 hk13 S
          refine Ld (Hn ?_)
          exact ⟨_,⟨m2,x ++ [(i : Int)],v4,⟨dn ++ [i],is',by rw [hd];simp,by simp [hk],h⟩,rfl⟩,S0.back (S.nk (.obj ll (.loop (rec .busy)) :: .obj D (.deferred (some [])) :: JY b1 b2 b3 b4 at_ m2 (x ++ [(i : Int)]) v4) [] [false,false,true,true,true,true,true,true,true] rfl (subR rfl))⟩
  · rintro D ll o L' w7 ⟨m,x,v,⟨dn,is,hd,hk,h⟩,rfl⟩ S
    obtain rfl : is = []:=by
      have h1:=congrArg List.length hd
      rw [List.length_append] at h1
      exact List.length_eq_zero_iff.1 (by omega)
    rw [Lp] at h
    refine Hn (Tn (Zi (Si (hQ f112) rfl (lv S (Nn isAgg22 (S.tm rfl) (S.cell (i:=3) rfl rfl)) rfl fun a S=>Mr 2 S rfl (fun _=>.own v 3 1 r.length (r.flatMap eInt)) (fun _=>Ea (vs:=[v]) ⟨(S.tm rfl),trivial⟩ call139) (CF _ v x (S.holds _ (List.mem_of_getElem? (i:=2) rfl)) _ h) rfl (fun _ _ _ h=>⟨h.1,fun _ hc=>hc⟩) ?_))));clear S;intro v5 a w17 hv3 hk14 hn3 S
    replace hv3:=hv3.2
    subst hv3
    refine Ld (Tn (Zi (Si (hQ f112) rfl (lv S (Nn isAgg22 (S.tm rfl) (S.cell (i:=3) rfl rfl)) rfl fun a S=>lv S (Ra (S.tm rfl)) rfl fun a S=>Ld (Tn (wpIn_ret ?_))))))
    exact i_ret S (i:=1) rfl results112 rfl (fun w' S=>Tt S (i:=2) rfl rfl)
theorem IX (w : World) (ψ : View) (hψ : View.le ψ (view w [])) (Ad : Kq) (Ca : R32) (Cl : Tp ψ Ad Ca) (Ab : Value) (Ae : List Dx) (Ag : Slc ψ 11 Ab (Ae.map Dx.enc)) (Bf : Int) (r : (Option Lc)) (h : Ww Ad Ae Bf = some r) :
    Calls prog 61 [.agg (R32.enc Ca).toArray,Ab,iV Bf].toArray w (Ret w [] fun τ v _=>CR (join ψ τ) 134 GJ.enc BO v r):=by
 obtain ⟨u1,u2,rfl,hs1,⟨u3,rfl,hs2⟩⟩:=Cl
 refine Fe func61 rfl ntmps61 rfl fun a S=>?_
 unfold Ww at h
 replace S:=S.k3 0 1 2 rfl
 refine Fr (Mx S (S.tm rfl) (cs:=[u1.val,u3.val,iV Ad.Table.Relay,iV Ad.Table.Most,iV Ad.Final.Size,iV Ad.Final.Many,iV Ad.Final.Reserves]) rfl rfl ?_);clear S;intro a w1 b1 hz1 hk1 S
 refine Vk S rfl rfl fun a S=>Dz (lv S (Fk isAgg32 sizeOf32 (off:=0) (o:=0) (part:=[u1.val,u3.val,iV Ad.Table.Relay,iV Ad.Table.Most,iV Ad.Final.Size,iV Ad.Final.Many,iV Ad.Final.Reserves]) rfl rfl (S.tm rfl) (S.cellsAt (i:=0) rfl)) rfl ?_);clear S;intro a S
 refine lv S (Nl bt_134 (pv:=[(0,.agg #[u1.val,u3.val,iV Ad.Table.Relay,iV Ad.Table.Most,iV Ad.Final.Size,iV Ad.Final.Many,iV Ad.Final.Reserves])]) ⟨rfl,(S.tm rfl),trivial⟩ (cs:=[u1.val,u3.val,iV Ad.Table.Relay,iV Ad.Table.Most,iV Ad.Final.Size,iV Ad.Final.Many,iV Ad.Final.Reserves,.slice none 0 0]) (by obtain ⟨_,_,hv⟩:=(Fm hs1);rw [hv];clear hv;obtain ⟨_,_,hv⟩:=(Fm hs2);rw [hv];clear hv;kernel_rfl)) rfl ?_;clear S;intro a S
 refine Mx S (S.tm rfl) (cs:=[u1.val,u3.val,iV Ad.Table.Relay,iV Ad.Table.Most,iV Ad.Final.Size,iV Ad.Final.Many,iV Ad.Final.Reserves,.slice none 0 0]) rfl rfl ?_;clear S;intro a w2 b2 hz2 hk2 S
 replace S:=S.nil 41 11
 refine Va S rfl rfl fun a S=>Dl (Fs (Fr (Vm S rfl rfl fun a S=>Vm S rfl rfl ?_)));clear S;intro a S
 obtain ⟨r1,hr1,h⟩:=Fd h
 have hz3:=S.keep.size
 refine Ei S (fun _=>Ea (vs:=[Ab,iV Bf]) ⟨(S.tm rfl),(S.tm rfl),trivial⟩ call112) (HW _ Ab Ae (Ag.mono (View.le_trans hψ (S.le_arg Er))) Bf _ hr1) rfl ?_;clear S;intro v1 a w3 hv1 hk3 hn1 S
 obtain ⟨φ1,hl1,hm1,S⟩:=S.see' hn1 hz3
 have hs3:=hv1.mono hm1
 refine lv S (Fq Pj (S.tm rfl) (Fm (Hg Jb hs3))) rfl fun a S=>lv S (Rm rfl) rfl fun a S=>Dl ?_
 replace S:=(S.nl [.own (.slice none 0 0) 41 11 ([] : List Dx).length (([] : List Dx).flatMap Dx.enc),.blk b2 [u1.val,u3.val,iV Ad.Table.Relay,iV Ad.Table.Most,iV Ad.Final.Size,iV Ad.Final.Many,iV Ad.Final.Reserves,(.slice none 0 0)] 134] [true,true,false] rfl).k5 1 7 15 16 17 rfl
 obtain ⟨j1,hj1,h⟩:=Ey h
 refine Es (fun a w'=>∃ x1 : List Dx,∃ v2 : Value,j1 x1 = some r ∧ Sx w [] φ1 [.own v2 41 11 x1.length (x1.flatMap Dx.enc),.blk b2 [u1.val,u3.val,iV Ad.Table.Relay,iV Ad.Table.Most,iV Ad.Final.Size,iV Ad.Final.Many,iV Ad.Final.Reserves,v2] 134] [(7,.pointer (some ⟨b2,0,none⟩))] 36 a w') ?_ ?_
 ·refine wp_block (Gz (fun (ys1 : List Int) a w'=>∃ i1 : Nat,∃ x1 : List Dx,∃ v2 : Value,(∃ dn,r1 = dn ++ ys1 ∧ dn.length = i1) ∧ Na Ae j1 ys1 i1 x1 = some r ∧ Sx w [] φ1 [.own v2 41 11 x1.length (x1.flatMap Dx.enc),.blk b2 [u1.val,u3.val,iV Ad.Table.Relay,iV Ad.Table.Most,iV Ad.Final.Size,iV Ad.Final.Many,iV Ad.Final.Reserves,v2] 134] [(1,Ab),(7,.pointer (some ⟨b2,0,none⟩)),(15,v1),(16,iV (r1.length : Int)),(17,iV (i1 : Int))] 36 a w') List.length r1 ⟨0,([] : List Dx),(.slice none 0 0),⟨[],rfl,rfl⟩,h,S.nf [true,true] rfl (subR rfl)⟩ ?_)
  clear S h;rintro ys1 a w4 ⟨i1,x1,v2,⟨dn,hd1,hi1⟩,h,S⟩
  cases ys1 with
  | nil =>
   rw [Na.eq_1] at h
   refine Fr (Vb S Ev rfl rfl rfl fun a S=>Ld ?_)
   replace S:=S.k6 1 7 15 16 17 18 rfl
   exact Tn (Fs (wp_cond_false ((S.tm rfl).trans (congrArg Value.bool (Im hd1 hi1))) (wp_exit (Ep (Ep (Gr (Tn (⟨x1,v2,h,S.nf [true,true] rfl ⟨rfl,trivial⟩⟩))))))))
  | cons y1 ys1 =>
   rw [Na.eq_2] at h
   refine Fr (Vb S Ev rfl rfl rfl fun a S=>Ld ?_)
   replace S:=S.k6 1 7 15 16 17 18 rfl
   refine Tn (Fs (wp_cond_true ((S.tm rfl).trans (congrArg Value.bool (Hr hd1 hi1))) (wp_skip (Tn (Fs (wp_block (Fs (Fg ?_))))))))
   obtain ⟨b3,o1,hm2,hr2⟩:=Fh (a:=a) (x:=.tmp 15) (y:=.tmp 17) (ty:=0) Pj (Hg Jb hs3) (Iv hd1 hi1) rfl (S.tm rfl) (S.tm rfl)
   refine lv S (hr2 _) rfl ?_;clear S;intro a S
   clear hr2
   refine lv S (Ic isAgg3 (off:=o1) (o:=0) (S.tm rfl) (hm2.at S.emb) rfl) rfl fun a S=>Va S rfl rfl fun a S=>Dl ?_
   obtain ⟨hc1,h⟩:=Ij h
   obtain ⟨hc2,h⟩:=Ij h
   refine Hd [13] (v2.ownBlock.toList) Tryz.mixed S rfl (by kernel_rfl) ?_;clear S;intro w9 hk7 hsel S
   refine Fz 0 S hsel rfl rfl (by kernel_rfl) (by kernel_rfl) rfl (fun _=>(Rm (S.tm rfl))) fun a S=>Fz 1 S hsel rfl rfl (by kernel_rfl) (by kernel_rfl) rfl (fun _=>(Rm (S.tm rfl))) fun a S=>Fz 2 S hsel rfl rfl (by kernel_rfl) (by kernel_rfl) rfl (fun _=>(Lz (S.tm rfl))) fun a S=>Fz 3 S hsel rfl rfl (by kernel_rfl) (by kernel_rfl) rfl (fun _=>(Gv GQ (S.tm rfl))) fun a S=>Ek 4 S hsel rfl (by kernel_rfl) (by kernel_rfl) (by kernel_rfl) (by kernel_rfl) rfl (fun _ hw=>(Ic isAgg34 (off:=0) (o:=7) (S.tm rfl) ((S.blk_mem (i:=1) (cells:=[u1.val,u3.val,iV Ad.Table.Relay,iV Ad.Table.Most,iV Ad.Final.Size,iV Ad.Final.Many,iV Ad.Final.Reserves,v2]) (b:=b2) (T:=134) rfl (My (i:=0) (j:=1) (e:=.own v2 41 11 x1.length (x1.flatMap Dx.enc)) (e':=.blk b2 [u1.val,u3.val,iV Ad.Table.Relay,iV Ad.Table.Most,iV Ad.Final.Size,iV Ad.Final.Many,iV Ad.Final.Reserves,v2] 134) S rfl rfl rfl)).kept hw) rfl)) fun a S=>Fz 5 S hsel rfl rfl (by kernel_rfl) (by kernel_rfl) rfl (fun _=>(Rm (S.tm rfl))) fun a S=>Fz 6 S hsel rfl rfl (by kernel_rfl) (by kernel_rfl) rfl (fun _=>(Rm (S.tm rfl))) ?_;clear S;intro a S
   obtain ⟨b6,o3,hm4,hr4⟩:=Fh (a:=a) (x:=.tmp 26) (y:=.tmp 27) (ty:=0) La (Ag.mono (View.le_trans hψ (S.le_arg (Ji (i:=0) (e:=.own v2 41 11 x1.length (x1.flatMap Dx.enc)) rfl)))) (Eh hc1).1 (Eh hc1).2 (S.tm rfl) (S.tm rfl)
   refine Fz 7 S hsel rfl rfl (by kernel_rfl) (by kernel_rfl) rfl (fun _=>hr4 _) ?_;clear S;intro a S
   clear hr4
   refine Ek 8 S hsel rfl (by kernel_rfl) (by kernel_rfl) (by kernel_rfl) (by kernel_rfl) rfl (fun _ hw=>(Fk isAgg41 sizeOf41 (off:=o3) (o:=0) (part:=(Dx.enc (nth Ae y1))) rfl rfl (S.tm rfl) (hm4.kept hw))) fun a S=>Hi 9 (by kernel_rfl) rfl (Ff S underlying34 sizeOf41 zeroValue41 rfl rfl (pv:=[(0,.agg (Dx.enc (nth Ae y1)).toArray)]) ⟨rfl,(S.tm rfl),trivial⟩ (cs:=[sV ((nth Ae y1).Site),iV ((nth Ae y1).No),iV ((nth Ae y1).At),iV ((nth Ae y1).Kind),sV ((nth Ae y1).Who),sV ((nth Ae y1).Club),sV ((nth Ae y1).Race),iV ((nth Ae y1).Time),iV ((nth Ae y1).Fault),sV ((nth Ae y1).Of),iV ((nth Ae y1).Other)]) (by kernel_rfl) rfl ?_);clear S;intro a w10 b7 hz5 hk8 S
   refine Ld (Ik (Keep.none hk8) (Hi 10 (by kernel_rfl) rfl ?_))
   refine Np La Dx.enc_ok S (S.tm rfl) (i:=1) rfl (S.tm rfl) (j:=0) rfl (ys:=[(nth Ae y1)]) rfl rfl rfl rfl (by have:=Ob hc2;omega) rfl ?_;clear S;intro v4 a w11 hk9 S
   refine Ld (Ik hk9 (Fz 11 S hsel rfl rfl (by kernel_rfl) (by kernel_rfl) rfl (fun _=>(Lz (S.tm rfl))) fun a S=>Fz 12 S hsel rfl rfl (by kernel_rfl) (by kernel_rfl) rfl (fun _=>(Gv GQ (S.tm rfl))) fun a S=>Wq 13 (v4.ownBlock.toList ++ [b2]) rfl (by kernel_rfl) rfl (Fj S (S.tm rfl) (S.tm rfl) (i:=2) (off:=7) rfl sizeOf34 (vs:=[v4]) (Ku.cells (Oh (S.own_at (i:=1) rfl))) rfl rfl (Qn (Ku.one (Oh (S.own_at (i:=1) rfl))) rfl) ?_)));clear S;intro w12 hk10 S
   refine Ld (Wr (Wl (by kernel_rfl) ?_))
   clear hsel
   replace S:=(S.nl [.own v4 41 11 (x1 ++ [(nth Ae y1)]).length ((x1 ++ [(nth Ae y1)]).flatMap Dx.enc),.blk b2 [u1.val,u3.val,iV Ad.Table.Relay,iV Ad.Table.Most,iV Ad.Final.Size,iV Ad.Final.Many,iV Ad.Final.Reserves,v4] 134] [false,true,true] rfl).k5 1 7 15 16 17 rfl
   exact Hn (Tn (Fg (Vq S Gf rfl rfl rfl fun a S=>Vm S rfl rfl fun a S=>Dl (⟨ys1,⟨i1 + 1,(x1 ++ [(nth Ae y1)]),v4,⟨_,(hd1).trans (List.append_cons _ _ _),by simp [hi1]⟩,h,S.nf [true,true] rfl ⟨rfl,rfl,rfl,rfl,(congrArg (fun z=>some (Value.int .i64 z)) (Hs hd1 hi1 (Jg (Hg Jb hs3)))),trivial⟩⟩,Nat.lt_succ_self _⟩))))
 clear S h;rintro a w5 ⟨x1,v2,h,S⟩;rw [hj1] at h;clear hj1 j1
 refine Tn (Fr (Vm S rfl rfl fun a S=>Va S rfl rfl fun a S=>Dl (wp_ret ?_)))
 obtain ⟨φ2,hl2,hs4,S⟩:=S.freezeT (xs:=x1) (enc:=Dx.enc) (i:=0) rfl (fun _ h=>by cases h)
 replace S:=S.nk [.blk b2 [u1.val,u3.val,iV Ad.Table.Relay,iV Ad.Table.Most,iV Ad.Final.Size,iV Ad.Final.Many,iV Ad.Final.Reserves,v2] 134] [(6,.pointer (some ⟨b2,0,none⟩)),(7,.pointer (some ⟨b2,0,none⟩)),(35,.pointer (some ⟨b2,0,none⟩))] [] rfl (subR rfl)
 obtain ⟨φ3,hl3,hb1,S⟩:=S.freezeB (i:=0) rfl (by simp)
 replace S:=S.nk [] [(6,.pointer (some ⟨b2,0,none⟩)),(7,.pointer (some ⟨b2,0,none⟩)),(35,.pointer (some ⟨b2,0,none⟩))] [] rfl (subR rfl)
 obtain rfl:=Option.some.inj h
 exact Eu S results61 rfl (CR.mk (GJ.mk (R32.mk u1 (R28.mk u3 Ad.Table.Relay Ad.Table.Most) Ad.Final) ⟨v2,Ku.one (Fm (Hg Dx.enc_ok hs4))⟩) (Sh (Zv hψ S.le_newer) _ _ ⟨(R32.mk u1 (R28.mk u3 Ad.Table.Relay Ad.Table.Most) Ad.Final),⟨v2,Ku.one (Fm (Hg Dx.enc_ok hs4))⟩,rfl,⟨u1,(R28.mk u3 Ad.Table.Relay Ad.Table.Most),rfl,(hs1.mono (le_join_left _ _)),⟨u3,rfl,(hs2.mono (le_join_left _ _))⟩⟩,((Hg Dx.enc_ok hs4).mono (View.le_trans hl3 (S.all_right hψ)))⟩) ((Zv hψ S.le_newer) _ _ ((S.all_right hψ) _ _ hb1)))
set_option maxRecDepth 20000 in
theorem GV (w : World) (ψ : View) (hψ : View.le ψ (view w [])) (Ad : Kq) (Ca : R32) (Cl : Tp ψ Ad Ca) (Ab : Value) (Ae : List Dx) (Ag : Slc ψ 11 Ab (Ae.map Dx.enc)) (Dh : Value) (Bf : List Int) (Db : Slc ψ 1 Dh (Bf.map eInt)) (r : (Option Lc) × Int) (h : Zb Ad Ae Bf = some r) :
    Calls prog 29 [.agg (R32.enc Ca).toArray,Ab,Dh].toArray w (Ret w [] fun τ v _=>∃ u1 : Value,v = .tuple #[u1,iV r.2] ∧ CR (join ψ τ) 134 GJ.enc BO u1 r.1):=by
 obtain ⟨u1,u2,rfl,hs1,⟨u3,rfl,hs2⟩⟩:=Cl
 refine Fe func29 rfl ntmps29 rfl fun a S=>?_
 unfold Zb at h
 replace S:=S.k3 0 1 2 rfl
 refine Fr (Mx S (S.tm rfl) (cs:=[u1.val,u3.val,iV Ad.Table.Relay,iV Ad.Table.Most,iV Ad.Final.Size,iV Ad.Final.Many,iV Ad.Final.Reserves]) rfl rfl ?_);clear S;intro a w1 b1 hz1 hk1 S
 refine Vk S rfl rfl fun a S=>Vk S rfl rfl fun a S=>Dl (Fs (Fr (lv S (Fk isAgg32 sizeOf32 (off:=0) (o:=0) (part:=[u1.val,u3.val,iV Ad.Table.Relay,iV Ad.Table.Most,iV Ad.Final.Size,iV Ad.Final.Many,iV Ad.Final.Reserves]) rfl rfl (S.tm rfl) (S.cellsAt (i:=0) rfl)) rfl ?_)));clear S;intro a S
 obtain ⟨r1,hr1,h⟩:=Fd h
 refine Ei S (fun _=>Ea (vs:=[.agg (R32.enc (R32.mk u1 (R28.mk u3 Ad.Table.Relay Ad.Table.Most) Ad.Final)).toArray]) ⟨(S.tm rfl),trivial⟩ call59) (GU _ Ad (R32.mk u1 (R28.mk u3 Ad.Table.Relay Ad.Table.Most) Ad.Final) ⟨u1,(R28.mk u3 Ad.Table.Relay Ad.Table.Most),rfl,(hs1.mono (View.le_trans hψ (S.le_arg Er))),⟨u3,rfl,(hs2.mono (View.le_trans hψ (S.le_arg Er)))⟩⟩ _ hr1) rfl ?_;clear S;intro v1 a w2 hv1 hk2 hn1 S
 subst hv1
 refine Va S rfl rfl fun a S=>Dz (Vm S rfl rfl fun a S=>Vq S Lf rfl rfl rfl fun a S=>Dl (Fc h (S.tm rfl) (fun hb1 h=>?_) (fun hb1 h=>?_)))
 ·refine Fr (Vm S rfl rfl fun a S=>Vk S rfl rfl fun a S=>Va S rfl rfl fun a S=>Dl (wp_ret (Ec ?_)))
  obtain rfl:=Option.some.inj h
  exact Ln S results29 rfl rfl ⟨_,rfl,rfl⟩
 ·refine wp_skip (Tn (Fs (Fr (Vm S rfl rfl ?_))));clear S;intro a S
  obtain ⟨r2,hr2,h⟩:=Fd h
  refine Ei S (fun _=>Ea (vs:=[Ab]) ⟨(S.tm rfl),trivial⟩ call22) (Wj _ Ab Ae (Ag.mono (View.le_trans hψ (S.le_arg Er))) _ hr2) rfl ?_;clear S;intro v2 a w3 hv2 hk3 hn2 S
  subst hv2
  refine Va S rfl rfl fun a S=>Dz (Vm S rfl rfl fun a S=>Vq S Lf rfl rfl rfl fun a S=>Ld ?_)
  replace S:=(S.nl [.blk b1 [u1.val,u3.val,iV Ad.Table.Relay,iV Ad.Table.Most,iV Ad.Final.Size,iV Ad.Final.Many,iV Ad.Final.Reserves] 32] [true] rfl).k5 1 2 3 9 20 rfl
  refine Tn (Fc h (S.tm rfl) (fun hb2 h=>?_) (fun hb2 h=>?_))
  ·refine Fr (Vm S rfl rfl fun a S=>Vk S rfl rfl fun a S=>Va S rfl rfl fun a S=>Dl (wp_ret (Ec ?_)))
   obtain rfl:=Option.some.inj h
   exact Ln S results29 rfl rfl ⟨_,rfl,rfl⟩
  ·refine wp_skip (Tn (Fs (Fr (Vm S rfl rfl fun a S=>lv S (Fq Pj (S.tm rfl) (Fm Db)) rfl fun a S=>lv S (Rm rfl) rfl fun a S=>Dl ?_))))
   replace S:=S.k6 1 2 3 22 23 24 rfl
   obtain ⟨j1,hj1,h⟩:=Ey h
   refine Es (fun a w'=>j1 = some r ∧ Sx w [] nov [.blk b1 [u1.val,u3.val,iV Ad.Table.Relay,iV Ad.Table.Most,iV Ad.Final.Size,iV Ad.Final.Many,iV Ad.Final.Reserves] 32] [(1,Ab),(2,Dh),(3,.pointer (some ⟨b1,0,none⟩))] 41 a w') ?_ ?_
   ·refine wp_block (Gz (fun (ys1 : List Int) a w'=>∃ i1 : Nat,(∃ dn,Bf = dn ++ ys1 ∧ dn.length = i1) ∧ Qa j1 ys1 i1 = some r ∧ Sx w [] nov [.blk b1 [u1.val,u3.val,iV Ad.Table.Relay,iV Ad.Table.Most,iV Ad.Final.Size,iV Ad.Final.Many,iV Ad.Final.Reserves] 32] [(1,Ab),(2,Dh),(3,.pointer (some ⟨b1,0,none⟩)),(22,Dh),(23,iV (Bf.length : Int)),(24,iV (i1 : Int))] 41 a w') List.length Bf ⟨0,⟨[],rfl,rfl⟩,h,S.nf [true] rfl (subR rfl)⟩ ?_)
    clear S h;rintro ys1 a w4 ⟨i1,⟨dn,hd1,hi1⟩,h,S⟩
    cases ys1 with
    | nil =>
     rw [Qa.eq_1] at h
     refine Fr (Vb S Ev rfl rfl rfl fun a S=>Ld ?_)
     replace S:=S.k7 1 2 3 22 23 24 25 rfl
     exact Tn (Fs (wp_cond_false ((S.tm rfl).trans (congrArg Value.bool (Im hd1 hi1))) (wp_exit (Ep (Ep (Gr (Tn (⟨h,S.nf [true] rfl (subR rfl)⟩))))))))
    | cons y1 ys1 =>
     rw [Qa.eq_2] at h
     refine Fr (Vb S Ev rfl rfl rfl fun a S=>Ld ?_)
     replace S:=S.k7 1 2 3 22 23 24 25 rfl
     refine Tn (Fs (wp_cond_true ((S.tm rfl).trans (congrArg Value.bool (Hr hd1 hi1))) (wp_skip (Tn (Fs (wp_block (Fs (Fg ?_))))))))
     obtain ⟨b2,o1,hm1,hr3⟩:=Fh (a:=a) (x:=.tmp 22) (y:=.tmp 24) (ty:=0) Pj Db (Iv hd1 hi1) rfl (S.tm rfl) (S.tm rfl)
     refine lv S (hr3 _) rfl ?_;clear S;intro a S
     clear hr3
     refine lv S (Ic isAgg3 (off:=o1) (o:=0) (S.tm rfl) (hm1.at (RJ hψ S.emb0)) rfl) rfl fun a S=>Va S rfl rfl fun a S=>Dz (Vm S rfl rfl fun a S=>Ei S (fun _=>Ea (vs:=[iV y1]) ⟨(S.tm rfl),trivial⟩ call60) (Uo _ y1 _ rfl) rfl ?_);clear S;intro v3 a w6 hv3 hk4 hn3 S
     subst hv3
     refine Vu S Hv rfl rfl fun a S=>Dl (Fc h (S.tm rfl) (fun hb3 h=>?_) (fun hb3 h=>?_))
     ·refine Fr (Vk S rfl rfl fun a S=>Vk S rfl rfl fun a S=>Ld ?_)
      replace S:=S.n0.k2 6 7 rfl
      refine Tn (wp_ret (Ga (Ec (Ec (Ga (Ec (Ec ?_)))))))
      obtain rfl:=Option.some.inj h
      exact Ln S results29 rfl rfl ⟨_,rfl,rfl⟩
     ·exact wp_skip (Hn (Tn (Fg (Vq S Gf rfl rfl rfl fun a S=>Vm S rfl rfl fun a S=>Dl (⟨ys1,⟨i1 + 1,⟨_,(hd1).trans (List.append_cons _ _ _),by simp [hi1]⟩,h,S.nf [true] rfl ⟨rfl,rfl,rfl,rfl,rfl,(congrArg (fun z=>some (Value.int .i64 z)) (Hs hd1 hi1 (Jg Db))),trivial⟩⟩,Nat.lt_succ_self _⟩)))))
   clear S h;rintro a w5 ⟨h,S⟩;rw [hj1] at h;clear hj1 j1
   refine Tn (Fs ?_)
   obtain ⟨hc1,h⟩:=Ij h
   obtain ⟨r3,hr5,h⟩:=Fd h
   refine Hd [] ([]) Tryz.mixed S rfl (by kernel_rfl) ?_;clear S;intro w8 hk6 hsel S
   refine Ek 0 S hsel rfl rfl rfl (by kernel_rfl) (by kernel_rfl) rfl (fun _ hw=>(Fk isAgg32 sizeOf32 (off:=0) (o:=0) (part:=[u1.val,u3.val,iV Ad.Table.Relay,iV Ad.Table.Most,iV Ad.Final.Size,iV Ad.Final.Many,iV Ad.Final.Reserves]) rfl rfl (S.tm rfl) ((S.blk_mem (i:=0) (cells:=[u1.val,u3.val,iV Ad.Table.Relay,iV Ad.Table.Most,iV Ad.Final.Size,iV Ad.Final.Many,iV Ad.Final.Reserves]) (b:=b1) (T:=32) rfl (Ie (e':=.blk b1 [u1.val,u3.val,iV Ad.Table.Relay,iV Ad.Table.Most,iV Ad.Final.Size,iV Ad.Final.Many,iV Ad.Final.Reserves] 32))).kept hw))) fun a S=>Ek 1 S hsel rfl rfl rfl (by kernel_rfl) (by kernel_rfl) rfl (fun _ hw=>(Rm (S.tm rfl))) fun a S=>Ek 2 S hsel rfl rfl rfl (by kernel_rfl) (by kernel_rfl) rfl (fun _ hw=>(Rm (S.tm rfl))) fun a S=>Ek 3 S hsel rfl rfl rfl (by kernel_rfl) (by kernel_rfl) rfl (fun _ hw=>(Rm (S.tm rfl))) fun a S=>Ek 4 S hsel rfl rfl rfl (by kernel_rfl) (by kernel_rfl) rfl (fun _ hw=>(Fq Pj (S.tm rfl) (Fm Db))) fun a S=>Ek 5 S hsel rfl rfl rfl (by kernel_rfl) (by kernel_rfl) rfl (fun _ hw=>(Iy (S.tm rfl) rfl)) ?_;clear S;intro a S
   obtain ⟨b4,o3,hm4,hr6⟩:=Fh (a:=a) (x:=.tmp 34) (y:=.tmp 37) (ty:=0) Pj (Db.mono (View.le_trans hψ (S.le_arg Er))) (Eh hc1).1 (Eh hc1).2 (S.tm rfl) (S.tm rfl)
   refine Ek 6 S hsel rfl rfl rfl (by kernel_rfl) (by kernel_rfl) rfl (fun _ hw=>hr6 _) ?_;clear S;intro a S
   clear hr6
   refine Ek 7 S hsel rfl rfl rfl (by kernel_rfl) (by kernel_rfl) rfl (fun _ hw=>(Ic isAgg3 (off:=o3) (o:=0) (S.tm rfl) (hm4.kept hw) rfl)) fun a S=>Hi 8 (by kernel_rfl) rfl ?_
   have hz3:=S.keep.size
   refine Ei S (fun _=>Ea (vs:=[.agg (R32.enc (R32.mk u1 (R28.mk u3 Ad.Table.Relay Ad.Table.Most) Ad.Final)).toArray,Ab,iV (nth Bf (W ((Bf.length : Int) - 1)))]) ⟨(S.tm rfl),(S.tm rfl),(S.tm rfl),trivial⟩ call61) (IX _ (join ψ nov) (Py (View.le_trans hψ (S.le_arg Er)) (S.le_new Er)) Ad (R32.mk u1 (R28.mk u3 Ad.Table.Relay Ad.Table.Most) Ad.Final) ⟨u1,(R28.mk u3 Ad.Table.Relay Ad.Table.Most),rfl,(hs1.mono (le_join_left _ _)),⟨u3,rfl,(hs2.mono (le_join_left _ _))⟩⟩ Ab Ae (Ag.mono (le_join_left _ _)) (nth Bf (W ((Bf.length : Int) - 1))) _ hr5) rfl ?_;clear S;intro v5 a w9 hv5 hk7 hn5 S
   obtain ⟨φ2,hl2,hm5,S⟩:=S.see' hn5 hz3
   have hq2:=CR.mono (Sh (Tv hl2 hm5)) (Tv hl2 hm5) hv5
   refine Ld (Ik hk7 (Lg [9,10] hsel (by kernel_rfl) rfl ?_))
   clear hsel
   refine Gp S rfl (Ra (S.tm rfl)) rfl fun a S=>Gp S rfl (Ra rfl) rfl fun a S=>It ?_
   replace S:=S.n0.k2 6 7 rfl
   refine Tn (wp_ret ?_)
   obtain rfl:=Option.some.inj h
   exact Ln S results29 rfl rfl ⟨_,rfl,(CR.mono (Sh (Zv hψ S.le_newer)) (Zv hψ S.le_newer) hq2)⟩
theorem HX (w : World) (As : Em) (Cj : Nat) (Bt : ByteArray) (Ck : (view w []) Cj = some (.cells [sV Bt].toArray 9 (0,0))) (r : Bool) (h : Xy As Bt = r) :
    Calls prog 101 [.agg (Em.enc As).toArray,.pointer (some ⟨Cj,0,none⟩)].toArray w (Ret w [] fun _ v _=>v = bV r):=by
 refine Fe func101 rfl ntmps101 rfl fun a S=>?_
 unfold Xy at h
 replace S:=S.k2 0 1 rfl
 refine Fr (Mx S (S.tm rfl) (cs:=(Em.enc As)) rfl rfl ?_);clear S;intro a w1 b1 hz1 hk1 S
 refine Vk S rfl rfl fun a S=>Dz (Vf Ya S rfl rfl fun a S=>Vl isAgg9 0 S rfl rfl rfl rfl fun a S=>lv S (Ic isAgg9 (off:=0) (o:=0) (S.tm rfl) ((Ti Ck).at S.emb0) rfl) rfl fun a S=>Vb S Xw rfl rfl rfl fun a S=>Va S rfl rfl fun a S=>Ld ?_)
 refine Tn (wp_ret ?_)
 subst h
 exact Eu S results101 rfl rfl
theorem Vc (w : World) (Ax : Value) (Av : List Em) (Bg : Slc (view w []) 8 Ax (Av.map Em.enc)) (Bb : Nat) (Az : ByteArray) (Bo : (view w []) Bb = some (.cells [sV Az].toArray 9 (0,0))) (r : Int) (h : Hb Av Az = r) :
    Calls prog 100 [Ax,.func (.func 101) #[] #[.pointer (some ⟨Bb,0,none⟩)]].toArray w (Ret w [] fun _ v _=>v = iV r):=by
 refine Fe func100 rfl ntmps100 rfl fun a S=>?_
 unfold Hb at h
 replace S:=S.k2 0 1 rfl
 refine Fr (Vk S rfl rfl fun a S=>Dl (Fs (Fr (Vm S rfl rfl fun a S=>lv S (Fq Th (S.tm rfl) (Fm Bg)) rfl fun a S=>lv S (Rm rfl) rfl ?_))));clear S;intro a S
 refine Dl ?_
 replace S:=S.k4 0 1 7 8 rfl
 obtain ⟨j1,hj1,h⟩:=Ey h
 refine Es (fun a w'=>j1 = r ∧ Sx w [] nov [] [] 19 a w') ?_ ?_
 ·refine wp_block (Gz (fun (ys1 : List Em) a w'=>∃ i1 : Nat,(∃ dn,Av = dn ++ ys1 ∧ dn.length = i1) ∧ Ha Az j1 ys1 i1 = r ∧ Sx w [] nov [] [(0,Ax),(1,.func (.func 101) #[] #[.pointer (some ⟨Bb,0,none⟩)]),(7,iV (Av.length : Int)),(8,iV (i1 : Int))] 19 a w') List.length Av ⟨0,⟨[],rfl,rfl⟩,h,S.nf [] rfl (subR rfl)⟩ ?_)
  clear S h;rintro ys1 a w1 ⟨i1,⟨dn,hd1,hi1⟩,h,S⟩
  cases ys1 with
  | nil =>
   rw [Ha.eq_1] at h
   refine Fr (Vb S Ev rfl rfl rfl fun a S=>Ld ?_)
   replace S:=S.k5 0 1 7 8 9 rfl
   exact Tn (Fs (wp_cond_false ((S.tm rfl).trans (congrArg Value.bool (Im hd1 hi1))) (wp_exit (Ep (Ep (Gr (Tn (⟨h,S.nf [] rfl trivial⟩))))))))
  | cons y1 ys1 =>
   rw [Ha.eq_2] at h
   refine Fr (Vb S Ev rfl rfl rfl fun a S=>Ld ?_)
   replace S:=S.k5 0 1 7 8 9 rfl
   refine Tn (Fs (wp_cond_true ((S.tm rfl).trans (congrArg Value.bool (Hr hd1 hi1))) (wp_skip (Tn (Fs (wp_block (Fr (Vm S rfl rfl fun a S=>Va S rfl rfl ?_))))))));clear S;intro a S
   refine Dl (Fs (Fg ?_))
   iterate 3 (refine Vm S rfl rfl ?_;clear S;intro a S)
   obtain ⟨b1,o1,hm1,hr1⟩:=Fh (a:=a) (x:=.tmp 12) (y:=.tmp 13) (ty:=0) Th Bg (Iv hd1 hi1) rfl (S.tm rfl) (S.tm rfl)
   refine lv S (hr1 _) rfl ?_;clear S;intro a S
   clear hr1
   refine lv S (Fk isAgg43 sizeOf43 (off:=o1) (o:=0) (part:=(Em.enc y1)) rfl rfl (S.tm rfl) (hm1.at S.emb0)) rfl fun a S=>Ei S (fun _=>Ud (cap:=[.pointer (some ⟨Bb,0,none⟩)]) (S.tm rfl) (vs:=[.agg (Em.enc y1).toArray]) ⟨(S.tm rfl),trivial⟩ call101) (HX _ y1 Bb Az ((S.le_arg Er) _ _ Bo) _ rfl) rfl ?_;clear S;intro v1 a w3 hv1 hk1 hn1 S
   subst hv1
   refine Dl (Fc h (S.tm rfl) (fun hb1 h=>?_) (fun hb1 h=>?_))
   ·refine Fr (Vm S rfl rfl fun a S=>Va S rfl rfl fun a S=>Ld ?_)
    replace S:=S.k1 4 rfl
    refine Tn (wp_ret (Ga (Ec (Ec (Ga (Ec (Ec ?_)))))))
    subst h
    exact Eu S results100 rfl rfl
   ·exact wp_skip (Hn (Tn (Fg (Vq S Gf rfl rfl rfl fun a S=>Vm S rfl rfl fun a S=>Dl (⟨ys1,⟨i1 + 1,⟨_,(hd1).trans (List.append_cons _ _ _),by simp [hi1]⟩,h,S.nf [] rfl ⟨rfl,rfl,rfl,(congrArg (fun z=>some (Value.int .i64 z)) (Hs hd1 hi1 (Jg Bg))),trivial⟩⟩,Nat.lt_succ_self _⟩)))))
 clear S h;rintro a w2 ⟨h,S⟩;rw [hj1] at h;clear hj1 j1
 refine Tn (Fr (Vk S rfl rfl fun a S=>Dl (wp_ret ?_)))
 subst h
 exact Eu S results100 rfl rfl
theorem EQ (w : World) (Aj : Dx) (Al : Dx) (r : Int) (h : Pd Aj Al = r) :
    Calls prog 113 [.agg (Dx.enc Aj).toArray,.agg (Dx.enc Al).toArray].toArray w (Ret w [] fun _ v _=>v = iV r):=by
 refine Fe func113 rfl ntmps113 rfl fun a S=>?_
 unfold Pd at h
 replace S:=S.k2 0 1 rfl
 refine Fr (Mx S (S.tm rfl) (cs:=(Dx.enc Aj)) rfl rfl ?_);clear S;intro a w1 b1 hz1 hk1 S
 refine Mx S (S.tm rfl) (cs:=(Dx.enc Al)) rfl rfl ?_;clear S;intro a w2 b2 hz2 hk2 S
 refine Vk S rfl rfl fun a S=>Dz (Vf Qc S rfl rfl fun a S=>Vl isAgg9 1 S rfl rfl rfl rfl fun a S=>Vf Qc S rfl rfl fun a S=>Vl isAgg9 0 S rfl rfl rfl rfl fun a S=>Ei S (fun _=>Ea (vs:=[sV Aj.Who,sV Al.Who]) ⟨(S.tm rfl),(S.tm rfl),trivial⟩ call53) (Oy _ Aj.Who Al.Who _ rfl) rfl ?_);clear S;intro v1 a w3 hv1 hk3 hn1 S
 subst hv1
 refine Va S rfl rfl fun a S=>Dl (wp_ret ?_)
 subst h
 exact Eu S results113 rfl rfl
set_option maxRecDepth 20000 in
theorem Qv (w : World) (O : Value) (Ai : List Dx) (Be : (LEnt.own O 41 11 Ai.length (Ai.flatMap Dx.enc)).holds w) (Aj : Int) (Al : Int) (r : (List Dx)) (h : Il Ai Aj Al = some r) :
    Calls prog 88 [O,iV Aj,iV Al,.func (.func 113) #[] #[]].toArray w (Ret w (O.ownBlock.toList) fun _ v w'=>(LEnt.own O 41 11 r.length (r.flatMap Dx.enc)).holds w' ∧ v = .tuple #[]):=by
 refine Lb (O.ownBlock.toList) [.own O 41 11 Ai.length (Ai.flatMap Dx.enc)] func88 rfl ntmps88 rfl (fun e he=>by simp only [List.mem_singleton] at he;subst he;exact Be) (Iu _) (Js _) fun a S=>?_
 unfold Il at h
 replace S:=(S.nl [.own O 41 11 Ai.length (Ai.flatMap Dx.enc)] [true] rfl).k4 0 1 2 3 rfl
 refine Fr (Vm S rfl rfl fun a S=>Vq S Gf rfl rfl rfl fun a S=>Va S rfl rfl fun a S=>Dl ?_)
 replace S:=S.k5 0 1 2 3 8 rfl
 obtain ⟨j1,hj1,h⟩:=Ey h
 refine Es (fun a w'=>∃ x1 : List Dx,j1 x1 = some r ∧ Sx w (O.ownBlock.toList) nov [.own O 41 11 x1.length (x1.flatMap Dx.enc)] [] 53 a w') ?_ ?_
 ·refine wp_block (Gz (fun (m1 : Nat) a w'=>∃ x1 : List Dx,∃ x2 : Int,Fu Al Aj j1 m1 x1 x2 = some r ∧ Sx w (O.ownBlock.toList) nov [.own O 41 11 x1.length (x1.flatMap Dx.enc)] [(0,O),(1,iV Aj),(2,iV Al),(3,.func (.func 113) #[] #[]),(8,iV x2)] 53 a w') id ((Al - (W (Aj + 1))).toNat + 2) ⟨Ai,W (Aj + 1),h,S.nf [true] rfl (subR rfl)⟩ ?_)
  clear S h;rintro m1 a w1 ⟨x1,x2,h,S⟩
  cases m1 with
  | zero=>rw [Fu.eq_1] at h;cases h
  | succ m1 =>
   rw [Fu.eq_2] at h
   refine Fs (Fr (Vm S rfl rfl fun a S=>Vm S rfl rfl fun a S=>Vb S Ev rfl rfl rfl fun a S=>Dl (Fc h (S.tm rfl) (fun hb1 h=>?_) (fun hb1 h=>?_))))
   ·refine wp_skip (Tn (Fs (wp_block (Fr (Vm S rfl rfl fun a S=>Va S rfl rfl fun a S=>Dl ?_)))))
    replace S:=S.k6 0 1 2 3 8 9 rfl
    obtain ⟨j2,hj2,h⟩:=Ey h
    refine Es (fun a w'=>∃ x3 : List Dx,j2 x3 = some r ∧ Sx w (O.ownBlock.toList) nov [.own O 41 11 x3.length (x3.flatMap Dx.enc)] [(0,O),(1,iV Aj),(2,iV Al),(3,.func (.func 113) #[] #[]),(8,iV x2)] 53 a w') ?_ ?_
    ·refine wp_block (Gz (fun (m2 : Nat) a w'=>∃ x3 : List Dx,∃ x4 : Int,Ez Aj j2 m2 x3 x4 = some r ∧ Sx w (O.ownBlock.toList) nov [.own O 41 11 x3.length (x3.flatMap Dx.enc)] [(0,O),(1,iV Aj),(2,iV Al),(3,.func (.func 113) #[] #[]),(8,iV x2),(9,iV x4)] 53 a w') id ((x2 - Aj).toNat + 2) ⟨x1,x2,h,S.nf [true] rfl (subR rfl)⟩ ?_)
     clear S h;rintro m2 a w3 ⟨x3,x4,h,S⟩
     cases m2 with
     | zero=>rw [Ez.eq_1] at h;cases h
     | succ m2 =>
      rw [Ez.eq_2] at h
      refine Fs (Fs ?_)
      obtain ⟨j3,hj3,h⟩:=Ey h
      refine Es (fun a w'=>∃ x5 : Bool,j3 x5 = some r ∧ Sx w (O.ownBlock.toList) nov [.own O 41 11 x3.length (x3.flatMap Dx.enc)] [(0,O),(1,iV Aj),(2,iV Al),(3,.func (.func 113) #[] #[]),(8,iV x2),(9,iV x4),(34,bV x5)] 53 a w') ?_ ?_
      ·rcases Bool.eq_false_or_eq_true (decide (Aj < x4)) with hb2 | hb2
       ·replace h:=Rg h hb2
        obtain ⟨hc1,h⟩:=Ij h
        obtain ⟨hc2,h⟩:=Ij h
        refine Hd [] ([]) Tryz.mixed S rfl (by kernel_rfl) ?_;clear S;intro w7 hk2 hsel S
        refine Ek 0 S hsel rfl rfl rfl (by kernel_rfl) (by kernel_rfl) rfl (fun _ hw=>(Rm (S.tm rfl))) fun a S=>Ek 1 S hsel rfl rfl rfl (by kernel_rfl) (by kernel_rfl) rfl (fun _ hw=>(Rm (S.tm rfl))) fun a S=>Ek 2 S hsel rfl rfl rfl (by kernel_rfl) (by kernel_rfl) rfl (fun _ hw=>(Jj (S.tm rfl) (S.tm rfl))) fun a S=>Ek 3 S hsel rfl rfl rfl (by kernel_rfl) (by kernel_rfl) rfl (fun _ hw=>(Rm (S.tm rfl))) fun a S=>Et 4 S hsel rfl rfl rfl rfl hb2 rfl rfl (by kernel_rfl) (by kernel_rfl) rfl (fun _ hw=>(Rm (S.tm rfl))) fun a S=>Et 5 S hsel rfl rfl rfl rfl hb2 rfl rfl (by kernel_rfl) (by kernel_rfl) rfl (fun _ hw=>(Rm (S.tm rfl))) fun a S=>Et 6 S hsel rfl rfl rfl rfl hb2 rfl rfl (by kernel_rfl) (by kernel_rfl) rfl (fun _ hw=>(Rm (S.tm rfl))) ?_;clear S;intro a S
        obtain ⟨b3,hg3,hr3⟩:=Gx (a:=a) (x:=.tmp 23) (y:=.tmp 24) (ty:=0) La Dx.enc_ok S (i:=0) rfl (Eh hc1).1 (Eh hc1).2 (S.tm rfl) (S.tm rfl)
        refine Et 7 S hsel rfl rfl rfl rfl hb2 rfl rfl (by kernel_rfl) (by kernel_rfl) rfl (fun _ hw=>(hr3 _)) ?_;clear S;intro a S
        clear hr3
        refine Et 8 S hsel rfl rfl rfl rfl hb2 rfl rfl (by kernel_rfl) (by kernel_rfl) rfl (fun _ hw=>(Fk isAgg41 sizeOf41 (off:=x4.toNat * 11) (o:=0) (part:=(Dx.enc (nth x3 x4))) rfl rfl (S.tm rfl) ((Ns Dx.enc_ok S (i:=0) rfl hg3 (Eh hc1).1 (Ie (e':=.own O 41 11 x3.length (x3.flatMap Dx.enc)))).kept hw))) fun a S=>Et 9 S hsel rfl rfl rfl rfl hb2 rfl rfl (by kernel_rfl) (by kernel_rfl) rfl (fun _ hw=>(Rm (S.tm rfl))) fun a S=>Et 10 S hsel rfl rfl rfl rfl hb2 rfl rfl (by kernel_rfl) (by kernel_rfl) rfl (fun _ hw=>(Rm (S.tm rfl))) fun a S=>Et 11 S hsel rfl rfl rfl rfl hb2 rfl rfl (by kernel_rfl) (by kernel_rfl) rfl (fun _ hw=>(Iy (S.tm rfl) rfl)) ?_;clear S;intro a S
        obtain ⟨b4,hg4,hr4⟩:=Gx (a:=a) (x:=.tmp 27) (y:=.tmp 29) (ty:=0) La Dx.enc_ok S (i:=0) rfl (Eh hc2).1 (Eh hc2).2 (S.tm rfl) (S.tm rfl)
        refine Et 12 S hsel rfl rfl rfl rfl hb2 rfl rfl (by kernel_rfl) (by kernel_rfl) rfl (fun _ hw=>(hr4 _)) ?_;clear S;intro a S
        clear hr4
        refine Et 13 S hsel rfl rfl rfl rfl hb2 rfl rfl (by kernel_rfl) (by kernel_rfl) rfl (fun _ hw=>(Fk isAgg41 sizeOf41 (off:=((W (x4 - 1)).toNat) * 11) (o:=0) (part:=(Dx.enc (nth x3 (W (x4 - 1))))) rfl rfl (S.tm rfl) ((Ns Dx.enc_ok S (i:=0) rfl hg4 (Eh hc2).1 (Ie (e':=.own O 41 11 x3.length (x3.flatMap Dx.enc)))).kept hw))) fun a S=>Hi 14 (by kernel_rfl) rfl (Ef S rfl rfl rfl hb2 (Ei S (fun _=>Ud (cap:=[]) (S.tm rfl) (vs:=[.agg (Dx.enc (nth x3 x4)).toArray,.agg (Dx.enc (nth x3 (W (x4 - 1)))).toArray]) ⟨(S.tm rfl),(S.tm rfl),trivial⟩ call113) (EQ _ (nth x3 x4) (nth x3 (W (x4 - 1))) _ rfl) rfl ?_));clear S;intro v2 a w8 hv2 hk3 hn2 S
        subst hv2
        refine Ld (Ik hk3 (Lg [15,16] hsel (by kernel_rfl) rfl ?_))
        clear hsel
        refine Gc S rfl rfl rfl rfl hb2 (Hm S (Ev (S.tm rfl) rfl) rfl fun a S=>Gp S rfl (Qi hb2 (S.tm rfl) (S.tm rfl)) rfl fun a S=>It ?_)
        replace S:=S.nk [.own O 41 11 x3.length (x3.flatMap Dx.enc)] [(0,O),(1,iV Aj),(2,iV Al),(3,.func (.func 113) #[] #[]),(8,iV x2),(9,iV x4),(22,.func (.func 113) #[] #[]),(23,O),(24,iV x4),(25,.pointer (some ⟨b3,x4.toNat * 11,none⟩)),(26,.agg (Dx.enc (nth x3 x4)).toArray),(27,O),(28,iV x4),(29,iV (W (x4 - 1))),(30,.pointer (some ⟨b4,((W (x4 - 1)).toNat) * 11,none⟩)),(31,.agg (Dx.enc (nth x3 (W (x4 - 1)))).toArray),(32,iV (Pd (nth x3 x4) (nth x3 (W (x4 - 1))))),(33,bV (decide ((Pd (nth x3 x4) (nth x3 (W (x4 - 1)))) < 0))),(34,bV (decide ((Pd (nth x3 x4) (nth x3 (W (x4 - 1)))) < 0)))] [true] rfl (subR rfl)
        exact Tn (⟨decide ((Pd (nth x3 x4) (nth x3 (W (x4 - 1)))) < 0),h,S.nf [true] rfl (subR rfl)⟩)
       ·replace h:=Rh h hb2
        refine Hd [] ([]) Tryz.mixed S rfl (by kernel_rfl) ?_;clear S;intro w9 hk4 hsel S
        refine Lg [0,1,2,3,4,5,6,7,8,9,10,11,12,13,14,15,16] hsel (by kernel_rfl) rfl ?_
        clear hsel
        refine Gp S rfl (Rm (S.tm rfl)) rfl fun a S=>Gp S rfl (Rm (S.tm rfl)) rfl fun a S=>Gp S rfl (Jj (S.tm rfl) (S.tm rfl)) rfl fun a S=>Gp S rfl (Rm (S.tm rfl)) rfl ?_;clear S;intro a S
        iterate 12 (refine Qs S rfl rfl rfl rfl (Jw hb2) rfl ?_ rfl;clear S;intro a S)
        refine Gp S rfl (Qj hb2 (S.tm rfl) rfl) rfl fun a S=>It ?_
        replace S:=S.k7 0 1 2 3 8 9 34 rfl
        exact Tn (⟨false,h,S.nf [true] rfl (subR rfl)⟩)
      clear S h;rintro a w5 ⟨x5,h,S⟩;rw [hj3] at h;clear hj3 j3
      refine Tn (Fc h (S.tm rfl) (fun hb3 h=>?_) (fun hb3 h=>?_))
      ·refine wp_skip (Tn (Fs (wp_block ?_)))
       obtain ⟨hc3,h⟩:=Ij h
       obtain ⟨hc4,h⟩:=Ij h
       obtain ⟨hc5,h⟩:=Ij h
       obtain ⟨hc6,h⟩:=Ij h
       refine Hd [15,17] ([]) Tryz.mixed S rfl (by kernel_rfl) ?_;clear S;intro w14 hk9 hsel S
       refine Fz 0 S hsel rfl rfl (by kernel_rfl) (by kernel_rfl) rfl (fun _=>(Rm (S.tm rfl))) fun a S=>Fz 1 S hsel rfl rfl (by kernel_rfl) (by kernel_rfl) rfl (fun _=>(Rm (S.tm rfl))) fun a S=>Fz 2 S hsel rfl rfl (by kernel_rfl) (by kernel_rfl) rfl (fun _=>(Rm (S.tm rfl))) fun a S=>Fz 3 S hsel rfl rfl (by kernel_rfl) (by kernel_rfl) rfl (fun _=>(Rm (S.tm rfl))) fun a S=>Fz 4 S hsel rfl rfl (by kernel_rfl) (by kernel_rfl) rfl (fun _=>(Iy (S.tm rfl) rfl)) fun a S=>Fz 5 S hsel rfl rfl (by kernel_rfl) (by kernel_rfl) rfl (fun _=>(Rm (S.tm rfl))) fun a S=>Fz 6 S hsel rfl rfl (by kernel_rfl) (by kernel_rfl) rfl (fun _=>(Rm (S.tm rfl))) fun a S=>Fz 7 S hsel rfl rfl (by kernel_rfl) (by kernel_rfl) rfl (fun _=>(Iy (S.tm rfl) rfl)) ?_;clear S;intro a S
       obtain ⟨b9,hg9,hr9⟩:=Gx (a:=a) (x:=.tmp 42) (y:=.tmp 44) (ty:=0) La Dx.enc_ok S (i:=0) rfl (Eh hc3).1 (Eh hc3).2 (S.tm rfl) (S.tm rfl)
       refine Fz 8 S hsel rfl rfl (by kernel_rfl) (by kernel_rfl) rfl (fun _=>(hr9 _)) ?_;clear S;intro a S
       clear hr9
       refine Ek 9 S hsel rfl (by kernel_rfl) (by kernel_rfl) (by kernel_rfl) (by kernel_rfl) rfl (fun _ hw=>(Fk isAgg41 sizeOf41 (off:=((W (x4 - 1)).toNat) * 11) (o:=0) (part:=(Dx.enc (nth x3 (W (x4 - 1))))) rfl rfl (S.tm rfl) ((Ns Dx.enc_ok S (i:=0) rfl hg9 (Eh hc3).1 (Ie (e':=.own O 41 11 x3.length (x3.flatMap Dx.enc)))).kept hw))) fun a S=>Fz 10 S hsel rfl rfl (by kernel_rfl) (by kernel_rfl) rfl (fun _=>(Rm (S.tm rfl))) fun a S=>Fz 11 S hsel rfl rfl (by kernel_rfl) (by kernel_rfl) rfl (fun _=>(Rm (S.tm rfl))) ?_;clear S;intro a S
       obtain ⟨b10,hg10,hr10⟩:=Gx (a:=a) (x:=.tmp 47) (y:=.tmp 48) (ty:=0) La Dx.enc_ok S (i:=0) rfl (Eh hc4).1 (Eh hc4).2 (S.tm rfl) (S.tm rfl)
       refine Fz 12 S hsel rfl rfl (by kernel_rfl) (by kernel_rfl) rfl (fun _=>(hr10 _)) ?_;clear S;intro a S
       clear hr10
       refine Ek 13 S hsel rfl (by kernel_rfl) (by kernel_rfl) (by kernel_rfl) (by kernel_rfl) rfl (fun _ hw=>(Fk isAgg41 sizeOf41 (off:=x4.toNat * 11) (o:=0) (part:=(Dx.enc (nth x3 x4))) rfl rfl (S.tm rfl) ((Ns Dx.enc_ok S (i:=0) rfl hg10 (Eh hc4).1 (Ie (e':=.own O 41 11 x3.length (x3.flatMap Dx.enc)))).kept hw))) ?_;clear S;intro a S
       obtain ⟨b11,hg11,hr11⟩:=Gx (a:=a) (x:=.tmp 37) (y:=.tmp 38) (ty:=0) La Dx.enc_ok S (i:=0) rfl (Eh hc5).1 (Eh hc5).2 (S.tm rfl) (S.tm rfl)
       refine Fz 14 S hsel rfl rfl (by kernel_rfl) (by kernel_rfl) rfl (fun _=>(hr11 _)) ?_;clear S;intro a S
       clear hr11
       refine Wq 15 (O.ownBlock.toList) rfl (by kernel_rfl) rfl (Oe (c:=0) (j:=x4.toNat) (nth x3 (W (x4 - 1))) Dx.enc_ok S (S.tm rfl) (S.tm rfl) (i:=0) rfl hg11 (Eh hc5).1 sizeOf41 (vs:=[sV ((nth x3 (W (x4 - 1))).Site),iV ((nth x3 (W (x4 - 1))).No),iV ((nth x3 (W (x4 - 1))).At),iV ((nth x3 (W (x4 - 1))).Kind),sV ((nth x3 (W (x4 - 1))).Who),sV ((nth x3 (W (x4 - 1))).Club),sV ((nth x3 (W (x4 - 1))).Race),iV ((nth x3 (W (x4 - 1))).Time),iV ((nth x3 (W (x4 - 1))).Fault),sV ((nth x3 (W (x4 - 1))).Of),iV ((nth x3 (W (x4 - 1))).Other)]) rfl rfl rfl rfl rfl ?_);clear S;intro w16 hk11 S
       refine Ld (Wr ?_)
       obtain ⟨b12,hg12,hr12⟩:=Gx (a:=a) (x:=.tmp 39) (y:=.tmp 41) (ty:=0) La Dx.enc_ok S (i:=0) rfl (Eh hc6).1 (Eh hc6).2 (S.tm rfl) (S.tm rfl)
       refine Ek 16 S hsel rfl rfl rfl (by kernel_rfl) (by kernel_rfl) rfl (fun _ hw=>(hr12 _)) ?_;clear S;intro a S
       clear hr12
       refine Hi 17 (by kernel_rfl) rfl (Oe (c:=0) (j:=(W (x4 - 1)).toNat) (nth x3 x4) Dx.enc_ok S (S.tm rfl) (S.tm rfl) (i:=0) rfl hg12 (Eh hc6).1 sizeOf41 (vs:=[sV ((nth x3 x4).Site),iV ((nth x3 x4).No),iV ((nth x3 x4).At),iV ((nth x3 x4).Kind),sV ((nth x3 x4).Who),sV ((nth x3 x4).Club),sV ((nth x3 x4).Race),iV ((nth x3 x4).Time),iV ((nth x3 x4).Fault),sV ((nth x3 x4).Of),iV ((nth x3 x4).Other)]) rfl rfl rfl rfl rfl ?_);clear S;intro w18 hk13 S
       refine Ld (Ik hk13 (Wl (by kernel_rfl) ?_))
       clear hsel
       replace S:=(S.nl [.own O 41 11 ((x3.set x4.toNat (nth x3 (W (x4 - 1)))).set ((W (x4 - 1)).toNat) (nth x3 x4)).length (((x3.set x4.toNat (nth x3 (W (x4 - 1)))).set ((W (x4 - 1)).toNat) (nth x3 x4)).flatMap Dx.enc)] [true] rfl).k6 0 1 2 3 8 9 rfl
       exact Hn (Tn (Fg (Vm S rfl rfl fun a S=>Vq S Iy rfl rfl rfl fun a S=>Va S rfl rfl fun a S=>Dl (⟨m2,⟨((x3.set x4.toNat (nth x3 (W (x4 - 1)))).set ((W (x4 - 1)).toNat) (nth x3 x4)),W (x4 - 1),h,S.nf [true] rfl ⟨rfl,rfl,rfl,rfl,rfl,rfl,trivial⟩⟩,Nat.lt_succ_self _⟩))))
      ·exact wp_exit (Ep (Ep (Gr (Tn (⟨x3,h,S.nf [true] rfl (subR rfl)⟩)))))
    clear S h;rintro a w4 ⟨x3,h,S⟩;rw [hj2] at h;clear hj2 j2
    exact Hn (Tn (Fg (Vm S rfl rfl fun a S=>Vq S Gf rfl rfl rfl fun a S=>Va S rfl rfl fun a S=>Dl (⟨m1,⟨x3,W (x2 + 1),h,S.nf [true] rfl ⟨rfl,rfl,rfl,rfl,rfl,trivial⟩⟩,Nat.lt_succ_self _⟩))))
   ·exact wp_exit (Ep (Ep (Gr (Tn (⟨x1,h,S.nf [true] rfl trivial⟩)))))
 clear S h;rintro a w2 ⟨x1,h,S⟩;rw [hj1] at h;clear hj1 j1
 obtain rfl:=Option.some.inj h
 exact Ri S results88 ⟨(S.holds _ (List.mem_of_getElem? (i:=0) rfl)),rfl⟩
theorem Sn (w : World) (O : Value) (Ai : List Dx) (Be : (LEnt.own O 41 11 Ai.length (Ai.flatMap Dx.enc)).holds w) (Aj : Int) (Al : Int) (Cd : Int) (r : (List Dx)) (h : Ki Ai Aj Al Cd = some r) :
    Calls prog 49 [O,iV Aj,iV Al,iV Cd,.func (.func 113) #[] #[]].toArray w (Ret w (O.ownBlock.toList) fun _ v w'=>(LEnt.own O 41 11 r.length (r.flatMap Dx.enc)).holds w' ∧ v = .tuple #[]):=by
 refine Lb (O.ownBlock.toList) [.own O 41 11 Ai.length (Ai.flatMap Dx.enc)] func49 rfl ntmps49 rfl (fun e he=>by simp only [List.mem_singleton] at he;subst he;exact Be) (Iu _) (Js _) fun a S=>?_
 unfold Ki at h
 replace S:=(S.nl [.own O 41 11 Ai.length (Ai.flatMap Dx.enc)] [true] rfl).k5 0 1 2 3 4 rfl
 refine Fr (Vk S rfl rfl fun a S=>Dz (Vk S rfl rfl fun a S=>Dl ?_))
 replace S:=S.k6 0 1 2 3 4 10 rfl
 refine Es (fun a w'=>False) ?_ ?_
 ·refine wp_block (Gz (fun (m1 : Nat) a w'=>∃ x1 : Int,∃ x2 : Int,∃ x3 : Int,∃ x4 : Bool,Hc Ai m1 x1 x2 x3 x4 = some r ∧ Sx w (O.ownBlock.toList) nov [.own O 41 11 Ai.length (Ai.flatMap Dx.enc)] [(0,O),(1,iV x1),(2,iV x2),(3,iV x3),(4,.func (.func 113) #[] #[]),(10,bV x4)] 148 a w') id 4611686018427387904 ⟨Aj,Al,Cd,true,h,S.nf [true] rfl (subR rfl)⟩ ?_)
  clear S h;rintro m1 a w1 ⟨x1,x2,x3,x4,h,S⟩
  cases m1 with
  | zero=>rw [Hc.eq_1] at h;cases h
  | succ m1 =>
   rw [Hc.eq_2] at h
   refine wp_block (Fr (Vm S rfl rfl fun a S=>Vm S rfl rfl fun a S=>Vb S Iy rfl rfl rfl fun a S=>Va S rfl rfl fun a S=>Dl (Fs (Fs ?_))))
   refine Fg (Vm S rfl rfl fun a S=>Vq S Us rfl rfl rfl fun a S=>Dl (Fc h (S.tm rfl) (fun hb1 h=>?_) (fun hb1 h=>?_)))
   ·refine Fs (Fg ?_)
    iterate 4 (refine Vm S rfl rfl ?_;clear S;intro a S)
    obtain ⟨r1,hr1,h⟩:=Fd h
    refine Mr 0 S rfl (fun _=>.own O 41 11 r1.length (r1.flatMap Dx.enc)) (fun _=>Ea (vs:=[O,iV x1,iV x2,.func (.func 113) #[] #[]]) ⟨(S.tm rfl),(S.tm rfl),(S.tm rfl),(S.tm rfl),trivial⟩ call88) (Qv _ O Ai (S.holds _ (List.mem_of_getElem? (i:=0) rfl)) x1 x2 _ hr1) rfl (fun _ _ _ h=>⟨h.1,fun _ hc=>hc⟩) ?_;clear S;intro v1 a w3 hv1 hk1 hn1 S
    replace hv1:=hv1.2
    subst hv1
    refine Ld ?_
    replace S:=(S.nl [.own O 41 11 r1.length (r1.flatMap Dx.enc)] [true] rfl).k0
    refine Tn (wp_ret (Ec (Ga (Ec (Ga (Ec ?_))))))
    obtain rfl:=Option.some.inj h
    exact Ri S results49 ⟨(S.holds _ (List.mem_of_getElem? (i:=0) rfl)),rfl⟩
   ·refine wp_skip (Tn (Fs (Fr (Vm S rfl rfl fun a S=>Vq S Jh rfl rfl rfl fun a S=>Dl (Fc h (S.tm rfl) (fun hb2 h=>?_) (fun hb2 h=>?_))))))
    ·refine Fs ?_
     cases h
    ·refine wp_skip (Tn (Fs (Fr (Vm S rfl rfl fun a S=>Vu S Hv rfl rfl fun a S=>Ld ?_))))
     replace S:=S.k1 39 rfl
     refine Tn (Fc h (S.tm rfl) (fun hb3 h=>?_) (fun hb3 h=>?_))
     ·refine Fs ?_
      cases h
     ·refine wp_skip (Tn (Fs ?_))
      cases h
 exact fun _ _ h=>h.elim
theorem Ui (w : World) (Ay : Value) (Ac : List Dx) (Ci : (LEnt.own Ay 41 11 Ac.length (Ac.flatMap Dx.enc)).holds w) (r : (List Dx)) (h : Jz Ac = some r) :
    Calls prog 25 [Ay,.func (.func 113) #[] #[]].toArray w (Ret w (Ay.ownBlock.toList) fun _ v w'=>(LEnt.own Ay 41 11 r.length (r.flatMap Dx.enc)).holds w' ∧ v = .tuple #[]):=by
 refine Lb (Ay.ownBlock.toList) [.own Ay 41 11 Ac.length (Ac.flatMap Dx.enc)] func25 rfl ntmps25 rfl (fun e he=>by simp only [List.mem_singleton] at he;subst he;exact Ci) (Iu _) (Js _) fun a S=>?_
 unfold Jz at h
 replace S:=(S.nl [.own Ay 41 11 Ac.length (Ac.flatMap Dx.enc)] [true] rfl).k2 0 1 rfl
 refine Fr (Vm S rfl rfl fun a S=>lv S (Fq La (S.tm rfl) (Oh (S.own_at (i:=0) rfl))) rfl fun a S=>Va S rfl rfl fun a S=>Dl (Fg ?_))
 iterate 3 (refine Vm S rfl rfl ?_;clear S;intro a S)
 refine Vu S (Wb underlying3 underlying117) rfl rfl ?_;clear S;intro a S
 obtain ⟨r1,hr1,h⟩:=Fd h
 refine Ei S (fun _=>Ea (vs:=[.int .u64 (IntKind.wrap .u64 (Ac.length : Int))]) ⟨(S.tm rfl),trivial⟩ call50) (DJ _ (IntKind.wrap .u64 (Ac.length : Int)) _ hr1) rfl ?_;clear S;intro v1 a w1 hv1 hk1 hn1 S
 subst hv1
 refine Vm S rfl rfl ?_;clear S;intro a S
 obtain ⟨r2,hr2,h⟩:=Fd h
 refine Mr 0 S rfl (fun _=>.own Ay 41 11 r2.length (r2.flatMap Dx.enc)) (fun _=>Ea (vs:=[Ay,iV 0,iV (Ac.length : Int),iV r1,.func (.func 113) #[] #[]]) ⟨(S.tm rfl),rfl,(S.tm rfl),(S.tm rfl),(S.tm rfl),trivial⟩ call49) (Sn _ Ay Ac (S.holds _ (List.mem_of_getElem? (i:=0) rfl)) 0 (Ac.length : Int) r1 _ hr2) rfl (fun _ _ _ h=>⟨h.1,fun _ hc=>hc⟩) ?_;clear S;intro v2 a w2 hv2 hk2 hn2 S
 replace hv2:=hv2.2
 subst hv2
 refine Ld ?_
 obtain rfl:=Option.some.inj h
 exact Ri S results25 ⟨(S.holds _ (List.mem_of_getElem? (i:=0) rfl)),rfl⟩
theorem Xr (w : World) (U : Nat) (Af : Kq) (Bl : R32) (Bv : Tp (view w []) Af Bl) (Ap : Value) (Ak : List Dx) (Bc : Slc (view w []) 11 Ap (Ak.map Dx.enc)) (Ar : (view w []) U = some (.cells (R32.enc Bl ++ [Ap]).toArray 134 (0,0))) (Au : ByteArray) (r : (List Dx)) (h : Qx Af Ak Au = some r) :
    Calls prog 63 [.pointer (some ⟨U,0,none⟩),sV Au].toArray w (Ret w [] fun τ v _=>Up τ 41 11 v r.length (r.flatMap Dx.enc)):=by
 obtain ⟨u1,u2,rfl,hs1,⟨u3,rfl,hs2⟩⟩:=Bv
 replace Ar : (view w []) U = some (.cells [u1.val,u3.val,iV Af.Table.Relay,iV Af.Table.Most,iV Af.Final.Size,iV Af.Final.Many,iV Af.Final.Reserves,Ap].toArray 134 (0,0)):=Ar
 refine Fe func63 rfl ntmps63 rfl fun a S=>?_
 unfold Qx at h
 replace S:=S.k2 0 1 rfl
 refine Fr (Vk S rfl rfl fun a S=>Dz (RH (κ:=ByteArray) (ν:=Dx) S rfl Value.string (fun x=>Value.agg (Dx.enc x).toArray) ?_));clear S;intro a w1 b1 hz1 hk1 S
 refine Va S rfl rfl fun a S=>Dl (Fs (Fr (Vm S rfl rfl fun a S=>Vu S Lz rfl rfl fun a S=>Vf GQ S rfl rfl fun a S=>lv S (Ic isAgg34 (off:=0) (o:=7) (S.tm rfl) ((Ti Ar).at S.emb0) rfl) rfl fun a S=>lv S (Fq La (S.tm rfl) (Fm Bc)) rfl ?_)));clear S;intro a S
 refine lv S (Rm rfl) rfl fun a S=>Dl ?_
 replace S:=(S.nl [.map b1 (Jr Value.string (fun x=>Value.agg (Dx.enc x).toArray) ([] : List (ByteArray × Dx)) ([] : List Nat)) 0] [true] rfl).k5 1 5 15 16 17 rfl
 obtain ⟨j1,hj1,h⟩:=Ey h
 refine Es (fun a w'=>∃ x1 : List (ByteArray × Dx),∃ bs1 : List Nat,∃ ck1 : Nat,j1 x1 = some r ∧ Vj x1.length bs1 ck1 ∧ Sx w [] nov [.map b1 (Jr Value.string (fun x=>Value.agg (Dx.enc x).toArray) x1 bs1) ck1] [(5,.map (some b1))] 52 a w') ?_ ?_
 ·refine wp_block (Gz (fun (ys1 : List Dx) a w'=>∃ i1 : Nat,∃ x1 : List (ByteArray × Dx),∃ bs1 : List Nat,∃ ck1 : Nat,(∃ dn,Ak = dn ++ ys1 ∧ dn.length = i1) ∧ Mj Au j1 ys1 i1 x1 = some r ∧ Vj x1.length bs1 ck1 ∧ Sx w [] nov [.map b1 (Jr Value.string (fun x=>Value.agg (Dx.enc x).toArray) x1 bs1) ck1] [(1,sV Au),(5,.map (some b1)),(15,Ap),(16,iV (Ak.length : Int)),(17,iV (i1 : Int))] 52 a w') List.length Ak ⟨0,([] : List (ByteArray × Dx)),([] : List Nat),0,⟨[],rfl,rfl⟩,h,(VB (κ:=ByteArray) (ν:=Dx)),S.nf [true] rfl (subR rfl)⟩ ?_)
  clear S h;rintro ys1 a w2 ⟨i1,x1,bs1,ck1,⟨dn,hd1,hi1⟩,h,hB1,S⟩
  cases ys1 with
  | nil =>
   rw [Mj.eq_1] at h
   refine Fr (Vb S Ev rfl rfl rfl fun a S=>Ld ?_)
   replace S:=S.k6 1 5 15 16 17 18 rfl
   exact Tn (Fs (wp_cond_false ((S.tm rfl).trans (congrArg Value.bool (Im hd1 hi1))) (wp_exit (Ep (Ep (Gr (Tn (⟨x1,bs1,ck1,h,hB1,S.nf [true] rfl ⟨rfl,trivial⟩⟩))))))))
  | cons y1 ys1 =>
   rw [Mj.eq_2] at h
   refine Fr (Vb S Ev rfl rfl rfl fun a S=>Ld ?_)
   replace S:=S.k6 1 5 15 16 17 18 rfl
   refine Tn (Fs (wp_cond_true ((S.tm rfl).trans (congrArg Value.bool (Hr hd1 hi1))) (wp_skip (Tn (Fs ?_)))))
   obtain ⟨j2,hj2,h⟩:=Ey h
   refine Es (fun a w'=>∃ x2 : List (ByteArray × Dx),∃ bs2 : List Nat,∃ ck2 : Nat,j2 x2 = some r ∧ Vj x2.length bs2 ck2 ∧ Sx w [] nov [.map b1 (Jr Value.string (fun x=>Value.agg (Dx.enc x).toArray) x2 bs2) ck2] [(1,sV Au),(5,.map (some b1)),(15,Ap),(16,iV (Ak.length : Int)),(17,iV (i1 : Int))] 52 a w') ?_ ?_
   ·refine wp_block (Fs (Fg ?_))
    obtain ⟨b2,o1,hm1,hr1⟩:=Fh (a:=a) (x:=.tmp 15) (y:=.tmp 17) (ty:=0) La Bc (Iv hd1 hi1) rfl (S.tm rfl) (S.tm rfl)
    refine lv S (hr1 _) rfl ?_;clear S;intro a S
    clear hr1
    refine lv S (Fk isAgg41 sizeOf41 (off:=o1) (o:=0) (part:=(Dx.enc y1)) rfl rfl (S.tm rfl) (hm1.at S.emb0)) rfl fun a S=>Hu S zeroValue41 (cs:=[sV An,iV 0,iV 0,iV 0,sV An,sV An,sV An,iV 0,iV 0,sV An,iV 0]) rfl rfl ?_;clear S;intro a w5 b3 hz2 hk2 S
    refine Fj S (S.tm rfl) (S.tm rfl) (i:=0) (off:=0) rfl sizeOf41 (vs:=(Dx.enc y1)) rfl rfl rfl rfl ?_;clear S;intro w6 hk3 S
    refine Dl (Fs (Fr (Vf Un S rfl rfl fun a S=>Vl isAgg9 0 S rfl rfl rfl rfl fun a S=>Vm S rfl rfl fun a S=>Vb S Zt rfl rfl rfl fun a S=>Dl ?_)))
    refine Fc h (S.tm rfl) (fun hb1 h=>?_) (fun hb1 h=>?_)
    ·exact wp_exit (Ep (Gr (Tn (⟨x1,bs1,ck1,h,hB1,S.nf [false,true] rfl (subR rfl)⟩))))
    ·refine wp_skip (Tn (Fr (Vf Qu S rfl rfl fun a S=>Vl isAgg3 0 S rfl rfl rfl rfl fun a S=>Ld ?_)))
     replace S:=(S.nl [.blk b3 (Dx.enc y1) 41,.map b1 (Jr Value.string (fun x=>Value.agg (Dx.enc x).toArray) x1 bs1) ck1] [true,true] rfl).k7 1 5 7 15 16 17 26 rfl
     refine Tn ?_
     obtain ⟨j3,hj3,h⟩:=Ey h
     refine Es (fun a w'=>∃ x3 : List (ByteArray × Dx),∃ bs3 : List Nat,∃ ck3 : Nat,j3 x3 = some r ∧ Vj x3.length bs3 ck3 ∧ Sx w [] nov [.blk b3 (Dx.enc y1) 41,.map b1 (Jr Value.string (fun x=>Value.agg (Dx.enc x).toArray) x3 bs3) ck3] [(1,sV Au),(5,.map (some b1)),(15,Ap),(16,iV (Ak.length : Int)),(17,iV (i1 : Int))] 52 a w') ?_ ?_
     ·refine wp_block (Fr (Vq S Jh rfl rfl rfl fun a S=>Va S rfl rfl fun a S=>Dl ?_))
      obtain ⟨j4,hj4,h⟩:=Ey h
      refine Es (fun a w'=>∃ x4 : List (ByteArray × Dx),∃ bs4 : List Nat,∃ ck4 : Nat,j4 x4 = some r ∧ Vj x4.length bs4 ck4 ∧ Sx w [] nov [.blk b3 (Dx.enc y1) 41,.map b1 (Jr Value.string (fun x=>Value.agg (Dx.enc x).toArray) x4 bs4) ck4] [(1,sV Au),(5,.map (some b1)),(15,Ap),(16,iV (Ak.length : Int)),(17,iV (i1 : Int))] 52 a w') ?_ ?_
      ·refine Fc h (S.tm rfl) (fun hb2 h=>?_) (fun hb2 h=>?_)
       ·refine Fg (Vm S rfl rfl fun a S=>Vf Qc S rfl rfl fun a S=>Vl isAgg9 0 S rfl rfl rfl rfl fun a S=>lv S (Fk isAgg41 sizeOf41 (off:=0) (o:=0) (part:=(Dx.enc y1)) rfl rfl (S.tm rfl) (S.cellsAt (i:=0) rfl)) rfl fun a S=>NM (kv:=Value.string) (vv:=(fun x=>Value.agg (Dx.enc x).toArray)) (m:=x1) (key:=y1.Who) (val:=y1) S (i:=1) rfl hB1 underlying172 (Mq underlying9) (S.tm rfl) (S.tm rfl) (S.tm rfl) ?_);clear S;intro w9 bs5 ck5 hB5 hk4 S
        exact Dl (⟨(Gw x1 y1.Who y1),bs5,ck5,h,hB5,S.nf [true,true] rfl (subR rfl)⟩)
       ·refine Fr (Vq S Jh rfl rfl rfl fun a S=>Va S rfl rfl fun a S=>Dl ?_)
        obtain ⟨j5,hj5,h⟩:=Ey h
        refine Es (fun a w'=>∃ x5 : List (ByteArray × Dx),∃ bs6 : List Nat,∃ ck6 : Nat,j5 x5 = some r ∧ Vj x5.length bs6 ck6 ∧ Sx w [] nov [.blk b3 (Dx.enc y1) 41,.map b1 (Jr Value.string (fun x=>Value.agg (Dx.enc x).toArray) x5 bs6) ck6] [(1,sV Au),(5,.map (some b1)),(15,Ap),(16,iV (Ak.length : Int)),(17,iV (i1 : Int))] 52 a w') ?_ ?_
        ·refine Fc h (S.tm rfl) (fun hb3 h=>?_) (fun hb3 h=>?_)
         ·refine Fg (Vm S rfl rfl fun a S=>Vf Qc S rfl rfl fun a S=>Vl isAgg9 0 S rfl rfl rfl rfl fun a S=>VC (kv:=Value.string) (vv:=(fun x=>Value.agg (Dx.enc x).toArray)) (m:=x1) (key:=y1.Who) S (i:=1) rfl hB1 rfl underlying172 (Mq underlying9) (S.tm rfl) (S.tm rfl) ?_);clear S;intro w11 bs7 ck7 hB7 hk5 S
          exact Dl (⟨(CD x1 y1.Who),bs7,ck7,h,hB7,S.nf [true,true] rfl (subR rfl)⟩)
         ·exact wp_skip (Tn (⟨x1,bs1,ck1,h,hB1,S.nf [true,true] rfl (subR rfl)⟩))
        clear S h;rintro a w10 ⟨x5,bs6,ck6,h,hB6,S⟩;rw [hj5] at h;clear hj5 j5
        exact Tn (⟨x5,bs6,ck6,h,hB6,S.nf [true,true] rfl (subR rfl)⟩)
      clear S h;rintro a w8 ⟨x4,bs4,ck4,h,hB4,S⟩;rw [hj4] at h;clear hj4 j4
      exact Hn (Tn (⟨x4,bs4,ck4,h,hB4,S.nf [true,true] rfl (subR rfl)⟩))
     clear S h;rintro a w7 ⟨x3,bs3,ck3,h,hB3,S⟩;rw [hj3] at h;clear hj3 j3
     exact Hn (Tn (⟨x3,bs3,ck3,h,hB3,S.nf [false,true] rfl (subR rfl)⟩))
   clear S h;rintro a w4 ⟨x2,bs2,ck2,h,hB2,S⟩;rw [hj2] at h;clear hj2 j2
   exact Tn (Fg (Vq S Gf rfl rfl rfl fun a S=>Vm S rfl rfl fun a S=>Dl (⟨ys1,⟨i1 + 1,x2,bs2,ck2,⟨_,(hd1).trans (List.append_cons _ _ _),by simp [hi1]⟩,h,hB2,S.nf [true] rfl ⟨rfl,rfl,rfl,rfl,(congrArg (fun z=>some (Value.int .i64 z)) (Hs hd1 hi1 (Jg Bc))),trivial⟩⟩,Nat.lt_succ_self _⟩)))
 clear S h;rintro a w3 ⟨x1,bs1,ck1,h,hB1,S⟩;rw [hj1] at h;clear hj1 j1
 refine Tn (Fr (Vk S rfl rfl ?_));clear S;intro a S
 replace S:=S.nil 41 11
 refine Dl (Fs (Fr (Vm S rfl rfl fun a S=>SW (es:=Jr Value.string (fun x=>Value.agg (Dx.enc x).toArray) x1 bs1) (clk:=ck1) S (S.map_at (i:=1) rfl) underlying172 (S.tm rfl) rfl ?_)));clear S;intro a w12 b4 hz3 hk6 S
 refine Dl ?_
 replace S:=(S.nl [.iter b4 b1 ck1 #[] ck1,.own (.slice none 0 0) 41 11 ([] : List Dx).length (([] : List Dx).flatMap Dx.enc),.map b1 (Jr Value.string (fun x=>Value.agg (Dx.enc x).toArray) x1 bs1) ck1] [true,true,true] rfl).k2 8 40 rfl
 obtain ⟨j6,hj6,h⟩:=Ey h
 replace h:=allE h
 refine Es (fun a w'=>∃ x6 : List Dx,∃ v1 : Value,j6 x6 = some r ∧ Sx w [] nov [.own v1 41 11 x6.length (x6.flatMap Dx.enc),.map b1 (Jr Value.string (fun x=>Value.agg (Dx.enc x).toArray) x1 bs1) ck1] [(8,v1)] 52 a w') ?_ ?_
 ·refine wp_block (Gz (fun (q : List (ByteArray × Dx)) a w'=>∃ x6 : List Dx,∃ v1 : Value,∃ sn1 : Array Nat,EZ x1 bs1 sn1 = q ∧ (∀ p,p.Perm q → Ni j6 p x6 = some r) ∧ Sx w [] nov [.iter b4 b1 ck1 sn1 ck1,.own v1 41 11 x6.length (x6.flatMap Dx.enc),.map b1 (Jr Value.string (fun x=>Value.agg (Dx.enc x).toArray) x1 bs1) ck1] [(8,v1),(40,.pointer (some ⟨b4,0,none⟩))] 52 a w') List.length x1 ⟨([] : List Dx),(.slice none 0 0),#[],(leftB_0 hB1),h,S.nf [true,true,true] rfl (subR rfl)⟩ ?_)
  clear S h;rintro q a w13 ⟨x6,v1,sn1,hq,h,S⟩
  refine Fr (l_nextB (kv:=Value.string) (vv:=(fun x=>Value.agg (Dx.enc x).toArray)) (m:=x1) S (i:=0) rfl (S.map_at (i:=2) rfl) hB1 (S.tm rfl) rfl ?_ ?_)
  ·intro hn1;clear S;intro a S
   replace h:=OR h (hq.symm.trans hn1)
   rw [Ni.eq_1] at h
   refine Vq S Fy rfl rfl rfl fun a S=>Ld ?_
   replace S:=S.k3 8 40 42 rfl
   exact Tn (Fs (wp_cond_false (S.tm rfl) (wp_exit (Ep (Ep (Gr (Tn (⟨x6,v1,h,S.nf [false,true,true] rfl ⟨rfl,trivial⟩⟩))))))))
  ·clear S;intro y2 sn2 a w15 hp1 hl1 hk7 S
   obtain ⟨sq1,h,hn2⟩:=LU h (by rw [← hq];exact hp1) (fun _=>rfl)
   refine Vq S Fy rfl rfl rfl fun a S=>Ld ?_
   replace S:=(S.nl [.iter b4 b1 ck1 sn2 ck1,.own v1 41 11 x6.length (x6.flatMap Dx.enc),.map b1 (Jr Value.string (fun x=>Value.agg (Dx.enc x).toArray) x1 bs1) ck1] [true,true,true] rfl).k3 8 40 42 rfl
   refine Tn (Fs (wp_cond_true (S.tm rfl) (wp_skip (Tn (wp_block (Fr (lv S (VD (kv:=Value.string) (vv:=(fun x=>Value.agg (Dx.enc x).toArray)) (m:=x1) (e:=y2) (S.holds _ (List.mem_of_getElem? (i:=0) rfl)) (S.map_at (i:=2) rfl) hB1 hl1 (S.tm rfl)) rfl fun a S=>Vq S Fy rfl rfl rfl fun a S=>Hu S zeroValue41 (cs:=[sV An,iV 0,iV 0,iV 0,sV An,sV An,sV An,iV 0,iV 0,sV An,iV 0]) rfl rfl ?_)))))));clear S;intro a w16 b5 hz4 hk8 S
   refine Fj S (S.tm rfl) (S.tm rfl) (i:=0) (off:=0) rfl sizeOf41 (vs:=(Dx.enc y2.2)) rfl rfl rfl rfl ?_;clear S;intro w17 hk9 S
   refine Dl (Fg (Vm S rfl rfl fun a S=>lv S (Fk isAgg41 sizeOf41 (off:=0) (o:=0) (part:=(Dx.enc y2.2)) rfl rfl (S.tm rfl) (S.cellsAt (i:=0) rfl)) rfl fun a S=>Ff S underlying34 sizeOf41 zeroValue41 rfl rfl (pv:=[(0,.agg (Dx.enc y2.2).toArray)]) ⟨rfl,(S.tm rfl),trivial⟩ (cs:=[sV y2.2.Site,iV y2.2.No,iV y2.2.At,iV y2.2.Kind,sV y2.2.Who,sV y2.2.Club,sV y2.2.Race,iV y2.2.Time,iV y2.2.Fault,sV y2.2.Of,iV y2.2.Other]) (by kernel_rfl) rfl ?_));clear S;intro a w18 b6 hz5 hk10 S
   obtain ⟨hc1,h⟩:=Ij h
   refine Np La Dx.enc_ok S (S.tm rfl) (i:=3) rfl (S.tm rfl) (j:=0) rfl (ys:=[y2.2]) rfl rfl rfl rfl (by have:=Ob hc1;omega) rfl ?_;clear S;intro v2 a w19 hk11 S
   refine Va S rfl rfl fun a S=>Ld (Hn (Tn ?_))
   obtain rfl:=Option.some.inj h
   exact ⟨EZ x1 bs1 sn2,⟨(x6 ++ [y2.2]),v2,sn2,rfl,hn2,S.nf [false,false,true,true,true] rfl (subR rfl)⟩,by have:=hp1.length_eq;rw [hq] at this;simp only [List.length_cons] at this;omega⟩
 clear S h;rintro a w14 ⟨x6,v1,h,S⟩;rw [hj6] at h;clear hj6 j6
 refine Tn (Fr (Vm S rfl rfl ?_));clear S;intro a S
 obtain ⟨r1,hr2,h⟩:=Fd h
 refine Mr 0 S rfl (fun _=>.own v1 41 11 r1.length (r1.flatMap Dx.enc)) (fun _=>Ea (vs:=[v1,.func (.func 113) #[] #[]]) ⟨(S.tm rfl),rfl,trivial⟩ call25) (Ui _ v1 x6 (S.holds _ (List.mem_of_getElem? (i:=0) rfl)) _ hr2) rfl (fun _ _ _ h=>⟨h.1,fun _ hc=>hc⟩) ?_;clear S;intro v3 a w20 hv1 hk12 hn3 S
 replace hv1:=hv1.2
 subst hv1
 refine Dz (Vm S rfl rfl fun a S=>Va S rfl rfl fun a S=>Dl (wp_ret ?_))
 obtain rfl:=Option.some.inj h
 exact Eu S results63 rfl (Tt S (i:=0) rfl rfl)
theorem FD (w : World) (U : Nat) (Af : Kq) (Bl : R32) (Bv : Tp (view w []) Af Bl) (Ap : Value) (Ak : List Dx) (Bc : Slc (view w []) 11 Ap (Ak.map Dx.enc)) (Ar : (view w []) U = some (.cells (R32.enc Bl ++ [Ap]).toArray 134 (0,0))) (Br : ByteArray) (r : Em × Int) (h : Xm Af Ak Br = some r) :
    Calls prog 54 [.pointer (some ⟨U,0,none⟩),sV Br].toArray w (Ret w [] fun _ v _=>v = .tuple #[.agg (Em.enc r.1).toArray,iV r.2]):=by
 obtain ⟨u1,u2,rfl,hs1,⟨u3,rfl,hs2⟩⟩:=Bv
 replace Ar : (view w []) U = some (.cells [u1.val,u3.val,iV Af.Table.Relay,iV Af.Table.Most,iV Af.Final.Size,iV Af.Final.Many,iV Af.Final.Reserves,Ap].toArray 134 (0,0)):=Ar
 refine Fe func54 rfl ntmps54 rfl fun a S=>?_
 unfold Xm at h
 replace S:=S.k2 0 1 rfl
 refine Fr (Mx S (S.tm rfl) (cs:=[sV Br]) rfl rfl ?_);clear S;intro a w1 b1 hz1 hk1 S
 refine Hu S zeroValue43 (cs:=[sV An,iV 0,iV 0,iV 0,iV 0,iV 0,iV 0,iV 0]) rfl rfl ?_;clear S;intro a w2 b2 hz2 hk2 S
 refine Vk S rfl rfl fun a S=>Dz (Vm S rfl rfl fun a S=>Vu S Lz rfl rfl fun a S=>Vf DC S rfl rfl fun a S=>Vf Xc S rfl rfl fun a S=>lv S (Ic isAgg26 (off:=0) (o:=0) (S.tm rfl) ((Ti Ar).at S.emb0) rfl) rfl fun a S=>lv S (Wk (us:=#[]) (xs:=[].toArray) (ys:=[.tmp 3].toArray) (by simp) (evA ⟨(S.tm rfl),trivial⟩ (vs:=[.pointer (some ⟨b1,0,none⟩)]))) rfl ?_);clear S;intro a S
 refine Ei S (fun _=>Ea (vs:=[u1.val,.func (.func 101) #[] #[.pointer (some ⟨b1,0,none⟩)]]) ⟨(S.tm rfl),(S.tm rfl),trivial⟩ call100) (Vc _ u1.val Af.Races (hs1.mono (S.le_arg Er)) b1 Br (S.blk_view (i:=1) rfl ((Ie (e':=.blk b1 [sV Br] 9)) _ rfl)) _ rfl) rfl ?_;clear S;intro v1 a w3 hv1 hk3 hn1 S
 subst hv1
 refine Va S rfl rfl fun a S=>Dl (Fs (Fr (Vm S rfl rfl fun a S=>Vq S Ev rfl rfl rfl fun a S=>Ld ?_)))
 replace S:=(S.nl [.blk b2 (Em.enc (Em.mk An 0 0 0 0 0 0 0)) 43,.blk b1 [sV Br] 9] [true,true] rfl).k5 0 3 4 6 15 rfl
 refine Tn (Fc h (S.tm rfl) (fun hb1 h=>?_) (fun hb1 h=>?_))
 ·refine Fr (lv S (Nl TK (pv:=[]) trivial (cs:=[sV An,iV 0,iV 0,iV 0,iV 0,iV 0,iV 0,iV 0]) (by kernel_rfl)) rfl fun a S=>Fj S (S.tm rfl) (S.tm rfl) (i:=0) (off:=0) rfl sizeOf43 (vs:=(Em.enc (Em.mk An 0 0 0 0 0 0 0))) rfl rfl rfl rfl ?_);clear S;intro w4 hk4 S
  refine Vk S rfl rfl fun a S=>Dl (wp_ret (Ec ?_))
  obtain rfl:=Option.some.inj h
  exact Yp S (rs:=[.cell 4 43,.tmp 5]) (vs:=[.agg (Em.enc (Em.mk An 0 0 0 0 0 0 0)).toArray,iV 8]) results54 ⟨(Tu (off:=0) S rfl isAgg43 sizeOf43 rfl (S.cellsAt (i:=0) rfl)),(BG S rfl),trivial⟩ rfl rfl
 ·refine wp_skip (Tn (Fs (Fr (Vm S rfl rfl fun a S=>Vl isAgg9 1 S rfl rfl rfl rfl ?_))));clear S;intro a S
  obtain ⟨r1,hr1,h⟩:=Fd h
  have hz3:=S.keep.size
  refine Ei S (fun _=>Ea (vs:=[.pointer (some ⟨U,0,none⟩),sV Br]) ⟨(S.tm rfl),(S.tm rfl),trivial⟩ call63) (Xr _ U Af (R32.mk u1 (R28.mk u3 Af.Table.Relay Af.Table.Most) Af.Final) ⟨u1,(R28.mk u3 Af.Table.Relay Af.Table.Most),rfl,(hs1.mono (S.le_arg Er)),⟨u3,rfl,(hs2.mono (S.le_arg Er))⟩⟩ Ap Ak (Bc.mono (S.le_arg Er)) ((S.le_arg Er) _ _ Ar) Br _ hr1) rfl ?_;clear S;intro v2 a w5 hv2 hk5 hn2 S
  obtain ⟨φ1,hl1,hm1,S⟩:=S.see' hn2 hz3
  have hs3:=hv2.mono hm1
  refine lv S (Fq La (S.tm rfl) (Fm (Hg Dx.enc_ok hs3))) rfl fun a S=>Vq S Jj rfl rfl rfl fun a S=>Dl (Fc h (S.tm rfl) (fun hb2 h=>?_) (fun hb2 h=>?_))
  ·refine Fr (lv S (Nl TK (pv:=[]) trivial (cs:=[sV An,iV 0,iV 0,iV 0,iV 0,iV 0,iV 0,iV 0]) (by kernel_rfl)) rfl fun a S=>Fj S (S.tm rfl) (S.tm rfl) (i:=0) (off:=0) rfl sizeOf43 (vs:=(Em.enc (Em.mk An 0 0 0 0 0 0 0))) rfl rfl rfl rfl ?_);clear S;intro w6 hk6 S
   refine Vk S rfl rfl fun a S=>Dl (wp_ret (Ec ?_))
   obtain rfl:=Option.some.inj h
   exact Yp S (rs:=[.cell 4 43,.tmp 5]) (vs:=[.agg (Em.enc (Em.mk An 0 0 0 0 0 0 0)).toArray,iV 2]) results54 ⟨(Tu (off:=0) S rfl isAgg43 sizeOf43 rfl (S.cellsAt (i:=0) rfl)),(BG S rfl),trivial⟩ rfl rfl
  ·refine wp_skip (Tn (Fr (Vm S rfl rfl fun a S=>Vu S Lz rfl rfl fun a S=>Vf DC S rfl rfl fun a S=>Vf Xc S rfl rfl fun a S=>lv S (Ic isAgg26 (off:=0) (o:=0) (S.tm rfl) ((Ti Ar).at S.emb0) rfl) rfl fun a S=>Vm S rfl rfl ?_)));clear S;intro a S
   obtain ⟨hc1,h⟩:=Ij h
   obtain ⟨b3,o1,hm2,hr2⟩:=Fh (a:=a) (x:=.tmp 27) (y:=.tmp 28) (ty:=0) Th hs1 (Eh hc1).1 (Eh hc1).2 (S.tm rfl) (S.tm rfl)
   refine lv S (hr2 _) rfl ?_;clear S;intro a S
   clear hr2
   refine lv S (Fk isAgg43 sizeOf43 (off:=o1) (o:=0) (part:=(Em.enc (nth Af.Races (Hb Af.Races Br)))) rfl rfl (S.tm rfl) (hm2.at S.emb0)) rfl fun a S=>Fj S (S.tm rfl) (S.tm rfl) (i:=0) (off:=0) rfl sizeOf43 (vs:=(Em.enc (nth Af.Races (Hb Af.Races Br)))) rfl rfl rfl rfl ?_;clear S;intro w7 hk7 S
   refine Vk S rfl rfl fun a S=>Ld ?_
   replace S:=(S.nl [.blk b2 (Em.enc (nth Af.Races (Hb Af.Races Br))) 43] [true,false] rfl).k2 4 5 rfl
   refine Tn (wp_ret ?_)
   obtain rfl:=Option.some.inj h
   exact Yp S (rs:=[.cell 4 43,.tmp 5]) (vs:=[.agg (Em.enc (nth Af.Races (Hb Af.Races Br))).toArray,iV 0]) results54 ⟨(Tu (off:=0) S rfl isAgg43 sizeOf43 rfl (S.cellsAt (i:=0) rfl)),(BG S rfl),trivial⟩ rfl rfl
set_option maxRecDepth 20000 in
theorem PV (w : World) (ψ : View) (hψ : View.le ψ (view w [])) (Ad : Kq) (Ca : R32) (Cl : Tp ψ Ad Ca) (Ab : Value) (Ae : List Dx) (Ag : Slc ψ 11 Ab (Ae.map Dx.enc)) (Au : ByteArray) (Bf : Int) (r : (Option Lc) × Em × Int) (h : CV Ad Ae Au Bf = some r) :
    Calls prog 27 [.agg (R32.enc Ca).toArray,Ab,sV Au,iV Bf].toArray w (Ret w [] fun τ v _=>∃ u1 : Value,v = .tuple #[u1,.agg (Em.enc r.2.1).toArray,iV r.2.2] ∧ CR (join ψ τ) 134 GJ.enc BO u1 r.1):=by
 obtain ⟨u1,u2,rfl,hs1,⟨u3,rfl,hs2⟩⟩:=Cl
 refine Fe func27 rfl ntmps27 rfl fun a S=>?_
 unfold CV at h
 replace S:=S.k4 0 1 2 3 rfl
 refine Fr (Mx S (S.tm rfl) (cs:=[u1.val,u3.val,iV Ad.Table.Relay,iV Ad.Table.Most,iV Ad.Final.Size,iV Ad.Final.Many,iV Ad.Final.Reserves]) rfl rfl ?_);clear S;intro a w1 b1 hz1 hk1 S
 refine Vk S rfl rfl fun a S=>Hu S zeroValue43 (cs:=[sV An,iV 0,iV 0,iV 0,iV 0,iV 0,iV 0,iV 0]) rfl rfl ?_;clear S;intro a w2 b2 hz2 hk2 S
 refine Vk S rfl rfl fun a S=>Dz (lv S (Fk isAgg32 sizeOf32 (off:=0) (o:=0) (part:=[u1.val,u3.val,iV Ad.Table.Relay,iV Ad.Table.Most,iV Ad.Final.Size,iV Ad.Final.Many,iV Ad.Final.Reserves]) rfl rfl (S.tm rfl) (S.cellsAt (i:=1) rfl)) rfl fun a S=>Vm S rfl rfl fun a S=>Vm S rfl rfl fun a S=>Ff S underlying22 sizeOf3 zeroValue3 rfl rfl (pv:=[(0,iV Bf)]) ⟨rfl,(S.tm rfl),trivial⟩ (cs:=[iV Bf]) (by kernel_rfl) rfl ?_);clear S;intro a w3 b3 hz3 hk3 S
 replace S:=S.litOwn (i:=0) (xs:=[Bf]) rfl Jb rfl rfl rfl
 replace S:=S.nk [.own (.slice (some ⟨b3,0,none⟩) 1 1) 3 1 ([Bf] : List Int).length (([Bf] : List Int).flatMap eInt),.blk b2 (Em.enc (Em.mk An 0 0 0 0 0 0 0)) 43,.blk b1 [u1.val,u3.val,iV Ad.Table.Relay,iV Ad.Table.Most,iV Ad.Final.Size,iV Ad.Final.Many,iV Ad.Final.Reserves] 32] [(0,.agg #[u1.val,u3.val,iV Ad.Table.Relay,iV Ad.Table.Most,iV Ad.Final.Size,iV Ad.Final.Many,iV Ad.Final.Reserves]),(1,Ab),(2,sV Au),(3,iV Bf),(4,.pointer (some ⟨b1,0,none⟩)),(8,.pointer none),(9,.pointer (some ⟨b2,0,none⟩)),(10,iV 0),(15,.agg #[u1.val,u3.val,iV Ad.Table.Relay,iV Ad.Table.Most,iV Ad.Final.Size,iV Ad.Final.Many,iV Ad.Final.Reserves]),(16,Ab),(17,iV Bf),(18,(.slice (some ⟨b3,0,none⟩) 1 1))] [] rfl (subR rfl)
 obtain ⟨φ1,hl1,hs3,S⟩:=S.freezeT (xs:=([Bf] : List Int)) (enc:=eInt) (i:=0) rfl (fun _ h=>by cases h)
 replace S:=S.nk [.blk b2 (Em.enc (Em.mk An 0 0 0 0 0 0 0)) 43,.blk b1 [u1.val,u3.val,iV Ad.Table.Relay,iV Ad.Table.Most,iV Ad.Final.Size,iV Ad.Final.Many,iV Ad.Final.Reserves] 32] [(0,.agg #[u1.val,u3.val,iV Ad.Table.Relay,iV Ad.Table.Most,iV Ad.Final.Size,iV Ad.Final.Many,iV Ad.Final.Reserves]),(1,Ab),(2,sV Au),(3,iV Bf),(4,.pointer (some ⟨b1,0,none⟩)),(8,.pointer none),(9,.pointer (some ⟨b2,0,none⟩)),(10,iV 0),(15,.agg #[u1.val,u3.val,iV Ad.Table.Relay,iV Ad.Table.Most,iV Ad.Final.Size,iV Ad.Final.Many,iV Ad.Final.Reserves]),(16,Ab),(17,iV Bf),(18,(.slice (some ⟨b3,0,none⟩) 1 1))] [] rfl (subR rfl)
 obtain ⟨r1,hr1,h⟩:=Fd h
 have hz4:=S.keep.size
 refine Ei S (fun _=>Ea (vs:=[.agg (R32.enc (R32.mk u1 (R28.mk u3 Ad.Table.Relay Ad.Table.Most) Ad.Final)).toArray,Ab,(.slice (some ⟨b3,0,none⟩) 1 1)]) ⟨(S.tm rfl),(S.tm rfl),(S.tm rfl),trivial⟩ call29) (GV _ (join ψ φ1) (Py (View.le_trans hψ (S.le_arg Er)) (S.le_new Er)) Ad (R32.mk u1 (R28.mk u3 Ad.Table.Relay Ad.Table.Most) Ad.Final) ⟨u1,(R28.mk u3 Ad.Table.Relay Ad.Table.Most),rfl,(hs1.mono (le_join_left _ _)),⟨u3,rfl,(hs2.mono (le_join_left _ _))⟩⟩ Ab Ae (Ag.mono (le_join_left _ _)) (.slice (some ⟨b3,0,none⟩) 1 1) ([Bf] : List Int) ((Hg Jb hs3).mono (S.all_right hψ)) _ hr1) rfl ?_;clear S;intro v1 a w4 hv1 hk4 hn1 S
 obtain ⟨u4,rfl,ho1⟩:=hv1
 obtain ⟨φ2,hl2,hm1,S⟩:=S.see' hn1 hz4
 have hq1:=CR.mono (Sh (Tv hl2 hm1)) (Tv hl2 hm1) ho1
 refine Vm S rfl rfl fun a S=>Vq S Fy rfl rfl rfl fun a S=>Vq S Fy rfl rfl rfl fun a S=>Va S rfl rfl fun a S=>Va S rfl rfl fun a S=>Ld ?_
 replace S:=(S.nl [.blk b2 (Em.enc (Em.mk An 0 0 0 0 0 0 0)) 43] [true,false] rfl).k4 2 9 11 12 rfl
 refine Tn (Fs (Fr (Vm S rfl rfl fun a S=>Vq S Lf rfl rfl rfl fun a S=>Dl (Fc h (S.tm rfl) (fun hb1 h=>?_) (fun hb1 h=>?_)))))
 ·refine Fr (lv S (Nl TK (pv:=[]) trivial (cs:=[sV An,iV 0,iV 0,iV 0,iV 0,iV 0,iV 0,iV 0]) (by kernel_rfl)) rfl fun a S=>Vm S rfl rfl fun a S=>Vk S rfl rfl fun a S=>Fj S (S.tm rfl) (S.tm rfl) (i:=0) (off:=0) rfl sizeOf43 (vs:=(Em.enc (Em.mk An 0 0 0 0 0 0 0))) rfl rfl rfl rfl ?_);clear S;intro w5 hk5 S
  refine Va S rfl rfl fun a S=>Dl (wp_ret (Ec ?_))
  obtain rfl:=Option.some.inj h
  exact Yp S (rs:=[.tmp 8,.cell 9 43,.tmp 10]) (vs:=[.pointer none,.agg (Em.enc (Em.mk An 0 0 0 0 0 0 0)).toArray,iV r1.2]) results27 ⟨(BG S rfl),(Tu (off:=0) S rfl isAgg43 sizeOf43 rfl (S.cellsAt (i:=0) rfl)),(BG S rfl),trivial⟩ rfl ⟨_,rfl,rfl⟩
 ·refine wp_skip (Tn (Fr (Vm S rfl rfl fun a S=>Vm S rfl rfl ?_)));clear S;intro a S
  obtain ⟨r2,hr2,h⟩:=Fd h
  obtain ⟨b4,q1,rfl,hq2,hb2⟩:=hq1.deref hr2
  obtain ⟨u5,u9,rfl,⟨u6,u7,rfl,hs4,⟨u8,rfl,hs5⟩⟩,hs6⟩:=hq2
  replace hb2 : (join ψ φ2) b4 = some (.cells [u6.val,u8.val,iV r2.p_.Table.Relay,iV r2.p_.Table.Most,iV r2.p_.Final.Size,iV r2.p_.Final.Many,iV r2.p_.Final.Reserves,u9.val].toArray 134 (0,0)):=hb2
  obtain ⟨r3,hr3,h⟩:=Fd h
  refine Ei S (fun _=>Ea (vs:=[.pointer (some ⟨b4,0,none⟩),sV Au]) ⟨(S.tm rfl),(S.tm rfl),trivial⟩ call54) (FD _ b4 r2.p_ (R32.mk u6 (R28.mk u8 r2.p_.Table.Relay r2.p_.Table.Most) r2.p_.Final) ⟨u6,(R28.mk u8 r2.p_.Table.Relay r2.p_.Table.Most),rfl,(hs4.mono (Py (View.le_trans hψ (S.le_arg Er)) (S.le_new Er))),⟨u8,rfl,(hs5.mono (Py (View.le_trans hψ (S.le_arg Er)) (S.le_new Er)))⟩⟩ u9.val r2.deeds_ (hs6.mono (Py (View.le_trans hψ (S.le_arg Er)) (S.le_new Er))) ((Py (View.le_trans hψ (S.le_arg Er)) (S.le_new Er)) _ _ hb2) Au _ hr3) rfl ?_;clear S;intro v2 a w6 hv2 hk6 hn2 S
  subst hv2
  refine Vm S rfl rfl fun a S=>Vq S Fy rfl rfl rfl fun a S=>Vq S Fy rfl rfl rfl fun a S=>Hu S zeroValue43 (cs:=[sV An,iV 0,iV 0,iV 0,iV 0,iV 0,iV 0,iV 0]) rfl rfl ?_;clear S;intro a w7 b5 hz5 hk7 S
  refine Fj S (S.tm rfl) (S.tm rfl) (i:=0) (off:=0) rfl sizeOf43 (vs:=(Em.enc r3.1)) rfl rfl rfl rfl ?_;clear S;intro w8 hk8 S
  refine Va S rfl rfl fun a S=>Dl (Fs (Hd [] ([b2]) Tryz.mixed S rfl (by kernel_rfl) ?_));clear S;intro w10 hk10 hsel S
  refine Ek 0 S hsel rfl rfl rfl (by kernel_rfl) (by kernel_rfl) rfl (fun _ hw=>(Rm (S.tm rfl))) fun a S=>Ek 1 S hsel rfl rfl rfl (by kernel_rfl) (by kernel_rfl) rfl (fun _ hw=>(Fk isAgg43 sizeOf43 (off:=0) (o:=0) (part:=(Em.enc r3.1)) rfl rfl (S.tm rfl) ((S.blk_mem (i:=0) (cells:=(Em.enc r3.1)) (b:=b5) (T:=43) rfl (My (i:=1) (j:=0) (e:=.blk b2 (Em.enc (Em.mk An 0 0 0 0 0 0 0)) 43) (e':=.blk b5 (Em.enc r3.1) 43) S rfl rfl rfl)).kept hw))) fun a S=>Ek 2 S hsel rfl rfl rfl (by kernel_rfl) (by kernel_rfl) rfl (fun _ hw=>(Rm (S.tm rfl))) fun a S=>Ek 3 S hsel rfl rfl rfl (by kernel_rfl) (by kernel_rfl) rfl (fun _ hw=>(Ra (S.tm rfl))) fun a S=>Hi 4 (by kernel_rfl) rfl (Fj S (S.tm rfl) (S.tm rfl) (i:=1) (off:=0) rfl sizeOf43 (vs:=(Em.enc r3.1)) rfl rfl rfl rfl ?_);clear S;intro w11 hk11 S
  refine Ld (Ik hk11 (Lg [5] hsel (by kernel_rfl) rfl ?_))
  clear hsel
  refine Gp S rfl (Ra (S.tm rfl)) rfl fun a S=>It ?_
  replace S:=(S.nl [.blk b2 (Em.enc r3.1) 43] [false,true] rfl).k3 8 9 10 rfl
  refine Tn (wp_ret ?_)
  obtain rfl:=Option.some.inj h
  exact Yp S (rs:=[.tmp 8,.cell 9 43,.tmp 10]) (vs:=[.pointer (some ⟨b4,0,none⟩),.agg (Em.enc r3.1).toArray,iV r3.2]) results27 ⟨(BG S rfl),(Tu (off:=0) S rfl isAgg43 sizeOf43 rfl (S.cellsAt (i:=0) rfl)),(BG S rfl),trivial⟩ rfl ⟨_,rfl,(CR.mk (GJ.mk (R32.mk u6 (R28.mk u8 r2.p_.Table.Relay r2.p_.Table.Most) r2.p_.Final) u9) (Sh (Zv hψ S.le_newer) _ _ ⟨(R32.mk u6 (R28.mk u8 r2.p_.Table.Relay r2.p_.Table.Most) r2.p_.Final),u9,rfl,⟨u6,(R28.mk u8 r2.p_.Table.Relay r2.p_.Table.Most),rfl,hs4,⟨u8,rfl,hs5⟩⟩,hs6⟩) ((Zv hψ S.le_newer) _ _ hb2))⟩
theorem LM (w : World) (U : Nat) (Af : Kq) (Bl : R32) (Bv : Tp (view w []) Af Bl) (Ap : Value) (Ak : List Dx) (Bc : Slc (view w []) 11 Ap (Ak.map Dx.enc)) (Ar : (view w []) U = some (.cells (R32.enc Bl ++ [Ap]).toArray 134 (0,0))) (Au : ByteArray) (r : (List (ByteArray × Dx))) (h : Ii Af Ak Au = r) :
    Calls prog 102 [.pointer (some ⟨U,0,none⟩),sV Au].toArray w (Ret w [] fun τ v _=>∃ b : Nat,v = .map (some b) ∧ τ b = some (.map (Ft Value.string (fun x=>Value.agg (Dx.enc x).toArray) r) r.length)):=by
 obtain ⟨u1,u2,rfl,hs1,⟨u3,rfl,hs2⟩⟩:=Bv
 replace Ar : (view w []) U = some (.cells [u1.val,u3.val,iV Af.Table.Relay,iV Af.Table.Most,iV Af.Final.Size,iV Af.Final.Many,iV Af.Final.Reserves,Ap].toArray 134 (0,0)):=Ar
 refine Fe func102 rfl ntmps102 rfl fun a S=>?_
 unfold Ii at h
 replace S:=S.k2 0 1 rfl
 refine Fr (Vk S rfl rfl fun a S=>Dz (Rc (κ:=ByteArray) (ν:=Dx) S rfl Value.string (fun x=>Value.agg (Dx.enc x).toArray) ?_));clear S;intro a w1 b1 hz1 hk1 S
 refine Va S rfl rfl fun a S=>Dl (Fs (Fr (Vm S rfl rfl fun a S=>Vu S Lz rfl rfl fun a S=>Vf GQ S rfl rfl fun a S=>lv S (Ic isAgg34 (off:=0) (o:=7) (S.tm rfl) ((Ti Ar).at S.emb0) rfl) rfl fun a S=>lv S (Fq La (S.tm rfl) (Fm Bc)) rfl ?_)));clear S;intro a S
 refine lv S (Rm rfl) rfl fun a S=>Dl ?_
 replace S:=(S.nl [.map b1 (Ft Value.string (fun x=>Value.agg (Dx.enc x).toArray) ([] : List (ByteArray × Dx))) ([] : List (ByteArray × Dx)).length] [true] rfl).k5 1 5 12 13 14 rfl
 obtain ⟨j1,hj1,h⟩:=Ey h
 refine Es (fun a w'=>∃ x1 : List (ByteArray × Dx),j1 x1 = r ∧ Sx w [] nov [.map b1 (Ft Value.string (fun x=>Value.agg (Dx.enc x).toArray) x1) x1.length] [(5,.map (some b1))] 33 a w') ?_ ?_
 ·refine wp_block (Gz (fun (ys1 : List Dx) a w'=>∃ i1 : Nat,∃ x1 : List (ByteArray × Dx),(∃ dn,Ak = dn ++ ys1 ∧ dn.length = i1) ∧ Pl Au j1 ys1 i1 x1 = r ∧ Sx w [] nov [.map b1 (Ft Value.string (fun x=>Value.agg (Dx.enc x).toArray) x1) x1.length] [(1,sV Au),(5,.map (some b1)),(12,Ap),(13,iV (Ak.length : Int)),(14,iV (i1 : Int))] 33 a w') List.length Ak ⟨0,([] : List (ByteArray × Dx)),⟨[],rfl,rfl⟩,h,S.nf [true] rfl (subR rfl)⟩ ?_)
  clear S h;rintro ys1 a w2 ⟨i1,x1,⟨dn,hd1,hi1⟩,h,S⟩
  cases ys1 with
  | nil =>
   rw [Pl.eq_1] at h
   refine Fr (Vb S Ev rfl rfl rfl fun a S=>Ld ?_)
   replace S:=S.k6 1 5 12 13 14 15 rfl
   exact Tn (Fs (wp_cond_false ((S.tm rfl).trans (congrArg Value.bool (Im hd1 hi1))) (wp_exit (Ep (Ep (Gr (Tn (⟨x1,h,S.nf [true] rfl ⟨rfl,trivial⟩⟩))))))))
  | cons y1 ys1 =>
   rw [Pl.eq_2] at h
   refine Fr (Vb S Ev rfl rfl rfl fun a S=>Ld ?_)
   replace S:=S.k6 1 5 12 13 14 15 rfl
   refine Tn (Fs (wp_cond_true ((S.tm rfl).trans (congrArg Value.bool (Hr hd1 hi1))) (wp_skip (Tn (Fs ?_)))))
   obtain ⟨j2,hj2,h⟩:=Ey h
   refine Es (fun a w'=>∃ x2 : List (ByteArray × Dx),j2 x2 = r ∧ Sx w [] nov [.map b1 (Ft Value.string (fun x=>Value.agg (Dx.enc x).toArray) x2) x2.length] [(1,sV Au),(5,.map (some b1)),(12,Ap),(13,iV (Ak.length : Int)),(14,iV (i1 : Int))] 33 a w') ?_ ?_
   ·refine wp_block (Fs (Fg ?_))
    obtain ⟨b2,o1,hm1,hr1⟩:=Fh (a:=a) (x:=.tmp 12) (y:=.tmp 14) (ty:=0) La Bc (Iv hd1 hi1) rfl (S.tm rfl) (S.tm rfl)
    refine lv S (hr1 _) rfl ?_;clear S;intro a S
    clear hr1
    refine lv S (Fk isAgg41 sizeOf41 (off:=o1) (o:=0) (part:=(Dx.enc y1)) rfl rfl (S.tm rfl) (hm1.at S.emb0)) rfl fun a S=>Hu S zeroValue41 (cs:=[sV An,iV 0,iV 0,iV 0,sV An,sV An,sV An,iV 0,iV 0,sV An,iV 0]) rfl rfl ?_;clear S;intro a w5 b3 hz2 hk2 S
    refine Fj S (S.tm rfl) (S.tm rfl) (i:=0) (off:=0) rfl sizeOf41 (vs:=(Dx.enc y1)) rfl rfl rfl rfl ?_;clear S;intro w6 hk3 S
    refine Dz (Vf Un S rfl rfl fun a S=>Vl isAgg9 0 S rfl rfl rfl rfl fun a S=>Vm S rfl rfl fun a S=>Vb S Xw rfl rfl rfl fun a S=>Vm S rfl rfl fun a S=>Ib 4 (fun a w'=>Keep [] w6 w' ∧ Sx w [] nov [.blk b3 (Dx.enc y1) 41,.map b1 (Ft Value.string (fun x=>Value.agg (Dx.enc x).toArray) x1) x1.length] [(1,sV Au),(5,.map (some b1)),(7,.pointer (some ⟨b3,0,none⟩)),(12,Ap),(13,iV (Ak.length : Int)),(14,iV (i1 : Int)),(26,bV ((decide (y1.Race = Au)) && (decide (y1.Kind = 3))))] 33 a w') ?_ ?_)
    ·rcases Bool.eq_false_or_eq_true (decide (y1.Race = Au)) with hb1 | hb1
     ·exact Ef S rfl rfl rfl hb1 (Vf Qu S rfl rfl fun a S=>Ef S rfl rfl rfl hb1 (Vl isAgg3 0 S rfl rfl rfl rfl fun a S=>Ef S rfl rfl rfl hb1 (Vq S Jh rfl rfl rfl fun a S=>lv S (Hz hb1 (S.tm rfl) (S.tm rfl)) rfl fun a S=>Dl (⟨Keep.refl _ _,S.nf [true,true] rfl (subR rfl)⟩))))
     ·iterate 3 (refine Hh S rfl rfl rfl (Jw hb1) rfl ?_ rfl;clear S;intro a S)
      exact lv S (Ia (decide (y1.Kind = 3)) hb1 (S.tm rfl) rfl) rfl fun a S=>Dl (⟨Keep.refl _ _,S.nf [true,true] rfl (subR rfl)⟩)
    clear S;rintro a w7 ⟨hk4,S⟩
    refine Dl ?_
    obtain ⟨j3,hj3,h⟩:=Ey h
    refine Es (fun a w'=>∃ x3 : List (ByteArray × Dx),j3 x3 = r ∧ Sx w [] nov [.blk b3 (Dx.enc y1) 41,.map b1 (Ft Value.string (fun x=>Value.agg (Dx.enc x).toArray) x3) x3.length] [(1,sV Au),(5,.map (some b1)),(12,Ap),(13,iV (Ak.length : Int)),(14,iV (i1 : Int))] 33 a w') ?_ ?_
    ·refine Fc h (S.tm rfl) (fun hb2 h=>?_) (fun hb2 h=>?_)
     ·refine Fg (Vm S rfl rfl fun a S=>Vf Qc S rfl rfl fun a S=>Vl isAgg9 0 S rfl rfl rfl rfl fun a S=>lv S (Fk isAgg41 sizeOf41 (off:=0) (o:=0) (part:=(Dx.enc y1)) rfl rfl (S.tm rfl) (S.cellsAt (i:=0) rfl)) rfl fun a S=>Oi (kv:=Value.string) (vv:=(fun x=>Value.agg (Dx.enc x).toArray)) (m:=x1) (key:=y1.Who) (val:=y1) S (i:=1) rfl underlying172 (Mq underlying9) (S.tm rfl) (S.tm rfl) (S.tm rfl) ?_);clear S;intro w9 hk5 S
      exact Dl (⟨(Gw x1 y1.Who y1),h,S.nf [true,true] rfl (subR rfl)⟩)
     ·exact wp_skip (Tn (⟨x1,h,S.nf [true,true] rfl (subR rfl)⟩))
    clear S h;rintro a w8 ⟨x3,h,S⟩;rw [hj3] at h;clear hj3 j3
    exact Hn (Tn (⟨x3,h,S.nf [false,true] rfl (subR rfl)⟩))
   clear S h;rintro a w4 ⟨x2,h,S⟩;rw [hj2] at h;clear hj2 j2
   exact Tn (Fg (Vq S Gf rfl rfl rfl fun a S=>Vm S rfl rfl fun a S=>Dl (⟨ys1,⟨i1 + 1,x2,⟨_,(hd1).trans (List.append_cons _ _ _),by simp [hi1]⟩,h,S.nf [true] rfl ⟨rfl,rfl,rfl,rfl,(congrArg (fun z=>some (Value.int .i64 z)) (Hs hd1 hi1 (Jg Bc))),trivial⟩⟩,Nat.lt_succ_self _⟩)))
 clear S h;rintro a w3 ⟨x1,h,S⟩;rw [hj1] at h;clear hj1 j1
 refine Tn (Fr (Vm S rfl rfl fun a S=>Va S rfl rfl fun a S=>Dl (wp_ret ?_)))
 subst h
 exact Eu S results102 rfl ⟨_,rfl,S.map_ret (i:=0) rfl rfl⟩
theorem FQ (w : World) (Ab : Value) (Ae : List Kg) (Ag : Slc (view w []) 2 Ab (Ae.map Kg.enc)) (r : Int) (h : Ty Ae = some r) :
    Calls prog 161 [Ab].toArray w (Ret w [] fun _ v _=>v = iV r):=by
 refine Fe func161 rfl ntmps161 rfl fun a S=>?_
 unfold Ty at h
 replace S:=S.k1 0 rfl
 refine Fr (Vk S rfl rfl fun a S=>Dl (Fs (Fr (Vm S rfl rfl fun a S=>lv S (Fq HV (S.tm rfl) (Fm Ag)) rfl fun a S=>Vq S Jj rfl rfl rfl ?_))));clear S;intro a S
 refine Dl (Fc h (S.tm rfl) (fun hb1 h=>?_) (fun hb1 h=>?_))
 ·refine Fr (Vk S rfl rfl fun a S=>Dl (wp_ret (Ec ?_)))
  obtain rfl:=Option.some.inj h
  exact Eu S results161 rfl rfl
 ·refine wp_skip (Tn (Fr (Rc (κ:=ByteArray) (ν:=Bool) S rfl Value.string Value.bool ?_)));clear S;intro a w1 b1 hz1 hk1 S
  refine Va S rfl rfl fun a S=>Dz (Vk S rfl rfl fun a S=>Dl (Fs (Fs (Fg ?_))))
  refine Vm S rfl rfl fun a S=>lv S (Fq HV (S.tm rfl) (Fm Ag)) rfl fun a S=>lv S (Rm rfl) rfl fun a S=>Dl ?_
  replace S:=(S.nl [.map b1 (Ft Value.string Value.bool ([] : List (ByteArray × Bool))) ([] : List (ByteArray × Bool)).length] [true] rfl).k5 3 4 11 12 13 rfl
  obtain ⟨j1,hj1,h⟩:=Ey h
  refine Es (fun a w'=>∃ x1 : List (ByteArray × Bool),∃ x2 : Bool,j1 x1 x2 = some r ∧ Sx w [] nov [.map b1 (Ft Value.string Value.bool x1) x1.length] [(4,bV x2)] 37 a w') ?_ ?_
  ·refine wp_block (Gz (fun (ys1 : List Kg) a w'=>∃ i1 : Nat,∃ x1 : List (ByteArray × Bool),∃ x2 : Bool,(∃ dn,Ae = dn ++ ys1 ∧ dn.length = i1) ∧ Lw j1 ys1 i1 x1 x2 = some r ∧ Sx w [] nov [.map b1 (Ft Value.string Value.bool x1) x1.length] [(3,.map (some b1)),(4,bV x2),(11,Ab),(12,iV (Ae.length : Int)),(13,iV (i1 : Int))] 37 a w') List.length Ae ⟨0,([] : List (ByteArray × Bool)),false,⟨[],rfl,rfl⟩,h,S.nf [true] rfl (subR rfl)⟩ ?_)
   clear S h;rintro ys1 a w2 ⟨i1,x1,x2,⟨dn,hd1,hi1⟩,h,S⟩
   cases ys1 with
   | nil =>
    rw [Lw.eq_1] at h
    refine Fr (Vb S Ev rfl rfl rfl fun a S=>Ld ?_)
    replace S:=S.k6 3 4 11 12 13 14 rfl
    exact Tn (Fs (wp_cond_false ((S.tm rfl).trans (congrArg Value.bool (Im hd1 hi1))) (wp_exit (Ep (Ep (Gr (Tn (⟨x1,x2,h,S.nf [true] rfl ⟨rfl,trivial⟩⟩))))))))
   | cons y1 ys1 =>
    rw [Lw.eq_2] at h
    refine Fr (Vb S Ev rfl rfl rfl fun a S=>Ld ?_)
    replace S:=S.k6 3 4 11 12 13 14 rfl
    refine Tn (Fs (wp_cond_true ((S.tm rfl).trans (congrArg Value.bool (Hr hd1 hi1))) (wp_skip (Tn (Fs (wp_block (Fs (Fg ?_))))))))
    obtain ⟨b2,o1,hm1,hr1⟩:=Fh (a:=a) (x:=.tmp 11) (y:=.tmp 13) (ty:=0) HV Ag (Iv hd1 hi1) rfl (S.tm rfl) (S.tm rfl)
    refine lv S (hr1 _) rfl ?_;clear S;intro a S
    clear hr1
    refine lv S (Fk isAgg177 sizeOf177 (off:=o1) (o:=0) (part:=(Kg.enc y1)) rfl rfl (S.tm rfl) (hm1.at S.emb0)) rfl fun a S=>Hu S zeroValue177 (cs:=[sV An,iV 0]) rfl rfl ?_;clear S;intro a w4 b3 hz2 hk2 S
    refine Fj S (S.tm rfl) (S.tm rfl) (i:=0) (off:=0) rfl sizeOf177 (vs:=(Kg.enc y1)) rfl rfl rfl rfl ?_;clear S;intro w5 hk3 S
    refine Dl (Fs (Fr (Vf DD S rfl rfl fun a S=>Vl isAgg9 0 S rfl rfl rfl rfl ?_)));clear S;intro a S
    obtain ⟨r1,hr2,h⟩:=Fd h
    refine Ei S (fun _=>Ea (vs:=[sV y1.Who]) ⟨(S.tm rfl),trivial⟩ call87) (Ja _ y1.Who _ hr2) rfl ?_;clear S;intro v1 a w6 hv1 hk4 hn1 S
    subst hv1
    refine Vu S Hv rfl rfl fun a S=>Dl (Fc h (S.tm rfl) (fun hb2 h=>?_) (fun hb2 h=>?_))
    ·refine Fr (Vk S rfl rfl fun a S=>Dl (wp_ret (Ec (Ga (Ec (Ec (Ga ?_)))))))
     refine Ec (Ec ?_)
     obtain rfl:=Option.some.inj h
     exact Eu S results161 rfl rfl
    ·refine wp_skip (Tn (Fs (Fr (Vf PO S rfl rfl fun a S=>Vl isAgg3 0 S rfl rfl rfl rfl fun a S=>Ei S (fun _=>Ea (vs:=[iV y1.Time,iV 0,iV 360000]) ⟨(S.tm rfl),rfl,rfl,trivial⟩ call67) (Ge _ y1.Time 0 360000 _ rfl) rfl ?_))));clear S;intro v2 a w7 hv2 hk5 hn2 S
     subst hv2
     refine Vu S Hv rfl rfl fun a S=>Ld ?_
     replace S:=(S.nl [.blk b3 (Kg.enc y1) 177,.map b1 (Ft Value.string Value.bool x1) x1.length] [true,true] rfl).k7 3 4 6 11 12 13 24 rfl
     refine Tn (Fc h (S.tm rfl) (fun hb3 h=>?_) (fun hb3 h=>?_))
     ·refine Fr (Vk S rfl rfl fun a S=>Dl (wp_ret (Ec (Ga (Ec (Ec (Ga ?_)))))))
      refine Ec (Ec ?_)
      obtain rfl:=Option.some.inj h
      exact Eu S results161 rfl rfl
     ·refine wp_skip (Tn (Fr (Vm S rfl rfl fun a S=>Vm S rfl rfl fun a S=>Ib 5 (fun a w'=>Keep [] w7 w' ∧ Sx w [] nov [.blk b3 (Kg.enc y1) 177,.map b1 (Ft Value.string Value.bool x1) x1.length] [(3,.map (some b1)),(6,.pointer (some ⟨b3,0,none⟩)),(11,Ab),(12,iV (Ae.length : Int)),(13,iV (i1 : Int)),(31,bV (x2 || (El x1 y1.Who false)))] 37 a w') ?_ ?_)))
      ·rcases Bool.eq_false_or_eq_true x2 with hb4 | hb4
       ·iterate 4 (refine Hh S rfl rfl rfl (Nm hb4) rfl ?_ rfl;clear S;intro a S)
        exact lv S (Lj (El x1 y1.Who false) hb4 (S.tm rfl) rfl) rfl fun a S=>Dl (⟨Keep.refl _ _,S.nf [true,true] rfl (subR rfl)⟩)
       ·refine Ef S rfl rfl rfl hb4 (Vm S rfl rfl fun a S=>Ef S rfl rfl rfl hb4 (Vf DD S rfl rfl fun a S=>Ef S rfl rfl rfl hb4 (Vl isAgg9 0 S rfl rfl rfl rfl fun a S=>Ef S rfl rfl rfl hb4 (lv S (Qk (kv:=Value.string) (vv:=Value.bool) (m:=x1) (key:=y1.Who) (z:=false) (S.map_at (i:=1) rfl) underlying227 (Mq underlying9) zeroValue4 (S.tm rfl) (S.tm rfl)) rfl fun a S=>lv S (Lk hb4 (S.tm rfl) (S.tm rfl)) rfl fun a S=>Dl ?_))))
        exact ⟨Keep.refl _ _,S.nf [true,true] rfl (subR rfl)⟩
      clear S;rintro a w8 ⟨hk6,S⟩
      refine Va S rfl rfl fun a S=>Dl (Fg (Vm S rfl rfl fun a S=>Vf DD S rfl rfl fun a S=>Vl isAgg9 0 S rfl rfl rfl rfl fun a S=>Oi (kv:=Value.string) (vv:=Value.bool) (m:=x1) (key:=y1.Who) (val:=true) S (i:=1) rfl underlying227 (Mq underlying9) (S.tm rfl) (S.tm rfl) rfl ?_));clear S;intro w9 hk7 S
      exact Ld (Hn (Tn (Fg (Vq S Gf rfl rfl rfl fun a S=>Vm S rfl rfl fun a S=>Dl (⟨ys1,⟨i1 + 1,(Gw x1 y1.Who true),(x2 || (El x1 y1.Who false)),⟨_,(hd1).trans (List.append_cons _ _ _),by simp [hi1]⟩,h,S.nf [false,true] rfl ⟨rfl,rfl,rfl,rfl,(congrArg (fun z=>some (Value.int .i64 z)) (Hs hd1 hi1 (Jg Ag))),trivial⟩⟩,Nat.lt_succ_self _⟩)))))
  clear S h;rintro a w3 ⟨x1,x2,h,S⟩;rw [hj1] at h;clear hj1 j1
  refine Tn (Fs (Fr (Vm S rfl rfl fun a S=>Dl (Fc h (S.tm rfl) (fun hb5 h=>?_) (fun hb5 h=>?_)))))
  ·refine Fr (Vk S rfl rfl fun a S=>Dl (wp_ret (Ec ?_)))
   obtain rfl:=Option.some.inj h
   exact Eu S results161 rfl rfl
  ·refine wp_skip (Tn (Fr (Vk S rfl rfl fun a S=>Dl (wp_ret ?_))))
   obtain rfl:=Option.some.inj h
   exact Eu S results161 rfl rfl
set_option maxRecDepth 20000 in
theorem BS (w : World) (Cb : Value) (Cc : List Iw) (Cr : List Tz) (Cf : Slc (view w []) 3 Cb (Cr.map Tz.enc)) (Cg : Mg (Wf (view w [])) Cc Cr) (r : Int) (h : Qr Cc = some r) :
    Calls prog 162 [Cb].toArray w (Ret w [] fun _ v _=>v = iV r):=by
 refine Fe func162 rfl ntmps162 rfl fun a S=>?_
 unfold Qr at h
 replace S:=S.k1 0 rfl
 refine Fr (Vk S rfl rfl fun a S=>Dl (Fs (Fr (Vm S rfl rfl fun a S=>lv S (Fq FL (S.tm rfl) (Vv Cf Cg)) rfl fun a S=>Vq S Jj rfl rfl rfl ?_))));clear S;intro a S
 refine Dl (Fc h (S.tm rfl) (fun hb1 h=>?_) (fun hb1 h=>?_))
 ·refine Fr (Vk S rfl rfl fun a S=>Dl (wp_ret (Ec ?_)))
  obtain rfl:=Option.some.inj h
  exact Eu S results162 rfl rfl
 ·refine wp_skip (Tn (Fs (Fr (Vm S rfl rfl fun a S=>lv S (Fq FL (S.tm rfl) (Vv Cf Cg)) rfl fun a S=>lv S (Rm rfl) rfl fun a S=>Dl ?_))))
  replace S:=S.k4 0 8 9 10 rfl
  obtain ⟨j1,hj1,h⟩:=Ey h
  refine Es (fun a w'=>j1 = some r ∧ Sx w [] nov [] [] 40 a w') ?_ ?_
  ·refine wp_block (Gz (fun (ys1 : List Iw) a w'=>∃ i1 : Nat,(∃ dn,Cc = dn ++ ys1 ∧ dn.length = i1) ∧ Jm Cc j1 ys1 i1 = some r ∧ Sx w [] nov [] [(0,Cb),(8,Cb),(9,iV (Cc.length : Int)),(10,iV (i1 : Int))] 40 a w') List.length Cc ⟨0,⟨[],rfl,rfl⟩,h,S.nf [] rfl (subR rfl)⟩ ?_)
   clear S h;rintro ys1 a w1 ⟨i1,⟨dn,hd1,hi1⟩,h,S⟩
   cases ys1 with
   | nil =>
    rw [Jm.eq_1] at h
    refine Fr (Vb S Ev rfl rfl rfl fun a S=>Ld ?_)
    replace S:=S.k5 0 8 9 10 11 rfl
    exact Tn (Fs (wp_cond_false ((S.tm rfl).trans (congrArg Value.bool (Im hd1 hi1))) (wp_exit (Ep (Ep (Gr (Tn (⟨h,S.nf [] rfl trivial⟩))))))))
   | cons y1 ys1 =>
    rw [Jm.eq_2] at h
    refine Fr (Vb S Ev rfl rfl rfl fun a S=>Ld ?_)
    replace S:=S.k5 0 8 9 10 11 rfl
    refine Tn (Fs (wp_cond_true ((S.tm rfl).trans (congrArg Value.bool (Hr hd1 hi1))) (wp_skip (Tn (Fs (wp_block (Fr (Vm S rfl rfl ?_))))))));clear S;intro a S
    obtain ⟨r1,hg1,hl1⟩:=Mg.at Cg (Iv hd1 hi1)
    obtain ⟨u1,rfl,hs1⟩:=hl1
    obtain ⟨b1,o1,hm1,hr1⟩:=Fh (a:=a) (x:=.tmp 8) (y:=.tmp 10) (ty:=0) FL Cf hg1 rfl (S.tm rfl) (S.tm rfl)
    refine lv S (hr1 _) rfl ?_;clear S;intro a S
    clear hr1
    refine lv S (Fk isAgg179 sizeOf179 (off:=o1) (o:=0) (part:=[sV y1.Who,iV y1.Fault,u1.val]) rfl rfl (S.tm rfl) (hm1.at S.emb0)) rfl fun a S=>Hu S zeroValue179 (cs:=[sV An,iV 0,.slice none 0 0]) rfl rfl ?_;clear S;intro a w3 b2 hz1 hk1 S
    refine Va S rfl rfl fun a S=>Fj S (S.tm rfl) (S.tm rfl) (i:=0) (off:=0) rfl sizeOf179 (vs:=[sV y1.Who,iV y1.Fault,u1.val]) rfl rfl rfl (Qn rfl (Qn rfl (Qn (Ku.one (Fm hs1)) rfl))) ?_;clear S;intro w4 hk2 S
    refine Dl (wp_block (Fr (Vf GR S rfl rfl fun a S=>Vl isAgg9 0 S rfl rfl rfl rfl ?_)));clear S;intro a S
    obtain ⟨r2,hr2,h⟩:=Fd h
    refine Ei S (fun _=>Ea (vs:=[sV y1.Who]) ⟨(S.tm rfl),trivial⟩ call87) (Ja _ y1.Who _ hr2) rfl ?_;clear S;intro v1 a w5 hv1 hk3 hn1 S
    subst hv1
    refine Vu S Hv rfl rfl fun a S=>Va S rfl rfl fun a S=>Ld ?_
    replace S:=(S.nl [.blk b2 [sV y1.Who,iV y1.Fault,u1.val] 179] [true] rfl).k7 0 3 4 8 9 10 15 rfl
    refine Tn (Fc h (S.tm rfl) (fun hb2 h=>?_) (fun hb2 h=>?_))
    ·refine Fr (Vk S rfl rfl fun a S=>Dl (wp_ret (Ga (Ga (Ec (Ec (Ga ?_)))))))
     refine Ec (Ec ?_)
     obtain rfl:=Option.some.inj h
     exact Eu S results162 rfl rfl
    ·refine Fr (Vf PP S rfl rfl fun a S=>Vl isAgg3 0 S rfl rfl rfl rfl fun a S=>Ei S (fun _=>Ea (vs:=[iV y1.Fault,iV 0,iV 8]) ⟨(S.tm rfl),rfl,rfl,trivial⟩ call67) (Ge _ y1.Fault 0 8 _ rfl) rfl ?_);clear S;intro v2 a w6 hv2 hk4 hn2 S
     subst hv2
     refine Vu S Hv rfl rfl fun a S=>Va S rfl rfl fun a S=>Dl (Fc h (S.tm rfl) (fun hb3 h=>?_) (fun hb3 h=>?_))
     ·refine Fr (Vk S rfl rfl fun a S=>Dl (wp_ret (Ga (Ga (Ec (Ec (Ga ?_)))))))
      refine Ec (Ec ?_)
      obtain rfl:=Option.some.inj h
      exact Eu S results162 rfl rfl
     ·refine Fs (Hd [] ([]) Tryz.mixed S rfl (by kernel_rfl) ?_);clear S;intro w7 hk5 hsel S
      refine Lg [0,1,2,3,4,5,6,7,8,9,10,11,12,13] hsel (by kernel_rfl) rfl ?_
      clear hsel
      refine Gp S rfl (Rm (S.tm rfl)) rfl fun a S=>Gp S rfl (Jj (S.tm rfl) rfl) rfl fun a S=>Gp S rfl (Rm (S.tm rfl)) rfl ?_;clear S;intro a S
      obtain ⟨j2,hj2,h⟩:=Ey h
      refine AB 10 (fun a w'=>∃ c1,j2 c1 = some r ∧ Keep [] w7 w' ∧ Sx w [] nov [.blk b2 [sV y1.Who,iV y1.Fault,u1.val] 179] [(0,Cb),(8,Cb),(9,iV (Cc.length : Int)),(10,iV (i1 : Int)),(38,bV c1)] 40 a w') ?_ ?_
      ·rcases Bool.eq_false_or_eq_true (decide (0 < (i1 : Int))) with hb4 | hb4
       ·replace h:=Rg h hb4
        refine Gc S rfl rfl rfl rfl hb4 (Hm S (Gv GR (S.tm rfl)) rfl fun a S=>Gc S rfl rfl rfl rfl hb4 (Hm S (Nn isAgg9 (S.tm rfl) (S.cell (i:=0) rfl rfl)) rfl fun a S=>Gc S rfl rfl rfl rfl hb4 (Hm S (Rm (S.tm rfl)) rfl fun a S=>Gc S rfl rfl rfl rfl hb4 (Hm S (Rm (S.tm rfl)) rfl fun a S=>Gc S rfl rfl rfl rfl hb4 (Hm S (Iy (S.tm rfl) rfl) rfl fun a S=>Gc S rfl rfl rfl rfl hb4 ?_)))))
        obtain ⟨hc1,h⟩:=Ij h
        obtain ⟨r3,hg2,hl2⟩:=PF Cg hc1
        obtain ⟨u2,rfl,hs2⟩:=hl2
        obtain ⟨b3,o2,hm2,hr3⟩:=Fh (a:=a) (x:=.tmp 31) (y:=.tmp 33) (ty:=0) FL Cf hg2 (Eh hc1).2 (S.tm rfl) (S.tm rfl)
        refine Hm S (hr3 _) rfl ?_;clear S;intro a S
        clear hr3
        exact Gc S rfl rfl rfl rfl hb4 (Hm S (Gv GR (S.tm rfl)) rfl fun a S=>Gc S rfl rfl rfl rfl hb4 (Hm S (Ic isAgg9 (off:=o2) (o:=0) (S.tm rfl) (hm2.at S.emb0) rfl) rfl fun a S=>Gc S rfl rfl rfl rfl hb4 (Hm S (JD (S.tm rfl) (S.tm rfl)) rfl fun a S=>Gp S rfl (Hz hb4 (S.tm rfl) (S.tm rfl)) rfl fun a S=>It (⟨_,h,Keep.refl _ _,S.nf [true] rfl (subR rfl)⟩))))
       ·replace h:=Rh h hb4
        iterate 9 (refine Qs S rfl rfl rfl rfl (Jw hb4) rfl ?_ rfl;clear S;intro a S)
        exact Gp S rfl (Ia true hb4 (S.tm rfl) rfl) rfl fun a S=>It (⟨_,h,Keep.refl _ _,S.nf [true] rfl (subR rfl)⟩)
      clear S h;rintro a w8 ⟨c1,h,hk6,S⟩;rw [hj2] at h;clear hj2 j2
      refine Gp S rfl (Ra (S.tm rfl)) rfl fun a S=>It ?_
      replace S:=S.n0.k5 0 8 9 10 25 rfl
      refine Tn (Fc h (S.tm rfl) (fun hb5 h=>?_) (fun hb5 h=>?_))
      ·refine Fr (Vk S rfl rfl fun a S=>Dl (wp_ret (Ga (Ga (Ec (Ec (Ga ?_)))))))
       refine Ec (Ec ?_)
       obtain rfl:=Option.some.inj h
       exact Eu S results162 rfl rfl
      ·exact wp_skip (Hn (Hn (Tn (Fg (Vq S Gf rfl rfl rfl fun a S=>Vm S rfl rfl fun a S=>Dl (⟨ys1,⟨i1 + 1,⟨_,(hd1).trans (List.append_cons _ _ _),by simp [hi1]⟩,h,S.nf [] rfl ⟨rfl,rfl,rfl,(congrArg (fun z=>some (Value.int .i64 z)) (Hs hd1 hi1 (Yf Cf Cg))),trivial⟩⟩,Nat.lt_succ_self _⟩))))))
  clear S h;rintro a w2 ⟨h,S⟩;rw [hj1] at h;clear hj1 j1
  refine Tn (Fr (Vk S rfl rfl fun a S=>Dl (wp_ret ?_)))
  obtain rfl:=Option.some.inj h
  exact Eu S results162 rfl rfl
set_option maxRecDepth 20000 in
theorem HY (w : World) (Aj : Eb) (Al : Eb) (Dq : Nat) (Dv : Int) (Dm : (view w []) Dq = some (.cells [iV Dv].toArray 3 (0,0))) (r : Int) (h : Vy Aj Al Dv = some r) :
    Calls prog 164 [.agg (Eb.enc Aj).toArray,.agg (Eb.enc Al).toArray,.pointer (some ⟨Dq,0,none⟩)].toArray w (Ret w [] fun _ v _=>v = iV r):=by
 refine Fe func164 rfl ntmps164 rfl fun a S=>?_
 unfold Vy at h
 replace S:=S.k3 0 1 2 rfl
 refine Fr (Mx S (S.tm rfl) (cs:=(Eb.enc Aj)) rfl rfl ?_);clear S;intro a w1 b1 hz1 hk1 S
 refine Mx S (S.tm rfl) (cs:=(Eb.enc Al)) rfl rfl ?_;clear S;intro a w2 b2 hz2 hk2 S
 refine Vk S rfl rfl fun a S=>Dl (Fs (Hd [] ([]) Tryz.mixed S rfl (by kernel_rfl) ?_));clear S;intro w3 hk3 hsel S
 refine Lg [0,1,2,3,4,5,6,7,8,9] hsel (by kernel_rfl) rfl ?_
 clear hsel
 refine Gp S rfl (Gv AN (S.tm rfl)) rfl fun a S=>Gp S rfl (Nn isAgg3 (S.tm rfl) (S.cell (i:=1) rfl rfl)) rfl fun a S=>Gp S rfl (Ic isAgg3 (off:=0) (o:=0) (S.tm rfl) ((Ti Dm).at S.emb0) rfl) rfl ?_;clear S;intro a S
 obtain ⟨hc1,h⟩:=Ij h
 refine Gp S rfl (FF (S.tm rfl) (S.tm rfl) (Vo hc1)) rfl fun a S=>Gp S rfl (Gv AN (S.tm rfl)) rfl fun a S=>Gp S rfl (Nn isAgg3 (S.tm rfl) (S.cell (i:=0) rfl rfl)) rfl fun a S=>Gp S rfl (Ic isAgg3 (off:=0) (o:=0) (S.tm rfl) ((Ti Dm).at S.emb0) rfl) rfl ?_;clear S;intro a S
 obtain ⟨hc2,h⟩:=Ij h
 refine Gp S rfl (FF (S.tm rfl) (S.tm rfl) (Vo hc2)) rfl fun a S=>Gp S rfl (Iy (S.tm rfl) (S.tm rfl)) rfl fun a S=>Gp S rfl (Ra (S.tm rfl)) rfl fun a S=>It ?_
 replace S:=S.n0.k1 5 rfl
 refine Tn (wp_ret ?_)
 obtain rfl:=Option.some.inj h
 exact Eu S results164 rfl rfl
set_option maxRecDepth 20000 in
theorem Nr (w : World) (O : Value) (Ai : List Eb) (Be : (LEnt.own O 127 4 Ai.length (Ai.flatMap Eb.enc)).holds w) (Aj : Int) (Al : Int) (Bd : Nat) (Bw : Int) (Ce : (view w (O.ownBlock.toList)) Bd = some (.cells [iV Bw].toArray 3 (0,0))) (r : (List Eb)) (h : Hy Ai Aj Al Bw = some r) :
    Calls prog 189 [O,iV Aj,iV Al,.func (.func 164) #[] #[.pointer (some ⟨Bd,0,none⟩)]].toArray w (Ret w (O.ownBlock.toList) fun _ v w'=>(LEnt.own O 127 4 r.length (r.flatMap Eb.enc)).holds w' ∧ v = .tuple #[]):=by
 refine Lb (O.ownBlock.toList) [.own O 127 4 Ai.length (Ai.flatMap Eb.enc)] func189 rfl ntmps189 rfl (fun e he=>by simp only [List.mem_singleton] at he;subst he;exact Be) (Iu _) (Js _) fun a S=>?_
 unfold Hy at h
 replace S:=(S.nl [.own O 127 4 Ai.length (Ai.flatMap Eb.enc)] [true] rfl).k4 0 1 2 3 rfl
 refine Fr (Vm S rfl rfl fun a S=>Vq S Gf rfl rfl rfl fun a S=>Va S rfl rfl fun a S=>Dl ?_)
 replace S:=S.k5 0 1 2 3 8 rfl
 obtain ⟨j1,hj1,h⟩:=Ey h
 refine Es (fun a w'=>∃ x1 : List Eb,j1 x1 = some r ∧ Sx w (O.ownBlock.toList) nov [.own O 127 4 x1.length (x1.flatMap Eb.enc)] [] 53 a w') ?_ ?_
 ·refine wp_block (Gz (fun (m1 : Nat) a w'=>∃ x1 : List Eb,∃ x2 : Int,Fw Al Aj Bw j1 m1 x1 x2 = some r ∧ Sx w (O.ownBlock.toList) nov [.own O 127 4 x1.length (x1.flatMap Eb.enc)] [(0,O),(1,iV Aj),(2,iV Al),(3,.func (.func 164) #[] #[.pointer (some ⟨Bd,0,none⟩)]),(8,iV x2)] 53 a w') id ((Al - (W (Aj + 1))).toNat + 2) ⟨Ai,W (Aj + 1),h,S.nf [true] rfl (subR rfl)⟩ ?_)
  clear S h;rintro m1 a w1 ⟨x1,x2,h,S⟩
  cases m1 with
  | zero=>rw [Fw.eq_1] at h;cases h
  | succ m1 =>
   rw [Fw.eq_2] at h
   refine Fs (Fr (Vm S rfl rfl fun a S=>Vm S rfl rfl fun a S=>Vb S Ev rfl rfl rfl fun a S=>Dl (Fc h (S.tm rfl) (fun hb1 h=>?_) (fun hb1 h=>?_))))
   ·refine wp_skip (Tn (Fs (wp_block (Fr (Vm S rfl rfl fun a S=>Va S rfl rfl fun a S=>Dl ?_)))))
    replace S:=S.k6 0 1 2 3 8 9 rfl
    obtain ⟨j2,hj2,h⟩:=Ey h
    refine Es (fun a w'=>∃ x3 : List Eb,j2 x3 = some r ∧ Sx w (O.ownBlock.toList) nov [.own O 127 4 x3.length (x3.flatMap Eb.enc)] [(0,O),(1,iV Aj),(2,iV Al),(3,.func (.func 164) #[] #[.pointer (some ⟨Bd,0,none⟩)]),(8,iV x2)] 53 a w') ?_ ?_
    ·refine wp_block (Gz (fun (m2 : Nat) a w'=>∃ x3 : List Eb,∃ x4 : Int,Fa Aj Bw j2 m2 x3 x4 = some r ∧ Sx w (O.ownBlock.toList) nov [.own O 127 4 x3.length (x3.flatMap Eb.enc)] [(0,O),(1,iV Aj),(2,iV Al),(3,.func (.func 164) #[] #[.pointer (some ⟨Bd,0,none⟩)]),(8,iV x2),(9,iV x4)] 53 a w') id ((x2 - Aj).toNat + 2) ⟨x1,x2,h,S.nf [true] rfl (subR rfl)⟩ ?_)
     clear S h;rintro m2 a w3 ⟨x3,x4,h,S⟩
     cases m2 with
     | zero=>rw [Fa.eq_1] at h;cases h
     | succ m2 =>
      rw [Fa.eq_2] at h
      refine Fs (Fs ?_)
      obtain ⟨j3,hj3,h⟩:=Ey h
      refine Es (fun a w'=>∃ x5 : Bool,j3 x5 = some r ∧ Sx w (O.ownBlock.toList) nov [.own O 127 4 x3.length (x3.flatMap Eb.enc)] [(0,O),(1,iV Aj),(2,iV Al),(3,.func (.func 164) #[] #[.pointer (some ⟨Bd,0,none⟩)]),(8,iV x2),(9,iV x4),(34,bV x5)] 53 a w') ?_ ?_
      ·rcases Bool.eq_false_or_eq_true (decide (Aj < x4)) with hb2 | hb2
       ·replace h:=Rg h hb2
        obtain ⟨hc1,h⟩:=Ij h
        obtain ⟨hc2,h⟩:=Ij h
        obtain ⟨r1,hr3,h⟩:=Fd h
        refine Hd [] ([]) Tryz.mixed S rfl (by kernel_rfl) ?_;clear S;intro w7 hk2 hsel S
        refine Ek 0 S hsel rfl rfl rfl (by kernel_rfl) (by kernel_rfl) rfl (fun _ hw=>(Rm (S.tm rfl))) fun a S=>Ek 1 S hsel rfl rfl rfl (by kernel_rfl) (by kernel_rfl) rfl (fun _ hw=>(Rm (S.tm rfl))) fun a S=>Ek 2 S hsel rfl rfl rfl (by kernel_rfl) (by kernel_rfl) rfl (fun _ hw=>(Jj (S.tm rfl) (S.tm rfl))) fun a S=>Ek 3 S hsel rfl rfl rfl (by kernel_rfl) (by kernel_rfl) rfl (fun _ hw=>(Rm (S.tm rfl))) fun a S=>Et 4 S hsel rfl rfl rfl rfl hb2 rfl rfl (by kernel_rfl) (by kernel_rfl) rfl (fun _ hw=>(Rm (S.tm rfl))) fun a S=>Et 5 S hsel rfl rfl rfl rfl hb2 rfl rfl (by kernel_rfl) (by kernel_rfl) rfl (fun _ hw=>(Rm (S.tm rfl))) fun a S=>Et 6 S hsel rfl rfl rfl rfl hb2 rfl rfl (by kernel_rfl) (by kernel_rfl) rfl (fun _ hw=>(Rm (S.tm rfl))) ?_;clear S;intro a S
        obtain ⟨b3,hg3,hr4⟩:=Gx (a:=a) (x:=.tmp 23) (y:=.tmp 24) (ty:=0) Te Eb.enc_ok S (i:=0) rfl (Eh hc1).1 (Eh hc1).2 (S.tm rfl) (S.tm rfl)
        refine Et 7 S hsel rfl rfl rfl rfl hb2 rfl rfl (by kernel_rfl) (by kernel_rfl) rfl (fun _ hw=>(hr4 _)) ?_;clear S;intro a S
        clear hr4
        refine Et 8 S hsel rfl rfl rfl rfl hb2 rfl rfl (by kernel_rfl) (by kernel_rfl) rfl (fun _ hw=>(Fk isAgg127 sizeOf127 (off:=x4.toNat * 4) (o:=0) (part:=(Eb.enc (nth x3 x4))) rfl rfl (S.tm rfl) ((Ns Eb.enc_ok S (i:=0) rfl hg3 (Eh hc1).1 (Ie (e':=.own O 127 4 x3.length (x3.flatMap Eb.enc)))).kept hw))) fun a S=>Et 9 S hsel rfl rfl rfl rfl hb2 rfl rfl (by kernel_rfl) (by kernel_rfl) rfl (fun _ hw=>(Rm (S.tm rfl))) fun a S=>Et 10 S hsel rfl rfl rfl rfl hb2 rfl rfl (by kernel_rfl) (by kernel_rfl) rfl (fun _ hw=>(Rm (S.tm rfl))) fun a S=>Et 11 S hsel rfl rfl rfl rfl hb2 rfl rfl (by kernel_rfl) (by kernel_rfl) rfl (fun _ hw=>(Iy (S.tm rfl) rfl)) ?_;clear S;intro a S
        obtain ⟨b4,hg4,hr5⟩:=Gx (a:=a) (x:=.tmp 27) (y:=.tmp 29) (ty:=0) Te Eb.enc_ok S (i:=0) rfl (Eh hc2).1 (Eh hc2).2 (S.tm rfl) (S.tm rfl)
        refine Et 12 S hsel rfl rfl rfl rfl hb2 rfl rfl (by kernel_rfl) (by kernel_rfl) rfl (fun _ hw=>(hr5 _)) ?_;clear S;intro a S
        clear hr5
        refine Et 13 S hsel rfl rfl rfl rfl hb2 rfl rfl (by kernel_rfl) (by kernel_rfl) rfl (fun _ hw=>(Fk isAgg127 sizeOf127 (off:=((W (x4 - 1)).toNat) * 4) (o:=0) (part:=(Eb.enc (nth x3 (W (x4 - 1))))) rfl rfl (S.tm rfl) ((Ns Eb.enc_ok S (i:=0) rfl hg4 (Eh hc2).1 (Ie (e':=.own O 127 4 x3.length (x3.flatMap Eb.enc)))).kept hw))) fun a S=>Hi 14 (by kernel_rfl) rfl (Ef S rfl rfl rfl hb2 (Ei S (fun _=>Ud (cap:=[.pointer (some ⟨Bd,0,none⟩)]) (S.tm rfl) (vs:=[.agg (Eb.enc (nth x3 x4)).toArray,.agg (Eb.enc (nth x3 (W (x4 - 1)))).toArray]) ⟨(S.tm rfl),(S.tm rfl),trivial⟩ call164) (HY _ (nth x3 x4) (nth x3 (W (x4 - 1))) Bd Bw ((S.le_arg Er) _ _ Ce) _ hr3) rfl ?_));clear S;intro v2 a w8 hv2 hk3 hn2 S
        subst hv2
        refine Ld (Ik hk3 (Lg [15,16] hsel (by kernel_rfl) rfl ?_))
        clear hsel
        refine Gc S rfl rfl rfl rfl hb2 (Hm S (Ev (S.tm rfl) rfl) rfl fun a S=>Gp S rfl (Qi hb2 (S.tm rfl) (S.tm rfl)) rfl fun a S=>It ?_)
        replace S:=S.nk [.own O 127 4 x3.length (x3.flatMap Eb.enc)] [(0,O),(1,iV Aj),(2,iV Al),(3,.func (.func 164) #[] #[.pointer (some ⟨Bd,0,none⟩)]),(8,iV x2),(9,iV x4),(22,.func (.func 164) #[] #[.pointer (some ⟨Bd,0,none⟩)]),(23,O),(24,iV x4),(25,.pointer (some ⟨b3,x4.toNat * 4,none⟩)),(26,.agg (Eb.enc (nth x3 x4)).toArray),(27,O),(28,iV x4),(29,iV (W (x4 - 1))),(30,.pointer (some ⟨b4,((W (x4 - 1)).toNat) * 4,none⟩)),(31,.agg (Eb.enc (nth x3 (W (x4 - 1)))).toArray),(32,iV r1),(33,bV (decide (r1 < 0))),(34,bV (decide (r1 < 0)))] [true] rfl (subR rfl)
        exact Tn (⟨decide (r1 < 0),h,S.nf [true] rfl (subR rfl)⟩)
       ·replace h:=Rh h hb2
        refine Hd [] ([]) Tryz.mixed S rfl (by kernel_rfl) ?_;clear S;intro w9 hk4 hsel S
        refine Lg [0,1,2,3,4,5,6,7,8,9,10,11,12,13,14,15,16] hsel (by kernel_rfl) rfl ?_
        clear hsel
        refine Gp S rfl (Rm (S.tm rfl)) rfl fun a S=>Gp S rfl (Rm (S.tm rfl)) rfl fun a S=>Gp S rfl (Jj (S.tm rfl) (S.tm rfl)) rfl fun a S=>Gp S rfl (Rm (S.tm rfl)) rfl ?_;clear S;intro a S
        iterate 12 (refine Qs S rfl rfl rfl rfl (Jw hb2) rfl ?_ rfl;clear S;intro a S)
        refine Gp S rfl (Qj hb2 (S.tm rfl) rfl) rfl fun a S=>It ?_
        replace S:=S.k7 0 1 2 3 8 9 34 rfl
        exact Tn (⟨false,h,S.nf [true] rfl (subR rfl)⟩)
      clear S h;rintro a w5 ⟨x5,h,S⟩;rw [hj3] at h;clear hj3 j3
      refine Tn (Fc h (S.tm rfl) (fun hb3 h=>?_) (fun hb3 h=>?_))
      ·refine wp_skip (Tn (Fs (wp_block ?_)))
       obtain ⟨hc3,h⟩:=Ij h
       obtain ⟨hc4,h⟩:=Ij h
       obtain ⟨hc5,h⟩:=Ij h
       obtain ⟨hc6,h⟩:=Ij h
       refine Hd [15,17] ([]) Tryz.mixed S rfl (by kernel_rfl) ?_;clear S;intro w14 hk9 hsel S
       refine Fz 0 S hsel rfl rfl (by kernel_rfl) (by kernel_rfl) rfl (fun _=>(Rm (S.tm rfl))) fun a S=>Fz 1 S hsel rfl rfl (by kernel_rfl) (by kernel_rfl) rfl (fun _=>(Rm (S.tm rfl))) fun a S=>Fz 2 S hsel rfl rfl (by kernel_rfl) (by kernel_rfl) rfl (fun _=>(Rm (S.tm rfl))) fun a S=>Fz 3 S hsel rfl rfl (by kernel_rfl) (by kernel_rfl) rfl (fun _=>(Rm (S.tm rfl))) fun a S=>Fz 4 S hsel rfl rfl (by kernel_rfl) (by kernel_rfl) rfl (fun _=>(Iy (S.tm rfl) rfl)) fun a S=>Fz 5 S hsel rfl rfl (by kernel_rfl) (by kernel_rfl) rfl (fun _=>(Rm (S.tm rfl))) fun a S=>Fz 6 S hsel rfl rfl (by kernel_rfl) (by kernel_rfl) rfl (fun _=>(Rm (S.tm rfl))) fun a S=>Fz 7 S hsel rfl rfl (by kernel_rfl) (by kernel_rfl) rfl (fun _=>(Iy (S.tm rfl) rfl)) ?_;clear S;intro a S
       obtain ⟨b9,hg9,hr10⟩:=Gx (a:=a) (x:=.tmp 42) (y:=.tmp 44) (ty:=0) Te Eb.enc_ok S (i:=0) rfl (Eh hc3).1 (Eh hc3).2 (S.tm rfl) (S.tm rfl)
       refine Fz 8 S hsel rfl rfl (by kernel_rfl) (by kernel_rfl) rfl (fun _=>(hr10 _)) ?_;clear S;intro a S
       clear hr10
       refine Ek 9 S hsel rfl (by kernel_rfl) (by kernel_rfl) (by kernel_rfl) (by kernel_rfl) rfl (fun _ hw=>(Fk isAgg127 sizeOf127 (off:=((W (x4 - 1)).toNat) * 4) (o:=0) (part:=(Eb.enc (nth x3 (W (x4 - 1))))) rfl rfl (S.tm rfl) ((Ns Eb.enc_ok S (i:=0) rfl hg9 (Eh hc3).1 (Ie (e':=.own O 127 4 x3.length (x3.flatMap Eb.enc)))).kept hw))) fun a S=>Fz 10 S hsel rfl rfl (by kernel_rfl) (by kernel_rfl) rfl (fun _=>(Rm (S.tm rfl))) fun a S=>Fz 11 S hsel rfl rfl (by kernel_rfl) (by kernel_rfl) rfl (fun _=>(Rm (S.tm rfl))) ?_;clear S;intro a S
       obtain ⟨b10,hg10,hr11⟩:=Gx (a:=a) (x:=.tmp 47) (y:=.tmp 48) (ty:=0) Te Eb.enc_ok S (i:=0) rfl (Eh hc4).1 (Eh hc4).2 (S.tm rfl) (S.tm rfl)
       refine Fz 12 S hsel rfl rfl (by kernel_rfl) (by kernel_rfl) rfl (fun _=>(hr11 _)) ?_;clear S;intro a S
       clear hr11
       refine Ek 13 S hsel rfl (by kernel_rfl) (by kernel_rfl) (by kernel_rfl) (by kernel_rfl) rfl (fun _ hw=>(Fk isAgg127 sizeOf127 (off:=x4.toNat * 4) (o:=0) (part:=(Eb.enc (nth x3 x4))) rfl rfl (S.tm rfl) ((Ns Eb.enc_ok S (i:=0) rfl hg10 (Eh hc4).1 (Ie (e':=.own O 127 4 x3.length (x3.flatMap Eb.enc)))).kept hw))) ?_;clear S;intro a S
       obtain ⟨b11,hg11,hr12⟩:=Gx (a:=a) (x:=.tmp 37) (y:=.tmp 38) (ty:=0) Te Eb.enc_ok S (i:=0) rfl (Eh hc5).1 (Eh hc5).2 (S.tm rfl) (S.tm rfl)
       refine Fz 14 S hsel rfl rfl (by kernel_rfl) (by kernel_rfl) rfl (fun _=>(hr12 _)) ?_;clear S;intro a S
       clear hr12
       refine Wq 15 (O.ownBlock.toList) rfl (by kernel_rfl) rfl (Oe (c:=0) (j:=x4.toNat) (nth x3 (W (x4 - 1))) Eb.enc_ok S (S.tm rfl) (S.tm rfl) (i:=0) rfl hg11 (Eh hc5).1 sizeOf127 (vs:=[sV ((nth x3 (W (x4 - 1))).Who),iV ((nth x3 (W (x4 - 1))).Rank),iV ((nth x3 (W (x4 - 1))).Time),iV ((nth x3 (W (x4 - 1))).Fault)]) rfl rfl rfl rfl rfl ?_);clear S;intro w16 hk11 S
       refine Ld (Wr ?_)
       obtain ⟨b12,hg12,hr13⟩:=Gx (a:=a) (x:=.tmp 39) (y:=.tmp 41) (ty:=0) Te Eb.enc_ok S (i:=0) rfl (Eh hc6).1 (Eh hc6).2 (S.tm rfl) (S.tm rfl)
       refine Ek 16 S hsel rfl rfl rfl (by kernel_rfl) (by kernel_rfl) rfl (fun _ hw=>(hr13 _)) ?_;clear S;intro a S
       clear hr13
       refine Hi 17 (by kernel_rfl) rfl (Oe (c:=0) (j:=(W (x4 - 1)).toNat) (nth x3 x4) Eb.enc_ok S (S.tm rfl) (S.tm rfl) (i:=0) rfl hg12 (Eh hc6).1 sizeOf127 (vs:=[sV ((nth x3 x4).Who),iV ((nth x3 x4).Rank),iV ((nth x3 x4).Time),iV ((nth x3 x4).Fault)]) rfl rfl rfl rfl rfl ?_);clear S;intro w18 hk13 S
       refine Ld (Ik hk13 (Wl (by kernel_rfl) ?_))
       clear hsel
       replace S:=(S.nl [.own O 127 4 ((x3.set x4.toNat (nth x3 (W (x4 - 1)))).set ((W (x4 - 1)).toNat) (nth x3 x4)).length (((x3.set x4.toNat (nth x3 (W (x4 - 1)))).set ((W (x4 - 1)).toNat) (nth x3 x4)).flatMap Eb.enc)] [true] rfl).k6 0 1 2 3 8 9 rfl
       exact Hn (Tn (Fg (Vm S rfl rfl fun a S=>Vq S Iy rfl rfl rfl fun a S=>Va S rfl rfl fun a S=>Dl (⟨m2,⟨((x3.set x4.toNat (nth x3 (W (x4 - 1)))).set ((W (x4 - 1)).toNat) (nth x3 x4)),W (x4 - 1),h,S.nf [true] rfl ⟨rfl,rfl,rfl,rfl,rfl,rfl,trivial⟩⟩,Nat.lt_succ_self _⟩))))
      ·exact wp_exit (Ep (Ep (Gr (Tn (⟨x3,h,S.nf [true] rfl (subR rfl)⟩)))))
    clear S h;rintro a w4 ⟨x3,h,S⟩;rw [hj2] at h;clear hj2 j2
    exact Hn (Tn (Fg (Vm S rfl rfl fun a S=>Vq S Gf rfl rfl rfl fun a S=>Va S rfl rfl fun a S=>Dl (⟨m1,⟨x3,W (x2 + 1),h,S.nf [true] rfl ⟨rfl,rfl,rfl,rfl,rfl,trivial⟩⟩,Nat.lt_succ_self _⟩))))
   ·exact wp_exit (Ep (Ep (Gr (Tn (⟨x1,h,S.nf [true] rfl trivial⟩)))))
 clear S h;rintro a w2 ⟨x1,h,S⟩;rw [hj1] at h;clear hj1 j1
 obtain rfl:=Option.some.inj h
 exact Ri S results189 ⟨(S.holds _ (List.mem_of_getElem? (i:=0) rfl)),rfl⟩
theorem Tf (w : World) (O : Value) (Ai : List Eb) (Be : (LEnt.own O 127 4 Ai.length (Ai.flatMap Eb.enc)).holds w) (Ba : Int) (Bd : Nat) (Bw : Int) (Ce : (view w (O.ownBlock.toList)) Bd = some (.cells [iV Bw].toArray 3 (0,0))) (r : (List Eb)) (h : Ks Ai Ba Bw = some r) :
    Calls prog 179 [O,iV Ba,.func (.func 164) #[] #[.pointer (some ⟨Bd,0,none⟩)]].toArray w (Ret w (O.ownBlock.toList) fun _ v w'=>(LEnt.own O 127 4 r.length (r.flatMap Eb.enc)).holds w' ∧ v = .tuple #[]):=by
 refine Lb (O.ownBlock.toList) [.own O 127 4 Ai.length (Ai.flatMap Eb.enc)] func179 rfl ntmps179 rfl (fun e he=>by simp only [List.mem_singleton] at he;subst he;exact Be) (Iu _) (Js _) fun a S=>?_
 unfold Ks at h
 replace S:=(S.nl [.own O 127 4 Ai.length (Ai.flatMap Eb.enc)] [true] rfl).k3 0 1 2 rfl
 refine Fr (Vk S rfl rfl fun a S=>Dz (Vm S rfl rfl fun a S=>Vk S rfl rfl fun a S=>Va S rfl rfl fun a S=>Ld ?_))
 refine Tn (Fs ?_)
 replace S:=S.k6 0 1 2 6 7 8 rfl
 obtain ⟨j1,hj1,h⟩:=Ey h
 refine Es (fun a w'=>∃ x1 : List Eb,∃ x2 : Int,j1 x1 x2 = some r ∧ Sx w (O.ownBlock.toList) nov [.own O 127 4 x1.length (x1.flatMap Eb.enc)] [(0,O),(1,iV Ba),(2,.func (.func 164) #[] #[.pointer (some ⟨Bd,0,none⟩)]),(6,iV 20),(7,iV x2)] 63 a w') ?_ ?_
 ·refine wp_block (Gz (fun (m1 : Nat) a w'=>∃ x1 : List Eb,∃ x2 : Int,∃ x3 : Int,Gt Ba Bw j1 m1 x1 x2 x3 = some r ∧ Sx w (O.ownBlock.toList) nov [.own O 127 4 x1.length (x1.flatMap Eb.enc)] [(0,O),(1,iV Ba),(2,.func (.func 164) #[] #[.pointer (some ⟨Bd,0,none⟩)]),(6,iV 20),(7,iV x2),(8,iV x3)] 63 a w') id ((Ba - 20).toNat + 2) ⟨Ai,0,20,h,S.nf [true] rfl (subR rfl)⟩ ?_)
  clear S h;rintro m1 a w1 ⟨x1,x2,x3,h,S⟩
  cases m1 with
  | zero=>rw [Gt.eq_1] at h;cases h
  | succ m1 =>
   rw [Gt.eq_2] at h
   refine Fs (Fr (Vm S rfl rfl fun a S=>Vm S rfl rfl fun a S=>Vb S Us rfl rfl rfl fun a S=>Dl (Fc h (S.tm rfl) (fun hb1 h=>?_) (fun hb1 h=>?_))))
   ·refine wp_skip (Tn (wp_block (Fs (Fg ?_))))
    iterate 4 (refine Vm S rfl rfl ?_;clear S;intro a S)
    obtain ⟨r1,hr1,h⟩:=Fd h
    refine Mr 0 S rfl (fun _=>.own O 127 4 r1.length (r1.flatMap Eb.enc)) (fun _=>Ea (vs:=[O,iV x2,iV x3,.func (.func 164) #[] #[.pointer (some ⟨Bd,0,none⟩)]]) ⟨(S.tm rfl),(S.tm rfl),(S.tm rfl),(S.tm rfl),trivial⟩ call189) (Nr _ O x1 (S.holds _ (List.mem_of_getElem? (i:=0) rfl)) x2 x3 Bd Bw ((S.le_arg (Ji (i:=0) (e:=.own O 127 4 x1.length (x1.flatMap Eb.enc)) rfl)) _ _ Ce) _ hr1) rfl (fun _ _ _ h=>⟨h.1,fun _ hc=>hc⟩) ?_;clear S;intro v1 a w3 hv1 hk1 hn1 S
    replace hv1:=hv1.2
    subst hv1
    refine Dz (Vm S rfl rfl fun a S=>Va S rfl rfl fun a S=>Ld ?_)
    replace S:=(S.nl [.own O 127 4 r1.length (r1.flatMap Eb.enc)] [true] rfl).k6 0 1 2 6 7 8 rfl
    exact Tn (Fg (Vm S rfl rfl fun a S=>Vm S rfl rfl fun a S=>Vb S Gf rfl rfl rfl fun a S=>Va S rfl rfl fun a S=>Ld (Hn (Tn (⟨m1,⟨r1,x3,W (x3 + 20),h,S.nf [true] rfl ⟨rfl,rfl,rfl,rfl,rfl,rfl,trivial⟩⟩,Nat.lt_succ_self _⟩)))))
   ·exact wp_exit (Ep (Ep (Gr (Tn (⟨x1,x2,h,S.nf [true] rfl (subR rfl)⟩)))))
 clear S h;rintro a w2 ⟨x1,x2,h,S⟩;rw [hj1] at h;clear hj1 j1
 refine Tn (Fs (Fg ?_))
 iterate 4 (refine Vm S rfl rfl ?_;clear S;intro a S)
 obtain ⟨r2,hr2,h⟩:=Fd h
 refine Mr 0 S rfl (fun _=>.own O 127 4 r2.length (r2.flatMap Eb.enc)) (fun _=>Ea (vs:=[O,iV x2,iV Ba,.func (.func 164) #[] #[.pointer (some ⟨Bd,0,none⟩)]]) ⟨(S.tm rfl),(S.tm rfl),(S.tm rfl),(S.tm rfl),trivial⟩ call189) (Nr _ O x1 (S.holds _ (List.mem_of_getElem? (i:=0) rfl)) x2 Ba Bd Bw ((S.le_arg (Ji (i:=0) (e:=.own O 127 4 x1.length (x1.flatMap Eb.enc)) rfl)) _ _ Ce) _ hr2) rfl (fun _ _ _ h=>⟨h.1,fun _ hc=>hc⟩) ?_;clear S;intro v2 a w4 hv2 hk2 hn2 S
 replace hv2:=hv2.2
 subst hv2
 refine Dl ?_
 replace S:=(S.nl [.own O 127 4 r2.length (r2.flatMap Eb.enc)] [true] rfl).k2 1 6 rfl
 obtain ⟨j2,hj2,h⟩:=Ey h
 refine Es (fun a w'=>j2 = some r ∧ Sx w (O.ownBlock.toList) nov [.own O 127 4 r2.length (r2.flatMap Eb.enc)] [] 63 a w') ?_ ?_
 ·refine wp_block (Gz (fun (m2 : Nat) a w'=>∃ x4 : Int,Gu Ba j2 m2 x4 = some r ∧ Sx w (O.ownBlock.toList) nov [.own O 127 4 r2.length (r2.flatMap Eb.enc)] [(1,iV Ba),(6,iV x4)] 63 a w') id ((Ba - 20).toNat + 2) ⟨20,h,S.nf [true] rfl (subR rfl)⟩ ?_)
  clear S h;rintro m2 a w5 ⟨x4,h,S⟩
  cases m2 with
  | zero=>rw [Gu.eq_1] at h;cases h
  | succ m2 =>
   rw [Gu.eq_2] at h
   refine Fs (Fr (Vm S rfl rfl fun a S=>Vm S rfl rfl fun a S=>Vb S Ev rfl rfl rfl fun a S=>Dl (Fc h (S.tm rfl) (fun hb2 h=>?_) (fun hb2 h=>?_))))
   ·refine wp_skip (Tn (wp_block (Fr (Vm S rfl rfl fun a S=>Vu S (Xk rfl) rfl rfl fun a S=>Vk S rfl rfl fun a S=>Va S rfl rfl fun a S=>Dl ?_))))
    refine Fs ?_
    replace S:=S.k4 1 6 7 8 rfl
    obtain ⟨j3,hj3,h⟩:=Ey h
    refine Es (fun a w'=>∃ x5 : Int,j3 x5 = some r ∧ Sx w (O.ownBlock.toList) nov [.own O 127 4 r2.length (r2.flatMap Eb.enc)] [(1,iV Ba),(6,iV x4),(7,iV x5)] 63 a w') ?_ ?_
    ·refine wp_block (Gz (fun (m3 : Nat) a w'=>∃ x5 : Int,∃ x6 : Int,Ht Ba j3 m3 x5 x6 = some r ∧ Sx w (O.ownBlock.toList) nov [.own O 127 4 r2.length (r2.flatMap Eb.enc)] [(1,iV Ba),(6,iV x4),(7,iV x5),(8,iV x6)] 63 a w') id ((Ba - (W (2 * x4))).toNat + 2) ⟨0,W (2 * x4),h,S.nf [true] rfl (subR rfl)⟩ ?_)
     clear S h;rintro m3 a w7 ⟨x5,x6,h,S⟩
     cases m3 with
     | zero=>rw [Ht.eq_1] at h;cases h
     | succ m3 =>
      rw [Ht.eq_2] at h
      refine Fs (Fr (Vm S rfl rfl fun a S=>Vm S rfl rfl fun a S=>Vb S Us rfl rfl rfl fun a S=>Dl (Fc h (S.tm rfl) (fun hb3 h=>?_) (fun hb3 h=>?_))))
      ·refine wp_skip (Tn (wp_block (Fs ?_)))
       cases h
      ·exact wp_exit (Ep (Ep (Gr (Tn (⟨x5,h,S.nf [true] rfl (subR rfl)⟩)))))
    clear S h;rintro a w8 ⟨x5,h,S⟩;rw [hj3] at h;clear hj3 j3
    refine Tn (Fs (Fr (Vm S rfl rfl fun a S=>Vm S rfl rfl fun a S=>Vb S Gf rfl rfl rfl fun a S=>Va S rfl rfl fun a S=>Dl (Fs ?_))))
    refine Fg (Vm S rfl rfl fun a S=>Vm S rfl rfl fun a S=>Vb S Ev rfl rfl rfl fun a S=>Dl (Fc h (S.tm rfl) (fun hb4 h=>?_) (fun hb4 h=>?_)))
    ·cases h
    ·exact wp_skip (Tn (Fg (Vm S rfl rfl fun a S=>Vq S Xk rfl rfl rfl fun a S=>Va S rfl rfl fun a S=>Ld (Hn (Tn (⟨m2,⟨W (x4 * 2),h,S.nf [true] rfl ⟨rfl,rfl,trivial⟩⟩,Nat.lt_succ_self _⟩))))))
   ·exact wp_exit (Ep (Ep (Gr (Tn (⟨h,S.nf [true] rfl trivial⟩)))))
 clear S h;rintro a w6 ⟨h,S⟩;rw [hj2] at h;clear hj2 j2
 obtain rfl:=Option.some.inj h
 exact Ri S results179 ⟨(S.holds _ (List.mem_of_getElem? (i:=0) rfl)),rfl⟩
theorem Ss (w : World) (Ay : Value) (Ac : List Eb) (Ci : (LEnt.own Ay 127 4 Ac.length (Ac.flatMap Eb.enc)).holds w) (Bd : Nat) (Bw : Int) (Ce : (view w (Ay.ownBlock.toList)) Bd = some (.cells [iV Bw].toArray 3 (0,0))) (r : (List Eb)) (h : Je Ac Bw = some r) :
    Calls prog 163 [Ay,.func (.func 164) #[] #[.pointer (some ⟨Bd,0,none⟩)]].toArray w (Ret w (Ay.ownBlock.toList) fun _ v w'=>(LEnt.own Ay 127 4 r.length (r.flatMap Eb.enc)).holds w' ∧ v = .tuple #[]):=by
 refine Lb (Ay.ownBlock.toList) [.own Ay 127 4 Ac.length (Ac.flatMap Eb.enc)] func163 rfl ntmps163 rfl (fun e he=>by simp only [List.mem_singleton] at he;subst he;exact Ci) (Iu _) (Js _) fun a S=>?_
 unfold Je at h
 replace S:=(S.nl [.own Ay 127 4 Ac.length (Ac.flatMap Eb.enc)] [true] rfl).k2 0 1 rfl
 refine Fg (Vm S rfl rfl fun a S=>Vm S rfl rfl fun a S=>lv S (Fq Te (S.tm rfl) (Oh (S.own_at (i:=0) rfl))) rfl fun a S=>Vm S rfl rfl ?_);clear S;intro a S
 obtain ⟨r1,hr1,h⟩:=Fd h
 refine Mr 0 S rfl (fun _=>.own Ay 127 4 r1.length (r1.flatMap Eb.enc)) (fun _=>Ea (vs:=[Ay,iV (Ac.length : Int),.func (.func 164) #[] #[.pointer (some ⟨Bd,0,none⟩)]]) ⟨(S.tm rfl),(S.tm rfl),(S.tm rfl),trivial⟩ call179) (Tf _ Ay Ac (S.holds _ (List.mem_of_getElem? (i:=0) rfl)) (Ac.length : Int) Bd Bw ((S.le_arg (Ji (i:=0) (e:=.own Ay 127 4 Ac.length (Ac.flatMap Eb.enc)) rfl)) _ _ Ce) _ hr1) rfl (fun _ _ _ h=>⟨h.1,fun _ hc=>hc⟩) ?_;clear S;intro v1 a w1 hv1 hk1 hn1 S
 replace hv1:=hv1.2
 subst hv1
 refine Ld ?_
 obtain rfl:=Option.some.inj h
 exact Ri S results163 ⟨(S.holds _ (List.mem_of_getElem? (i:=0) rfl)),rfl⟩
end Go.Proofs.YtancihamhcdboaaGreatDoor
