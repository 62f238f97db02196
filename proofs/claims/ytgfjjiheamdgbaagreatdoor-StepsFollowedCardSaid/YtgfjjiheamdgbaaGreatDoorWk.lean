/- Each Go function computes its plain twin,by program. -/
import Derived.Test.YtgfjjiheamdgbaaGreatDoorWk2
namespace Go.Proofs.YtgfjjiheamdgbaaGreatDoor
open Go
open Go.Proofs.Tryz
theorem Sl (w : World) (r : Bool) (h : La = some r) :
    Calls prog 26 [].toArray w (Ret w [] fun _ v _=>v = bV r):=by
 refine Fe func26 rfl ntmps26 rfl fun a S=>?_
 unfold La at h
 replace S:=S.k0
 refine Fr (Vk S rfl rfl fun a S=>Dz (lv S (Rb bt_58 (pv:=[(0,sV k_k),(1,sV k_r),(4,iV 9)]) ⟨rfl,rfl,rfl,rfl,rfl,rfl,trivial⟩ (cs:=[sV k_k,sV k_r,.slice none 0 0,iV 0,iV 9]) (by kernel_rfl)) rfl fun a S=>De S underlying26 sizeOf58 zeroValue58 rfl rfl (pv:=[(0,.agg #[sV k_k,sV k_r,.slice none 0 0,iV 0,iV 9])]) ⟨rfl,(S.tm rfl),trivial⟩ (cs:=[sV k_k,sV k_r,.slice none 0 0,iV 0,iV 9]) (by kernel_rfl) rfl ?_));clear S;intro a w1 b1 hz1 hk1 S
 refine lv S (Rb Zy (pv:=[(1,iV 1),(2,sV k_i),(3,sV k_a),(5,sV k_r),(7,iV 5)]) ⟨rfl,rfl,rfl,rfl,rfl,rfl,rfl,rfl,rfl,rfl,trivial⟩ (cs:=[iV 0,iV 1,sV k_i,sV k_a,sV Cj,sV k_r,iV 0,iV 5]) (by kernel_rfl)) rfl ?_;clear S;intro a S
 have hr1 : Fn (Hg nov) ([(Ef.mk k_k k_r ([] : List ByteArray) 0 9)] : List Ef) ([(R58.mk k_k k_r ⟨.slice none 0 0,rfl⟩ 0 9)] : List R58):=(Fn.cons ⟨⟨.slice none 0 0,rfl⟩,rfl,(Tv _ _)⟩ Fn.nil)
 replace S:=S.litOwn (i:=0) (xs:=([(R58.mk k_k k_r ⟨.slice none 0 0,rfl⟩ 0 9)] : List R58)) rfl R58.enc_ok rfl rfl rfl
 replace S:=S.nk [.own (.slice (some ⟨b1,0,none⟩) 1 1) 58 5 ([(R58.mk k_k k_r ⟨.slice none 0 0,rfl⟩ 0 9)] : List R58).length (([(R58.mk k_k k_r ⟨.slice none 0 0,rfl⟩ 0 9)] : List R58).flatMap R58.enc)] [(0,bV false),(4,.agg #[sV k_k,sV k_r,.slice none 0 0,iV 0,iV 9]),(5,(.slice (some ⟨b1,0,none⟩) 1 1)),(6,.agg (An.enc (An.mk 0 1 k_i k_a Cj k_r 0 5)).toArray)] [] rfl (subR rfl)
 obtain ⟨r1,hr2,h⟩:=Eh h
 have hz2:=S.keep.size
 refine Cy S (fun _=>Ck (vs:=[(.slice (some ⟨b1,0,none⟩) 1 1),.agg (An.enc (An.mk 0 1 k_i k_a Cj k_r 0 5)).toArray]) ⟨(S.tm rfl),(S.tm rfl),trivial⟩ call55) (Xo _ (.slice (some ⟨b1,0,none⟩) 1 1) ([(Ef.mk k_k k_r ([] : List ByteArray) 0 9)] : List Ef) ([(R58.mk k_k k_r ⟨.slice none 0 0,rfl⟩ 0 9)] : List R58) (Sd R58.enc_ok S (i:=0) rfl (Ge (e':=.own (.slice (some ⟨b1,0,none⟩) 1 1) 58 5 ([(R58.mk k_k k_r ⟨.slice none 0 0,rfl⟩ 0 9)] : List R58).length (([(R58.mk k_k k_r ⟨.slice none 0 0,rfl⟩ 0 9)] : List R58).flatMap R58.enc)))) (On (S.le_new Fp) hr1) (An.mk 0 1 k_i k_a Cj k_r 0 5) _ hr2) rfl ?_;clear S;intro v1 a w2 hv1 hk2 hn1 S
 obtain ⟨u1,rfl,ho1⟩:=hv1
 obtain ⟨φ1,hl1,hm1,S⟩:=S.see' hn1 hz2
 have hs1:=ho1.mono hm1
 refine Vm S rfl rfl fun a S=>Vq S Iq rfl rfl rfl fun a S=>Vq S Iq rfl rfl rfl fun a S=>Va S rfl rfl fun a S=>Va S rfl rfl fun a S=>Dz (Vm S rfl rfl fun a S=>Vq S Ip rfl rfl rfl ?_);clear S;intro a S
 refine Vm S rfl rfl ?_;clear S;intro a S
 obtain ⟨j1,hj1,h⟩:=Dt h
 refine Gi 4 (fun a w'=>∃ c1,j1 c1 = some r ∧ Keep [] w2 w' ∧ Sx w [] φ1 [.own (.slice (some ⟨b1,0,none⟩) 1 1) 58 5 ([(R58.mk k_k k_r ⟨.slice none 0 0,rfl⟩ 0 9)] : List R58).length (([(R58.mk k_k k_r ⟨.slice none 0 0,rfl⟩ 0 9)] : List R58).flatMap R58.enc)] [(16,bV c1)] 17 a w') ?_ ?_
 ·rcases Bool.eq_false_or_eq_true (decide (r1.2 = 0)) with hb1 | hb1
  ·replace h:=Mu h hb1
   refine Cq S rfl rfl rfl hb1 (Vm S rfl rfl fun a S=>Cq S rfl rfl rfl hb1 (De S underlying42 sizeOf9 zeroValue9 rfl rfl (pv:=[(0,sV k_k)]) ⟨rfl,rfl,trivial⟩ (cs:=[sV k_k]) (by kernel_rfl) rfl ?_));clear S;intro a w4 b2 hz3 hk3 S
   refine Cq S rfl rfl rfl hb1 ?_
   obtain ⟨r2,hr3,h⟩:=Eh h
   refine Cy S (fun _=>Ck (vs:=[u1,.slice (some ⟨b2,0,none⟩) 1 1]) ⟨(S.tm rfl),(S.tm rfl),trivial⟩ call25) (Ob _ u1 r1.1 ((Ei Ex hs1).mono (S.le_new Fp)) (.slice (some ⟨b2,0,none⟩) 1 1) [k_k] (Fy Ex S (i:=0) rfl rfl rfl rfl ((Ge (e':=.blk b2 [sV k_k] 9)) _ rfl)) _ hr3) rfl ?_;clear S;intro v2 a w5 hv2 hk4 hn2 S
   subst hv2
   exact lv S (Gb hb1 (S.tm rfl) (S.tm rfl)) rfl fun a S=>Dl (⟨_,h,(hk3).trans hk4,S.nf [false,true] rfl ⟨rfl,trivial⟩⟩)
  ·replace h:=Mv h hb1
   iterate 3 (refine Fl S rfl rfl rfl (Hq hb1) rfl ?_ rfl;clear S;intro a S)
   exact Vq S (Gc true hb1) rfl rfl rfl fun a S=>Dl (⟨_,h,Keep.refl _ _,S.nf [true] rfl ⟨rfl,trivial⟩⟩)
 clear S h;rintro a w3 ⟨c1,h,hk5,S⟩;rw [hj1] at h;clear hj1 j1
 refine Va S rfl rfl fun a S=>Dl (wp_ret ?_)
 obtain rfl:=Option.some.inj h
 exact Dx S results26 rfl rfl
theorem Ps (w : World) (Ac : Value) (Al : List Int) (Ak : Slc (view w []) 1 Ac (Al.map eInt)) (r : Bool) (h : Ki Al = some r) :
    Calls prog 3 [Ac].toArray w (Ret w [] fun _ v _=>v = bV r):=by
 refine Fe func3 rfl ntmps3 rfl fun a S=>?_
 unfold Ki at h
 replace S:=S.k1 0 rfl
 refine Fr (Vk S rfl rfl fun a S=>Dz (Vm S rfl rfl ?_));clear S;intro a S
 refine lv S (Rb bt_25 (pv:=[(0,Ac)]) ⟨rfl,(S.tm rfl),trivial⟩ (cs:=[Ac,iV 0]) (by obtain ⟨_,_,hv⟩:=(Eg Ak);rw [hv];clear hv;kernel_rfl)) rfl ?_;clear S;intro a S
 refine Oh S (S.tm rfl) (cs:=[Ac,iV 0]) rfl rfl ?_;clear S;intro a w1 b1 hz1 hk1 S
 refine Va S rfl rfl fun a S=>Dz (Vm S rfl rfl ?_);clear S;intro a S
 obtain ⟨r1,hr1,h⟩:=Eh h
 have hz2:=S.keep.size
 refine Dy 0 S (b:=b1) rfl rfl (fun _=>.blk b1 [Ac,iV r1.2] 25) (fun _=>Ck (vs:=[.pointer (some ⟨b1,0,none⟩)]) ⟨(S.tm rfl),trivial⟩ call4) (Vp _ b1 Ac Al (Ak.mono (S.le_arg (Fd (i:=0) (e:=.blk b1 [Ac,iV 0] 25) rfl))) 0 (S.holds _ (List.mem_of_getElem? (i:=0) rfl)) _ hr1) rfl (fun _ _ _ h=>⟨h.1,fun _ hc=>by cases hc;rfl⟩) ?_;clear S;intro v1 a w2 hv1 hk2 hn1 S
 replace hv1:=hv1.2
 obtain ⟨rs1,ho2,hr2⟩:=hv1
 obtain ⟨φ1,hl1,hm1,S⟩:=S.see' hn1 hz2
 have hs1:=ho2.mono hm1
 have hr3:=On (View.le_trans (Yu _ _) hm1) hr2
 refine Vm S rfl rfl fun a S=>Vm S rfl rfl ?_;clear S;intro a S
 obtain ⟨r2,hr4,h⟩:=Eh h
 refine Dy 0 S (b:=b1) rfl rfl (fun _=>.blk b1 [Ac,iV r2.2] 25) (fun _=>Ck (vs:=[.pointer (some ⟨b1,0,none⟩),iV 0,iV 14]) ⟨(S.tm rfl),rfl,rfl,trivial⟩ call6) (Pb _ b1 Ac Al (Ak.mono (S.le_arg (Fd (i:=0) (e:=.blk b1 [Ac,iV r1.2] 25) rfl))) r1.2 (S.holds _ (List.mem_of_getElem? (i:=0) rfl)) 0 14 _ hr4) rfl (fun _ _ _ h=>⟨h.1,fun _ hc=>by cases hc;rfl⟩) ?_;clear S;intro v2 a w3 hv2 hk3 hn2 S
 replace hv2:=hv2.2
 subst hv2
 obtain ⟨r3,hr5,h⟩:=Eh h
 have hz3:=S.keep.size
 refine Dy 0 S (b:=b1) rfl rfl (fun _=>.blk b1 [Ac,iV r3.2] 25) (fun _=>Ck (vs:=[.pointer (some ⟨b1,0,none⟩),iV r2.1]) ⟨(S.tm rfl),(S.tm rfl),trivial⟩ call5) (Rx _ b1 Ac Al (Ak.mono (S.le_arg (Fd (i:=0) (e:=.blk b1 [Ac,iV r2.2] 25) rfl))) r2.2 (S.holds _ (List.mem_of_getElem? (i:=0) rfl)) r2.1 _ hr5) rfl (fun _ _ _ h=>⟨h.1,fun _ hc=>by cases hc;rfl⟩) ?_;clear S;intro v3 a w4 hv3 hk4 hn3 S
 replace hv3:=hv3.2
 obtain ⟨φ2,hl2,hm2,S⟩:=S.see' hn3 hz3
 have hs2:=hv3.mono hm2
 refine Vm S rfl rfl fun a S=>Vm S rfl rfl ?_;clear S;intro a S
 obtain ⟨r4,hr6,h⟩:=Eh h
 refine Dy 0 S (b:=b1) rfl rfl (fun _=>.blk b1 [Ac,iV r4.2] 25) (fun _=>Ck (vs:=[.pointer (some ⟨b1,0,none⟩),iV 0,iV 6]) ⟨(S.tm rfl),rfl,rfl,trivial⟩ call6) (Pb _ b1 Ac Al (Ak.mono (S.le_arg (Fd (i:=0) (e:=.blk b1 [Ac,iV r3.2] 25) rfl))) r3.2 (S.holds _ (List.mem_of_getElem? (i:=0) rfl)) 0 6 _ hr6) rfl (fun _ _ _ h=>⟨h.1,fun _ hc=>by cases hc;rfl⟩) ?_;clear S;intro v4 a w5 hv4 hk5 hn4 S
 replace hv4:=hv4.2
 subst hv4
 obtain ⟨r5,hr7,h⟩:=Eh h
 have hz4:=S.keep.size
 refine Dy 0 S (b:=b1) rfl rfl (fun _=>.blk b1 [Ac,iV r5.2] 25) (fun _=>Ck (vs:=[.pointer (some ⟨b1,0,none⟩),iV r4.1]) ⟨(S.tm rfl),(S.tm rfl),trivial⟩ call5) (Rx _ b1 Ac Al (Ak.mono (S.le_arg (Fd (i:=0) (e:=.blk b1 [Ac,iV r4.2] 25) rfl))) r4.2 (S.holds _ (List.mem_of_getElem? (i:=0) rfl)) r4.1 _ hr7) rfl (fun _ _ _ h=>⟨h.1,fun _ hc=>by cases hc;rfl⟩) ?_;clear S;intro v5 a w6 hv5 hk6 hn5 S
 replace hv5:=hv5.2
 replace S:=S.take hn5 hz4 hv5
 refine Vm S rfl rfl fun a S=>De S underlying22 sizeOf3 zeroValue3 rfl rfl (pv:=[(0,iV 0),(1,iV 3),(2,iV 10),(3,iV 60),(4,iV (-1))]) ⟨rfl,rfl,rfl,rfl,rfl,rfl,rfl,rfl,rfl,rfl,trivial⟩ (cs:=[iV 0,iV 3,iV 10,iV 60,iV (-1)]) (by kernel_rfl) rfl ?_;clear S;intro a w7 b2 hz5 hk7 S
 obtain ⟨r6,hr8,h⟩:=Eh h
 refine Dy 2 S (b:=b1) rfl rfl (fun _=>.blk b1 [Ac,iV r6.2] 25) (fun _=>Ck (vs:=[.pointer (some ⟨b1,0,none⟩),.slice (some ⟨b2,0,none⟩) 5 5]) ⟨(S.tm rfl),(S.tm rfl),trivial⟩ call7) (Jz _ b1 Ac Al (Ak.mono (S.le_arg (Fd (i:=2) (e:=.blk b1 [Ac,iV r5.2] 25) rfl))) r5.2 (S.holds _ (List.mem_of_getElem? (i:=2) rfl)) (.slice (some ⟨b2,0,none⟩) 5 5) [0,3,10,60,(-1)] (Fy Kx S (i:=0) rfl rfl rfl rfl ((Jd (i:=2) (j:=0) (e:=.blk b1 [Ac,iV r5.2] 25) (e':=.blk b2 [iV 0,iV 3,iV 10,iV 60,iV (-1)] 3) S rfl rfl rfl) _ rfl)) _ hr8) rfl (fun _ _ _ h=>⟨h.1,fun _ hc=>by cases hc;rfl⟩) ?_;clear S;intro v6 a w8 hv6 hk8 hn6 S
 replace hv6:=hv6.2
 subst hv6
 iterate 4 (refine Va S rfl rfl ?_;clear S;intro a S)
 refine Ld ?_
 replace S:=(S.nl [.own v5 35 8 r5.1.length (r5.1.flatMap An.enc),.blk b1 [Ac,iV r6.2] 25] [false,true,true] rfl).k5 3 4 5 6 7 rfl
 refine Tn (Fs (Fr (Vm S rfl rfl fun a S=>lv S (En Eo (S.tm rfl) (Eg (Ei An.enc_ok hs2))) rfl fun a S=>Vq S Ix rfl rfl rfl fun a S=>Vm S rfl rfl ?_)));clear S;intro a S
 obtain ⟨j1,hj1,h⟩:=Dt h
 refine Gi 3 (fun a w'=>∃ x1 : Int,∃ x2 : Bool,j1 x1 x2 = some r ∧ Sx w [] φ2 [.own v5 35 8 r5.1.length (r5.1.flatMap An.enc),.blk b1 [Ac,iV x1] 25] [(3,.pointer (some ⟨b1,0,none⟩)),(4,v1),(5,v3),(6,v5),(7,iV r6.1),(42,bV x2)] 149 a w') ?_ ?_
 ·rcases Bool.eq_false_or_eq_true (decide (0 < (r3.1.length : Int))) with hb1 | hb1
  ·replace h:=Mu h hb1
   refine Cq S rfl rfl rfl hb1 (Vm S rfl rfl fun a S=>Cq S rfl rfl rfl hb1 ?_)
   obtain ⟨r7,hr9,h⟩:=Eh h
   refine Dy 1 S (b:=b1) rfl rfl (fun _=>.blk b1 [Ac,iV r7.2] 25) (fun _=>Ck (vs:=[.pointer (some ⟨b1,0,none⟩),iV 2]) ⟨(S.tm rfl),rfl,trivial⟩ call8) (Jy _ b1 Ac Al (Ak.mono (S.le_arg (Fd (i:=1) (e:=.blk b1 [Ac,iV r6.2] 25) rfl))) r6.2 (S.holds _ (List.mem_of_getElem? (i:=1) rfl)) 2 _ hr9) rfl (fun _ _ _ h=>⟨h.1,fun _ hc=>by cases hc;rfl⟩) ?_;clear S;intro v7 a w10 hv7 hk9 hn7 S
   replace hv7:=hv7.2
   subst hv7
   exact lv S (Nm hb1 (S.tm rfl) (S.tm rfl)) rfl fun a S=>Dl (⟨r7.2,r7.1,h,S.nf [true,true] rfl (subR rfl)⟩)
  ·replace h:=Mv h hb1
   exact Fl S rfl rfl rfl (Hq hb1) rfl (fun a S=>Fl S rfl rfl rfl (Hq hb1) rfl (fun a S=>Vq S (Nn hb1) rfl rfl rfl fun a S=>Dl (⟨r6.2,false,h,S.nf [true,true] rfl (subR rfl)⟩)) rfl) rfl
 clear S h;rintro a w9 ⟨x1,x2,h,S⟩;rw [hj1] at h;clear hj1 j1
 refine Dl ?_
 obtain ⟨j2,hj2,h⟩:=Dt h
 refine Dj (fun a w'=>∃ x3 : List An,∃ v8 : Value,j2 x3 = some r ∧ Sx w [] φ2 [.own v8 35 8 x3.length (x3.flatMap An.enc)] [(4,v1),(5,v3),(6,v8),(7,iV r6.1)] 149 a w') ?_ ?_
 ·refine Fc h (S.tm rfl) (fun hb2 h=>?_) (fun hb2 h=>?_)
  ·refine Fs (Fg ?_)
   iterate 3 (refine Vm S rfl rfl ?_;clear S;intro a S)
   refine lv S (En Eo (S.tm rfl) (Eg (Ei An.enc_ok hs2))) rfl ?_;clear S;intro a S
   obtain ⟨r8,hr10,h⟩:=Eh h
   refine Dy 1 S (b:=b1) rfl rfl (fun _=>.blk b1 [Ac,iV r8.2] 25) (fun _=>Ck (vs:=[.pointer (some ⟨b1,0,none⟩),iV (r3.1.length : Int)]) ⟨(S.tm rfl),(S.tm rfl),trivial⟩ call10) (Kt _ b1 Ac Al (Ak.mono (S.le_arg (Fd (i:=1) (e:=.blk b1 [Ac,iV x1] 25) rfl))) x1 (S.holds _ (List.mem_of_getElem? (i:=1) rfl)) (r3.1.length : Int) _ hr10) rfl (fun _ _ _ h=>⟨h.1,fun _ hc=>by cases hc;rfl⟩) ?_;clear S;intro v9 a w12 hv8 hk10 hn8 S
   replace hv8:=hv8.2
   subst hv8
   obtain ⟨hc1,h⟩:=Gz h
   obtain ⟨v10,hs3,hr11⟩:=DQ (a:=a) (x:=.tmp 43) (y:=.tmp 47) (ty:=28) Eo (Ei An.enc_ok hs2) (S.tm rfl) (S.tm rfl) hc1
   refine lv S (hr11 _) rfl ?_;clear S;intro a S
   clear hr11
   obtain ⟨r9,hr12,h⟩:=Eh h
   have hz6:=S.keep.size
   refine Cy S (fun _=>Ck (vs:=[v10]) ⟨(S.tm rfl),trivial⟩ call9) (Ou _ v10 (cut r3.1 r8.1 r3.1.length) (hs3.mono (S.le_new Fp)) _ hr12) rfl ?_;clear S;intro v11 a w13 hv9 hk11 hn9 S
   replace S:=S.take hn9 hz6 hv9
   refine Va S rfl rfl fun a S=>Dz (Vm S rfl rfl ?_);clear S;intro a S
   obtain ⟨r10,hr13,h⟩:=Eh h
   refine Dy 2 S (b:=b1) rfl rfl (fun _=>.blk b1 [Ac,iV r10.2] 25) (fun _=>Ck (vs:=[.pointer (some ⟨b1,0,none⟩),iV 4]) ⟨(S.tm rfl),rfl,trivial⟩ call8) (Jy _ b1 Ac Al (Ak.mono (S.le_arg (Fd (i:=2) (e:=.blk b1 [Ac,iV r8.2] 25) rfl))) r8.2 (S.holds _ (List.mem_of_getElem? (i:=2) rfl)) 4 _ hr13) rfl (fun _ _ _ h=>⟨h.1,fun _ hc=>by cases hc;rfl⟩) ?_;clear S;intro v12 a w14 hv10 hk12 hn10 S
   replace hv10:=hv10.2
   subst hv10
   refine Ld ?_
   replace S:=(S.nl [.own v11 35 8 r9.length (r9.flatMap An.enc)] [true,false,false] rfl).k5 4 5 6 7 51 rfl
   refine Tn ?_
   obtain ⟨j3,hj3,h⟩:=Dt h
   refine Dj (fun a w'=>∃ x4 : List An,j3 x4 = some r ∧ Sx w [] φ2 [.own v11 35 8 x4.length (x4.flatMap An.enc)] [(4,v1),(5,v3),(6,v11),(7,iV r6.1)] 149 a w') ?_ ?_
   ·refine Fc h (S.tm rfl) (fun hb3 h=>?_) (fun hb3 h=>?_)
    ·refine Fg (Vm S rfl rfl ?_);clear S;intro a S
     obtain ⟨hc2,h⟩:=Gz h
     obtain ⟨b3,hg1,hr14⟩:=Fj (a:=a) (x:=.tmp 52) (y:=.const (iV 0)) (ty:=0) Eo An.enc_ok S (i:=0) rfl (Ct hc2).1 (Ct hc2).2 (S.tm rfl) rfl
     refine lv S (hr14 _) rfl ?_;clear S;intro a S
     clear hr14
     refine Vf Uc S rfl rfl fun a S=>lv S (Hr isAgg3 (off:=((0 : Int).toNat) * 8) (o:=7) (S.tm rfl) (Mo An.enc_ok S (i:=0) rfl hg1 (Ct hc2).1) rfl) rfl fun a S=>Vq S Ew rfl rfl rfl ?_;clear S;intro a S
     obtain ⟨hc3,h⟩:=Gz h
     obtain ⟨b4,hg2,hr15⟩:=Fj (a:=a) (x:=.tmp 52) (y:=.const (iV 0)) (ty:=0) Eo An.enc_ok S (i:=0) rfl (Ct hc3).1 (Ct hc3).2 (S.tm rfl) rfl
     refine lv S (hr15 _) rfl ?_;clear S;intro a S
     clear hr15
     refine Vf Uc S rfl rfl fun a S=>Ia (c:=7) (j:=(0 : Int).toNat) (An.mk ((nth r9 0).At) ((nth r9 0).Kind) ((nth r9 0).Id) ((nth r9 0).Who) ((nth r9 0).Club) ((nth r9 0).Race) ((nth r9 0).Age) (W (((nth r9 0).Time) + 1))) An.enc_ok S (S.tm rfl) (S.tm rfl) (i:=0) rfl hg2 (Ct hc3).1 sizeOf3 (vs:=[iV (W (((nth r9 0).Time) + 1))]) rfl rfl rfl rfl rfl ?_;clear S;intro w17 hk14 S
     exact Dl (⟨(r9.set ((0 : Int).toNat) (An.mk ((nth r9 0).At) ((nth r9 0).Kind) ((nth r9 0).Id) ((nth r9 0).Who) ((nth r9 0).Club) ((nth r9 0).Race) ((nth r9 0).Age) (W (((nth r9 0).Time) + 1)))),h,S.nf [true] rfl (subR rfl)⟩)
    ·exact wp_skip (Tn (⟨r9,h,S.nf [true] rfl (subR rfl)⟩))
   clear S h;rintro a w15 ⟨x4,h,S⟩;rw [hj3] at h;clear hj3 j3
   exact Tn (⟨x4,v11,h,S.nf [true] rfl (subR rfl)⟩)
  ·exact wp_skip (Tn (⟨r5.1,v5,h,S.nf [true,false] rfl (subR rfl)⟩))
 clear S h;rintro a w11 ⟨x3,v8,h,S⟩;rw [hj2] at h;clear hj2 j2
 refine Tn (Fr (Vm S rfl rfl fun a S=>Vm S rfl rfl ?_));clear S;intro a S
 obtain ⟨r11,hr16,h⟩:=Eh h
 have hz7:=S.keep.size
 refine Cy S (fun _=>Ck (vs:=[v3,v8]) ⟨(S.tm rfl),(S.tm rfl),trivial⟩ call11) (Vs _ v3 r3.1 ((Ei An.enc_ok hs2).mono (S.le_new Fp)) v8 x3 (Sd An.enc_ok S (i:=0) rfl (Ge (e':=.own v8 35 8 x3.length (x3.flatMap An.enc)))) _ hr16) rfl ?_;clear S;intro v13 a w18 hv11 hk15 hn11 S
 obtain ⟨u5,rfl,ho6⟩:=hv11
 obtain ⟨φ3,hl3,hm5,S⟩:=S.see' hn11 hz7
 have hs4:=ho6.mono hm5
 refine Vm S rfl rfl fun a S=>Vq S Iq rfl rfl rfl fun a S=>Vq S Iq rfl rfl rfl fun a S=>Va S rfl rfl fun a S=>Va S rfl rfl fun a S=>Dz (Vm S rfl rfl ?_);clear S;intro a S
 obtain ⟨r12,hr17,h⟩:=Eh h
 have hz8:=S.keep.size
 refine Cy S (fun _=>Ck (vs:=[v3]) ⟨(S.tm rfl),trivial⟩ call12) (Ud _ v3 r3.1 ((Ei An.enc_ok hs2).mono (View.le_trans hl3 (S.le_new Fp))) _ hr17) rfl ?_;clear S;intro v14 a w19 hv12 hk16 hn12 S
 obtain ⟨u6,rfl,ho7⟩:=hv12
 obtain ⟨φ4,hl4,hm6,S⟩:=S.see' hn12 hz8
 have hs5:=ho7.mono hm6
 refine Vm S rfl rfl fun a S=>Vq S Iq rfl rfl rfl fun a S=>Vq S Iq rfl rfl rfl fun a S=>Va S rfl rfl fun a S=>Va S rfl rfl fun a S=>Ld ?_
 replace S:=S.k8 4 5 6 7 8 9 10 11 rfl
 refine Tn (Fr (Vm S rfl rfl fun a S=>Vm S rfl rfl ?_));clear S;intro a S
 obtain ⟨r13,hr18,h⟩:=Eh h
 have hz9:=S.keep.size
 refine Cy S (fun _=>Ck (vs:=[v3,iV r6.1]) ⟨(S.tm rfl),(S.tm rfl),trivial⟩ call13) (Wy _ v3 r3.1 ((Ei An.enc_ok hs2).mono (View.le_trans (View.le_trans hl3 hl4) (S.le_new Fp))) r6.1 _ hr18) rfl ?_;clear S;intro v15 a w20 hv13 hk17 hn13 S
 obtain ⟨u7,rfl,ho8⟩:=hv13
 obtain ⟨φ5,hl5,hm7,S⟩:=S.see' hn13 hz9
 have hs6:=ho8.mono hm7
 refine Vm S rfl rfl fun a S=>Vq S Iq rfl rfl rfl fun a S=>Vq S Iq rfl rfl rfl fun a S=>Va S rfl rfl fun a S=>Va S rfl rfl fun a S=>Ld ?_
 replace S:=S.k10 4 5 6 7 8 9 10 11 12 13 rfl
 refine Tn (Fr (Vm S rfl rfl ?_));clear S;intro a S
 obtain ⟨r14,hr19,h⟩:=Eh h
 refine Cy S (fun _=>Ck (vs:=[v3]) ⟨(S.tm rfl),trivial⟩ call14) (Oa _ v3 r3.1 ((Ei An.enc_ok hs2).mono (View.le_trans (View.le_trans (View.le_trans hl3 hl4) hl5) (S.le_new Fp))) _ hr19) rfl ?_;clear S;intro v16 a w21 hv14 hk18 hn14 S
 subst hv14
 refine Va S rfl rfl fun a S=>Dz (Vm S rfl rfl fun a S=>Vm S rfl rfl ?_);clear S;intro a S
 obtain ⟨r15,hr20,h⟩:=Eh h
 refine Cy S (fun _=>Ck (vs:=[v8]) ⟨(S.tm rfl),trivial⟩ call14) (Oa _ v8 x3 (Sd An.enc_ok S (i:=0) rfl (Ge (e':=.own v8 35 8 x3.length (x3.flatMap An.enc)))) _ hr20) rfl ?_;clear S;intro v17 a w22 hv15 hk19 hn15 S
 subst hv15
 refine De S underlying75 sizeOf37 zeroValue37 rfl rfl (pv:=[(0,iV r14),(1,iV r15)]) ⟨rfl,(S.tm rfl),rfl,(S.tm rfl),trivial⟩ (cs:=[iV r14,iV r15]) (by kernel_rfl) rfl ?_;clear S;intro a w23 b5 hz10 hk20 S
 refine Cy S (fun _=>Ck (vs:=[.slice (some ⟨b5,0,none⟩) 2 2]) ⟨(S.tm rfl),trivial⟩ call15) (Qp _ (.slice (some ⟨b5,0,none⟩) 2 2) [r14,r15] (Fy Kx S (i:=0) rfl rfl rfl rfl ((Ge (e':=.blk b5 [iV r14,iV r15] 37)) _ rfl)) _ rfl) rfl ?_;clear S;intro v18 a w24 hv16 hk21 hn16 S
 subst hv16
 refine Vm S rfl rfl fun a S=>Vm S rfl rfl fun a S=>Cy S (fun _=>Ck (vs:=[iV r6.1]) ⟨(S.tm rfl),trivial⟩ call16) (Qq _ r6.1 _ rfl) rfl ?_;clear S;intro v19 a w25 hv17 hk22 hn17 S
 subst hv17
 refine De S underlying75 sizeOf37 zeroValue37 rfl rfl (pv:=[(0,iV r14),(1,iV (Dd r6.1))]) ⟨rfl,(S.tm rfl),rfl,(S.tm rfl),trivial⟩ (cs:=[iV r14,iV (Dd r6.1)]) (by kernel_rfl) rfl ?_;clear S;intro a w26 b6 hz11 hk23 S
 refine Cy S (fun _=>Ck (vs:=[.slice (some ⟨b6,0,none⟩) 2 2]) ⟨(S.tm rfl),trivial⟩ call15) (Qp _ (.slice (some ⟨b6,0,none⟩) 2 2) [r14,(Dd r6.1)] (Fy Kx S (i:=0) rfl rfl rfl rfl ((Ge (e':=.blk b6 [iV r14,iV (Dd r6.1)] 37)) _ rfl)) _ rfl) rfl ?_;clear S;intro v20 a w27 hv18 hk24 hn18 S
 subst hv18
 refine Va S rfl rfl fun a S=>Va S rfl rfl fun a S=>Ld ?_
 replace S:=(S.nl [.own v8 35 8 x3.length (x3.flatMap An.enc)] [false,false,true] rfl).k13 4 5 6 7 8 9 10 11 12 13 14 15 16 rfl
 refine Tn (Fr (Vk S rfl rfl fun a S=>Dl (Fs (Fr (Vm S rfl rfl fun a S=>Vq S Ip rfl rfl rfl ?_)))));clear S;intro a S
 refine Ld ?_
 replace S:=S.k15 4 5 6 7 8 9 10 11 12 13 14 15 16 17 89 rfl
 refine Tn ?_
 obtain ⟨j4,hj4,h⟩:=Dt h
 refine Dj (fun a w'=>∃ x5 : Int,∃ x6 : List An,∃ φ6 : View,∃ v21 : Value,j4 x5 x6 = some r ∧ View.le φ5 φ6 ∧ Le φ6 35 8 v21 x6.length (x6.flatMap An.enc) ∧ Sx w [] φ6 [] [(4,v1),(5,v3),(7,iV r6.1),(8,u5),(9,iV r11.2),(10,u6),(11,iV r12.2),(12,u7),(13,iV r13.2),(14,iV r14),(15,iV x5),(16,iV (Du [r14,(Dd r6.1)])),(17,v21)] 149 a w') ?_ ?_
 ·refine Fc h (S.tm rfl) (fun hb4 h=>?_) (fun hb4 h=>?_)
  ·refine Fg (Vm S rfl rfl fun a S=>Vm S rfl rfl ?_);clear S;intro a S
   obtain ⟨r16,hr21,h⟩:=Eh h
   have hz12:=S.keep.size
   refine Cy S (fun _=>Ck (vs:=[v3,v8]) ⟨(S.tm rfl),(S.tm rfl),trivial⟩ call17) (Sz _ v3 r3.1 ((Ei An.enc_ok hs2).mono (View.le_trans (View.le_trans (View.le_trans hl3 hl4) hl5) (S.le_new Fp))) v8 x3 (Sd An.enc_ok S (i:=0) rfl (Ge (e':=.own v8 35 8 x3.length (x3.flatMap An.enc)))) _ hr21) rfl ?_;clear S;intro v22 a w29 hv19 hk25 hn19 S
   obtain ⟨u8,rfl,ho9⟩:=hv19
   obtain ⟨φ7,hl7,hm8,S⟩:=S.see' hn19 hz12
   have hs8:=ho9.mono hm8
   refine Vm S rfl rfl fun a S=>Vq S Iq rfl rfl rfl fun a S=>Vq S Iq rfl rfl rfl fun a S=>Va S rfl rfl fun a S=>Va S rfl rfl fun a S=>Ld ?_
   replace S:=S.n0.k13 4 5 7 8 9 10 11 12 13 14 15 16 17 rfl
   exact Tn (⟨r16.2,r16.1,φ7,u8,h,hl7,hs8,S.nf [] rfl (subR rfl)⟩)
  ·exact wp_skip (Tn (⟨(Du [r14,r15]),([] : List An),φ5,.slice none 0 0,h,(View.le_refl _),(Jv _ _ _),S.nf [false] rfl (subR rfl)⟩))
 clear S h;rintro a w28 ⟨x5,x6,φ6,v21,h,hl6,hs7,S⟩;rw [hj4] at h;clear hj4 j4
 refine Tn (Fr (Vk S rfl rfl fun a S=>Dl (Fs (Fr (Vm S rfl rfl fun a S=>Vq S Ip rfl rfl rfl ?_)))));clear S;intro a S
 refine Ld ?_
 replace S:=S.k15 4 5 7 8 9 10 11 12 13 14 15 16 17 18 97 rfl
 refine Tn ?_
 obtain ⟨j5,hj5,h⟩:=Dt h
 refine Dj (fun a w'=>∃ x7 : List Int,∃ φ8 : View,∃ v23 : Value,j5 x7 = some r ∧ View.le φ6 φ8 ∧ Le φ8 3 1 v23 x7.length (x7.flatMap eInt) ∧ Sx w [] φ8 [] [(4,v1),(5,v3),(7,iV r6.1),(8,u5),(9,iV r11.2),(10,u6),(11,iV r12.2),(12,u7),(13,iV r13.2),(14,iV r14),(15,iV x5),(16,iV (Du [r14,(Dd r6.1)])),(17,v21),(18,v23)] 149 a w') ?_ ?_
 ·refine Fc h (S.tm rfl) (fun hb5 h=>?_) (fun hb5 h=>?_)
  ·refine Fg (Vm S rfl rfl ?_);clear S;intro a S
   obtain ⟨r17,hr22,h⟩:=Eh h
   have hz13:=S.keep.size
   refine Cy S (fun _=>Ck (vs:=[v3]) ⟨(S.tm rfl),trivial⟩ call18) (Qb _ v3 r3.1 ((Ei An.enc_ok hs2).mono (View.le_trans (View.le_trans (View.le_trans (View.le_trans hl3 hl4) hl5) hl6) (S.le_new Fp))) _ hr22) rfl ?_;clear S;intro v24 a w31 hv20 hk26 hn20 S
   obtain ⟨φ9,hl9,hm9,S⟩:=S.see' hn20 hz13
   have hs10:=hv20.mono hm9
   refine Va S rfl rfl fun a S=>Ld ?_
   replace S:=S.k14 4 5 7 8 9 10 11 12 13 14 15 16 17 18 rfl
   exact Tn (⟨r17,φ9,v24,h,hl9,hs10,S.nf [] rfl (subR rfl)⟩)
  ·exact wp_skip (Tn (⟨([] : List Int),φ6,.slice none 0 0,h,(View.le_refl _),(Jv _ _ _),S.nf [] rfl (subR rfl)⟩))
 clear S h;rintro a w30 ⟨x7,φ8,v23,h,hl8,hs9,S⟩;rw [hj5] at h;clear hj5 j5
 refine Tn (Fr (Vk S rfl rfl fun a S=>Ld ?_))
 replace S:=S.k15 4 5 7 8 9 10 11 12 13 14 15 16 17 18 19 rfl
 refine Tn (Fs (Fr (Vm S rfl rfl fun a S=>Vq S Ip rfl rfl rfl fun a S=>Ld ?_)))
 replace S:=S.k16 4 5 7 8 9 10 11 12 13 14 15 16 17 18 19 101 rfl
 refine Tn ?_
 obtain ⟨j6,hj6,h⟩:=Dt h
 refine Dj (fun a w'=>∃ x8 : List ByteArray,∃ φ10 : View,∃ v25 : Value,j6 x8 = some r ∧ View.le φ8 φ10 ∧ Le φ10 9 1 v25 x8.length (x8.flatMap Kh) ∧ Sx w [] φ10 [] [(4,v1),(5,v3),(8,u5),(9,iV r11.2),(10,u6),(11,iV r12.2),(12,u7),(13,iV r13.2),(14,iV r14),(15,iV x5),(16,iV (Du [r14,(Dd r6.1)])),(17,v21),(18,v23),(19,v25)] 149 a w') ?_ ?_
 ·refine Fc h (S.tm rfl) (fun hb6 h=>?_) (fun hb6 h=>?_)
  ·refine Fg (Vm S rfl rfl fun a S=>Vm S rfl rfl ?_);clear S;intro a S
   obtain ⟨r18,hr23,h⟩:=Eh h
   have hz14:=S.keep.size
   refine Cy S (fun _=>Ck (vs:=[v3,iV r6.1]) ⟨(S.tm rfl),(S.tm rfl),trivial⟩ call19) (Tl _ v3 r3.1 ((Ei An.enc_ok hs2).mono (View.le_trans (View.le_trans (View.le_trans (View.le_trans (View.le_trans hl3 hl4) hl5) hl6) hl8) (S.le_new Fp))) r6.1 _ hr23) rfl ?_;clear S;intro v26 a w33 hv21 hk27 hn21 S
   obtain ⟨φ11,hl11,hm10,S⟩:=S.see' hn21 hz14
   have hs12:=hv21.mono hm10
   refine Va S rfl rfl fun a S=>Ld ?_
   replace S:=S.k14 4 5 8 9 10 11 12 13 14 15 16 17 18 19 rfl
   exact Tn (⟨r18,φ11,v26,h,hl11,hs12,S.nf [] rfl (subR rfl)⟩)
  ·exact wp_skip (Tn (⟨([] : List ByteArray),φ8,.slice none 0 0,h,(View.le_refl _),(Jv _ _ _),S.nf [] rfl (subR rfl)⟩))
 clear S h;rintro a w32 ⟨x8,φ10,v25,h,hl10,hs11,S⟩;rw [hj6] at h;clear hj6 j6
 refine Tn (Fr (Vm S rfl rfl ?_));clear S;intro a S
 obtain ⟨r19,hr24,h⟩:=Eh h
 refine Cy S (fun _=>Ck (vs:=[v1]) ⟨(S.tm rfl),trivial⟩ call20) (Ov _ v1 r1.1 rs1 ((Ei R58.enc_ok hs1).mono (View.le_trans (View.le_trans (View.le_trans (View.le_trans (View.le_trans (View.le_trans (View.le_trans hl2 hl3) hl4) hl5) hl6) hl8) hl10) (S.le_new Fp))) (On (View.le_trans (View.le_trans (View.le_trans (View.le_trans (View.le_trans (View.le_trans (View.le_trans hl2 hl3) hl4) hl5) hl6) hl8) hl10) (S.le_new Fp)) hr3) _ hr24) rfl ?_;clear S;intro v27 a w34 hv22 hk28 hn22 S
 subst hv22
 refine Vm S rfl rfl ?_;clear S;intro a S
 obtain ⟨r20,hr25,h⟩:=Eh h
 refine Cy S (fun _=>Ck (vs:=[v1]) ⟨(S.tm rfl),trivial⟩ call21) (Ri _ v1 r1.1 rs1 ((Ei R58.enc_ok hs1).mono (View.le_trans (View.le_trans (View.le_trans (View.le_trans (View.le_trans (View.le_trans (View.le_trans hl2 hl3) hl4) hl5) hl6) hl8) hl10) (S.le_new Fp))) (On (View.le_trans (View.le_trans (View.le_trans (View.le_trans (View.le_trans (View.le_trans (View.le_trans hl2 hl3) hl4) hl5) hl6) hl8) hl10) (S.le_new Fp)) hr3) _ hr25) rfl ?_;clear S;intro v28 a w35 hv23 hk29 hn23 S
 subst hv23
 refine Vb S Ip rfl rfl rfl fun a S=>Vm S rfl rfl ?_;clear S;intro a S
 obtain ⟨j7,hj7,h⟩:=Dt h
 refine Gi 5 (fun a w'=>∃ c1,j7 c1 = some r ∧ Keep [] w35 w' ∧ Sx w [] φ10 [] [(8,u5),(9,iV r11.2),(10,u6),(11,iV r12.2),(12,u7),(13,iV r13.2),(14,iV r14),(15,iV x5),(16,iV (Du [r14,(Dd r6.1)])),(17,v21),(18,v23),(19,v25),(115,bV c1)] 149 a w') ?_ ?_
 ·rcases Bool.eq_false_or_eq_true (decide (r19 = r20)) with hb7 | hb7
  ·replace h:=Mu h hb7
   refine Cq S rfl rfl rfl hb7 (Vm S rfl rfl fun a S=>Cq S rfl rfl rfl hb7 ?_)
   obtain ⟨r21,hr26,h⟩:=Eh h
   refine Cy S (fun _=>Ck (vs:=[v3]) ⟨(S.tm rfl),trivial⟩ call22) (Ka _ v3 r3.1 ((Ei An.enc_ok hs2).mono (View.le_trans (View.le_trans (View.le_trans (View.le_trans (View.le_trans (View.le_trans hl3 hl4) hl5) hl6) hl8) hl10) (S.le_new Fp))) _ hr26) rfl ?_;clear S;intro v29 a w37 hv24 hk30 hn24 S
   subst hv24
   exact Cq S rfl rfl rfl hb7 (Vm S rfl rfl fun a S=>Cq S rfl rfl rfl hb7 (Vb S Ip rfl rfl rfl fun a S=>lv S (Gb hb7 (S.tm rfl) (S.tm rfl)) rfl fun a S=>Dl (⟨_,h,hk30,S.nf [] rfl (subR rfl)⟩)))
  ·replace h:=Mv h hb7
   iterate 4 (refine Fl S rfl rfl rfl (Hq hb7) rfl ?_ rfl;clear S;intro a S)
   exact Vq S (Gc true hb7) rfl rfl rfl fun a S=>Dl (⟨_,h,Keep.refl _ _,S.nf [] rfl (subR rfl)⟩)
 clear S h;rintro a w36 ⟨c1,h,hk31,S⟩;rw [hj7] at h;clear hj7 j7
 refine Vm S rfl rfl fun a S=>Gi 4 (fun a w'=>Keep [] w36 w' ∧ Sx w [] φ10 [] [(8,u5),(10,u6),(11,iV r12.2),(12,u7),(13,iV r13.2),(14,iV r14),(16,iV (Du [r14,(Dd r6.1)])),(17,v21),(18,v23),(19,v25),(120,bV (c1 && (decide (r11.2 = x5))))] 149 a w') ?_ ?_
 ·rcases Bool.eq_false_or_eq_true c1 with hb8 | hb8
  ·exact Cq S rfl rfl rfl hb8 (Vm S rfl rfl fun a S=>Cq S rfl rfl rfl hb8 (Vm S rfl rfl fun a S=>Cq S rfl rfl rfl hb8 (Vb S Ip rfl rfl rfl fun a S=>lv S (Gb hb8 (S.tm rfl) (S.tm rfl)) rfl fun a S=>Dl (⟨Keep.refl _ _,S.nf [] rfl (subR rfl)⟩))))
  ·iterate 3 (refine Fl S rfl rfl rfl (Hq hb8) rfl ?_ rfl;clear S;intro a S)
   exact lv S (Gc (decide (r11.2 = x5)) hb8 (S.tm rfl) rfl) rfl fun a S=>Dl (⟨Keep.refl _ _,S.nf [] rfl (subR rfl)⟩)
 clear S;rintro a w38 ⟨hk32,S⟩
 refine Vm S rfl rfl ?_;clear S;intro a S
 obtain ⟨j8,hj8,h⟩:=Dt h
 refine Gi 4 (fun a w'=>∃ c2,j8 c2 = some r ∧ Keep [] w38 w' ∧ Sx w [] φ10 [] [(10,u6),(11,iV r12.2),(12,u7),(13,iV r13.2),(14,iV r14),(16,iV (Du [r14,(Dd r6.1)])),(18,v23),(19,v25),(125,bV c2)] 149 a w') ?_ ?_
 ·rcases Bool.eq_false_or_eq_true (c1 && (decide (r11.2 = x5))) with hb9 | hb9
  ·replace h:=Mu h hb9
   refine Cq S rfl rfl rfl hb9 (Vm S rfl rfl fun a S=>Cq S rfl rfl rfl hb9 (Vm S rfl rfl fun a S=>Cq S rfl rfl rfl hb9 ?_))
   obtain ⟨r22,hr27,h⟩:=Eh h
   refine Cy S (fun _=>Ck (vs:=[u5,v21]) ⟨(S.tm rfl),(S.tm rfl),trivial⟩ call23) (Sk _ u5 r11.1 ((Ei An.enc_ok hs4).mono (View.le_trans (View.le_trans (View.le_trans (View.le_trans (View.le_trans hl4 hl5) hl6) hl8) hl10) (S.le_new Fp))) v21 x6 ((Ei An.enc_ok hs7).mono (View.le_trans (View.le_trans hl8 hl10) (S.le_new Fp))) _ hr27) rfl ?_;clear S;intro v30 a w40 hv25 hk33 hn25 S
   subst hv25
   exact lv S (Gb hb9 (S.tm rfl) (S.tm rfl)) rfl fun a S=>Dl (⟨_,h,hk33,S.nf [] rfl (subR rfl)⟩)
  ·replace h:=Mv h hb9
   iterate 3 (refine Fl S rfl rfl rfl (Hq hb9) rfl ?_ rfl;clear S;intro a S)
   exact Vq S (Gc true hb9) rfl rfl rfl fun a S=>Dl (⟨_,h,Keep.refl _ _,S.nf [] rfl (subR rfl)⟩)
 clear S h;rintro a w39 ⟨c2,h,hk34,S⟩;rw [hj8] at h;clear hj8 j8
 refine Vm S rfl rfl fun a S=>Gi 4 (fun a w'=>Keep [] w39 w' ∧ Sx w [] φ10 [] [(10,u6),(12,u7),(13,iV r13.2),(16,iV (Du [r14,(Dd r6.1)])),(18,v23),(19,v25),(130,bV (c2 && (decide (r12.2 = r14))))] 149 a w') ?_ ?_
 ·rcases Bool.eq_false_or_eq_true c2 with hb10 | hb10
  ·exact Cq S rfl rfl rfl hb10 (Vm S rfl rfl fun a S=>Cq S rfl rfl rfl hb10 (Vm S rfl rfl fun a S=>Cq S rfl rfl rfl hb10 (Vb S Ip rfl rfl rfl fun a S=>lv S (Gb hb10 (S.tm rfl) (S.tm rfl)) rfl fun a S=>Dl (⟨Keep.refl _ _,S.nf [] rfl (subR rfl)⟩))))
  ·iterate 3 (refine Fl S rfl rfl rfl (Hq hb10) rfl ?_ rfl;clear S;intro a S)
   exact lv S (Gc (decide (r12.2 = r14)) hb10 (S.tm rfl) rfl) rfl fun a S=>Dl (⟨Keep.refl _ _,S.nf [] rfl (subR rfl)⟩)
 clear S;rintro a w41 ⟨hk35,S⟩
 refine Vm S rfl rfl ?_;clear S;intro a S
 obtain ⟨j9,hj9,h⟩:=Dt h
 refine Gi 4 (fun a w'=>∃ c3,j9 c3 = some r ∧ Keep [] w41 w' ∧ Sx w [] φ10 [] [(12,u7),(13,iV r13.2),(16,iV (Du [r14,(Dd r6.1)])),(19,v25),(135,bV c3)] 149 a w') ?_ ?_
 ·rcases Bool.eq_false_or_eq_true (c2 && (decide (r12.2 = r14))) with hb11 | hb11
  ·replace h:=Mu h hb11
   refine Cq S rfl rfl rfl hb11 (Vm S rfl rfl fun a S=>Cq S rfl rfl rfl hb11 (Vm S rfl rfl fun a S=>Cq S rfl rfl rfl hb11 ?_))
   obtain ⟨r23,hr28,h⟩:=Eh h
   refine Cy S (fun _=>Ck (vs:=[u6,v23]) ⟨(S.tm rfl),(S.tm rfl),trivial⟩ call24) (Ta _ u6 r12.1 ((Ei Kx hs5).mono (View.le_trans (View.le_trans (View.le_trans (View.le_trans hl5 hl6) hl8) hl10) (S.le_new Fp))) v23 x7 ((Ei Kx hs9).mono (View.le_trans hl10 (S.le_new Fp))) _ hr28) rfl ?_;clear S;intro v31 a w43 hv26 hk36 hn26 S
   subst hv26
   exact lv S (Gb hb11 (S.tm rfl) (S.tm rfl)) rfl fun a S=>Dl (⟨_,h,hk36,S.nf [] rfl (subR rfl)⟩)
  ·replace h:=Mv h hb11
   iterate 3 (refine Fl S rfl rfl rfl (Hq hb11) rfl ?_ rfl;clear S;intro a S)
   exact Vq S (Gc true hb11) rfl rfl rfl fun a S=>Dl (⟨_,h,Keep.refl _ _,S.nf [] rfl (subR rfl)⟩)
 clear S h;rintro a w42 ⟨c3,h,hk37,S⟩;rw [hj9] at h;clear hj9 j9
 refine Vm S rfl rfl fun a S=>Gi 4 (fun a w'=>Keep [] w42 w' ∧ Sx w [] φ10 [] [(12,u7),(19,v25),(140,bV (c3 && (decide (r13.2 = (Du [r14,(Dd r6.1)])))))] 149 a w') ?_ ?_
 ·rcases Bool.eq_false_or_eq_true c3 with hb12 | hb12
  ·exact Cq S rfl rfl rfl hb12 (Vm S rfl rfl fun a S=>Cq S rfl rfl rfl hb12 (Vm S rfl rfl fun a S=>Cq S rfl rfl rfl hb12 (Vb S Ip rfl rfl rfl fun a S=>lv S (Gb hb12 (S.tm rfl) (S.tm rfl)) rfl fun a S=>Dl (⟨Keep.refl _ _,S.nf [] rfl (subR rfl)⟩))))
  ·iterate 3 (refine Fl S rfl rfl rfl (Hq hb12) rfl ?_ rfl;clear S;intro a S)
   exact lv S (Gc (decide (r13.2 = (Du [r14,(Dd r6.1)]))) hb12 (S.tm rfl) rfl) rfl fun a S=>Dl (⟨Keep.refl _ _,S.nf [] rfl (subR rfl)⟩)
 clear S;rintro a w44 ⟨hk38,S⟩
 refine Vm S rfl rfl ?_;clear S;intro a S
 obtain ⟨j10,hj10,h⟩:=Dt h
 refine Gi 4 (fun a w'=>∃ c4,j10 c4 = some r ∧ Keep [] w44 w' ∧ Sx w [] φ10 [] [(145,bV c4)] 149 a w') ?_ ?_
 ·rcases Bool.eq_false_or_eq_true (c3 && (decide (r13.2 = (Du [r14,(Dd r6.1)])))) with hb13 | hb13
  ·replace h:=Mu h hb13
   refine Cq S rfl rfl rfl hb13 (Vm S rfl rfl fun a S=>Cq S rfl rfl rfl hb13 (Vm S rfl rfl fun a S=>Cq S rfl rfl rfl hb13 ?_))
   obtain ⟨r24,hr29,h⟩:=Eh h
   refine Cy S (fun _=>Ck (vs:=[u7,v25]) ⟨(S.tm rfl),(S.tm rfl),trivial⟩ call25) (Ob _ u7 r13.1 ((Ei Ex hs6).mono (View.le_trans (View.le_trans (View.le_trans hl6 hl8) hl10) (S.le_new Fp))) v25 x8 ((Ei Ex hs11).mono (S.le_new Fp)) _ hr29) rfl ?_;clear S;intro v32 a w46 hv27 hk39 hn27 S
   subst hv27
   exact lv S (Gb hb13 (S.tm rfl) (S.tm rfl)) rfl fun a S=>Dl (⟨_,h,hk39,S.nf [] rfl ⟨rfl,trivial⟩⟩)
  ·replace h:=Mv h hb13
   iterate 3 (refine Fl S rfl rfl rfl (Hq hb13) rfl ?_ rfl;clear S;intro a S)
   exact Vq S (Gc true hb13) rfl rfl rfl fun a S=>Dl (⟨_,h,Keep.refl _ _,S.nf [] rfl ⟨rfl,trivial⟩⟩)
 clear S h;rintro a w45 ⟨c4,h,hk40,S⟩;rw [hj10] at h;clear hj10 j10
 refine Vm S rfl rfl ?_;clear S;intro a S
 obtain ⟨j11,hj11,h⟩:=Dt h
 refine Gi 2 (fun a w'=>∃ c5,j11 c5 = some r ∧ Keep [] w45 w' ∧ Sx w [] φ10 [] [(148,bV c5)] 149 a w') ?_ ?_
 ·rcases Bool.eq_false_or_eq_true c4 with hb14 | hb14
  ·replace h:=Mu h hb14
   refine Cq S rfl rfl rfl hb14 ?_
   obtain ⟨r25,hr30,h⟩:=Eh h
   refine Cy S (fun _=>Ck (vs:=[]) trivial call26) (Sl _ _ hr30) rfl ?_;clear S;intro v33 a w48 hv28 hk41 hn28 S
   subst hv28
   exact lv S (Gb hb14 (S.tm rfl) (S.tm rfl)) rfl fun a S=>Dl (⟨_,h,hk41,S.nf [] rfl ⟨rfl,trivial⟩⟩)
  ·replace h:=Mv h hb14
   exact Fl S rfl rfl rfl (Hq hb14) rfl (fun a S=>Vq S (Gc true hb14) rfl rfl rfl fun a S=>Dl (⟨_,h,Keep.refl _ _,S.nf [] rfl ⟨rfl,trivial⟩⟩)) rfl
 clear S h;rintro a w47 ⟨c5,h,hk42,S⟩;rw [hj11] at h;clear hj11 j11
 refine Va S rfl rfl fun a S=>Dl (wp_ret ?_)
 obtain rfl:=Option.some.inj h
 exact Dx S results3 rfl rfl
end Go.Proofs.YtgfjjiheamdgbaaGreatDoor
