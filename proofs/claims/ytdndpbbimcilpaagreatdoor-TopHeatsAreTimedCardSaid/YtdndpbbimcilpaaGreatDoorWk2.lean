/- Each Go function computes its plain twin,by program. -/
import Derived.Test.YtdndpbbimcilpaaGreatDoorWk1
namespace Go.Proofs.YtdndpbbimcilpaaGreatDoor
open Go
open Go.Proofs.Tryz
set_option maxRecDepth 20000 in
theorem Zy (w : World) (Ab : An) (r : Int) (h : Na Ab = some r) :
    Calls prog 112 [.agg (An.enc Ab).toArray].toArray w (Ret w [] fun _ v _=>v = iV r):=by
 refine Fe func112 rfl ntmps112 rfl fun a S=>?_
 unfold Na at h
 replace S:=S.k1 0 rfl
 refine Fr (Ks S (S.tm rfl) (cs:=(An.enc Ab)) rfl rfl ?_);clear S;intro a w1 b1 hz1 hk1 S
 refine Vk S rfl rfl fun a S=>Dl (Fs (wp_block (Fr (Vf Oh S rfl rfl fun a S=>Vl isAgg9 0 S rfl rfl rfl rfl ?_))));clear S;intro a S
 obtain ⟨r1,hr1,h⟩:=Ej h
 refine Dd S (fun _=>Cz (vs:=[sV Ab.Site]) ⟨(S.tm rfl),trivial⟩ call55) (Ko _ Ab.Site _ hr1) rfl ?_;clear S;intro v1 a w2 hv1 hk2 hn1 S
 subst hv1
 refine Vu S Gk rfl rfl fun a S=>Va S rfl rfl fun a S=>Dl (Fc h (S.tm rfl) (fun hb1 h=>?_) (fun hb1 h=>?_))
 ·refine Fr (Vk S rfl rfl fun a S=>Dl (wp_ret (Gc (Db ?_))))
  obtain rfl:=Option.some.inj h
  exact Ds S results112 rfl rfl
 ·refine Fr (Vf Qc S rfl rfl fun a S=>Vl isAgg3 0 S rfl rfl rfl rfl fun a S=>Dd S (fun _=>Cz (vs:=[iV Ab.No,iV 1,iV 1000000]) ⟨(S.tm rfl),rfl,rfl,trivial⟩ call49) (Ed _ Ab.No 1 1000000 _ rfl) rfl ?_);clear S;intro v2 a w3 hv2 hk3 hn2 S
  subst hv2
  refine Vu S Gk rfl rfl fun a S=>Vm S rfl rfl fun a S=>Gr 5 (fun a w'=>Keep [] w3 w' ∧ Sx w [] nov [.blk b1 (An.enc Ab) 93] [(1,.pointer (some ⟨b1,0,none⟩)),(22,bV ((!(Cy Ab.No 1 1000000)) || (!(Hg Ab.At))))] 152 a w') ?_ ?_
  ·rcases Bool.eq_false_or_eq_true (!(Cy Ab.No 1 1000000)) with hb2 | hb2
   ·iterate 4 (refine Fy S rfl rfl rfl (Ki hb2) rfl ?_ rfl;clear S;intro a S)
    exact lv S (Iw (!(Hg Ab.At)) hb2 (S.tm rfl) rfl) rfl fun a S=>Dl (⟨Keep.refl _ _,S.nf [true] rfl (subR rfl)⟩)
   ·refine Da S rfl rfl rfl hb2 (Vf Qr S rfl rfl fun a S=>Da S rfl rfl rfl hb2 (Vl isAgg3 0 S rfl rfl rfl rfl fun a S=>Da S rfl rfl rfl hb2 (Dd S (fun _=>Cz (vs:=[iV Ab.At]) ⟨(S.tm rfl),trivial⟩ call56) (Rz _ Ab.At _ rfl) rfl ?_)));clear S;intro v3 a w5 hv3 hk4 hn3 S
    subst hv3
    exact Da S rfl rfl rfl hb2 (Vu S Gk rfl rfl fun a S=>lv S (Ix hb2 (S.tm rfl) (S.tm rfl)) rfl fun a S=>Dl (⟨hk4,S.nf [true] rfl (subR rfl)⟩))
  clear S;rintro a w4 ⟨hk5,S⟩
  refine Va S rfl rfl fun a S=>Dl (Fc h (S.tm rfl) (fun hb3 h=>?_) (fun hb3 h=>?_))
  ·refine Fr (Vk S rfl rfl fun a S=>Dl (wp_ret (Gc (Db ?_))))
   obtain rfl:=Option.some.inj h
   exact Ds S results112 rfl rfl
  ·refine Fr (Vf Nh S rfl rfl fun a S=>Vl isAgg3 0 S rfl rfl rfl rfl fun a S=>Dd S (fun _=>Cz (vs:=[iV Ab.Kind,iV 1,iV 4]) ⟨(S.tm rfl),rfl,rfl,trivial⟩ call49) (Ed _ Ab.Kind 1 4 _ rfl) rfl ?_);clear S;intro v4 a w6 hv4 hk6 hn4 S
   subst hv4
   refine Vu S Gk rfl rfl fun a S=>Va S rfl rfl fun a S=>Dl (Fc h (S.tm rfl) (fun hb4 h=>?_) (fun hb4 h=>?_))
   ·refine Fr (Vk S rfl rfl fun a S=>Dl (wp_ret (Gc (Db ?_))))
    obtain rfl:=Option.some.inj h
    exact Ds S results112 rfl rfl
   ·refine wp_skip (Gy (Tn (Fs (Fo [] ([]) Tryz.mixed S rfl (by kernel_rfl) ?_))));clear S;intro w7 hk7 hsel S
    refine Js [0,1,2,3,4,5,6,7,8,9,10,11] hsel (by kernel_rfl) rfl ?_
    clear hsel
    refine Fj S rfl (Fp Nh (S.tm rfl)) rfl fun a S=>Fj S rfl (Lm isAgg3 (S.tm rfl) (S.cell (i:=0) rfl rfl)) rfl fun a S=>Fj S rfl (Hj (S.tm rfl) rfl) rfl fun a S=>Fj S rfl (Fp Nh (S.tm rfl)) rfl fun a S=>Fj S rfl (Lm isAgg3 (S.tm rfl) (S.cell (i:=0) rfl rfl)) rfl fun a S=>Fj S rfl (Hj (S.tm rfl) rfl) rfl fun a S=>Fj S rfl (Fp Nh (S.tm rfl)) rfl fun a S=>Fj S rfl (Lm isAgg3 (S.tm rfl) (S.cell (i:=0) rfl rfl)) rfl fun a S=>Fj S rfl (Hj (S.tm rfl) rfl) rfl ?_;clear S;intro a S
    iterate 3 (refine Fj S rfl (Ra (S.tm rfl)) rfl ?_;clear S;intro a S)
    refine Jc ?_
    replace S:=(S.nl [.blk b1 (An.enc Ab) 93] [true] rfl).k4 1 3 4 5 rfl
    refine Tn (Fs (wp_block (Fs (Fr (Vm S rfl rfl fun a S=>Vu S Gk rfl rfl fun a S=>Vm S rfl rfl ?_)))));clear S;intro a S
    obtain ⟨j1,hj1,h⟩:=Eo h
    refine Gr 11 (fun a w'=>∃ c1,j1 c1 = some r ∧ Keep [] w7 w' ∧ Sx w [] nov [.blk b1 (An.enc Ab) 93] [(1,.pointer (some ⟨b1,0,none⟩)),(3,bV (decide (Ab.Kind = 1))),(4,bV (decide (Ab.Kind = 3))),(5,bV (decide (Ab.Kind = 4))),(51,bV c1)] 152 a w') ?_ ?_
    ·rcases Bool.eq_false_or_eq_true (!(decide (Ab.Kind = 4))) with hb5 | hb5
     ·replace h:=Rb h hb5
      refine Da S rfl rfl rfl hb5 (Vf Nx S rfl rfl fun a S=>Da S rfl rfl rfl hb5 (Vl isAgg9 0 S rfl rfl rfl rfl fun a S=>Da S rfl rfl rfl hb5 ?_))
      obtain ⟨r2,hr2,h⟩:=Ej h
      refine Dd S (fun _=>Cz (vs:=[sV Ab.Who]) ⟨(S.tm rfl),trivial⟩ call55) (Ko _ Ab.Who _ hr2) rfl ?_;clear S;intro v5 a w9 hv5 hk8 hn5 S
      subst hv5
      refine Da S rfl rfl rfl hb5 (Vu S Gk rfl rfl fun a S=>Da S rfl rfl rfl hb5 (Vm S rfl rfl ?_));clear S;intro a S
      obtain ⟨j2,hj2,h⟩:=Eo h
      refine Gr 5 (fun a w'=>∃ c2,j2 c2 = some r ∧ Keep [] w9 w' ∧ Sx w [] nov [.blk b1 (An.enc Ab) 93] [(1,.pointer (some ⟨b1,0,none⟩)),(3,bV (decide (Ab.Kind = 1))),(4,bV (decide (Ab.Kind = 3))),(5,bV (decide (Ab.Kind = 4))),(40,bV (!(decide (Ab.Kind = 4)))),(50,bV c2)] 152 a w') ?_ ?_
      ·rcases Bool.eq_false_or_eq_true (!r2) with hb6 | hb6
       ·replace h:=Rb h hb6
        iterate 4 (refine Fy S rfl rfl rfl (Ki hb6) rfl ?_ rfl;clear S;intro a S)
        exact Da S rfl rfl rfl hb5 (Vq S (Iw true hb6) rfl rfl rfl fun a S=>Dl (⟨_,h,Keep.refl _ _,S.nf [true] rfl (subR rfl)⟩))
       ·replace h:=Rc h hb6
        refine Da S rfl rfl rfl hb6 (Vf Qd S rfl rfl fun a S=>Da S rfl rfl rfl hb6 (Vl isAgg9 0 S rfl rfl rfl rfl fun a S=>Da S rfl rfl rfl hb6 ?_))
        obtain ⟨r3,hr3,h⟩:=Ej h
        refine Dd S (fun _=>Cz (vs:=[sV Ab.Race]) ⟨(S.tm rfl),trivial⟩ call55) (Ko _ Ab.Race _ hr3) rfl ?_;clear S;intro v6 a w11 hv6 hk9 hn6 S
        subst hv6
        exact Da S rfl rfl rfl hb6 (Vu S Gk rfl rfl fun a S=>Da S rfl rfl rfl hb5 (lv S (Ix hb6 (S.tm rfl) (S.tm rfl)) rfl fun a S=>Dl (⟨_,h,hk9,S.nf [true] rfl (subR rfl)⟩)))
      clear S h;rintro a w10 ⟨c2,h,hk10,S⟩;rw [hj2] at h;clear hj2 j2
      exact lv S (Hk hb5 (S.tm rfl) (S.tm rfl)) rfl fun a S=>Dl (⟨_,h,(hk8).trans hk10,S.nf [true] rfl (subR rfl)⟩)
     ·replace h:=Rc h hb5
      iterate 5 (refine Fy S rfl rfl rfl (Jk hb5) rfl ?_ rfl;clear S;intro a S)
      iterate 4 (refine BR S rfl rfl rfl rfl ?_;clear S;intro a S)
      exact Fy S rfl rfl rfl (Jk hb5) rfl (fun a S=>Vq S (Hl true hb5) rfl rfl rfl fun a S=>Dl (⟨_,h,Keep.refl _ _,S.nf [true] rfl (subR rfl)⟩)) rfl
    clear S h;rintro a w8 ⟨c1,h,hk11,S⟩;rw [hj1] at h;clear hj1 j1
    refine Va S rfl rfl fun a S=>Dl ?_
    obtain ⟨j3,hj3,h⟩:=Eo h
    refine Dy (fun a w'=>∃ x1 : Bool,j3 x1 = some r ∧ Sx w [] nov [.blk b1 (An.enc Ab) 93] [(1,.pointer (some ⟨b1,0,none⟩)),(3,bV (decide (Ab.Kind = 1))),(4,bV (decide (Ab.Kind = 3))),(5,bV (decide (Ab.Kind = 4))),(37,bV x1)] 152 a w') ?_ ?_
    ·refine Fc h (S.tm rfl) (fun hb7 h=>?_) (fun hb7 h=>?_)
     ·exact wp_skip (Tn (⟨c1,h,S.nf [true] rfl (subR rfl)⟩))
     ·refine Fg (Vm S rfl rfl fun a S=>Vm S rfl rfl fun a S=>Gr 4 (fun a w'=>Keep [] w8 w' ∧ Sx w [] nov [.blk b1 (An.enc Ab) 93] [(1,.pointer (some ⟨b1,0,none⟩)),(3,bV (decide (Ab.Kind = 1))),(4,bV (decide (Ab.Kind = 3))),(5,bV (decide (Ab.Kind = 4))),(57,bV ((decide (Ab.Kind = 1)) && (!decide (Ab.Club = Cx))))] 152 a w') ?_ ?_)
      ·rcases Bool.eq_false_or_eq_true (decide (Ab.Kind = 1)) with hb8 | hb8
       ·exact Da S rfl rfl rfl hb8 (Vf Sq S rfl rfl fun a S=>Da S rfl rfl rfl hb8 (Vl isAgg9 0 S rfl rfl rfl rfl fun a S=>Da S rfl rfl rfl hb8 (Vq S Xo rfl rfl rfl fun a S=>lv S (Hk hb8 (S.tm rfl) (S.tm rfl)) rfl fun a S=>Dl (⟨Keep.refl _ _,S.nf [true] rfl (subR rfl)⟩))))
       ·iterate 3 (refine Fy S rfl rfl rfl (Jk hb8) rfl ?_ rfl;clear S;intro a S)
        exact lv S (Hl (!decide (Ab.Club = Cx)) hb8 (S.tm rfl) rfl) rfl fun a S=>Dl (⟨Keep.refl _ _,S.nf [true] rfl (subR rfl)⟩)
      clear S;rintro a w13 ⟨hk12,S⟩
      refine Vm S rfl rfl ?_;clear S;intro a S
      obtain ⟨j4,hj4,h⟩:=Eo h
      refine Gr 5 (fun a w'=>∃ c3,j4 c3 = some r ∧ Keep [] w13 w' ∧ Sx w [] nov [.blk b1 (An.enc Ab) 93] [(1,.pointer (some ⟨b1,0,none⟩)),(3,bV (decide (Ab.Kind = 1))),(4,bV (decide (Ab.Kind = 3))),(5,bV (decide (Ab.Kind = 4))),(63,bV c3)] 152 a w') ?_ ?_
      ·rcases Bool.eq_false_or_eq_true ((decide (Ab.Kind = 1)) && (!decide (Ab.Club = Cx))) with hb9 | hb9
       ·replace h:=Rb h hb9
        refine Da S rfl rfl rfl hb9 (Vf Sq S rfl rfl fun a S=>Da S rfl rfl rfl hb9 (Vl isAgg9 0 S rfl rfl rfl rfl fun a S=>Da S rfl rfl rfl hb9 ?_))
        obtain ⟨r4,hr4,h⟩:=Ej h
        refine Dd S (fun _=>Cz (vs:=[sV Ab.Club]) ⟨(S.tm rfl),trivial⟩ call55) (Ko _ Ab.Club _ hr4) rfl ?_;clear S;intro v7 a w15 hv7 hk13 hn7 S
        subst hv7
        exact Da S rfl rfl rfl hb9 (Vu S Gk rfl rfl fun a S=>lv S (Hk hb9 (S.tm rfl) (S.tm rfl)) rfl fun a S=>Dl (⟨_,h,hk13,S.nf [true] rfl (subR rfl)⟩))
       ·replace h:=Rc h hb9
        iterate 4 (refine Fy S rfl rfl rfl (Jk hb9) rfl ?_ rfl;clear S;intro a S)
        exact Vq S (Hl true hb9) rfl rfl rfl fun a S=>Dl (⟨_,h,Keep.refl _ _,S.nf [true] rfl (subR rfl)⟩)
      clear S h;rintro a w14 ⟨c3,h,hk14,S⟩;rw [hj4] at h;clear hj4 j4
      exact Va S rfl rfl fun a S=>Dl (⟨c3,h,S.nf [true] rfl (subR rfl)⟩)
    clear S h;rintro a w12 ⟨x1,h,S⟩;rw [hj3] at h;clear hj3 j3
    refine Tn (Fc h (S.tm rfl) (fun hb10 h=>?_) (fun hb10 h=>?_))
    ·refine Fr (Vk S rfl rfl fun a S=>Dl (wp_ret (Gc (Db ?_))))
     obtain rfl:=Option.some.inj h
     exact Ds S results112 rfl rfl
    ·refine Fs (Fr (Vm S rfl rfl fun a S=>Vm S rfl rfl fun a S=>Gr 2 (fun a w'=>Keep [] w12 w' ∧ Sx w [] nov [.blk b1 (An.enc Ab) 93] [(1,.pointer (some ⟨b1,0,none⟩)),(3,bV (decide (Ab.Kind = 1))),(4,bV (decide (Ab.Kind = 3))),(5,bV (decide (Ab.Kind = 4))),(68,bV ((decide (Ab.Kind = 1)) || (decide (Ab.Kind = 3))))] 152 a w') ?_ ?_))
     ·rcases Bool.eq_false_or_eq_true (decide (Ab.Kind = 1)) with hb11 | hb11
      ·exact Fy S rfl rfl rfl (Ki hb11) rfl (fun a S=>lv S (Iw (decide (Ab.Kind = 3)) hb11 (S.tm rfl) rfl) rfl fun a S=>Dl (⟨Keep.refl _ _,S.nf [true] rfl (subR rfl)⟩)) rfl
      ·exact Da S rfl rfl rfl hb11 (Vm S rfl rfl fun a S=>lv S (Ix hb11 (S.tm rfl) (S.tm rfl)) rfl fun a S=>Dl (⟨Keep.refl _ _,S.nf [true] rfl (subR rfl)⟩))
     clear S;rintro a w16 ⟨hk15,S⟩
     refine Vm S rfl rfl fun a S=>Gr 5 (fun a w'=>Keep [] w16 w' ∧ Sx w [] nov [.blk b1 (An.enc Ab) 93] [(1,.pointer (some ⟨b1,0,none⟩)),(3,bV (decide (Ab.Kind = 1))),(4,bV (decide (Ab.Kind = 3))),(5,bV (decide (Ab.Kind = 4))),(74,bV (((decide (Ab.Kind = 1)) || (decide (Ab.Kind = 3))) && (!(Cy Ab.Time 0 360000))))] 152 a w') ?_ ?_
     ·rcases Bool.eq_false_or_eq_true ((decide (Ab.Kind = 1)) || (decide (Ab.Kind = 3))) with hb12 | hb12
      ·refine Da S rfl rfl rfl hb12 (Vf Qs S rfl rfl fun a S=>Da S rfl rfl rfl hb12 (Vl isAgg3 0 S rfl rfl rfl rfl fun a S=>Da S rfl rfl rfl hb12 (Dd S (fun _=>Cz (vs:=[iV Ab.Time,iV 0,iV 360000]) ⟨(S.tm rfl),rfl,rfl,trivial⟩ call49) (Ed _ Ab.Time 0 360000 _ rfl) rfl ?_)));clear S;intro v8 a w18 hv8 hk16 hn8 S
       subst hv8
       exact Da S rfl rfl rfl hb12 (Vu S Gk rfl rfl fun a S=>lv S (Hk hb12 (S.tm rfl) (S.tm rfl)) rfl fun a S=>Dl (⟨hk16,S.nf [true] rfl (subR rfl)⟩))
      ·iterate 4 (refine Fy S rfl rfl rfl (Jk hb12) rfl ?_ rfl;clear S;intro a S)
       exact lv S (Hl (!(Cy Ab.Time 0 360000)) hb12 (S.tm rfl) rfl) rfl fun a S=>Dl (⟨Keep.refl _ _,S.nf [true] rfl (subR rfl)⟩)
     clear S;rintro a w17 ⟨hk17,S⟩
     refine Va S rfl rfl fun a S=>Dl ?_
     obtain ⟨j5,hj5,h⟩:=Eo h
     refine Dy (fun a w'=>∃ x2 : Bool,j5 x2 = some r ∧ Sx w [] nov [.blk b1 (An.enc Ab) 93] [(1,.pointer (some ⟨b1,0,none⟩)),(3,bV (decide (Ab.Kind = 1))),(4,bV (decide (Ab.Kind = 3))),(5,bV (decide (Ab.Kind = 4))),(64,bV x2)] 152 a w') ?_ ?_
     ·refine Fc h (S.tm rfl) (fun hb13 h=>?_) (fun hb13 h=>?_)
      ·exact wp_skip (Tn (⟨(((decide (Ab.Kind = 1)) || (decide (Ab.Kind = 3))) && (!(Cy Ab.Time 0 360000))),h,S.nf [true] rfl (subR rfl)⟩))
      ·refine Fg (Vm S rfl rfl fun a S=>Vm S rfl rfl fun a S=>Gr 5 (fun a w'=>Keep [] w17 w' ∧ Sx w [] nov [.blk b1 (An.enc Ab) 93] [(1,.pointer (some ⟨b1,0,none⟩)),(3,bV (decide (Ab.Kind = 1))),(4,bV (decide (Ab.Kind = 3))),(5,bV (decide (Ab.Kind = 4))),(81,bV ((decide (Ab.Kind = 3)) && (!(Cy Ab.Fault 0 8))))] 152 a w') ?_ ?_)
       ·rcases Bool.eq_false_or_eq_true (decide (Ab.Kind = 3)) with hb14 | hb14
        ·refine Da S rfl rfl rfl hb14 (Vf Uj S rfl rfl fun a S=>Da S rfl rfl rfl hb14 (Vl isAgg3 0 S rfl rfl rfl rfl fun a S=>Da S rfl rfl rfl hb14 (Dd S (fun _=>Cz (vs:=[iV Ab.Fault,iV 0,iV 8]) ⟨(S.tm rfl),rfl,rfl,trivial⟩ call49) (Ed _ Ab.Fault 0 8 _ rfl) rfl ?_)));clear S;intro v9 a w21 hv9 hk18 hn9 S
         subst hv9
         exact Da S rfl rfl rfl hb14 (Vu S Gk rfl rfl fun a S=>lv S (Hk hb14 (S.tm rfl) (S.tm rfl)) rfl fun a S=>Dl (⟨hk18,S.nf [true] rfl (subR rfl)⟩))
        ·iterate 4 (refine Fy S rfl rfl rfl (Jk hb14) rfl ?_ rfl;clear S;intro a S)
         exact lv S (Hl (!(Cy Ab.Fault 0 8)) hb14 (S.tm rfl) rfl) rfl fun a S=>Dl (⟨Keep.refl _ _,S.nf [true] rfl (subR rfl)⟩)
       clear S;rintro a w20 ⟨hk19,S⟩
       exact Va S rfl rfl fun a S=>Dl (⟨((decide (Ab.Kind = 3)) && (!(Cy Ab.Fault 0 8))),h,S.nf [true] rfl (subR rfl)⟩)
     clear S h;rintro a w19 ⟨x2,h,S⟩;rw [hj5] at h;clear hj5 j5
     refine Tn (Fc h (S.tm rfl) (fun hb15 h=>?_) (fun hb15 h=>?_))
     ·refine Fr (Vk S rfl rfl fun a S=>Dl (wp_ret (Gc (Db ?_))))
      obtain rfl:=Option.some.inj h
      exact Ds S results112 rfl rfl
     ·refine Fr (Vm S rfl rfl fun a S=>Vm S rfl rfl ?_);clear S;intro a S
      obtain ⟨j6,hj6,h⟩:=Eo h
      refine Gr 5 (fun a w'=>∃ c4,j6 c4 = some r ∧ Keep [] w19 w' ∧ Sx w [] nov [.blk b1 (An.enc Ab) 93] [(1,.pointer (some ⟨b1,0,none⟩)),(3,bV (decide (Ab.Kind = 1))),(4,bV (decide (Ab.Kind = 3))),(5,bV (decide (Ab.Kind = 4))),(89,bV c4)] 152 a w') ?_ ?_
      ·rcases Bool.eq_false_or_eq_true (decide (Ab.Kind = 4)) with hb16 | hb16
       ·replace h:=Rb h hb16
        refine Da S rfl rfl rfl hb16 (Vf Uk S rfl rfl fun a S=>Da S rfl rfl rfl hb16 (Vl isAgg9 0 S rfl rfl rfl rfl fun a S=>Da S rfl rfl rfl hb16 ?_))
        obtain ⟨r5,hr5,h⟩:=Ej h
        refine Dd S (fun _=>Cz (vs:=[sV Ab.Of]) ⟨(S.tm rfl),trivial⟩ call55) (Ko _ Ab.Of _ hr5) rfl ?_;clear S;intro v10 a w23 hv10 hk20 hn10 S
        subst hv10
        exact Da S rfl rfl rfl hb16 (Vu S Gk rfl rfl fun a S=>lv S (Hk hb16 (S.tm rfl) (S.tm rfl)) rfl fun a S=>Dl (⟨_,h,hk20,S.nf [true] rfl (subR rfl)⟩))
       ·replace h:=Rc h hb16
        iterate 4 (refine Fy S rfl rfl rfl (Jk hb16) rfl ?_ rfl;clear S;intro a S)
        exact Vq S (Hl true hb16) rfl rfl rfl fun a S=>Dl (⟨_,h,Keep.refl _ _,S.nf [true] rfl (subR rfl)⟩)
      clear S h;rintro a w22 ⟨c4,h,hk21,S⟩;rw [hj6] at h;clear hj6 j6
      refine Va S rfl rfl fun a S=>Dl (Fc h (S.tm rfl) (fun hb17 h=>?_) (fun hb17 h=>?_))
      ·refine Fr (Vk S rfl rfl fun a S=>Dl (wp_ret (Gc (Db ?_))))
       obtain rfl:=Option.some.inj h
       exact Ds S results112 rfl rfl
      ·refine Fr (Vm S rfl rfl fun a S=>Vm S rfl rfl fun a S=>Gr 5 (fun a w'=>Keep [] w22 w' ∧ Sx w [] nov [.blk b1 (An.enc Ab) 93] [(1,.pointer (some ⟨b1,0,none⟩)),(3,bV (decide (Ab.Kind = 1))),(4,bV (decide (Ab.Kind = 3))),(5,bV (decide (Ab.Kind = 4))),(97,bV ((decide (Ab.Kind = 4)) && (!(Cy Ab.Other 1 1000000))))] 152 a w') ?_ ?_)
       ·rcases Bool.eq_false_or_eq_true (decide (Ab.Kind = 4)) with hb18 | hb18
        ·refine Da S rfl rfl rfl hb18 (Vf Rv S rfl rfl fun a S=>Da S rfl rfl rfl hb18 (Vl isAgg3 0 S rfl rfl rfl rfl fun a S=>Da S rfl rfl rfl hb18 (Dd S (fun _=>Cz (vs:=[iV Ab.Other,iV 1,iV 1000000]) ⟨(S.tm rfl),rfl,rfl,trivial⟩ call49) (Ed _ Ab.Other 1 1000000 _ rfl) rfl ?_)));clear S;intro v11 a w25 hv11 hk22 hn11 S
         subst hv11
         exact Da S rfl rfl rfl hb18 (Vu S Gk rfl rfl fun a S=>lv S (Hk hb18 (S.tm rfl) (S.tm rfl)) rfl fun a S=>Dl (⟨hk22,S.nf [true] rfl (subR rfl)⟩))
        ·iterate 4 (refine Fy S rfl rfl rfl (Jk hb18) rfl ?_ rfl;clear S;intro a S)
         exact lv S (Hl (!(Cy Ab.Other 1 1000000)) hb18 (S.tm rfl) rfl) rfl fun a S=>Dl (⟨Keep.refl _ _,S.nf [true] rfl (subR rfl)⟩)
       clear S;rintro a w24 ⟨hk23,S⟩
       refine Va S rfl rfl fun a S=>Dl (Fc h (S.tm rfl) (fun hb19 h=>?_) (fun hb19 h=>?_))
       ·refine Fr (Vk S rfl rfl fun a S=>Dl (wp_ret (Gc (Db ?_))))
        obtain rfl:=Option.some.inj h
        exact Ds S results112 rfl rfl
       ·refine wp_skip (Gy (Tn (Fr (Vf Oh S rfl rfl fun a S=>Vl isAgg9 0 S rfl rfl rfl rfl fun a S=>Vf Qc S rfl rfl fun a S=>Vl isAgg3 0 S rfl rfl rfl rfl fun a S=>Vf Qr S rfl rfl fun a S=>Vl isAgg3 0 S rfl rfl rfl rfl ?_))));clear S;intro a S
        refine Vf Nh S rfl rfl fun a S=>Vl isAgg3 0 S rfl rfl rfl rfl fun a S=>lv S (Mw LY (pv:=[(0,sV Ab.Site),(1,iV Ab.No),(2,iV Ab.At),(3,iV Ab.Kind)]) ⟨rfl,(S.tm rfl),rfl,(S.tm rfl),rfl,(S.tm rfl),rfl,(S.tm rfl),trivial⟩ (cs:=[sV Ab.Site,iV Ab.No,iV Ab.At,iV Ab.Kind,sV Cx,sV Cx,sV Cx,iV 0,iV 0,sV Cx,iV 0]) (by kernel_rfl)) rfl fun a S=>Ic S zeroValue93 (cs:=[sV Cx,iV 0,iV 0,iV 0,sV Cx,sV Cx,sV Cx,iV 0,iV 0,sV Cx,iV 0]) rfl rfl ?_;clear S;intro a w26 b2 hz2 hk24 S
        refine Ep S (S.tm rfl) (S.tm rfl) (i:=0) (off:=0) rfl sizeOf93 (vs:=(An.enc (An.mk Ab.Site Ab.No Ab.At Ab.Kind Cx Cx Cx 0 0 Cx 0))) rfl rfl rfl rfl ?_;clear S;intro w27 hk25 S
        refine Ld ?_
        replace S:=(S.nl [.blk b2 (An.enc (An.mk Ab.Site Ab.No Ab.At Ab.Kind Cx Cx Cx 0 0 Cx 0)) 93,.blk b1 (An.enc Ab) 93] [true,true] rfl).k5 1 3 4 5 6 rfl
        refine Tn (Fs ?_)
        obtain ⟨j7,hj7,h⟩:=Eo h
        refine Dy (fun a w'=>∃ x3 : ByteArray,∃ x4 : ByteArray,∃ x5 : ByteArray,∃ x6 : Int,∃ x7 : Int,∃ x8 : ByteArray,∃ x9 : Int,j7 x3 x4 x5 x6 x7 x8 x9 = some r ∧ Sx w [] nov [.blk b2 (An.enc (An.mk Ab.Site Ab.No Ab.At Ab.Kind x3 x4 x5 x6 x7 x8 x9)) 93,.blk b1 (An.enc Ab) 93] [(1,.pointer (some ⟨b1,0,none⟩)),(6,.pointer (some ⟨b2,0,none⟩))] 152 a w') ?_ ?_
        ·refine wp_block (Fr (Vm S rfl rfl fun a S=>Va S rfl rfl fun a S=>Dl ?_))
         obtain ⟨j8,hj8,h⟩:=Eo h
         refine Dy (fun a w'=>∃ x10 : ByteArray,∃ x11 : ByteArray,∃ x12 : ByteArray,∃ x13 : Int,∃ x14 : Int,∃ x15 : ByteArray,∃ x16 : Int,j8 x10 x11 x12 x13 x14 x15 x16 = some r ∧ Sx w [] nov [.blk b2 (An.enc (An.mk Ab.Site Ab.No Ab.At Ab.Kind x10 x11 x12 x13 x14 x15 x16)) 93,.blk b1 (An.enc Ab) 93] [(1,.pointer (some ⟨b1,0,none⟩)),(6,.pointer (some ⟨b2,0,none⟩))] 152 a w') ?_ ?_
         ·refine Fc h (S.tm rfl) (fun hb20 h=>?_) (fun hb20 h=>?_)
          ·refine Fo [] ([b2]) Tryz.mixed S rfl (by kernel_rfl) ?_;clear S;intro w34 hk30 hsel S
           refine De 0 S hsel rfl rfl rfl (by kernel_rfl) (by kernel_rfl) rfl (fun _ hw=>(Fp Nx (S.tm rfl))) fun a S=>De 1 S hsel rfl rfl rfl (by kernel_rfl) (by kernel_rfl) rfl (fun _ hw=>(Gj isAgg9 (off:=0) (o:=4) (S.tm rfl) ((S.blk_mem (i:=1) (cells:=(An.enc Ab)) (b:=b1) (T:=93) rfl (Jl (i:=0) (j:=1) (e:=.blk b2 (An.enc (An.mk Ab.Site Ab.No Ab.At Ab.Kind Cx Cx Cx 0 0 Cx 0)) 93) (e':=.blk b1 (An.enc Ab) 93) S rfl rfl rfl)).kept hw) rfl)) fun a S=>De 2 S hsel rfl rfl rfl (by kernel_rfl) (by kernel_rfl) rfl (fun _ hw=>(Fp Sq (S.tm rfl))) fun a S=>De 3 S hsel rfl rfl rfl (by kernel_rfl) (by kernel_rfl) rfl (fun _ hw=>(Gj isAgg9 (off:=0) (o:=5) (S.tm rfl) ((S.blk_mem (i:=1) (cells:=(An.enc Ab)) (b:=b1) (T:=93) rfl (Jl (i:=0) (j:=1) (e:=.blk b2 (An.enc (An.mk Ab.Site Ab.No Ab.At Ab.Kind Cx Cx Cx 0 0 Cx 0)) 93) (e':=.blk b1 (An.enc Ab) 93) S rfl rfl rfl)).kept hw) rfl)) fun a S=>De 4 S hsel rfl rfl rfl (by kernel_rfl) (by kernel_rfl) rfl (fun _ hw=>(Fp Qd (S.tm rfl))) fun a S=>De 5 S hsel rfl rfl rfl (by kernel_rfl) (by kernel_rfl) rfl (fun _ hw=>(Gj isAgg9 (off:=0) (o:=6) (S.tm rfl) ((S.blk_mem (i:=1) (cells:=(An.enc Ab)) (b:=b1) (T:=93) rfl (Jl (i:=0) (j:=1) (e:=.blk b2 (An.enc (An.mk Ab.Site Ab.No Ab.At Ab.Kind Cx Cx Cx 0 0 Cx 0)) 93) (e':=.blk b1 (An.enc Ab) 93) S rfl rfl rfl)).kept hw) rfl)) fun a S=>De 6 S hsel rfl rfl rfl (by kernel_rfl) (by kernel_rfl) rfl (fun _ hw=>(Fp Qs (S.tm rfl))) fun a S=>De 7 S hsel rfl rfl rfl (by kernel_rfl) (by kernel_rfl) rfl (fun _ hw=>(Gj isAgg3 (off:=0) (o:=7) (S.tm rfl) ((S.blk_mem (i:=1) (cells:=(An.enc Ab)) (b:=b1) (T:=93) rfl (Jl (i:=0) (j:=1) (e:=.blk b2 (An.enc (An.mk Ab.Site Ab.No Ab.At Ab.Kind Cx Cx Cx 0 0 Cx 0)) 93) (e':=.blk b1 (An.enc Ab) 93) S rfl rfl rfl)).kept hw) rfl)) ?_;clear S;intro a S
           refine De 8 S hsel rfl rfl rfl (by kernel_rfl) (by kernel_rfl) rfl (fun _ hw=>(Fp Nx (S.tm rfl))) fun a S=>Ff 9 (by kernel_rfl) rfl (Ep S (S.tm rfl) (S.tm rfl) (i:=0) (off:=4) rfl sizeOf9 (vs:=[sV Ab.Who]) rfl rfl rfl rfl ?_);clear S;intro w35 hk31 S
           refine Ld (Gl hk31 (De 10 S hsel rfl rfl rfl (by kernel_rfl) (by kernel_rfl) rfl (fun _ hw=>(Fp Sq (S.tm rfl))) fun a S=>Ff 11 (by kernel_rfl) rfl (Ep S (S.tm rfl) (S.tm rfl) (i:=0) (off:=5) rfl sizeOf9 (vs:=[sV Ab.Club]) rfl rfl rfl rfl ?_)));clear S;intro w36 hk32 S
           refine Ld (Gl hk32 (De 12 S hsel rfl rfl rfl (by kernel_rfl) (by kernel_rfl) rfl (fun _ hw=>(Fp Qd (S.tm rfl))) fun a S=>Ff 13 (by kernel_rfl) rfl (Ep S (S.tm rfl) (S.tm rfl) (i:=0) (off:=6) rfl sizeOf9 (vs:=[sV Ab.Race]) rfl rfl rfl rfl ?_)));clear S;intro w37 hk33 S
           refine Ld (Gl hk33 (De 14 S hsel rfl rfl rfl (by kernel_rfl) (by kernel_rfl) rfl (fun _ hw=>(Fp Qs (S.tm rfl))) fun a S=>Ff 15 (by kernel_rfl) rfl (Ep S (S.tm rfl) (S.tm rfl) (i:=0) (off:=7) rfl sizeOf3 (vs:=[iV Ab.Time]) rfl rfl rfl rfl ?_)));clear S;intro w38 hk34 S
           refine Ld (Gl hk34 (Se (by kernel_rfl) ?_))
           clear hsel
           replace S:=(S.nl [.blk b2 (An.enc (An.mk Ab.Site Ab.No Ab.At Ab.Kind Ab.Who Ab.Club Ab.Race Ab.Time 0 Cx 0)) 93,.blk b1 (An.enc Ab) 93] [true,true] rfl).k2 1 6 rfl
           exact Tn (⟨Ab.Who,Ab.Club,Ab.Race,Ab.Time,0,Cx,0,h,S.nf [true,true] rfl (subR rfl)⟩)
          ·refine Fr (Vm S rfl rfl fun a S=>Va S rfl rfl fun a S=>Dl ?_)
           obtain ⟨j9,hj9,h⟩:=Eo h
           refine Dy (fun a w'=>∃ x17 : ByteArray,∃ x18 : ByteArray,∃ x19 : Int,∃ x20 : Int,∃ x21 : ByteArray,∃ x22 : Int,j9 x17 x18 x19 x20 x21 x22 = some r ∧ Sx w [] nov [.blk b2 (An.enc (An.mk Ab.Site Ab.No Ab.At Ab.Kind x17 Cx x18 x19 x20 x21 x22)) 93,.blk b1 (An.enc Ab) 93] [(1,.pointer (some ⟨b1,0,none⟩)),(6,.pointer (some ⟨b2,0,none⟩))] 152 a w') ?_ ?_
           ·refine Fc h (S.tm rfl) (fun hb21 h=>?_) (fun hb21 h=>?_)
            ·refine Fo [] ([b2]) Tryz.mixed S rfl (by kernel_rfl) ?_;clear S;intro w44 hk39 hsel S
             refine De 0 S hsel rfl rfl rfl (by kernel_rfl) (by kernel_rfl) rfl (fun _ hw=>(Fp Nx (S.tm rfl))) fun a S=>De 1 S hsel rfl rfl rfl (by kernel_rfl) (by kernel_rfl) rfl (fun _ hw=>(Gj isAgg9 (off:=0) (o:=4) (S.tm rfl) ((S.blk_mem (i:=1) (cells:=(An.enc Ab)) (b:=b1) (T:=93) rfl (Jl (i:=0) (j:=1) (e:=.blk b2 (An.enc (An.mk Ab.Site Ab.No Ab.At Ab.Kind Cx Cx Cx 0 0 Cx 0)) 93) (e':=.blk b1 (An.enc Ab) 93) S rfl rfl rfl)).kept hw) rfl)) fun a S=>De 2 S hsel rfl rfl rfl (by kernel_rfl) (by kernel_rfl) rfl (fun _ hw=>(Fp Qd (S.tm rfl))) fun a S=>De 3 S hsel rfl rfl rfl (by kernel_rfl) (by kernel_rfl) rfl (fun _ hw=>(Gj isAgg9 (off:=0) (o:=6) (S.tm rfl) ((S.blk_mem (i:=1) (cells:=(An.enc Ab)) (b:=b1) (T:=93) rfl (Jl (i:=0) (j:=1) (e:=.blk b2 (An.enc (An.mk Ab.Site Ab.No Ab.At Ab.Kind Cx Cx Cx 0 0 Cx 0)) 93) (e':=.blk b1 (An.enc Ab) 93) S rfl rfl rfl)).kept hw) rfl)) fun a S=>De 4 S hsel rfl rfl rfl (by kernel_rfl) (by kernel_rfl) rfl (fun _ hw=>(Fp Qs (S.tm rfl))) fun a S=>De 5 S hsel rfl rfl rfl (by kernel_rfl) (by kernel_rfl) rfl (fun _ hw=>(Gj isAgg3 (off:=0) (o:=7) (S.tm rfl) ((S.blk_mem (i:=1) (cells:=(An.enc Ab)) (b:=b1) (T:=93) rfl (Jl (i:=0) (j:=1) (e:=.blk b2 (An.enc (An.mk Ab.Site Ab.No Ab.At Ab.Kind Cx Cx Cx 0 0 Cx 0)) 93) (e':=.blk b1 (An.enc Ab) 93) S rfl rfl rfl)).kept hw) rfl)) fun a S=>De 6 S hsel rfl rfl rfl (by kernel_rfl) (by kernel_rfl) rfl (fun _ hw=>(Fp Uj (S.tm rfl))) fun a S=>De 7 S hsel rfl rfl rfl (by kernel_rfl) (by kernel_rfl) rfl (fun _ hw=>(Gj isAgg3 (off:=0) (o:=8) (S.tm rfl) ((S.blk_mem (i:=1) (cells:=(An.enc Ab)) (b:=b1) (T:=93) rfl (Jl (i:=0) (j:=1) (e:=.blk b2 (An.enc (An.mk Ab.Site Ab.No Ab.At Ab.Kind Cx Cx Cx 0 0 Cx 0)) 93) (e':=.blk b1 (An.enc Ab) 93) S rfl rfl rfl)).kept hw) rfl)) ?_;clear S;intro a S
             refine De 8 S hsel rfl rfl rfl (by kernel_rfl) (by kernel_rfl) rfl (fun _ hw=>(Fp Nx (S.tm rfl))) fun a S=>Ff 9 (by kernel_rfl) rfl (Ep S (S.tm rfl) (S.tm rfl) (i:=0) (off:=4) rfl sizeOf9 (vs:=[sV Ab.Who]) rfl rfl rfl rfl ?_);clear S;intro w45 hk40 S
             refine Ld (Gl hk40 (De 10 S hsel rfl rfl rfl (by kernel_rfl) (by kernel_rfl) rfl (fun _ hw=>(Fp Qd (S.tm rfl))) fun a S=>Ff 11 (by kernel_rfl) rfl (Ep S (S.tm rfl) (S.tm rfl) (i:=0) (off:=6) rfl sizeOf9 (vs:=[sV Ab.Race]) rfl rfl rfl rfl ?_)));clear S;intro w46 hk41 S
             refine Ld (Gl hk41 (De 12 S hsel rfl rfl rfl (by kernel_rfl) (by kernel_rfl) rfl (fun _ hw=>(Fp Qs (S.tm rfl))) fun a S=>Ff 13 (by kernel_rfl) rfl (Ep S (S.tm rfl) (S.tm rfl) (i:=0) (off:=7) rfl sizeOf3 (vs:=[iV Ab.Time]) rfl rfl rfl rfl ?_)));clear S;intro w47 hk42 S
             refine Ld (Gl hk42 (De 14 S hsel rfl rfl rfl (by kernel_rfl) (by kernel_rfl) rfl (fun _ hw=>(Fp Uj (S.tm rfl))) fun a S=>Ff 15 (by kernel_rfl) rfl (Ep S (S.tm rfl) (S.tm rfl) (i:=0) (off:=8) rfl sizeOf3 (vs:=[iV Ab.Fault]) rfl rfl rfl rfl ?_)));clear S;intro w48 hk43 S
             refine Ld (Gl hk43 (Se (by kernel_rfl) ?_))
             clear hsel
             replace S:=(S.nl [.blk b2 (An.enc (An.mk Ab.Site Ab.No Ab.At Ab.Kind Ab.Who Cx Ab.Race Ab.Time Ab.Fault Cx 0)) 93,.blk b1 (An.enc Ab) 93] [true,true] rfl).k2 1 6 rfl
             exact Tn (⟨Ab.Who,Ab.Race,Ab.Time,Ab.Fault,Cx,0,h,S.nf [true,true] rfl (subR rfl)⟩)
            ·refine Fr (Vm S rfl rfl fun a S=>Va S rfl rfl fun a S=>Dl ?_)
             obtain ⟨j10,hj10,h⟩:=Eo h
             refine Dy (fun a w'=>∃ x23 : ByteArray,∃ x24 : ByteArray,∃ x25 : ByteArray,∃ x26 : Int,j10 x23 x24 x25 x26 = some r ∧ Sx w [] nov [.blk b2 (An.enc (An.mk Ab.Site Ab.No Ab.At Ab.Kind x23 Cx x24 0 0 x25 x26)) 93,.blk b1 (An.enc Ab) 93] [(1,.pointer (some ⟨b1,0,none⟩)),(6,.pointer (some ⟨b2,0,none⟩))] 152 a w') ?_ ?_
             ·refine Fc h (S.tm rfl) (fun hb22 h=>?_) (fun hb22 h=>?_)
              ·refine Fo [] ([b2]) Tryz.mixed S rfl (by kernel_rfl) ?_;clear S;intro w52 hk46 hsel S
               refine De 0 S hsel rfl rfl rfl (by kernel_rfl) (by kernel_rfl) rfl (fun _ hw=>(Fp Uk (S.tm rfl))) fun a S=>De 1 S hsel rfl rfl rfl (by kernel_rfl) (by kernel_rfl) rfl (fun _ hw=>(Gj isAgg9 (off:=0) (o:=9) (S.tm rfl) ((S.blk_mem (i:=1) (cells:=(An.enc Ab)) (b:=b1) (T:=93) rfl (Jl (i:=0) (j:=1) (e:=.blk b2 (An.enc (An.mk Ab.Site Ab.No Ab.At Ab.Kind Cx Cx Cx 0 0 Cx 0)) 93) (e':=.blk b1 (An.enc Ab) 93) S rfl rfl rfl)).kept hw) rfl)) fun a S=>De 2 S hsel rfl rfl rfl (by kernel_rfl) (by kernel_rfl) rfl (fun _ hw=>(Fp Rv (S.tm rfl))) fun a S=>De 3 S hsel rfl rfl rfl (by kernel_rfl) (by kernel_rfl) rfl (fun _ hw=>(Gj isAgg3 (off:=0) (o:=10) (S.tm rfl) ((S.blk_mem (i:=1) (cells:=(An.enc Ab)) (b:=b1) (T:=93) rfl (Jl (i:=0) (j:=1) (e:=.blk b2 (An.enc (An.mk Ab.Site Ab.No Ab.At Ab.Kind Cx Cx Cx 0 0 Cx 0)) 93) (e':=.blk b1 (An.enc Ab) 93) S rfl rfl rfl)).kept hw) rfl)) fun a S=>De 4 S hsel rfl rfl rfl (by kernel_rfl) (by kernel_rfl) rfl (fun _ hw=>(Fp Uk (S.tm rfl))) fun a S=>Ff 5 (by kernel_rfl) rfl (Ep S (S.tm rfl) (S.tm rfl) (i:=0) (off:=9) rfl sizeOf9 (vs:=[sV Ab.Of]) rfl rfl rfl rfl ?_);clear S;intro w53 hk47 S
               refine Ld (Gl hk47 (De 6 S hsel rfl rfl rfl (by kernel_rfl) (by kernel_rfl) rfl (fun _ hw=>(Fp Rv (S.tm rfl))) fun a S=>Ff 7 (by kernel_rfl) rfl (Ep S (S.tm rfl) (S.tm rfl) (i:=0) (off:=10) rfl sizeOf3 (vs:=[iV Ab.Other]) rfl rfl rfl rfl ?_)));clear S;intro w54 hk48 S
               refine Ld (Gl hk48 (Se (by kernel_rfl) ?_))
               clear hsel
               replace S:=(S.nl [.blk b2 (An.enc (An.mk Ab.Site Ab.No Ab.At Ab.Kind Cx Cx Cx 0 0 Ab.Of Ab.Other)) 93,.blk b1 (An.enc Ab) 93] [true,true] rfl).k2 1 6 rfl
               exact Tn (⟨Cx,Cx,Ab.Of,Ab.Other,h,S.nf [true,true] rfl (subR rfl)⟩)
              ·refine Fo [] ([b2]) Tryz.mixed S rfl (by kernel_rfl) ?_;clear S;intro w57 hk51 hsel S
               refine De 0 S hsel rfl rfl rfl (by kernel_rfl) (by kernel_rfl) rfl (fun _ hw=>(Fp Nx (S.tm rfl))) fun a S=>De 1 S hsel rfl rfl rfl (by kernel_rfl) (by kernel_rfl) rfl (fun _ hw=>(Gj isAgg9 (off:=0) (o:=4) (S.tm rfl) ((S.blk_mem (i:=1) (cells:=(An.enc Ab)) (b:=b1) (T:=93) rfl (Jl (i:=0) (j:=1) (e:=.blk b2 (An.enc (An.mk Ab.Site Ab.No Ab.At Ab.Kind Cx Cx Cx 0 0 Cx 0)) 93) (e':=.blk b1 (An.enc Ab) 93) S rfl rfl rfl)).kept hw) rfl)) fun a S=>De 2 S hsel rfl rfl rfl (by kernel_rfl) (by kernel_rfl) rfl (fun _ hw=>(Fp Qd (S.tm rfl))) fun a S=>De 3 S hsel rfl rfl rfl (by kernel_rfl) (by kernel_rfl) rfl (fun _ hw=>(Gj isAgg9 (off:=0) (o:=6) (S.tm rfl) ((S.blk_mem (i:=1) (cells:=(An.enc Ab)) (b:=b1) (T:=93) rfl (Jl (i:=0) (j:=1) (e:=.blk b2 (An.enc (An.mk Ab.Site Ab.No Ab.At Ab.Kind Cx Cx Cx 0 0 Cx 0)) 93) (e':=.blk b1 (An.enc Ab) 93) S rfl rfl rfl)).kept hw) rfl)) fun a S=>De 4 S hsel rfl rfl rfl (by kernel_rfl) (by kernel_rfl) rfl (fun _ hw=>(Fp Nx (S.tm rfl))) fun a S=>Ff 5 (by kernel_rfl) rfl (Ep S (S.tm rfl) (S.tm rfl) (i:=0) (off:=4) rfl sizeOf9 (vs:=[sV Ab.Who]) rfl rfl rfl rfl ?_);clear S;intro w58 hk52 S
               refine Ld (Gl hk52 (De 6 S hsel rfl rfl rfl (by kernel_rfl) (by kernel_rfl) rfl (fun _ hw=>(Fp Qd (S.tm rfl))) fun a S=>Ff 7 (by kernel_rfl) rfl (Ep S (S.tm rfl) (S.tm rfl) (i:=0) (off:=6) rfl sizeOf9 (vs:=[sV Ab.Race]) rfl rfl rfl rfl ?_)));clear S;intro w59 hk53 S
               refine Ld (Gl hk53 (Se (by kernel_rfl) ?_))
               clear hsel
               replace S:=(S.nl [.blk b2 (An.enc (An.mk Ab.Site Ab.No Ab.At Ab.Kind Ab.Who Cx Ab.Race 0 0 Cx 0)) 93,.blk b1 (An.enc Ab) 93] [true,true] rfl).k2 1 6 rfl
               exact Tn (⟨Ab.Who,Ab.Race,Cx,0,h,S.nf [true,true] rfl (subR rfl)⟩)
             clear S h;rintro a w49 ⟨x23,x24,x25,x26,h,S⟩;rw [hj10] at h;clear hj10 j10
             exact Tn (⟨x23,x24,0,0,x25,x26,h,S.nf [true,true] rfl (subR rfl)⟩)
           clear S h;rintro a w39 ⟨x17,x18,x19,x20,x21,x22,h,S⟩;rw [hj9] at h;clear hj9 j9
           exact Tn (⟨x17,Cx,x18,x19,x20,x21,x22,h,S.nf [true,true] rfl (subR rfl)⟩)
         clear S h;rintro a w29 ⟨x10,x11,x12,x13,x14,x15,x16,h,S⟩;rw [hj8] at h;clear hj8 j8
         exact Gy (Tn (⟨x10,x11,x12,x13,x14,x15,x16,h,S.nf [true,true] rfl (subR rfl)⟩))
        clear S h;rintro a w28 ⟨x3,x4,x5,x6,x7,x8,x9,h,S⟩;rw [hj7] at h;clear hj7 j7
        refine Tn (Fs (Fr (lv S (Fb isAgg93 sizeOf93 (off:=0) (o:=0) (part:=(An.enc Ab)) rfl rfl (S.tm rfl) (S.cellsAt (i:=1) rfl)) rfl fun a S=>lv S (Fb isAgg93 sizeOf93 (off:=0) (o:=0) (part:=(An.enc (An.mk Ab.Site Ab.No Ab.At Ab.Kind x3 x4 x5 x6 x7 x8 x9))) rfl rfl (S.tm rfl) (S.cellsAt (i:=0) rfl)) rfl fun a S=>lv S (EK (m:=Ab) (n:=(An.mk Ab.Site Ab.No Ab.At Ab.Kind x3 x4 x5 x6 x7 x8 x9)) (S.tm rfl) (S.tm rfl)) rfl fun a S=>Dl (Fc h (S.tm rfl) (fun hb23 h=>?_) (fun hb23 h=>?_)))))
        ·refine Fr (Vk S rfl rfl fun a S=>Dl (wp_ret (Db ?_)))
         obtain rfl:=Option.some.inj h
         exact Ds S results112 rfl rfl
        ·refine wp_skip (Tn (Fr (Vk S rfl rfl fun a S=>Dl (wp_ret ?_))))
         obtain rfl:=Option.some.inj h
         exact Ds S results112 rfl rfl
theorem Ve (w : World) (Ab : Int) (r : Bool) (h : Pf Ab = r) :
    Calls prog 130 [iV Ab].toArray w (Ret w [] fun _ v _=>v = bV r):=by
 refine Fe func130 rfl ntmps130 rfl fun a S=>?_
 unfold Pf at h
 replace S:=S.k1 0 rfl
 refine Fr (Vk S rfl rfl fun a S=>Dz (Vm S rfl rfl fun a S=>Vm S rfl rfl fun a S=>Vb S Kg rfl rfl rfl fun a S=>Va S rfl rfl ?_));clear S;intro a S
 refine Dl (wp_ret ?_)
 subst h
 exact Ds S results130 rfl rfl
theorem Ng (w : World) (Ab : Int) (Ba : Int) (r : Int) (h : Fk Ab Ba = r) :
    Calls prog 98 [iV Ab,iV Ba].toArray w (Ret w [] fun _ v _=>v = iV r):=by
 refine Fe func98 rfl ntmps98 rfl fun a S=>?_
 unfold Fk at h
 replace S:=S.k2 0 1 rfl
 refine Fr (Vk S rfl rfl fun a S=>Dz (Vm S rfl rfl fun a S=>Dd S (fun _=>Cz (vs:=[iV Ab]) ⟨(S.tm rfl),trivial⟩ call130) (Ve _ Ab _ rfl) rfl ?_));clear S;intro v1 a w1 hv1 hk1 hn1 S
 subst hv1
 refine Va S rfl rfl fun a S=>Dz (Vm S rfl rfl fun a S=>Dd S (fun _=>Cz (vs:=[iV Ba]) ⟨(S.tm rfl),trivial⟩ call130) (Ve _ Ba _ rfl) rfl ?_);clear S;intro v2 a w2 hv2 hk2 hn2 S
 subst hv2
 refine Va S rfl rfl fun a S=>Dl (Fs (Fr (Vm S rfl rfl fun a S=>Dl (Fc h (S.tm rfl) (fun hb1 h=>?_) (fun hb1 h=>?_)))))
 ·refine Fs (Fr (Vm S rfl rfl fun a S=>Dl (Fc h (S.tm rfl) (fun hb2 h=>?_) (fun hb2 h=>?_))))
  ·refine Fr (Vk S rfl rfl fun a S=>Dl (wp_ret (Db (Db ?_))))
   subst h
   exact Ds S results98 rfl rfl
  ·refine wp_skip (Tn (Fr (Vk S rfl rfl fun a S=>Dl (wp_ret (Db ?_)))))
   subst h
   exact Ds S results98 rfl rfl
 ·refine wp_skip (Tn (Fs (Fr (Vm S rfl rfl fun a S=>Dl (Fc h (S.tm rfl) (fun hb3 h=>?_) (fun hb3 h=>?_))))))
  ·refine Fr (Vk S rfl rfl fun a S=>Dl (wp_ret (Db ?_)))
   subst h
   exact Ds S results98 rfl rfl
  ·refine wp_skip (Tn (Fs (Fr (Vm S rfl rfl fun a S=>Vm S rfl rfl fun a S=>Vb S Ev rfl rfl rfl fun a S=>Dl (Fc h (S.tm rfl) (fun hb4 h=>?_) (fun hb4 h=>?_))))))
   ·refine Fr (Vk S rfl rfl fun a S=>Dl (wp_ret (Db ?_)))
    subst h
    exact Ds S results98 rfl rfl
   ·refine wp_skip (Tn (Fs (Fr (Vm S rfl rfl fun a S=>Vm S rfl rfl fun a S=>Vb S It rfl rfl rfl fun a S=>Ld ?_))))
    replace S:=S.k1 19 rfl
    refine Tn (Fc h (S.tm rfl) (fun hb5 h=>?_) (fun hb5 h=>?_))
    ·refine Fr (Vk S rfl rfl fun a S=>Dl (wp_ret (Db ?_)))
     subst h
     exact Ds S results98 rfl rfl
    ·refine wp_skip (Tn (Fr (Vk S rfl rfl fun a S=>Dl (wp_ret ?_))))
     subst h
     exact Ds S results98 rfl rfl
theorem Yr (w : World) (Cp : Value) (Cm : List Int) (Cn : Slc (view w []) 1 Cp (Cm.map eInt)) (r : Int) (h : Sk Cm = r) :
    Calls prog 97 [Cp].toArray w (Ret w [] fun _ v _=>v = iV r):=by
 refine Fe func97 rfl ntmps97 rfl fun a S=>?_
 unfold Sk at h
 replace S:=S.k1 0 rfl
 refine Fr (Vk S rfl rfl fun a S=>Dz (Vk S rfl rfl fun a S=>Dl (Fs ?_)))
 refine Fr (Vm S rfl rfl fun a S=>lv S (Fi Jr (S.tm rfl) (Fm Cn)) rfl fun a S=>lv S (Rm rfl) rfl fun a S=>Dl ?_)
 replace S:=S.k4 3 6 7 8 rfl
 obtain ⟨j1,hj1,h⟩:=Eo h
 refine Dy (fun a w'=>j1 = r ∧ Sx w [] nov [] [(3,iV 0)] 18 a w') ?_ ?_
 ·refine wp_block (Gs (fun (ys1 : List Int) a w'=>∃ i1 : Nat,(∃ dn,Cm = dn ++ ys1 ∧ dn.length = i1) ∧ Lt j1 ys1 i1 = r ∧ Sx w [] nov [] [(3,iV 0),(6,Cp),(7,iV (Cm.length : Int)),(8,iV (i1 : Int))] 18 a w') List.length Cm ⟨0,⟨[],rfl,rfl⟩,h,S.nf [] rfl (subR rfl)⟩ ?_)
  clear S h;rintro ys1 a w1 ⟨i1,⟨dn,hd1,hi1⟩,h,S⟩
  cases ys1 with
  | nil =>
   rw [Lt.eq_1] at h
   refine Fr (Vb S Ev rfl rfl rfl fun a S=>Ld ?_)
   replace S:=S.k5 3 6 7 8 9 rfl
   exact Tn (Fs (wp_cond_false ((S.tm rfl).trans (congrArg Value.bool (Ke hd1 hi1))) (wp_exit (Dt (Dt (Gh (Tn (⟨h,S.nf [] rfl ⟨rfl,trivial⟩⟩))))))))
  | cons y1 ys1 =>
   rw [Lt.eq_2] at h
   refine Fr (Vb S Ev rfl rfl rfl fun a S=>Ld ?_)
   replace S:=S.k5 3 6 7 8 9 rfl
   refine Tn (Fs (wp_cond_true ((S.tm rfl).trans (congrArg Value.bool (Ja hd1 hi1))) (wp_skip (Tn (Fs (wp_block (Fs (Fg ?_))))))))
   obtain ⟨b1,o1,hm1,hr1⟩:=Fu (a:=a) (x:=.tmp 6) (y:=.tmp 8) (ty:=0) Jr Cn (Jx hd1 hi1) rfl (S.tm rfl) (S.tm rfl)
   refine lv S (hr1 _) rfl ?_;clear S;intro a S
   clear hr1
   refine lv S (Gj isAgg3 (off:=o1) (o:=0) (S.tm rfl) (hm1.at S.emb0) rfl) rfl fun a S=>Va S rfl rfl fun a S=>Dz (Vm S rfl rfl fun a S=>Vm S rfl rfl fun a S=>Vb S Kg rfl rfl rfl fun a S=>Dl ?_)
   refine Fc h (S.tm rfl) (fun hb1 h=>?_) (fun hb1 h=>?_)
   ·refine Fr (Vm S rfl rfl fun a S=>Va S rfl rfl fun a S=>Dl (wp_ret (Gc (Db (Db (Gc ?_))))))
    refine Db (Db ?_)
    subst h
    exact Ds S results97 rfl rfl
   ·exact wp_skip (Gy (Tn (Fg (Vq S Fa rfl rfl rfl fun a S=>Vm S rfl rfl fun a S=>Dl (⟨ys1,⟨i1 + 1,⟨_,(hd1).trans (List.append_cons _ _ _),by simp [hi1]⟩,h,S.nf [] rfl ⟨rfl,rfl,rfl,(congrArg (fun z=>some (Value.int .i64 z)) (Jb hd1 hi1 (Jy Cn))),trivial⟩⟩,Nat.lt_succ_self _⟩)))))
 clear S h;rintro a w2 ⟨h,S⟩;rw [hj1] at h;clear hj1 j1
 refine Tn (Fr (Vm S rfl rfl fun a S=>Va S rfl rfl fun a S=>Dl (wp_ret ?_)))
 subst h
 exact Ds S results97 rfl rfl
set_option maxRecDepth 20000 in
theorem BL (w : World) (Aj : An) (Am : An) (r : Int) (h : Kf Aj Am = r) :
    Calls prog 113 [.agg (An.enc Aj).toArray,.agg (An.enc Am).toArray].toArray w (Ret w [] fun _ v _=>v = iV r):=by
 refine Fe func113 rfl ntmps113 rfl fun a S=>?_
 unfold Kf at h
 replace S:=S.k2 0 1 rfl
 refine Fr (Ks S (S.tm rfl) (cs:=(An.enc Aj)) rfl rfl ?_);clear S;intro a w1 b1 hz1 hk1 S
 refine Ks S (S.tm rfl) (cs:=(An.enc Am)) rfl rfl ?_;clear S;intro a w2 b2 hz2 hk2 S
 refine Vk S rfl rfl fun a S=>Dl (Fs (Fo [] ([]) Tryz.mixed S rfl (by kernel_rfl) ?_));clear S;intro w8 hk8 hsel S
 refine De 0 S hsel rfl rfl rfl (by kernel_rfl) (by kernel_rfl) rfl (fun _ hw=>(Fp Qr (S.tm rfl))) fun a S=>De 1 S hsel rfl rfl rfl (by kernel_rfl) (by kernel_rfl) rfl (fun _ hw=>(Gj isAgg3 (off:=0) (o:=2) (S.tm rfl) ((S.blk_mem (i:=1) (cells:=(An.enc Aj)) (b:=b1) (T:=93) rfl (Gt (e':=.blk b1 (An.enc Aj) 93))).kept hw) rfl)) fun a S=>De 2 S hsel rfl rfl rfl (by kernel_rfl) (by kernel_rfl) rfl (fun _ hw=>(Fp Qr (S.tm rfl))) fun a S=>De 3 S hsel rfl rfl rfl (by kernel_rfl) (by kernel_rfl) rfl (fun _ hw=>(Gj isAgg3 (off:=0) (o:=2) (S.tm rfl) ((S.blk_mem (i:=0) (cells:=(An.enc Am)) (b:=b2) (T:=93) rfl (Gt (e':=.blk b2 (An.enc Am) 93))).kept hw) rfl)) fun a S=>De 5 S hsel rfl rfl rfl (by kernel_rfl) (by kernel_rfl) rfl (fun _ hw=>(Fp Oh (S.tm rfl))) fun a S=>De 6 S hsel rfl rfl rfl (by kernel_rfl) (by kernel_rfl) rfl (fun _ hw=>(Gj isAgg9 (off:=0) (o:=0) (S.tm rfl) ((S.blk_mem (i:=1) (cells:=(An.enc Aj)) (b:=b1) (T:=93) rfl (Gt (e':=.blk b1 (An.enc Aj) 93))).kept hw) rfl)) fun a S=>De 7 S hsel rfl rfl rfl (by kernel_rfl) (by kernel_rfl) rfl (fun _ hw=>(Fp Oh (S.tm rfl))) fun a S=>De 8 S hsel rfl rfl rfl (by kernel_rfl) (by kernel_rfl) rfl (fun _ hw=>(Gj isAgg9 (off:=0) (o:=0) (S.tm rfl) ((S.blk_mem (i:=0) (cells:=(An.enc Am)) (b:=b2) (T:=93) rfl (Gt (e':=.blk b2 (An.enc Am) 93))).kept hw) rfl)) fun a S=>De 10 S hsel rfl rfl rfl (by kernel_rfl) (by kernel_rfl) rfl (fun _ hw=>(Fp Qc (S.tm rfl))) fun a S=>De 11 S hsel rfl rfl rfl (by kernel_rfl) (by kernel_rfl) rfl (fun _ hw=>(Gj isAgg3 (off:=0) (o:=1) (S.tm rfl) ((S.blk_mem (i:=1) (cells:=(An.enc Aj)) (b:=b1) (T:=93) rfl (Gt (e':=.blk b1 (An.enc Aj) 93))).kept hw) rfl)) fun a S=>De 12 S hsel rfl rfl rfl (by kernel_rfl) (by kernel_rfl) rfl (fun _ hw=>(Fp Qc (S.tm rfl))) ?_;clear S;intro a S
 refine De 13 S hsel rfl rfl rfl (by kernel_rfl) (by kernel_rfl) rfl (fun _ hw=>(Gj isAgg3 (off:=0) (o:=1) (S.tm rfl) ((S.blk_mem (i:=0) (cells:=(An.enc Am)) (b:=b2) (T:=93) rfl (Gt (e':=.blk b2 (An.enc Am) 93))).kept hw) rfl)) fun a S=>Ff 4 (by kernel_rfl) rfl (Dd S (fun _=>Cz (vs:=[iV Aj.At,iV Am.At]) ⟨(S.tm rfl),(S.tm rfl),trivial⟩ call98) (Ng _ Aj.At Am.At _ rfl) rfl ?_);clear S;intro v5 a w9 hv5 hk9 hn5 S
 subst hv5
 refine Ld (Gl hk9 (Ff 9 (by kernel_rfl) rfl (Dd S (fun _=>Cz (vs:=[sV Aj.Site,sV Am.Site]) ⟨(S.tm rfl),(S.tm rfl),trivial⟩ call80) (Qv _ Aj.Site Am.Site _ rfl) rfl ?_)));clear S;intro v6 a w10 hv6 hk10 hn6 S
 subst hv6
 refine Ld (Gl hk10 (Ff 14 (by kernel_rfl) rfl (Dd S (fun _=>Cz (vs:=[iV Aj.No,iV Am.No]) ⟨(S.tm rfl),(S.tm rfl),trivial⟩ call98) (Ng _ Aj.No Am.No _ rfl) rfl ?_)));clear S;intro v7 a w11 hv7 hk11 hn7 S
 subst hv7
 refine Ld (Gl hk11 (Ff 15 (by kernel_rfl) rfl (Dv S underlying22 sizeOf3 zeroValue3 rfl rfl (pv:=[(0,iV (Fk Aj.At Am.At)),(1,iV (Kc Aj.Site Am.Site)),(2,iV (Fk Aj.No Am.No))]) ⟨rfl,(S.tm rfl),rfl,(S.tm rfl),rfl,(S.tm rfl),trivial⟩ (cs:=[iV (Fk Aj.At Am.At),iV (Kc Aj.Site Am.Site),iV (Fk Aj.No Am.No)]) (by kernel_rfl) rfl ?_)));clear S;intro a w12 b4 hz4 hk12 S
 refine Ld (Gl hk12 (Ff 16 (by kernel_rfl) rfl (Dd S (fun _=>Cz (vs:=[.slice (some ⟨b4,0,none⟩) 3 3]) ⟨(S.tm rfl),trivial⟩ call97) (Yr _ (.slice (some ⟨b4,0,none⟩) 3 3) [(Fk Aj.At Am.At),(Kc Aj.Site Am.Site),(Fk Aj.No Am.No)] (Ib Fd S (i:=0) rfl rfl rfl rfl ((Gt (e':=.blk b4 [iV (Fk Aj.At Am.At),iV (Kc Aj.Site Am.Site),iV (Fk Aj.No Am.No)] 3)) _ rfl)) _ rfl) rfl ?_)));clear S;intro v8 a w13 hv8 hk13 hn8 S
 subst hv8
 refine Ld (Gl hk13 (Js [17] hsel (by kernel_rfl) rfl ?_))
 clear hsel
 refine Fj S rfl (Ra (S.tm rfl)) rfl fun a S=>Jc ?_
 replace S:=S.n0.k1 4 rfl
 refine Tn (wp_ret ?_)
 subst h
 exact Ds S results113 rfl rfl
theorem Tc (w : World) (Ab : An) (r : Dp) (h : Dw Ab = r) :
    Calls prog 114 [.agg (An.enc Ab).toArray].toArray w (Ret w [] fun _ v _=>v = .agg (Dp.enc r).toArray):=by
 refine Fe func114 rfl ntmps114 rfl fun a S=>?_
 unfold Dw at h
 replace S:=S.k1 0 rfl
 refine Fr (Ks S (S.tm rfl) (cs:=(An.enc Ab)) rfl rfl ?_);clear S;intro a w1 b1 hz1 hk1 S
 refine Ic S zeroValue166 (cs:=[sV Cx,iV 0]) rfl rfl ?_;clear S;intro a w2 b2 hz2 hk2 S
 refine Dz (Vf Oh S rfl rfl fun a S=>Vl isAgg9 1 S rfl rfl rfl rfl fun a S=>Vf Qc S rfl rfl fun a S=>Vl isAgg3 1 S rfl rfl rfl rfl fun a S=>lv S (Mw LZ (pv:=[(0,sV Ab.Site),(1,iV Ab.No)]) ⟨rfl,(S.tm rfl),rfl,(S.tm rfl),trivial⟩ (cs:=[sV Ab.Site,iV Ab.No]) (by kernel_rfl)) rfl fun a S=>Ep S (S.tm rfl) (S.tm rfl) (i:=0) (off:=0) rfl sizeOf166 (vs:=[sV Ab.Site,iV Ab.No]) rfl rfl rfl rfl ?_);clear S;intro w3 hk3 S
 refine Dl (wp_ret ?_)
 subst h
 exact Vt S (rs:=[.cell 2 166]) (vs:=[.agg #[sV Ab.Site,iV Ab.No]]) results114 ⟨(Ri (off:=0) S rfl isAgg166 sizeOf166 rfl (S.cellsAt (i:=0) rfl)),trivial⟩ rfl rfl
set_option maxRecDepth 20000 in
theorem Zd (w : World) (Ac : Value) (Ae : List An) (Ah : Slc (view w []) 11 Ac (Ae.map An.enc)) (r : Int) (h : Mg Ae = some r) :
    Calls prog 86 [Ac].toArray w (Ret w [] fun _ v _=>v = iV r):=by
 refine Fe func86 rfl ntmps86 rfl fun a S=>?_
 unfold Mg at h
 replace S:=S.k1 0 rfl
 refine Fr (Vk S rfl rfl fun a S=>Dl (Fs (Fr (Vm S rfl rfl fun a S=>lv S (Fi Ll (S.tm rfl) (Fm Ah)) rfl fun a S=>Vq S It rfl rfl rfl ?_))));clear S;intro a S
 refine Dl (Fc h (S.tm rfl) (fun hb1 h=>?_) (fun hb1 h=>?_))
 ·refine Fr (Vk S rfl rfl fun a S=>Dl (wp_ret (Db ?_)))
  obtain rfl:=Option.some.inj h
  exact Ds S results86 rfl rfl
 ·refine wp_skip (Tn (Fr (Tr (κ:=Dp) (ν:=Bool) S rfl (fun x=>Value.agg (Dp.enc x).toArray) Value.bool ?_)));clear S;intro a w1 b1 hz1 hk1 S
  refine Va S rfl rfl fun a S=>Dz (Vk S rfl rfl fun a S=>Dl (Fs (Fs (Fg ?_))))
  refine Vm S rfl rfl fun a S=>lv S (Fi Ll (S.tm rfl) (Fm Ah)) rfl fun a S=>lv S (Rm rfl) rfl fun a S=>Dl ?_
  replace S:=(S.nl [.map b1 (He (fun x=>Value.agg (Dp.enc x).toArray) Value.bool ([] : List (Dp × Bool))) ([] : List (Dp × Bool)).length] [true] rfl).k6 0 3 4 12 13 14 rfl
  obtain ⟨j1,hj1,h⟩:=Eo h
  refine Dy (fun a w'=>∃ x1 : List (Dp × Bool),∃ x2 : Bool,j1 x1 x2 = some r ∧ Sx w [] nov [.map b1 (He (fun x=>Value.agg (Dp.enc x).toArray) Value.bool x1) x1.length] [(4,bV x2)] 48 a w') ?_ ?_
  ·refine wp_block (Gs (fun (ys1 : List An) a w'=>∃ i1 : Nat,∃ x1 : List (Dp × Bool),∃ x2 : Bool,(∃ dn,Ae = dn ++ ys1 ∧ dn.length = i1) ∧ Gm Ae j1 ys1 i1 x1 x2 = some r ∧ Sx w [] nov [.map b1 (He (fun x=>Value.agg (Dp.enc x).toArray) Value.bool x1) x1.length] [(0,Ac),(3,.map (some b1)),(4,bV x2),(12,Ac),(13,iV (Ae.length : Int)),(14,iV (i1 : Int))] 48 a w') List.length Ae ⟨0,([] : List (Dp × Bool)),false,⟨[],rfl,rfl⟩,h,S.nf [true] rfl (subR rfl)⟩ ?_)
   clear S h;rintro ys1 a w2 ⟨i1,x1,x2,⟨dn,hd1,hi1⟩,h,S⟩
   cases ys1 with
   | nil =>
    rw [Gm.eq_1] at h
    refine Fr (Vb S Ev rfl rfl rfl fun a S=>Ld ?_)
    replace S:=S.k7 0 3 4 12 13 14 15 rfl
    exact Tn (Fs (wp_cond_false ((S.tm rfl).trans (congrArg Value.bool (Ke hd1 hi1))) (wp_exit (Dt (Dt (Gh (Tn (⟨x1,x2,h,S.nf [true] rfl ⟨rfl,trivial⟩⟩))))))))
   | cons y1 ys1 =>
    rw [Gm.eq_2] at h
    refine Fr (Vb S Ev rfl rfl rfl fun a S=>Ld ?_)
    replace S:=S.k7 0 3 4 12 13 14 15 rfl
    refine Tn (Fs (wp_cond_true ((S.tm rfl).trans (congrArg Value.bool (Ja hd1 hi1))) (wp_skip (Tn (Fs (wp_block (Fr (Vm S rfl rfl ?_))))))));clear S;intro a S
    obtain ⟨b2,o1,hm1,hr1⟩:=Fu (a:=a) (x:=.tmp 12) (y:=.tmp 14) (ty:=0) Ll Ah (Jx hd1 hi1) rfl (S.tm rfl) (S.tm rfl)
    refine lv S (hr1 _) rfl ?_;clear S;intro a S
    clear hr1
    refine lv S (Fb isAgg93 sizeOf93 (off:=o1) (o:=0) (part:=(An.enc y1)) rfl rfl (S.tm rfl) (hm1.at S.emb0)) rfl fun a S=>Ic S zeroValue93 (cs:=[sV Cx,iV 0,iV 0,iV 0,sV Cx,sV Cx,sV Cx,iV 0,iV 0,sV Cx,iV 0]) rfl rfl ?_;clear S;intro a w4 b3 hz2 hk2 S
    refine Va S rfl rfl fun a S=>Ep S (S.tm rfl) (S.tm rfl) (i:=0) (off:=0) rfl sizeOf93 (vs:=(An.enc y1)) rfl rfl rfl rfl ?_;clear S;intro w5 hk3 S
    refine Dl (Fs (Fr (lv S (Fb isAgg93 sizeOf93 (off:=0) (o:=0) (part:=(An.enc y1)) rfl rfl (S.tm rfl) (S.cellsAt (i:=0) rfl)) rfl ?_)));clear S;intro a S
    obtain ⟨r1,hr2,h⟩:=Ej h
    refine Dd S (fun _=>Cz (vs:=[.agg (An.enc y1).toArray]) ⟨(S.tm rfl),trivial⟩ call112) (Zy _ y1 _ hr2) rfl ?_;clear S;intro v1 a w6 hv1 hk4 hn1 S
    subst hv1
    refine Va S rfl rfl fun a S=>Ld ?_
    replace S:=(S.nl [.blk b3 (An.enc y1) 93,.map b1 (He (fun x=>Value.agg (Dp.enc x).toArray) Value.bool x1) x1.length] [true,true] rfl).k9 0 3 4 5 6 7 12 13 14 rfl
    refine Tn (Fr (Vm S rfl rfl fun a S=>Vq S Kg rfl rfl rfl fun a S=>Dl (Fc h (S.tm rfl) (fun hb2 h=>?_) (fun hb2 h=>?_))))
    ·refine Fr (Vm S rfl rfl fun a S=>Va S rfl rfl fun a S=>Dl (wp_ret (Db (Gc (Db (Db ?_))))))
     refine Gc (Db (Db ?_))
     obtain rfl:=Option.some.inj h
     exact Ds S results86 rfl rfl
    ·refine wp_skip (Tn (Fs (Fs ?_)))
     obtain ⟨j2,hj2,h⟩:=Eo h
     refine Dy (fun a w'=>∃ x3 : Bool,j2 x3 = some r ∧ Sx w [] nov [.blk b3 (An.enc y1) 93,.map b1 (He (fun x=>Value.agg (Dp.enc x).toArray) Value.bool x1) x1.length] [(0,Ac),(3,.map (some b1)),(4,bV x2),(6,.pointer (some ⟨b3,0,none⟩)),(12,Ac),(13,iV (Ae.length : Int)),(14,iV (i1 : Int)),(35,bV x3)] 48 a w') ?_ ?_
     ·rcases Bool.eq_false_or_eq_true (decide (0 < (i1 : Int))) with hb3 | hb3
      ·replace h:=Rb h hb3
       obtain ⟨hc1,h⟩:=Gu h
       refine Fo [] ([]) Tryz.mixed S rfl (by kernel_rfl) ?_;clear S;intro w9 hk6 hsel S
       refine De 0 S hsel rfl rfl rfl (by kernel_rfl) (by kernel_rfl) rfl (fun _ hw=>(Rm (S.tm rfl))) fun a S=>De 1 S hsel rfl rfl rfl (by kernel_rfl) (by kernel_rfl) rfl (fun _ hw=>(It (S.tm rfl) rfl)) fun a S=>De 2 S hsel rfl rfl rfl (by kernel_rfl) (by kernel_rfl) rfl (fun _ hw=>(Rm (S.tm rfl))) fun a S=>Dj 3 S hsel rfl rfl rfl rfl hb3 rfl rfl (by kernel_rfl) (by kernel_rfl) rfl (fun _ hw=>(Rm (S.tm rfl))) fun a S=>Dj 4 S hsel rfl rfl rfl rfl hb3 rfl rfl (by kernel_rfl) (by kernel_rfl) rfl (fun _ hw=>(Rm (S.tm rfl))) fun a S=>Dj 5 S hsel rfl rfl rfl rfl hb3 rfl rfl (by kernel_rfl) (by kernel_rfl) rfl (fun _ hw=>(Gp (S.tm rfl) rfl)) ?_;clear S;intro a S
       obtain ⟨b5,o3,hm3,hr4⟩:=Fu (a:=a) (x:=.tmp 27) (y:=.tmp 29) (ty:=0) Ll (Ah.mono (S.le_arg Ey)) (Dc hc1).1 (Dc hc1).2 (S.tm rfl) (S.tm rfl)
       refine Dj 6 S hsel rfl rfl rfl rfl hb3 rfl rfl (by kernel_rfl) (by kernel_rfl) rfl (fun _ hw=>hr4 _) ?_;clear S;intro a S
       clear hr4
       refine Dj 7 S hsel rfl rfl rfl rfl hb3 rfl rfl (by kernel_rfl) (by kernel_rfl) rfl (fun _ hw=>(Fb isAgg93 sizeOf93 (off:=o3) (o:=0) (part:=(An.enc (nth Ae (W ((i1 : Int) - 1))))) rfl rfl (S.tm rfl) (hm3.kept hw))) fun a S=>Dj 8 S hsel rfl rfl rfl rfl hb3 rfl rfl (by kernel_rfl) (by kernel_rfl) rfl (fun _ hw=>(Fb isAgg93 sizeOf93 (off:=0) (o:=0) (part:=(An.enc y1)) rfl rfl (S.tm rfl) ((S.blk_mem (i:=0) (cells:=(An.enc y1)) (b:=b3) (T:=93) rfl (Gt (e':=.blk b3 (An.enc y1) 93))).kept hw))) fun a S=>Ff 9 (by kernel_rfl) rfl (Da S rfl rfl rfl hb3 (Dd S (fun _=>Cz (vs:=[.agg (An.enc (nth Ae (W ((i1 : Int) - 1)))).toArray,.agg (An.enc y1).toArray]) ⟨(S.tm rfl),(S.tm rfl),trivial⟩ call113) (BL _ (nth Ae (W ((i1 : Int) - 1))) y1 _ rfl) rfl ?_));clear S;intro v3 a w10 hv3 hk7 hn3 S
       subst hv3
       refine Ld (Gl hk7 (Js [10,11] hsel (by kernel_rfl) rfl ?_))
       clear hsel
       refine Lx S rfl rfl rfl rfl hb3 (Ok S (Nj (S.tm rfl) rfl) rfl fun a S=>Fj S rfl (Ms hb3 (S.tm rfl) (S.tm rfl)) rfl fun a S=>Jc ?_)
       replace S:=S.k16 0 3 4 6 12 13 14 27 28 29 30 31 32 33 34 35 rfl
       exact Tn (⟨decide (0 ≤ (Kf (nth Ae (W ((i1 : Int) - 1))) y1)),h,S.nf [true,true] rfl (subR rfl)⟩)
      ·replace h:=Rc h hb3
       refine Fo [] ([]) Tryz.mixed S rfl (by kernel_rfl) ?_;clear S;intro w11 hk8 hsel S
       refine Js [0,1,2,3,4,5,6,7,8,9,10,11] hsel (by kernel_rfl) rfl ?_
       clear hsel
       refine Fj S rfl (Rm (S.tm rfl)) rfl fun a S=>Fj S rfl (It (S.tm rfl) rfl) rfl fun a S=>Fj S rfl (Rm (S.tm rfl)) rfl ?_;clear S;intro a S
       iterate 8 (refine Rj S rfl rfl rfl rfl (Jk hb3) rfl ?_ rfl;clear S;intro a S)
       refine Fj S rfl (Mt hb3 (S.tm rfl) rfl) rfl fun a S=>Jc ?_
       replace S:=S.k8 0 3 4 6 12 13 14 35 rfl
       exact Tn (⟨false,h,S.nf [true,true] rfl (subR rfl)⟩)
     clear S h;rintro a w7 ⟨x3,h,S⟩;rw [hj2] at h;clear hj2 j2
     refine Tn (Fc h (S.tm rfl) (fun hb4 h=>?_) (fun hb4 h=>?_))
     ·refine Fr (Vk S rfl rfl fun a S=>Dl (wp_ret (Db (Gc (Db (Db (Gc ?_)))))))
      refine Db (Db ?_)
      obtain rfl:=Option.some.inj h
      exact Ds S results86 rfl rfl
     ·refine wp_skip (Tn (Fr (Vm S rfl rfl fun a S=>Vm S rfl rfl fun a S=>Gr 5 (fun a w'=>Keep [] w7 w' ∧ Sx w [] nov [.blk b3 (An.enc y1) 93,.map b1 (He (fun x=>Value.agg (Dp.enc x).toArray) Value.bool x1) x1.length] [(0,Ac),(3,.map (some b1)),(6,.pointer (some ⟨b3,0,none⟩)),(12,Ac),(13,iV (Ae.length : Int)),(14,iV (i1 : Int)),(42,bV (x2 || (Ek x1 (Dw y1) false)))] 48 a w') ?_ ?_)))
      ·rcases Bool.eq_false_or_eq_true x2 with hb5 | hb5
       ·iterate 4 (refine Fy S rfl rfl rfl (Ki hb5) rfl ?_ rfl;clear S;intro a S)
        exact lv S (Iw (Ek x1 (Dw y1) false) hb5 (S.tm rfl) rfl) rfl fun a S=>Dl (⟨Keep.refl _ _,S.nf [true,true] rfl (subR rfl)⟩)
       ·refine Da S rfl rfl rfl hb5 (Vm S rfl rfl fun a S=>Da S rfl rfl rfl hb5 (lv S (Fb isAgg93 sizeOf93 (off:=0) (o:=0) (part:=(An.enc y1)) rfl rfl (S.tm rfl) (S.cellsAt (i:=0) rfl)) rfl fun a S=>Da S rfl rfl rfl hb5 (Dd S (fun _=>Cz (vs:=[.agg (An.enc y1).toArray]) ⟨(S.tm rfl),trivial⟩ call114) (Tc _ y1 _ rfl) rfl ?_)));clear S;intro v4 a w13 hv4 hk9 hn4 S
        subst hv4
        exact Da S rfl rfl rfl hb5 (lv S (Qx (kv:=(fun x=>Value.agg (Dp.enc x).toArray)) (vv:=Value.bool) (m:=x1) (key:=(Dw y1)) (z:=false) (S.map_at (i:=1) rfl) underlying164 Zx zeroValue4 (S.tm rfl) (S.tm rfl)) rfl fun a S=>lv S (Ix hb5 (S.tm rfl) (S.tm rfl)) rfl fun a S=>Dl (⟨hk9,S.nf [true,true] rfl (subR rfl)⟩))
      clear S;rintro a w12 ⟨hk10,S⟩
      refine Va S rfl rfl fun a S=>Dl (Fg (Vm S rfl rfl fun a S=>lv S (Fb isAgg93 sizeOf93 (off:=0) (o:=0) (part:=(An.enc y1)) rfl rfl (S.tm rfl) (S.cellsAt (i:=0) rfl)) rfl fun a S=>Dd S (fun _=>Cz (vs:=[.agg (An.enc y1).toArray]) ⟨(S.tm rfl),trivial⟩ call114) (Tc _ y1 _ rfl) rfl ?_));clear S;intro v5 a w14 hv5 hk11 hn5 S
      subst hv5
      refine Qy (kv:=(fun x=>Value.agg (Dp.enc x).toArray)) (vv:=Value.bool) (m:=x1) (key:=(Dw y1)) (val:=true) S (i:=1) rfl underlying164 Zx (S.tm rfl) (S.tm rfl) rfl ?_;clear S;intro w15 hk12 S
      exact Ld (Gy (Tn (Fg (Vq S Fa rfl rfl rfl fun a S=>Vm S rfl rfl fun a S=>Dl (⟨ys1,⟨i1 + 1,(Fz x1 (Dw y1) true),(x2 || (Ek x1 (Dw y1) false)),⟨_,(hd1).trans (List.append_cons _ _ _),by simp [hi1]⟩,h,S.nf [false,true] rfl ⟨rfl,rfl,rfl,rfl,rfl,(congrArg (fun z=>some (Value.int .i64 z)) (Jb hd1 hi1 (Jy Ah))),trivial⟩⟩,Nat.lt_succ_self _⟩)))))
  clear S h;rintro a w3 ⟨x1,x2,h,S⟩;rw [hj1] at h;clear hj1 j1
  refine Tn (Fs (Fr (Vm S rfl rfl fun a S=>Dl (Fc h (S.tm rfl) (fun hb6 h=>?_) (fun hb6 h=>?_)))))
  ·refine Fr (Vk S rfl rfl fun a S=>Dl (wp_ret (Db ?_)))
   obtain rfl:=Option.some.inj h
   exact Ds S results86 rfl rfl
  ·refine wp_skip (Tn (Fr (Vk S rfl rfl fun a S=>Dl (wp_ret ?_))))
   obtain rfl:=Option.some.inj h
   exact Ds S results86 rfl rfl
theorem Wl (w : World) (Al : Value) (Ap : List Int) (Cl : (LEnt.own Al 3 1 Ap.length (Ap.flatMap eInt)).holds w) (r : (List Int)) (h : Lr Ap = some r) :
    Calls prog 137 [Al].toArray w (Ret w (Al.ownBlock.toList) fun _ v w'=>(LEnt.own Al 3 1 r.length (r.flatMap eInt)).holds w' ∧ v = .tuple #[]):=by
 refine Iy (Al.ownBlock.toList) [.own Al 3 1 Ap.length (Ap.flatMap eInt)] func137 rfl ntmps137 rfl (fun e he=>by simp only [List.mem_singleton] at he;subst he;exact Cl) (Hb _) (Ip _) fun a S=>?_
 unfold Lr at h
 replace S:=(S.nl [.own Al 3 1 Ap.length (Ap.flatMap eInt)] [true] rfl).k1 0 rfl
 refine Fr (Vm S rfl rfl fun a S=>lv S (Fi Jr (S.tm rfl) (Iz (S.own_at (i:=0) rfl))) rfl fun a S=>Vq S Gp rfl rfl rfl fun a S=>Vk S rfl rfl fun a S=>Va S rfl rfl fun a S=>Dl ?_)
 replace S:=S.k3 0 2 3 rfl
 obtain ⟨j1,hj1,h⟩:=Eo h
 refine Dy (fun a w'=>∃ x1 : List Int,j1 x1 = some r ∧ Sx w (Al.ownBlock.toList) nov [.own Al 3 1 x1.length (x1.flatMap eInt)] [] 28 a w') ?_ ?_
 ·refine wp_block (Gs (fun (m1 : Nat) a w'=>∃ x1 : List Int,∃ x2 : Int,∃ x3 : Int,Ho j1 m1 x1 x2 x3 = some r ∧ Sx w (Al.ownBlock.toList) nov [.own Al 3 1 x1.length (x1.flatMap eInt)] [(0,Al),(2,iV x2),(3,iV x3)] 28 a w') id (((W ((Ap.length : Int) - 1)) - 0).toNat + 2) ⟨Ap,0,W ((Ap.length : Int) - 1),h,S.nf [true] rfl (subR rfl)⟩ ?_)
  clear S h;rintro m1 a w1 ⟨x1,x2,x3,h,S⟩
  cases m1 with
  | zero=>rw [Ho.eq_1] at h;cases h
  | succ m1 =>
   rw [Ho.eq_2] at h
   refine Fs (Fr (Vm S rfl rfl fun a S=>Vm S rfl rfl fun a S=>Vb S Ev rfl rfl rfl fun a S=>Dl (Fc h (S.tm rfl) (fun hb1 h=>?_) (fun hb1 h=>?_))))
   ·refine wp_skip (Tn (Fs (wp_block ?_)))
    obtain ⟨hc1,h⟩:=Gu h
    obtain ⟨hc2,h⟩:=Gu h
    obtain ⟨hc3,h⟩:=Gu h
    obtain ⟨hc4,h⟩:=Gu h
    refine Fo [13,15] ([]) Tryz.mixed S rfl (by kernel_rfl) ?_;clear S;intro w7 hk5 hsel S
    refine Ee 0 S hsel rfl rfl (by kernel_rfl) (by kernel_rfl) rfl (fun _=>(Rm (S.tm rfl))) fun a S=>Ee 1 S hsel rfl rfl (by kernel_rfl) (by kernel_rfl) rfl (fun _=>(Rm (S.tm rfl))) fun a S=>Ee 2 S hsel rfl rfl (by kernel_rfl) (by kernel_rfl) rfl (fun _=>(Rm (S.tm rfl))) fun a S=>Ee 3 S hsel rfl rfl (by kernel_rfl) (by kernel_rfl) rfl (fun _=>(Rm (S.tm rfl))) fun a S=>Ee 4 S hsel rfl rfl (by kernel_rfl) (by kernel_rfl) rfl (fun _=>(Rm (S.tm rfl))) fun a S=>Ee 5 S hsel rfl rfl (by kernel_rfl) (by kernel_rfl) rfl (fun _=>(Rm (S.tm rfl))) ?_;clear S;intro a S
    obtain ⟨b5,hg5,hr5⟩:=Eu (a:=a) (x:=.tmp 18) (y:=.tmp 19) (ty:=0) Jr Fd S (i:=0) rfl (Dc hc1).1 (Dc hc1).2 (S.tm rfl) (S.tm rfl)
    refine Ee 6 S hsel rfl rfl (by kernel_rfl) (by kernel_rfl) rfl (fun _=>(hr5 _)) ?_;clear S;intro a S
    clear hr5
    refine De 7 S hsel rfl (by kernel_rfl) (by kernel_rfl) (by kernel_rfl) (by kernel_rfl) rfl (fun _ hw=>(Gj isAgg3 (off:=x3.toNat * 1) (o:=0) (S.tm rfl) ((Kk Fd S (i:=0) rfl hg5 (Dc hc1).1 (Gt (e':=.own Al 3 1 x1.length (x1.flatMap eInt)))).kept hw) rfl)) fun a S=>Ee 8 S hsel rfl rfl (by kernel_rfl) (by kernel_rfl) rfl (fun _=>(Rm (S.tm rfl))) fun a S=>Ee 9 S hsel rfl rfl (by kernel_rfl) (by kernel_rfl) rfl (fun _=>(Rm (S.tm rfl))) ?_;clear S;intro a S
    obtain ⟨b6,hg6,hr6⟩:=Eu (a:=a) (x:=.tmp 22) (y:=.tmp 23) (ty:=0) Jr Fd S (i:=0) rfl (Dc hc2).1 (Dc hc2).2 (S.tm rfl) (S.tm rfl)
    refine Ee 10 S hsel rfl rfl (by kernel_rfl) (by kernel_rfl) rfl (fun _=>(hr6 _)) ?_;clear S;intro a S
    clear hr6
    refine De 11 S hsel rfl (by kernel_rfl) (by kernel_rfl) (by kernel_rfl) (by kernel_rfl) rfl (fun _ hw=>(Gj isAgg3 (off:=x2.toNat * 1) (o:=0) (S.tm rfl) ((Kk Fd S (i:=0) rfl hg6 (Dc hc2).1 (Gt (e':=.own Al 3 1 x1.length (x1.flatMap eInt)))).kept hw) rfl)) ?_;clear S;intro a S
    obtain ⟨b7,hg7,hr7⟩:=Eu (a:=a) (x:=.tmp 14) (y:=.tmp 15) (ty:=0) Jr Fd S (i:=0) rfl (Dc hc3).1 (Dc hc3).2 (S.tm rfl) (S.tm rfl)
    refine Ee 12 S hsel rfl rfl (by kernel_rfl) (by kernel_rfl) rfl (fun _=>(hr7 _)) ?_;clear S;intro a S
    clear hr7
    refine Rf 13 (Al.ownBlock.toList) rfl (by kernel_rfl) rfl (Le (c:=0) (j:=x2.toNat) (nth x1 x3) Fd S (S.tm rfl) (S.tm rfl) (i:=0) rfl hg7 (Dc hc3).1 sizeOf3 (vs:=[iV (nth x1 x3)]) rfl rfl rfl rfl rfl ?_);clear S;intro w9 hk7 S
    refine Ld (Rh ?_)
    obtain ⟨b8,hg8,hr8⟩:=Eu (a:=a) (x:=.tmp 16) (y:=.tmp 17) (ty:=0) Jr Fd S (i:=0) rfl (Dc hc4).1 (Dc hc4).2 (S.tm rfl) (S.tm rfl)
    refine De 14 S hsel rfl rfl rfl (by kernel_rfl) (by kernel_rfl) rfl (fun _ hw=>(hr8 _)) ?_;clear S;intro a S
    clear hr8
    refine Ff 15 (by kernel_rfl) rfl (Le (c:=0) (j:=x3.toNat) (nth x1 x2) Fd S (S.tm rfl) (S.tm rfl) (i:=0) rfl hg8 (Dc hc4).1 sizeOf3 (vs:=[iV (nth x1 x2)]) rfl rfl rfl rfl rfl ?_);clear S;intro w11 hk9 S
    refine Ld (Gl hk9 (Se (by kernel_rfl) ?_))
    clear hsel
    replace S:=(S.nl [.own Al 3 1 ((x1.set x2.toNat (nth x1 x3)).set x3.toNat (nth x1 x2)).length (((x1.set x2.toNat (nth x1 x3)).set x3.toNat (nth x1 x2)).flatMap eInt)] [true] rfl).k3 0 2 3 rfl
    refine Gy (Tn (Fg (Vm S rfl rfl fun a S=>Vq S Fa rfl rfl rfl fun a S=>Vm S rfl rfl fun a S=>Vq S Gp rfl rfl rfl fun a S=>Va S rfl rfl fun a S=>Va S rfl rfl fun a S=>Dl ?_)))
    exact ⟨m1,⟨((x1.set x2.toNat (nth x1 x3)).set x3.toNat (nth x1 x2)),W (x2 + 1),W (x3 - 1),h,S.nf [true] rfl ⟨rfl,rfl,rfl,trivial⟩⟩,Nat.lt_succ_self _⟩
   ·exact wp_exit (Dt (Dt (Gh (Tn (⟨x1,h,S.nf [true] rfl trivial⟩)))))
 clear S h;rintro a w2 ⟨x1,h,S⟩;rw [hj1] at h;clear hj1 j1
 obtain rfl:=Option.some.inj h
 exact Ph S results137 ⟨(S.holds _ (List.mem_of_getElem? (i:=0) rfl)),rfl⟩
def GT (xs : List An) (j : Nat) : Array Value:=#[iV (j : Int),.agg (An.enc (nth xs (j : Int))).toArray]
theorem back_in (φ ξ : View) (n Bs : Nat) (sv : Value) (xs : List An) (hB : φ Bs = some (.cells [sv].toArray 34 (0,0))) (hs : Slc ξ 11 sv (xs.map An.enc)) (l : Nat) (J : Nat → World → Prop) (w : World) (hJ : ∀ k w,J k w → Emb φ w ∧ Emb ξ w) (h0 : J 0 w)
    (hr : ∀ k x w1,(Ts xs.length)[k]? = some x → J k w1 → YieldAt (WF none) (n - 1) prog l (GT xs x) w1 fun e w'=>e = .returned (.bool true) ∧ J (k + 1) w') :
    CallsIn (WF none) n prog 153 (#[.func (.yield l) #[] #[]] ++ #[.pointer (some ⟨Bs,0,none⟩)]) w fun e w'=>(∃ v,e = .returned v) ∧ J (Ts xs.length).length w':=by
  refine i_enter (vs:=[.func (.yield l) #[] #[],.pointer (some ⟨Bs,0,none⟩)]) func153 rfl ntmps153 rfl fun a S=>?_
  have hlen : (Ts xs.length).length = xs.length:=by simp [Ts]
  have hmx:=Jy hs
  have hQ : ∀ fn a w,¬ bodyPost prog fn (fun e w'=>(∃ v,e = .returned v) ∧ J (Ts xs.length).length w') .outgrown a w:=fun _ _ _ ⟨⟨_,e⟩,_⟩=>by cases e
  have hbox : ∀ {k : Nat} {w : World},J k w → Nn w Bs 0 [sv]:=fun hj=>(Ue hB).at (hJ _ _ hj).1
  have hw : ∀ k : Nat,k ≤ xs.length → W ((xs.length : Int) - 1 - (k : Int)) = (xs.length : Int) - 1 - (k : Int):=fun k hk=>Px (by omega) (by omega)
  refine Tw (Ny (hQ f153) rfl (lv S (Gj isAgg34 (off:=0) (o:=0) (S.tm rfl) (hbox h0) rfl) rfl fun a S=>lv S (Fi Ll (S.tm rfl) (Fm hs)) rfl fun a S=>lv S (Gp (S.tm rfl) rfl) rfl fun a S=>lv S (Ra (S.tm rfl)) rfl fun a S=>Ld (Tn (wpIn_block (i_loop (fun m a w'=>∃ k : Nat,k ≤ xs.length ∧ m = xs.length - k ∧ J k w' ∧ Sx w' [] nov [] [(0,.func (.yield l) #[] #[]),(1,.pointer (some ⟨Bs,0,none⟩)),(3,iV ((xs.length : Int) - 1 - (k : Int)))] 19 a w') xs.length ⟨0,Nat.zero_le _,rfl,h0,?_⟩ ?_)))))
  · have h1:=(S.rebase (w':=w)).sub (K':=[(0,.func (.yield l) #[] #[]),(1,.pointer (some ⟨Bs,0,none⟩)),(3,iV (W ((xs.length : Int) - 1)))]) (subR rfl)
    have h2:=hw 0 (Nat.zero_le _)
    rw [show (((0 : Nat) : Int)) = 0 from rfl,Int.sub_zero] at h2 ⊢
    rw [h2] at h1
    exact h1
  · clear S;rintro m a w1 ⟨k,hk,rfl,hj,S⟩
    refine Tw (Tw (Ny (hQ f153) rfl (lv S (Rm (S.tm rfl)) rfl fun a S=>lv S (Nj (S.tm rfl) rfl) rfl fun a S=>Ld (Tn (FU (S.tm rfl) (fun hb=>?_) (fun hb=>?_))))))
    · have hb' : (0 : Int) ≤ (xs.length : Int) - 1 - (k : Int):=by simpa using hb
      have hlt : k < xs.length:=by omega
      have hx:=revI_at hlt
      have hy:=hr k _ w1 hx hj
      have hidx : ((xs.length - 1 - k : Nat) : Int) = (xs.length : Int) - 1 - (k : Int):=by omega
      refine wpIn_skip (Tn (Tw (wpIn_block (Tw (wpIn_region_lit (HX S (Rm (S.tm rfl)) (fun _ h=>by cases h) rfl fun a S=>HX S (Rm (S.tm rfl)) (fun _ h=>by cases h) rfl fun a S=>HX S (Gj isAgg34 (off:=0) (o:=0) (S.tm rfl) (hbox hj) rfl) (fun _ h=>by cases h) rfl fun a S=>HX S (Rm (S.tm rfl)) (fun _ h=>by cases h) rfl ?_))))));clear S;intro a S
      obtain ⟨b1,o1,hm1,hr1⟩:=Fu (a:=a) (x:=.tmp 13) (y:=.tmp 14) (ty:=0) Ll hs (nth_q (show xs.length - 1 - k < xs.length by omega)) rfl (S.tm rfl) (S.tm (by rw [hidx];rfl))
      refine HX S (hr1 _) (fun _ h=>by cases h) rfl fun a S=>HX S (Fb isAgg93 sizeOf93 (off:=o1) (o:=0) (part:=(An.enc (nth xs ((xs.length - 1 - k : Nat) : Int)))) rfl rfl (S.tm rfl) (hm1.at (hJ _ _ hj).2)) (fun _ h=>by cases h) rfl ?_;clear S;intro a S
      have h12 : a.eval (.tmp 12) = iV (((xs.length - 1 - k : Nat)) : Int):=by rw [hidx];exact S.tm rfl
      have h16:=S.tm (t:=16) rfl
      refine n_yield S (S.tm rfl) (vs:=GT xs (xs.length - 1 - k)) (by simp [GT,h12,h16]) rfl hy ?_ (fun e w' h=>⟨_,h.1⟩)
      clear S;rintro v w2 a ⟨hv,hj2⟩ S
      obtain rfl : v = .bool true:=by injection hv
      refine HX S (Gk (S.tm rfl)) (fun _ h=>by cases h) rfl fun a S=>n_done (Tn (FU (S.tm rfl) (fun h=>by cases h) (fun _=>wpIn_skip (Gy (Tn ?_)))))
      refine Ny (fun a w h=>hQ f153 a w h) rfl (lv S (Rm (S.tm rfl)) rfl fun a S=>lv S (Gp (S.tm rfl) rfl) rfl fun a S=>lv S (Ra (S.tm rfl)) rfl fun a S=>Ld (Tn ⟨xs.length - (k + 1),a,by omega,rfl,k + 1,hlt,rfl,hj2,?_⟩))
      have h1:=S.sub (K':=[(0,.func (.yield l) #[] #[]),(1,.pointer (some ⟨Bs,0,none⟩)),(3,iV (W ((xs.length : Int) - 1 - (k : Int) - 1)))]) (subR rfl)
      have h2:=hw (k + 1) hlt
      have h3 : (xs.length : Int) - 1 - ((k + 1 : Nat) : Int) = (xs.length : Int) - 1 - (k : Int) - 1:=by omega
      rw [h3] at h2 ⊢
      rw [h2] at h1
      exact h1
    · have hb' : ¬ (0 : Int) ≤ (xs.length : Int) - 1 - (k : Int):=by simpa using hb
      obtain rfl : k = xs.length:=by omega
      refine wpIn_exit (Dt (Dt (Gh ?_)))
      show bodyPost _ _ _ .normal _ _
      rw [Wz]
      refine ⟨S.nodefer,.tuple #[],by rw [results_none results153],⟨_,rfl⟩,?_⟩
      rw [hlen]
      exact hj
theorem back_ok (w : World) (sv : Value) (m : Nat) (hsl : Iu sv m) : Calls prog 136 [sv].toArray w (Ret w [] fun τ v _=>∃ Bs,v = .func (.func 153) #[] #[.pointer (some ⟨Bs,0,none⟩)] ∧ τ Bs = some (.cells [sv].toArray 34 (0,0))):=by
  refine Iy [] [] func136 rfl ntmps136 rfl (by simp) (by simp [fps]) (by simp [fps]) fun a S=>(Fs (Fg (Ks S (S.tm rfl) (cs:=[sv]) (Iu.cells hsl) rfl ?_)));clear S;intro a w1 b1 hz1 hk1 S
  refine lv S (Ra rfl) rfl fun a S=>Ld (Tn (Fs (Fg (lv S (Uc (us:=#[]) (vs:=#[.pointer (some ⟨b1,0,none⟩)]) (by simp) (by simp [S.tm (t:=1) rfl])) rfl fun a S=>lv S (Ra (S.tm rfl)) rfl fun a S=>Ld (Tn (wp_ret ?_))))))
  exact Ds S results136 rfl ⟨b1,rfl,blk_ret S (i:=0) rfl rfl⟩
abbrev kvP : Dp → Value:=fun x=>Value.agg (Dp.enc x).toArray
abbrev CO (b1 b2 b3 b4 : Nat) (at_ : Int) (m : List (Dp × Bool)) (x : List Int) (v : Value) : List LEnt :=
  [.own v 3 1 x.length (x.flatMap eInt),.blk b4 [v] 22,.blk b3 [.map (some b2)] 164,.map b2 (He kvP Value.bool m) m.length,.blk b1 [iV at_] 3]
set_option maxRecDepth 20000 in
theorem AL (w : World) (v_l : Value) (l : List An) (hs_l : Slc (view w []) 11 v_l (l.map An.enc)) (at_ : Int) (r : List Int) (h : Sn l at_ = some r) :
    Calls prog 115 [v_l,iV at_].toArray w (Ret w [] fun τ v _=>Pq τ 3 1 v r.length (r.flatMap eInt)):=by
  have hcons : ∀ {dn is : List Nat} {i : Nat} {k : Nat},Ts l.length = dn ++ i :: is → dn.length = k → (Ts l.length)[k]? = some i:=fun hd hk=>by rw [hd,← hk];simp
  have hQ : ∀ fn a w',¬ bodyPostM (WF none) 3 prog fn (Ret w [] fun τ v _=>Pq τ 3 1 v r.length (r.flatMap eInt)) .outgrown a w':=fun _ _ _ ⟨_,e,_⟩=>by cases e
  refine MC 3 func115 rfl ntmps115 rfl fun a S=>?_
  replace S:=S.nk [] [(0,v_l),(1,iV at_)] [] rfl (subR rfl)
  refine Tw (Ny (hQ f115) rfl (Ks S (S.tm rfl) (cs:=[iV at_]) rfl rfl ?_));clear S;intro a w1 b1 hz1 hk1 S
  refine lv S (Ra rfl) rfl fun a S=>Ld (Tn (Tw (Ny (hQ f115) rfl (Tr (κ:=Dp) (ν:=Bool) S rfl kvP Value.bool ?_))));clear S;intro a w2 b2 hz2 hk2 S
  refine Ic S zeroValue164 (cs:=[.map none]) rfl rfl ?_;clear S;intro a w3 b3 hz3 hk3 S
  refine Ep S (S.tm rfl) (S.tm rfl) (i:=0) (off:=0) rfl sizeOf164 (vs:=[.map (some b2)]) rfl rfl rfl rfl ?_;clear S;intro w4 hk4 S
  refine Ld (Tn (Tw (Ny (hQ f115) rfl (Ic S zeroValue22 (cs:=[.slice none 0 0]) rfl rfl ?_))));clear S;intro a w5 b4 hz5 hk5 S
  replace S:=S.nil 3 1
  refine Ld (Tn (Tw (Tw (Ny (hQ f115) rfl (lv S (Rm (S.tm rfl)) rfl ?_)))));clear S;intro a S
  have hz6:=S.keep.size
  refine Dd S (fun _=>Cz (vs:=[v_l]) ⟨(S.tm rfl),trivial⟩ call136) (back_ok _ v_l _ (Fm hs_l)) rfl ?_;clear S;intro v1 a w6 hv1 hk6 hn1 S
  obtain ⟨φ1,hl1,hm1,S⟩:=S.see' hn1 hz6
  obtain ⟨Bs,rfl,hB⟩:=hv1
  replace hB:=hm1 _ _ hB
  refine Ld (Tn (wpIn_block ?_))
  replace S:=S.nk (CO b1 b2 b3 b4 at_ [] [] (.slice none 0 0)) [(3,.pointer (some ⟨b1,0,none⟩)),(5,.pointer (some ⟨b3,0,none⟩)),(6,.pointer (some ⟨b4,0,none⟩)),(11,.func (.func 153) #[] #[.pointer (some ⟨Bs,0,none⟩)])] [true,true,true,true,true] rfl (subR rfl)
  rw [Wz]
  refine i_range (n:=3) (Ts l.length) (GT l) S (S.tm rfl) (fun args w=>call153 args w) (fun _=>rfl)
    (fun ll J W hJ h0 hr=>back_in φ1 (view w []) (3 - 1) Bs v_l l hB hs_l ll J W hJ h0 hr)
    (fun k L'=>∃ m x v,(∃ dn is,Ts l.length = dn ++ is ∧ dn.length = k ∧ Im l at_ is m x = some r) ∧ L' = CO b1 b2 b3 b4 at_ m x v)
    ⟨[],[],.slice none 0 0,⟨[],_,rfl,rfl,h⟩,rfl⟩ ?_ ?_
  · clear h
    rintro ll D rec k i L' w7 hst hss hx ⟨m,x,v,⟨dn,is,hd,hk,h⟩,rfl⟩ S0
    have hact:=prms2 a 12 13 (iV (i : Int)) (.agg (An.enc (nth l (i : Int))).toArray) S0.nodefer
    obtain ⟨is',rfl⟩ : ∃ is',is = i :: is':=by
      cases is with
      | nil=>rw [hd,List.append_nil,← hk] at hx;simp at hx
      | cons j is' =>
        have:=hcons hd hk
        rw [hx] at this
        exact ⟨is',by rw [Option.some.inj this]⟩
    unfold GT
    rw [hact]
    have S:=(S0.put (d:=12) (v:=iV (i : Int)) (by decide)).put (d:=13) (v:=.agg (An.enc (nth l (i : Int))).toArray) (by decide)
    generalize ((a.put (some 12) (iV (i : Int))).put (some 13) (.agg (An.enc (nth l (i : Int))).toArray)) = a' at S
    refine Tw (Ny (fun _ _ h=>h) rfl (lv S (Ra (S.tm rfl)) rfl fun a S=>Ld (Tn (Ny (fun _ _ h=>h) rfl (Ic S zeroValue93 (cs:=[sV Cx,iV 0,iV 0,iV 0,sV Cx,sV Cx,sV Cx,iV 0,iV 0,sV Cx,iV 0]) rfl rfl ?_)))));clear S;intro a w8 b5 hz8 hk8 S
    refine Ep S (S.tm rfl) (S.tm rfl) (i:=0) (off:=0) rfl sizeOf93 (vs:=(An.enc (nth l (i : Int)))) rfl rfl rfl rfl ?_;clear S;intro w9 hk9 S
    refine Ld (Tn (i_begin S (i:=1) rfl (hst _) ?_));clear S;intro w10 S
    rw [hss] at S
    replace S:=S.nk (.blk b5 (An.enc (nth l (i : Int))) 93 :: .obj ll (.loop (rec .busy)) :: .obj D (.deferred (some [])) :: CO b1 b2 b3 b4 at_ m x v) [(3,.pointer (some ⟨b1,0,none⟩)),(5,.pointer (some ⟨b3,0,none⟩)),(6,.pointer (some ⟨b4,0,none⟩)),(7,iV (i : Int)),(8,.pointer (some ⟨b5,0,none⟩))] [true,true,true,true,true,true,true,true] rfl (subR rfl)
    rw [Im] at h
    refine wpIn_block (Tw (i_mid (fun b w'=>∃ a,b = Lw [] a ∧ Sx w [] φ1 (.blk b5 (An.enc (nth l (i : Int))) 93 :: .obj ll (.loop (rec .busy)) :: .obj D (.deferred (some [])) :: CO b1 b2 b3 b4 at_ m x v) [(3,.pointer (some ⟨b1,0,none⟩)),(5,.pointer (some ⟨b3,0,none⟩)),(6,.pointer (some ⟨b4,0,none⟩)),(7,iV (i : Int)),(8,.pointer (some ⟨b5,0,none⟩)),(23,bV (Sl l at_ i m))] 40 a w') ?_ ?_))
    · rcases Bool.eq_false_or_eq_true (decide (at_ < ((nth l (i : Int)).At))) with hb1 | hb1
      · refine CN [] [] Tryz.mixed rfl S rfl (by kernel_rfl) ?_;clear S;intro w11 hk11 hsel S
        refine Js [0,1,2,3,4,5,6,7,8,9] hsel (by kernel_rfl) rfl (Fj S rfl (Fp Qr (S.tm rfl)) rfl fun a S=>Fj S rfl (Lm isAgg3 (S.tm rfl) (S.cell (i:=0) rfl rfl)) rfl fun a S=>Fj S rfl (Lm isAgg3 (S.tm rfl) (S.cell (i:=7) rfl rfl)) rfl fun a S=>Fj S rfl (It (S.tm rfl) (S.tm rfl)) rfl fun a S=>Fj S rfl (Rm (S.tm rfl)) rfl ?_);clear S;intro a S
        iterate 4 (refine Rj S rfl rfl rfl rfl (Ki hb1) rfl ?_ rfl;clear S;intro a S)
        refine Fj S rfl (Ms hb1 (S.tm rfl) rfl) rfl fun a S=>Jc ?_
        have hq : Sl l at_ i m = true:=by unfold Sl;rw [hb1];rfl
        refine Tn ⟨a,rfl,?_⟩
        rw [hq]
        exact S.nk (.blk b5 (An.enc (nth l (i : Int))) 93 :: .obj ll (.loop (rec .busy)) :: .obj D (.deferred (some [])) :: CO b1 b2 b3 b4 at_ m x v) [(3,.pointer (some ⟨b1,0,none⟩)),(5,.pointer (some ⟨b3,0,none⟩)),(6,.pointer (some ⟨b4,0,none⟩)),(7,iV (i : Int)),(8,.pointer (some ⟨b5,0,none⟩)),(23,bV true)] [true,true,true,true,true,true,true,true] rfl (subR rfl)
      · refine CN [] [] Tryz.mixed rfl S rfl (by kernel_rfl) ?_;clear S;intro w11 hk11 hsel S
        refine De 0 S hsel rfl rfl rfl (by kernel_rfl) (by kernel_rfl) rfl (fun _ hw=>(Fp Qr (S.tm rfl))) fun a S=>De 1 S hsel rfl rfl rfl (by kernel_rfl) (by kernel_rfl) rfl (fun _ hw=>(Gj isAgg3 (off:=0) (o:=2) (S.tm rfl) ((S.blk_mem (i:=0) (cells:=(An.enc (nth l (i : Int)))) (b:=b5) (T:=93) rfl (Gt (e':=.blk b5 (An.enc (nth l (i : Int))) 93))).kept hw) rfl)) fun a S=>De 2 S hsel rfl rfl rfl (by kernel_rfl) (by kernel_rfl) rfl (fun _ hw=>(Gj isAgg3 (off:=0) (o:=0) (S.tm rfl) ((S.blk_mem (i:=7) (cells:=[iV at_]) (b:=b1) (T:=3) rfl (Gt (e':=.blk b1 [iV at_] 3))).kept hw) rfl)) fun a S=>De 3 S hsel rfl rfl rfl (by kernel_rfl) (by kernel_rfl) rfl (fun _ hw=>(It (S.tm rfl) (S.tm rfl))) fun a S=>De 4 S hsel rfl rfl rfl (by kernel_rfl) (by kernel_rfl) rfl (fun _ hw=>(Rm (S.tm rfl))) fun a S=>Dj 5 S hsel rfl rfl rfl rfl hb1 rfl rfl (by kernel_rfl) (by kernel_rfl) rfl (fun _ hw=>(Gj isAgg164 (off:=0) (o:=0) (S.tm rfl) ((S.blk_mem (i:=5) (cells:=[.map (some b2)]) (b:=b3) (T:=164) rfl (Gt (e':=.blk b3 [.map (some b2)] 164))).kept hw) rfl)) fun a S=>Dj 6 S hsel rfl rfl rfl rfl hb1 rfl rfl (by kernel_rfl) (by kernel_rfl) rfl (fun _ hw=>(Fb isAgg93 sizeOf93 (off:=0) (o:=0) (part:=(An.enc (nth l (i : Int)))) rfl rfl (S.tm rfl) ((S.blk_mem (i:=0) (cells:=(An.enc (nth l (i : Int)))) (b:=b5) (T:=93) rfl (Gt (e':=.blk b5 (An.enc (nth l (i : Int))) 93))).kept hw))) fun a S=>Ff 7 (by kernel_rfl) rfl (Da S rfl rfl rfl hb1 (Dd S (fun _=>Cz (vs:=[.agg (An.enc (nth l (i : Int))).toArray]) ⟨(S.tm rfl),trivial⟩ call114) (Tc _ (nth l (i : Int)) _ rfl) rfl ?_));clear S;intro v3 a w12 hv2 hk9 hn2 S
        subst hv2
        refine Ld (Gl hk9 (Js [8,9] hsel (by kernel_rfl) rfl ?_))
        refine Lx S rfl rfl rfl rfl hb1 (Ok S (Qx (kv:=kvP) (vv:=Value.bool) (m:=m) (key:=(Dw (nth l (i : Int)))) (z:=false) (S.map_at (i:=6) rfl) underlying164 Zx zeroValue4 (S.tm rfl) (S.tm rfl)) rfl fun a S=>Fj S rfl (Mt hb1 (S.tm rfl) (S.tm rfl)) rfl fun a S=>Jc ?_)
        have hq : Sl l at_ i m = Ek m (Dw (nth l (i : Int))) false:=by unfold Sl;rw [hb1];rfl
        refine Tn ⟨a,rfl,?_⟩
        rw [hq]
        exact S.nk (.blk b5 (An.enc (nth l (i : Int))) 93 :: .obj ll (.loop (rec .busy)) :: .obj D (.deferred (some [])) :: CO b1 b2 b3 b4 at_ m x v) [(3,.pointer (some ⟨b1,0,none⟩)),(5,.pointer (some ⟨b3,0,none⟩)),(6,.pointer (some ⟨b4,0,none⟩)),(7,iV (i : Int)),(8,.pointer (some ⟨b5,0,none⟩)),(23,bV (Ek m (Dw (nth l (i : Int))) false))] [true,true,true,true,true,true,true,true] rfl (subR rfl)
    · clear S;rintro _ w11 ⟨a,rfl,S⟩
      refine FU (S.tm rfl) (fun hb2=>?_) (fun hb2=>?_)
      · rw [if_pos hb2] at h
        refine wpIn_exit (Dt (Gh ?_))
        exact ⟨_,⟨m,x,v,⟨dn ++ [i],is',by rw [hd];simp,by simp [hk],h⟩,rfl⟩,S0.back (S.nk (.obj ll (.loop (rec .busy)) :: .obj D (.deferred (some [])) :: CO b1 b2 b3 b4 at_ m x v) [] [false,true,true,true,true,true,true,true] rfl (subR rfl))⟩
      · rw [if_neg (by rw [hb2];simp)] at h
        obtain ⟨hc2,h⟩:=Gu h
        refine wpIn_skip (Tn (i_mid (fun b w'=>∃ a,b = Lw [] a ∧ Sx w [] φ1 (.blk b5 (An.enc (nth l (i : Int))) 93 :: .obj ll (.loop (rec .busy)) :: .obj D (.deferred (some [])) :: CO b1 b2 b3 b4 at_ (if decide ((nth l (i : Int)).Kind = 4) = true then Fz m (Dp.mk ((nth l (i : Int)).Of) ((nth l (i : Int)).Other)) true else m) x v) [(6,.pointer (some ⟨b4,0,none⟩)),(7,iV (i : Int)),(8,.pointer (some ⟨b5,0,none⟩))] 40 a w') ?_ ?_))
        · refine Tw (Ny (fun _ _ h=>h) rfl (lv S (Fp Nh (S.tm rfl)) rfl ?_));clear S;intro a S
          refine lv S (Lm isAgg3 (S.tm rfl) (S.cell (i:=0) rfl rfl)) rfl fun a S=>lv S (Hj (S.tm rfl) rfl) rfl fun a S=>Ld (Tn (FU (S.tm rfl) (fun hb3=>?_) (fun hb3=>?_)))
          · rw [if_pos hb3]
            refine Ny (fun _ _ h=>h) rfl (lv S (Lm isAgg164 (S.tm rfl) (S.cell (i:=5) rfl rfl)) rfl fun a S=>lv S (Fp Uk (S.tm rfl)) rfl fun a S=>lv S (Lm isAgg9 (S.tm rfl) (S.cell (i:=0) rfl rfl)) rfl fun a S=>lv S (Fp Rv (S.tm rfl)) rfl fun a S=>lv S (Lm isAgg3 (S.tm rfl) (S.cell (i:=0) rfl rfl)) rfl fun a S=>lv S (Mw LZ (pv:=[(0,sV ((nth l (i : Int)).Of)),(1,iV ((nth l (i : Int)).Other))]) ⟨rfl,(S.tm rfl),rfl,(S.tm rfl),trivial⟩ (cs:=[sV ((nth l (i : Int)).Of),iV ((nth l (i : Int)).Other)]) (by kernel_rfl)) rfl fun a S=>Qy (kv:=kvP) (vv:=Value.bool) (m:=m) (key:=(Dp.mk ((nth l (i : Int)).Of) ((nth l (i : Int)).Other))) (val:=true) S (i:=6) rfl underlying164 Zx (S.tm rfl) (S.tm rfl) rfl ?_);clear S;intro w13 hk10 S
            refine Ld (Tn ⟨a,rfl,?_⟩)
            exact S.nk (.blk b5 (An.enc (nth l (i : Int))) 93 :: .obj ll (.loop (rec .busy)) :: .obj D (.deferred (some [])) :: CO b1 b2 b3 b4 at_ (Fz m (Dp.mk ((nth l (i : Int)).Of) ((nth l (i : Int)).Other)) true) x v) [(6,.pointer (some ⟨b4,0,none⟩)),(7,iV (i : Int)),(8,.pointer (some ⟨b5,0,none⟩))] [true,true,true,true,true,true,true,true] rfl (subR rfl)
          · rw [if_neg (by rw [hb3];simp)]
            refine wpIn_skip (Tn ⟨a,rfl,?_⟩)
            exact S.nk (.blk b5 (An.enc (nth l (i : Int))) 93 :: .obj ll (.loop (rec .busy)) :: .obj D (.deferred (some [])) :: CO b1 b2 b3 b4 at_ m x v) [(6,.pointer (some ⟨b4,0,none⟩)),(7,iV (i : Int)),(8,.pointer (some ⟨b5,0,none⟩))] [true,true,true,true,true,true,true,true] rfl (subR rfl)
        · clear S;rintro _ w12 ⟨a,rfl,S⟩
          generalize (if decide ((nth l (i : Int)).Kind = 4) = true then Fz m (Dp.mk ((nth l (i : Int)).Of) ((nth l (i : Int)).Other)) true else m) = m2 at h S
          refine Ny (fun _ _ h=>h) rfl (lv S (Lm isAgg22 (S.tm rfl) (S.cell (i:=4) rfl rfl)) rfl fun a S=>lv S (Rm (S.tm rfl)) rfl fun a S=>Dv S underlying22 sizeOf3 zeroValue3 rfl rfl (pv:=[(0,iV (i : Int))]) ⟨rfl,(S.tm rfl),trivial⟩ (cs:=[iV (i : Int)]) (by kernel_rfl) rfl ?_);clear S;intro a w14 b6 hz5 hk11 S
          refine Lq Jr Fd S (S.tm rfl) (i:=4) rfl (S.tm rfl) (j:=0) rfl (ys:=[(i : Int)]) rfl rfl rfl rfl (by have:=Nm hc2;omega) rfl ?_;clear S;intro v4 a w15 hk12 S
          refine Ep S (S.tm rfl) (S.tm rfl) (i:=5) (off:=0) rfl sizeOf22 (vs:=[v4]) (Iu.cells (Iz (S.own_at (i:=4) rfl))) rfl rfl (Rk (Iu.one (Iz (S.own_at (i:=4) rfl))) rfl) ?_;clear S;intro w16 hk13 S
          refine Ld (Gy ?_)
          exact ⟨_,⟨m2,x ++ [(i : Int)],v4,⟨dn ++ [i],is',by rw [hd];simp,by simp [hk],h⟩,rfl⟩,S0.back (S.nk (.obj ll (.loop (rec .busy)) :: .obj D (.deferred (some [])) :: CO b1 b2 b3 b4 at_ m2 (x ++ [(i : Int)]) v4) [] [false,false,true,true,true,true,true,true,true] rfl (subR rfl))⟩
  · rintro D ll o L' w7 ⟨m,x,v,⟨dn,is,hd,hk,h⟩,rfl⟩ S
    obtain rfl : is = []:=by
      have h1:=congrArg List.length hd
      rw [List.length_append] at h1
      exact List.length_eq_zero_iff.1 (by omega)
    rw [Im] at h
    refine Gy (Tn (Tw (Ny (hQ f115) rfl (lv S (Lm isAgg22 (S.tm rfl) (S.cell (i:=3) rfl rfl)) rfl fun a S=>Km 2 S rfl (fun _=>.own v 3 1 r.length (r.flatMap eInt)) (fun _=>Cz (vs:=[v]) ⟨(S.tm rfl),trivial⟩ call137) (Wl _ v x (S.holds _ (List.mem_of_getElem? (i:=2) rfl)) _ h) rfl (fun _ _ _ h=>⟨h.1,fun _ hc=>hc⟩) ?_))));clear S;intro v5 a w17 hv3 hk14 hn3 S
    replace hv3:=hv3.2
    subst hv3
    refine Ld (Tn (Tw (Ny (hQ f115) rfl (lv S (Lm isAgg22 (S.tm rfl) (S.cell (i:=3) rfl rfl)) rfl fun a S=>lv S (Ra (S.tm rfl)) rfl fun a S=>Ld (Tn (wpIn_ret ?_))))))
    exact i_ret S (i:=1) rfl results115 rfl (fun w' S=>Rg S (i:=2) rfl rfl)
theorem BM (w : World) (ψ : View) (hψ : View.le ψ (view w [])) (Aa : Ln) (Bu : R32) (Bz : Ru ψ Aa Bu) (Ac : Value) (Ae : List An) (Ah : Slc ψ 11 Ac (Ae.map An.enc)) (Bd : Int) (r : (Option Ie)) (h : Rq Aa Ae Bd = some r) :
    Calls prog 87 [.agg (R32.enc Bu).toArray,Ac,iV Bd].toArray w (Ret w [] fun τ v _=>Yf (join ψ τ) 139 Zt.enc Vy v r):=by
 obtain ⟨u1,u2,rfl,hs1,⟨u3,rfl,hs2⟩⟩:=Bz
 refine Fe func87 rfl ntmps87 rfl fun a S=>?_
 unfold Rq at h
 replace S:=S.k3 0 1 2 rfl
 refine Fr (Ks S (S.tm rfl) (cs:=[u1.val,u3.val,iV Aa.Table.Relay,iV Aa.Table.Most,iV Aa.Final.Size,iV Aa.Final.Many,iV Aa.Final.Reserves]) rfl rfl ?_);clear S;intro a w1 b1 hz1 hk1 S
 refine Vk S rfl rfl fun a S=>Dz (lv S (Fb isAgg32 sizeOf32 (off:=0) (o:=0) (part:=[u1.val,u3.val,iV Aa.Table.Relay,iV Aa.Table.Most,iV Aa.Final.Size,iV Aa.Final.Many,iV Aa.Final.Reserves]) rfl rfl (S.tm rfl) (S.cellsAt (i:=0) rfl)) rfl ?_);clear S;intro a S
 refine lv S (Mw bt_139 (pv:=[(0,.agg #[u1.val,u3.val,iV Aa.Table.Relay,iV Aa.Table.Most,iV Aa.Final.Size,iV Aa.Final.Many,iV Aa.Final.Reserves])]) ⟨rfl,(S.tm rfl),trivial⟩ (cs:=[u1.val,u3.val,iV Aa.Table.Relay,iV Aa.Table.Most,iV Aa.Final.Size,iV Aa.Final.Many,iV Aa.Final.Reserves,.slice none 0 0]) (by obtain ⟨_,_,hv⟩:=(Fm hs1);rw [hv];clear hv;obtain ⟨_,_,hv⟩:=(Fm hs2);rw [hv];clear hv;kernel_rfl)) rfl ?_;clear S;intro a S
 refine Ks S (S.tm rfl) (cs:=[u1.val,u3.val,iV Aa.Table.Relay,iV Aa.Table.Most,iV Aa.Final.Size,iV Aa.Final.Many,iV Aa.Final.Reserves,.slice none 0 0]) rfl rfl ?_;clear S;intro a w2 b2 hz2 hk2 S
 replace S:=S.nil 93 11
 refine Va S rfl rfl fun a S=>Dl (Fs (Fr (Vm S rfl rfl fun a S=>Vm S rfl rfl ?_)));clear S;intro a S
 obtain ⟨r1,hr1,h⟩:=Ej h
 have hz3:=S.keep.size
 refine Dd S (fun _=>Cz (vs:=[Ac,iV Bd]) ⟨(S.tm rfl),(S.tm rfl),trivial⟩ call115) (AL _ Ac Ae (Ah.mono (View.le_trans hψ (S.le_arg Ey))) Bd _ hr1) rfl ?_;clear S;intro v1 a w3 hv1 hk3 hn1 S
 obtain ⟨φ1,hl1,hm1,S⟩:=S.see' hn1 hz3
 have hs3:=hv1.mono hm1
 refine lv S (Fi Jr (S.tm rfl) (Fm (Fv Fd hs3))) rfl fun a S=>lv S (Rm rfl) rfl fun a S=>Dl ?_
 replace S:=(S.nl [.own (.slice none 0 0) 93 11 ([] : List An).length (([] : List An).flatMap An.enc),.blk b2 [u1.val,u3.val,iV Aa.Table.Relay,iV Aa.Table.Most,iV Aa.Final.Size,iV Aa.Final.Many,iV Aa.Final.Reserves,(.slice none 0 0)] 139] [true,true,false] rfl).k5 1 7 15 16 17 rfl
 obtain ⟨j1,hj1,h⟩:=Eo h
 refine Dy (fun a w'=>∃ x1 : List An,∃ v2 : Value,j1 x1 = some r ∧ Sx w [] φ1 [.own v2 93 11 x1.length (x1.flatMap An.enc),.blk b2 [u1.val,u3.val,iV Aa.Table.Relay,iV Aa.Table.Most,iV Aa.Final.Size,iV Aa.Final.Many,iV Aa.Final.Reserves,v2] 139] [(7,.pointer (some ⟨b2,0,none⟩))] 36 a w') ?_ ?_
 ·refine wp_block (Gs (fun (ys1 : List Int) a w'=>∃ i1 : Nat,∃ x1 : List An,∃ v2 : Value,(∃ dn,r1 = dn ++ ys1 ∧ dn.length = i1) ∧ Jm Ae j1 ys1 i1 x1 = some r ∧ Sx w [] φ1 [.own v2 93 11 x1.length (x1.flatMap An.enc),.blk b2 [u1.val,u3.val,iV Aa.Table.Relay,iV Aa.Table.Most,iV Aa.Final.Size,iV Aa.Final.Many,iV Aa.Final.Reserves,v2] 139] [(1,Ac),(7,.pointer (some ⟨b2,0,none⟩)),(15,v1),(16,iV (r1.length : Int)),(17,iV (i1 : Int))] 36 a w') List.length r1 ⟨0,([] : List An),(.slice none 0 0),⟨[],rfl,rfl⟩,h,S.nf [true,true] rfl (subR rfl)⟩ ?_)
  clear S h;rintro ys1 a w4 ⟨i1,x1,v2,⟨dn,hd1,hi1⟩,h,S⟩
  cases ys1 with
  | nil =>
   rw [Jm.eq_1] at h
   refine Fr (Vb S Ev rfl rfl rfl fun a S=>Ld ?_)
   replace S:=S.k6 1 7 15 16 17 18 rfl
   exact Tn (Fs (wp_cond_false ((S.tm rfl).trans (congrArg Value.bool (Ke hd1 hi1))) (wp_exit (Dt (Dt (Gh (Tn (⟨x1,v2,h,S.nf [true,true] rfl ⟨rfl,trivial⟩⟩))))))))
  | cons y1 ys1 =>
   rw [Jm.eq_2] at h
   refine Fr (Vb S Ev rfl rfl rfl fun a S=>Ld ?_)
   replace S:=S.k6 1 7 15 16 17 18 rfl
   refine Tn (Fs (wp_cond_true ((S.tm rfl).trans (congrArg Value.bool (Ja hd1 hi1))) (wp_skip (Tn (Fs (wp_block (Fs (Fg ?_))))))))
   obtain ⟨b3,o1,hm2,hr2⟩:=Fu (a:=a) (x:=.tmp 15) (y:=.tmp 17) (ty:=0) Jr (Fv Fd hs3) (Jx hd1 hi1) rfl (S.tm rfl) (S.tm rfl)
   refine lv S (hr2 _) rfl ?_;clear S;intro a S
   clear hr2
   refine lv S (Gj isAgg3 (off:=o1) (o:=0) (S.tm rfl) (hm2.at S.emb) rfl) rfl fun a S=>Va S rfl rfl fun a S=>Dl ?_
   obtain ⟨hc1,h⟩:=Gu h
   obtain ⟨hc2,h⟩:=Gu h
   refine Fo [13] (v2.ownBlock.toList) Tryz.mixed S rfl (by kernel_rfl) ?_;clear S;intro w9 hk7 hsel S
   refine Ee 0 S hsel rfl rfl (by kernel_rfl) (by kernel_rfl) rfl (fun _=>(Rm (S.tm rfl))) fun a S=>Ee 1 S hsel rfl rfl (by kernel_rfl) (by kernel_rfl) rfl (fun _=>(Rm (S.tm rfl))) fun a S=>Ee 2 S hsel rfl rfl (by kernel_rfl) (by kernel_rfl) rfl (fun _=>(Kj (S.tm rfl))) fun a S=>Ee 3 S hsel rfl rfl (by kernel_rfl) (by kernel_rfl) rfl (fun _=>(Fp CM (S.tm rfl))) fun a S=>De 4 S hsel rfl (by kernel_rfl) (by kernel_rfl) (by kernel_rfl) (by kernel_rfl) rfl (fun _ hw=>(Gj isAgg34 (off:=0) (o:=7) (S.tm rfl) ((S.blk_mem (i:=1) (cells:=[u1.val,u3.val,iV Aa.Table.Relay,iV Aa.Table.Most,iV Aa.Final.Size,iV Aa.Final.Many,iV Aa.Final.Reserves,v2]) (b:=b2) (T:=139) rfl (Jl (i:=0) (j:=1) (e:=.own v2 93 11 x1.length (x1.flatMap An.enc)) (e':=.blk b2 [u1.val,u3.val,iV Aa.Table.Relay,iV Aa.Table.Most,iV Aa.Final.Size,iV Aa.Final.Many,iV Aa.Final.Reserves,v2] 139) S rfl rfl rfl)).kept hw) rfl)) fun a S=>Ee 5 S hsel rfl rfl (by kernel_rfl) (by kernel_rfl) rfl (fun _=>(Rm (S.tm rfl))) fun a S=>Ee 6 S hsel rfl rfl (by kernel_rfl) (by kernel_rfl) rfl (fun _=>(Rm (S.tm rfl))) ?_;clear S;intro a S
   obtain ⟨b6,o3,hm4,hr4⟩:=Fu (a:=a) (x:=.tmp 26) (y:=.tmp 27) (ty:=0) Ll (Ah.mono (View.le_trans hψ (S.le_arg (Hd (i:=0) (e:=.own v2 93 11 x1.length (x1.flatMap An.enc)) rfl)))) (Dc hc1).1 (Dc hc1).2 (S.tm rfl) (S.tm rfl)
   refine Ee 7 S hsel rfl rfl (by kernel_rfl) (by kernel_rfl) rfl (fun _=>hr4 _) ?_;clear S;intro a S
   clear hr4
   refine De 8 S hsel rfl (by kernel_rfl) (by kernel_rfl) (by kernel_rfl) (by kernel_rfl) rfl (fun _ hw=>(Fb isAgg93 sizeOf93 (off:=o3) (o:=0) (part:=(An.enc (nth Ae y1))) rfl rfl (S.tm rfl) (hm4.kept hw))) fun a S=>Ff 9 (by kernel_rfl) rfl (Dv S underlying34 sizeOf93 zeroValue93 rfl rfl (pv:=[(0,.agg (An.enc (nth Ae y1)).toArray)]) ⟨rfl,(S.tm rfl),trivial⟩ (cs:=[sV ((nth Ae y1).Site),iV ((nth Ae y1).No),iV ((nth Ae y1).At),iV ((nth Ae y1).Kind),sV ((nth Ae y1).Who),sV ((nth Ae y1).Club),sV ((nth Ae y1).Race),iV ((nth Ae y1).Time),iV ((nth Ae y1).Fault),sV ((nth Ae y1).Of),iV ((nth Ae y1).Other)]) (by kernel_rfl) rfl ?_);clear S;intro a w10 b7 hz5 hk8 S
   refine Ld (Gl (Keep.none hk8) (Ff 10 (by kernel_rfl) rfl ?_))
   refine CE Ll An.enc_ok S (S.tm rfl) (i:=1) rfl (S.tm rfl) (j:=0) rfl (ys:=[(nth Ae y1)]) rfl rfl rfl rfl (by have:=Nm hc2;omega) rfl ?_;clear S;intro v4 a w11 hk9 hf1 S
   refine Ld ?_
   refine d_nextN (v4.ownBlock.toList) hk9 (by intro y hy;simp at hy ⊢;exact (by rcases hf1 y hy with hy | hy <;> simp [hy])) ?_
   refine Ee 11 S hsel rfl rfl (by kernel_rfl) (by kernel_rfl) rfl (fun _=>(Kj (S.tm rfl))) fun a S=>Ee 12 S hsel rfl rfl (by kernel_rfl) (by kernel_rfl) rfl (fun _=>(Fp CM (S.tm rfl))) fun a S=>Rf 13 (v4.ownBlock.toList ++ [b2]) rfl (by kernel_rfl) rfl (Ep S (S.tm rfl) (S.tm rfl) (i:=2) (off:=7) rfl sizeOf34 (vs:=[v4]) (Iu.cells (Iz (S.own_at (i:=1) rfl))) rfl rfl (Rk (Iu.one (Iz (S.own_at (i:=1) rfl))) rfl) ?_);clear S;intro w12 hk10 S
   refine Ld (Rh (Se (by kernel_rfl) ?_))
   clear hsel
   replace S:=(S.nl [.own v4 93 11 (x1 ++ [(nth Ae y1)]).length ((x1 ++ [(nth Ae y1)]).flatMap An.enc),.blk b2 [u1.val,u3.val,iV Aa.Table.Relay,iV Aa.Table.Most,iV Aa.Final.Size,iV Aa.Final.Many,iV Aa.Final.Reserves,v4] 139] [false,true,true] rfl).k5 1 7 15 16 17 rfl
   exact Gy (Tn (Fg (Vq S Fa rfl rfl rfl fun a S=>Vm S rfl rfl fun a S=>Dl (⟨ys1,⟨i1 + 1,(x1 ++ [(nth Ae y1)]),v4,⟨_,(hd1).trans (List.append_cons _ _ _),by simp [hi1]⟩,h,S.nf [true,true] rfl ⟨rfl,rfl,rfl,rfl,(congrArg (fun z=>some (Value.int .i64 z)) (Jb hd1 hi1 (Jy (Fv Fd hs3)))),trivial⟩⟩,Nat.lt_succ_self _⟩))))
 clear S h;rintro a w5 ⟨x1,v2,h,S⟩;rw [hj1] at h;clear hj1 j1
 refine Tn (Fr (Vm S rfl rfl fun a S=>Va S rfl rfl fun a S=>Dl (wp_ret ?_)))
 obtain ⟨φ2,hl2,hs4,S⟩:=S.freezeT (xs:=x1) (enc:=An.enc) (i:=0) rfl (fun _ h=>by cases h)
 replace S:=S.nk [.blk b2 [u1.val,u3.val,iV Aa.Table.Relay,iV Aa.Table.Most,iV Aa.Final.Size,iV Aa.Final.Many,iV Aa.Final.Reserves,v2] 139] [(6,.pointer (some ⟨b2,0,none⟩)),(7,.pointer (some ⟨b2,0,none⟩)),(35,.pointer (some ⟨b2,0,none⟩))] [] rfl (subR rfl)
 obtain ⟨φ3,hl3,hb1,S⟩:=S.freezeB (i:=0) rfl (by simp)
 replace S:=S.nk [] [(6,.pointer (some ⟨b2,0,none⟩)),(7,.pointer (some ⟨b2,0,none⟩)),(35,.pointer (some ⟨b2,0,none⟩))] [] rfl (subR rfl)
 obtain rfl:=Option.some.inj h
 exact Ds S results87 rfl (Yf.mk (Zt.mk (R32.mk u1 (R28.mk u3 Aa.Table.Relay Aa.Table.Most) Aa.Final) ⟨v2,Iu.one (Fm (Fv An.enc_ok hs4))⟩) (Ow (Xv hψ S.le_newer) _ _ ⟨(R32.mk u1 (R28.mk u3 Aa.Table.Relay Aa.Table.Most) Aa.Final),⟨v2,Iu.one (Fm (Fv An.enc_ok hs4))⟩,rfl,⟨u1,(R28.mk u3 Aa.Table.Relay Aa.Table.Most),rfl,(hs1.mono (le_join_left _ _)),⟨u3,rfl,(hs2.mono (le_join_left _ _))⟩⟩,((Fv An.enc_ok hs4).mono (View.le_trans hl3 (S.all_right hψ)))⟩) ((Xv hψ S.le_newer) _ _ ((S.all_right hψ) _ _ hb1)))
set_option maxRecDepth 20000 in
theorem FV (w : World) (ψ : View) (hψ : View.le ψ (view w [])) (Aa : Ln) (Bu : R32) (Bz : Ru ψ Aa Bu) (Ac : Value) (Ae : List An) (Ah : Slc ψ 11 Ac (Ae.map An.enc)) (Co : Value) (Bd : List Int) (Ch : Slc ψ 1 Co (Bd.map eInt)) (r : (Option Ie) × Int) (h : Ux Aa Ae Bd = some r) :
    Calls prog 50 [.agg (R32.enc Bu).toArray,Ac,Co].toArray w (Ret w [] fun τ v _=>∃ u1 : Value,v = .tuple #[u1,iV r.2] ∧ Yf (join ψ τ) 139 Zt.enc Vy u1 r.1):=by
 obtain ⟨u1,u2,rfl,hs1,⟨u3,rfl,hs2⟩⟩:=Bz
 refine Fe func50 rfl ntmps50 rfl fun a S=>?_
 unfold Ux at h
 replace S:=S.k3 0 1 2 rfl
 refine Fr (Ks S (S.tm rfl) (cs:=[u1.val,u3.val,iV Aa.Table.Relay,iV Aa.Table.Most,iV Aa.Final.Size,iV Aa.Final.Many,iV Aa.Final.Reserves]) rfl rfl ?_);clear S;intro a w1 b1 hz1 hk1 S
 refine Vk S rfl rfl fun a S=>Vk S rfl rfl fun a S=>Dl (Fs (Fr (lv S (Fb isAgg32 sizeOf32 (off:=0) (o:=0) (part:=[u1.val,u3.val,iV Aa.Table.Relay,iV Aa.Table.Most,iV Aa.Final.Size,iV Aa.Final.Many,iV Aa.Final.Reserves]) rfl rfl (S.tm rfl) (S.cellsAt (i:=0) rfl)) rfl ?_)));clear S;intro a S
 obtain ⟨r1,hr1,h⟩:=Ej h
 refine Dd S (fun _=>Cz (vs:=[.agg (R32.enc (R32.mk u1 (R28.mk u3 Aa.Table.Relay Aa.Table.Most) Aa.Final)).toArray]) ⟨(S.tm rfl),trivial⟩ call19) (Ul _ Aa (R32.mk u1 (R28.mk u3 Aa.Table.Relay Aa.Table.Most) Aa.Final) ⟨u1,(R28.mk u3 Aa.Table.Relay Aa.Table.Most),rfl,(hs1.mono (View.le_trans hψ (S.le_arg Ey))),⟨u3,rfl,(hs2.mono (View.le_trans hψ (S.le_arg Ey)))⟩⟩ _ hr1) rfl ?_;clear S;intro v1 a w2 hv1 hk2 hn1 S
 subst hv1
 refine Va S rfl rfl fun a S=>Dz (Vm S rfl rfl fun a S=>Vq S Kg rfl rfl rfl fun a S=>Dl (Fc h (S.tm rfl) (fun hb1 h=>?_) (fun hb1 h=>?_)))
 ·refine Fr (Vm S rfl rfl fun a S=>Vk S rfl rfl fun a S=>Va S rfl rfl fun a S=>Dl (wp_ret (Db ?_)))
  obtain rfl:=Option.some.inj h
  exact Ku S results50 rfl rfl ⟨_,rfl,rfl⟩
 ·refine wp_skip (Tn (Fs (Fr (Vm S rfl rfl ?_))));clear S;intro a S
  obtain ⟨r2,hr2,h⟩:=Ej h
  refine Dd S (fun _=>Cz (vs:=[Ac]) ⟨(S.tm rfl),trivial⟩ call86) (Zd _ Ac Ae (Ah.mono (View.le_trans hψ (S.le_arg Ey))) _ hr2) rfl ?_;clear S;intro v2 a w3 hv2 hk3 hn2 S
  subst hv2
  refine Va S rfl rfl fun a S=>Dz (Vm S rfl rfl fun a S=>Vq S Kg rfl rfl rfl fun a S=>Ld ?_)
  replace S:=(S.nl [.blk b1 [u1.val,u3.val,iV Aa.Table.Relay,iV Aa.Table.Most,iV Aa.Final.Size,iV Aa.Final.Many,iV Aa.Final.Reserves] 32] [true] rfl).k5 1 2 3 9 20 rfl
  refine Tn (Fc h (S.tm rfl) (fun hb2 h=>?_) (fun hb2 h=>?_))
  ·refine Fr (Vm S rfl rfl fun a S=>Vk S rfl rfl fun a S=>Va S rfl rfl fun a S=>Dl (wp_ret (Db ?_)))
   obtain rfl:=Option.some.inj h
   exact Ku S results50 rfl rfl ⟨_,rfl,rfl⟩
  ·refine wp_skip (Tn (Fs (Fr (Vm S rfl rfl fun a S=>lv S (Fi Jr (S.tm rfl) (Fm Ch)) rfl fun a S=>lv S (Rm rfl) rfl fun a S=>Dl ?_))))
   replace S:=S.k6 1 2 3 22 23 24 rfl
   obtain ⟨j1,hj1,h⟩:=Eo h
   refine Dy (fun a w'=>j1 = some r ∧ Sx w [] nov [.blk b1 [u1.val,u3.val,iV Aa.Table.Relay,iV Aa.Table.Most,iV Aa.Final.Size,iV Aa.Final.Many,iV Aa.Final.Reserves] 32] [(1,Ac),(2,Co),(3,.pointer (some ⟨b1,0,none⟩))] 41 a w') ?_ ?_
   ·refine wp_block (Gs (fun (ys1 : List Int) a w'=>∃ i1 : Nat,(∃ dn,Bd = dn ++ ys1 ∧ dn.length = i1) ∧ Lu j1 ys1 i1 = some r ∧ Sx w [] nov [.blk b1 [u1.val,u3.val,iV Aa.Table.Relay,iV Aa.Table.Most,iV Aa.Final.Size,iV Aa.Final.Many,iV Aa.Final.Reserves] 32] [(1,Ac),(2,Co),(3,.pointer (some ⟨b1,0,none⟩)),(22,Co),(23,iV (Bd.length : Int)),(24,iV (i1 : Int))] 41 a w') List.length Bd ⟨0,⟨[],rfl,rfl⟩,h,S.nf [true] rfl (subR rfl)⟩ ?_)
    clear S h;rintro ys1 a w4 ⟨i1,⟨dn,hd1,hi1⟩,h,S⟩
    cases ys1 with
    | nil =>
     rw [Lu.eq_1] at h
     refine Fr (Vb S Ev rfl rfl rfl fun a S=>Ld ?_)
     replace S:=S.k7 1 2 3 22 23 24 25 rfl
     exact Tn (Fs (wp_cond_false ((S.tm rfl).trans (congrArg Value.bool (Ke hd1 hi1))) (wp_exit (Dt (Dt (Gh (Tn (⟨h,S.nf [true] rfl (subR rfl)⟩))))))))
    | cons y1 ys1 =>
     rw [Lu.eq_2] at h
     refine Fr (Vb S Ev rfl rfl rfl fun a S=>Ld ?_)
     replace S:=S.k7 1 2 3 22 23 24 25 rfl
     refine Tn (Fs (wp_cond_true ((S.tm rfl).trans (congrArg Value.bool (Ja hd1 hi1))) (wp_skip (Tn (Fs (wp_block (Fs (Fg ?_))))))))
     obtain ⟨b2,o1,hm1,hr3⟩:=Fu (a:=a) (x:=.tmp 22) (y:=.tmp 24) (ty:=0) Jr Ch (Jx hd1 hi1) rfl (S.tm rfl) (S.tm rfl)
     refine lv S (hr3 _) rfl ?_;clear S;intro a S
     clear hr3
     refine lv S (Gj isAgg3 (off:=o1) (o:=0) (S.tm rfl) (hm1.at (emb_le hψ S.emb0)) rfl) rfl fun a S=>Va S rfl rfl fun a S=>Dz (Vm S rfl rfl fun a S=>Dd S (fun _=>Cz (vs:=[iV y1]) ⟨(S.tm rfl),trivial⟩ call56) (Rz _ y1 _ rfl) rfl ?_);clear S;intro v3 a w6 hv3 hk4 hn3 S
     subst hv3
     refine Vu S Gk rfl rfl fun a S=>Dl (Fc h (S.tm rfl) (fun hb3 h=>?_) (fun hb3 h=>?_))
     ·refine Fr (Vk S rfl rfl fun a S=>Vk S rfl rfl fun a S=>Ld ?_)
      replace S:=S.n0.k2 6 7 rfl
      refine Tn (wp_ret (Gc (Db (Db (Gc (Db (Db ?_)))))))
      obtain rfl:=Option.some.inj h
      exact Ku S results50 rfl rfl ⟨_,rfl,rfl⟩
     ·exact wp_skip (Gy (Tn (Fg (Vq S Fa rfl rfl rfl fun a S=>Vm S rfl rfl fun a S=>Dl (⟨ys1,⟨i1 + 1,⟨_,(hd1).trans (List.append_cons _ _ _),by simp [hi1]⟩,h,S.nf [true] rfl ⟨rfl,rfl,rfl,rfl,rfl,(congrArg (fun z=>some (Value.int .i64 z)) (Jb hd1 hi1 (Jy Ch))),trivial⟩⟩,Nat.lt_succ_self _⟩)))))
   clear S h;rintro a w5 ⟨h,S⟩;rw [hj1] at h;clear hj1 j1
   refine Tn (Fs ?_)
   obtain ⟨hc1,h⟩:=Gu h
   obtain ⟨r3,hr5,h⟩:=Ej h
   refine Fo [] ([]) Tryz.mixed S rfl (by kernel_rfl) ?_;clear S;intro w8 hk6 hsel S
   refine De 0 S hsel rfl rfl rfl (by kernel_rfl) (by kernel_rfl) rfl (fun _ hw=>(Fb isAgg32 sizeOf32 (off:=0) (o:=0) (part:=[u1.val,u3.val,iV Aa.Table.Relay,iV Aa.Table.Most,iV Aa.Final.Size,iV Aa.Final.Many,iV Aa.Final.Reserves]) rfl rfl (S.tm rfl) ((S.blk_mem (i:=0) (cells:=[u1.val,u3.val,iV Aa.Table.Relay,iV Aa.Table.Most,iV Aa.Final.Size,iV Aa.Final.Many,iV Aa.Final.Reserves]) (b:=b1) (T:=32) rfl (Gt (e':=.blk b1 [u1.val,u3.val,iV Aa.Table.Relay,iV Aa.Table.Most,iV Aa.Final.Size,iV Aa.Final.Many,iV Aa.Final.Reserves] 32))).kept hw))) fun a S=>De 1 S hsel rfl rfl rfl (by kernel_rfl) (by kernel_rfl) rfl (fun _ hw=>(Rm (S.tm rfl))) fun a S=>De 2 S hsel rfl rfl rfl (by kernel_rfl) (by kernel_rfl) rfl (fun _ hw=>(Rm (S.tm rfl))) fun a S=>De 3 S hsel rfl rfl rfl (by kernel_rfl) (by kernel_rfl) rfl (fun _ hw=>(Rm (S.tm rfl))) fun a S=>De 4 S hsel rfl rfl rfl (by kernel_rfl) (by kernel_rfl) rfl (fun _ hw=>(Fi Jr (S.tm rfl) (Fm Ch))) fun a S=>De 5 S hsel rfl rfl rfl (by kernel_rfl) (by kernel_rfl) rfl (fun _ hw=>(Gp (S.tm rfl) rfl)) ?_;clear S;intro a S
   obtain ⟨b4,o3,hm4,hr6⟩:=Fu (a:=a) (x:=.tmp 34) (y:=.tmp 37) (ty:=0) Jr (Ch.mono (View.le_trans hψ (S.le_arg Ey))) (Dc hc1).1 (Dc hc1).2 (S.tm rfl) (S.tm rfl)
   refine De 6 S hsel rfl rfl rfl (by kernel_rfl) (by kernel_rfl) rfl (fun _ hw=>hr6 _) ?_;clear S;intro a S
   clear hr6
   refine De 7 S hsel rfl rfl rfl (by kernel_rfl) (by kernel_rfl) rfl (fun _ hw=>(Gj isAgg3 (off:=o3) (o:=0) (S.tm rfl) (hm4.kept hw) rfl)) fun a S=>Ff 8 (by kernel_rfl) rfl ?_
   have hz3:=S.keep.size
   refine Dd S (fun _=>Cz (vs:=[.agg (R32.enc (R32.mk u1 (R28.mk u3 Aa.Table.Relay Aa.Table.Most) Aa.Final)).toArray,Ac,iV (nth Bd (W ((Bd.length : Int) - 1)))]) ⟨(S.tm rfl),(S.tm rfl),(S.tm rfl),trivial⟩ call87) (BM _ (join ψ nov) (Rl (View.le_trans hψ (S.le_arg Ey)) (S.le_new Ey)) Aa (R32.mk u1 (R28.mk u3 Aa.Table.Relay Aa.Table.Most) Aa.Final) ⟨u1,(R28.mk u3 Aa.Table.Relay Aa.Table.Most),rfl,(hs1.mono (le_join_left _ _)),⟨u3,rfl,(hs2.mono (le_join_left _ _))⟩⟩ Ac Ae (Ah.mono (le_join_left _ _)) (nth Bd (W ((Bd.length : Int) - 1))) _ hr5) rfl ?_;clear S;intro v5 a w9 hv5 hk7 hn5 S
   obtain ⟨φ2,hl2,hm5,S⟩:=S.see' hn5 hz3
   have hq2:=Yf.mono (Ow (Uw hl2 hm5)) (Uw hl2 hm5) hv5
   refine Ld (Gl hk7 (Js [9,10] hsel (by kernel_rfl) rfl ?_))
   clear hsel
   refine Fj S rfl (Ra (S.tm rfl)) rfl fun a S=>Fj S rfl (Ra rfl) rfl fun a S=>Jc ?_
   replace S:=S.n0.k2 6 7 rfl
   refine Tn (wp_ret ?_)
   obtain rfl:=Option.some.inj h
   exact Ku S results50 rfl rfl ⟨_,rfl,(Yf.mono (Ow (Xv hψ S.le_newer)) (Xv hψ S.le_newer) hq2)⟩
theorem AM (w : World) (Ao : Dg) (Cb : Nat) (Bm : ByteArray) (Cc : (view w []) Cb = some (.cells [sV Bm].toArray 9 (0,0))) (r : Bool) (h : So Ao Bm = r) :
    Calls prog 88 [.agg (Dg.enc Ao).toArray,.pointer (some ⟨Cb,0,none⟩)].toArray w (Ret w [] fun _ v _=>v = bV r):=by
 refine Fe func88 rfl ntmps88 rfl fun a S=>?_
 unfold So at h
 replace S:=S.k2 0 1 rfl
 refine Fr (Ks S (S.tm rfl) (cs:=(Dg.enc Ao)) rfl rfl ?_);clear S;intro a w1 b1 hz1 hk1 S
 refine Vk S rfl rfl fun a S=>Dz (Vf Xw S rfl rfl fun a S=>Vl isAgg9 0 S rfl rfl rfl rfl fun a S=>lv S (Gj isAgg9 (off:=0) (o:=0) (S.tm rfl) ((Ue Cc).at S.emb0) rfl) rfl fun a S=>Vb S Xn rfl rfl rfl fun a S=>Va S rfl rfl fun a S=>Ld ?_)
 refine Tn (wp_ret ?_)
 subst h
 exact Ds S results88 rfl rfl
theorem Pw (w : World) (Al : Value) (Ap : List Dg) (Bl : Slc (view w []) 8 Al (Ap.map Dg.enc)) (Az : Nat) (As : ByteArray) (Bn : (view w []) Az = some (.cells [sV As].toArray 9 (0,0))) (r : Int) (h : Es Ap As = r) :
    Calls prog 85 [Al,.func (.func 88) #[] #[.pointer (some ⟨Az,0,none⟩)]].toArray w (Ret w [] fun _ v _=>v = iV r):=by
 refine Fe func85 rfl ntmps85 rfl fun a S=>?_
 unfold Es at h
 replace S:=S.k2 0 1 rfl
 refine Fr (Vk S rfl rfl fun a S=>Dl (Fs (Fr (Vm S rfl rfl fun a S=>lv S (Fi Sw (S.tm rfl) (Fm Bl)) rfl fun a S=>lv S (Rm rfl) rfl ?_))));clear S;intro a S
 refine Dl ?_
 replace S:=S.k4 0 1 7 8 rfl
 obtain ⟨j1,hj1,h⟩:=Eo h
 refine Dy (fun a w'=>j1 = r ∧ Sx w [] nov [] [] 19 a w') ?_ ?_
 ·refine wp_block (Gs (fun (ys1 : List Dg) a w'=>∃ i1 : Nat,(∃ dn,Ap = dn ++ ys1 ∧ dn.length = i1) ∧ Er As j1 ys1 i1 = r ∧ Sx w [] nov [] [(0,Al),(1,.func (.func 88) #[] #[.pointer (some ⟨Az,0,none⟩)]),(7,iV (Ap.length : Int)),(8,iV (i1 : Int))] 19 a w') List.length Ap ⟨0,⟨[],rfl,rfl⟩,h,S.nf [] rfl (subR rfl)⟩ ?_)
  clear S h;rintro ys1 a w1 ⟨i1,⟨dn,hd1,hi1⟩,h,S⟩
  cases ys1 with
  | nil =>
   rw [Er.eq_1] at h
   refine Fr (Vb S Ev rfl rfl rfl fun a S=>Ld ?_)
   replace S:=S.k5 0 1 7 8 9 rfl
   exact Tn (Fs (wp_cond_false ((S.tm rfl).trans (congrArg Value.bool (Ke hd1 hi1))) (wp_exit (Dt (Dt (Gh (Tn (⟨h,S.nf [] rfl trivial⟩))))))))
  | cons y1 ys1 =>
   rw [Er.eq_2] at h
   refine Fr (Vb S Ev rfl rfl rfl fun a S=>Ld ?_)
   replace S:=S.k5 0 1 7 8 9 rfl
   refine Tn (Fs (wp_cond_true ((S.tm rfl).trans (congrArg Value.bool (Ja hd1 hi1))) (wp_skip (Tn (Fs (wp_block (Fr (Vm S rfl rfl fun a S=>Va S rfl rfl ?_))))))));clear S;intro a S
   refine Dl (Fs (Fg ?_))
   iterate 3 (refine Vm S rfl rfl ?_;clear S;intro a S)
   obtain ⟨b1,o1,hm1,hr1⟩:=Fu (a:=a) (x:=.tmp 12) (y:=.tmp 13) (ty:=0) Sw Bl (Jx hd1 hi1) rfl (S.tm rfl) (S.tm rfl)
   refine lv S (hr1 _) rfl ?_;clear S;intro a S
   clear hr1
   refine lv S (Fb isAgg40 sizeOf40 (off:=o1) (o:=0) (part:=(Dg.enc y1)) rfl rfl (S.tm rfl) (hm1.at S.emb0)) rfl fun a S=>Dd S (fun _=>Si (cap:=[.pointer (some ⟨Az,0,none⟩)]) (S.tm rfl) (vs:=[.agg (Dg.enc y1).toArray]) ⟨(S.tm rfl),trivial⟩ call88) (AM _ y1 Az As ((S.le_arg Ey) _ _ Bn) _ rfl) rfl ?_;clear S;intro v1 a w3 hv1 hk1 hn1 S
   subst hv1
   refine Dl (Fc h (S.tm rfl) (fun hb1 h=>?_) (fun hb1 h=>?_))
   ·refine Fr (Vm S rfl rfl fun a S=>Va S rfl rfl fun a S=>Ld ?_)
    replace S:=S.k1 4 rfl
    refine Tn (wp_ret (Gc (Db (Db (Gc (Db (Db ?_)))))))
    subst h
    exact Ds S results85 rfl rfl
   ·exact wp_skip (Gy (Tn (Fg (Vq S Fa rfl rfl rfl fun a S=>Vm S rfl rfl fun a S=>Dl (⟨ys1,⟨i1 + 1,⟨_,(hd1).trans (List.append_cons _ _ _),by simp [hi1]⟩,h,S.nf [] rfl ⟨rfl,rfl,rfl,(congrArg (fun z=>some (Value.int .i64 z)) (Jb hd1 hi1 (Jy Bl))),trivial⟩⟩,Nat.lt_succ_self _⟩)))))
 clear S h;rintro a w2 ⟨h,S⟩;rw [hj1] at h;clear hj1 j1
 refine Tn (Fr (Vk S rfl rfl fun a S=>Dl (wp_ret ?_)))
 subst h
 exact Ds S results85 rfl rfl
set_option maxRecDepth 20000 in
theorem DJ (w : World) (Ab : Int) (r : Int) (h : Yw Ab = some r) :
    Calls prog 69 [.int .u32 Ab].toArray w (Ret w [] fun _ v _=>v = iV r):=by
 refine Fe func69 rfl ntmps69 rfl fun a S=>?_
 unfold Yw at h
 replace S:=S.k1 0 rfl
 refine Fr (Vk S rfl rfl fun a S=>Dl (Fs (Fr (Vm S rfl rfl fun a S=>Vq S Nj rfl rfl rfl fun a S=>Ld ?_))))
 refine Tn ?_
 obtain ⟨j1,hj1,h⟩:=Eo h
 refine Dy (fun a w'=>∃ x1 : Int,∃ x2 : Int,j1 x1 x2 = some r ∧ Sx w [] nov [] [(0,.int .u32 x1),(2,iV x2)] 19 a w') ?_ ?_
 ·refine Fc h (S.tm rfl) (fun hb1 h=>?_) (fun hb1 h=>?_)
  ·refine Fr (Vm S rfl rfl fun a S=>lv S (Re (S.tm rfl) rfl (by decide)) rfl fun a S=>Va S rfl rfl fun a S=>Dl (Fg (Vk S rfl rfl fun a S=>Dl ?_)))
   exact ⟨Ex .u32 Ab 16,16,h,S.nf [] rfl (subR rfl)⟩
  ·exact wp_skip (Tn (⟨Ab,0,h,S.nf [] rfl (subR rfl)⟩))
 clear S h;rintro a w1 ⟨x1,x2,h,S⟩;rw [hj1] at h;clear hj1 j1
 refine Tn (Fs (Fr (Vm S rfl rfl fun a S=>Vq S Nj rfl rfl rfl fun a S=>Dl ?_)))
 obtain ⟨j2,hj2,h⟩:=Eo h
 refine Dy (fun a w'=>∃ x3 : Int,∃ x4 : Int,j2 x3 x4 = some r ∧ Sx w [] nov [] [(0,.int .u32 x3),(2,iV x4)] 19 a w') ?_ ?_
 ·refine Fc h (S.tm rfl) (fun hb2 h=>?_) (fun hb2 h=>?_)
  ·refine Fr (Vm S rfl rfl fun a S=>lv S (Re (S.tm rfl) rfl (by decide)) rfl fun a S=>Va S rfl rfl fun a S=>Dl (Fg (Vm S rfl rfl fun a S=>Vq S Fa rfl rfl rfl fun a S=>Va S rfl rfl ?_)));clear S;intro a S
   exact Dl (⟨Ex .u32 x1 8,W (x2 + 8),h,S.nf [] rfl (subR rfl)⟩)
  ·exact wp_skip (Tn (⟨x1,x2,h,S.nf [] rfl (subR rfl)⟩))
 clear S h;rintro a w2 ⟨x3,x4,h,S⟩;rw [hj2] at h;clear hj2 j2
 refine Tn (Fr (Vm S rfl rfl fun a S=>Vm S rfl rfl fun a S=>Vu S (Qn underlying128 underlying5) rfl rfl ?_));clear S;intro a S
 obtain ⟨hc1,h⟩:=Gu h
 refine lv S (Tt underlying9 rfl (S.tm rfl) hc1) rfl fun a S=>Vu S (Qn underlying5 underlying3) rfl rfl fun a S=>Vb S Fa rfl rfl rfl fun a S=>Va S rfl rfl fun a S=>Dl (wp_ret ?_)
 obtain rfl:=Option.some.inj h
 exact Ds S results69 rfl rfl
set_option maxRecDepth 20000 in
theorem Ys (w : World) (Ab : Int) (r : Int) (h : Vv Ab = some r) :
    Calls prog 70 [.int .u64 Ab].toArray w (Ret w [] fun _ v _=>v = iV r):=by
 refine Fe func70 rfl ntmps70 rfl fun a S=>?_
 unfold Vv at h
 replace S:=S.k1 0 rfl
 refine Fr (Vk S rfl rfl fun a S=>Dl (Fs (Fr (Vm S rfl rfl fun a S=>Vq S Nj rfl rfl rfl fun a S=>Ld ?_))))
 refine Tn ?_
 obtain ⟨j1,hj1,h⟩:=Eo h
 refine Dy (fun a w'=>∃ x1 : Int,∃ x2 : Int,j1 x1 x2 = some r ∧ Sx w [] nov [] [(0,.int .u64 x1),(2,iV x2)] 25 a w') ?_ ?_
 ·refine Fc h (S.tm rfl) (fun hb1 h=>?_) (fun hb1 h=>?_)
  ·refine Fr (Vm S rfl rfl fun a S=>lv S (Re (S.tm rfl) rfl (by decide)) rfl fun a S=>Va S rfl rfl fun a S=>Dl (Fg (Vk S rfl rfl fun a S=>Dl ?_)))
   exact ⟨Ex .u64 Ab 32,32,h,S.nf [] rfl (subR rfl)⟩
  ·exact wp_skip (Tn (⟨Ab,0,h,S.nf [] rfl (subR rfl)⟩))
 clear S h;rintro a w1 ⟨x1,x2,h,S⟩;rw [hj1] at h;clear hj1 j1
 refine Tn (Fs (Fr (Vm S rfl rfl fun a S=>Vq S Nj rfl rfl rfl fun a S=>Dl ?_)))
 obtain ⟨j2,hj2,h⟩:=Eo h
 refine Dy (fun a w'=>∃ x3 : Int,∃ x4 : Int,j2 x3 x4 = some r ∧ Sx w [] nov [] [(0,.int .u64 x3),(2,iV x4)] 25 a w') ?_ ?_
 ·refine Fc h (S.tm rfl) (fun hb2 h=>?_) (fun hb2 h=>?_)
  ·refine Fr (Vm S rfl rfl fun a S=>lv S (Re (S.tm rfl) rfl (by decide)) rfl fun a S=>Va S rfl rfl fun a S=>Dl (Fg (Vm S rfl rfl fun a S=>Vq S Fa rfl rfl rfl fun a S=>Va S rfl rfl ?_)));clear S;intro a S
   exact Dl (⟨Ex .u64 x1 16,W (x2 + 16),h,S.nf [] rfl (subR rfl)⟩)
  ·exact wp_skip (Tn (⟨x1,x2,h,S.nf [] rfl (subR rfl)⟩))
 clear S h;rintro a w2 ⟨x3,x4,h,S⟩;rw [hj2] at h;clear hj2 j2
 refine Tn (Fs (Fr (Vm S rfl rfl fun a S=>Vq S Nj rfl rfl rfl fun a S=>Dl ?_)))
 obtain ⟨j3,hj3,h⟩:=Eo h
 refine Dy (fun a w'=>∃ x5 : Int,∃ x6 : Int,j3 x5 x6 = some r ∧ Sx w [] nov [] [(0,.int .u64 x5),(2,iV x6)] 25 a w') ?_ ?_
 ·refine Fc h (S.tm rfl) (fun hb3 h=>?_) (fun hb3 h=>?_)
  ·refine Fr (Vm S rfl rfl fun a S=>lv S (Re (S.tm rfl) rfl (by decide)) rfl fun a S=>Va S rfl rfl fun a S=>Dl (Fg (Vm S rfl rfl fun a S=>Vq S Fa rfl rfl rfl fun a S=>Va S rfl rfl ?_)));clear S;intro a S
   exact Dl (⟨Ex .u64 x3 8,W (x4 + 8),h,S.nf [] rfl (subR rfl)⟩)
  ·exact wp_skip (Tn (⟨x3,x4,h,S.nf [] rfl (subR rfl)⟩))
 clear S h;rintro a w3 ⟨x5,x6,h,S⟩;rw [hj3] at h;clear hj3 j3
 refine Tn (Fr (Vm S rfl rfl fun a S=>Vm S rfl rfl fun a S=>Vu S (Qn underlying130 underlying5) rfl rfl ?_));clear S;intro a S
 obtain ⟨hc1,h⟩:=Gu h
 refine lv S (Tt underlying9 rfl (S.tm rfl) hc1) rfl fun a S=>Vu S (Qn underlying5 underlying3) rfl rfl fun a S=>Vb S Fa rfl rfl rfl fun a S=>Va S rfl rfl fun a S=>Dl (wp_ret ?_)
 obtain rfl:=Option.some.inj h
 exact Ds S results70 rfl rfl
theorem Xf (w : World) (Ab : Int) (r : Int) (h : Uy Ab = some r) :
    Calls prog 28 [.int .u64 Ab].toArray w (Ret w [] fun _ v _=>v = iV r):=by
 refine Fe func28 rfl ntmps28 rfl fun a S=>?_
 unfold Uy at h
 replace S:=S.k1 0 rfl
 refine Fr (Vk S rfl rfl fun a S=>Dl (Fs (Fc h rfl (fun hb1 h=>?_) (fun hb1 h=>?_))))
 ·refine Fr (Vm S rfl rfl fun a S=>Vu S (Qn underlying77 underlying128) rfl rfl ?_);clear S;intro a S
  obtain ⟨r1,hr1,h⟩:=Ej h
  refine Dd S (fun _=>Cz (vs:=[.int .u32 (IntKind.wrap .u32 Ab)]) ⟨(S.tm rfl),trivial⟩ call69) (DJ _ (IntKind.wrap .u32 Ab) _ hr1) rfl ?_;clear S;intro v1 a w1 hv1 hk1 hn1 S
  subst hv1
  refine Va S rfl rfl fun a S=>Dl (wp_ret (Db ?_))
  obtain rfl:=Option.some.inj h
  exact Ds S results28 rfl rfl
 ·refine wp_skip (Tn (Fr (Vm S rfl rfl ?_)));clear S;intro a S
  obtain ⟨r2,hr2,h⟩:=Ej h
  refine Dd S (fun _=>Cz (vs:=[.int .u64 Ab]) ⟨(S.tm rfl),trivial⟩ call70) (Ys _ Ab _ hr2) rfl ?_;clear S;intro v2 a w2 hv2 hk2 hn2 S
  subst hv2
  refine Va S rfl rfl fun a S=>Dl (wp_ret ?_)
  obtain rfl:=Option.some.inj h
  exact Ds S results28 rfl rfl
theorem Yj (w : World) (Aj : An) (Am : An) (r : Int) (h : Ky Aj Am = r) :
    Calls prog 95 [.agg (An.enc Aj).toArray,.agg (An.enc Am).toArray].toArray w (Ret w [] fun _ v _=>v = iV r):=by
 refine Fe func95 rfl ntmps95 rfl fun a S=>?_
 unfold Ky at h
 replace S:=S.k2 0 1 rfl
 refine Fr (Ks S (S.tm rfl) (cs:=(An.enc Aj)) rfl rfl ?_);clear S;intro a w1 b1 hz1 hk1 S
 refine Ks S (S.tm rfl) (cs:=(An.enc Am)) rfl rfl ?_;clear S;intro a w2 b2 hz2 hk2 S
 refine Vk S rfl rfl fun a S=>Dz (Vf Nx S rfl rfl fun a S=>Vl isAgg9 1 S rfl rfl rfl rfl fun a S=>Vf Nx S rfl rfl fun a S=>Vl isAgg9 0 S rfl rfl rfl rfl fun a S=>Dd S (fun _=>Cz (vs:=[sV Aj.Who,sV Am.Who]) ⟨(S.tm rfl),(S.tm rfl),trivial⟩ call80) (Qv _ Aj.Who Am.Who _ rfl) rfl ?_);clear S;intro v1 a w3 hv1 hk3 hn1 S
 subst hv1
 refine Va S rfl rfl fun a S=>Dl (wp_ret ?_)
 subst h
 exact Ds S results95 rfl rfl
set_option maxRecDepth 20000 in
theorem Mm (w : World) (U : Value) (Af : List An) (Bb : (LEnt.own U 93 11 Af.length (Af.flatMap An.enc)).holds w) (Aj : Int) (Am : Int) (r : (List An)) (h : Ge Af Aj Am = some r) :
    Calls prog 108 [U,iV Aj,iV Am,.func (.func 95) #[] #[]].toArray w (Ret w (U.ownBlock.toList) fun _ v w'=>(LEnt.own U 93 11 r.length (r.flatMap An.enc)).holds w' ∧ v = .tuple #[]):=by
 refine Iy (U.ownBlock.toList) [.own U 93 11 Af.length (Af.flatMap An.enc)] func108 rfl ntmps108 rfl (fun e he=>by simp only [List.mem_singleton] at he;subst he;exact Bb) (Hb _) (Ip _) fun a S=>?_
 unfold Ge at h
 replace S:=(S.nl [.own U 93 11 Af.length (Af.flatMap An.enc)] [true] rfl).k4 0 1 2 3 rfl
 refine Fr (Vm S rfl rfl fun a S=>Vq S Fa rfl rfl rfl fun a S=>Va S rfl rfl fun a S=>Dl ?_)
 replace S:=S.k5 0 1 2 3 8 rfl
 obtain ⟨j1,hj1,h⟩:=Eo h
 refine Dy (fun a w'=>∃ x1 : List An,j1 x1 = some r ∧ Sx w (U.ownBlock.toList) nov [.own U 93 11 x1.length (x1.flatMap An.enc)] [] 53 a w') ?_ ?_
 ·refine wp_block (Gs (fun (m1 : Nat) a w'=>∃ x1 : List An,∃ x2 : Int,Dx Am Aj j1 m1 x1 x2 = some r ∧ Sx w (U.ownBlock.toList) nov [.own U 93 11 x1.length (x1.flatMap An.enc)] [(0,U),(1,iV Aj),(2,iV Am),(3,.func (.func 95) #[] #[]),(8,iV x2)] 53 a w') id ((Am - (W (Aj + 1))).toNat + 2) ⟨Af,W (Aj + 1),h,S.nf [true] rfl (subR rfl)⟩ ?_)
  clear S h;rintro m1 a w1 ⟨x1,x2,h,S⟩
  cases m1 with
  | zero=>rw [Dx.eq_1] at h;cases h
  | succ m1 =>
   rw [Dx.eq_2] at h
   refine Fs (Fr (Vm S rfl rfl fun a S=>Vm S rfl rfl fun a S=>Vb S Ev rfl rfl rfl fun a S=>Dl (Fc h (S.tm rfl) (fun hb1 h=>?_) (fun hb1 h=>?_))))
   ·refine wp_skip (Tn (Fs (wp_block (Fr (Vm S rfl rfl fun a S=>Va S rfl rfl fun a S=>Dl ?_)))))
    replace S:=S.k6 0 1 2 3 8 9 rfl
    obtain ⟨j2,hj2,h⟩:=Eo h
    refine Dy (fun a w'=>∃ x3 : List An,j2 x3 = some r ∧ Sx w (U.ownBlock.toList) nov [.own U 93 11 x3.length (x3.flatMap An.enc)] [(0,U),(1,iV Aj),(2,iV Am),(3,.func (.func 95) #[] #[]),(8,iV x2)] 53 a w') ?_ ?_
    ·refine wp_block (Gs (fun (m2 : Nat) a w'=>∃ x3 : List An,∃ x4 : Int,Dk Aj j2 m2 x3 x4 = some r ∧ Sx w (U.ownBlock.toList) nov [.own U 93 11 x3.length (x3.flatMap An.enc)] [(0,U),(1,iV Aj),(2,iV Am),(3,.func (.func 95) #[] #[]),(8,iV x2),(9,iV x4)] 53 a w') id ((x2 - Aj).toNat + 2) ⟨x1,x2,h,S.nf [true] rfl (subR rfl)⟩ ?_)
     clear S h;rintro m2 a w3 ⟨x3,x4,h,S⟩
     cases m2 with
     | zero=>rw [Dk.eq_1] at h;cases h
     | succ m2 =>
      rw [Dk.eq_2] at h
      refine Fs (Fs ?_)
      obtain ⟨j3,hj3,h⟩:=Eo h
      refine Dy (fun a w'=>∃ x5 : Bool,j3 x5 = some r ∧ Sx w (U.ownBlock.toList) nov [.own U 93 11 x3.length (x3.flatMap An.enc)] [(0,U),(1,iV Aj),(2,iV Am),(3,.func (.func 95) #[] #[]),(8,iV x2),(9,iV x4),(34,bV x5)] 53 a w') ?_ ?_
      ·rcases Bool.eq_false_or_eq_true (decide (Aj < x4)) with hb2 | hb2
       ·replace h:=Rb h hb2
        obtain ⟨hc1,h⟩:=Gu h
        obtain ⟨hc2,h⟩:=Gu h
        refine Fo [] ([]) Tryz.mixed S rfl (by kernel_rfl) ?_;clear S;intro w7 hk2 hsel S
        refine De 0 S hsel rfl rfl rfl (by kernel_rfl) (by kernel_rfl) rfl (fun _ hw=>(Rm (S.tm rfl))) fun a S=>De 1 S hsel rfl rfl rfl (by kernel_rfl) (by kernel_rfl) rfl (fun _ hw=>(Rm (S.tm rfl))) fun a S=>De 2 S hsel rfl rfl rfl (by kernel_rfl) (by kernel_rfl) rfl (fun _ hw=>(It (S.tm rfl) (S.tm rfl))) fun a S=>De 3 S hsel rfl rfl rfl (by kernel_rfl) (by kernel_rfl) rfl (fun _ hw=>(Rm (S.tm rfl))) fun a S=>Dj 4 S hsel rfl rfl rfl rfl hb2 rfl rfl (by kernel_rfl) (by kernel_rfl) rfl (fun _ hw=>(Rm (S.tm rfl))) fun a S=>Dj 5 S hsel rfl rfl rfl rfl hb2 rfl rfl (by kernel_rfl) (by kernel_rfl) rfl (fun _ hw=>(Rm (S.tm rfl))) fun a S=>Dj 6 S hsel rfl rfl rfl rfl hb2 rfl rfl (by kernel_rfl) (by kernel_rfl) rfl (fun _ hw=>(Rm (S.tm rfl))) ?_;clear S;intro a S
        obtain ⟨b3,hg3,hr3⟩:=Eu (a:=a) (x:=.tmp 23) (y:=.tmp 24) (ty:=0) Ll An.enc_ok S (i:=0) rfl (Dc hc1).1 (Dc hc1).2 (S.tm rfl) (S.tm rfl)
        refine Dj 7 S hsel rfl rfl rfl rfl hb2 rfl rfl (by kernel_rfl) (by kernel_rfl) rfl (fun _ hw=>(hr3 _)) ?_;clear S;intro a S
        clear hr3
        refine Dj 8 S hsel rfl rfl rfl rfl hb2 rfl rfl (by kernel_rfl) (by kernel_rfl) rfl (fun _ hw=>(Fb isAgg93 sizeOf93 (off:=x4.toNat * 11) (o:=0) (part:=(An.enc (nth x3 x4))) rfl rfl (S.tm rfl) ((Kk An.enc_ok S (i:=0) rfl hg3 (Dc hc1).1 (Gt (e':=.own U 93 11 x3.length (x3.flatMap An.enc)))).kept hw))) fun a S=>Dj 9 S hsel rfl rfl rfl rfl hb2 rfl rfl (by kernel_rfl) (by kernel_rfl) rfl (fun _ hw=>(Rm (S.tm rfl))) fun a S=>Dj 10 S hsel rfl rfl rfl rfl hb2 rfl rfl (by kernel_rfl) (by kernel_rfl) rfl (fun _ hw=>(Rm (S.tm rfl))) fun a S=>Dj 11 S hsel rfl rfl rfl rfl hb2 rfl rfl (by kernel_rfl) (by kernel_rfl) rfl (fun _ hw=>(Gp (S.tm rfl) rfl)) ?_;clear S;intro a S
        obtain ⟨b4,hg4,hr4⟩:=Eu (a:=a) (x:=.tmp 27) (y:=.tmp 29) (ty:=0) Ll An.enc_ok S (i:=0) rfl (Dc hc2).1 (Dc hc2).2 (S.tm rfl) (S.tm rfl)
        refine Dj 12 S hsel rfl rfl rfl rfl hb2 rfl rfl (by kernel_rfl) (by kernel_rfl) rfl (fun _ hw=>(hr4 _)) ?_;clear S;intro a S
        clear hr4
        refine Dj 13 S hsel rfl rfl rfl rfl hb2 rfl rfl (by kernel_rfl) (by kernel_rfl) rfl (fun _ hw=>(Fb isAgg93 sizeOf93 (off:=((W (x4 - 1)).toNat) * 11) (o:=0) (part:=(An.enc (nth x3 (W (x4 - 1))))) rfl rfl (S.tm rfl) ((Kk An.enc_ok S (i:=0) rfl hg4 (Dc hc2).1 (Gt (e':=.own U 93 11 x3.length (x3.flatMap An.enc)))).kept hw))) fun a S=>Ff 14 (by kernel_rfl) rfl (Da S rfl rfl rfl hb2 (Dd S (fun _=>Si (cap:=[]) (S.tm rfl) (vs:=[.agg (An.enc (nth x3 x4)).toArray,.agg (An.enc (nth x3 (W (x4 - 1)))).toArray]) ⟨(S.tm rfl),(S.tm rfl),trivial⟩ call95) (Yj _ (nth x3 x4) (nth x3 (W (x4 - 1))) _ rfl) rfl ?_));clear S;intro v2 a w8 hv2 hk3 hn2 S
        subst hv2
        refine Ld (Gl hk3 (Js [15,16] hsel (by kernel_rfl) rfl ?_))
        clear hsel
        refine Lx S rfl rfl rfl rfl hb2 (Ok S (Ev (S.tm rfl) rfl) rfl fun a S=>Fj S rfl (Ms hb2 (S.tm rfl) (S.tm rfl)) rfl fun a S=>Jc ?_)
        replace S:=S.nk [.own U 93 11 x3.length (x3.flatMap An.enc)] [(0,U),(1,iV Aj),(2,iV Am),(3,.func (.func 95) #[] #[]),(8,iV x2),(9,iV x4),(22,.func (.func 95) #[] #[]),(23,U),(24,iV x4),(25,.pointer (some ⟨b3,x4.toNat * 11,none⟩)),(26,.agg (An.enc (nth x3 x4)).toArray),(27,U),(28,iV x4),(29,iV (W (x4 - 1))),(30,.pointer (some ⟨b4,((W (x4 - 1)).toNat) * 11,none⟩)),(31,.agg (An.enc (nth x3 (W (x4 - 1)))).toArray),(32,iV (Ky (nth x3 x4) (nth x3 (W (x4 - 1))))),(33,bV (decide ((Ky (nth x3 x4) (nth x3 (W (x4 - 1)))) < 0))),(34,bV (decide ((Ky (nth x3 x4) (nth x3 (W (x4 - 1)))) < 0)))] [true] rfl (subR rfl)
        exact Tn (⟨decide ((Ky (nth x3 x4) (nth x3 (W (x4 - 1)))) < 0),h,S.nf [true] rfl (subR rfl)⟩)
       ·replace h:=Rc h hb2
        refine Fo [] ([]) Tryz.mixed S rfl (by kernel_rfl) ?_;clear S;intro w9 hk4 hsel S
        refine Js [0,1,2,3,4,5,6,7,8,9,10,11,12,13,14,15,16] hsel (by kernel_rfl) rfl ?_
        clear hsel
        refine Fj S rfl (Rm (S.tm rfl)) rfl fun a S=>Fj S rfl (Rm (S.tm rfl)) rfl fun a S=>Fj S rfl (It (S.tm rfl) (S.tm rfl)) rfl fun a S=>Fj S rfl (Rm (S.tm rfl)) rfl ?_;clear S;intro a S
        iterate 12 (refine Rj S rfl rfl rfl rfl (Jk hb2) rfl ?_ rfl;clear S;intro a S)
        refine Fj S rfl (Mt hb2 (S.tm rfl) rfl) rfl fun a S=>Jc ?_
        replace S:=S.k7 0 1 2 3 8 9 34 rfl
        exact Tn (⟨false,h,S.nf [true] rfl (subR rfl)⟩)
      clear S h;rintro a w5 ⟨x5,h,S⟩;rw [hj3] at h;clear hj3 j3
      refine Tn (Fc h (S.tm rfl) (fun hb3 h=>?_) (fun hb3 h=>?_))
      ·refine wp_skip (Tn (Fs (wp_block ?_)))
       obtain ⟨hc3,h⟩:=Gu h
       obtain ⟨hc4,h⟩:=Gu h
       obtain ⟨hc5,h⟩:=Gu h
       obtain ⟨hc6,h⟩:=Gu h
       refine Fo [15,17] ([]) Tryz.mixed S rfl (by kernel_rfl) ?_;clear S;intro w14 hk9 hsel S
       refine Ee 0 S hsel rfl rfl (by kernel_rfl) (by kernel_rfl) rfl (fun _=>(Rm (S.tm rfl))) fun a S=>Ee 1 S hsel rfl rfl (by kernel_rfl) (by kernel_rfl) rfl (fun _=>(Rm (S.tm rfl))) fun a S=>Ee 2 S hsel rfl rfl (by kernel_rfl) (by kernel_rfl) rfl (fun _=>(Rm (S.tm rfl))) fun a S=>Ee 3 S hsel rfl rfl (by kernel_rfl) (by kernel_rfl) rfl (fun _=>(Rm (S.tm rfl))) fun a S=>Ee 4 S hsel rfl rfl (by kernel_rfl) (by kernel_rfl) rfl (fun _=>(Gp (S.tm rfl) rfl)) fun a S=>Ee 5 S hsel rfl rfl (by kernel_rfl) (by kernel_rfl) rfl (fun _=>(Rm (S.tm rfl))) fun a S=>Ee 6 S hsel rfl rfl (by kernel_rfl) (by kernel_rfl) rfl (fun _=>(Rm (S.tm rfl))) fun a S=>Ee 7 S hsel rfl rfl (by kernel_rfl) (by kernel_rfl) rfl (fun _=>(Gp (S.tm rfl) rfl)) ?_;clear S;intro a S
       obtain ⟨b9,hg9,hr9⟩:=Eu (a:=a) (x:=.tmp 42) (y:=.tmp 44) (ty:=0) Ll An.enc_ok S (i:=0) rfl (Dc hc3).1 (Dc hc3).2 (S.tm rfl) (S.tm rfl)
       refine Ee 8 S hsel rfl rfl (by kernel_rfl) (by kernel_rfl) rfl (fun _=>(hr9 _)) ?_;clear S;intro a S
       clear hr9
       refine De 9 S hsel rfl (by kernel_rfl) (by kernel_rfl) (by kernel_rfl) (by kernel_rfl) rfl (fun _ hw=>(Fb isAgg93 sizeOf93 (off:=((W (x4 - 1)).toNat) * 11) (o:=0) (part:=(An.enc (nth x3 (W (x4 - 1))))) rfl rfl (S.tm rfl) ((Kk An.enc_ok S (i:=0) rfl hg9 (Dc hc3).1 (Gt (e':=.own U 93 11 x3.length (x3.flatMap An.enc)))).kept hw))) fun a S=>Ee 10 S hsel rfl rfl (by kernel_rfl) (by kernel_rfl) rfl (fun _=>(Rm (S.tm rfl))) fun a S=>Ee 11 S hsel rfl rfl (by kernel_rfl) (by kernel_rfl) rfl (fun _=>(Rm (S.tm rfl))) ?_;clear S;intro a S
       obtain ⟨b10,hg10,hr10⟩:=Eu (a:=a) (x:=.tmp 47) (y:=.tmp 48) (ty:=0) Ll An.enc_ok S (i:=0) rfl (Dc hc4).1 (Dc hc4).2 (S.tm rfl) (S.tm rfl)
       refine Ee 12 S hsel rfl rfl (by kernel_rfl) (by kernel_rfl) rfl (fun _=>(hr10 _)) ?_;clear S;intro a S
       clear hr10
       refine De 13 S hsel rfl (by kernel_rfl) (by kernel_rfl) (by kernel_rfl) (by kernel_rfl) rfl (fun _ hw=>(Fb isAgg93 sizeOf93 (off:=x4.toNat * 11) (o:=0) (part:=(An.enc (nth x3 x4))) rfl rfl (S.tm rfl) ((Kk An.enc_ok S (i:=0) rfl hg10 (Dc hc4).1 (Gt (e':=.own U 93 11 x3.length (x3.flatMap An.enc)))).kept hw))) ?_;clear S;intro a S
       obtain ⟨b11,hg11,hr11⟩:=Eu (a:=a) (x:=.tmp 37) (y:=.tmp 38) (ty:=0) Ll An.enc_ok S (i:=0) rfl (Dc hc5).1 (Dc hc5).2 (S.tm rfl) (S.tm rfl)
       refine Ee 14 S hsel rfl rfl (by kernel_rfl) (by kernel_rfl) rfl (fun _=>(hr11 _)) ?_;clear S;intro a S
       clear hr11
       refine Rf 15 (U.ownBlock.toList) rfl (by kernel_rfl) rfl (Le (c:=0) (j:=x4.toNat) (nth x3 (W (x4 - 1))) An.enc_ok S (S.tm rfl) (S.tm rfl) (i:=0) rfl hg11 (Dc hc5).1 sizeOf93 (vs:=[sV ((nth x3 (W (x4 - 1))).Site),iV ((nth x3 (W (x4 - 1))).No),iV ((nth x3 (W (x4 - 1))).At),iV ((nth x3 (W (x4 - 1))).Kind),sV ((nth x3 (W (x4 - 1))).Who),sV ((nth x3 (W (x4 - 1))).Club),sV ((nth x3 (W (x4 - 1))).Race),iV ((nth x3 (W (x4 - 1))).Time),iV ((nth x3 (W (x4 - 1))).Fault),sV ((nth x3 (W (x4 - 1))).Of),iV ((nth x3 (W (x4 - 1))).Other)]) rfl rfl rfl rfl rfl ?_);clear S;intro w16 hk11 S
       refine Ld (Rh ?_)
       obtain ⟨b12,hg12,hr12⟩:=Eu (a:=a) (x:=.tmp 39) (y:=.tmp 41) (ty:=0) Ll An.enc_ok S (i:=0) rfl (Dc hc6).1 (Dc hc6).2 (S.tm rfl) (S.tm rfl)
       refine De 16 S hsel rfl rfl rfl (by kernel_rfl) (by kernel_rfl) rfl (fun _ hw=>(hr12 _)) ?_;clear S;intro a S
       clear hr12
       refine Ff 17 (by kernel_rfl) rfl (Le (c:=0) (j:=(W (x4 - 1)).toNat) (nth x3 x4) An.enc_ok S (S.tm rfl) (S.tm rfl) (i:=0) rfl hg12 (Dc hc6).1 sizeOf93 (vs:=[sV ((nth x3 x4).Site),iV ((nth x3 x4).No),iV ((nth x3 x4).At),iV ((nth x3 x4).Kind),sV ((nth x3 x4).Who),sV ((nth x3 x4).Club),sV ((nth x3 x4).Race),iV ((nth x3 x4).Time),iV ((nth x3 x4).Fault),sV ((nth x3 x4).Of),iV ((nth x3 x4).Other)]) rfl rfl rfl rfl rfl ?_);clear S;intro w18 hk13 S
       refine Ld (Gl hk13 (Se (by kernel_rfl) ?_))
       clear hsel
       replace S:=(S.nl [.own U 93 11 ((x3.set x4.toNat (nth x3 (W (x4 - 1)))).set ((W (x4 - 1)).toNat) (nth x3 x4)).length (((x3.set x4.toNat (nth x3 (W (x4 - 1)))).set ((W (x4 - 1)).toNat) (nth x3 x4)).flatMap An.enc)] [true] rfl).k6 0 1 2 3 8 9 rfl
       exact Gy (Tn (Fg (Vm S rfl rfl fun a S=>Vq S Gp rfl rfl rfl fun a S=>Va S rfl rfl fun a S=>Dl (⟨m2,⟨((x3.set x4.toNat (nth x3 (W (x4 - 1)))).set ((W (x4 - 1)).toNat) (nth x3 x4)),W (x4 - 1),h,S.nf [true] rfl ⟨rfl,rfl,rfl,rfl,rfl,rfl,trivial⟩⟩,Nat.lt_succ_self _⟩))))
      ·exact wp_exit (Dt (Dt (Gh (Tn (⟨x3,h,S.nf [true] rfl (subR rfl)⟩)))))
    clear S h;rintro a w4 ⟨x3,h,S⟩;rw [hj2] at h;clear hj2 j2
    exact Gy (Tn (Fg (Vm S rfl rfl fun a S=>Vq S Fa rfl rfl rfl fun a S=>Va S rfl rfl fun a S=>Dl (⟨m1,⟨x3,W (x2 + 1),h,S.nf [true] rfl ⟨rfl,rfl,rfl,rfl,rfl,trivial⟩⟩,Nat.lt_succ_self _⟩))))
   ·exact wp_exit (Dt (Dt (Gh (Tn (⟨x1,h,S.nf [true] rfl trivial⟩)))))
 clear S h;rintro a w2 ⟨x1,h,S⟩;rw [hj1] at h;clear hj1 j1
 obtain rfl:=Option.some.inj h
 exact Ph S results108 ⟨(S.holds _ (List.mem_of_getElem? (i:=0) rfl)),rfl⟩
theorem Oc (w : World) (U : Value) (Af : List An) (Bb : (LEnt.own U 93 11 Af.length (Af.flatMap An.enc)).holds w) (Aj : Int) (Am : Int) (Bt : Int) (r : (List An)) (h : Hr Af Aj Am Bt = some r) :
    Calls prog 122 [U,iV Aj,iV Am,iV Bt,.func (.func 95) #[] #[]].toArray w (Ret w (U.ownBlock.toList) fun _ v w'=>(LEnt.own U 93 11 r.length (r.flatMap An.enc)).holds w' ∧ v = .tuple #[]):=by
 refine Iy (U.ownBlock.toList) [.own U 93 11 Af.length (Af.flatMap An.enc)] func122 rfl ntmps122 rfl (fun e he=>by simp only [List.mem_singleton] at he;subst he;exact Bb) (Hb _) (Ip _) fun a S=>?_
 unfold Hr at h
 replace S:=(S.nl [.own U 93 11 Af.length (Af.flatMap An.enc)] [true] rfl).k5 0 1 2 3 4 rfl
 refine Fr (Vk S rfl rfl fun a S=>Dz (Vk S rfl rfl fun a S=>Dl ?_))
 replace S:=S.k6 0 1 2 3 4 10 rfl
 refine Dy (fun a w'=>False) ?_ ?_
 ·refine wp_block (Gs (fun (m1 : Nat) a w'=>∃ x1 : Int,∃ x2 : Int,∃ x3 : Int,∃ x4 : Bool,Et Af m1 x1 x2 x3 x4 = some r ∧ Sx w (U.ownBlock.toList) nov [.own U 93 11 Af.length (Af.flatMap An.enc)] [(0,U),(1,iV x1),(2,iV x2),(3,iV x3),(4,.func (.func 95) #[] #[]),(10,bV x4)] 148 a w') id 4611686018427387904 ⟨Aj,Am,Bt,true,h,S.nf [true] rfl (subR rfl)⟩ ?_)
  clear S h;rintro m1 a w1 ⟨x1,x2,x3,x4,h,S⟩
  cases m1 with
  | zero=>rw [Et.eq_1] at h;cases h
  | succ m1 =>
   rw [Et.eq_2] at h
   refine wp_block (Fr (Vm S rfl rfl fun a S=>Vm S rfl rfl fun a S=>Vb S Gp rfl rfl rfl fun a S=>Va S rfl rfl fun a S=>Dl (Fs (Fs ?_))))
   refine Fg (Vm S rfl rfl fun a S=>Vq S Qt rfl rfl rfl fun a S=>Dl (Fc h (S.tm rfl) (fun hb1 h=>?_) (fun hb1 h=>?_)))
   ·refine Fs (Fg ?_)
    iterate 4 (refine Vm S rfl rfl ?_;clear S;intro a S)
    obtain ⟨r1,hr1,h⟩:=Ej h
    refine Km 0 S rfl (fun _=>.own U 93 11 r1.length (r1.flatMap An.enc)) (fun _=>Cz (vs:=[U,iV x1,iV x2,.func (.func 95) #[] #[]]) ⟨(S.tm rfl),(S.tm rfl),(S.tm rfl),(S.tm rfl),trivial⟩ call108) (Mm _ U Af (S.holds _ (List.mem_of_getElem? (i:=0) rfl)) x1 x2 _ hr1) rfl (fun _ _ _ h=>⟨h.1,fun _ hc=>hc⟩) ?_;clear S;intro v1 a w3 hv1 hk1 hn1 S
    replace hv1:=hv1.2
    subst hv1
    refine Ld ?_
    replace S:=(S.nl [.own U 93 11 r1.length (r1.flatMap An.enc)] [true] rfl).k0
    refine Tn (wp_ret (Db (Gc (Db (Gc (Db ?_))))))
    obtain rfl:=Option.some.inj h
    exact Ph S results122 ⟨(S.holds _ (List.mem_of_getElem? (i:=0) rfl)),rfl⟩
   ·refine wp_skip (Tn (Fs (Fr (Vm S rfl rfl fun a S=>Vq S Hj rfl rfl rfl fun a S=>Dl (Fc h (S.tm rfl) (fun hb2 h=>?_) (fun hb2 h=>?_))))))
    ·refine Fs ?_
     cases h
    ·refine wp_skip (Tn (Fs (Fr (Vm S rfl rfl fun a S=>Vu S Gk rfl rfl fun a S=>Ld ?_))))
     replace S:=S.k1 39 rfl
     refine Tn (Fc h (S.tm rfl) (fun hb3 h=>?_) (fun hb3 h=>?_))
     ·refine Fs ?_
      cases h
     ·refine wp_skip (Tn (Fs ?_))
      cases h
 exact fun _ _ h=>h.elim
theorem Pk (w : World) (Au : Value) (Ab : List An) (By : (LEnt.own Au 93 11 Ab.length (Ab.flatMap An.enc)).holds w) (r : (List An)) (h : Hn Ab = some r) :
    Calls prog 94 [Au,.func (.func 95) #[] #[]].toArray w (Ret w (Au.ownBlock.toList) fun _ v w'=>(LEnt.own Au 93 11 r.length (r.flatMap An.enc)).holds w' ∧ v = .tuple #[]):=by
 refine Iy (Au.ownBlock.toList) [.own Au 93 11 Ab.length (Ab.flatMap An.enc)] func94 rfl ntmps94 rfl (fun e he=>by simp only [List.mem_singleton] at he;subst he;exact By) (Hb _) (Ip _) fun a S=>?_
 unfold Hn at h
 replace S:=(S.nl [.own Au 93 11 Ab.length (Ab.flatMap An.enc)] [true] rfl).k2 0 1 rfl
 refine Fr (Vm S rfl rfl fun a S=>lv S (Fi Ll (S.tm rfl) (Iz (S.own_at (i:=0) rfl))) rfl fun a S=>Va S rfl rfl fun a S=>Dl (Fg ?_))
 iterate 3 (refine Vm S rfl rfl ?_;clear S;intro a S)
 refine Vu S (Qn underlying3 underlying77) rfl rfl ?_;clear S;intro a S
 obtain ⟨r1,hr1,h⟩:=Ej h
 refine Dd S (fun _=>Cz (vs:=[.int .u64 (IntKind.wrap .u64 (Ab.length : Int))]) ⟨(S.tm rfl),trivial⟩ call28) (Xf _ (IntKind.wrap .u64 (Ab.length : Int)) _ hr1) rfl ?_;clear S;intro v1 a w1 hv1 hk1 hn1 S
 subst hv1
 refine Vm S rfl rfl ?_;clear S;intro a S
 obtain ⟨r2,hr2,h⟩:=Ej h
 refine Km 0 S rfl (fun _=>.own Au 93 11 r2.length (r2.flatMap An.enc)) (fun _=>Cz (vs:=[Au,iV 0,iV (Ab.length : Int),iV r1,.func (.func 95) #[] #[]]) ⟨(S.tm rfl),rfl,(S.tm rfl),(S.tm rfl),(S.tm rfl),trivial⟩ call122) (Oc _ Au Ab (S.holds _ (List.mem_of_getElem? (i:=0) rfl)) 0 (Ab.length : Int) r1 _ hr2) rfl (fun _ _ _ h=>⟨h.1,fun _ hc=>hc⟩) ?_;clear S;intro v2 a w2 hv2 hk2 hn2 S
 replace hv2:=hv2.2
 subst hv2
 refine Ld ?_
 obtain rfl:=Option.some.inj h
 exact Ph S results94 ⟨(S.holds _ (List.mem_of_getElem? (i:=0) rfl)),rfl⟩
theorem Vg (w : World) (O : Nat) (Ax : Ln) (Bx : R32) (Cf : Ru (view w []) Ax Bx) (Ay : Value) (Bf : List An) (Bo : Slc (view w []) 11 Ay (Bf.map An.enc)) (Ar : (view w []) O = some (.cells (R32.enc Bx ++ [Ay]).toArray 139 (0,0))) (Aw : ByteArray) (r : (List An)) (h : Ob Ax Bf Aw = some r) :
    Calls prog 54 [.pointer (some ⟨O,0,none⟩),sV Aw].toArray w (Ret w [] fun τ v _=>Pq τ 93 11 v r.length (r.flatMap An.enc)):=by
 obtain ⟨u1,u2,rfl,hs1,⟨u3,rfl,hs2⟩⟩:=Cf
 replace Ar : (view w []) O = some (.cells [u1.val,u3.val,iV Ax.Table.Relay,iV Ax.Table.Most,iV Ax.Final.Size,iV Ax.Final.Many,iV Ax.Final.Reserves,Ay].toArray 139 (0,0)):=Ar
 refine Fe func54 rfl ntmps54 rfl fun a S=>?_
 unfold Ob at h
 replace S:=S.k2 0 1 rfl
 refine Fr (Vk S rfl rfl fun a S=>Dz (HO (κ:=ByteArray) (ν:=An) S rfl Value.string (fun x=>Value.agg (An.enc x).toArray) ?_));clear S;intro a w1 b1 hz1 hk1 S
 refine Va S rfl rfl fun a S=>Dl (Fs (Fr (Vm S rfl rfl fun a S=>Vu S Kj rfl rfl fun a S=>Vf CM S rfl rfl fun a S=>lv S (Gj isAgg34 (off:=0) (o:=7) (S.tm rfl) ((Ue Ar).at S.emb0) rfl) rfl fun a S=>lv S (Fi Ll (S.tm rfl) (Fm Bo)) rfl ?_)));clear S;intro a S
 refine lv S (Rm rfl) rfl fun a S=>Dl ?_
 replace S:=(S.nl [.map b1 (Hf Value.string (fun x=>Value.agg (An.enc x).toArray) ([] : List (ByteArray × An)) ([] : List Nat)) 0] [true] rfl).k5 1 5 15 16 17 rfl
 obtain ⟨j1,hj1,h⟩:=Eo h
 refine Dy (fun a w'=>∃ x1 : List (ByteArray × An),∃ bs1 : List Nat,∃ ck1 : Nat,j1 x1 = some r ∧ Qf x1.length bs1 ck1 ∧ Sx w [] nov [.map b1 (Hf Value.string (fun x=>Value.agg (An.enc x).toArray) x1 bs1) ck1] [(5,.map (some b1))] 52 a w') ?_ ?_
 ·refine wp_block (Gs (fun (ys1 : List An) a w'=>∃ i1 : Nat,∃ x1 : List (ByteArray × An),∃ bs1 : List Nat,∃ ck1 : Nat,(∃ dn,Bf = dn ++ ys1 ∧ dn.length = i1) ∧ Jf Aw j1 ys1 i1 x1 = some r ∧ Qf x1.length bs1 ck1 ∧ Sx w [] nov [.map b1 (Hf Value.string (fun x=>Value.agg (An.enc x).toArray) x1 bs1) ck1] [(1,sV Aw),(5,.map (some b1)),(15,Ay),(16,iV (Bf.length : Int)),(17,iV (i1 : Int))] 52 a w') List.length Bf ⟨0,([] : List (ByteArray × An)),([] : List Nat),0,⟨[],rfl,rfl⟩,h,(KC (κ:=ByteArray) (ν:=An)),S.nf [true] rfl (subR rfl)⟩ ?_)
  clear S h;rintro ys1 a w2 ⟨i1,x1,bs1,ck1,⟨dn,hd1,hi1⟩,h,hB1,S⟩
  cases ys1 with
  | nil =>
   rw [Jf.eq_1] at h
   refine Fr (Vb S Ev rfl rfl rfl fun a S=>Ld ?_)
   replace S:=S.k6 1 5 15 16 17 18 rfl
   exact Tn (Fs (wp_cond_false ((S.tm rfl).trans (congrArg Value.bool (Ke hd1 hi1))) (wp_exit (Dt (Dt (Gh (Tn (⟨x1,bs1,ck1,h,hB1,S.nf [true] rfl ⟨rfl,trivial⟩⟩))))))))
  | cons y1 ys1 =>
   rw [Jf.eq_2] at h
   refine Fr (Vb S Ev rfl rfl rfl fun a S=>Ld ?_)
   replace S:=S.k6 1 5 15 16 17 18 rfl
   refine Tn (Fs (wp_cond_true ((S.tm rfl).trans (congrArg Value.bool (Ja hd1 hi1))) (wp_skip (Tn (Fs ?_)))))
   obtain ⟨j2,hj2,h⟩:=Eo h
   refine Dy (fun a w'=>∃ x2 : List (ByteArray × An),∃ bs2 : List Nat,∃ ck2 : Nat,j2 x2 = some r ∧ Qf x2.length bs2 ck2 ∧ Sx w [] nov [.map b1 (Hf Value.string (fun x=>Value.agg (An.enc x).toArray) x2 bs2) ck2] [(1,sV Aw),(5,.map (some b1)),(15,Ay),(16,iV (Bf.length : Int)),(17,iV (i1 : Int))] 52 a w') ?_ ?_
   ·refine wp_block (Fs (Fg ?_))
    obtain ⟨b2,o1,hm1,hr1⟩:=Fu (a:=a) (x:=.tmp 15) (y:=.tmp 17) (ty:=0) Ll Bo (Jx hd1 hi1) rfl (S.tm rfl) (S.tm rfl)
    refine lv S (hr1 _) rfl ?_;clear S;intro a S
    clear hr1
    refine lv S (Fb isAgg93 sizeOf93 (off:=o1) (o:=0) (part:=(An.enc y1)) rfl rfl (S.tm rfl) (hm1.at S.emb0)) rfl fun a S=>Ic S zeroValue93 (cs:=[sV Cx,iV 0,iV 0,iV 0,sV Cx,sV Cx,sV Cx,iV 0,iV 0,sV Cx,iV 0]) rfl rfl ?_;clear S;intro a w5 b3 hz2 hk2 S
    refine Ep S (S.tm rfl) (S.tm rfl) (i:=0) (off:=0) rfl sizeOf93 (vs:=(An.enc y1)) rfl rfl rfl rfl ?_;clear S;intro w6 hk3 S
    refine Dl (Fs (Fr (Vf Qd S rfl rfl fun a S=>Vl isAgg9 0 S rfl rfl rfl rfl fun a S=>Vm S rfl rfl fun a S=>Vb S Xo rfl rfl rfl fun a S=>Dl ?_)))
    refine Fc h (S.tm rfl) (fun hb1 h=>?_) (fun hb1 h=>?_)
    ·exact wp_exit (Dt (Gh (Tn (⟨x1,bs1,ck1,h,hB1,S.nf [false,true] rfl (subR rfl)⟩))))
    ·refine wp_skip (Tn (Fr (Vf Nh S rfl rfl fun a S=>Vl isAgg3 0 S rfl rfl rfl rfl fun a S=>Ld ?_)))
     replace S:=(S.nl [.blk b3 (An.enc y1) 93,.map b1 (Hf Value.string (fun x=>Value.agg (An.enc x).toArray) x1 bs1) ck1] [true,true] rfl).k7 1 5 7 15 16 17 26 rfl
     refine Tn ?_
     obtain ⟨j3,hj3,h⟩:=Eo h
     refine Dy (fun a w'=>∃ x3 : List (ByteArray × An),∃ bs3 : List Nat,∃ ck3 : Nat,j3 x3 = some r ∧ Qf x3.length bs3 ck3 ∧ Sx w [] nov [.blk b3 (An.enc y1) 93,.map b1 (Hf Value.string (fun x=>Value.agg (An.enc x).toArray) x3 bs3) ck3] [(1,sV Aw),(5,.map (some b1)),(15,Ay),(16,iV (Bf.length : Int)),(17,iV (i1 : Int))] 52 a w') ?_ ?_
     ·refine wp_block (Fr (Vq S Hj rfl rfl rfl fun a S=>Va S rfl rfl fun a S=>Dl ?_))
      obtain ⟨j4,hj4,h⟩:=Eo h
      refine Dy (fun a w'=>∃ x4 : List (ByteArray × An),∃ bs4 : List Nat,∃ ck4 : Nat,j4 x4 = some r ∧ Qf x4.length bs4 ck4 ∧ Sx w [] nov [.blk b3 (An.enc y1) 93,.map b1 (Hf Value.string (fun x=>Value.agg (An.enc x).toArray) x4 bs4) ck4] [(1,sV Aw),(5,.map (some b1)),(15,Ay),(16,iV (Bf.length : Int)),(17,iV (i1 : Int))] 52 a w') ?_ ?_
      ·refine Fc h (S.tm rfl) (fun hb2 h=>?_) (fun hb2 h=>?_)
       ·refine Fg (Vm S rfl rfl fun a S=>Vf Nx S rfl rfl fun a S=>Vl isAgg9 0 S rfl rfl rfl rfl fun a S=>lv S (Fb isAgg93 sizeOf93 (off:=0) (o:=0) (part:=(An.enc y1)) rfl rfl (S.tm rfl) (S.cellsAt (i:=0) rfl)) rfl fun a S=>FI (kv:=Value.string) (vv:=(fun x=>Value.agg (An.enc x).toArray)) (m:=x1) (key:=y1.Who) (val:=y1) S (i:=1) rfl hB1 underlying147 (Oz underlying9) (S.tm rfl) (S.tm rfl) (S.tm rfl) ?_);clear S;intro w9 bs5 ck5 hB5 hk4 S
        exact Dl (⟨(Fz x1 y1.Who y1),bs5,ck5,h,hB5,S.nf [true,true] rfl (subR rfl)⟩)
       ·refine Fr (Vq S Hj rfl rfl rfl fun a S=>Va S rfl rfl fun a S=>Dl ?_)
        obtain ⟨j5,hj5,h⟩:=Eo h
        refine Dy (fun a w'=>∃ x5 : List (ByteArray × An),∃ bs6 : List Nat,∃ ck6 : Nat,j5 x5 = some r ∧ Qf x5.length bs6 ck6 ∧ Sx w [] nov [.blk b3 (An.enc y1) 93,.map b1 (Hf Value.string (fun x=>Value.agg (An.enc x).toArray) x5 bs6) ck6] [(1,sV Aw),(5,.map (some b1)),(15,Ay),(16,iV (Bf.length : Int)),(17,iV (i1 : Int))] 52 a w') ?_ ?_
        ·refine Fc h (S.tm rfl) (fun hb3 h=>?_) (fun hb3 h=>?_)
         ·refine Fg (Vm S rfl rfl fun a S=>Vf Nx S rfl rfl fun a S=>Vl isAgg9 0 S rfl rfl rfl rfl fun a S=>KD (kv:=Value.string) (vv:=(fun x=>Value.agg (An.enc x).toArray)) (m:=x1) (key:=y1.Who) S (i:=1) rfl hB1 rfl underlying147 (Oz underlying9) (S.tm rfl) (S.tm rfl) ?_);clear S;intro w11 bs7 ck7 hB7 hk5 S
          exact Dl (⟨(Wj x1 y1.Who),bs7,ck7,h,hB7,S.nf [true,true] rfl (subR rfl)⟩)
         ·exact wp_skip (Tn (⟨x1,bs1,ck1,h,hB1,S.nf [true,true] rfl (subR rfl)⟩))
        clear S h;rintro a w10 ⟨x5,bs6,ck6,h,hB6,S⟩;rw [hj5] at h;clear hj5 j5
        exact Tn (⟨x5,bs6,ck6,h,hB6,S.nf [true,true] rfl (subR rfl)⟩)
      clear S h;rintro a w8 ⟨x4,bs4,ck4,h,hB4,S⟩;rw [hj4] at h;clear hj4 j4
      exact Gy (Tn (⟨x4,bs4,ck4,h,hB4,S.nf [true,true] rfl (subR rfl)⟩))
     clear S h;rintro a w7 ⟨x3,bs3,ck3,h,hB3,S⟩;rw [hj3] at h;clear hj3 j3
     exact Gy (Tn (⟨x3,bs3,ck3,h,hB3,S.nf [false,true] rfl (subR rfl)⟩))
   clear S h;rintro a w4 ⟨x2,bs2,ck2,h,hB2,S⟩;rw [hj2] at h;clear hj2 j2
   exact Tn (Fg (Vq S Fa rfl rfl rfl fun a S=>Vm S rfl rfl fun a S=>Dl (⟨ys1,⟨i1 + 1,x2,bs2,ck2,⟨_,(hd1).trans (List.append_cons _ _ _),by simp [hi1]⟩,h,hB2,S.nf [true] rfl ⟨rfl,rfl,rfl,rfl,(congrArg (fun z=>some (Value.int .i64 z)) (Jb hd1 hi1 (Jy Bo))),trivial⟩⟩,Nat.lt_succ_self _⟩)))
 clear S h;rintro a w3 ⟨x1,bs1,ck1,h,hB1,S⟩;rw [hj1] at h;clear hj1 j1
 refine Tn (Fr (Vk S rfl rfl ?_));clear S;intro a S
 replace S:=S.nil 93 11
 refine Dl (Fs (Fr (Vm S rfl rfl fun a S=>l_range (es:=Hf Value.string (fun x=>Value.agg (An.enc x).toArray) x1 bs1) (clk:=ck1) S (S.map_at (i:=1) rfl) underlying147 (S.tm rfl) rfl ?_)));clear S;intro a w12 b4 hz3 hk6 S
 refine Dl ?_
 replace S:=(S.nl [.iter b4 b1 ck1 #[] ck1,.own (.slice none 0 0) 93 11 ([] : List An).length (([] : List An).flatMap An.enc),.map b1 (Hf Value.string (fun x=>Value.agg (An.enc x).toArray) x1 bs1) ck1] [true,true,true] rfl).k2 8 40 rfl
 obtain ⟨j6,hj6,h⟩:=Eo h
 replace h:=allE h
 refine Dy (fun a w'=>∃ x6 : List An,∃ v1 : Value,j6 x6 = some r ∧ Sx w [] nov [.own v1 93 11 x6.length (x6.flatMap An.enc),.map b1 (Hf Value.string (fun x=>Value.agg (An.enc x).toArray) x1 bs1) ck1] [(8,v1)] 52 a w') ?_ ?_
 ·refine wp_block (Gs (fun (q : List (ByteArray × An)) a w'=>∃ x6 : List An,∃ v1 : Value,∃ sn1 : Array Nat,Yn x1 bs1 sn1 = q ∧ (∀ p,p.Perm q → Jo j6 p x6 = some r) ∧ Sx w [] nov [.iter b4 b1 ck1 sn1 ck1,.own v1 93 11 x6.length (x6.flatMap An.enc),.map b1 (Hf Value.string (fun x=>Value.agg (An.enc x).toArray) x1 bs1) ck1] [(8,v1),(40,.pointer (some ⟨b4,0,none⟩))] 52 a w') List.length x1 ⟨([] : List An),(.slice none 0 0),#[],(leftB_0 hB1),h,S.nf [true,true,true] rfl (subR rfl)⟩ ?_)
  clear S h;rintro q a w13 ⟨x6,v1,sn1,hq,h,S⟩
  refine Fr (l_nextB (kv:=Value.string) (vv:=(fun x=>Value.agg (An.enc x).toArray)) (m:=x1) S (i:=0) rfl (S.map_at (i:=2) rfl) hB1 (S.tm rfl) rfl ?_ ?_)
  ·intro hn1;clear S;intro a S
   replace h:=LA h (hq.symm.trans hn1)
   rw [Jo.eq_1] at h
   refine Vq S Gq rfl rfl rfl fun a S=>Ld ?_
   replace S:=S.k3 8 40 42 rfl
   exact Tn (Fs (wp_cond_false (S.tm rfl) (wp_exit (Dt (Dt (Gh (Tn (⟨x6,v1,h,S.nf [false,true,true] rfl ⟨rfl,trivial⟩⟩))))))))
  ·clear S;intro y2 sn2 a w15 hp1 hl1 hk7 S
   obtain ⟨sq1,h,hn2⟩:=JW h (by rw [← hq];exact hp1) (fun _=>rfl)
   refine Vq S Gq rfl rfl rfl fun a S=>Ld ?_
   replace S:=(S.nl [.iter b4 b1 ck1 sn2 ck1,.own v1 93 11 x6.length (x6.flatMap An.enc),.map b1 (Hf Value.string (fun x=>Value.agg (An.enc x).toArray) x1 bs1) ck1] [true,true,true] rfl).k3 8 40 42 rfl
   refine Tn (Fs (wp_cond_true (S.tm rfl) (wp_skip (Tn (wp_block (Fr (lv S (KE (kv:=Value.string) (vv:=(fun x=>Value.agg (An.enc x).toArray)) (m:=x1) (e:=y2) (S.holds _ (List.mem_of_getElem? (i:=0) rfl)) (S.map_at (i:=2) rfl) hB1 hl1 (S.tm rfl)) rfl fun a S=>Vq S Gq rfl rfl rfl fun a S=>Ic S zeroValue93 (cs:=[sV Cx,iV 0,iV 0,iV 0,sV Cx,sV Cx,sV Cx,iV 0,iV 0,sV Cx,iV 0]) rfl rfl ?_)))))));clear S;intro a w16 b5 hz4 hk8 S
   refine Ep S (S.tm rfl) (S.tm rfl) (i:=0) (off:=0) rfl sizeOf93 (vs:=(An.enc y2.2)) rfl rfl rfl rfl ?_;clear S;intro w17 hk9 S
   refine Dl (Fg (Vm S rfl rfl fun a S=>lv S (Fb isAgg93 sizeOf93 (off:=0) (o:=0) (part:=(An.enc y2.2)) rfl rfl (S.tm rfl) (S.cellsAt (i:=0) rfl)) rfl fun a S=>Dv S underlying34 sizeOf93 zeroValue93 rfl rfl (pv:=[(0,.agg (An.enc y2.2).toArray)]) ⟨rfl,(S.tm rfl),trivial⟩ (cs:=[sV y2.2.Site,iV y2.2.No,iV y2.2.At,iV y2.2.Kind,sV y2.2.Who,sV y2.2.Club,sV y2.2.Race,iV y2.2.Time,iV y2.2.Fault,sV y2.2.Of,iV y2.2.Other]) (by kernel_rfl) rfl ?_));clear S;intro a w18 b6 hz5 hk10 S
   obtain ⟨hc1,h⟩:=Gu h
   refine Lq Ll An.enc_ok S (S.tm rfl) (i:=3) rfl (S.tm rfl) (j:=0) rfl (ys:=[y2.2]) rfl rfl rfl rfl (by have:=Nm hc1;omega) rfl ?_;clear S;intro v2 a w19 hk11 S
   refine Va S rfl rfl fun a S=>Ld (Gy (Tn ?_))
   obtain rfl:=Option.some.inj h
   exact ⟨Yn x1 bs1 sn2,⟨(x6 ++ [y2.2]),v2,sn2,rfl,hn2,S.nf [false,false,true,true,true] rfl (subR rfl)⟩,by have:=hp1.length_eq;rw [hq] at this;simp only [List.length_cons] at this;omega⟩
 clear S h;rintro a w14 ⟨x6,v1,h,S⟩;rw [hj6] at h;clear hj6 j6
 refine Tn (Fr (Vm S rfl rfl ?_));clear S;intro a S
 obtain ⟨r1,hr2,h⟩:=Ej h
 refine Km 0 S rfl (fun _=>.own v1 93 11 r1.length (r1.flatMap An.enc)) (fun _=>Cz (vs:=[v1,.func (.func 95) #[] #[]]) ⟨(S.tm rfl),rfl,trivial⟩ call94) (Pk _ v1 x6 (S.holds _ (List.mem_of_getElem? (i:=0) rfl)) _ hr2) rfl (fun _ _ _ h=>⟨h.1,fun _ hc=>hc⟩) ?_;clear S;intro v3 a w20 hv1 hk12 hn3 S
 replace hv1:=hv1.2
 subst hv1
 refine Dz (Vm S rfl rfl fun a S=>Va S rfl rfl fun a S=>Dl (wp_ret ?_))
 obtain rfl:=Option.some.inj h
 exact Ds S results54 rfl (Rg S (i:=0) rfl rfl)
theorem DK (w : World) (O : Nat) (Ax : Ln) (Bx : R32) (Cf : Ru (view w []) Ax Bx) (Ay : Value) (Bf : List An) (Bo : Slc (view w []) 11 Ay (Bf.map An.enc)) (Ar : (view w []) O = some (.cells (R32.enc Bx ++ [Ay]).toArray 139 (0,0))) (Bj : ByteArray) (r : Dg × Int) (h : Tv Ax Bf Bj = some r) :
    Calls prog 51 [.pointer (some ⟨O,0,none⟩),sV Bj].toArray w (Ret w [] fun _ v _=>v = .tuple #[.agg (Dg.enc r.1).toArray,iV r.2]):=by
 obtain ⟨u1,u2,rfl,hs1,⟨u3,rfl,hs2⟩⟩:=Cf
 replace Ar : (view w []) O = some (.cells [u1.val,u3.val,iV Ax.Table.Relay,iV Ax.Table.Most,iV Ax.Final.Size,iV Ax.Final.Many,iV Ax.Final.Reserves,Ay].toArray 139 (0,0)):=Ar
 refine Fe func51 rfl ntmps51 rfl fun a S=>?_
 unfold Tv at h
 replace S:=S.k2 0 1 rfl
 refine Fr (Ks S (S.tm rfl) (cs:=[sV Bj]) rfl rfl ?_);clear S;intro a w1 b1 hz1 hk1 S
 refine Ic S zeroValue40 (cs:=[sV Cx,iV 0,iV 0,iV 0,iV 0,iV 0,iV 0,iV 0]) rfl rfl ?_;clear S;intro a w2 b2 hz2 hk2 S
 refine Vk S rfl rfl fun a S=>Dz (Vm S rfl rfl fun a S=>Vu S Kj rfl rfl fun a S=>Vf GQ S rfl rfl fun a S=>Vf Vz S rfl rfl fun a S=>lv S (Gj isAgg26 (off:=0) (o:=0) (S.tm rfl) ((Ue Ar).at S.emb0) rfl) rfl fun a S=>lv S (Uc (us:=#[]) (xs:=[].toArray) (ys:=[.tmp 3].toArray) (by simp) (evA ⟨(S.tm rfl),trivial⟩ (vs:=[.pointer (some ⟨b1,0,none⟩)]))) rfl ?_);clear S;intro a S
 refine Dd S (fun _=>Cz (vs:=[u1.val,.func (.func 88) #[] #[.pointer (some ⟨b1,0,none⟩)]]) ⟨(S.tm rfl),(S.tm rfl),trivial⟩ call85) (Pw _ u1.val Ax.Races (hs1.mono (S.le_arg Ey)) b1 Bj (S.blk_view (i:=1) rfl ((Gt (e':=.blk b1 [sV Bj] 9)) _ rfl)) _ rfl) rfl ?_;clear S;intro v1 a w3 hv1 hk3 hn1 S
 subst hv1
 refine Va S rfl rfl fun a S=>Dl (Fs (Fr (Vm S rfl rfl fun a S=>Vq S Ev rfl rfl rfl fun a S=>Ld ?_)))
 replace S:=(S.nl [.blk b2 (Dg.enc (Dg.mk Cx 0 0 0 0 0 0 0)) 40,.blk b1 [sV Bj] 9] [true,true] rfl).k5 0 3 4 6 15 rfl
 refine Tn (Fc h (S.tm rfl) (fun hb1 h=>?_) (fun hb1 h=>?_))
 ·refine Fr (lv S (Mw JB (pv:=[]) trivial (cs:=[sV Cx,iV 0,iV 0,iV 0,iV 0,iV 0,iV 0,iV 0]) (by kernel_rfl)) rfl fun a S=>Ep S (S.tm rfl) (S.tm rfl) (i:=0) (off:=0) rfl sizeOf40 (vs:=(Dg.enc (Dg.mk Cx 0 0 0 0 0 0 0))) rfl rfl rfl rfl ?_);clear S;intro w4 hk4 S
  refine Vk S rfl rfl fun a S=>Dl (wp_ret (Db ?_))
  obtain rfl:=Option.some.inj h
  exact Vt S (rs:=[.cell 4 40,.tmp 5]) (vs:=[.agg (Dg.enc (Dg.mk Cx 0 0 0 0 0 0 0)).toArray,iV 8]) results51 ⟨(Ri (off:=0) S rfl isAgg40 sizeOf40 rfl (S.cellsAt (i:=0) rfl)),(Vs S rfl),trivial⟩ rfl rfl
 ·refine wp_skip (Tn (Fs (Fr (Vm S rfl rfl fun a S=>Vl isAgg9 1 S rfl rfl rfl rfl ?_))));clear S;intro a S
  obtain ⟨r1,hr1,h⟩:=Ej h
  have hz3:=S.keep.size
  refine Dd S (fun _=>Cz (vs:=[.pointer (some ⟨O,0,none⟩),sV Bj]) ⟨(S.tm rfl),(S.tm rfl),trivial⟩ call54) (Vg _ O Ax (R32.mk u1 (R28.mk u3 Ax.Table.Relay Ax.Table.Most) Ax.Final) ⟨u1,(R28.mk u3 Ax.Table.Relay Ax.Table.Most),rfl,(hs1.mono (S.le_arg Ey)),⟨u3,rfl,(hs2.mono (S.le_arg Ey))⟩⟩ Ay Bf (Bo.mono (S.le_arg Ey)) ((S.le_arg Ey) _ _ Ar) Bj _ hr1) rfl ?_;clear S;intro v2 a w5 hv2 hk5 hn2 S
  obtain ⟨φ1,hl1,hm1,S⟩:=S.see' hn2 hz3
  have hs3:=hv2.mono hm1
  refine lv S (Fi Ll (S.tm rfl) (Fm (Fv An.enc_ok hs3))) rfl fun a S=>Vq S It rfl rfl rfl fun a S=>Dl (Fc h (S.tm rfl) (fun hb2 h=>?_) (fun hb2 h=>?_))
  ·refine Fr (lv S (Mw JB (pv:=[]) trivial (cs:=[sV Cx,iV 0,iV 0,iV 0,iV 0,iV 0,iV 0,iV 0]) (by kernel_rfl)) rfl fun a S=>Ep S (S.tm rfl) (S.tm rfl) (i:=0) (off:=0) rfl sizeOf40 (vs:=(Dg.enc (Dg.mk Cx 0 0 0 0 0 0 0))) rfl rfl rfl rfl ?_);clear S;intro w6 hk6 S
   refine Vk S rfl rfl fun a S=>Dl (wp_ret (Db ?_))
   obtain rfl:=Option.some.inj h
   exact Vt S (rs:=[.cell 4 40,.tmp 5]) (vs:=[.agg (Dg.enc (Dg.mk Cx 0 0 0 0 0 0 0)).toArray,iV 2]) results51 ⟨(Ri (off:=0) S rfl isAgg40 sizeOf40 rfl (S.cellsAt (i:=0) rfl)),(Vs S rfl),trivial⟩ rfl rfl
  ·refine wp_skip (Tn (Fr (Vm S rfl rfl fun a S=>Vu S Kj rfl rfl fun a S=>Vf GQ S rfl rfl fun a S=>Vf Vz S rfl rfl fun a S=>lv S (Gj isAgg26 (off:=0) (o:=0) (S.tm rfl) ((Ue Ar).at S.emb0) rfl) rfl fun a S=>Vm S rfl rfl ?_)));clear S;intro a S
   obtain ⟨hc1,h⟩:=Gu h
   obtain ⟨b3,o1,hm2,hr2⟩:=Fu (a:=a) (x:=.tmp 27) (y:=.tmp 28) (ty:=0) Sw hs1 (Dc hc1).1 (Dc hc1).2 (S.tm rfl) (S.tm rfl)
   refine lv S (hr2 _) rfl ?_;clear S;intro a S
   clear hr2
   refine lv S (Fb isAgg40 sizeOf40 (off:=o1) (o:=0) (part:=(Dg.enc (nth Ax.Races (Es Ax.Races Bj)))) rfl rfl (S.tm rfl) (hm2.at S.emb0)) rfl fun a S=>Ep S (S.tm rfl) (S.tm rfl) (i:=0) (off:=0) rfl sizeOf40 (vs:=(Dg.enc (nth Ax.Races (Es Ax.Races Bj)))) rfl rfl rfl rfl ?_;clear S;intro w7 hk7 S
   refine Vk S rfl rfl fun a S=>Ld ?_
   replace S:=(S.nl [.blk b2 (Dg.enc (nth Ax.Races (Es Ax.Races Bj))) 40] [true,false] rfl).k2 4 5 rfl
   refine Tn (wp_ret ?_)
   obtain rfl:=Option.some.inj h
   exact Vt S (rs:=[.cell 4 40,.tmp 5]) (vs:=[.agg (Dg.enc (nth Ax.Races (Es Ax.Races Bj))).toArray,iV 0]) results51 ⟨(Ri (off:=0) S rfl isAgg40 sizeOf40 rfl (S.cellsAt (i:=0) rfl)),(Vs S rfl),trivial⟩ rfl rfl
set_option maxRecDepth 20000 in
theorem GU (w : World) (ψ : View) (hψ : View.le ψ (view w [])) (Aa : Ln) (Bu : R32) (Bz : Ru ψ Aa Bu) (Ac : Value) (Ae : List An) (Ah : Slc ψ 11 Ac (Ae.map An.enc)) (Aw : ByteArray) (Bd : Int) (r : (Option Ie) × Dg × Int) (h : Wv Aa Ae Aw Bd = some r) :
    Calls prog 21 [.agg (R32.enc Bu).toArray,Ac,sV Aw,iV Bd].toArray w (Ret w [] fun τ v _=>∃ u1 : Value,v = .tuple #[u1,.agg (Dg.enc r.2.1).toArray,iV r.2.2] ∧ Yf (join ψ τ) 139 Zt.enc Vy u1 r.1):=by
 obtain ⟨u1,u2,rfl,hs1,⟨u3,rfl,hs2⟩⟩:=Bz
 refine Fe func21 rfl ntmps21 rfl fun a S=>?_
 unfold Wv at h
 replace S:=S.k4 0 1 2 3 rfl
 refine Fr (Ks S (S.tm rfl) (cs:=[u1.val,u3.val,iV Aa.Table.Relay,iV Aa.Table.Most,iV Aa.Final.Size,iV Aa.Final.Many,iV Aa.Final.Reserves]) rfl rfl ?_);clear S;intro a w1 b1 hz1 hk1 S
 refine Vk S rfl rfl fun a S=>Ic S zeroValue40 (cs:=[sV Cx,iV 0,iV 0,iV 0,iV 0,iV 0,iV 0,iV 0]) rfl rfl ?_;clear S;intro a w2 b2 hz2 hk2 S
 refine Vk S rfl rfl fun a S=>Dz (lv S (Fb isAgg32 sizeOf32 (off:=0) (o:=0) (part:=[u1.val,u3.val,iV Aa.Table.Relay,iV Aa.Table.Most,iV Aa.Final.Size,iV Aa.Final.Many,iV Aa.Final.Reserves]) rfl rfl (S.tm rfl) (S.cellsAt (i:=1) rfl)) rfl fun a S=>Vm S rfl rfl fun a S=>Vm S rfl rfl fun a S=>Dv S underlying22 sizeOf3 zeroValue3 rfl rfl (pv:=[(0,iV Bd)]) ⟨rfl,(S.tm rfl),trivial⟩ (cs:=[iV Bd]) (by kernel_rfl) rfl ?_);clear S;intro a w3 b3 hz3 hk3 S
 replace S:=S.litOwn (i:=0) (xs:=[Bd]) rfl Fd rfl rfl rfl
 replace S:=S.nk [.own (.slice (some ⟨b3,0,none⟩) 1 1) 3 1 ([Bd] : List Int).length (([Bd] : List Int).flatMap eInt),.blk b2 (Dg.enc (Dg.mk Cx 0 0 0 0 0 0 0)) 40,.blk b1 [u1.val,u3.val,iV Aa.Table.Relay,iV Aa.Table.Most,iV Aa.Final.Size,iV Aa.Final.Many,iV Aa.Final.Reserves] 32] [(0,.agg #[u1.val,u3.val,iV Aa.Table.Relay,iV Aa.Table.Most,iV Aa.Final.Size,iV Aa.Final.Many,iV Aa.Final.Reserves]),(1,Ac),(2,sV Aw),(3,iV Bd),(4,.pointer (some ⟨b1,0,none⟩)),(8,.pointer none),(9,.pointer (some ⟨b2,0,none⟩)),(10,iV 0),(15,.agg #[u1.val,u3.val,iV Aa.Table.Relay,iV Aa.Table.Most,iV Aa.Final.Size,iV Aa.Final.Many,iV Aa.Final.Reserves]),(16,Ac),(17,iV Bd),(18,(.slice (some ⟨b3,0,none⟩) 1 1))] [] rfl (subR rfl)
 obtain ⟨φ1,hl1,hs3,S⟩:=S.freezeT (xs:=([Bd] : List Int)) (enc:=eInt) (i:=0) rfl (fun _ h=>by cases h)
 replace S:=S.nk [.blk b2 (Dg.enc (Dg.mk Cx 0 0 0 0 0 0 0)) 40,.blk b1 [u1.val,u3.val,iV Aa.Table.Relay,iV Aa.Table.Most,iV Aa.Final.Size,iV Aa.Final.Many,iV Aa.Final.Reserves] 32] [(0,.agg #[u1.val,u3.val,iV Aa.Table.Relay,iV Aa.Table.Most,iV Aa.Final.Size,iV Aa.Final.Many,iV Aa.Final.Reserves]),(1,Ac),(2,sV Aw),(3,iV Bd),(4,.pointer (some ⟨b1,0,none⟩)),(8,.pointer none),(9,.pointer (some ⟨b2,0,none⟩)),(10,iV 0),(15,.agg #[u1.val,u3.val,iV Aa.Table.Relay,iV Aa.Table.Most,iV Aa.Final.Size,iV Aa.Final.Many,iV Aa.Final.Reserves]),(16,Ac),(17,iV Bd),(18,(.slice (some ⟨b3,0,none⟩) 1 1))] [] rfl (subR rfl)
 obtain ⟨r1,hr1,h⟩:=Ej h
 have hz4:=S.keep.size
 refine Dd S (fun _=>Cz (vs:=[.agg (R32.enc (R32.mk u1 (R28.mk u3 Aa.Table.Relay Aa.Table.Most) Aa.Final)).toArray,Ac,(.slice (some ⟨b3,0,none⟩) 1 1)]) ⟨(S.tm rfl),(S.tm rfl),(S.tm rfl),trivial⟩ call50) (FV _ (join ψ φ1) (Rl (View.le_trans hψ (S.le_arg Ey)) (S.le_new Ey)) Aa (R32.mk u1 (R28.mk u3 Aa.Table.Relay Aa.Table.Most) Aa.Final) ⟨u1,(R28.mk u3 Aa.Table.Relay Aa.Table.Most),rfl,(hs1.mono (le_join_left _ _)),⟨u3,rfl,(hs2.mono (le_join_left _ _))⟩⟩ Ac Ae (Ah.mono (le_join_left _ _)) (.slice (some ⟨b3,0,none⟩) 1 1) ([Bd] : List Int) ((Fv Fd hs3).mono (S.all_right hψ)) _ hr1) rfl ?_;clear S;intro v1 a w4 hv1 hk4 hn1 S
 obtain ⟨u4,rfl,ho1⟩:=hv1
 obtain ⟨φ2,hl2,hm1,S⟩:=S.see' hn1 hz4
 have hq1:=Yf.mono (Ow (Uw hl2 hm1)) (Uw hl2 hm1) ho1
 refine Vm S rfl rfl fun a S=>Vq S Gq rfl rfl rfl fun a S=>Vq S Gq rfl rfl rfl fun a S=>Va S rfl rfl fun a S=>Va S rfl rfl fun a S=>Ld ?_
 replace S:=(S.nl [.blk b2 (Dg.enc (Dg.mk Cx 0 0 0 0 0 0 0)) 40] [true,false] rfl).k4 2 9 11 12 rfl
 refine Tn (Fs (Fr (Vm S rfl rfl fun a S=>Vq S Kg rfl rfl rfl fun a S=>Dl (Fc h (S.tm rfl) (fun hb1 h=>?_) (fun hb1 h=>?_)))))
 ·refine Fr (lv S (Mw JB (pv:=[]) trivial (cs:=[sV Cx,iV 0,iV 0,iV 0,iV 0,iV 0,iV 0,iV 0]) (by kernel_rfl)) rfl fun a S=>Vm S rfl rfl fun a S=>Vk S rfl rfl fun a S=>Ep S (S.tm rfl) (S.tm rfl) (i:=0) (off:=0) rfl sizeOf40 (vs:=(Dg.enc (Dg.mk Cx 0 0 0 0 0 0 0))) rfl rfl rfl rfl ?_);clear S;intro w5 hk5 S
  refine Va S rfl rfl fun a S=>Dl (wp_ret (Db ?_))
  obtain rfl:=Option.some.inj h
  exact Vt S (rs:=[.tmp 8,.cell 9 40,.tmp 10]) (vs:=[.pointer none,.agg (Dg.enc (Dg.mk Cx 0 0 0 0 0 0 0)).toArray,iV r1.2]) results21 ⟨(Vs S rfl),(Ri (off:=0) S rfl isAgg40 sizeOf40 rfl (S.cellsAt (i:=0) rfl)),(Vs S rfl),trivial⟩ rfl ⟨_,rfl,rfl⟩
 ·refine wp_skip (Tn (Fr (Vm S rfl rfl fun a S=>Vm S rfl rfl ?_)));clear S;intro a S
  obtain ⟨r2,hr2,h⟩:=Ej h
  obtain ⟨b4,q1,rfl,hq2,hb2⟩:=hq1.deref hr2
  obtain ⟨u5,u9,rfl,⟨u6,u7,rfl,hs4,⟨u8,rfl,hs5⟩⟩,hs6⟩:=hq2
  replace hb2 : (join ψ φ2) b4 = some (.cells [u6.val,u8.val,iV r2.p_.Table.Relay,iV r2.p_.Table.Most,iV r2.p_.Final.Size,iV r2.p_.Final.Many,iV r2.p_.Final.Reserves,u9.val].toArray 139 (0,0)):=hb2
  obtain ⟨r3,hr3,h⟩:=Ej h
  refine Dd S (fun _=>Cz (vs:=[.pointer (some ⟨b4,0,none⟩),sV Aw]) ⟨(S.tm rfl),(S.tm rfl),trivial⟩ call51) (DK _ b4 r2.p_ (R32.mk u6 (R28.mk u8 r2.p_.Table.Relay r2.p_.Table.Most) r2.p_.Final) ⟨u6,(R28.mk u8 r2.p_.Table.Relay r2.p_.Table.Most),rfl,(hs4.mono (Rl (View.le_trans hψ (S.le_arg Ey)) (S.le_new Ey))),⟨u8,rfl,(hs5.mono (Rl (View.le_trans hψ (S.le_arg Ey)) (S.le_new Ey)))⟩⟩ u9.val r2.deeds_ (hs6.mono (Rl (View.le_trans hψ (S.le_arg Ey)) (S.le_new Ey))) ((Rl (View.le_trans hψ (S.le_arg Ey)) (S.le_new Ey)) _ _ hb2) Aw _ hr3) rfl ?_;clear S;intro v2 a w6 hv2 hk6 hn2 S
  subst hv2
  refine Vm S rfl rfl fun a S=>Vq S Gq rfl rfl rfl fun a S=>Vq S Gq rfl rfl rfl fun a S=>Ic S zeroValue40 (cs:=[sV Cx,iV 0,iV 0,iV 0,iV 0,iV 0,iV 0,iV 0]) rfl rfl ?_;clear S;intro a w7 b5 hz5 hk7 S
  refine Ep S (S.tm rfl) (S.tm rfl) (i:=0) (off:=0) rfl sizeOf40 (vs:=(Dg.enc r3.1)) rfl rfl rfl rfl ?_;clear S;intro w8 hk8 S
  refine Va S rfl rfl fun a S=>Dl (Fs (Fo [] ([b2]) Tryz.mixed S rfl (by kernel_rfl) ?_));clear S;intro w10 hk10 hsel S
  refine De 0 S hsel rfl rfl rfl (by kernel_rfl) (by kernel_rfl) rfl (fun _ hw=>(Rm (S.tm rfl))) fun a S=>De 1 S hsel rfl rfl rfl (by kernel_rfl) (by kernel_rfl) rfl (fun _ hw=>(Fb isAgg40 sizeOf40 (off:=0) (o:=0) (part:=(Dg.enc r3.1)) rfl rfl (S.tm rfl) ((S.blk_mem (i:=0) (cells:=(Dg.enc r3.1)) (b:=b5) (T:=40) rfl (Jl (i:=1) (j:=0) (e:=.blk b2 (Dg.enc (Dg.mk Cx 0 0 0 0 0 0 0)) 40) (e':=.blk b5 (Dg.enc r3.1) 40) S rfl rfl rfl)).kept hw))) fun a S=>De 2 S hsel rfl rfl rfl (by kernel_rfl) (by kernel_rfl) rfl (fun _ hw=>(Rm (S.tm rfl))) fun a S=>De 3 S hsel rfl rfl rfl (by kernel_rfl) (by kernel_rfl) rfl (fun _ hw=>(Ra (S.tm rfl))) fun a S=>Ff 4 (by kernel_rfl) rfl (Ep S (S.tm rfl) (S.tm rfl) (i:=1) (off:=0) rfl sizeOf40 (vs:=(Dg.enc r3.1)) rfl rfl rfl rfl ?_);clear S;intro w11 hk11 S
  refine Ld (Gl hk11 (Js [5] hsel (by kernel_rfl) rfl ?_))
  clear hsel
  refine Fj S rfl (Ra (S.tm rfl)) rfl fun a S=>Jc ?_
  replace S:=(S.nl [.blk b2 (Dg.enc r3.1) 40] [false,true] rfl).k3 8 9 10 rfl
  refine Tn (wp_ret ?_)
  obtain rfl:=Option.some.inj h
  exact Vt S (rs:=[.tmp 8,.cell 9 40,.tmp 10]) (vs:=[.pointer (some ⟨b4,0,none⟩),.agg (Dg.enc r3.1).toArray,iV r3.2]) results21 ⟨(Vs S rfl),(Ri (off:=0) S rfl isAgg40 sizeOf40 rfl (S.cellsAt (i:=0) rfl)),(Vs S rfl),trivial⟩ rfl ⟨_,rfl,(Yf.mk (Zt.mk (R32.mk u6 (R28.mk u8 r2.p_.Table.Relay r2.p_.Table.Most) r2.p_.Final) u9) (Ow (Xv hψ S.le_newer) _ _ ⟨(R32.mk u6 (R28.mk u8 r2.p_.Table.Relay r2.p_.Table.Most) r2.p_.Final),u9,rfl,⟨u6,(R28.mk u8 r2.p_.Table.Relay r2.p_.Table.Most),rfl,hs4,⟨u8,rfl,hs5⟩⟩,hs6⟩) ((Xv hψ S.le_newer) _ _ hb2))⟩
theorem CP (w : World) (O : Nat) (Ax : Ln) (Bx : R32) (Cf : Ru (view w []) Ax Bx) (Ay : Value) (Bf : List An) (Bo : Slc (view w []) 11 Ay (Bf.map An.enc)) (Ar : (view w []) O = some (.cells (R32.enc Bx ++ [Ay]).toArray 139 (0,0))) (Aw : ByteArray) (r : (List Dh)) (h : Su Ax Bf Aw = some r) :
    Calls prog 23 [.pointer (some ⟨O,0,none⟩),sV Aw].toArray w (Ret w [] fun τ v _=>Pq τ 113 2 v r.length (r.flatMap Dh.enc)):=by
 obtain ⟨u1,u2,rfl,hs1,⟨u3,rfl,hs2⟩⟩:=Cf
 replace Ar : (view w []) O = some (.cells [u1.val,u3.val,iV Ax.Table.Relay,iV Ax.Table.Most,iV Ax.Final.Size,iV Ax.Final.Many,iV Ax.Final.Reserves,Ay].toArray 139 (0,0)):=Ar
 refine Fe func23 rfl ntmps23 rfl fun a S=>?_
 unfold Su at h
 replace S:=S.k2 0 1 rfl
 refine Fr (Vk S rfl rfl fun a S=>Dz (Vk S rfl rfl ?_));clear S;intro a S
 replace S:=S.nil 113 2
 refine Dl (Fs (Fr (Vm S rfl rfl fun a S=>Vm S rfl rfl ?_)));clear S;intro a S
 obtain ⟨r1,hr1,h⟩:=Ej h
 have hz1:=S.keep.size
 refine Dd S (fun _=>Cz (vs:=[.pointer (some ⟨O,0,none⟩),sV Aw]) ⟨(S.tm rfl),(S.tm rfl),trivial⟩ call54) (Vg _ O Ax (R32.mk u1 (R28.mk u3 Ax.Table.Relay Ax.Table.Most) Ax.Final) ⟨u1,(R28.mk u3 Ax.Table.Relay Ax.Table.Most),rfl,(hs1.mono (S.le_arg Ey)),⟨u3,rfl,(hs2.mono (S.le_arg Ey))⟩⟩ Ay Bf (Bo.mono (S.le_arg Ey)) ((S.le_arg Ey) _ _ Ar) Aw _ hr1) rfl ?_;clear S;intro v1 a w1 hv1 hk1 hn1 S
 obtain ⟨φ1,hl1,hm1,S⟩:=S.see' hn1 hz1
 have hs3:=hv1.mono hm1
 refine lv S (Fi Ll (S.tm rfl) (Fm (Fv An.enc_ok hs3))) rfl fun a S=>lv S (Rm rfl) rfl fun a S=>Dl ?_
 replace S:=(S.nl [.own (.slice none 0 0) 113 2 ([] : List Dh).length (([] : List Dh).flatMap Dh.enc)] [true] rfl).k4 5 10 11 12 rfl
 obtain ⟨j1,hj1,h⟩:=Eo h
 refine Dy (fun a w'=>∃ x1 : List Dh,∃ v2 : Value,j1 x1 = some r ∧ Sx w [] φ1 [.own v2 113 2 x1.length (x1.flatMap Dh.enc)] [(5,v2)] 26 a w') ?_ ?_
 ·refine wp_block (Gs (fun (ys1 : List An) a w'=>∃ i1 : Nat,∃ x1 : List Dh,∃ v2 : Value,(∃ dn,r1 = dn ++ ys1 ∧ dn.length = i1) ∧ Kb j1 ys1 i1 x1 = some r ∧ Sx w [] φ1 [.own v2 113 2 x1.length (x1.flatMap Dh.enc)] [(5,v2),(10,v1),(11,iV (r1.length : Int)),(12,iV (i1 : Int))] 26 a w') List.length r1 ⟨0,([] : List Dh),(.slice none 0 0),⟨[],rfl,rfl⟩,h,S.nf [true] rfl (subR rfl)⟩ ?_)
  clear S h;rintro ys1 a w2 ⟨i1,x1,v2,⟨dn,hd1,hi1⟩,h,S⟩
  cases ys1 with
  | nil =>
   rw [Kb.eq_1] at h
   refine Fr (Vb S Ev rfl rfl rfl fun a S=>Ld ?_)
   replace S:=S.k5 5 10 11 12 13 rfl
   exact Tn (Fs (wp_cond_false ((S.tm rfl).trans (congrArg Value.bool (Ke hd1 hi1))) (wp_exit (Dt (Dt (Gh (Tn (⟨x1,v2,h,S.nf [true] rfl ⟨rfl,trivial⟩⟩))))))))
  | cons y1 ys1 =>
   rw [Kb.eq_2] at h
   refine Fr (Vb S Ev rfl rfl rfl fun a S=>Ld ?_)
   replace S:=S.k5 5 10 11 12 13 rfl
   refine Tn (Fs (wp_cond_true ((S.tm rfl).trans (congrArg Value.bool (Ja hd1 hi1))) (wp_skip (Tn (Fs (wp_block (Fs (Fg ?_))))))))
   obtain ⟨b1,o1,hm2,hr2⟩:=Fu (a:=a) (x:=.tmp 10) (y:=.tmp 12) (ty:=0) Ll (Fv An.enc_ok hs3) (Jx hd1 hi1) rfl (S.tm rfl) (S.tm rfl)
   refine lv S (hr2 _) rfl ?_;clear S;intro a S
   clear hr2
   refine lv S (Fb isAgg93 sizeOf93 (off:=o1) (o:=0) (part:=(An.enc y1)) rfl rfl (S.tm rfl) (hm2.at S.emb)) rfl fun a S=>Ic S zeroValue93 (cs:=[sV Cx,iV 0,iV 0,iV 0,sV Cx,sV Cx,sV Cx,iV 0,iV 0,sV Cx,iV 0]) rfl rfl ?_;clear S;intro a w4 b2 hz2 hk2 S
   refine Ep S (S.tm rfl) (S.tm rfl) (i:=0) (off:=0) rfl sizeOf93 (vs:=(An.enc y1)) rfl rfl rfl rfl ?_;clear S;intro w5 hk3 S
   refine Dl (Fg (Vm S rfl rfl fun a S=>Vf Nx S rfl rfl fun a S=>Vl isAgg9 0 S rfl rfl rfl rfl fun a S=>Vf Qs S rfl rfl fun a S=>Vl isAgg3 0 S rfl rfl rfl rfl fun a S=>lv S (Mw bt_113 (pv:=[(0,sV y1.Who),(1,iV y1.Time)]) ⟨rfl,(S.tm rfl),rfl,(S.tm rfl),trivial⟩ (cs:=[sV y1.Who,iV y1.Time]) (by kernel_rfl)) rfl fun a S=>Dv S underlying70 sizeOf113 zeroValue113 rfl rfl (pv:=[(0,.agg #[sV y1.Who,iV y1.Time])]) ⟨rfl,(S.tm rfl),trivial⟩ (cs:=[sV y1.Who,iV y1.Time]) (by kernel_rfl) rfl ?_));clear S;intro a w6 b3 hz3 hk4 S
   obtain ⟨hc1,h⟩:=Gu h
   refine Lq Qk Dh.enc_ok S (S.tm rfl) (i:=2) rfl (S.tm rfl) (j:=0) rfl (ys:=[(Dh.mk y1.Who y1.Time)]) rfl rfl rfl rfl (by have:=Nm hc1;omega) rfl ?_;clear S;intro v3 a w7 hk5 S
   refine Va S rfl rfl fun a S=>Ld ?_
   replace S:=(S.nl [.own v3 113 2 (x1 ++ [(Dh.mk y1.Who y1.Time)]).length ((x1 ++ [(Dh.mk y1.Who y1.Time)]).flatMap Dh.enc)] [false,false,true] rfl).k4 5 10 11 12 rfl
   exact Gy (Tn (Fg (Vq S Fa rfl rfl rfl fun a S=>Vm S rfl rfl fun a S=>Dl (⟨ys1,⟨i1 + 1,(x1 ++ [(Dh.mk y1.Who y1.Time)]),v3,⟨_,(hd1).trans (List.append_cons _ _ _),by simp [hi1]⟩,h,S.nf [true] rfl ⟨rfl,rfl,rfl,(congrArg (fun z=>some (Value.int .i64 z)) (Jb hd1 hi1 (Jy (Fv An.enc_ok hs3)))),trivial⟩⟩,Nat.lt_succ_self _⟩))))
 clear S h;rintro a w3 ⟨x1,v2,h,S⟩;rw [hj1] at h;clear hj1 j1
 refine Tn (Fr (Vm S rfl rfl fun a S=>Va S rfl rfl fun a S=>Dl (wp_ret ?_)))
 obtain rfl:=Option.some.inj h
 exact Ds S results23 rfl (Rg S (i:=0) rfl rfl)
theorem Ze (w : World) (Ac : Value) (Ae : List Dh) (Ah : Slc (view w []) 2 Ac (Ae.map Dh.enc)) (r : Int) (h : Pc Ae = some r) :
    Calls prog 89 [Ac].toArray w (Ret w [] fun _ v _=>v = iV r):=by
 refine Fe func89 rfl ntmps89 rfl fun a S=>?_
 unfold Pc at h
 replace S:=S.k1 0 rfl
 refine Fr (Vk S rfl rfl fun a S=>Dl (Fs (Fr (Vm S rfl rfl fun a S=>lv S (Fi Qk (S.tm rfl) (Fm Ah)) rfl fun a S=>Vq S It rfl rfl rfl ?_))));clear S;intro a S
 refine Dl (Fc h (S.tm rfl) (fun hb1 h=>?_) (fun hb1 h=>?_))
 ·refine Fr (Vk S rfl rfl fun a S=>Dl (wp_ret (Db ?_)))
  obtain rfl:=Option.some.inj h
  exact Ds S results89 rfl rfl
 ·refine wp_skip (Tn (Fr (Tr (κ:=ByteArray) (ν:=Bool) S rfl Value.string Value.bool ?_)));clear S;intro a w1 b1 hz1 hk1 S
  refine Va S rfl rfl fun a S=>Dz (Vk S rfl rfl fun a S=>Dl (Fs (Fs (Fg ?_))))
  refine Vm S rfl rfl fun a S=>lv S (Fi Qk (S.tm rfl) (Fm Ah)) rfl fun a S=>lv S (Rm rfl) rfl fun a S=>Dl ?_
  replace S:=(S.nl [.map b1 (He Value.string Value.bool ([] : List (ByteArray × Bool))) ([] : List (ByteArray × Bool)).length] [true] rfl).k5 3 4 11 12 13 rfl
  obtain ⟨j1,hj1,h⟩:=Eo h
  refine Dy (fun a w'=>∃ x1 : List (ByteArray × Bool),∃ x2 : Bool,j1 x1 x2 = some r ∧ Sx w [] nov [.map b1 (He Value.string Value.bool x1) x1.length] [(4,bV x2)] 37 a w') ?_ ?_
  ·refine wp_block (Gs (fun (ys1 : List Dh) a w'=>∃ i1 : Nat,∃ x1 : List (ByteArray × Bool),∃ x2 : Bool,(∃ dn,Ae = dn ++ ys1 ∧ dn.length = i1) ∧ Iq j1 ys1 i1 x1 x2 = some r ∧ Sx w [] nov [.map b1 (He Value.string Value.bool x1) x1.length] [(3,.map (some b1)),(4,bV x2),(11,Ac),(12,iV (Ae.length : Int)),(13,iV (i1 : Int))] 37 a w') List.length Ae ⟨0,([] : List (ByteArray × Bool)),false,⟨[],rfl,rfl⟩,h,S.nf [true] rfl (subR rfl)⟩ ?_)
   clear S h;rintro ys1 a w2 ⟨i1,x1,x2,⟨dn,hd1,hi1⟩,h,S⟩
   cases ys1 with
   | nil =>
    rw [Iq.eq_1] at h
    refine Fr (Vb S Ev rfl rfl rfl fun a S=>Ld ?_)
    replace S:=S.k6 3 4 11 12 13 14 rfl
    exact Tn (Fs (wp_cond_false ((S.tm rfl).trans (congrArg Value.bool (Ke hd1 hi1))) (wp_exit (Dt (Dt (Gh (Tn (⟨x1,x2,h,S.nf [true] rfl ⟨rfl,trivial⟩⟩))))))))
   | cons y1 ys1 =>
    rw [Iq.eq_2] at h
    refine Fr (Vb S Ev rfl rfl rfl fun a S=>Ld ?_)
    replace S:=S.k6 3 4 11 12 13 14 rfl
    refine Tn (Fs (wp_cond_true ((S.tm rfl).trans (congrArg Value.bool (Ja hd1 hi1))) (wp_skip (Tn (Fs (wp_block (Fs (Fg ?_))))))))
    obtain ⟨b2,o1,hm1,hr1⟩:=Fu (a:=a) (x:=.tmp 11) (y:=.tmp 13) (ty:=0) Qk Ah (Jx hd1 hi1) rfl (S.tm rfl) (S.tm rfl)
    refine lv S (hr1 _) rfl ?_;clear S;intro a S
    clear hr1
    refine lv S (Fb isAgg113 sizeOf113 (off:=o1) (o:=0) (part:=(Dh.enc y1)) rfl rfl (S.tm rfl) (hm1.at S.emb0)) rfl fun a S=>Ic S zeroValue113 (cs:=[sV Cx,iV 0]) rfl rfl ?_;clear S;intro a w4 b3 hz2 hk2 S
    refine Ep S (S.tm rfl) (S.tm rfl) (i:=0) (off:=0) rfl sizeOf113 (vs:=(Dh.enc y1)) rfl rfl rfl rfl ?_;clear S;intro w5 hk3 S
    refine Dl (Fs (Fr (Vf Wy S rfl rfl fun a S=>Vl isAgg9 0 S rfl rfl rfl rfl ?_)));clear S;intro a S
    obtain ⟨r1,hr2,h⟩:=Ej h
    refine Dd S (fun _=>Cz (vs:=[sV y1.Who]) ⟨(S.tm rfl),trivial⟩ call55) (Ko _ y1.Who _ hr2) rfl ?_;clear S;intro v1 a w6 hv1 hk4 hn1 S
    subst hv1
    refine Vu S Gk rfl rfl fun a S=>Dl (Fc h (S.tm rfl) (fun hb2 h=>?_) (fun hb2 h=>?_))
    ·refine Fr (Vk S rfl rfl fun a S=>Dl (wp_ret (Db (Gc (Db (Db (Gc ?_)))))))
     refine Db (Db ?_)
     obtain rfl:=Option.some.inj h
     exact Ds S results89 rfl rfl
    ·refine wp_skip (Tn (Fs (Fr (Vf CL S rfl rfl fun a S=>Vl isAgg3 0 S rfl rfl rfl rfl fun a S=>Dd S (fun _=>Cz (vs:=[iV y1.Time,iV 0,iV 360000]) ⟨(S.tm rfl),rfl,rfl,trivial⟩ call49) (Ed _ y1.Time 0 360000 _ rfl) rfl ?_))));clear S;intro v2 a w7 hv2 hk5 hn2 S
     subst hv2
     refine Vu S Gk rfl rfl fun a S=>Ld ?_
     replace S:=(S.nl [.blk b3 (Dh.enc y1) 113,.map b1 (He Value.string Value.bool x1) x1.length] [true,true] rfl).k7 3 4 6 11 12 13 24 rfl
     refine Tn (Fc h (S.tm rfl) (fun hb3 h=>?_) (fun hb3 h=>?_))
     ·refine Fr (Vk S rfl rfl fun a S=>Dl (wp_ret (Db (Gc (Db (Db (Gc ?_)))))))
      refine Db (Db ?_)
      obtain rfl:=Option.some.inj h
      exact Ds S results89 rfl rfl
     ·refine wp_skip (Tn (Fr (Vm S rfl rfl fun a S=>Vm S rfl rfl fun a S=>Gr 5 (fun a w'=>Keep [] w7 w' ∧ Sx w [] nov [.blk b3 (Dh.enc y1) 113,.map b1 (He Value.string Value.bool x1) x1.length] [(3,.map (some b1)),(6,.pointer (some ⟨b3,0,none⟩)),(11,Ac),(12,iV (Ae.length : Int)),(13,iV (i1 : Int)),(31,bV (x2 || (Ek x1 y1.Who false)))] 37 a w') ?_ ?_)))
      ·rcases Bool.eq_false_or_eq_true x2 with hb4 | hb4
       ·iterate 4 (refine Fy S rfl rfl rfl (Ki hb4) rfl ?_ rfl;clear S;intro a S)
        exact lv S (Iw (Ek x1 y1.Who false) hb4 (S.tm rfl) rfl) rfl fun a S=>Dl (⟨Keep.refl _ _,S.nf [true,true] rfl (subR rfl)⟩)
       ·refine Da S rfl rfl rfl hb4 (Vm S rfl rfl fun a S=>Da S rfl rfl rfl hb4 (Vf Wy S rfl rfl fun a S=>Da S rfl rfl rfl hb4 (Vl isAgg9 0 S rfl rfl rfl rfl fun a S=>Da S rfl rfl rfl hb4 (lv S (Qx (kv:=Value.string) (vv:=Value.bool) (m:=x1) (key:=y1.Who) (z:=false) (S.map_at (i:=1) rfl) underlying73 (Oz underlying9) zeroValue4 (S.tm rfl) (S.tm rfl)) rfl fun a S=>lv S (Ix hb4 (S.tm rfl) (S.tm rfl)) rfl fun a S=>Dl ?_))))
        exact ⟨Keep.refl _ _,S.nf [true,true] rfl (subR rfl)⟩
      clear S;rintro a w8 ⟨hk6,S⟩
      refine Va S rfl rfl fun a S=>Dl (Fg (Vm S rfl rfl fun a S=>Vf Wy S rfl rfl fun a S=>Vl isAgg9 0 S rfl rfl rfl rfl fun a S=>Qy (kv:=Value.string) (vv:=Value.bool) (m:=x1) (key:=y1.Who) (val:=true) S (i:=1) rfl underlying73 (Oz underlying9) (S.tm rfl) (S.tm rfl) rfl ?_));clear S;intro w9 hk7 S
      exact Ld (Gy (Tn (Fg (Vq S Fa rfl rfl rfl fun a S=>Vm S rfl rfl fun a S=>Dl (⟨ys1,⟨i1 + 1,(Fz x1 y1.Who true),(x2 || (Ek x1 y1.Who false)),⟨_,(hd1).trans (List.append_cons _ _ _),by simp [hi1]⟩,h,S.nf [false,true] rfl ⟨rfl,rfl,rfl,rfl,(congrArg (fun z=>some (Value.int .i64 z)) (Jb hd1 hi1 (Jy Ah))),trivial⟩⟩,Nat.lt_succ_self _⟩)))))
  clear S h;rintro a w3 ⟨x1,x2,h,S⟩;rw [hj1] at h;clear hj1 j1
  refine Tn (Fs (Fr (Vm S rfl rfl fun a S=>Dl (Fc h (S.tm rfl) (fun hb5 h=>?_) (fun hb5 h=>?_)))))
  ·refine Fr (Vk S rfl rfl fun a S=>Dl (wp_ret (Db ?_)))
   obtain rfl:=Option.some.inj h
   exact Ds S results89 rfl rfl
  ·refine wp_skip (Tn (Fr (Vk S rfl rfl fun a S=>Dl (wp_ret ?_))))
   obtain rfl:=Option.some.inj h
   exact Ds S results89 rfl rfl
theorem Zz (w : World) (Aa : El) (Ac : Value) (Ae : List Dh) (Ah : Slc (view w []) 2 Ac (Ae.map Dh.enc)) (r : Int) (h : Rr Aa Ae = some r) :
    Calls prog 52 [.agg (El.enc Aa).toArray,Ac].toArray w (Ret w [] fun _ v _=>v = iV r):=by
 refine Fe func52 rfl ntmps52 rfl fun a S=>?_
 unfold Rr at h
 replace S:=S.k2 0 1 rfl
 refine Fr (Ks S (S.tm rfl) (cs:=(El.enc Aa)) rfl rfl ?_);clear S;intro a w1 b1 hz1 hk1 S
 refine Vk S rfl rfl fun a S=>Dl (Fs (Fr (lv S (Fb isAgg38 sizeOf38 (off:=0) (o:=0) (part:=(El.enc Aa)) rfl rfl (S.tm rfl) (S.cellsAt (i:=0) rfl)) rfl fun a S=>Dd S (fun _=>Cz (vs:=[.agg (El.enc Aa).toArray]) ⟨(S.tm rfl),trivial⟩ call20) (Ry _ Aa _ rfl) rfl ?_)));clear S;intro v1 a w2 hv1 hk2 hn1 S
 subst hv1
 refine Va S rfl rfl fun a S=>Dz (Vm S rfl rfl fun a S=>Vq S Kg rfl rfl rfl fun a S=>Dl (Fc h (S.tm rfl) (fun hb1 h=>?_) (fun hb1 h=>?_)))
 ·refine Fr (Vm S rfl rfl fun a S=>Va S rfl rfl fun a S=>Dl (wp_ret (Db ?_)))
  obtain rfl:=Option.some.inj h
  exact Ds S results52 rfl rfl
 ·refine wp_skip (Tn (Fr (Vm S rfl rfl ?_)));clear S;intro a S
  obtain ⟨r1,hr1,h⟩:=Ej h
  refine Dd S (fun _=>Cz (vs:=[Ac]) ⟨(S.tm rfl),trivial⟩ call89) (Ze _ Ac Ae (Ah.mono (S.le_arg Ey)) _ hr1) rfl ?_;clear S;intro v2 a w3 hv2 hk3 hn2 S
  subst hv2
  refine Va S rfl rfl fun a S=>Dl (wp_ret ?_)
  obtain rfl:=Option.some.inj h
  exact Ds S results52 rfl rfl
set_option maxRecDepth 20000 in
theorem DL (w : World) (Aa : El) (Aq : Int) (r : (List Int) × Int) (h : Pu Aa Aq = some r) :
    Calls prog 90 [.agg (El.enc Aa).toArray,iV Aq].toArray w (Ret w [] fun τ v _=>∃ u1 : Value,v = .tuple #[u1,iV r.2] ∧ Pq τ 3 1 u1 r.1.length (r.1.flatMap eInt)):=by
 refine Fe func90 rfl ntmps90 rfl fun a S=>?_
 unfold Pu at h
 replace S:=S.k2 0 1 rfl
 refine Fr (Ks S (S.tm rfl) (cs:=(El.enc Aa)) rfl rfl ?_);clear S;intro a w1 b1 hz1 hk1 S
 refine Vk S rfl rfl fun a S=>Vk S rfl rfl fun a S=>Dz (Vf Ui S rfl rfl fun a S=>Vl isAgg3 0 S rfl rfl rfl rfl fun a S=>Vf Wa S rfl rfl fun a S=>Vl isAgg3 0 S rfl rfl rfl rfl fun a S=>Vb S Gp rfl rfl rfl ?_);clear S;intro a S
 refine Vq S Fa rfl rfl rfl fun a S=>Va S rfl rfl fun a S=>Dz (Vm S rfl rfl fun a S=>Vm S rfl rfl fun a S=>Vb S Fa rfl rfl rfl fun a S=>Vq S Gp rfl rfl rfl fun a S=>Vm S rfl rfl ?_);clear S;intro a S
 obtain ⟨hc1,h⟩:=Gu h
 refine lv S (HK (S.tm rfl) (S.tm rfl) (Un hc1)) rfl fun a S=>Va S rfl rfl fun a S=>Ld ?_
 replace S:=(S.nl [.blk b1 (El.enc Aa) 38] [true] rfl).k4 1 2 6 7 rfl
 refine Tn (Fs (Fr (Vm S rfl rfl fun a S=>Vq S It rfl rfl rfl fun a S=>Dl (Fc h (S.tm rfl) (fun hb1 h=>?_) (fun hb1 h=>?_)))))
 ·refine Fr (Vk S rfl rfl fun a S=>Vk S rfl rfl fun a S=>Dl (wp_ret (Db ?_)))
  obtain rfl:=Option.some.inj h
  exact Ku S results90 rfl rfl ⟨_,rfl,(Ps _ _ _)⟩
 ·refine wp_skip (Tn (Fr (Vk S rfl rfl ?_)));clear S;intro a S
  replace S:=S.nil 3 1
  refine Dl (Fs (Fr (Vm S rfl rfl fun a S=>lv S (Rm rfl) rfl fun a S=>Dl ?_)))
  replace S:=(S.nl [.own (.slice none 0 0) 3 1 ([] : List Int).length (([] : List Int).flatMap eInt),.blk b1 (El.enc Aa) 38] [true,true] rfl).k7 1 2 6 7 8 25 26 rfl
  obtain ⟨j1,hj1,h⟩:=Eo h
  refine Dy (fun a w'=>∃ x1 : List Int,∃ v1 : Value,j1 x1 = some r ∧ Sx w [] nov [.own v1 3 1 x1.length (x1.flatMap eInt),.blk b1 (El.enc Aa) 38] [(2,.pointer (some ⟨b1,0,none⟩)),(7,iV (W (Int.tdiv (W ((W (Aq + (W ((W (Aa.High - Aa.Low)) + 1)))) - 1)) (W ((W (Aa.High - Aa.Low)) + 1))))),(8,v1)] 81 a w') ?_ ?_
  ·refine wp_block (Gs (fun (m1 : Nat) a w'=>∃ x1 : List Int,∃ x2 : Int,∃ v1 : Value,Mp Aq Aa j1 m1 x1 x2 = some r ∧ Sx w [] nov [.own v1 3 1 x1.length (x1.flatMap eInt),.blk b1 (El.enc Aa) 38] [(1,iV Aq),(2,.pointer (some ⟨b1,0,none⟩)),(6,iV (W ((W (Aa.High - Aa.Low)) + 1))),(7,iV (W (Int.tdiv (W ((W (Aq + (W ((W (Aa.High - Aa.Low)) + 1)))) - 1)) (W ((W (Aa.High - Aa.Low)) + 1))))),(8,v1),(25,iV (W (Int.tdiv (W ((W (Aq + (W ((W (Aa.High - Aa.Low)) + 1)))) - 1)) (W ((W (Aa.High - Aa.Low)) + 1))))),(26,iV x2)] 81 a w') id (((W (Int.tdiv (W ((W (Aq + (W ((W (Aa.High - Aa.Low)) + 1)))) - 1)) (W ((W (Aa.High - Aa.Low)) + 1)))) - 0).toNat + 2) ⟨([] : List Int),0,(.slice none 0 0),h,S.nf [true,true] rfl (subR rfl)⟩ ?_)
   clear S h;rintro m1 a w2 ⟨x1,x2,v1,h,S⟩
   cases m1 with
   | zero=>rw [Mp.eq_1] at h;cases h
   | succ m1 =>
    rw [Mp.eq_2] at h
    refine Fr (Vb S Ev rfl rfl rfl fun a S=>Dl (Fs (Fc h (S.tm rfl) (fun hb2 h=>?_) (fun hb2 h=>?_))))
    ·refine wp_skip (Tn (Fs ?_))
     obtain ⟨j2,hj2,h⟩:=Eo h
     refine Dy (fun a w'=>∃ x3 : List Int,∃ v2 : Value,j2 x3 = some r ∧ Sx w [] nov [.own v2 3 1 x3.length (x3.flatMap eInt),.blk b1 (El.enc Aa) 38] [(1,iV Aq),(2,.pointer (some ⟨b1,0,none⟩)),(6,iV (W ((W (Aa.High - Aa.Low)) + 1))),(7,iV (W (Int.tdiv (W ((W (Aq + (W ((W (Aa.High - Aa.Low)) + 1)))) - 1)) (W ((W (Aa.High - Aa.Low)) + 1))))),(8,v2),(25,iV (W (Int.tdiv (W ((W (Aq + (W ((W (Aa.High - Aa.Low)) + 1)))) - 1)) (W ((W (Aa.High - Aa.Low)) + 1))))),(26,iV x2)] 81 a w') ?_ ?_
     ·refine wp_block (Fr (Vm S rfl rfl fun a S=>Va S rfl rfl fun a S=>Dz (Vm S rfl rfl fun a S=>Vq S Hj rfl rfl rfl ?_)));clear S;intro a S
      refine Dl ?_
      obtain ⟨j3,hj3,h⟩:=Eo h
      refine Dy (fun a w'=>∃ x4 : List Int,∃ v3 : Value,j3 x4 = some r ∧ Sx w [] nov [.own v3 3 1 x4.length (x4.flatMap eInt),.blk b1 (El.enc Aa) 38] [(1,iV Aq),(2,.pointer (some ⟨b1,0,none⟩)),(6,iV (W ((W (Aa.High - Aa.Low)) + 1))),(7,iV (W (Int.tdiv (W ((W (Aq + (W ((W (Aa.High - Aa.Low)) + 1)))) - 1)) (W ((W (Aa.High - Aa.Low)) + 1))))),(8,v3),(25,iV (W (Int.tdiv (W ((W (Aq + (W ((W (Aa.High - Aa.Low)) + 1)))) - 1)) (W ((W (Aa.High - Aa.Low)) + 1))))),(26,iV x2)] 81 a w') ?_ ?_
      ·refine Fc h (S.tm rfl) (fun hb3 h=>?_) (fun hb3 h=>?_)
       ·refine Fg ?_
        iterate 4 (refine Vm S rfl rfl ?_;clear S;intro a S)
        refine Vq S Gp rfl rfl rfl fun a S=>Vb S Wo rfl rfl rfl fun a S=>Vb S Gp rfl rfl rfl fun a S=>Dv S underlying22 sizeOf3 zeroValue3 rfl rfl (pv:=[(0,iV (W (Aq - (W ((W ((W (Aa.High - Aa.Low)) + 1)) * (W ((W (Int.tdiv (W ((W (Aq + (W ((W (Aa.High - Aa.Low)) + 1)))) - 1)) (W ((W (Aa.High - Aa.Low)) + 1)))) - 1)))))))]) ⟨rfl,(S.tm rfl),trivial⟩ (cs:=[iV (W (Aq - (W ((W ((W (Aa.High - Aa.Low)) + 1)) * (W ((W (Int.tdiv (W ((W (Aq + (W ((W (Aa.High - Aa.Low)) + 1)))) - 1)) (W ((W (Aa.High - Aa.Low)) + 1)))) - 1))))))]) (by kernel_rfl) rfl ?_;clear S;intro a w6 b2 hz2 hk2 S
        obtain ⟨hc2,h⟩:=Gu h
        refine Lq Jr Fd S (S.tm rfl) (i:=1) rfl (S.tm rfl) (j:=0) rfl (ys:=[W (Aq - (W ((W ((W (Aa.High - Aa.Low)) + 1)) * (W ((W (Int.tdiv (W ((W (Aq + (W ((W (Aa.High - Aa.Low)) + 1)))) - 1)) (W ((W (Aa.High - Aa.Low)) + 1)))) - 1)))))]) rfl rfl rfl rfl (by have:=Nm hc2;omega) rfl ?_;clear S;intro v4 a w7 hk3 S
        refine Va S rfl rfl fun a S=>Ld ?_
        replace S:=(S.nl [.own v4 3 1 (x1 ++ [W (Aq - (W ((W ((W (Aa.High - Aa.Low)) + 1)) * (W ((W (Int.tdiv (W ((W (Aq + (W ((W (Aa.High - Aa.Low)) + 1)))) - 1)) (W ((W (Aa.High - Aa.Low)) + 1)))) - 1)))))]).length ((x1 ++ [W (Aq - (W ((W ((W (Aa.High - Aa.Low)) + 1)) * (W ((W (Int.tdiv (W ((W (Aq + (W ((W (Aa.High - Aa.Low)) + 1)))) - 1)) (W ((W (Aa.High - Aa.Low)) + 1)))) - 1)))))]).flatMap eInt),.blk b1 (El.enc Aa) 38] [false,true,true] rfl).k7 1 2 6 7 8 25 26 rfl
        exact Tn (⟨(x1 ++ [W (Aq - (W ((W ((W (Aa.High - Aa.Low)) + 1)) * (W ((W (Int.tdiv (W ((W (Aq + (W ((W (Aa.High - Aa.Low)) + 1)))) - 1)) (W ((W (Aa.High - Aa.Low)) + 1)))) - 1)))))]),v4,h,S.nf [true,true] rfl (subR rfl)⟩)
       ·refine Fg (Vm S rfl rfl fun a S=>Vm S rfl rfl fun a S=>Dv S underlying22 sizeOf3 zeroValue3 rfl rfl (pv:=[(0,iV (W ((W (Aa.High - Aa.Low)) + 1)))]) ⟨rfl,(S.tm rfl),trivial⟩ (cs:=[iV (W ((W (Aa.High - Aa.Low)) + 1))]) (by kernel_rfl) rfl ?_);clear S;intro a w8 b3 hz3 hk4 S
        obtain ⟨hc3,h⟩:=Gu h
        refine Lq Jr Fd S (S.tm rfl) (i:=1) rfl (S.tm rfl) (j:=0) rfl (ys:=[W ((W (Aa.High - Aa.Low)) + 1)]) rfl rfl rfl rfl (by have:=Nm hc3;omega) rfl ?_;clear S;intro v5 a w9 hk5 S
        refine Va S rfl rfl fun a S=>Ld ?_
        replace S:=(S.nl [.own v5 3 1 (x1 ++ [W ((W (Aa.High - Aa.Low)) + 1)]).length ((x1 ++ [W ((W (Aa.High - Aa.Low)) + 1)]).flatMap eInt),.blk b1 (El.enc Aa) 38] [false,true,true] rfl).k7 1 2 6 7 8 25 26 rfl
        exact Tn (⟨(x1 ++ [W ((W (Aa.High - Aa.Low)) + 1)]),v5,h,S.nf [true,true] rfl (subR rfl)⟩)
      clear S h;rintro a w5 ⟨x4,v3,h,S⟩;rw [hj3] at h;clear hj3 j3
      exact Gy (Tn (⟨x4,v3,h,S.nf [true,true] rfl (subR rfl)⟩))
     clear S h;rintro a w4 ⟨x3,v2,h,S⟩;rw [hj2] at h;clear hj2 j2
     exact Tn (Fg (Vq S Fa rfl rfl rfl fun a S=>Vm S rfl rfl fun a S=>Dl (⟨m1,⟨x3,W (x2 + 1),v2,h,S.nf [true,true] rfl ⟨rfl,rfl,rfl,rfl,rfl,rfl,rfl,trivial⟩⟩,Nat.lt_succ_self _⟩)))
    ·exact wp_exit (Dt (Dt (Gh (Tn (⟨x1,v1,h,S.nf [true,true] rfl (subR rfl)⟩)))))
  clear S h;rintro a w3 ⟨x1,v1,h,S⟩;rw [hj1] at h;clear hj1 j1
  refine Tn (Fs (Fs (Fo [] ([]) Tryz.mixed S rfl (by kernel_rfl) ?_)));clear S;intro w10 hk6 hsel S
  refine Js [0,1,2,3,4,5,6,7,8,9] hsel (by kernel_rfl) rfl ?_
  clear hsel
  refine Fj S rfl (Rm (S.tm rfl)) rfl fun a S=>Fj S rfl (It (S.tm rfl) rfl) rfl fun a S=>Fj S rfl (Rm (S.tm rfl)) rfl ?_;clear S;intro a S
  obtain ⟨j4,hj4,h⟩:=Eo h
  refine LQ 7 (fun a w'=>∃ c1,j4 c1 = some r ∧ Keep [] w10 w' ∧ Sx w [] nov [.own v1 3 1 x1.length (x1.flatMap eInt),.blk b1 (El.enc Aa) 38] [(2,.pointer (some ⟨b1,0,none⟩)),(8,v1),(54,bV c1)] 81 a w') ?_ ?_
  ·rcases Bool.eq_false_or_eq_true (decide (1 < (W (Int.tdiv (W ((W (Aq + (W ((W (Aa.High - Aa.Low)) + 1)))) - 1)) (W ((W (Aa.High - Aa.Low)) + 1)))))) with hb4 | hb4
   ·replace h:=Rb h hb4
    refine Lx S rfl rfl rfl rfl hb4 (Ok S (Rm (S.tm rfl)) rfl fun a S=>Lx S rfl rfl rfl rfl hb4 ?_)
    obtain ⟨hc4,h⟩:=Gu h
    obtain ⟨b4,hg1,hr1⟩:=Eu (a:=a) (x:=.tmp 48) (y:=.const (iV 0)) (ty:=0) Jr Fd S (i:=0) rfl (Dc hc4).1 (Dc hc4).2 (S.tm rfl) rfl
    refine Ok S (hr1 _) rfl ?_;clear S;intro a S
    clear hr1
    exact Lx S rfl rfl rfl rfl hb4 (Ok S (Gj isAgg3 (off:=((0 : Int).toNat) * 1) (o:=0) (S.tm rfl) (Mu Fd S (i:=0) rfl hg1 (Dc hc4).1) rfl) rfl fun a S=>Lx S rfl rfl rfl rfl hb4 (Ok S (Fp BU (S.tm rfl)) rfl fun a S=>Lx S rfl rfl rfl rfl hb4 (Ok S (Lm isAgg3 (S.tm rfl) (S.cell (i:=1) rfl rfl)) rfl fun a S=>Lx S rfl rfl rfl rfl hb4 (Ok S (Ev (S.tm rfl) (S.tm rfl)) rfl fun a S=>Fj S rfl (Hk hb4 (S.tm rfl) (S.tm rfl)) rfl fun a S=>Jc (⟨_,h,Keep.refl _ _,S.nf [true,true] rfl (subR rfl)⟩)))))
   ·replace h:=Rc h hb4
    iterate 6 (refine Rj S rfl rfl rfl rfl (Jk hb4) rfl ?_ rfl;clear S;intro a S)
    exact Fj S rfl (Hl true hb4 (S.tm rfl) rfl) rfl fun a S=>Jc (⟨_,h,Keep.refl _ _,S.nf [true,true] rfl (subR rfl)⟩)
  clear S h;rintro a w11 ⟨c1,h,hk7,S⟩;rw [hj4] at h;clear hj4 j4
  refine Jc ?_
  replace S:=S.k3 2 8 54 rfl
  refine Tn ?_
  obtain ⟨j5,hj5,h⟩:=Eo h
  refine Dy (fun a w'=>∃ x5 : List Int,j5 x5 = some r ∧ Sx w [] nov [.own v1 3 1 x5.length (x5.flatMap eInt)] [(8,v1)] 81 a w') ?_ ?_
  ·refine Fc h (S.tm rfl) (fun hb5 h=>?_) (fun hb5 h=>?_)
   ·refine Fs (Fo [] ([]) Tryz.mixed S rfl (by kernel_rfl) ?_);clear S;intro w13 hk8 hsel S
    refine Js [0,1,2,3,4,5,6,7,8,9,10,11,12,13] hsel (by kernel_rfl) rfl ?_
    clear hsel
    refine Fj S rfl (Fp BU (S.tm rfl)) rfl fun a S=>Fj S rfl (Lm isAgg3 (S.tm rfl) (S.cell (i:=1) rfl rfl)) rfl fun a S=>Fj S rfl (Rm (S.tm rfl)) rfl ?_;clear S;intro a S
    obtain ⟨hc5,h⟩:=Gu h
    obtain ⟨b5,hg2,hr2⟩:=Eu (a:=a) (x:=.tmp 57) (y:=.const (iV 0)) (ty:=0) Jr Fd S (i:=0) rfl (Dc hc5).1 (Dc hc5).2 (S.tm rfl) rfl
    refine Fj S rfl (hr2 _) rfl ?_;clear S;intro a S
    clear hr2
    refine Fj S rfl (Gj isAgg3 (off:=((0 : Int).toNat) * 1) (o:=0) (S.tm rfl) (Mu Fd S (i:=0) rfl hg2 (Dc hc5).1) rfl) rfl fun a S=>Fj S rfl (Gp (S.tm rfl) (S.tm rfl)) rfl fun a S=>Fj S rfl (Rm (S.tm rfl)) rfl ?_;clear S;intro a S
    obtain ⟨hc6,h⟩:=Gu h
    obtain ⟨b6,hg3,hr3⟩:=Eu (a:=a) (x:=.tmp 61) (y:=.const (iV 1)) (ty:=0) Jr Fd S (i:=0) rfl (Dc hc6).1 (Dc hc6).2 (S.tm rfl) rfl
    refine Fj S rfl (hr3 _) rfl ?_;clear S;intro a S
    clear hr3
    refine Fj S rfl (Gj isAgg3 (off:=((1 : Int).toNat) * 1) (o:=0) (S.tm rfl) (Mu Fd S (i:=0) rfl hg3 (Dc hc6).1) rfl) rfl fun a S=>Fj S rfl (Fp BU (S.tm rfl)) rfl fun a S=>Fj S rfl (Lm isAgg3 (S.tm rfl) (S.cell (i:=1) rfl rfl)) rfl fun a S=>Fj S rfl (Gp (S.tm rfl) (S.tm rfl)) rfl fun a S=>Fj S rfl (FA (S.tm rfl) (S.tm rfl)) rfl fun a S=>Fj S rfl (Ra (S.tm rfl)) rfl fun a S=>Jc ?_
    replace S:=S.d1.k2 8 10 rfl
    refine Tn (Fr (Vm S rfl rfl ?_));clear S;intro a S
    obtain ⟨hc7,h⟩:=Gu h
    obtain ⟨b7,hg4,hr4⟩:=Eu (a:=a) (x:=.tmp 68) (y:=.const (iV 0)) (ty:=0) Jr Fd S (i:=0) rfl (Dc hc7).1 (Dc hc7).2 (S.tm rfl) rfl
    refine lv S (hr4 _) rfl ?_;clear S;intro a S
    clear hr4
    refine lv S (Gj isAgg3 (off:=((0 : Int).toNat) * 1) (o:=0) (S.tm rfl) (Mu Fd S (i:=0) rfl hg4 (Dc hc7).1) rfl) rfl fun a S=>Vm S rfl rfl fun a S=>Vb S Fa rfl rfl rfl ?_;clear S;intro a S
    obtain ⟨hc8,h⟩:=Gu h
    obtain ⟨b8,hg5,hr5⟩:=Eu (a:=a) (x:=.tmp 68) (y:=.const (iV 0)) (ty:=0) Jr Fd S (i:=0) rfl (Dc hc8).1 (Dc hc8).2 (S.tm rfl) rfl
    refine lv S (hr5 _) rfl ?_;clear S;intro a S
    clear hr5
    refine Le (c:=0) (j:=(0 : Int).toNat) (W ((nth x1 0) + (Wi (W (Aa.Least - (nth x1 0))) (W ((nth x1 1) - Aa.Least))))) Fd S (S.tm rfl) (S.tm rfl) (i:=0) rfl hg5 (Dc hc8).1 sizeOf3 (vs:=[iV (W ((nth x1 0) + (Wi (W (Aa.Least - (nth x1 0))) (W ((nth x1 1) - Aa.Least)))))]) rfl rfl rfl rfl rfl ?_;clear S;intro w15 hk10 S
    refine Dl (Fg (Vm S rfl rfl ?_));clear S;intro a S
    obtain ⟨hc9,h⟩:=Gu h
    obtain ⟨b9,hg6,hr6⟩:=Eu (a:=a) (x:=.tmp 74) (y:=.const (iV 1)) (ty:=0) Jr Fd S (i:=0) rfl (Dc hc9).1 (Dc hc9).2 (S.tm rfl) rfl
    refine lv S (hr6 _) rfl ?_;clear S;intro a S
    clear hr6
    refine lv S (Gj isAgg3 (off:=((1 : Int).toNat) * 1) (o:=0) (S.tm rfl) (Mu Fd S (i:=0) rfl hg6 (Dc hc9).1) rfl) rfl fun a S=>Vm S rfl rfl fun a S=>Vb S Gp rfl rfl rfl ?_;clear S;intro a S
    obtain ⟨hc10,h⟩:=Gu h
    obtain ⟨b10,hg7,hr7⟩:=Eu (a:=a) (x:=.tmp 74) (y:=.const (iV 1)) (ty:=0) Jr Fd S (i:=0) rfl (Dc hc10).1 (Dc hc10).2 (S.tm rfl) rfl
    refine lv S (hr7 _) rfl ?_;clear S;intro a S
    clear hr7
    refine Le (c:=0) (j:=(1 : Int).toNat) (W ((nth (x1.set ((0 : Int).toNat) (W ((nth x1 0) + (Wi (W (Aa.Least - (nth x1 0))) (W ((nth x1 1) - Aa.Least)))))) 1) - (Wi (W (Aa.Least - (nth x1 0))) (W ((nth x1 1) - Aa.Least))))) Fd S (S.tm rfl) (S.tm rfl) (i:=0) rfl hg7 (Dc hc10).1 sizeOf3 (vs:=[iV (W ((nth (x1.set ((0 : Int).toNat) (W ((nth x1 0) + (Wi (W (Aa.Least - (nth x1 0))) (W ((nth x1 1) - Aa.Least)))))) 1) - (Wi (W (Aa.Least - (nth x1 0))) (W ((nth x1 1) - Aa.Least)))))]) rfl rfl rfl rfl rfl ?_;clear S;intro w17 hk12 S
    exact Dl (⟨((x1.set ((0 : Int).toNat) (W ((nth x1 0) + (Wi (W (Aa.Least - (nth x1 0))) (W ((nth x1 1) - Aa.Least)))))).set ((1 : Int).toNat) (W ((nth (x1.set ((0 : Int).toNat) (W ((nth x1 0) + (Wi (W (Aa.Least - (nth x1 0))) (W ((nth x1 1) - Aa.Least)))))) 1) - (Wi (W (Aa.Least - (nth x1 0))) (W ((nth x1 1) - Aa.Least)))))),h,S.nf [true] rfl ⟨rfl,trivial⟩⟩)
   ·exact wp_skip (Tn (⟨x1,h,S.nf [true,false] rfl ⟨rfl,trivial⟩⟩))
  clear S h;rintro a w12 ⟨x5,h,S⟩;rw [hj5] at h;clear hj5 j5
  refine Tn (Fr (Vm S rfl rfl fun a S=>Va S rfl rfl fun a S=>Vk S rfl rfl fun a S=>Dl (wp_ret ?_)))
  obtain rfl:=Option.some.inj h
  exact Ku S results90 rfl rfl ⟨_,rfl,(Rg S (i:=0) rfl rfl)⟩
theorem Xg (w : World) (Al : Value) (Ap : List Dh) (Bl : Slc (view w []) 2 Al (Ap.map Dh.enc)) (r : (List Dh)) (h : Pn Ap = some r) :
    Calls prog 116 [Al].toArray w (Ret w [] fun τ v _=>Pq τ 113 2 v r.length (r.flatMap Dh.enc)):=by
 refine Fe func116 rfl ntmps116 rfl fun a S=>?_
 unfold Pn at h
 replace S:=S.k1 0 rfl
 refine Fr (Vk S rfl rfl fun a S=>Dl (Fs (Fr (Vm S rfl rfl fun a S=>lv S (LN underlying70 (Fm Bl) (S.tm rfl) rfl) rfl fun a S=>Ld ?_))))
 refine Tn (LD (S.tm rfl) (fun hb1=>?_) (fun hb1=>?_))
 ·have hx1:=LM Bl hb1
  subst hx1
  replace h : some ([] : List Dh) = some r:=h
  refine Fr (Vk S rfl rfl fun a S=>Dl (wp_ret (Db ?_)))
  obtain rfl:=Option.some.inj h
  exact Ds S results116 rfl (Ps _ _ _)
 ·refine wp_skip (Tn (Fr (DH S underlying70 sizeOf113 rfl ?_)));clear S;intro a w1 b1 hz1 hk1 S
  refine Vm S rfl rfl ?_;clear S;intro a S
  replace S:=S.litOwn (i:=0) (xs:=([] : List Dh)) rfl Dh.enc_ok rfl rfl rfl
  replace S:=S.nk [.own (.slice (some ⟨b1,0,none⟩) 0 0) 113 2 (([] : List Dh) : List Dh).length ((([] : List Dh) : List Dh).flatMap Dh.enc)] [(0,Al),(2,.slice none 0 0),(3,Al),(4,bV (nilB Al)),(5,(.slice (some ⟨b1,0,none⟩) 0 0)),(6,Al)] [] rfl (subR rfl)
  obtain ⟨hc1,h⟩:=Gu h
  refine KB (Y:=[]) Qk Dh.enc_ok S (S.tm rfl) (i:=0) rfl (S.tm rfl) (Bl.mono (S.le_arg (fun _ h=>by cases h))) rfl rfl (by have:=Nm hc1;omega) rfl ?_;clear S;intro v1 a w2 hk2 S
  refine Va S rfl rfl fun a S=>Dl (wp_ret ?_)
  obtain rfl:=Option.some.inj h
  exact Ds S results116 rfl (Rg S (i:=0) rfl rfl)
theorem Xh (w : World) (Aj : Int) (Am : Int) (r : Int) (h : Rs Aj Am = r) :
    Calls prog 119 [iV Aj,iV Am].toArray w (Ret w [] fun _ v _=>v = iV r):=by
 refine Fe func119 rfl ntmps119 rfl fun a S=>?_
 unfold Rs at h
 replace S:=S.k2 0 1 rfl
 refine Fr (Vk S rfl rfl fun a S=>Dl (Fs (Fr (Vm S rfl rfl fun a S=>Vq S Hj rfl rfl rfl fun a S=>Vm S rfl rfl ?_))));clear S;intro a S
 refine Vq S Hj rfl rfl rfl fun a S=>lv S (rn_bneq underlying4 (S.tm rfl) (S.tm rfl)) rfl fun a S=>Dl (Fc h (S.tm rfl) (fun hb1 h=>?_) (fun hb1 h=>?_))
 ·refine Fs (Fr (Vm S rfl rfl fun a S=>Vq S Hj rfl rfl rfl fun a S=>Dl (Fc h (S.tm rfl) (fun hb2 h=>?_) (fun hb2 h=>?_))))
  ·refine Fr (Vk S rfl rfl fun a S=>Dl (wp_ret (Db (Db ?_))))
   subst h
   exact Ds S results119 rfl rfl
  ·refine wp_skip (Tn (Fr (Vk S rfl rfl fun a S=>Dl (wp_ret (Db ?_)))))
   subst h
   exact Ds S results119 rfl rfl
 ·refine wp_skip (Tn (Fr (Vm S rfl rfl fun a S=>Vm S rfl rfl fun a S=>Dd S (fun _=>Cz (vs:=[iV Aj,iV Am]) ⟨(S.tm rfl),(S.tm rfl),trivial⟩ call98) (Ng _ Aj Am _ rfl) rfl ?_)));clear S;intro v1 a w1 hv1 hk1 hn1 S
  subst hv1
  refine Va S rfl rfl fun a S=>Dl (wp_ret ?_)
  subst h
  exact Ds S results119 rfl rfl
theorem Zf (w : World) (Aj : Dh) (Am : Dh) (r : Int) (h : Lj Aj Am = r) :
    Calls prog 118 [.agg (Dh.enc Aj).toArray,.agg (Dh.enc Am).toArray].toArray w (Ret w [] fun _ v _=>v = iV r):=by
 refine Fe func118 rfl ntmps118 rfl fun a S=>?_
 unfold Lj at h
 replace S:=S.k2 0 1 rfl
 refine Fr (Ks S (S.tm rfl) (cs:=(Dh.enc Aj)) rfl rfl ?_);clear S;intro a w1 b1 hz1 hk1 S
 refine Ks S (S.tm rfl) (cs:=(Dh.enc Am)) rfl rfl ?_;clear S;intro a w2 b2 hz2 hk2 S
 refine Vk S rfl rfl fun a S=>Dz (Vf CL S rfl rfl fun a S=>Vl isAgg3 1 S rfl rfl rfl rfl fun a S=>Vf CL S rfl rfl fun a S=>Vl isAgg3 0 S rfl rfl rfl rfl fun a S=>Dd S (fun _=>Cz (vs:=[iV Aj.Time,iV Am.Time]) ⟨(S.tm rfl),(S.tm rfl),trivial⟩ call119) (Xh _ Aj.Time Am.Time _ rfl) rfl ?_);clear S;intro v1 a w3 hv1 hk3 hn1 S
 subst hv1
 refine Va S rfl rfl fun a S=>Dl (wp_ret ?_)
 subst h
 exact Ds S results118 rfl rfl
set_option maxRecDepth 20000 in
theorem Jv (w : World) (U : Value) (Af : List Dh) (Bb : (LEnt.own U 113 2 Af.length (Af.flatMap Dh.enc)).holds w) (Aj : Int) (Am : Int) (r : (List Dh)) (h : Fq Af Aj Am = some r) :
    Calls prog 154 [U,iV Aj,iV Am,.func (.func 118) #[] #[]].toArray w (Ret w (U.ownBlock.toList) fun _ v w'=>(LEnt.own U 113 2 r.length (r.flatMap Dh.enc)).holds w' ∧ v = .tuple #[]):=by
 refine Iy (U.ownBlock.toList) [.own U 113 2 Af.length (Af.flatMap Dh.enc)] func154 rfl ntmps154 rfl (fun e he=>by simp only [List.mem_singleton] at he;subst he;exact Bb) (Hb _) (Ip _) fun a S=>?_
 unfold Fq at h
 replace S:=(S.nl [.own U 113 2 Af.length (Af.flatMap Dh.enc)] [true] rfl).k4 0 1 2 3 rfl
 refine Fr (Vm S rfl rfl fun a S=>Vq S Fa rfl rfl rfl fun a S=>Va S rfl rfl fun a S=>Dl ?_)
 replace S:=S.k5 0 1 2 3 8 rfl
 obtain ⟨j1,hj1,h⟩:=Eo h
 refine Dy (fun a w'=>∃ x1 : List Dh,j1 x1 = some r ∧ Sx w (U.ownBlock.toList) nov [.own U 113 2 x1.length (x1.flatMap Dh.enc)] [] 53 a w') ?_ ?_
 ·refine wp_block (Gs (fun (m1 : Nat) a w'=>∃ x1 : List Dh,∃ x2 : Int,Ea Am Aj j1 m1 x1 x2 = some r ∧ Sx w (U.ownBlock.toList) nov [.own U 113 2 x1.length (x1.flatMap Dh.enc)] [(0,U),(1,iV Aj),(2,iV Am),(3,.func (.func 118) #[] #[]),(8,iV x2)] 53 a w') id ((Am - (W (Aj + 1))).toNat + 2) ⟨Af,W (Aj + 1),h,S.nf [true] rfl (subR rfl)⟩ ?_)
  clear S h;rintro m1 a w1 ⟨x1,x2,h,S⟩
  cases m1 with
  | zero=>rw [Ea.eq_1] at h;cases h
  | succ m1 =>
   rw [Ea.eq_2] at h
   refine Fs (Fr (Vm S rfl rfl fun a S=>Vm S rfl rfl fun a S=>Vb S Ev rfl rfl rfl fun a S=>Dl (Fc h (S.tm rfl) (fun hb1 h=>?_) (fun hb1 h=>?_))))
   ·refine wp_skip (Tn (Fs (wp_block (Fr (Vm S rfl rfl fun a S=>Va S rfl rfl fun a S=>Dl ?_)))))
    replace S:=S.k6 0 1 2 3 8 9 rfl
    obtain ⟨j2,hj2,h⟩:=Eo h
    refine Dy (fun a w'=>∃ x3 : List Dh,j2 x3 = some r ∧ Sx w (U.ownBlock.toList) nov [.own U 113 2 x3.length (x3.flatMap Dh.enc)] [(0,U),(1,iV Aj),(2,iV Am),(3,.func (.func 118) #[] #[]),(8,iV x2)] 53 a w') ?_ ?_
    ·refine wp_block (Gs (fun (m2 : Nat) a w'=>∃ x3 : List Dh,∃ x4 : Int,Dm Aj j2 m2 x3 x4 = some r ∧ Sx w (U.ownBlock.toList) nov [.own U 113 2 x3.length (x3.flatMap Dh.enc)] [(0,U),(1,iV Aj),(2,iV Am),(3,.func (.func 118) #[] #[]),(8,iV x2),(9,iV x4)] 53 a w') id ((x2 - Aj).toNat + 2) ⟨x1,x2,h,S.nf [true] rfl (subR rfl)⟩ ?_)
     clear S h;rintro m2 a w3 ⟨x3,x4,h,S⟩
     cases m2 with
     | zero=>rw [Dm.eq_1] at h;cases h
     | succ m2 =>
      rw [Dm.eq_2] at h
      refine Fs (Fs ?_)
      obtain ⟨j3,hj3,h⟩:=Eo h
      refine Dy (fun a w'=>∃ x5 : Bool,j3 x5 = some r ∧ Sx w (U.ownBlock.toList) nov [.own U 113 2 x3.length (x3.flatMap Dh.enc)] [(0,U),(1,iV Aj),(2,iV Am),(3,.func (.func 118) #[] #[]),(8,iV x2),(9,iV x4),(34,bV x5)] 53 a w') ?_ ?_
      ·rcases Bool.eq_false_or_eq_true (decide (Aj < x4)) with hb2 | hb2
       ·replace h:=Rb h hb2
        obtain ⟨hc1,h⟩:=Gu h
        obtain ⟨hc2,h⟩:=Gu h
        refine Fo [] ([]) Tryz.mixed S rfl (by kernel_rfl) ?_;clear S;intro w7 hk2 hsel S
        refine De 0 S hsel rfl rfl rfl (by kernel_rfl) (by kernel_rfl) rfl (fun _ hw=>(Rm (S.tm rfl))) fun a S=>De 1 S hsel rfl rfl rfl (by kernel_rfl) (by kernel_rfl) rfl (fun _ hw=>(Rm (S.tm rfl))) fun a S=>De 2 S hsel rfl rfl rfl (by kernel_rfl) (by kernel_rfl) rfl (fun _ hw=>(It (S.tm rfl) (S.tm rfl))) fun a S=>De 3 S hsel rfl rfl rfl (by kernel_rfl) (by kernel_rfl) rfl (fun _ hw=>(Rm (S.tm rfl))) fun a S=>Dj 4 S hsel rfl rfl rfl rfl hb2 rfl rfl (by kernel_rfl) (by kernel_rfl) rfl (fun _ hw=>(Rm (S.tm rfl))) fun a S=>Dj 5 S hsel rfl rfl rfl rfl hb2 rfl rfl (by kernel_rfl) (by kernel_rfl) rfl (fun _ hw=>(Rm (S.tm rfl))) fun a S=>Dj 6 S hsel rfl rfl rfl rfl hb2 rfl rfl (by kernel_rfl) (by kernel_rfl) rfl (fun _ hw=>(Rm (S.tm rfl))) ?_;clear S;intro a S
        obtain ⟨b3,hg3,hr3⟩:=Eu (a:=a) (x:=.tmp 23) (y:=.tmp 24) (ty:=0) Qk Dh.enc_ok S (i:=0) rfl (Dc hc1).1 (Dc hc1).2 (S.tm rfl) (S.tm rfl)
        refine Dj 7 S hsel rfl rfl rfl rfl hb2 rfl rfl (by kernel_rfl) (by kernel_rfl) rfl (fun _ hw=>(hr3 _)) ?_;clear S;intro a S
        clear hr3
        refine Dj 8 S hsel rfl rfl rfl rfl hb2 rfl rfl (by kernel_rfl) (by kernel_rfl) rfl (fun _ hw=>(Fb isAgg113 sizeOf113 (off:=x4.toNat * 2) (o:=0) (part:=(Dh.enc (nth x3 x4))) rfl rfl (S.tm rfl) ((Kk Dh.enc_ok S (i:=0) rfl hg3 (Dc hc1).1 (Gt (e':=.own U 113 2 x3.length (x3.flatMap Dh.enc)))).kept hw))) fun a S=>Dj 9 S hsel rfl rfl rfl rfl hb2 rfl rfl (by kernel_rfl) (by kernel_rfl) rfl (fun _ hw=>(Rm (S.tm rfl))) fun a S=>Dj 10 S hsel rfl rfl rfl rfl hb2 rfl rfl (by kernel_rfl) (by kernel_rfl) rfl (fun _ hw=>(Rm (S.tm rfl))) fun a S=>Dj 11 S hsel rfl rfl rfl rfl hb2 rfl rfl (by kernel_rfl) (by kernel_rfl) rfl (fun _ hw=>(Gp (S.tm rfl) rfl)) ?_;clear S;intro a S
        obtain ⟨b4,hg4,hr4⟩:=Eu (a:=a) (x:=.tmp 27) (y:=.tmp 29) (ty:=0) Qk Dh.enc_ok S (i:=0) rfl (Dc hc2).1 (Dc hc2).2 (S.tm rfl) (S.tm rfl)
        refine Dj 12 S hsel rfl rfl rfl rfl hb2 rfl rfl (by kernel_rfl) (by kernel_rfl) rfl (fun _ hw=>(hr4 _)) ?_;clear S;intro a S
        clear hr4
        refine Dj 13 S hsel rfl rfl rfl rfl hb2 rfl rfl (by kernel_rfl) (by kernel_rfl) rfl (fun _ hw=>(Fb isAgg113 sizeOf113 (off:=((W (x4 - 1)).toNat) * 2) (o:=0) (part:=(Dh.enc (nth x3 (W (x4 - 1))))) rfl rfl (S.tm rfl) ((Kk Dh.enc_ok S (i:=0) rfl hg4 (Dc hc2).1 (Gt (e':=.own U 113 2 x3.length (x3.flatMap Dh.enc)))).kept hw))) fun a S=>Ff 14 (by kernel_rfl) rfl (Da S rfl rfl rfl hb2 (Dd S (fun _=>Si (cap:=[]) (S.tm rfl) (vs:=[.agg (Dh.enc (nth x3 x4)).toArray,.agg (Dh.enc (nth x3 (W (x4 - 1)))).toArray]) ⟨(S.tm rfl),(S.tm rfl),trivial⟩ call118) (Zf _ (nth x3 x4) (nth x3 (W (x4 - 1))) _ rfl) rfl ?_));clear S;intro v2 a w8 hv2 hk3 hn2 S
        subst hv2
        refine Ld (Gl hk3 (Js [15,16] hsel (by kernel_rfl) rfl ?_))
        clear hsel
        refine Lx S rfl rfl rfl rfl hb2 (Ok S (Ev (S.tm rfl) rfl) rfl fun a S=>Fj S rfl (Ms hb2 (S.tm rfl) (S.tm rfl)) rfl fun a S=>Jc ?_)
        replace S:=S.nk [.own U 113 2 x3.length (x3.flatMap Dh.enc)] [(0,U),(1,iV Aj),(2,iV Am),(3,.func (.func 118) #[] #[]),(8,iV x2),(9,iV x4),(22,.func (.func 118) #[] #[]),(23,U),(24,iV x4),(25,.pointer (some ⟨b3,x4.toNat * 2,none⟩)),(26,.agg (Dh.enc (nth x3 x4)).toArray),(27,U),(28,iV x4),(29,iV (W (x4 - 1))),(30,.pointer (some ⟨b4,((W (x4 - 1)).toNat) * 2,none⟩)),(31,.agg (Dh.enc (nth x3 (W (x4 - 1)))).toArray),(32,iV (Lj (nth x3 x4) (nth x3 (W (x4 - 1))))),(33,bV (decide ((Lj (nth x3 x4) (nth x3 (W (x4 - 1)))) < 0))),(34,bV (decide ((Lj (nth x3 x4) (nth x3 (W (x4 - 1)))) < 0)))] [true] rfl (subR rfl)
        exact Tn (⟨decide ((Lj (nth x3 x4) (nth x3 (W (x4 - 1)))) < 0),h,S.nf [true] rfl (subR rfl)⟩)
       ·replace h:=Rc h hb2
        refine Fo [] ([]) Tryz.mixed S rfl (by kernel_rfl) ?_;clear S;intro w9 hk4 hsel S
        refine Js [0,1,2,3,4,5,6,7,8,9,10,11,12,13,14,15,16] hsel (by kernel_rfl) rfl ?_
        clear hsel
        refine Fj S rfl (Rm (S.tm rfl)) rfl fun a S=>Fj S rfl (Rm (S.tm rfl)) rfl fun a S=>Fj S rfl (It (S.tm rfl) (S.tm rfl)) rfl fun a S=>Fj S rfl (Rm (S.tm rfl)) rfl ?_;clear S;intro a S
        iterate 12 (refine Rj S rfl rfl rfl rfl (Jk hb2) rfl ?_ rfl;clear S;intro a S)
        refine Fj S rfl (Mt hb2 (S.tm rfl) rfl) rfl fun a S=>Jc ?_
        replace S:=S.k7 0 1 2 3 8 9 34 rfl
        exact Tn (⟨false,h,S.nf [true] rfl (subR rfl)⟩)
      clear S h;rintro a w5 ⟨x5,h,S⟩;rw [hj3] at h;clear hj3 j3
      refine Tn (Fc h (S.tm rfl) (fun hb3 h=>?_) (fun hb3 h=>?_))
      ·refine wp_skip (Tn (Fs (wp_block ?_)))
       obtain ⟨hc3,h⟩:=Gu h
       obtain ⟨hc4,h⟩:=Gu h
       obtain ⟨hc5,h⟩:=Gu h
       obtain ⟨hc6,h⟩:=Gu h
       refine Fo [15,17] ([]) Tryz.mixed S rfl (by kernel_rfl) ?_;clear S;intro w14 hk9 hsel S
       refine Ee 0 S hsel rfl rfl (by kernel_rfl) (by kernel_rfl) rfl (fun _=>(Rm (S.tm rfl))) fun a S=>Ee 1 S hsel rfl rfl (by kernel_rfl) (by kernel_rfl) rfl (fun _=>(Rm (S.tm rfl))) fun a S=>Ee 2 S hsel rfl rfl (by kernel_rfl) (by kernel_rfl) rfl (fun _=>(Rm (S.tm rfl))) fun a S=>Ee 3 S hsel rfl rfl (by kernel_rfl) (by kernel_rfl) rfl (fun _=>(Rm (S.tm rfl))) fun a S=>Ee 4 S hsel rfl rfl (by kernel_rfl) (by kernel_rfl) rfl (fun _=>(Gp (S.tm rfl) rfl)) fun a S=>Ee 5 S hsel rfl rfl (by kernel_rfl) (by kernel_rfl) rfl (fun _=>(Rm (S.tm rfl))) fun a S=>Ee 6 S hsel rfl rfl (by kernel_rfl) (by kernel_rfl) rfl (fun _=>(Rm (S.tm rfl))) fun a S=>Ee 7 S hsel rfl rfl (by kernel_rfl) (by kernel_rfl) rfl (fun _=>(Gp (S.tm rfl) rfl)) ?_;clear S;intro a S
       obtain ⟨b9,hg9,hr9⟩:=Eu (a:=a) (x:=.tmp 42) (y:=.tmp 44) (ty:=0) Qk Dh.enc_ok S (i:=0) rfl (Dc hc3).1 (Dc hc3).2 (S.tm rfl) (S.tm rfl)
       refine Ee 8 S hsel rfl rfl (by kernel_rfl) (by kernel_rfl) rfl (fun _=>(hr9 _)) ?_;clear S;intro a S
       clear hr9
       refine De 9 S hsel rfl (by kernel_rfl) (by kernel_rfl) (by kernel_rfl) (by kernel_rfl) rfl (fun _ hw=>(Fb isAgg113 sizeOf113 (off:=((W (x4 - 1)).toNat) * 2) (o:=0) (part:=(Dh.enc (nth x3 (W (x4 - 1))))) rfl rfl (S.tm rfl) ((Kk Dh.enc_ok S (i:=0) rfl hg9 (Dc hc3).1 (Gt (e':=.own U 113 2 x3.length (x3.flatMap Dh.enc)))).kept hw))) fun a S=>Ee 10 S hsel rfl rfl (by kernel_rfl) (by kernel_rfl) rfl (fun _=>(Rm (S.tm rfl))) fun a S=>Ee 11 S hsel rfl rfl (by kernel_rfl) (by kernel_rfl) rfl (fun _=>(Rm (S.tm rfl))) ?_;clear S;intro a S
       obtain ⟨b10,hg10,hr10⟩:=Eu (a:=a) (x:=.tmp 47) (y:=.tmp 48) (ty:=0) Qk Dh.enc_ok S (i:=0) rfl (Dc hc4).1 (Dc hc4).2 (S.tm rfl) (S.tm rfl)
       refine Ee 12 S hsel rfl rfl (by kernel_rfl) (by kernel_rfl) rfl (fun _=>(hr10 _)) ?_;clear S;intro a S
       clear hr10
       refine De 13 S hsel rfl (by kernel_rfl) (by kernel_rfl) (by kernel_rfl) (by kernel_rfl) rfl (fun _ hw=>(Fb isAgg113 sizeOf113 (off:=x4.toNat * 2) (o:=0) (part:=(Dh.enc (nth x3 x4))) rfl rfl (S.tm rfl) ((Kk Dh.enc_ok S (i:=0) rfl hg10 (Dc hc4).1 (Gt (e':=.own U 113 2 x3.length (x3.flatMap Dh.enc)))).kept hw))) ?_;clear S;intro a S
       obtain ⟨b11,hg11,hr11⟩:=Eu (a:=a) (x:=.tmp 37) (y:=.tmp 38) (ty:=0) Qk Dh.enc_ok S (i:=0) rfl (Dc hc5).1 (Dc hc5).2 (S.tm rfl) (S.tm rfl)
       refine Ee 14 S hsel rfl rfl (by kernel_rfl) (by kernel_rfl) rfl (fun _=>(hr11 _)) ?_;clear S;intro a S
       clear hr11
       refine Rf 15 (U.ownBlock.toList) rfl (by kernel_rfl) rfl (Le (c:=0) (j:=x4.toNat) (nth x3 (W (x4 - 1))) Dh.enc_ok S (S.tm rfl) (S.tm rfl) (i:=0) rfl hg11 (Dc hc5).1 sizeOf113 (vs:=[sV ((nth x3 (W (x4 - 1))).Who),iV ((nth x3 (W (x4 - 1))).Time)]) rfl rfl rfl rfl rfl ?_);clear S;intro w16 hk11 S
       refine Ld (Rh ?_)
       obtain ⟨b12,hg12,hr12⟩:=Eu (a:=a) (x:=.tmp 39) (y:=.tmp 41) (ty:=0) Qk Dh.enc_ok S (i:=0) rfl (Dc hc6).1 (Dc hc6).2 (S.tm rfl) (S.tm rfl)
       refine De 16 S hsel rfl rfl rfl (by kernel_rfl) (by kernel_rfl) rfl (fun _ hw=>(hr12 _)) ?_;clear S;intro a S
       clear hr12
       refine Ff 17 (by kernel_rfl) rfl (Le (c:=0) (j:=(W (x4 - 1)).toNat) (nth x3 x4) Dh.enc_ok S (S.tm rfl) (S.tm rfl) (i:=0) rfl hg12 (Dc hc6).1 sizeOf113 (vs:=[sV ((nth x3 x4).Who),iV ((nth x3 x4).Time)]) rfl rfl rfl rfl rfl ?_);clear S;intro w18 hk13 S
       refine Ld (Gl hk13 (Se (by kernel_rfl) ?_))
       clear hsel
       replace S:=(S.nl [.own U 113 2 ((x3.set x4.toNat (nth x3 (W (x4 - 1)))).set ((W (x4 - 1)).toNat) (nth x3 x4)).length (((x3.set x4.toNat (nth x3 (W (x4 - 1)))).set ((W (x4 - 1)).toNat) (nth x3 x4)).flatMap Dh.enc)] [true] rfl).k6 0 1 2 3 8 9 rfl
       exact Gy (Tn (Fg (Vm S rfl rfl fun a S=>Vq S Gp rfl rfl rfl fun a S=>Va S rfl rfl fun a S=>Dl (⟨m2,⟨((x3.set x4.toNat (nth x3 (W (x4 - 1)))).set ((W (x4 - 1)).toNat) (nth x3 x4)),W (x4 - 1),h,S.nf [true] rfl ⟨rfl,rfl,rfl,rfl,rfl,rfl,trivial⟩⟩,Nat.lt_succ_self _⟩))))
      ·exact wp_exit (Dt (Dt (Gh (Tn (⟨x3,h,S.nf [true] rfl (subR rfl)⟩)))))
    clear S h;rintro a w4 ⟨x3,h,S⟩;rw [hj2] at h;clear hj2 j2
    exact Gy (Tn (Fg (Vm S rfl rfl fun a S=>Vq S Fa rfl rfl rfl fun a S=>Va S rfl rfl fun a S=>Dl (⟨m1,⟨x3,W (x2 + 1),h,S.nf [true] rfl ⟨rfl,rfl,rfl,rfl,rfl,trivial⟩⟩,Nat.lt_succ_self _⟩))))
   ·exact wp_exit (Dt (Dt (Gh (Tn (⟨x1,h,S.nf [true] rfl trivial⟩)))))
 clear S h;rintro a w2 ⟨x1,h,S⟩;rw [hj1] at h;clear hj1 j1
 obtain rfl:=Option.some.inj h
 exact Ph S results154 ⟨(S.holds _ (List.mem_of_getElem? (i:=0) rfl)),rfl⟩
theorem On (w : World) (U : Value) (Af : List Dh) (Bb : (LEnt.own U 113 2 Af.length (Af.flatMap Dh.enc)).holds w) (Av : Int) (r : (List Dh)) (h : Ia Af Av = some r) :
    Calls prog 138 [U,iV Av,.func (.func 118) #[] #[]].toArray w (Ret w (U.ownBlock.toList) fun _ v w'=>(LEnt.own U 113 2 r.length (r.flatMap Dh.enc)).holds w' ∧ v = .tuple #[]):=by
 refine Iy (U.ownBlock.toList) [.own U 113 2 Af.length (Af.flatMap Dh.enc)] func138 rfl ntmps138 rfl (fun e he=>by simp only [List.mem_singleton] at he;subst he;exact Bb) (Hb _) (Ip _) fun a S=>?_
 unfold Ia at h
 replace S:=(S.nl [.own U 113 2 Af.length (Af.flatMap Dh.enc)] [true] rfl).k3 0 1 2 rfl
 refine Fr (Vk S rfl rfl fun a S=>Dz (Vm S rfl rfl fun a S=>Vk S rfl rfl fun a S=>Va S rfl rfl fun a S=>Ld ?_))
 refine Tn (Fs ?_)
 replace S:=S.k6 0 1 2 6 7 8 rfl
 obtain ⟨j1,hj1,h⟩:=Eo h
 refine Dy (fun a w'=>∃ x1 : List Dh,∃ x2 : Int,j1 x1 x2 = some r ∧ Sx w (U.ownBlock.toList) nov [.own U 113 2 x1.length (x1.flatMap Dh.enc)] [(0,U),(1,iV Av),(2,.func (.func 118) #[] #[]),(6,iV 20),(7,iV x2)] 63 a w') ?_ ?_
 ·refine wp_block (Gs (fun (m1 : Nat) a w'=>∃ x1 : List Dh,∃ x2 : Int,∃ x3 : Int,Em Av j1 m1 x1 x2 x3 = some r ∧ Sx w (U.ownBlock.toList) nov [.own U 113 2 x1.length (x1.flatMap Dh.enc)] [(0,U),(1,iV Av),(2,.func (.func 118) #[] #[]),(6,iV 20),(7,iV x2),(8,iV x3)] 63 a w') id ((Av - 20).toNat + 2) ⟨Af,0,20,h,S.nf [true] rfl (subR rfl)⟩ ?_)
  clear S h;rintro m1 a w1 ⟨x1,x2,x3,h,S⟩
  cases m1 with
  | zero=>rw [Em.eq_1] at h;cases h
  | succ m1 =>
   rw [Em.eq_2] at h
   refine Fs (Fr (Vm S rfl rfl fun a S=>Vm S rfl rfl fun a S=>Vb S Qt rfl rfl rfl fun a S=>Dl (Fc h (S.tm rfl) (fun hb1 h=>?_) (fun hb1 h=>?_))))
   ·refine wp_skip (Tn (wp_block (Fs (Fg ?_))))
    iterate 4 (refine Vm S rfl rfl ?_;clear S;intro a S)
    obtain ⟨r1,hr1,h⟩:=Ej h
    refine Km 0 S rfl (fun _=>.own U 113 2 r1.length (r1.flatMap Dh.enc)) (fun _=>Cz (vs:=[U,iV x2,iV x3,.func (.func 118) #[] #[]]) ⟨(S.tm rfl),(S.tm rfl),(S.tm rfl),(S.tm rfl),trivial⟩ call154) (Jv _ U x1 (S.holds _ (List.mem_of_getElem? (i:=0) rfl)) x2 x3 _ hr1) rfl (fun _ _ _ h=>⟨h.1,fun _ hc=>hc⟩) ?_;clear S;intro v1 a w3 hv1 hk1 hn1 S
    replace hv1:=hv1.2
    subst hv1
    refine Dz (Vm S rfl rfl fun a S=>Va S rfl rfl fun a S=>Ld ?_)
    replace S:=(S.nl [.own U 113 2 r1.length (r1.flatMap Dh.enc)] [true] rfl).k6 0 1 2 6 7 8 rfl
    exact Tn (Fg (Vm S rfl rfl fun a S=>Vm S rfl rfl fun a S=>Vb S Fa rfl rfl rfl fun a S=>Va S rfl rfl fun a S=>Ld (Gy (Tn (⟨m1,⟨r1,x3,W (x3 + 20),h,S.nf [true] rfl ⟨rfl,rfl,rfl,rfl,rfl,rfl,trivial⟩⟩,Nat.lt_succ_self _⟩)))))
   ·exact wp_exit (Dt (Dt (Gh (Tn (⟨x1,x2,h,S.nf [true] rfl (subR rfl)⟩)))))
 clear S h;rintro a w2 ⟨x1,x2,h,S⟩;rw [hj1] at h;clear hj1 j1
 refine Tn (Fs (Fg ?_))
 iterate 4 (refine Vm S rfl rfl ?_;clear S;intro a S)
 obtain ⟨r2,hr2,h⟩:=Ej h
 refine Km 0 S rfl (fun _=>.own U 113 2 r2.length (r2.flatMap Dh.enc)) (fun _=>Cz (vs:=[U,iV x2,iV Av,.func (.func 118) #[] #[]]) ⟨(S.tm rfl),(S.tm rfl),(S.tm rfl),(S.tm rfl),trivial⟩ call154) (Jv _ U x1 (S.holds _ (List.mem_of_getElem? (i:=0) rfl)) x2 Av _ hr2) rfl (fun _ _ _ h=>⟨h.1,fun _ hc=>hc⟩) ?_;clear S;intro v2 a w4 hv2 hk2 hn2 S
 replace hv2:=hv2.2
 subst hv2
 refine Dl ?_
 replace S:=(S.nl [.own U 113 2 r2.length (r2.flatMap Dh.enc)] [true] rfl).k2 1 6 rfl
 obtain ⟨j2,hj2,h⟩:=Eo h
 refine Dy (fun a w'=>j2 = some r ∧ Sx w (U.ownBlock.toList) nov [.own U 113 2 r2.length (r2.flatMap Dh.enc)] [] 63 a w') ?_ ?_
 ·refine wp_block (Gs (fun (m2 : Nat) a w'=>∃ x4 : Int,En Av j2 m2 x4 = some r ∧ Sx w (U.ownBlock.toList) nov [.own U 113 2 r2.length (r2.flatMap Dh.enc)] [(1,iV Av),(6,iV x4)] 63 a w') id ((Av - 20).toNat + 2) ⟨20,h,S.nf [true] rfl (subR rfl)⟩ ?_)
  clear S h;rintro m2 a w5 ⟨x4,h,S⟩
  cases m2 with
  | zero=>rw [En.eq_1] at h;cases h
  | succ m2 =>
   rw [En.eq_2] at h
   refine Fs (Fr (Vm S rfl rfl fun a S=>Vm S rfl rfl fun a S=>Vb S Ev rfl rfl rfl fun a S=>Dl (Fc h (S.tm rfl) (fun hb2 h=>?_) (fun hb2 h=>?_))))
   ·refine wp_skip (Tn (wp_block (Fr (Vm S rfl rfl fun a S=>Vu S (Wo rfl) rfl rfl fun a S=>Vk S rfl rfl fun a S=>Va S rfl rfl fun a S=>Dl ?_))))
    refine Fs ?_
    replace S:=S.k4 1 6 7 8 rfl
    obtain ⟨j3,hj3,h⟩:=Eo h
    refine Dy (fun a w'=>∃ x5 : Int,j3 x5 = some r ∧ Sx w (U.ownBlock.toList) nov [.own U 113 2 r2.length (r2.flatMap Dh.enc)] [(1,iV Av),(6,iV x4),(7,iV x5)] 63 a w') ?_ ?_
    ·refine wp_block (Gs (fun (m3 : Nat) a w'=>∃ x5 : Int,∃ x6 : Int,Fl Av j3 m3 x5 x6 = some r ∧ Sx w (U.ownBlock.toList) nov [.own U 113 2 r2.length (r2.flatMap Dh.enc)] [(1,iV Av),(6,iV x4),(7,iV x5),(8,iV x6)] 63 a w') id ((Av - (W (2 * x4))).toNat + 2) ⟨0,W (2 * x4),h,S.nf [true] rfl (subR rfl)⟩ ?_)
     clear S h;rintro m3 a w7 ⟨x5,x6,h,S⟩
     cases m3 with
     | zero=>rw [Fl.eq_1] at h;cases h
     | succ m3 =>
      rw [Fl.eq_2] at h
      refine Fs (Fr (Vm S rfl rfl fun a S=>Vm S rfl rfl fun a S=>Vb S Qt rfl rfl rfl fun a S=>Dl (Fc h (S.tm rfl) (fun hb3 h=>?_) (fun hb3 h=>?_))))
      ·refine wp_skip (Tn (wp_block (Fs ?_)))
       cases h
      ·exact wp_exit (Dt (Dt (Gh (Tn (⟨x5,h,S.nf [true] rfl (subR rfl)⟩)))))
    clear S h;rintro a w8 ⟨x5,h,S⟩;rw [hj3] at h;clear hj3 j3
    refine Tn (Fs (Fr (Vm S rfl rfl fun a S=>Vm S rfl rfl fun a S=>Vb S Fa rfl rfl rfl fun a S=>Va S rfl rfl fun a S=>Dl (Fs ?_))))
    refine Fg (Vm S rfl rfl fun a S=>Vm S rfl rfl fun a S=>Vb S Ev rfl rfl rfl fun a S=>Dl (Fc h (S.tm rfl) (fun hb4 h=>?_) (fun hb4 h=>?_)))
    ·cases h
    ·exact wp_skip (Tn (Fg (Vm S rfl rfl fun a S=>Vq S Wo rfl rfl rfl fun a S=>Va S rfl rfl fun a S=>Ld (Gy (Tn (⟨m2,⟨W (x4 * 2),h,S.nf [true] rfl ⟨rfl,rfl,trivial⟩⟩,Nat.lt_succ_self _⟩))))))
   ·exact wp_exit (Dt (Dt (Gh (Tn (⟨h,S.nf [true] rfl trivial⟩)))))
 clear S h;rintro a w6 ⟨h,S⟩;rw [hj2] at h;clear hj2 j2
 obtain rfl:=Option.some.inj h
 exact Ph S results138 ⟨(S.holds _ (List.mem_of_getElem? (i:=0) rfl)),rfl⟩
theorem Og (w : World) (Au : Value) (Ab : List Dh) (By : (LEnt.own Au 113 2 Ab.length (Ab.flatMap Dh.enc)).holds w) (r : (List Dh)) (h : Gx Ab = some r) :
    Calls prog 117 [Au,.func (.func 118) #[] #[]].toArray w (Ret w (Au.ownBlock.toList) fun _ v w'=>(LEnt.own Au 113 2 r.length (r.flatMap Dh.enc)).holds w' ∧ v = .tuple #[]):=by
 refine Iy (Au.ownBlock.toList) [.own Au 113 2 Ab.length (Ab.flatMap Dh.enc)] func117 rfl ntmps117 rfl (fun e he=>by simp only [List.mem_singleton] at he;subst he;exact By) (Hb _) (Ip _) fun a S=>?_
 unfold Gx at h
 replace S:=(S.nl [.own Au 113 2 Ab.length (Ab.flatMap Dh.enc)] [true] rfl).k2 0 1 rfl
 refine Fg (Vm S rfl rfl fun a S=>Vm S rfl rfl fun a S=>lv S (Fi Qk (S.tm rfl) (Iz (S.own_at (i:=0) rfl))) rfl fun a S=>Vm S rfl rfl ?_);clear S;intro a S
 obtain ⟨r1,hr1,h⟩:=Ej h
 refine Km 0 S rfl (fun _=>.own Au 113 2 r1.length (r1.flatMap Dh.enc)) (fun _=>Cz (vs:=[Au,iV (Ab.length : Int),.func (.func 118) #[] #[]]) ⟨(S.tm rfl),(S.tm rfl),(S.tm rfl),trivial⟩ call138) (On _ Au Ab (S.holds _ (List.mem_of_getElem? (i:=0) rfl)) (Ab.length : Int) _ hr1) rfl (fun _ _ _ h=>⟨h.1,fun _ hc=>hc⟩) ?_;clear S;intro v1 a w1 hv1 hk1 hn1 S
 replace hv1:=hv1.2
 subst hv1
 refine Ld ?_
 obtain rfl:=Option.some.inj h
 exact Ph S results117 ⟨(S.holds _ (List.mem_of_getElem? (i:=0) rfl)),rfl⟩
theorem BN (w : World) (Ac : Value) (Ae : List Dh) (Ah : Slc (view w []) 2 Ac (Ae.map Dh.enc)) (r : (List Dh)) (h : Lh Ae = some r) :
    Calls prog 91 [Ac].toArray w (Ret w [] fun τ v _=>Pq τ 113 2 v r.length (r.flatMap Dh.enc)):=by
 refine Fe func91 rfl ntmps91 rfl fun a S=>?_
 unfold Lh at h
 replace S:=S.k1 0 rfl
 refine Fr (Vk S rfl rfl fun a S=>Dz (Vm S rfl rfl ?_));clear S;intro a S
 obtain ⟨r1,hr1,h⟩:=Ej h
 have hz1:=S.keep.size
 refine Dd S (fun _=>Cz (vs:=[Ac]) ⟨(S.tm rfl),trivial⟩ call116) (Xg _ Ac Ae (Ah.mono (S.le_arg Ey)) _ hr1) rfl ?_;clear S;intro v1 a w1 hv1 hk1 hn1 S
 replace S:=S.take hn1 hz1 hv1
 refine Va S rfl rfl fun a S=>Dz (Vm S rfl rfl ?_);clear S;intro a S
 obtain ⟨r2,hr2,h⟩:=Ej h
 refine Km 0 S rfl (fun _=>.own v1 113 2 r2.length (r2.flatMap Dh.enc)) (fun _=>Cz (vs:=[v1,.func (.func 118) #[] #[]]) ⟨(S.tm rfl),rfl,trivial⟩ call117) (Og _ v1 r1 (S.holds _ (List.mem_of_getElem? (i:=0) rfl)) _ hr2) rfl (fun _ _ _ h=>⟨h.1,fun _ hc=>hc⟩) ?_;clear S;intro v2 a w2 hv2 hk2 hn2 S
 replace hv2:=hv2.2
 subst hv2
 refine Dz (Vm S rfl rfl fun a S=>Va S rfl rfl fun a S=>Dl (wp_ret ?_))
 obtain rfl:=Option.some.inj h
 exact Ds S results91 rfl (Rg S (i:=0) rfl rfl)
theorem Xi (w : World) (Bd : Int) (Cs : Int) (Cu : Int) (r : Int) (h : Qz Bd Cs Cu = r) :
    Calls prog 92 [iV Bd,iV Cs,iV Cu].toArray w (Ret w [] fun _ v _=>v = iV r):=by
 refine Fe func92 rfl ntmps92 rfl fun a S=>?_
 unfold Qz at h
 replace S:=S.k3 0 1 2 rfl
 refine Fr (Vk S rfl rfl fun a S=>Dl (Fs (Fr (Vm S rfl rfl fun a S=>Vm S rfl rfl fun a S=>Vb S Hj rfl rfl rfl ?_))));clear S;intro a S
 refine Dl (Fc h (S.tm rfl) (fun hb1 h=>?_) (fun hb1 h=>?_))
 ·refine Fr (Vm S rfl rfl fun a S=>Vq S Gp rfl rfl rfl fun a S=>Va S rfl rfl fun a S=>Dl (wp_ret (Db ?_)))
  subst h
  exact Ds S results92 rfl rfl
 ·refine wp_skip (Tn (Fr (Vm S rfl rfl fun a S=>Vq S Gp rfl rfl rfl fun a S=>Va S rfl rfl fun a S=>Dl (wp_ret ?_))))
  subst h
  exact Ds S results92 rfl rfl
theorem BO (w : World) (Aa : El) (r : (List Int)) (h : Vw Aa = some r) :
    Calls prog 120 [.agg (El.enc Aa).toArray].toArray w (Ret w [] fun τ v _=>Pq τ 3 1 v r.length (r.flatMap eInt)):=by
 refine Fe func120 rfl ntmps120 rfl fun a S=>?_
 unfold Vw at h
 replace S:=S.k1 0 rfl
 refine Fr (Ks S (S.tm rfl) (cs:=(El.enc Aa)) rfl rfl ?_);clear S;intro a w1 b1 hz1 hk1 S
 refine Vk S rfl rfl fun a S=>Dz (Vf Wa S rfl rfl fun a S=>Vl isAgg3 0 S rfl rfl rfl rfl fun a S=>Vf Ui S rfl rfl fun a S=>Vl isAgg3 0 S rfl rfl rfl rfl fun a S=>Vb S Fa rfl rfl rfl fun a S=>lv S (HK (S.tm rfl) rfl (by decide)) rfl ?_);clear S;intro a S
 refine Va S rfl rfl fun a S=>Dz (Vm S rfl rfl fun a S=>Dv S underlying22 sizeOf3 zeroValue3 rfl rfl (pv:=[(0,iV (W (Int.tdiv (W (Aa.Low + Aa.High)) 2)))]) ⟨rfl,(S.tm rfl),trivial⟩ (cs:=[iV (W (Int.tdiv (W (Aa.Low + Aa.High)) 2))]) (by kernel_rfl) rfl ?_);clear S;intro a w2 b2 hz2 hk2 S
 refine Va S rfl rfl fun a S=>Dl (Fs (Fr (Vk S rfl rfl fun a S=>Dl ?_)))
 replace S:=(S.nl [.blk b2 [iV (W (Int.tdiv (W (Aa.Low + Aa.High)) 2))] 3,.blk b1 (El.enc Aa) 38] [true,true] rfl).k4 1 3 4 5 rfl
 replace S:=S.litOwn (i:=0) (xs:=[W (Int.tdiv (W (Aa.Low + Aa.High)) 2)]) rfl Fd rfl rfl rfl
 replace S:=S.nk [.own (.slice (some ⟨b2,0,none⟩) 1 1) 3 1 ([W (Int.tdiv (W (Aa.Low + Aa.High)) 2)] : List Int).length (([W (Int.tdiv (W (Aa.Low + Aa.High)) 2)] : List Int).flatMap eInt),.blk b1 (El.enc Aa) 38] [(1,.pointer (some ⟨b1,0,none⟩)),(3,iV (W (Int.tdiv (W (Aa.Low + Aa.High)) 2))),(4,(.slice (some ⟨b2,0,none⟩) 1 1)),(5,iV 1)] [] rfl (subR rfl)
 obtain ⟨j1,hj1,h⟩:=Eo h
 refine Dy (fun a w'=>∃ x1 : List Int,∃ v1 : Value,j1 x1 = some r ∧ Sx w [] nov [.own v1 3 1 x1.length (x1.flatMap eInt),.blk b1 (El.enc Aa) 38] [(4,v1)] 50 a w') ?_ ?_
 ·refine wp_block (Gs (fun (m1 : Nat) a w'=>∃ x1 : List Int,∃ x2 : Int,∃ v1 : Value,Lk Aa j1 m1 x1 x2 = some r ∧ Sx w [] nov [.own v1 3 1 x1.length (x1.flatMap eInt),.blk b1 (El.enc Aa) 38] [(1,.pointer (some ⟨b1,0,none⟩)),(3,iV (W (Int.tdiv (W (Aa.Low + Aa.High)) 2))),(4,v1),(5,iV x2)] 50 a w') id (((W ((W (Aa.High - Aa.Low)) + 1)) - (([W (Int.tdiv (W (Aa.Low + Aa.High)) 2)] : List Int).length : Int)).toNat + 2) ⟨([W (Int.tdiv (W (Aa.Low + Aa.High)) 2)] : List Int),1,(.slice (some ⟨b2,0,none⟩) 1 1),h,S.nf [true,true] rfl (subR rfl)⟩ ?_)
  clear S h;rintro m1 a w3 ⟨x1,x2,v1,h,S⟩
  cases m1 with
  | zero=>rw [Lk.eq_1] at h;cases h
  | succ m1 =>
   rw [Lk.eq_2] at h
   refine Fs (Fr (Vm S rfl rfl fun a S=>lv S (Fi Jr (S.tm rfl) (Iz (S.own_at (i:=0) rfl))) rfl fun a S=>Vf Ui S rfl rfl fun a S=>Vl isAgg3 1 S rfl rfl rfl rfl fun a S=>Vf Wa S rfl rfl fun a S=>Vl isAgg3 1 S rfl rfl rfl rfl fun a S=>Vb S Gp rfl rfl rfl fun a S=>Vq S Fa rfl rfl rfl ?_));clear S;intro a S
   refine Vb S Ev rfl rfl rfl fun a S=>Dl (Fc h (S.tm rfl) (fun hb1 h=>?_) (fun hb1 h=>?_))
   ·refine wp_skip (Tn (Fs ?_))
    obtain ⟨j2,hj2,h⟩:=Eo h
    refine Dy (fun a w'=>∃ x3 : List Int,∃ v2 : Value,j2 x3 = some r ∧ Sx w [] nov [.own v2 3 1 x3.length (x3.flatMap eInt),.blk b1 (El.enc Aa) 38] [(1,.pointer (some ⟨b1,0,none⟩)),(3,iV (W (Int.tdiv (W (Aa.Low + Aa.High)) 2))),(4,v2),(5,iV x2)] 50 a w') ?_ ?_
    ·refine wp_block (Fs (Fr (Vm S rfl rfl fun a S=>Vm S rfl rfl fun a S=>Vb S Fa rfl rfl rfl fun a S=>Vf Ui S rfl rfl fun a S=>Vl isAgg3 1 S rfl rfl rfl rfl fun a S=>Vb S Qt rfl rfl rfl fun a S=>Ld ?_)))
     replace S:=S.k5 1 3 4 5 30 rfl
     refine Tn ?_
     obtain ⟨j3,hj3,h⟩:=Eo h
     refine Dy (fun a w'=>∃ x4 : List Int,∃ v3 : Value,j3 x4 = some r ∧ Sx w [] nov [.own v3 3 1 x4.length (x4.flatMap eInt),.blk b1 (El.enc Aa) 38] [(1,.pointer (some ⟨b1,0,none⟩)),(3,iV (W (Int.tdiv (W (Aa.Low + Aa.High)) 2))),(4,v3),(5,iV x2)] 50 a w') ?_ ?_
     ·refine Fc h (S.tm rfl) (fun hb2 h=>?_) (fun hb2 h=>?_)
      ·refine Fg ?_
       iterate 3 (refine Vm S rfl rfl ?_;clear S;intro a S)
       refine Vb S Fa rfl rfl rfl fun a S=>Dv S underlying22 sizeOf3 zeroValue3 rfl rfl (pv:=[(0,iV (W ((W (Int.tdiv (W (Aa.Low + Aa.High)) 2)) + x2)))]) ⟨rfl,(S.tm rfl),trivial⟩ (cs:=[iV (W ((W (Int.tdiv (W (Aa.Low + Aa.High)) 2)) + x2))]) (by kernel_rfl) rfl ?_;clear S;intro a w7 b3 hz3 hk3 S
       obtain ⟨hc1,h⟩:=Gu h
       refine Lq Jr Fd S (S.tm rfl) (i:=1) rfl (S.tm rfl) (j:=0) rfl (ys:=[W ((W (Int.tdiv (W (Aa.Low + Aa.High)) 2)) + x2)]) rfl rfl rfl rfl (by have:=Nm hc1;omega) rfl ?_;clear S;intro v4 a w8 hk4 S
       exact Va S rfl rfl fun a S=>Dl (⟨(x1 ++ [W ((W (Int.tdiv (W (Aa.Low + Aa.High)) 2)) + x2)]),v4,h,S.nf [false,true,true] rfl (subR rfl)⟩)
      ·exact wp_skip (Tn (⟨x1,v1,h,S.nf [true,true] rfl (subR rfl)⟩))
     clear S h;rintro a w6 ⟨x4,v3,h,S⟩;rw [hj3] at h;clear hj3 j3
     refine Tn (Fr (Vm S rfl rfl fun a S=>Vm S rfl rfl fun a S=>Vb S Gp rfl rfl rfl fun a S=>Vf Wa S rfl rfl fun a S=>Vl isAgg3 1 S rfl rfl rfl rfl fun a S=>Vb S Nj rfl rfl rfl fun a S=>Dl ?_))
     obtain ⟨j4,hj4,h⟩:=Eo h
     refine Dy (fun a w'=>∃ x5 : List Int,∃ v5 : Value,j4 x5 = some r ∧ Sx w [] nov [.own v5 3 1 x5.length (x5.flatMap eInt),.blk b1 (El.enc Aa) 38] [(1,.pointer (some ⟨b1,0,none⟩)),(3,iV (W (Int.tdiv (W (Aa.Low + Aa.High)) 2))),(4,v5),(5,iV x2)] 50 a w') ?_ ?_
     ·refine Fc h (S.tm rfl) (fun hb3 h=>?_) (fun hb3 h=>?_)
      ·refine Fg ?_
       iterate 3 (refine Vm S rfl rfl ?_;clear S;intro a S)
       refine Vb S Gp rfl rfl rfl fun a S=>Dv S underlying22 sizeOf3 zeroValue3 rfl rfl (pv:=[(0,iV (W ((W (Int.tdiv (W (Aa.Low + Aa.High)) 2)) - x2)))]) ⟨rfl,(S.tm rfl),trivial⟩ (cs:=[iV (W ((W (Int.tdiv (W (Aa.Low + Aa.High)) 2)) - x2))]) (by kernel_rfl) rfl ?_;clear S;intro a w10 b4 hz4 hk5 S
       obtain ⟨hc2,h⟩:=Gu h
       refine Lq Jr Fd S (S.tm rfl) (i:=1) rfl (S.tm rfl) (j:=0) rfl (ys:=[W ((W (Int.tdiv (W (Aa.Low + Aa.High)) 2)) - x2)]) rfl rfl rfl rfl (by have:=Nm hc2;omega) rfl ?_;clear S;intro v6 a w11 hk6 S
       refine Va S rfl rfl fun a S=>Ld ?_
       replace S:=(S.nl [.own v6 3 1 (x4 ++ [W ((W (Int.tdiv (W (Aa.Low + Aa.High)) 2)) - x2)]).length ((x4 ++ [W ((W (Int.tdiv (W (Aa.Low + Aa.High)) 2)) - x2)]).flatMap eInt),.blk b1 (El.enc Aa) 38] [false,true,true] rfl).k4 1 3 4 5 rfl
       exact Tn (⟨(x4 ++ [W ((W (Int.tdiv (W (Aa.Low + Aa.High)) 2)) - x2)]),v6,h,S.nf [true,true] rfl (subR rfl)⟩)
      ·exact wp_skip (Tn (⟨x4,v3,h,S.nf [true,true] rfl (subR rfl)⟩))
     clear S h;rintro a w9 ⟨x5,v5,h,S⟩;rw [hj4] at h;clear hj4 j4
     exact Gy (Tn (⟨x5,v5,h,S.nf [true,true] rfl (subR rfl)⟩))
    clear S h;rintro a w5 ⟨x3,v2,h,S⟩;rw [hj2] at h;clear hj2 j2
    exact Tn (Fg (Vm S rfl rfl fun a S=>Vq S Fa rfl rfl rfl fun a S=>Va S rfl rfl fun a S=>Dl (⟨m1,⟨x3,W (x2 + 1),v2,h,S.nf [true,true] rfl ⟨rfl,rfl,rfl,rfl,trivial⟩⟩,Nat.lt_succ_self _⟩)))
   ·exact wp_exit (Dt (Dt (Gh (Tn (⟨x1,v1,h,S.nf [true,true] rfl ⟨rfl,trivial⟩⟩)))))
 clear S h;rintro a w4 ⟨x1,v1,h,S⟩;rw [hj1] at h;clear hj1 j1
 refine Tn (Fr (Vm S rfl rfl fun a S=>Va S rfl rfl fun a S=>Dl (wp_ret ?_)))
 obtain rfl:=Option.some.inj h
 exact Ds S results120 rfl (Rg S (i:=0) rfl rfl)
set_option maxRecDepth 20000 in
theorem Sg (w : World) (Aj : Df) (Am : Df) (r : Int) (h : Jj Aj Am = r) :
    Calls prog 59 [.agg (Df.enc Aj).toArray,.agg (Df.enc Am).toArray].toArray w (Ret w [] fun _ v _=>v = iV r):=by
 refine Fe func59 rfl ntmps59 rfl fun a S=>?_
 unfold Jj at h
 replace S:=S.k2 0 1 rfl
 refine Fr (Ks S (S.tm rfl) (cs:=(Df.enc Aj)) rfl rfl ?_);clear S;intro a w1 b1 hz1 hk1 S
 refine Ks S (S.tm rfl) (cs:=(Df.enc Am)) rfl rfl ?_;clear S;intro a w2 b2 hz2 hk2 S
 refine Vk S rfl rfl fun a S=>Dl (Fs (Fo [] ([]) Tryz.mixed S rfl (by kernel_rfl) ?_));clear S;intro w7 hk7 hsel S
 refine De 0 S hsel rfl rfl rfl (by kernel_rfl) (by kernel_rfl) rfl (fun _ hw=>(Fp Xx (S.tm rfl))) fun a S=>De 1 S hsel rfl rfl rfl (by kernel_rfl) (by kernel_rfl) rfl (fun _ hw=>(Gj isAgg3 (off:=0) (o:=1) (S.tm rfl) ((S.blk_mem (i:=1) (cells:=(Df.enc Aj)) (b:=b1) (T:=47) rfl (Gt (e':=.blk b1 (Df.enc Aj) 47))).kept hw) rfl)) fun a S=>De 2 S hsel rfl rfl rfl (by kernel_rfl) (by kernel_rfl) rfl (fun _ hw=>(Fp Xx (S.tm rfl))) fun a S=>De 3 S hsel rfl rfl rfl (by kernel_rfl) (by kernel_rfl) rfl (fun _ hw=>(Gj isAgg3 (off:=0) (o:=1) (S.tm rfl) ((S.blk_mem (i:=0) (cells:=(Df.enc Am)) (b:=b2) (T:=47) rfl (Gt (e':=.blk b2 (Df.enc Am) 47))).kept hw) rfl)) fun a S=>De 5 S hsel rfl rfl rfl (by kernel_rfl) (by kernel_rfl) rfl (fun _ hw=>(Fp FP (S.tm rfl))) fun a S=>De 6 S hsel rfl rfl rfl (by kernel_rfl) (by kernel_rfl) rfl (fun _ hw=>(Gj isAgg3 (off:=0) (o:=2) (S.tm rfl) ((S.blk_mem (i:=1) (cells:=(Df.enc Aj)) (b:=b1) (T:=47) rfl (Gt (e':=.blk b1 (Df.enc Aj) 47))).kept hw) rfl)) fun a S=>De 7 S hsel rfl rfl rfl (by kernel_rfl) (by kernel_rfl) rfl (fun _ hw=>(Fp FP (S.tm rfl))) fun a S=>De 8 S hsel rfl rfl rfl (by kernel_rfl) (by kernel_rfl) rfl (fun _ hw=>(Gj isAgg3 (off:=0) (o:=2) (S.tm rfl) ((S.blk_mem (i:=0) (cells:=(Df.enc Am)) (b:=b2) (T:=47) rfl (Gt (e':=.blk b2 (Df.enc Am) 47))).kept hw) rfl)) fun a S=>Ff 4 (by kernel_rfl) rfl (Dd S (fun _=>Cz (vs:=[iV Aj.Heat,iV Am.Heat]) ⟨(S.tm rfl),(S.tm rfl),trivial⟩ call98) (Ng _ Aj.Heat Am.Heat _ rfl) rfl ?_);clear S;intro v4 a w8 hv4 hk8 hn4 S
 subst hv4
 refine Ld (Gl hk8 (Ff 9 (by kernel_rfl) rfl (Dd S (fun _=>Cz (vs:=[iV Aj.Lane,iV Am.Lane]) ⟨(S.tm rfl),(S.tm rfl),trivial⟩ call98) (Ng _ Aj.Lane Am.Lane _ rfl) rfl ?_)));clear S;intro v5 a w9 hv5 hk9 hn5 S
 subst hv5
 refine Ld (Gl hk9 (Ff 10 (by kernel_rfl) rfl (Dv S underlying22 sizeOf3 zeroValue3 rfl rfl (pv:=[(0,iV (Fk Aj.Heat Am.Heat)),(1,iV (Fk Aj.Lane Am.Lane))]) ⟨rfl,(S.tm rfl),rfl,(S.tm rfl),trivial⟩ (cs:=[iV (Fk Aj.Heat Am.Heat),iV (Fk Aj.Lane Am.Lane)]) (by kernel_rfl) rfl ?_)));clear S;intro a w10 b4 hz4 hk10 S
 refine Ld (Gl hk10 (Ff 11 (by kernel_rfl) rfl (Dd S (fun _=>Cz (vs:=[.slice (some ⟨b4,0,none⟩) 2 2]) ⟨(S.tm rfl),trivial⟩ call97) (Yr _ (.slice (some ⟨b4,0,none⟩) 2 2) [(Fk Aj.Heat Am.Heat),(Fk Aj.Lane Am.Lane)] (Ib Fd S (i:=0) rfl rfl rfl rfl ((Gt (e':=.blk b4 [iV (Fk Aj.Heat Am.Heat),iV (Fk Aj.Lane Am.Lane)] 3)) _ rfl)) _ rfl) rfl ?_)));clear S;intro v6 a w11 hv6 hk11 hn6 S
 subst hv6
 refine Ld (Gl hk11 (Js [12] hsel (by kernel_rfl) rfl ?_))
 clear hsel
 refine Fj S rfl (Ra (S.tm rfl)) rfl fun a S=>Jc ?_
 replace S:=S.n0.k1 4 rfl
 refine Tn (wp_ret ?_)
 subst h
 exact Ds S results59 rfl rfl
set_option maxRecDepth 20000 in
theorem Ma (w : World) (U : Value) (Af : List Df) (Bb : (LEnt.own U 47 3 Af.length (Af.flatMap Df.enc)).holds w) (Aj : Int) (Am : Int) (r : (List Df)) (h : Ht Af Aj Am = some r) :
    Calls prog 165 [U,iV Aj,iV Am,.func (.func 59) #[] #[]].toArray w (Ret w (U.ownBlock.toList) fun _ v w'=>(LEnt.own U 47 3 r.length (r.flatMap Df.enc)).holds w' ∧ v = .tuple #[]):=by
 refine Iy (U.ownBlock.toList) [.own U 47 3 Af.length (Af.flatMap Df.enc)] func165 rfl ntmps165 rfl (fun e he=>by simp only [List.mem_singleton] at he;subst he;exact Bb) (Hb _) (Ip _) fun a S=>?_
 unfold Ht at h
 replace S:=(S.nl [.own U 47 3 Af.length (Af.flatMap Df.enc)] [true] rfl).k4 0 1 2 3 rfl
 refine Fr (Vm S rfl rfl fun a S=>Vq S Fa rfl rfl rfl fun a S=>Va S rfl rfl fun a S=>Dl ?_)
 replace S:=S.k5 0 1 2 3 8 rfl
 obtain ⟨j1,hj1,h⟩:=Eo h
 refine Dy (fun a w'=>∃ x1 : List Df,j1 x1 = some r ∧ Sx w (U.ownBlock.toList) nov [.own U 47 3 x1.length (x1.flatMap Df.enc)] [] 53 a w') ?_ ?_
 ·refine wp_block (Gs (fun (m1 : Nat) a w'=>∃ x1 : List Df,∃ x2 : Int,Ec Am Aj j1 m1 x1 x2 = some r ∧ Sx w (U.ownBlock.toList) nov [.own U 47 3 x1.length (x1.flatMap Df.enc)] [(0,U),(1,iV Aj),(2,iV Am),(3,.func (.func 59) #[] #[]),(8,iV x2)] 53 a w') id ((Am - (W (Aj + 1))).toNat + 2) ⟨Af,W (Aj + 1),h,S.nf [true] rfl (subR rfl)⟩ ?_)
  clear S h;rintro m1 a w1 ⟨x1,x2,h,S⟩
  cases m1 with
  | zero=>rw [Ec.eq_1] at h;cases h
  | succ m1 =>
   rw [Ec.eq_2] at h
   refine Fs (Fr (Vm S rfl rfl fun a S=>Vm S rfl rfl fun a S=>Vb S Ev rfl rfl rfl fun a S=>Dl (Fc h (S.tm rfl) (fun hb1 h=>?_) (fun hb1 h=>?_))))
   ·refine wp_skip (Tn (Fs (wp_block (Fr (Vm S rfl rfl fun a S=>Va S rfl rfl fun a S=>Dl ?_)))))
    replace S:=S.k6 0 1 2 3 8 9 rfl
    obtain ⟨j2,hj2,h⟩:=Eo h
    refine Dy (fun a w'=>∃ x3 : List Df,j2 x3 = some r ∧ Sx w (U.ownBlock.toList) nov [.own U 47 3 x3.length (x3.flatMap Df.enc)] [(0,U),(1,iV Aj),(2,iV Am),(3,.func (.func 59) #[] #[]),(8,iV x2)] 53 a w') ?_ ?_
    ·refine wp_block (Gs (fun (m2 : Nat) a w'=>∃ x3 : List Df,∃ x4 : Int,Eb Aj j2 m2 x3 x4 = some r ∧ Sx w (U.ownBlock.toList) nov [.own U 47 3 x3.length (x3.flatMap Df.enc)] [(0,U),(1,iV Aj),(2,iV Am),(3,.func (.func 59) #[] #[]),(8,iV x2),(9,iV x4)] 53 a w') id ((x2 - Aj).toNat + 2) ⟨x1,x2,h,S.nf [true] rfl (subR rfl)⟩ ?_)
     clear S h;rintro m2 a w3 ⟨x3,x4,h,S⟩
     cases m2 with
     | zero=>rw [Eb.eq_1] at h;cases h
     | succ m2 =>
      rw [Eb.eq_2] at h
      refine Fs (Fs ?_)
      obtain ⟨j3,hj3,h⟩:=Eo h
      refine Dy (fun a w'=>∃ x5 : Bool,j3 x5 = some r ∧ Sx w (U.ownBlock.toList) nov [.own U 47 3 x3.length (x3.flatMap Df.enc)] [(0,U),(1,iV Aj),(2,iV Am),(3,.func (.func 59) #[] #[]),(8,iV x2),(9,iV x4),(34,bV x5)] 53 a w') ?_ ?_
      ·rcases Bool.eq_false_or_eq_true (decide (Aj < x4)) with hb2 | hb2
       ·replace h:=Rb h hb2
        obtain ⟨hc1,h⟩:=Gu h
        obtain ⟨hc2,h⟩:=Gu h
        refine Fo [] ([]) Tryz.mixed S rfl (by kernel_rfl) ?_;clear S;intro w7 hk2 hsel S
        refine De 0 S hsel rfl rfl rfl (by kernel_rfl) (by kernel_rfl) rfl (fun _ hw=>(Rm (S.tm rfl))) fun a S=>De 1 S hsel rfl rfl rfl (by kernel_rfl) (by kernel_rfl) rfl (fun _ hw=>(Rm (S.tm rfl))) fun a S=>De 2 S hsel rfl rfl rfl (by kernel_rfl) (by kernel_rfl) rfl (fun _ hw=>(It (S.tm rfl) (S.tm rfl))) fun a S=>De 3 S hsel rfl rfl rfl (by kernel_rfl) (by kernel_rfl) rfl (fun _ hw=>(Rm (S.tm rfl))) fun a S=>Dj 4 S hsel rfl rfl rfl rfl hb2 rfl rfl (by kernel_rfl) (by kernel_rfl) rfl (fun _ hw=>(Rm (S.tm rfl))) fun a S=>Dj 5 S hsel rfl rfl rfl rfl hb2 rfl rfl (by kernel_rfl) (by kernel_rfl) rfl (fun _ hw=>(Rm (S.tm rfl))) fun a S=>Dj 6 S hsel rfl rfl rfl rfl hb2 rfl rfl (by kernel_rfl) (by kernel_rfl) rfl (fun _ hw=>(Rm (S.tm rfl))) ?_;clear S;intro a S
        obtain ⟨b3,hg3,hr3⟩:=Eu (a:=a) (x:=.tmp 23) (y:=.tmp 24) (ty:=0) Tf Df.enc_ok S (i:=0) rfl (Dc hc1).1 (Dc hc1).2 (S.tm rfl) (S.tm rfl)
        refine Dj 7 S hsel rfl rfl rfl rfl hb2 rfl rfl (by kernel_rfl) (by kernel_rfl) rfl (fun _ hw=>(hr3 _)) ?_;clear S;intro a S
        clear hr3
        refine Dj 8 S hsel rfl rfl rfl rfl hb2 rfl rfl (by kernel_rfl) (by kernel_rfl) rfl (fun _ hw=>(Fb isAgg47 sizeOf47 (off:=x4.toNat * 3) (o:=0) (part:=(Df.enc (nth x3 x4))) rfl rfl (S.tm rfl) ((Kk Df.enc_ok S (i:=0) rfl hg3 (Dc hc1).1 (Gt (e':=.own U 47 3 x3.length (x3.flatMap Df.enc)))).kept hw))) fun a S=>Dj 9 S hsel rfl rfl rfl rfl hb2 rfl rfl (by kernel_rfl) (by kernel_rfl) rfl (fun _ hw=>(Rm (S.tm rfl))) fun a S=>Dj 10 S hsel rfl rfl rfl rfl hb2 rfl rfl (by kernel_rfl) (by kernel_rfl) rfl (fun _ hw=>(Rm (S.tm rfl))) fun a S=>Dj 11 S hsel rfl rfl rfl rfl hb2 rfl rfl (by kernel_rfl) (by kernel_rfl) rfl (fun _ hw=>(Gp (S.tm rfl) rfl)) ?_;clear S;intro a S
        obtain ⟨b4,hg4,hr4⟩:=Eu (a:=a) (x:=.tmp 27) (y:=.tmp 29) (ty:=0) Tf Df.enc_ok S (i:=0) rfl (Dc hc2).1 (Dc hc2).2 (S.tm rfl) (S.tm rfl)
        refine Dj 12 S hsel rfl rfl rfl rfl hb2 rfl rfl (by kernel_rfl) (by kernel_rfl) rfl (fun _ hw=>(hr4 _)) ?_;clear S;intro a S
        clear hr4
        refine Dj 13 S hsel rfl rfl rfl rfl hb2 rfl rfl (by kernel_rfl) (by kernel_rfl) rfl (fun _ hw=>(Fb isAgg47 sizeOf47 (off:=((W (x4 - 1)).toNat) * 3) (o:=0) (part:=(Df.enc (nth x3 (W (x4 - 1))))) rfl rfl (S.tm rfl) ((Kk Df.enc_ok S (i:=0) rfl hg4 (Dc hc2).1 (Gt (e':=.own U 47 3 x3.length (x3.flatMap Df.enc)))).kept hw))) fun a S=>Ff 14 (by kernel_rfl) rfl (Da S rfl rfl rfl hb2 (Dd S (fun _=>Si (cap:=[]) (S.tm rfl) (vs:=[.agg (Df.enc (nth x3 x4)).toArray,.agg (Df.enc (nth x3 (W (x4 - 1)))).toArray]) ⟨(S.tm rfl),(S.tm rfl),trivial⟩ call59) (Sg _ (nth x3 x4) (nth x3 (W (x4 - 1))) _ rfl) rfl ?_));clear S;intro v2 a w8 hv2 hk3 hn2 S
        subst hv2
        refine Ld (Gl hk3 (Js [15,16] hsel (by kernel_rfl) rfl ?_))
        clear hsel
        refine Lx S rfl rfl rfl rfl hb2 (Ok S (Ev (S.tm rfl) rfl) rfl fun a S=>Fj S rfl (Ms hb2 (S.tm rfl) (S.tm rfl)) rfl fun a S=>Jc ?_)
        replace S:=S.nk [.own U 47 3 x3.length (x3.flatMap Df.enc)] [(0,U),(1,iV Aj),(2,iV Am),(3,.func (.func 59) #[] #[]),(8,iV x2),(9,iV x4),(22,.func (.func 59) #[] #[]),(23,U),(24,iV x4),(25,.pointer (some ⟨b3,x4.toNat * 3,none⟩)),(26,.agg (Df.enc (nth x3 x4)).toArray),(27,U),(28,iV x4),(29,iV (W (x4 - 1))),(30,.pointer (some ⟨b4,((W (x4 - 1)).toNat) * 3,none⟩)),(31,.agg (Df.enc (nth x3 (W (x4 - 1)))).toArray),(32,iV (Jj (nth x3 x4) (nth x3 (W (x4 - 1))))),(33,bV (decide ((Jj (nth x3 x4) (nth x3 (W (x4 - 1)))) < 0))),(34,bV (decide ((Jj (nth x3 x4) (nth x3 (W (x4 - 1)))) < 0)))] [true] rfl (subR rfl)
        exact Tn (⟨decide ((Jj (nth x3 x4) (nth x3 (W (x4 - 1)))) < 0),h,S.nf [true] rfl (subR rfl)⟩)
       ·replace h:=Rc h hb2
        refine Fo [] ([]) Tryz.mixed S rfl (by kernel_rfl) ?_;clear S;intro w9 hk4 hsel S
        refine Js [0,1,2,3,4,5,6,7,8,9,10,11,12,13,14,15,16] hsel (by kernel_rfl) rfl ?_
        clear hsel
        refine Fj S rfl (Rm (S.tm rfl)) rfl fun a S=>Fj S rfl (Rm (S.tm rfl)) rfl fun a S=>Fj S rfl (It (S.tm rfl) (S.tm rfl)) rfl fun a S=>Fj S rfl (Rm (S.tm rfl)) rfl ?_;clear S;intro a S
        iterate 12 (refine Rj S rfl rfl rfl rfl (Jk hb2) rfl ?_ rfl;clear S;intro a S)
        refine Fj S rfl (Mt hb2 (S.tm rfl) rfl) rfl fun a S=>Jc ?_
        replace S:=S.k7 0 1 2 3 8 9 34 rfl
        exact Tn (⟨false,h,S.nf [true] rfl (subR rfl)⟩)
      clear S h;rintro a w5 ⟨x5,h,S⟩;rw [hj3] at h;clear hj3 j3
      refine Tn (Fc h (S.tm rfl) (fun hb3 h=>?_) (fun hb3 h=>?_))
      ·refine wp_skip (Tn (Fs (wp_block ?_)))
       obtain ⟨hc3,h⟩:=Gu h
       obtain ⟨hc4,h⟩:=Gu h
       obtain ⟨hc5,h⟩:=Gu h
       obtain ⟨hc6,h⟩:=Gu h
       refine Fo [15,17] ([]) Tryz.mixed S rfl (by kernel_rfl) ?_;clear S;intro w14 hk9 hsel S
       refine Ee 0 S hsel rfl rfl (by kernel_rfl) (by kernel_rfl) rfl (fun _=>(Rm (S.tm rfl))) fun a S=>Ee 1 S hsel rfl rfl (by kernel_rfl) (by kernel_rfl) rfl (fun _=>(Rm (S.tm rfl))) fun a S=>Ee 2 S hsel rfl rfl (by kernel_rfl) (by kernel_rfl) rfl (fun _=>(Rm (S.tm rfl))) fun a S=>Ee 3 S hsel rfl rfl (by kernel_rfl) (by kernel_rfl) rfl (fun _=>(Rm (S.tm rfl))) fun a S=>Ee 4 S hsel rfl rfl (by kernel_rfl) (by kernel_rfl) rfl (fun _=>(Gp (S.tm rfl) rfl)) fun a S=>Ee 5 S hsel rfl rfl (by kernel_rfl) (by kernel_rfl) rfl (fun _=>(Rm (S.tm rfl))) fun a S=>Ee 6 S hsel rfl rfl (by kernel_rfl) (by kernel_rfl) rfl (fun _=>(Rm (S.tm rfl))) fun a S=>Ee 7 S hsel rfl rfl (by kernel_rfl) (by kernel_rfl) rfl (fun _=>(Gp (S.tm rfl) rfl)) ?_;clear S;intro a S
       obtain ⟨b9,hg9,hr9⟩:=Eu (a:=a) (x:=.tmp 42) (y:=.tmp 44) (ty:=0) Tf Df.enc_ok S (i:=0) rfl (Dc hc3).1 (Dc hc3).2 (S.tm rfl) (S.tm rfl)
       refine Ee 8 S hsel rfl rfl (by kernel_rfl) (by kernel_rfl) rfl (fun _=>(hr9 _)) ?_;clear S;intro a S
       clear hr9
       refine De 9 S hsel rfl (by kernel_rfl) (by kernel_rfl) (by kernel_rfl) (by kernel_rfl) rfl (fun _ hw=>(Fb isAgg47 sizeOf47 (off:=((W (x4 - 1)).toNat) * 3) (o:=0) (part:=(Df.enc (nth x3 (W (x4 - 1))))) rfl rfl (S.tm rfl) ((Kk Df.enc_ok S (i:=0) rfl hg9 (Dc hc3).1 (Gt (e':=.own U 47 3 x3.length (x3.flatMap Df.enc)))).kept hw))) fun a S=>Ee 10 S hsel rfl rfl (by kernel_rfl) (by kernel_rfl) rfl (fun _=>(Rm (S.tm rfl))) fun a S=>Ee 11 S hsel rfl rfl (by kernel_rfl) (by kernel_rfl) rfl (fun _=>(Rm (S.tm rfl))) ?_;clear S;intro a S
       obtain ⟨b10,hg10,hr10⟩:=Eu (a:=a) (x:=.tmp 47) (y:=.tmp 48) (ty:=0) Tf Df.enc_ok S (i:=0) rfl (Dc hc4).1 (Dc hc4).2 (S.tm rfl) (S.tm rfl)
       refine Ee 12 S hsel rfl rfl (by kernel_rfl) (by kernel_rfl) rfl (fun _=>(hr10 _)) ?_;clear S;intro a S
       clear hr10
       refine De 13 S hsel rfl (by kernel_rfl) (by kernel_rfl) (by kernel_rfl) (by kernel_rfl) rfl (fun _ hw=>(Fb isAgg47 sizeOf47 (off:=x4.toNat * 3) (o:=0) (part:=(Df.enc (nth x3 x4))) rfl rfl (S.tm rfl) ((Kk Df.enc_ok S (i:=0) rfl hg10 (Dc hc4).1 (Gt (e':=.own U 47 3 x3.length (x3.flatMap Df.enc)))).kept hw))) ?_;clear S;intro a S
       obtain ⟨b11,hg11,hr11⟩:=Eu (a:=a) (x:=.tmp 37) (y:=.tmp 38) (ty:=0) Tf Df.enc_ok S (i:=0) rfl (Dc hc5).1 (Dc hc5).2 (S.tm rfl) (S.tm rfl)
       refine Ee 14 S hsel rfl rfl (by kernel_rfl) (by kernel_rfl) rfl (fun _=>(hr11 _)) ?_;clear S;intro a S
       clear hr11
       refine Rf 15 (U.ownBlock.toList) rfl (by kernel_rfl) rfl (Le (c:=0) (j:=x4.toNat) (nth x3 (W (x4 - 1))) Df.enc_ok S (S.tm rfl) (S.tm rfl) (i:=0) rfl hg11 (Dc hc5).1 sizeOf47 (vs:=[sV ((nth x3 (W (x4 - 1))).Who),iV ((nth x3 (W (x4 - 1))).Heat),iV ((nth x3 (W (x4 - 1))).Lane)]) rfl rfl rfl rfl rfl ?_);clear S;intro w16 hk11 S
       refine Ld (Rh ?_)
       obtain ⟨b12,hg12,hr12⟩:=Eu (a:=a) (x:=.tmp 39) (y:=.tmp 41) (ty:=0) Tf Df.enc_ok S (i:=0) rfl (Dc hc6).1 (Dc hc6).2 (S.tm rfl) (S.tm rfl)
       refine De 16 S hsel rfl rfl rfl (by kernel_rfl) (by kernel_rfl) rfl (fun _ hw=>(hr12 _)) ?_;clear S;intro a S
       clear hr12
       refine Ff 17 (by kernel_rfl) rfl (Le (c:=0) (j:=(W (x4 - 1)).toNat) (nth x3 x4) Df.enc_ok S (S.tm rfl) (S.tm rfl) (i:=0) rfl hg12 (Dc hc6).1 sizeOf47 (vs:=[sV ((nth x3 x4).Who),iV ((nth x3 x4).Heat),iV ((nth x3 x4).Lane)]) rfl rfl rfl rfl rfl ?_);clear S;intro w18 hk13 S
       refine Ld (Gl hk13 (Se (by kernel_rfl) ?_))
       clear hsel
       replace S:=(S.nl [.own U 47 3 ((x3.set x4.toNat (nth x3 (W (x4 - 1)))).set ((W (x4 - 1)).toNat) (nth x3 x4)).length (((x3.set x4.toNat (nth x3 (W (x4 - 1)))).set ((W (x4 - 1)).toNat) (nth x3 x4)).flatMap Df.enc)] [true] rfl).k6 0 1 2 3 8 9 rfl
       exact Gy (Tn (Fg (Vm S rfl rfl fun a S=>Vq S Gp rfl rfl rfl fun a S=>Va S rfl rfl fun a S=>Dl (⟨m2,⟨((x3.set x4.toNat (nth x3 (W (x4 - 1)))).set ((W (x4 - 1)).toNat) (nth x3 x4)),W (x4 - 1),h,S.nf [true] rfl ⟨rfl,rfl,rfl,rfl,rfl,rfl,trivial⟩⟩,Nat.lt_succ_self _⟩))))
      ·exact wp_exit (Dt (Dt (Gh (Tn (⟨x3,h,S.nf [true] rfl (subR rfl)⟩)))))
    clear S h;rintro a w4 ⟨x3,h,S⟩;rw [hj2] at h;clear hj2 j2
    exact Gy (Tn (Fg (Vm S rfl rfl fun a S=>Vq S Fa rfl rfl rfl fun a S=>Va S rfl rfl fun a S=>Dl (⟨m1,⟨x3,W (x2 + 1),h,S.nf [true] rfl ⟨rfl,rfl,rfl,rfl,rfl,trivial⟩⟩,Nat.lt_succ_self _⟩))))
   ·exact wp_exit (Dt (Dt (Gh (Tn (⟨x1,h,S.nf [true] rfl trivial⟩)))))
 clear S h;rintro a w2 ⟨x1,h,S⟩;rw [hj1] at h;clear hj1 j1
 obtain rfl:=Option.some.inj h
 exact Ph S results165 ⟨(S.holds _ (List.mem_of_getElem? (i:=0) rfl)),rfl⟩
theorem Ni (w : World) (U : Value) (Af : List Df) (Bb : (LEnt.own U 47 3 Af.length (Af.flatMap Df.enc)).holds w) (Aj : Int) (Am : Int) (Bt : Int) (r : (List Df)) (h : Ir Af Aj Am Bt = some r) :
    Calls prog 156 [U,iV Aj,iV Am,iV Bt,.func (.func 59) #[] #[]].toArray w (Ret w (U.ownBlock.toList) fun _ v w'=>(LEnt.own U 47 3 r.length (r.flatMap Df.enc)).holds w' ∧ v = .tuple #[]):=by
 refine Iy (U.ownBlock.toList) [.own U 47 3 Af.length (Af.flatMap Df.enc)] func156 rfl ntmps156 rfl (fun e he=>by simp only [List.mem_singleton] at he;subst he;exact Bb) (Hb _) (Ip _) fun a S=>?_
 unfold Ir at h
 replace S:=(S.nl [.own U 47 3 Af.length (Af.flatMap Df.enc)] [true] rfl).k5 0 1 2 3 4 rfl
 refine Fr (Vk S rfl rfl fun a S=>Dz (Vk S rfl rfl fun a S=>Dl ?_))
 replace S:=S.k6 0 1 2 3 4 10 rfl
 refine Dy (fun a w'=>False) ?_ ?_
 ·refine wp_block (Gs (fun (m1 : Nat) a w'=>∃ x1 : Int,∃ x2 : Int,∃ x3 : Int,∃ x4 : Bool,Ew Af m1 x1 x2 x3 x4 = some r ∧ Sx w (U.ownBlock.toList) nov [.own U 47 3 Af.length (Af.flatMap Df.enc)] [(0,U),(1,iV x1),(2,iV x2),(3,iV x3),(4,.func (.func 59) #[] #[]),(10,bV x4)] 148 a w') id 4611686018427387904 ⟨Aj,Am,Bt,true,h,S.nf [true] rfl (subR rfl)⟩ ?_)
  clear S h;rintro m1 a w1 ⟨x1,x2,x3,x4,h,S⟩
  cases m1 with
  | zero=>rw [Ew.eq_1] at h;cases h
  | succ m1 =>
   rw [Ew.eq_2] at h
   refine wp_block (Fr (Vm S rfl rfl fun a S=>Vm S rfl rfl fun a S=>Vb S Gp rfl rfl rfl fun a S=>Va S rfl rfl fun a S=>Dl (Fs (Fs ?_))))
   refine Fg (Vm S rfl rfl fun a S=>Vq S Qt rfl rfl rfl fun a S=>Dl (Fc h (S.tm rfl) (fun hb1 h=>?_) (fun hb1 h=>?_)))
   ·refine Fs (Fg ?_)
    iterate 4 (refine Vm S rfl rfl ?_;clear S;intro a S)
    obtain ⟨r1,hr1,h⟩:=Ej h
    refine Km 0 S rfl (fun _=>.own U 47 3 r1.length (r1.flatMap Df.enc)) (fun _=>Cz (vs:=[U,iV x1,iV x2,.func (.func 59) #[] #[]]) ⟨(S.tm rfl),(S.tm rfl),(S.tm rfl),(S.tm rfl),trivial⟩ call165) (Ma _ U Af (S.holds _ (List.mem_of_getElem? (i:=0) rfl)) x1 x2 _ hr1) rfl (fun _ _ _ h=>⟨h.1,fun _ hc=>hc⟩) ?_;clear S;intro v1 a w3 hv1 hk1 hn1 S
    replace hv1:=hv1.2
    subst hv1
    refine Ld ?_
    replace S:=(S.nl [.own U 47 3 r1.length (r1.flatMap Df.enc)] [true] rfl).k0
    refine Tn (wp_ret (Db (Gc (Db (Gc (Db ?_))))))
    obtain rfl:=Option.some.inj h
    exact Ph S results156 ⟨(S.holds _ (List.mem_of_getElem? (i:=0) rfl)),rfl⟩
   ·refine wp_skip (Tn (Fs (Fr (Vm S rfl rfl fun a S=>Vq S Hj rfl rfl rfl fun a S=>Dl (Fc h (S.tm rfl) (fun hb2 h=>?_) (fun hb2 h=>?_))))))
    ·refine Fs ?_
     cases h
    ·refine wp_skip (Tn (Fs (Fr (Vm S rfl rfl fun a S=>Vu S Gk rfl rfl fun a S=>Ld ?_))))
     replace S:=S.k1 39 rfl
     refine Tn (Fc h (S.tm rfl) (fun hb3 h=>?_) (fun hb3 h=>?_))
     ·refine Fs ?_
      cases h
     ·refine wp_skip (Tn (Fs ?_))
      cases h
 exact fun _ _ h=>h.elim
theorem Oo (w : World) (Au : Value) (Ab : List Df) (By : (LEnt.own Au 47 3 Ab.length (Ab.flatMap Df.enc)).holds w) (r : (List Df)) (h : Jt Ab = some r) :
    Calls prog 139 [Au,.func (.func 59) #[] #[]].toArray w (Ret w (Au.ownBlock.toList) fun _ v w'=>(LEnt.own Au 47 3 r.length (r.flatMap Df.enc)).holds w' ∧ v = .tuple #[]):=by
 refine Iy (Au.ownBlock.toList) [.own Au 47 3 Ab.length (Ab.flatMap Df.enc)] func139 rfl ntmps139 rfl (fun e he=>by simp only [List.mem_singleton] at he;subst he;exact By) (Hb _) (Ip _) fun a S=>?_
 unfold Jt at h
 replace S:=(S.nl [.own Au 47 3 Ab.length (Ab.flatMap Df.enc)] [true] rfl).k2 0 1 rfl
 refine Fr (Vm S rfl rfl fun a S=>lv S (Fi Tf (S.tm rfl) (Iz (S.own_at (i:=0) rfl))) rfl fun a S=>Va S rfl rfl fun a S=>Dl (Fg ?_))
 iterate 3 (refine Vm S rfl rfl ?_;clear S;intro a S)
 refine Vu S (Qn underlying3 underlying77) rfl rfl ?_;clear S;intro a S
 obtain ⟨r1,hr1,h⟩:=Ej h
 refine Dd S (fun _=>Cz (vs:=[.int .u64 (IntKind.wrap .u64 (Ab.length : Int))]) ⟨(S.tm rfl),trivial⟩ call28) (Xf _ (IntKind.wrap .u64 (Ab.length : Int)) _ hr1) rfl ?_;clear S;intro v1 a w1 hv1 hk1 hn1 S
 subst hv1
 refine Vm S rfl rfl ?_;clear S;intro a S
 obtain ⟨r2,hr2,h⟩:=Ej h
 refine Km 0 S rfl (fun _=>.own Au 47 3 r2.length (r2.flatMap Df.enc)) (fun _=>Cz (vs:=[Au,iV 0,iV (Ab.length : Int),iV r1,.func (.func 59) #[] #[]]) ⟨(S.tm rfl),rfl,(S.tm rfl),(S.tm rfl),(S.tm rfl),trivial⟩ call156) (Ni _ Au Ab (S.holds _ (List.mem_of_getElem? (i:=0) rfl)) 0 (Ab.length : Int) r1 _ hr2) rfl (fun _ _ _ h=>⟨h.1,fun _ hc=>hc⟩) ?_;clear S;intro v2 a w2 hv2 hk2 hn2 S
 replace hv2:=hv2.2
 subst hv2
 refine Ld ?_
 obtain rfl:=Option.some.inj h
 exact Ph S results139 ⟨(S.holds _ (List.mem_of_getElem? (i:=0) rfl)),rfl⟩
theorem Zg (w : World) (Ac : Value) (Ae : List Df) (Cw : (LEnt.own Ac 47 3 Ae.length (Ae.flatMap Df.enc)).holds w) (r : (List Df)) (h : Ta Ae = some r) :
    Calls prog 121 [Ac].toArray w (Ret w (Ac.ownBlock.toList) fun _ v w'=>(LEnt.own Ac 47 3 r.length (r.flatMap Df.enc)).holds w' ∧ v = .tuple #[]):=by
 refine Iy (Ac.ownBlock.toList) [.own Ac 47 3 Ae.length (Ae.flatMap Df.enc)] func121 rfl ntmps121 rfl (fun e he=>by simp only [List.mem_singleton] at he;subst he;exact Cw) (Hb _) (Ip _) fun a S=>?_
 unfold Ta at h
 replace S:=(S.nl [.own Ac 47 3 Ae.length (Ae.flatMap Df.enc)] [true] rfl).k1 0 rfl
 refine Fg (Vm S rfl rfl ?_);clear S;intro a S
 obtain ⟨r1,hr1,h⟩:=Ej h
 refine Km 0 S rfl (fun _=>.own Ac 47 3 r1.length (r1.flatMap Df.enc)) (fun _=>Cz (vs:=[Ac,.func (.func 59) #[] #[]]) ⟨(S.tm rfl),rfl,trivial⟩ call139) (Oo _ Ac Ae (S.holds _ (List.mem_of_getElem? (i:=0) rfl)) _ hr1) rfl (fun _ _ _ h=>⟨h.1,fun _ hc=>hc⟩) ?_;clear S;intro v1 a w1 hv1 hk1 hn1 S
 replace hv1:=hv1.2
 subst hv1
 refine Ld ?_
 obtain rfl:=Option.some.inj h
 exact Ph S results121 ⟨(S.holds _ (List.mem_of_getElem? (i:=0) rfl)),rfl⟩
end Go.Proofs.YtdndpbbimcilpaaGreatDoor
