/- Each Go function computes its plain twin,by program. -/
import Derived.Test.YtfcmmengcdebnaaGreatDoorWk1
namespace Go.Proofs.YtfcmmengcdebnaaGreatDoor
open Go
open Go.Proofs.Tryz
set_option maxRecDepth 20000 in
theorem EY (w : World) (Ac : Dk) (r : Int) (h : Qk Ac = some r) :
    Calls prog 79 [.agg (Dk.enc Ac).toArray].toArray w (Ret w [] fun _ v _=>v = iV r):=by
 refine Fe func79 rfl ntmps79 rfl fun a S=>?_
 unfold Qk at h
 replace S:=S.k1 0 rfl
 refine Fr (Mn S (S.tm rfl) (cs:=(Dk.enc Ac)) rfl rfl ?_);clear S;intro a w1 b1 hz1 hk1 S
 refine Vk S rfl rfl fun a S=>Dl (Fs (wp_block (Fr (Vf Pq S rfl rfl fun a S=>Vl isAgg9 0 S rfl rfl rfl rfl ?_))));clear S;intro a S
 obtain ⟨r1,hr1,h⟩:=Fa h
 refine Dw S (fun _=>Dp (vs:=[sV Ac.Site]) ⟨(S.tm rfl),trivial⟩ call95) (Ij _ Ac.Site _ hr1) rfl ?_;clear S;intro v1 a w2 hv1 hk2 hn1 S
 subst hv1
 refine Vu S Hj rfl rfl fun a S=>Va S rfl rfl fun a S=>Dl (Fc h (S.tm rfl) (fun hb1 h=>?_) (fun hb1 h=>?_))
 ·refine Fr (Vk S rfl rfl fun a S=>Dl (wp_ret (Fl (Dt ?_))))
  obtain rfl:=Option.some.inj h
  exact Ej S results79 rfl rfl
 ·refine Fr (Vf Sc S rfl rfl fun a S=>Vl isAgg3 0 S rfl rfl rfl rfl fun a S=>Dw S (fun _=>Dp (vs:=[iV Ac.No,iV 1,iV 1000000]) ⟨(S.tm rfl),rfl,rfl,trivial⟩ call55) (Fm _ Ac.No 1 1000000 _ rfl) rfl ?_);clear S;intro v2 a w3 hv2 hk3 hn2 S
  subst hv2
  refine Vu S Hj rfl rfl fun a S=>Vm S rfl rfl fun a S=>Hn 5 (fun a w'=>Keep [] w3 w' ∧ Sx w [] nov [.blk b1 (Dk.enc Ac) 101] [(1,.pointer (some ⟨b1,0,none⟩)),(22,bV ((!(Dv Ac.No 1 1000000)) || (!(Hz Ac.At))))] 152 a w') ?_ ?_
  ·rcases Bool.eq_false_or_eq_true (!(Dv Ac.No 1 1000000)) with hb2 | hb2
   ·iterate 4 (refine Gn S rfl rfl rfl (Kp hb2) rfl ?_ rfl;clear S;intro a S)
    exact lv S (Jq (!(Hz Ac.At)) hb2 (S.tm rfl) rfl) rfl fun a S=>Dl (⟨Keep.refl _ _,S.nf [true] rfl (subR rfl)⟩)
   ·refine Du S rfl rfl rfl hb2 (Vf Sr S rfl rfl fun a S=>Du S rfl rfl rfl hb2 (Vl isAgg3 0 S rfl rfl rfl rfl fun a S=>Du S rfl rfl rfl hb2 (Dw S (fun _=>Dp (vs:=[iV Ac.At]) ⟨(S.tm rfl),trivial⟩ call44) (Td _ Ac.At _ rfl) rfl ?_)));clear S;intro v3 a w5 hv3 hk4 hn3 S
    subst hv3
    exact Du S rfl rfl rfl hb2 (Vu S Hj rfl rfl fun a S=>lv S (Jr hb2 (S.tm rfl) (S.tm rfl)) rfl fun a S=>Dl (⟨hk4,S.nf [true] rfl (subR rfl)⟩))
  clear S;rintro a w4 ⟨hk5,S⟩
  refine Va S rfl rfl fun a S=>Dl (Fc h (S.tm rfl) (fun hb3 h=>?_) (fun hb3 h=>?_))
  ·refine Fr (Vk S rfl rfl fun a S=>Dl (wp_ret (Fl (Dt ?_))))
   obtain rfl:=Option.some.inj h
   exact Ej S results79 rfl rfl
  ·refine Fr (Vf Ok S rfl rfl fun a S=>Vl isAgg3 0 S rfl rfl rfl rfl fun a S=>Dw S (fun _=>Dp (vs:=[iV Ac.Kind,iV 1,iV 4]) ⟨(S.tm rfl),rfl,rfl,trivial⟩ call55) (Fm _ Ac.Kind 1 4 _ rfl) rfl ?_);clear S;intro v4 a w6 hv4 hk6 hn4 S
   subst hv4
   refine Vu S Hj rfl rfl fun a S=>Va S rfl rfl fun a S=>Dl (Fc h (S.tm rfl) (fun hb4 h=>?_) (fun hb4 h=>?_))
   ·refine Fr (Vk S rfl rfl fun a S=>Dl (wp_ret (Fl (Dt ?_))))
    obtain rfl:=Option.some.inj h
    exact Ej S results79 rfl rfl
   ·refine wp_skip (Ho (Tn (Fs (Hd [] ([]) Tryz.mixed S rfl (by kernel_rfl) ?_))));clear S;intro w7 hk7 hsel S
    refine Lw [0,1,2,3,4,5,6,7,8,9,10,11] hsel (by kernel_rfl) rfl ?_
    clear hsel
    refine Gm S rfl (Fy Ok (S.tm rfl)) rfl fun a S=>Gm S rfl (La isAgg3 (S.tm rfl) (S.cell (i:=0) rfl rfl)) rfl fun a S=>Gm S rfl (Im (S.tm rfl) rfl) rfl fun a S=>Gm S rfl (Fy Ok (S.tm rfl)) rfl fun a S=>Gm S rfl (La isAgg3 (S.tm rfl) (S.cell (i:=0) rfl rfl)) rfl fun a S=>Gm S rfl (Im (S.tm rfl) rfl) rfl fun a S=>Gm S rfl (Fy Ok (S.tm rfl)) rfl fun a S=>Gm S rfl (La isAgg3 (S.tm rfl) (S.cell (i:=0) rfl rfl)) rfl fun a S=>Gm S rfl (Im (S.tm rfl) rfl) rfl ?_;clear S;intro a S
    iterate 3 (refine Gm S rfl (Ra (S.tm rfl)) rfl ?_;clear S;intro a S)
    refine Hv ?_
    replace S:=(S.nl [.blk b1 (Dk.enc Ac) 101] [true] rfl).k4 1 3 4 5 rfl
    refine Tn (Fs (wp_block (Fs (Fr (Vm S rfl rfl fun a S=>Vu S Hj rfl rfl fun a S=>Vm S rfl rfl ?_)))));clear S;intro a S
    obtain ⟨j1,hj1,h⟩:=Ep h
    refine Hn 11 (fun a w'=>∃ c1,j1 c1 = some r ∧ Keep [] w7 w' ∧ Sx w [] nov [.blk b1 (Dk.enc Ac) 101] [(1,.pointer (some ⟨b1,0,none⟩)),(3,bV (decide (Ac.Kind = 1))),(4,bV (decide (Ac.Kind = 3))),(5,bV (decide (Ac.Kind = 4))),(51,bV c1)] 152 a w') ?_ ?_
    ·rcases Bool.eq_false_or_eq_true (!(decide (Ac.Kind = 4))) with hb5 | hb5
     ·replace h:=Qc h hb5
      refine Du S rfl rfl rfl hb5 (Vf Mq S rfl rfl fun a S=>Du S rfl rfl rfl hb5 (Vl isAgg9 0 S rfl rfl rfl rfl fun a S=>Du S rfl rfl rfl hb5 ?_))
      obtain ⟨r2,hr2,h⟩:=Fa h
      refine Dw S (fun _=>Dp (vs:=[sV Ac.Who]) ⟨(S.tm rfl),trivial⟩ call95) (Ij _ Ac.Who _ hr2) rfl ?_;clear S;intro v5 a w9 hv5 hk8 hn5 S
      subst hv5
      refine Du S rfl rfl rfl hb5 (Vu S Hj rfl rfl fun a S=>Du S rfl rfl rfl hb5 (Vm S rfl rfl ?_));clear S;intro a S
      obtain ⟨j2,hj2,h⟩:=Ep h
      refine Hn 5 (fun a w'=>∃ c2,j2 c2 = some r ∧ Keep [] w9 w' ∧ Sx w [] nov [.blk b1 (Dk.enc Ac) 101] [(1,.pointer (some ⟨b1,0,none⟩)),(3,bV (decide (Ac.Kind = 1))),(4,bV (decide (Ac.Kind = 3))),(5,bV (decide (Ac.Kind = 4))),(40,bV (!(decide (Ac.Kind = 4)))),(50,bV c2)] 152 a w') ?_ ?_
      ·rcases Bool.eq_false_or_eq_true (!r2) with hb6 | hb6
       ·replace h:=Qc h hb6
        iterate 4 (refine Gn S rfl rfl rfl (Kp hb6) rfl ?_ rfl;clear S;intro a S)
        exact Du S rfl rfl rfl hb5 (Vq S (Jq true hb6) rfl rfl rfl fun a S=>Dl (⟨_,h,Keep.refl _ _,S.nf [true] rfl (subR rfl)⟩))
       ·replace h:=Qd h hb6
        refine Du S rfl rfl rfl hb6 (Vf Re S rfl rfl fun a S=>Du S rfl rfl rfl hb6 (Vl isAgg9 0 S rfl rfl rfl rfl fun a S=>Du S rfl rfl rfl hb6 ?_))
        obtain ⟨r3,hr3,h⟩:=Fa h
        refine Dw S (fun _=>Dp (vs:=[sV Ac.Race]) ⟨(S.tm rfl),trivial⟩ call95) (Ij _ Ac.Race _ hr3) rfl ?_;clear S;intro v6 a w11 hv6 hk9 hn6 S
        subst hv6
        exact Du S rfl rfl rfl hb6 (Vu S Hj rfl rfl fun a S=>Du S rfl rfl rfl hb5 (lv S (Jr hb6 (S.tm rfl) (S.tm rfl)) rfl fun a S=>Dl (⟨_,h,hk9,S.nf [true] rfl (subR rfl)⟩)))
      clear S h;rintro a w10 ⟨c2,h,hk10,S⟩;rw [hj2] at h;clear hj2 j2
      exact lv S (Hg hb5 (S.tm rfl) (S.tm rfl)) rfl fun a S=>Dl (⟨_,h,(hk8).trans hk10,S.nf [true] rfl (subR rfl)⟩)
     ·replace h:=Qd h hb5
      iterate 5 (refine Gn S rfl rfl rfl (Jh hb5) rfl ?_ rfl;clear S;intro a S)
      iterate 4 (refine Xl S rfl rfl rfl rfl ?_;clear S;intro a S)
      exact Gn S rfl rfl rfl (Jh hb5) rfl (fun a S=>Vq S (Hh true hb5) rfl rfl rfl fun a S=>Dl (⟨_,h,Keep.refl _ _,S.nf [true] rfl (subR rfl)⟩)) rfl
    clear S h;rintro a w8 ⟨c1,h,hk11,S⟩;rw [hj1] at h;clear hj1 j1
    refine Va S rfl rfl fun a S=>Dl ?_
    obtain ⟨j3,hj3,h⟩:=Ep h
    refine Eg (fun a w'=>∃ x1 : Bool,j3 x1 = some r ∧ Sx w [] nov [.blk b1 (Dk.enc Ac) 101] [(1,.pointer (some ⟨b1,0,none⟩)),(3,bV (decide (Ac.Kind = 1))),(4,bV (decide (Ac.Kind = 3))),(5,bV (decide (Ac.Kind = 4))),(37,bV x1)] 152 a w') ?_ ?_
    ·refine Fc h (S.tm rfl) (fun hb7 h=>?_) (fun hb7 h=>?_)
     ·exact wp_skip (Tn (⟨c1,h,S.nf [true] rfl (subR rfl)⟩))
     ·refine Fg (Vm S rfl rfl fun a S=>Vm S rfl rfl fun a S=>Hn 4 (fun a w'=>Keep [] w8 w' ∧ Sx w [] nov [.blk b1 (Dk.enc Ac) 101] [(1,.pointer (some ⟨b1,0,none⟩)),(3,bV (decide (Ac.Kind = 1))),(4,bV (decide (Ac.Kind = 3))),(5,bV (decide (Ac.Kind = 4))),(57,bV ((decide (Ac.Kind = 1)) && (!decide (Ac.Club = An))))] 152 a w') ?_ ?_)
      ·rcases Bool.eq_false_or_eq_true (decide (Ac.Kind = 1)) with hb8 | hb8
       ·exact Du S rfl rfl rfl hb8 (Vf Tp S rfl rfl fun a S=>Du S rfl rfl rfl hb8 (Vl isAgg9 0 S rfl rfl rfl rfl fun a S=>Du S rfl rfl rfl hb8 (Vq S CE rfl rfl rfl fun a S=>lv S (Hg hb8 (S.tm rfl) (S.tm rfl)) rfl fun a S=>Dl (⟨Keep.refl _ _,S.nf [true] rfl (subR rfl)⟩))))
       ·iterate 3 (refine Gn S rfl rfl rfl (Jh hb8) rfl ?_ rfl;clear S;intro a S)
        exact lv S (Hh (!decide (Ac.Club = An)) hb8 (S.tm rfl) rfl) rfl fun a S=>Dl (⟨Keep.refl _ _,S.nf [true] rfl (subR rfl)⟩)
      clear S;rintro a w13 ⟨hk12,S⟩
      refine Vm S rfl rfl ?_;clear S;intro a S
      obtain ⟨j4,hj4,h⟩:=Ep h
      refine Hn 5 (fun a w'=>∃ c3,j4 c3 = some r ∧ Keep [] w13 w' ∧ Sx w [] nov [.blk b1 (Dk.enc Ac) 101] [(1,.pointer (some ⟨b1,0,none⟩)),(3,bV (decide (Ac.Kind = 1))),(4,bV (decide (Ac.Kind = 3))),(5,bV (decide (Ac.Kind = 4))),(63,bV c3)] 152 a w') ?_ ?_
      ·rcases Bool.eq_false_or_eq_true ((decide (Ac.Kind = 1)) && (!decide (Ac.Club = An))) with hb9 | hb9
       ·replace h:=Qc h hb9
        refine Du S rfl rfl rfl hb9 (Vf Tp S rfl rfl fun a S=>Du S rfl rfl rfl hb9 (Vl isAgg9 0 S rfl rfl rfl rfl fun a S=>Du S rfl rfl rfl hb9 ?_))
        obtain ⟨r4,hr4,h⟩:=Fa h
        refine Dw S (fun _=>Dp (vs:=[sV Ac.Club]) ⟨(S.tm rfl),trivial⟩ call95) (Ij _ Ac.Club _ hr4) rfl ?_;clear S;intro v7 a w15 hv7 hk13 hn7 S
        subst hv7
        exact Du S rfl rfl rfl hb9 (Vu S Hj rfl rfl fun a S=>lv S (Hg hb9 (S.tm rfl) (S.tm rfl)) rfl fun a S=>Dl (⟨_,h,hk13,S.nf [true] rfl (subR rfl)⟩))
       ·replace h:=Qd h hb9
        iterate 4 (refine Gn S rfl rfl rfl (Jh hb9) rfl ?_ rfl;clear S;intro a S)
        exact Vq S (Hh true hb9) rfl rfl rfl fun a S=>Dl (⟨_,h,Keep.refl _ _,S.nf [true] rfl (subR rfl)⟩)
      clear S h;rintro a w14 ⟨c3,h,hk14,S⟩;rw [hj4] at h;clear hj4 j4
      exact Va S rfl rfl fun a S=>Dl (⟨c3,h,S.nf [true] rfl (subR rfl)⟩)
    clear S h;rintro a w12 ⟨x1,h,S⟩;rw [hj3] at h;clear hj3 j3
    refine Tn (Fc h (S.tm rfl) (fun hb10 h=>?_) (fun hb10 h=>?_))
    ·refine Fr (Vk S rfl rfl fun a S=>Dl (wp_ret (Fl (Dt ?_))))
     obtain rfl:=Option.some.inj h
     exact Ej S results79 rfl rfl
    ·refine Fs (Fr (Vm S rfl rfl fun a S=>Vm S rfl rfl fun a S=>Hn 2 (fun a w'=>Keep [] w12 w' ∧ Sx w [] nov [.blk b1 (Dk.enc Ac) 101] [(1,.pointer (some ⟨b1,0,none⟩)),(3,bV (decide (Ac.Kind = 1))),(4,bV (decide (Ac.Kind = 3))),(5,bV (decide (Ac.Kind = 4))),(68,bV ((decide (Ac.Kind = 1)) || (decide (Ac.Kind = 3))))] 152 a w') ?_ ?_))
     ·rcases Bool.eq_false_or_eq_true (decide (Ac.Kind = 1)) with hb11 | hb11
      ·exact Gn S rfl rfl rfl (Kp hb11) rfl (fun a S=>lv S (Jq (decide (Ac.Kind = 3)) hb11 (S.tm rfl) rfl) rfl fun a S=>Dl (⟨Keep.refl _ _,S.nf [true] rfl (subR rfl)⟩)) rfl
      ·exact Du S rfl rfl rfl hb11 (Vm S rfl rfl fun a S=>lv S (Jr hb11 (S.tm rfl) (S.tm rfl)) rfl fun a S=>Dl (⟨Keep.refl _ _,S.nf [true] rfl (subR rfl)⟩))
     clear S;rintro a w16 ⟨hk15,S⟩
     refine Vm S rfl rfl fun a S=>Hn 5 (fun a w'=>Keep [] w16 w' ∧ Sx w [] nov [.blk b1 (Dk.enc Ac) 101] [(1,.pointer (some ⟨b1,0,none⟩)),(3,bV (decide (Ac.Kind = 1))),(4,bV (decide (Ac.Kind = 3))),(5,bV (decide (Ac.Kind = 4))),(74,bV (((decide (Ac.Kind = 1)) || (decide (Ac.Kind = 3))) && (!(Dv Ac.Time 0 360000))))] 152 a w') ?_ ?_
     ·rcases Bool.eq_false_or_eq_true ((decide (Ac.Kind = 1)) || (decide (Ac.Kind = 3))) with hb12 | hb12
      ·refine Du S rfl rfl rfl hb12 (Vf Sd S rfl rfl fun a S=>Du S rfl rfl rfl hb12 (Vl isAgg3 0 S rfl rfl rfl rfl fun a S=>Du S rfl rfl rfl hb12 (Dw S (fun _=>Dp (vs:=[iV Ac.Time,iV 0,iV 360000]) ⟨(S.tm rfl),rfl,rfl,trivial⟩ call55) (Fm _ Ac.Time 0 360000 _ rfl) rfl ?_)));clear S;intro v8 a w18 hv8 hk16 hn8 S
       subst hv8
       exact Du S rfl rfl rfl hb12 (Vu S Hj rfl rfl fun a S=>lv S (Hg hb12 (S.tm rfl) (S.tm rfl)) rfl fun a S=>Dl (⟨hk16,S.nf [true] rfl (subR rfl)⟩))
      ·iterate 4 (refine Gn S rfl rfl rfl (Jh hb12) rfl ?_ rfl;clear S;intro a S)
       exact lv S (Hh (!(Dv Ac.Time 0 360000)) hb12 (S.tm rfl) rfl) rfl fun a S=>Dl (⟨Keep.refl _ _,S.nf [true] rfl (subR rfl)⟩)
     clear S;rintro a w17 ⟨hk17,S⟩
     refine Va S rfl rfl fun a S=>Dl ?_
     obtain ⟨j5,hj5,h⟩:=Ep h
     refine Eg (fun a w'=>∃ x2 : Bool,j5 x2 = some r ∧ Sx w [] nov [.blk b1 (Dk.enc Ac) 101] [(1,.pointer (some ⟨b1,0,none⟩)),(3,bV (decide (Ac.Kind = 1))),(4,bV (decide (Ac.Kind = 3))),(5,bV (decide (Ac.Kind = 4))),(64,bV x2)] 152 a w') ?_ ?_
     ·refine Fc h (S.tm rfl) (fun hb13 h=>?_) (fun hb13 h=>?_)
      ·exact wp_skip (Tn (⟨(((decide (Ac.Kind = 1)) || (decide (Ac.Kind = 3))) && (!(Dv Ac.Time 0 360000))),h,S.nf [true] rfl (subR rfl)⟩))
      ·refine Fg (Vm S rfl rfl fun a S=>Vm S rfl rfl fun a S=>Hn 5 (fun a w'=>Keep [] w17 w' ∧ Sx w [] nov [.blk b1 (Dk.enc Ac) 101] [(1,.pointer (some ⟨b1,0,none⟩)),(3,bV (decide (Ac.Kind = 1))),(4,bV (decide (Ac.Kind = 3))),(5,bV (decide (Ac.Kind = 4))),(81,bV ((decide (Ac.Kind = 3)) && (!(Dv Ac.Fault 0 8))))] 152 a w') ?_ ?_)
       ·rcases Bool.eq_false_or_eq_true (decide (Ac.Kind = 3)) with hb14 | hb14
        ·refine Du S rfl rfl rfl hb14 (Vf Uo S rfl rfl fun a S=>Du S rfl rfl rfl hb14 (Vl isAgg3 0 S rfl rfl rfl rfl fun a S=>Du S rfl rfl rfl hb14 (Dw S (fun _=>Dp (vs:=[iV Ac.Fault,iV 0,iV 8]) ⟨(S.tm rfl),rfl,rfl,trivial⟩ call55) (Fm _ Ac.Fault 0 8 _ rfl) rfl ?_)));clear S;intro v9 a w21 hv9 hk18 hn9 S
         subst hv9
         exact Du S rfl rfl rfl hb14 (Vu S Hj rfl rfl fun a S=>lv S (Hg hb14 (S.tm rfl) (S.tm rfl)) rfl fun a S=>Dl (⟨hk18,S.nf [true] rfl (subR rfl)⟩))
        ·iterate 4 (refine Gn S rfl rfl rfl (Jh hb14) rfl ?_ rfl;clear S;intro a S)
         exact lv S (Hh (!(Dv Ac.Fault 0 8)) hb14 (S.tm rfl) rfl) rfl fun a S=>Dl (⟨Keep.refl _ _,S.nf [true] rfl (subR rfl)⟩)
       clear S;rintro a w20 ⟨hk19,S⟩
       exact Va S rfl rfl fun a S=>Dl (⟨((decide (Ac.Kind = 3)) && (!(Dv Ac.Fault 0 8))),h,S.nf [true] rfl (subR rfl)⟩)
     clear S h;rintro a w19 ⟨x2,h,S⟩;rw [hj5] at h;clear hj5 j5
     refine Tn (Fc h (S.tm rfl) (fun hb15 h=>?_) (fun hb15 h=>?_))
     ·refine Fr (Vk S rfl rfl fun a S=>Dl (wp_ret (Fl (Dt ?_))))
      obtain rfl:=Option.some.inj h
      exact Ej S results79 rfl rfl
     ·refine Fr (Vm S rfl rfl fun a S=>Vm S rfl rfl ?_);clear S;intro a S
      obtain ⟨j6,hj6,h⟩:=Ep h
      refine Hn 5 (fun a w'=>∃ c4,j6 c4 = some r ∧ Keep [] w19 w' ∧ Sx w [] nov [.blk b1 (Dk.enc Ac) 101] [(1,.pointer (some ⟨b1,0,none⟩)),(3,bV (decide (Ac.Kind = 1))),(4,bV (decide (Ac.Kind = 3))),(5,bV (decide (Ac.Kind = 4))),(89,bV c4)] 152 a w') ?_ ?_
      ·rcases Bool.eq_false_or_eq_true (decide (Ac.Kind = 4)) with hb16 | hb16
       ·replace h:=Qc h hb16
        refine Du S rfl rfl rfl hb16 (Vf Xa S rfl rfl fun a S=>Du S rfl rfl rfl hb16 (Vl isAgg9 0 S rfl rfl rfl rfl fun a S=>Du S rfl rfl rfl hb16 ?_))
        obtain ⟨r5,hr5,h⟩:=Fa h
        refine Dw S (fun _=>Dp (vs:=[sV Ac.Of]) ⟨(S.tm rfl),trivial⟩ call95) (Ij _ Ac.Of _ hr5) rfl ?_;clear S;intro v10 a w23 hv10 hk20 hn10 S
        subst hv10
        exact Du S rfl rfl rfl hb16 (Vu S Hj rfl rfl fun a S=>lv S (Hg hb16 (S.tm rfl) (S.tm rfl)) rfl fun a S=>Dl (⟨_,h,hk20,S.nf [true] rfl (subR rfl)⟩))
       ·replace h:=Qd h hb16
        iterate 4 (refine Gn S rfl rfl rfl (Jh hb16) rfl ?_ rfl;clear S;intro a S)
        exact Vq S (Hh true hb16) rfl rfl rfl fun a S=>Dl (⟨_,h,Keep.refl _ _,S.nf [true] rfl (subR rfl)⟩)
      clear S h;rintro a w22 ⟨c4,h,hk21,S⟩;rw [hj6] at h;clear hj6 j6
      refine Va S rfl rfl fun a S=>Dl (Fc h (S.tm rfl) (fun hb17 h=>?_) (fun hb17 h=>?_))
      ·refine Fr (Vk S rfl rfl fun a S=>Dl (wp_ret (Fl (Dt ?_))))
       obtain rfl:=Option.some.inj h
       exact Ej S results79 rfl rfl
      ·refine Fr (Vm S rfl rfl fun a S=>Vm S rfl rfl fun a S=>Hn 5 (fun a w'=>Keep [] w22 w' ∧ Sx w [] nov [.blk b1 (Dk.enc Ac) 101] [(1,.pointer (some ⟨b1,0,none⟩)),(3,bV (decide (Ac.Kind = 1))),(4,bV (decide (Ac.Kind = 3))),(5,bV (decide (Ac.Kind = 4))),(97,bV ((decide (Ac.Kind = 4)) && (!(Dv Ac.Other 1 1000000))))] 152 a w') ?_ ?_)
       ·rcases Bool.eq_false_or_eq_true (decide (Ac.Kind = 4)) with hb18 | hb18
        ·refine Du S rfl rfl rfl hb18 (Vf Ty S rfl rfl fun a S=>Du S rfl rfl rfl hb18 (Vl isAgg3 0 S rfl rfl rfl rfl fun a S=>Du S rfl rfl rfl hb18 (Dw S (fun _=>Dp (vs:=[iV Ac.Other,iV 1,iV 1000000]) ⟨(S.tm rfl),rfl,rfl,trivial⟩ call55) (Fm _ Ac.Other 1 1000000 _ rfl) rfl ?_)));clear S;intro v11 a w25 hv11 hk22 hn11 S
         subst hv11
         exact Du S rfl rfl rfl hb18 (Vu S Hj rfl rfl fun a S=>lv S (Hg hb18 (S.tm rfl) (S.tm rfl)) rfl fun a S=>Dl (⟨hk22,S.nf [true] rfl (subR rfl)⟩))
        ·iterate 4 (refine Gn S rfl rfl rfl (Jh hb18) rfl ?_ rfl;clear S;intro a S)
         exact lv S (Hh (!(Dv Ac.Other 1 1000000)) hb18 (S.tm rfl) rfl) rfl fun a S=>Dl (⟨Keep.refl _ _,S.nf [true] rfl (subR rfl)⟩)
       clear S;rintro a w24 ⟨hk23,S⟩
       refine Va S rfl rfl fun a S=>Dl (Fc h (S.tm rfl) (fun hb19 h=>?_) (fun hb19 h=>?_))
       ·refine Fr (Vk S rfl rfl fun a S=>Dl (wp_ret (Fl (Dt ?_))))
        obtain rfl:=Option.some.inj h
        exact Ej S results79 rfl rfl
       ·refine wp_skip (Ho (Tn (Fr (Vf Pq S rfl rfl fun a S=>Vl isAgg9 0 S rfl rfl rfl rfl fun a S=>Vf Sc S rfl rfl fun a S=>Vl isAgg3 0 S rfl rfl rfl rfl fun a S=>Vf Sr S rfl rfl fun a S=>Vl isAgg3 0 S rfl rfl rfl rfl ?_))));clear S;intro a S
        refine Vf Ok S rfl rfl fun a S=>Vl isAgg3 0 S rfl rfl rfl rfl fun a S=>lv S (Mr PB (pv:=[(0,sV Ac.Site),(1,iV Ac.No),(2,iV Ac.At),(3,iV Ac.Kind)]) ⟨rfl,(S.tm rfl),rfl,(S.tm rfl),rfl,(S.tm rfl),rfl,(S.tm rfl),trivial⟩ (cs:=[sV Ac.Site,iV Ac.No,iV Ac.At,iV Ac.Kind,sV An,sV An,sV An,iV 0,iV 0,sV An,iV 0]) (by kernel_rfl)) rfl fun a S=>Hs S zeroValue101 (cs:=[sV An,iV 0,iV 0,iV 0,sV An,sV An,sV An,iV 0,iV 0,sV An,iV 0]) rfl rfl ?_;clear S;intro a w26 b2 hz2 hk24 S
        refine Ex S (S.tm rfl) (S.tm rfl) (i:=0) (off:=0) rfl sizeOf101 (vs:=(Dk.enc (Dk.mk Ac.Site Ac.No Ac.At Ac.Kind An An An 0 0 An 0))) rfl rfl rfl rfl ?_;clear S;intro w27 hk25 S
        refine Ld ?_
        replace S:=(S.nl [.blk b2 (Dk.enc (Dk.mk Ac.Site Ac.No Ac.At Ac.Kind An An An 0 0 An 0)) 101,.blk b1 (Dk.enc Ac) 101] [true,true] rfl).k5 1 3 4 5 6 rfl
        refine Tn (Fs ?_)
        obtain ⟨j7,hj7,h⟩:=Ep h
        refine Eg (fun a w'=>∃ x3 : ByteArray,∃ x4 : ByteArray,∃ x5 : ByteArray,∃ x6 : Int,∃ x7 : Int,∃ x8 : ByteArray,∃ x9 : Int,j7 x3 x4 x5 x6 x7 x8 x9 = some r ∧ Sx w [] nov [.blk b2 (Dk.enc (Dk.mk Ac.Site Ac.No Ac.At Ac.Kind x3 x4 x5 x6 x7 x8 x9)) 101,.blk b1 (Dk.enc Ac) 101] [(1,.pointer (some ⟨b1,0,none⟩)),(6,.pointer (some ⟨b2,0,none⟩))] 152 a w') ?_ ?_
        ·refine wp_block (Fr (Vm S rfl rfl fun a S=>Va S rfl rfl fun a S=>Dl ?_))
         obtain ⟨j8,hj8,h⟩:=Ep h
         refine Eg (fun a w'=>∃ x10 : ByteArray,∃ x11 : ByteArray,∃ x12 : ByteArray,∃ x13 : Int,∃ x14 : Int,∃ x15 : ByteArray,∃ x16 : Int,j8 x10 x11 x12 x13 x14 x15 x16 = some r ∧ Sx w [] nov [.blk b2 (Dk.enc (Dk.mk Ac.Site Ac.No Ac.At Ac.Kind x10 x11 x12 x13 x14 x15 x16)) 101,.blk b1 (Dk.enc Ac) 101] [(1,.pointer (some ⟨b1,0,none⟩)),(6,.pointer (some ⟨b2,0,none⟩))] 152 a w') ?_ ?_
         ·refine Fc h (S.tm rfl) (fun hb20 h=>?_) (fun hb20 h=>?_)
          ·refine Hd [] ([b2]) Tryz.mixed S rfl (by kernel_rfl) ?_;clear S;intro w34 hk30 hsel S
           refine Eb 0 S hsel rfl rfl rfl (by kernel_rfl) (by kernel_rfl) rfl (fun _ hw=>(Fy Mq (S.tm rfl))) fun a S=>Eb 1 S hsel rfl rfl rfl (by kernel_rfl) (by kernel_rfl) rfl (fun _ hw=>(Hm isAgg9 (off:=0) (o:=4) (S.tm rfl) ((S.blk_mem (i:=1) (cells:=(Dk.enc Ac)) (b:=b1) (T:=101) rfl (Mo (i:=0) (j:=1) (e:=.blk b2 (Dk.enc (Dk.mk Ac.Site Ac.No Ac.At Ac.Kind An An An 0 0 An 0)) 101) (e':=.blk b1 (Dk.enc Ac) 101) S rfl rfl rfl)).kept hw) rfl)) fun a S=>Eb 2 S hsel rfl rfl rfl (by kernel_rfl) (by kernel_rfl) rfl (fun _ hw=>(Fy Tp (S.tm rfl))) fun a S=>Eb 3 S hsel rfl rfl rfl (by kernel_rfl) (by kernel_rfl) rfl (fun _ hw=>(Hm isAgg9 (off:=0) (o:=5) (S.tm rfl) ((S.blk_mem (i:=1) (cells:=(Dk.enc Ac)) (b:=b1) (T:=101) rfl (Mo (i:=0) (j:=1) (e:=.blk b2 (Dk.enc (Dk.mk Ac.Site Ac.No Ac.At Ac.Kind An An An 0 0 An 0)) 101) (e':=.blk b1 (Dk.enc Ac) 101) S rfl rfl rfl)).kept hw) rfl)) fun a S=>Eb 4 S hsel rfl rfl rfl (by kernel_rfl) (by kernel_rfl) rfl (fun _ hw=>(Fy Re (S.tm rfl))) fun a S=>Eb 5 S hsel rfl rfl rfl (by kernel_rfl) (by kernel_rfl) rfl (fun _ hw=>(Hm isAgg9 (off:=0) (o:=6) (S.tm rfl) ((S.blk_mem (i:=1) (cells:=(Dk.enc Ac)) (b:=b1) (T:=101) rfl (Mo (i:=0) (j:=1) (e:=.blk b2 (Dk.enc (Dk.mk Ac.Site Ac.No Ac.At Ac.Kind An An An 0 0 An 0)) 101) (e':=.blk b1 (Dk.enc Ac) 101) S rfl rfl rfl)).kept hw) rfl)) fun a S=>Eb 6 S hsel rfl rfl rfl (by kernel_rfl) (by kernel_rfl) rfl (fun _ hw=>(Fy Sd (S.tm rfl))) fun a S=>Eb 7 S hsel rfl rfl rfl (by kernel_rfl) (by kernel_rfl) rfl (fun _ hw=>(Hm isAgg3 (off:=0) (o:=7) (S.tm rfl) ((S.blk_mem (i:=1) (cells:=(Dk.enc Ac)) (b:=b1) (T:=101) rfl (Mo (i:=0) (j:=1) (e:=.blk b2 (Dk.enc (Dk.mk Ac.Site Ac.No Ac.At Ac.Kind An An An 0 0 An 0)) 101) (e':=.blk b1 (Dk.enc Ac) 101) S rfl rfl rfl)).kept hw) rfl)) ?_;clear S;intro a S
           refine Eb 8 S hsel rfl rfl rfl (by kernel_rfl) (by kernel_rfl) rfl (fun _ hw=>(Fy Mq (S.tm rfl))) fun a S=>He 9 (by kernel_rfl) rfl (Ex S (S.tm rfl) (S.tm rfl) (i:=0) (off:=4) rfl sizeOf9 (vs:=[sV Ac.Who]) rfl rfl rfl rfl ?_);clear S;intro w35 hk31 S
           refine Ld (Ig hk31 (Eb 10 S hsel rfl rfl rfl (by kernel_rfl) (by kernel_rfl) rfl (fun _ hw=>(Fy Tp (S.tm rfl))) fun a S=>He 11 (by kernel_rfl) rfl (Ex S (S.tm rfl) (S.tm rfl) (i:=0) (off:=5) rfl sizeOf9 (vs:=[sV Ac.Club]) rfl rfl rfl rfl ?_)));clear S;intro w36 hk32 S
           refine Ld (Ig hk32 (Eb 12 S hsel rfl rfl rfl (by kernel_rfl) (by kernel_rfl) rfl (fun _ hw=>(Fy Re (S.tm rfl))) fun a S=>He 13 (by kernel_rfl) rfl (Ex S (S.tm rfl) (S.tm rfl) (i:=0) (off:=6) rfl sizeOf9 (vs:=[sV Ac.Race]) rfl rfl rfl rfl ?_)));clear S;intro w37 hk33 S
           refine Ld (Ig hk33 (Eb 14 S hsel rfl rfl rfl (by kernel_rfl) (by kernel_rfl) rfl (fun _ hw=>(Fy Sd (S.tm rfl))) fun a S=>He 15 (by kernel_rfl) rfl (Ex S (S.tm rfl) (S.tm rfl) (i:=0) (off:=7) rfl sizeOf3 (vs:=[iV Ac.Time]) rfl rfl rfl rfl ?_)));clear S;intro w38 hk34 S
           refine Ld (Ig hk34 (Xi (by kernel_rfl) ?_))
           clear hsel
           replace S:=(S.nl [.blk b2 (Dk.enc (Dk.mk Ac.Site Ac.No Ac.At Ac.Kind Ac.Who Ac.Club Ac.Race Ac.Time 0 An 0)) 101,.blk b1 (Dk.enc Ac) 101] [true,true] rfl).k2 1 6 rfl
           exact Tn (⟨Ac.Who,Ac.Club,Ac.Race,Ac.Time,0,An,0,h,S.nf [true,true] rfl (subR rfl)⟩)
          ·refine Fr (Vm S rfl rfl fun a S=>Va S rfl rfl fun a S=>Dl ?_)
           obtain ⟨j9,hj9,h⟩:=Ep h
           refine Eg (fun a w'=>∃ x17 : ByteArray,∃ x18 : ByteArray,∃ x19 : Int,∃ x20 : Int,∃ x21 : ByteArray,∃ x22 : Int,j9 x17 x18 x19 x20 x21 x22 = some r ∧ Sx w [] nov [.blk b2 (Dk.enc (Dk.mk Ac.Site Ac.No Ac.At Ac.Kind x17 An x18 x19 x20 x21 x22)) 101,.blk b1 (Dk.enc Ac) 101] [(1,.pointer (some ⟨b1,0,none⟩)),(6,.pointer (some ⟨b2,0,none⟩))] 152 a w') ?_ ?_
           ·refine Fc h (S.tm rfl) (fun hb21 h=>?_) (fun hb21 h=>?_)
            ·refine Hd [] ([b2]) Tryz.mixed S rfl (by kernel_rfl) ?_;clear S;intro w44 hk39 hsel S
             refine Eb 0 S hsel rfl rfl rfl (by kernel_rfl) (by kernel_rfl) rfl (fun _ hw=>(Fy Mq (S.tm rfl))) fun a S=>Eb 1 S hsel rfl rfl rfl (by kernel_rfl) (by kernel_rfl) rfl (fun _ hw=>(Hm isAgg9 (off:=0) (o:=4) (S.tm rfl) ((S.blk_mem (i:=1) (cells:=(Dk.enc Ac)) (b:=b1) (T:=101) rfl (Mo (i:=0) (j:=1) (e:=.blk b2 (Dk.enc (Dk.mk Ac.Site Ac.No Ac.At Ac.Kind An An An 0 0 An 0)) 101) (e':=.blk b1 (Dk.enc Ac) 101) S rfl rfl rfl)).kept hw) rfl)) fun a S=>Eb 2 S hsel rfl rfl rfl (by kernel_rfl) (by kernel_rfl) rfl (fun _ hw=>(Fy Re (S.tm rfl))) fun a S=>Eb 3 S hsel rfl rfl rfl (by kernel_rfl) (by kernel_rfl) rfl (fun _ hw=>(Hm isAgg9 (off:=0) (o:=6) (S.tm rfl) ((S.blk_mem (i:=1) (cells:=(Dk.enc Ac)) (b:=b1) (T:=101) rfl (Mo (i:=0) (j:=1) (e:=.blk b2 (Dk.enc (Dk.mk Ac.Site Ac.No Ac.At Ac.Kind An An An 0 0 An 0)) 101) (e':=.blk b1 (Dk.enc Ac) 101) S rfl rfl rfl)).kept hw) rfl)) fun a S=>Eb 4 S hsel rfl rfl rfl (by kernel_rfl) (by kernel_rfl) rfl (fun _ hw=>(Fy Sd (S.tm rfl))) fun a S=>Eb 5 S hsel rfl rfl rfl (by kernel_rfl) (by kernel_rfl) rfl (fun _ hw=>(Hm isAgg3 (off:=0) (o:=7) (S.tm rfl) ((S.blk_mem (i:=1) (cells:=(Dk.enc Ac)) (b:=b1) (T:=101) rfl (Mo (i:=0) (j:=1) (e:=.blk b2 (Dk.enc (Dk.mk Ac.Site Ac.No Ac.At Ac.Kind An An An 0 0 An 0)) 101) (e':=.blk b1 (Dk.enc Ac) 101) S rfl rfl rfl)).kept hw) rfl)) fun a S=>Eb 6 S hsel rfl rfl rfl (by kernel_rfl) (by kernel_rfl) rfl (fun _ hw=>(Fy Uo (S.tm rfl))) fun a S=>Eb 7 S hsel rfl rfl rfl (by kernel_rfl) (by kernel_rfl) rfl (fun _ hw=>(Hm isAgg3 (off:=0) (o:=8) (S.tm rfl) ((S.blk_mem (i:=1) (cells:=(Dk.enc Ac)) (b:=b1) (T:=101) rfl (Mo (i:=0) (j:=1) (e:=.blk b2 (Dk.enc (Dk.mk Ac.Site Ac.No Ac.At Ac.Kind An An An 0 0 An 0)) 101) (e':=.blk b1 (Dk.enc Ac) 101) S rfl rfl rfl)).kept hw) rfl)) ?_;clear S;intro a S
             refine Eb 8 S hsel rfl rfl rfl (by kernel_rfl) (by kernel_rfl) rfl (fun _ hw=>(Fy Mq (S.tm rfl))) fun a S=>He 9 (by kernel_rfl) rfl (Ex S (S.tm rfl) (S.tm rfl) (i:=0) (off:=4) rfl sizeOf9 (vs:=[sV Ac.Who]) rfl rfl rfl rfl ?_);clear S;intro w45 hk40 S
             refine Ld (Ig hk40 (Eb 10 S hsel rfl rfl rfl (by kernel_rfl) (by kernel_rfl) rfl (fun _ hw=>(Fy Re (S.tm rfl))) fun a S=>He 11 (by kernel_rfl) rfl (Ex S (S.tm rfl) (S.tm rfl) (i:=0) (off:=6) rfl sizeOf9 (vs:=[sV Ac.Race]) rfl rfl rfl rfl ?_)));clear S;intro w46 hk41 S
             refine Ld (Ig hk41 (Eb 12 S hsel rfl rfl rfl (by kernel_rfl) (by kernel_rfl) rfl (fun _ hw=>(Fy Sd (S.tm rfl))) fun a S=>He 13 (by kernel_rfl) rfl (Ex S (S.tm rfl) (S.tm rfl) (i:=0) (off:=7) rfl sizeOf3 (vs:=[iV Ac.Time]) rfl rfl rfl rfl ?_)));clear S;intro w47 hk42 S
             refine Ld (Ig hk42 (Eb 14 S hsel rfl rfl rfl (by kernel_rfl) (by kernel_rfl) rfl (fun _ hw=>(Fy Uo (S.tm rfl))) fun a S=>He 15 (by kernel_rfl) rfl (Ex S (S.tm rfl) (S.tm rfl) (i:=0) (off:=8) rfl sizeOf3 (vs:=[iV Ac.Fault]) rfl rfl rfl rfl ?_)));clear S;intro w48 hk43 S
             refine Ld (Ig hk43 (Xi (by kernel_rfl) ?_))
             clear hsel
             replace S:=(S.nl [.blk b2 (Dk.enc (Dk.mk Ac.Site Ac.No Ac.At Ac.Kind Ac.Who An Ac.Race Ac.Time Ac.Fault An 0)) 101,.blk b1 (Dk.enc Ac) 101] [true,true] rfl).k2 1 6 rfl
             exact Tn (⟨Ac.Who,Ac.Race,Ac.Time,Ac.Fault,An,0,h,S.nf [true,true] rfl (subR rfl)⟩)
            ·refine Fr (Vm S rfl rfl fun a S=>Va S rfl rfl fun a S=>Dl ?_)
             obtain ⟨j10,hj10,h⟩:=Ep h
             refine Eg (fun a w'=>∃ x23 : ByteArray,∃ x24 : ByteArray,∃ x25 : ByteArray,∃ x26 : Int,j10 x23 x24 x25 x26 = some r ∧ Sx w [] nov [.blk b2 (Dk.enc (Dk.mk Ac.Site Ac.No Ac.At Ac.Kind x23 An x24 0 0 x25 x26)) 101,.blk b1 (Dk.enc Ac) 101] [(1,.pointer (some ⟨b1,0,none⟩)),(6,.pointer (some ⟨b2,0,none⟩))] 152 a w') ?_ ?_
             ·refine Fc h (S.tm rfl) (fun hb22 h=>?_) (fun hb22 h=>?_)
              ·refine Hd [] ([b2]) Tryz.mixed S rfl (by kernel_rfl) ?_;clear S;intro w52 hk46 hsel S
               refine Eb 0 S hsel rfl rfl rfl (by kernel_rfl) (by kernel_rfl) rfl (fun _ hw=>(Fy Xa (S.tm rfl))) fun a S=>Eb 1 S hsel rfl rfl rfl (by kernel_rfl) (by kernel_rfl) rfl (fun _ hw=>(Hm isAgg9 (off:=0) (o:=9) (S.tm rfl) ((S.blk_mem (i:=1) (cells:=(Dk.enc Ac)) (b:=b1) (T:=101) rfl (Mo (i:=0) (j:=1) (e:=.blk b2 (Dk.enc (Dk.mk Ac.Site Ac.No Ac.At Ac.Kind An An An 0 0 An 0)) 101) (e':=.blk b1 (Dk.enc Ac) 101) S rfl rfl rfl)).kept hw) rfl)) fun a S=>Eb 2 S hsel rfl rfl rfl (by kernel_rfl) (by kernel_rfl) rfl (fun _ hw=>(Fy Ty (S.tm rfl))) fun a S=>Eb 3 S hsel rfl rfl rfl (by kernel_rfl) (by kernel_rfl) rfl (fun _ hw=>(Hm isAgg3 (off:=0) (o:=10) (S.tm rfl) ((S.blk_mem (i:=1) (cells:=(Dk.enc Ac)) (b:=b1) (T:=101) rfl (Mo (i:=0) (j:=1) (e:=.blk b2 (Dk.enc (Dk.mk Ac.Site Ac.No Ac.At Ac.Kind An An An 0 0 An 0)) 101) (e':=.blk b1 (Dk.enc Ac) 101) S rfl rfl rfl)).kept hw) rfl)) fun a S=>Eb 4 S hsel rfl rfl rfl (by kernel_rfl) (by kernel_rfl) rfl (fun _ hw=>(Fy Xa (S.tm rfl))) fun a S=>He 5 (by kernel_rfl) rfl (Ex S (S.tm rfl) (S.tm rfl) (i:=0) (off:=9) rfl sizeOf9 (vs:=[sV Ac.Of]) rfl rfl rfl rfl ?_);clear S;intro w53 hk47 S
               refine Ld (Ig hk47 (Eb 6 S hsel rfl rfl rfl (by kernel_rfl) (by kernel_rfl) rfl (fun _ hw=>(Fy Ty (S.tm rfl))) fun a S=>He 7 (by kernel_rfl) rfl (Ex S (S.tm rfl) (S.tm rfl) (i:=0) (off:=10) rfl sizeOf3 (vs:=[iV Ac.Other]) rfl rfl rfl rfl ?_)));clear S;intro w54 hk48 S
               refine Ld (Ig hk48 (Xi (by kernel_rfl) ?_))
               clear hsel
               replace S:=(S.nl [.blk b2 (Dk.enc (Dk.mk Ac.Site Ac.No Ac.At Ac.Kind An An An 0 0 Ac.Of Ac.Other)) 101,.blk b1 (Dk.enc Ac) 101] [true,true] rfl).k2 1 6 rfl
               exact Tn (⟨An,An,Ac.Of,Ac.Other,h,S.nf [true,true] rfl (subR rfl)⟩)
              ·refine Hd [] ([b2]) Tryz.mixed S rfl (by kernel_rfl) ?_;clear S;intro w57 hk51 hsel S
               refine Eb 0 S hsel rfl rfl rfl (by kernel_rfl) (by kernel_rfl) rfl (fun _ hw=>(Fy Mq (S.tm rfl))) fun a S=>Eb 1 S hsel rfl rfl rfl (by kernel_rfl) (by kernel_rfl) rfl (fun _ hw=>(Hm isAgg9 (off:=0) (o:=4) (S.tm rfl) ((S.blk_mem (i:=1) (cells:=(Dk.enc Ac)) (b:=b1) (T:=101) rfl (Mo (i:=0) (j:=1) (e:=.blk b2 (Dk.enc (Dk.mk Ac.Site Ac.No Ac.At Ac.Kind An An An 0 0 An 0)) 101) (e':=.blk b1 (Dk.enc Ac) 101) S rfl rfl rfl)).kept hw) rfl)) fun a S=>Eb 2 S hsel rfl rfl rfl (by kernel_rfl) (by kernel_rfl) rfl (fun _ hw=>(Fy Re (S.tm rfl))) fun a S=>Eb 3 S hsel rfl rfl rfl (by kernel_rfl) (by kernel_rfl) rfl (fun _ hw=>(Hm isAgg9 (off:=0) (o:=6) (S.tm rfl) ((S.blk_mem (i:=1) (cells:=(Dk.enc Ac)) (b:=b1) (T:=101) rfl (Mo (i:=0) (j:=1) (e:=.blk b2 (Dk.enc (Dk.mk Ac.Site Ac.No Ac.At Ac.Kind An An An 0 0 An 0)) 101) (e':=.blk b1 (Dk.enc Ac) 101) S rfl rfl rfl)).kept hw) rfl)) fun a S=>Eb 4 S hsel rfl rfl rfl (by kernel_rfl) (by kernel_rfl) rfl (fun _ hw=>(Fy Mq (S.tm rfl))) fun a S=>He 5 (by kernel_rfl) rfl (Ex S (S.tm rfl) (S.tm rfl) (i:=0) (off:=4) rfl sizeOf9 (vs:=[sV Ac.Who]) rfl rfl rfl rfl ?_);clear S;intro w58 hk52 S
               refine Ld (Ig hk52 (Eb 6 S hsel rfl rfl rfl (by kernel_rfl) (by kernel_rfl) rfl (fun _ hw=>(Fy Re (S.tm rfl))) fun a S=>He 7 (by kernel_rfl) rfl (Ex S (S.tm rfl) (S.tm rfl) (i:=0) (off:=6) rfl sizeOf9 (vs:=[sV Ac.Race]) rfl rfl rfl rfl ?_)));clear S;intro w59 hk53 S
               refine Ld (Ig hk53 (Xi (by kernel_rfl) ?_))
               clear hsel
               replace S:=(S.nl [.blk b2 (Dk.enc (Dk.mk Ac.Site Ac.No Ac.At Ac.Kind Ac.Who An Ac.Race 0 0 An 0)) 101,.blk b1 (Dk.enc Ac) 101] [true,true] rfl).k2 1 6 rfl
               exact Tn (⟨Ac.Who,Ac.Race,An,0,h,S.nf [true,true] rfl (subR rfl)⟩)
             clear S h;rintro a w49 ⟨x23,x24,x25,x26,h,S⟩;rw [hj10] at h;clear hj10 j10
             exact Tn (⟨x23,x24,0,0,x25,x26,h,S.nf [true,true] rfl (subR rfl)⟩)
           clear S h;rintro a w39 ⟨x17,x18,x19,x20,x21,x22,h,S⟩;rw [hj9] at h;clear hj9 j9
           exact Tn (⟨x17,An,x18,x19,x20,x21,x22,h,S.nf [true,true] rfl (subR rfl)⟩)
         clear S h;rintro a w29 ⟨x10,x11,x12,x13,x14,x15,x16,h,S⟩;rw [hj8] at h;clear hj8 j8
         exact Ho (Tn (⟨x10,x11,x12,x13,x14,x15,x16,h,S.nf [true,true] rfl (subR rfl)⟩))
        clear S h;rintro a w28 ⟨x3,x4,x5,x6,x7,x8,x9,h,S⟩;rw [hj7] at h;clear hj7 j7
        refine Tn (Fs (Fr (lv S (Fp isAgg101 sizeOf101 (off:=0) (o:=0) (part:=(Dk.enc Ac)) rfl rfl (S.tm rfl) (S.cellsAt (i:=1) rfl)) rfl fun a S=>lv S (Fp isAgg101 sizeOf101 (off:=0) (o:=0) (part:=(Dk.enc (Dk.mk Ac.Site Ac.No Ac.At Ac.Kind x3 x4 x5 x6 x7 x8 x9))) rfl rfl (S.tm rfl) (S.cellsAt (i:=0) rfl)) rfl fun a S=>lv S (IE (m:=Ac) (n:=(Dk.mk Ac.Site Ac.No Ac.At Ac.Kind x3 x4 x5 x6 x7 x8 x9)) (S.tm rfl) (S.tm rfl)) rfl fun a S=>Dl (Fc h (S.tm rfl) (fun hb23 h=>?_) (fun hb23 h=>?_)))))
        ·refine Fr (Vk S rfl rfl fun a S=>Dl (wp_ret (Dt ?_)))
         obtain rfl:=Option.some.inj h
         exact Ej S results79 rfl rfl
        ·refine wp_skip (Tn (Fr (Vk S rfl rfl fun a S=>Dl (wp_ret ?_))))
         obtain rfl:=Option.some.inj h
         exact Ej S results79 rfl rfl
theorem Zh (w : World) (Ac : Int) (r : Bool) (h : Su Ac = r) :
    Calls prog 122 [iV Ac].toArray w (Ret w [] fun _ v _=>v = bV r):=by
 refine Fe func122 rfl ntmps122 rfl fun a S=>?_
 unfold Su at h
 replace S:=S.k1 0 rfl
 refine Fr (Vk S rfl rfl fun a S=>Dz (Vm S rfl rfl fun a S=>Vm S rfl rfl fun a S=>Vb S Kw rfl rfl rfl fun a S=>Va S rfl rfl ?_));clear S;intro a S
 refine Dl (wp_ret ?_)
 subst h
 exact Ej S results122 rfl rfl
theorem Yb (w : World) (Ac : Int) (Bl : Int) (r : Int) (h : Kc Ac Bl = r) :
    Calls prog 104 [iV Ac,iV Bl].toArray w (Ret w [] fun _ v _=>v = iV r):=by
 refine Fe func104 rfl ntmps104 rfl fun a S=>?_
 unfold Kc at h
 replace S:=S.k2 0 1 rfl
 refine Fr (Vk S rfl rfl fun a S=>Dz (Vm S rfl rfl fun a S=>Dw S (fun _=>Dp (vs:=[iV Ac]) ⟨(S.tm rfl),trivial⟩ call122) (Zh _ Ac _ rfl) rfl ?_));clear S;intro v1 a w1 hv1 hk1 hn1 S
 subst hv1
 refine Va S rfl rfl fun a S=>Dz (Vm S rfl rfl fun a S=>Dw S (fun _=>Dp (vs:=[iV Bl]) ⟨(S.tm rfl),trivial⟩ call122) (Zh _ Bl _ rfl) rfl ?_);clear S;intro v2 a w2 hv2 hk2 hn2 S
 subst hv2
 refine Va S rfl rfl fun a S=>Dl (Fs (Fr (Vm S rfl rfl fun a S=>Dl (Fc h (S.tm rfl) (fun hb1 h=>?_) (fun hb1 h=>?_)))))
 ·refine Fs (Fr (Vm S rfl rfl fun a S=>Dl (Fc h (S.tm rfl) (fun hb2 h=>?_) (fun hb2 h=>?_))))
  ·refine Fr (Vk S rfl rfl fun a S=>Dl (wp_ret (Dt (Dt ?_))))
   subst h
   exact Ej S results104 rfl rfl
  ·refine wp_skip (Tn (Fr (Vk S rfl rfl fun a S=>Dl (wp_ret (Dt ?_)))))
   subst h
   exact Ej S results104 rfl rfl
 ·refine wp_skip (Tn (Fs (Fr (Vm S rfl rfl fun a S=>Dl (Fc h (S.tm rfl) (fun hb3 h=>?_) (fun hb3 h=>?_))))))
  ·refine Fr (Vk S rfl rfl fun a S=>Dl (wp_ret (Dt ?_)))
   subst h
   exact Ej S results104 rfl rfl
  ·refine wp_skip (Tn (Fs (Fr (Vm S rfl rfl fun a S=>Vm S rfl rfl fun a S=>Vb S Et rfl rfl rfl fun a S=>Dl (Fc h (S.tm rfl) (fun hb4 h=>?_) (fun hb4 h=>?_))))))
   ·refine Fr (Vk S rfl rfl fun a S=>Dl (wp_ret (Dt ?_)))
    subst h
    exact Ej S results104 rfl rfl
   ·refine wp_skip (Tn (Fs (Fr (Vm S rfl rfl fun a S=>Vm S rfl rfl fun a S=>Vb S It rfl rfl rfl fun a S=>Ld ?_))))
    replace S:=S.k1 19 rfl
    refine Tn (Fc h (S.tm rfl) (fun hb5 h=>?_) (fun hb5 h=>?_))
    ·refine Fr (Vk S rfl rfl fun a S=>Dl (wp_ret (Dt ?_)))
     subst h
     exact Ej S results104 rfl rfl
    ·refine wp_skip (Tn (Fr (Vk S rfl rfl fun a S=>Dl (wp_ret ?_))))
     subst h
     exact Ej S results104 rfl rfl
theorem DF (w : World) (Cx : Value) (Cu : List Int) (Cv : Slc (view w []) 1 Cx (Cu.map eInt)) (r : Int) (h : Tl Cu = r) :
    Calls prog 103 [Cx].toArray w (Ret w [] fun _ v _=>v = iV r):=by
 refine Fe func103 rfl ntmps103 rfl fun a S=>?_
 unfold Tl at h
 replace S:=S.k1 0 rfl
 refine Fr (Vk S rfl rfl fun a S=>Dz (Vk S rfl rfl fun a S=>Dl (Fs ?_)))
 refine Fr (Vm S rfl rfl fun a S=>lv S (Fq Pf (S.tm rfl) (Fj Cv)) rfl fun a S=>lv S (Rm rfl) rfl fun a S=>Dl ?_)
 replace S:=S.k4 3 6 7 8 rfl
 obtain ⟨j1,hj1,h⟩:=Ep h
 refine Eg (fun a w'=>j1 = r ∧ Sx w [] nov [] [(3,iV 0)] 18 a w') ?_ ?_
 ·refine wp_block (Gx (fun (ys1 : List Int) a w'=>∃ i1 : Nat,(∃ dn,Cu = dn ++ ys1 ∧ dn.length = i1) ∧ Mi j1 ys1 i1 = r ∧ Sx w [] nov [] [(3,iV 0),(6,Cx),(7,iV (Cu.length : Int)),(8,iV (i1 : Int))] 18 a w') List.length Cu ⟨0,⟨[],rfl,rfl⟩,h,S.nf [] rfl (subR rfl)⟩ ?_)
  clear S h;rintro ys1 a w1 ⟨i1,⟨dn,hd1,hi1⟩,h,S⟩
  cases ys1 with
  | nil =>
   rw [Mi.eq_1] at h
   refine Fr (Vb S Et rfl rfl rfl fun a S=>Ld ?_)
   replace S:=S.k5 3 6 7 8 9 rfl
   exact Tn (Fs (wp_cond_false ((S.tm rfl).trans (congrArg Value.bool (Il hd1 hi1))) (wp_exit (Ed (Ed (Gp (Tn (⟨h,S.nf [] rfl ⟨rfl,trivial⟩⟩))))))))
  | cons y1 ys1 =>
   rw [Mi.eq_2] at h
   refine Fr (Vb S Et rfl rfl rfl fun a S=>Ld ?_)
   replace S:=S.k5 3 6 7 8 9 rfl
   refine Tn (Fs (wp_cond_true ((S.tm rfl).trans (congrArg Value.bool (Ht hd1 hi1))) (wp_skip (Tn (Fs (wp_block (Fs (Fg ?_))))))))
   obtain ⟨b1,o1,hm1,hr1⟩:=Ev (a:=a) (x:=.tmp 6) (y:=.tmp 8) (ty:=0) Pf Cv (Io hd1 hi1) rfl (S.tm rfl) (S.tm rfl)
   refine lv S (hr1 _) rfl ?_;clear S;intro a S
   clear hr1
   refine lv S (Hm isAgg3 (off:=o1) (o:=0) (S.tm rfl) (hm1.at S.emb0) rfl) rfl fun a S=>Va S rfl rfl fun a S=>Dz (Vm S rfl rfl fun a S=>Vm S rfl rfl fun a S=>Vb S Kw rfl rfl rfl fun a S=>Dl ?_)
   refine Fc h (S.tm rfl) (fun hb1 h=>?_) (fun hb1 h=>?_)
   ·refine Fr (Vm S rfl rfl fun a S=>Va S rfl rfl fun a S=>Dl (wp_ret (Fl (Dt (Dt (Fl ?_))))))
    refine Dt (Dt ?_)
    subst h
    exact Ej S results103 rfl rfl
   ·exact wp_skip (Ho (Tn (Fg (Vq S Gc rfl rfl rfl fun a S=>Vm S rfl rfl fun a S=>Dl (⟨ys1,⟨i1 + 1,⟨_,(hd1).trans (List.append_cons _ _ _),by simp [hi1]⟩,h,S.nf [] rfl ⟨rfl,rfl,rfl,(congrArg (fun z=>some (Value.int .i64 z)) (Hu hd1 hi1 (Iz Cv))),trivial⟩⟩,Nat.lt_succ_self _⟩)))))
 clear S h;rintro a w2 ⟨h,S⟩;rw [hj1] at h;clear hj1 j1
 refine Tn (Fr (Vm S rfl rfl fun a S=>Va S rfl rfl fun a S=>Dl (wp_ret ?_)))
 subst h
 exact Ej S results103 rfl rfl
set_option maxRecDepth 20000 in
theorem GY (w : World) (Ap : Dk) (Au : Dk) (r : Int) (h : Nb Ap Au = r) :
    Calls prog 80 [.agg (Dk.enc Ap).toArray,.agg (Dk.enc Au).toArray].toArray w (Ret w [] fun _ v _=>v = iV r):=by
 refine Fe func80 rfl ntmps80 rfl fun a S=>?_
 unfold Nb at h
 replace S:=S.k2 0 1 rfl
 refine Fr (Mn S (S.tm rfl) (cs:=(Dk.enc Ap)) rfl rfl ?_);clear S;intro a w1 b1 hz1 hk1 S
 refine Mn S (S.tm rfl) (cs:=(Dk.enc Au)) rfl rfl ?_;clear S;intro a w2 b2 hz2 hk2 S
 refine Vk S rfl rfl fun a S=>Dl (Fs (Hd [] ([]) Tryz.mixed S rfl (by kernel_rfl) ?_));clear S;intro w8 hk8 hsel S
 refine Eb 0 S hsel rfl rfl rfl (by kernel_rfl) (by kernel_rfl) rfl (fun _ hw=>(Fy Sr (S.tm rfl))) fun a S=>Eb 1 S hsel rfl rfl rfl (by kernel_rfl) (by kernel_rfl) rfl (fun _ hw=>(Hm isAgg3 (off:=0) (o:=2) (S.tm rfl) ((S.blk_mem (i:=1) (cells:=(Dk.enc Ap)) (b:=b1) (T:=101) rfl (Ia (e':=.blk b1 (Dk.enc Ap) 101))).kept hw) rfl)) fun a S=>Eb 2 S hsel rfl rfl rfl (by kernel_rfl) (by kernel_rfl) rfl (fun _ hw=>(Fy Sr (S.tm rfl))) fun a S=>Eb 3 S hsel rfl rfl rfl (by kernel_rfl) (by kernel_rfl) rfl (fun _ hw=>(Hm isAgg3 (off:=0) (o:=2) (S.tm rfl) ((S.blk_mem (i:=0) (cells:=(Dk.enc Au)) (b:=b2) (T:=101) rfl (Ia (e':=.blk b2 (Dk.enc Au) 101))).kept hw) rfl)) fun a S=>Eb 5 S hsel rfl rfl rfl (by kernel_rfl) (by kernel_rfl) rfl (fun _ hw=>(Fy Pq (S.tm rfl))) fun a S=>Eb 6 S hsel rfl rfl rfl (by kernel_rfl) (by kernel_rfl) rfl (fun _ hw=>(Hm isAgg9 (off:=0) (o:=0) (S.tm rfl) ((S.blk_mem (i:=1) (cells:=(Dk.enc Ap)) (b:=b1) (T:=101) rfl (Ia (e':=.blk b1 (Dk.enc Ap) 101))).kept hw) rfl)) fun a S=>Eb 7 S hsel rfl rfl rfl (by kernel_rfl) (by kernel_rfl) rfl (fun _ hw=>(Fy Pq (S.tm rfl))) fun a S=>Eb 8 S hsel rfl rfl rfl (by kernel_rfl) (by kernel_rfl) rfl (fun _ hw=>(Hm isAgg9 (off:=0) (o:=0) (S.tm rfl) ((S.blk_mem (i:=0) (cells:=(Dk.enc Au)) (b:=b2) (T:=101) rfl (Ia (e':=.blk b2 (Dk.enc Au) 101))).kept hw) rfl)) fun a S=>Eb 10 S hsel rfl rfl rfl (by kernel_rfl) (by kernel_rfl) rfl (fun _ hw=>(Fy Sc (S.tm rfl))) fun a S=>Eb 11 S hsel rfl rfl rfl (by kernel_rfl) (by kernel_rfl) rfl (fun _ hw=>(Hm isAgg3 (off:=0) (o:=1) (S.tm rfl) ((S.blk_mem (i:=1) (cells:=(Dk.enc Ap)) (b:=b1) (T:=101) rfl (Ia (e':=.blk b1 (Dk.enc Ap) 101))).kept hw) rfl)) ?_;clear S;intro a S
 refine Eb 12 S hsel rfl rfl rfl (by kernel_rfl) (by kernel_rfl) rfl (fun _ hw=>(Fy Sc (S.tm rfl))) fun a S=>Eb 13 S hsel rfl rfl rfl (by kernel_rfl) (by kernel_rfl) rfl (fun _ hw=>(Hm isAgg3 (off:=0) (o:=1) (S.tm rfl) ((S.blk_mem (i:=0) (cells:=(Dk.enc Au)) (b:=b2) (T:=101) rfl (Ia (e':=.blk b2 (Dk.enc Au) 101))).kept hw) rfl)) fun a S=>He 4 (by kernel_rfl) rfl (Dw S (fun _=>Dp (vs:=[iV Ap.At,iV Au.At]) ⟨(S.tm rfl),(S.tm rfl),trivial⟩ call104) (Yb _ Ap.At Au.At _ rfl) rfl ?_);clear S;intro v5 a w9 hv5 hk9 hn5 S
 subst hv5
 refine Ld (Ig hk9 (He 9 (by kernel_rfl) rfl (Dw S (fun _=>Dp (vs:=[sV Ap.Site,sV Au.Site]) ⟨(S.tm rfl),(S.tm rfl),trivial⟩ call53) (Ot _ Ap.Site Au.Site _ rfl) rfl ?_)));clear S;intro v6 a w10 hv6 hk10 hn6 S
 subst hv6
 refine Ld (Ig hk10 (He 14 (by kernel_rfl) rfl (Dw S (fun _=>Dp (vs:=[iV Ap.No,iV Au.No]) ⟨(S.tm rfl),(S.tm rfl),trivial⟩ call104) (Yb _ Ap.No Au.No _ rfl) rfl ?_)));clear S;intro v7 a w11 hv7 hk11 hn7 S
 subst hv7
 refine Ld (Ig hk11 (He 15 (by kernel_rfl) rfl (Er S underlying22 sizeOf3 zeroValue3 rfl rfl (pv:=[(0,iV (Kc Ap.At Au.At)),(1,iV (Hp Ap.Site Au.Site)),(2,iV (Kc Ap.No Au.No))]) ⟨rfl,(S.tm rfl),rfl,(S.tm rfl),rfl,(S.tm rfl),trivial⟩ (cs:=[iV (Kc Ap.At Au.At),iV (Hp Ap.Site Au.Site),iV (Kc Ap.No Au.No)]) (by kernel_rfl) rfl ?_)));clear S;intro a w12 b4 hz4 hk12 S
 refine Ld (Ig hk12 (He 16 (by kernel_rfl) rfl (Dw S (fun _=>Dp (vs:=[.slice (some ⟨b4,0,none⟩) 3 3]) ⟨(S.tm rfl),trivial⟩ call103) (DF _ (.slice (some ⟨b4,0,none⟩) 3 3) [(Kc Ap.At Au.At),(Hp Ap.Site Au.Site),(Kc Ap.No Au.No)] (Jx Ik S (i:=0) rfl rfl rfl rfl ((Ia (e':=.blk b4 [iV (Kc Ap.At Au.At),iV (Hp Ap.Site Au.Site),iV (Kc Ap.No Au.No)] 3)) _ rfl)) _ rfl) rfl ?_)));clear S;intro v8 a w13 hv8 hk13 hn8 S
 subst hv8
 refine Ld (Ig hk13 (Lw [17] hsel (by kernel_rfl) rfl ?_))
 clear hsel
 refine Gm S rfl (Ra (S.tm rfl)) rfl fun a S=>Hv ?_
 replace S:=S.n0.k1 4 rfl
 refine Tn (wp_ret ?_)
 subst h
 exact Ej S results80 rfl rfl
theorem Xf (w : World) (Ac : Dk) (r : Eo) (h : Fd Ac = r) :
    Calls prog 81 [.agg (Dk.enc Ac).toArray].toArray w (Ret w [] fun _ v _=>v = .agg (Eo.enc r).toArray):=by
 refine Fe func81 rfl ntmps81 rfl fun a S=>?_
 unfold Fd at h
 replace S:=S.k1 0 rfl
 refine Fr (Mn S (S.tm rfl) (cs:=(Dk.enc Ac)) rfl rfl ?_);clear S;intro a w1 b1 hz1 hk1 S
 refine Hs S zeroValue160 (cs:=[sV An,iV 0]) rfl rfl ?_;clear S;intro a w2 b2 hz2 hk2 S
 refine Dz (Vf Pq S rfl rfl fun a S=>Vl isAgg9 1 S rfl rfl rfl rfl fun a S=>Vf Sc S rfl rfl fun a S=>Vl isAgg3 1 S rfl rfl rfl rfl fun a S=>lv S (Mr UO (pv:=[(0,sV Ac.Site),(1,iV Ac.No)]) ⟨rfl,(S.tm rfl),rfl,(S.tm rfl),trivial⟩ (cs:=[sV Ac.Site,iV Ac.No]) (by kernel_rfl)) rfl fun a S=>Ex S (S.tm rfl) (S.tm rfl) (i:=0) (off:=0) rfl sizeOf160 (vs:=[sV Ac.Site,iV Ac.No]) rfl rfl rfl rfl ?_);clear S;intro w3 hk3 S
 refine Dl (wp_ret ?_)
 subst h
 exact Xw S (rs:=[.cell 2 160]) (vs:=[.agg #[sV Ac.Site,iV Ac.No]]) results81 ⟨(Ti (off:=0) S rfl isAgg160 sizeOf160 rfl (S.cellsAt (i:=0) rfl)),trivial⟩ rfl rfl
set_option maxRecDepth 20000 in
theorem DV (w : World) (Ab : Value) (Ah : List Dk) (Af : Slc (view w []) 11 Ab (Ah.map Dk.enc)) (r : Int) (h : Pl Ah = some r) :
    Calls prog 43 [Ab].toArray w (Ret w [] fun _ v _=>v = iV r):=by
 refine Fe func43 rfl ntmps43 rfl fun a S=>?_
 unfold Pl at h
 replace S:=S.k1 0 rfl
 refine Fr (Vk S rfl rfl fun a S=>Dl (Fs (Fr (Vm S rfl rfl fun a S=>lv S (Fq Nj (S.tm rfl) (Fj Af)) rfl fun a S=>Vq S It rfl rfl rfl ?_))));clear S;intro a S
 refine Dl (Fc h (S.tm rfl) (fun hb1 h=>?_) (fun hb1 h=>?_))
 ·refine Fr (Vk S rfl rfl fun a S=>Dl (wp_ret (Dt ?_)))
  obtain rfl:=Option.some.inj h
  exact Ej S results43 rfl rfl
 ·refine wp_skip (Tn (Fr (Rx (κ:=Eo) (ν:=Bool) S rfl (fun x=>Value.agg (Eo.enc x).toArray) Value.bool ?_)));clear S;intro a w1 b1 hz1 hk1 S
  refine Va S rfl rfl fun a S=>Dz (Vk S rfl rfl fun a S=>Dl (Fs (Fs (Fg ?_))))
  refine Vm S rfl rfl fun a S=>lv S (Fq Nj (S.tm rfl) (Fj Af)) rfl fun a S=>lv S (Rm rfl) rfl fun a S=>Dl ?_
  replace S:=(S.nl [.map b1 (Gt (fun x=>Value.agg (Eo.enc x).toArray) Value.bool ([] : List (Eo × Bool))) ([] : List (Eo × Bool)).length] [true] rfl).k6 0 3 4 12 13 14 rfl
  obtain ⟨j1,hj1,h⟩:=Ep h
  refine Eg (fun a w'=>∃ x1 : List (Eo × Bool),∃ x2 : Bool,j1 x1 x2 = some r ∧ Sx w [] nov [.map b1 (Gt (fun x=>Value.agg (Eo.enc x).toArray) Value.bool x1) x1.length] [(4,bV x2)] 48 a w') ?_ ?_
  ·refine wp_block (Gx (fun (ys1 : List Dk) a w'=>∃ i1 : Nat,∃ x1 : List (Eo × Bool),∃ x2 : Bool,(∃ dn,Ah = dn ++ ys1 ∧ dn.length = i1) ∧ Ib Ah j1 ys1 i1 x1 x2 = some r ∧ Sx w [] nov [.map b1 (Gt (fun x=>Value.agg (Eo.enc x).toArray) Value.bool x1) x1.length] [(0,Ab),(3,.map (some b1)),(4,bV x2),(12,Ab),(13,iV (Ah.length : Int)),(14,iV (i1 : Int))] 48 a w') List.length Ah ⟨0,([] : List (Eo × Bool)),false,⟨[],rfl,rfl⟩,h,S.nf [true] rfl (subR rfl)⟩ ?_)
   clear S h;rintro ys1 a w2 ⟨i1,x1,x2,⟨dn,hd1,hi1⟩,h,S⟩
   cases ys1 with
   | nil =>
    rw [Ib.eq_1] at h
    refine Fr (Vb S Et rfl rfl rfl fun a S=>Ld ?_)
    replace S:=S.k7 0 3 4 12 13 14 15 rfl
    exact Tn (Fs (wp_cond_false ((S.tm rfl).trans (congrArg Value.bool (Il hd1 hi1))) (wp_exit (Ed (Ed (Gp (Tn (⟨x1,x2,h,S.nf [true] rfl ⟨rfl,trivial⟩⟩))))))))
   | cons y1 ys1 =>
    rw [Ib.eq_2] at h
    refine Fr (Vb S Et rfl rfl rfl fun a S=>Ld ?_)
    replace S:=S.k7 0 3 4 12 13 14 15 rfl
    refine Tn (Fs (wp_cond_true ((S.tm rfl).trans (congrArg Value.bool (Ht hd1 hi1))) (wp_skip (Tn (Fs (wp_block (Fr (Vm S rfl rfl ?_))))))));clear S;intro a S
    obtain ⟨b2,o1,hm1,hr1⟩:=Ev (a:=a) (x:=.tmp 12) (y:=.tmp 14) (ty:=0) Nj Af (Io hd1 hi1) rfl (S.tm rfl) (S.tm rfl)
    refine lv S (hr1 _) rfl ?_;clear S;intro a S
    clear hr1
    refine lv S (Fp isAgg101 sizeOf101 (off:=o1) (o:=0) (part:=(Dk.enc y1)) rfl rfl (S.tm rfl) (hm1.at S.emb0)) rfl fun a S=>Hs S zeroValue101 (cs:=[sV An,iV 0,iV 0,iV 0,sV An,sV An,sV An,iV 0,iV 0,sV An,iV 0]) rfl rfl ?_;clear S;intro a w4 b3 hz2 hk2 S
    refine Va S rfl rfl fun a S=>Ex S (S.tm rfl) (S.tm rfl) (i:=0) (off:=0) rfl sizeOf101 (vs:=(Dk.enc y1)) rfl rfl rfl rfl ?_;clear S;intro w5 hk3 S
    refine Dl (Fs (Fr (lv S (Fp isAgg101 sizeOf101 (off:=0) (o:=0) (part:=(Dk.enc y1)) rfl rfl (S.tm rfl) (S.cellsAt (i:=0) rfl)) rfl ?_)));clear S;intro a S
    obtain ⟨r1,hr2,h⟩:=Fa h
    refine Dw S (fun _=>Dp (vs:=[.agg (Dk.enc y1).toArray]) ⟨(S.tm rfl),trivial⟩ call79) (EY _ y1 _ hr2) rfl ?_;clear S;intro v1 a w6 hv1 hk4 hn1 S
    subst hv1
    refine Va S rfl rfl fun a S=>Ld ?_
    replace S:=(S.nl [.blk b3 (Dk.enc y1) 101,.map b1 (Gt (fun x=>Value.agg (Eo.enc x).toArray) Value.bool x1) x1.length] [true,true] rfl).k9 0 3 4 5 6 7 12 13 14 rfl
    refine Tn (Fr (Vm S rfl rfl fun a S=>Vq S Kw rfl rfl rfl fun a S=>Dl (Fc h (S.tm rfl) (fun hb2 h=>?_) (fun hb2 h=>?_))))
    ·refine Fr (Vm S rfl rfl fun a S=>Va S rfl rfl fun a S=>Dl (wp_ret (Dt (Fl (Dt (Dt ?_))))))
     refine Fl (Dt (Dt ?_))
     obtain rfl:=Option.some.inj h
     exact Ej S results43 rfl rfl
    ·refine wp_skip (Tn (Fs (Fs ?_)))
     obtain ⟨j2,hj2,h⟩:=Ep h
     refine Eg (fun a w'=>∃ x3 : Bool,j2 x3 = some r ∧ Sx w [] nov [.blk b3 (Dk.enc y1) 101,.map b1 (Gt (fun x=>Value.agg (Eo.enc x).toArray) Value.bool x1) x1.length] [(0,Ab),(3,.map (some b1)),(4,bV x2),(6,.pointer (some ⟨b3,0,none⟩)),(12,Ab),(13,iV (Ah.length : Int)),(14,iV (i1 : Int)),(35,bV x3)] 48 a w') ?_ ?_
     ·rcases Bool.eq_false_or_eq_true (decide (0 < (i1 : Int))) with hb3 | hb3
      ·replace h:=Qc h hb3
       obtain ⟨hc1,h⟩:=Ie h
       refine Hd [] ([]) Tryz.mixed S rfl (by kernel_rfl) ?_;clear S;intro w9 hk6 hsel S
       refine Eb 0 S hsel rfl rfl rfl (by kernel_rfl) (by kernel_rfl) rfl (fun _ hw=>(Rm (S.tm rfl))) fun a S=>Eb 1 S hsel rfl rfl rfl (by kernel_rfl) (by kernel_rfl) rfl (fun _ hw=>(It (S.tm rfl) rfl)) fun a S=>Eb 2 S hsel rfl rfl rfl (by kernel_rfl) (by kernel_rfl) rfl (fun _ hw=>(Rm (S.tm rfl))) fun a S=>Eu 3 S hsel rfl rfl rfl rfl hb3 rfl rfl (by kernel_rfl) (by kernel_rfl) rfl (fun _ hw=>(Rm (S.tm rfl))) fun a S=>Eu 4 S hsel rfl rfl rfl rfl hb3 rfl rfl (by kernel_rfl) (by kernel_rfl) rfl (fun _ hw=>(Rm (S.tm rfl))) fun a S=>Eu 5 S hsel rfl rfl rfl rfl hb3 rfl rfl (by kernel_rfl) (by kernel_rfl) rfl (fun _ hw=>(Iu (S.tm rfl) rfl)) ?_;clear S;intro a S
       obtain ⟨b5,o3,hm3,hr4⟩:=Ev (a:=a) (x:=.tmp 27) (y:=.tmp 29) (ty:=0) Nj (Af.mono (S.le_arg Ec)) (Dx hc1).1 (Dx hc1).2 (S.tm rfl) (S.tm rfl)
       refine Eu 6 S hsel rfl rfl rfl rfl hb3 rfl rfl (by kernel_rfl) (by kernel_rfl) rfl (fun _ hw=>hr4 _) ?_;clear S;intro a S
       clear hr4
       refine Eu 7 S hsel rfl rfl rfl rfl hb3 rfl rfl (by kernel_rfl) (by kernel_rfl) rfl (fun _ hw=>(Fp isAgg101 sizeOf101 (off:=o3) (o:=0) (part:=(Dk.enc (nth Ah (W ((i1 : Int) - 1))))) rfl rfl (S.tm rfl) (hm3.kept hw))) fun a S=>Eu 8 S hsel rfl rfl rfl rfl hb3 rfl rfl (by kernel_rfl) (by kernel_rfl) rfl (fun _ hw=>(Fp isAgg101 sizeOf101 (off:=0) (o:=0) (part:=(Dk.enc y1)) rfl rfl (S.tm rfl) ((S.blk_mem (i:=0) (cells:=(Dk.enc y1)) (b:=b3) (T:=101) rfl (Ia (e':=.blk b3 (Dk.enc y1) 101))).kept hw))) fun a S=>He 9 (by kernel_rfl) rfl (Du S rfl rfl rfl hb3 (Dw S (fun _=>Dp (vs:=[.agg (Dk.enc (nth Ah (W ((i1 : Int) - 1)))).toArray,.agg (Dk.enc y1).toArray]) ⟨(S.tm rfl),(S.tm rfl),trivial⟩ call80) (GY _ (nth Ah (W ((i1 : Int) - 1))) y1 _ rfl) rfl ?_));clear S;intro v3 a w10 hv3 hk7 hn3 S
       subst hv3
       refine Ld (Ig hk7 (Lw [10,11] hsel (by kernel_rfl) rfl ?_))
       clear hsel
       refine Ee S rfl rfl rfl rfl hb3 (Fb S (Qe (S.tm rfl) rfl) rfl fun a S=>Gm S rfl (Qu hb3 (S.tm rfl) (S.tm rfl)) rfl fun a S=>Hv ?_)
       replace S:=S.k16 0 3 4 6 12 13 14 27 28 29 30 31 32 33 34 35 rfl
       exact Tn (⟨decide (0 ≤ (Nb (nth Ah (W ((i1 : Int) - 1))) y1)),h,S.nf [true,true] rfl (subR rfl)⟩)
      ·replace h:=Qd h hb3
       refine Hd [] ([]) Tryz.mixed S rfl (by kernel_rfl) ?_;clear S;intro w11 hk8 hsel S
       refine Lw [0,1,2,3,4,5,6,7,8,9,10,11] hsel (by kernel_rfl) rfl ?_
       clear hsel
       refine Gm S rfl (Rm (S.tm rfl)) rfl fun a S=>Gm S rfl (It (S.tm rfl) rfl) rfl fun a S=>Gm S rfl (Rm (S.tm rfl)) rfl ?_;clear S;intro a S
       iterate 8 (refine Nk S rfl rfl rfl rfl (Jh hb3) rfl ?_ rfl;clear S;intro a S)
       refine Gm S rfl (Qv hb3 (S.tm rfl) rfl) rfl fun a S=>Hv ?_
       replace S:=S.k8 0 3 4 6 12 13 14 35 rfl
       exact Tn (⟨false,h,S.nf [true,true] rfl (subR rfl)⟩)
     clear S h;rintro a w7 ⟨x3,h,S⟩;rw [hj2] at h;clear hj2 j2
     refine Tn (Fc h (S.tm rfl) (fun hb4 h=>?_) (fun hb4 h=>?_))
     ·refine Fr (Vk S rfl rfl fun a S=>Dl (wp_ret (Dt (Fl (Dt (Dt (Fl ?_)))))))
      refine Dt (Dt ?_)
      obtain rfl:=Option.some.inj h
      exact Ej S results43 rfl rfl
     ·refine wp_skip (Tn (Fr (Vm S rfl rfl fun a S=>Vm S rfl rfl fun a S=>Hn 5 (fun a w'=>Keep [] w7 w' ∧ Sx w [] nov [.blk b3 (Dk.enc y1) 101,.map b1 (Gt (fun x=>Value.agg (Eo.enc x).toArray) Value.bool x1) x1.length] [(0,Ab),(3,.map (some b1)),(6,.pointer (some ⟨b3,0,none⟩)),(12,Ab),(13,iV (Ah.length : Int)),(14,iV (i1 : Int)),(42,bV (x2 || (Ea x1 (Fd y1) false)))] 48 a w') ?_ ?_)))
      ·rcases Bool.eq_false_or_eq_true x2 with hb5 | hb5
       ·iterate 4 (refine Gn S rfl rfl rfl (Kp hb5) rfl ?_ rfl;clear S;intro a S)
        exact lv S (Jq (Ea x1 (Fd y1) false) hb5 (S.tm rfl) rfl) rfl fun a S=>Dl (⟨Keep.refl _ _,S.nf [true,true] rfl (subR rfl)⟩)
       ·refine Du S rfl rfl rfl hb5 (Vm S rfl rfl fun a S=>Du S rfl rfl rfl hb5 (lv S (Fp isAgg101 sizeOf101 (off:=0) (o:=0) (part:=(Dk.enc y1)) rfl rfl (S.tm rfl) (S.cellsAt (i:=0) rfl)) rfl fun a S=>Du S rfl rfl rfl hb5 (Dw S (fun _=>Dp (vs:=[.agg (Dk.enc y1).toArray]) ⟨(S.tm rfl),trivial⟩ call81) (Xf _ y1 _ rfl) rfl ?_)));clear S;intro v4 a w13 hv4 hk9 hn4 S
        subst hv4
        exact Du S rfl rfl rfl hb5 (lv S (Qa (kv:=(fun x=>Value.agg (Eo.enc x).toArray)) (vv:=Value.bool) (m:=x1) (key:=(Fd y1)) (z:=false) (S.map_at (i:=1) rfl) underlying158 EW zeroValue4 (S.tm rfl) (S.tm rfl)) rfl fun a S=>lv S (Jr hb5 (S.tm rfl) (S.tm rfl)) rfl fun a S=>Dl (⟨hk9,S.nf [true,true] rfl (subR rfl)⟩))
      clear S;rintro a w12 ⟨hk10,S⟩
      refine Va S rfl rfl fun a S=>Dl (Fg (Vm S rfl rfl fun a S=>lv S (Fp isAgg101 sizeOf101 (off:=0) (o:=0) (part:=(Dk.enc y1)) rfl rfl (S.tm rfl) (S.cellsAt (i:=0) rfl)) rfl fun a S=>Dw S (fun _=>Dp (vs:=[.agg (Dk.enc y1).toArray]) ⟨(S.tm rfl),trivial⟩ call81) (Xf _ y1 _ rfl) rfl ?_));clear S;intro v5 a w14 hv5 hk11 hn5 S
      subst hv5
      refine Pc (kv:=(fun x=>Value.agg (Eo.enc x).toArray)) (vv:=Value.bool) (m:=x1) (key:=(Fd y1)) (val:=true) S (i:=1) rfl underlying158 EW (S.tm rfl) (S.tm rfl) rfl ?_;clear S;intro w15 hk12 S
      exact Ld (Ho (Tn (Fg (Vq S Gc rfl rfl rfl fun a S=>Vm S rfl rfl fun a S=>Dl (⟨ys1,⟨i1 + 1,(Gl x1 (Fd y1) true),(x2 || (Ea x1 (Fd y1) false)),⟨_,(hd1).trans (List.append_cons _ _ _),by simp [hi1]⟩,h,S.nf [false,true] rfl ⟨rfl,rfl,rfl,rfl,rfl,(congrArg (fun z=>some (Value.int .i64 z)) (Hu hd1 hi1 (Iz Af))),trivial⟩⟩,Nat.lt_succ_self _⟩)))))
  clear S h;rintro a w3 ⟨x1,x2,h,S⟩;rw [hj1] at h;clear hj1 j1
  refine Tn (Fs (Fr (Vm S rfl rfl fun a S=>Dl (Fc h (S.tm rfl) (fun hb6 h=>?_) (fun hb6 h=>?_)))))
  ·refine Fr (Vk S rfl rfl fun a S=>Dl (wp_ret (Dt ?_)))
   obtain rfl:=Option.some.inj h
   exact Ej S results43 rfl rfl
  ·refine wp_skip (Tn (Fr (Vk S rfl rfl fun a S=>Dl (wp_ret ?_))))
   obtain rfl:=Option.some.inj h
   exact Ej S results43 rfl rfl
theorem AS (w : World) (Ax : Value) (Ar : List Int) (Db : (LEnt.own Ax 3 1 Ar.length (Ar.flatMap eInt)).holds w) (r : (List Int)) (h : Oq Ar = some r) :
    Calls prog 106 [Ax].toArray w (Ret w (Ax.ownBlock.toList) fun _ v w'=>(LEnt.own Ax 3 1 r.length (r.flatMap eInt)).holds w' ∧ v = .tuple #[]):=by
 refine Mv (Ax.ownBlock.toList) [.own Ax 3 1 Ar.length (Ar.flatMap eInt)] func106 rfl ntmps106 rfl (fun e he=>by simp only [List.mem_singleton] at he;subst he;exact Db) (Lt _) (Nf _) fun a S=>?_
 unfold Oq at h
 replace S:=(S.nl [.own Ax 3 1 Ar.length (Ar.flatMap eInt)] [true] rfl).k1 0 rfl
 refine Fr (Vm S rfl rfl fun a S=>lv S (Fq Pf (S.tm rfl) (Ph (S.own_at (i:=0) rfl))) rfl fun a S=>Vq S Iu rfl rfl rfl fun a S=>Vk S rfl rfl fun a S=>Va S rfl rfl fun a S=>Dl ?_)
 replace S:=S.k3 0 2 3 rfl
 obtain ⟨j1,hj1,h⟩:=Ep h
 refine Eg (fun a w'=>∃ x1 : List Int,j1 x1 = some r ∧ Sx w (Ax.ownBlock.toList) nov [.own Ax 3 1 x1.length (x1.flatMap eInt)] [] 28 a w') ?_ ?_
 ·refine wp_block (Gx (fun (m1 : Nat) a w'=>∃ x1 : List Int,∃ x2 : Int,∃ x3 : Int,Jl j1 m1 x1 x2 x3 = some r ∧ Sx w (Ax.ownBlock.toList) nov [.own Ax 3 1 x1.length (x1.flatMap eInt)] [(0,Ax),(2,iV x2),(3,iV x3)] 28 a w') id (((W ((Ar.length : Int) - 1)) - 0).toNat + 2) ⟨Ar,0,W ((Ar.length : Int) - 1),h,S.nf [true] rfl (subR rfl)⟩ ?_)
  clear S h;rintro m1 a w1 ⟨x1,x2,x3,h,S⟩
  cases m1 with
  | zero=>rw [Jl.eq_1] at h;cases h
  | succ m1 =>
   rw [Jl.eq_2] at h
   refine Fs (Fr (Vm S rfl rfl fun a S=>Vm S rfl rfl fun a S=>Vb S Et rfl rfl rfl fun a S=>Dl (Fc h (S.tm rfl) (fun hb1 h=>?_) (fun hb1 h=>?_))))
   ·refine wp_skip (Tn (Fs (wp_block ?_)))
    obtain ⟨hc1,h⟩:=Ie h
    obtain ⟨hc2,h⟩:=Ie h
    obtain ⟨hc3,h⟩:=Ie h
    obtain ⟨hc4,h⟩:=Ie h
    refine Hd [13,15] ([]) Tryz.mixed S rfl (by kernel_rfl) ?_;clear S;intro w7 hk5 hsel S
    refine Gy 0 S hsel rfl rfl (by kernel_rfl) (by kernel_rfl) rfl (fun _=>(Rm (S.tm rfl))) fun a S=>Gy 1 S hsel rfl rfl (by kernel_rfl) (by kernel_rfl) rfl (fun _=>(Rm (S.tm rfl))) fun a S=>Gy 2 S hsel rfl rfl (by kernel_rfl) (by kernel_rfl) rfl (fun _=>(Rm (S.tm rfl))) fun a S=>Gy 3 S hsel rfl rfl (by kernel_rfl) (by kernel_rfl) rfl (fun _=>(Rm (S.tm rfl))) fun a S=>Gy 4 S hsel rfl rfl (by kernel_rfl) (by kernel_rfl) rfl (fun _=>(Rm (S.tm rfl))) fun a S=>Gy 5 S hsel rfl rfl (by kernel_rfl) (by kernel_rfl) rfl (fun _=>(Rm (S.tm rfl))) ?_;clear S;intro a S
    obtain ⟨b5,hg5,hr5⟩:=Hq (a:=a) (x:=.tmp 18) (y:=.tmp 19) (ty:=0) Pf Ik S (i:=0) rfl (Dx hc1).1 (Dx hc1).2 (S.tm rfl) (S.tm rfl)
    refine Gy 6 S hsel rfl rfl (by kernel_rfl) (by kernel_rfl) rfl (fun _=>(hr5 _)) ?_;clear S;intro a S
    clear hr5
    refine Eb 7 S hsel rfl (by kernel_rfl) (by kernel_rfl) (by kernel_rfl) (by kernel_rfl) rfl (fun _ hw=>(Hm isAgg3 (off:=x3.toNat * 1) (o:=0) (S.tm rfl) ((Pi Ik S (i:=0) rfl hg5 (Dx hc1).1 (Ia (e':=.own Ax 3 1 x1.length (x1.flatMap eInt)))).kept hw) rfl)) fun a S=>Gy 8 S hsel rfl rfl (by kernel_rfl) (by kernel_rfl) rfl (fun _=>(Rm (S.tm rfl))) fun a S=>Gy 9 S hsel rfl rfl (by kernel_rfl) (by kernel_rfl) rfl (fun _=>(Rm (S.tm rfl))) ?_;clear S;intro a S
    obtain ⟨b6,hg6,hr6⟩:=Hq (a:=a) (x:=.tmp 22) (y:=.tmp 23) (ty:=0) Pf Ik S (i:=0) rfl (Dx hc2).1 (Dx hc2).2 (S.tm rfl) (S.tm rfl)
    refine Gy 10 S hsel rfl rfl (by kernel_rfl) (by kernel_rfl) rfl (fun _=>(hr6 _)) ?_;clear S;intro a S
    clear hr6
    refine Eb 11 S hsel rfl (by kernel_rfl) (by kernel_rfl) (by kernel_rfl) (by kernel_rfl) rfl (fun _ hw=>(Hm isAgg3 (off:=x2.toNat * 1) (o:=0) (S.tm rfl) ((Pi Ik S (i:=0) rfl hg6 (Dx hc2).1 (Ia (e':=.own Ax 3 1 x1.length (x1.flatMap eInt)))).kept hw) rfl)) ?_;clear S;intro a S
    obtain ⟨b7,hg7,hr7⟩:=Hq (a:=a) (x:=.tmp 14) (y:=.tmp 15) (ty:=0) Pf Ik S (i:=0) rfl (Dx hc3).1 (Dx hc3).2 (S.tm rfl) (S.tm rfl)
    refine Gy 12 S hsel rfl rfl (by kernel_rfl) (by kernel_rfl) rfl (fun _=>(hr7 _)) ?_;clear S;intro a S
    clear hr7
    refine Ym 13 (Ax.ownBlock.toList) rfl (by kernel_rfl) rfl (Qg (c:=0) (j:=x2.toNat) (nth x1 x3) Ik S (S.tm rfl) (S.tm rfl) (i:=0) rfl hg7 (Dx hc3).1 sizeOf3 (vs:=[iV (nth x1 x3)]) rfl rfl rfl rfl rfl ?_);clear S;intro w9 hk7 S
    refine Ld (Yn ?_)
    obtain ⟨b8,hg8,hr8⟩:=Hq (a:=a) (x:=.tmp 16) (y:=.tmp 17) (ty:=0) Pf Ik S (i:=0) rfl (Dx hc4).1 (Dx hc4).2 (S.tm rfl) (S.tm rfl)
    refine Eb 14 S hsel rfl rfl rfl (by kernel_rfl) (by kernel_rfl) rfl (fun _ hw=>(hr8 _)) ?_;clear S;intro a S
    clear hr8
    refine He 15 (by kernel_rfl) rfl (Qg (c:=0) (j:=x3.toNat) (nth x1 x2) Ik S (S.tm rfl) (S.tm rfl) (i:=0) rfl hg8 (Dx hc4).1 sizeOf3 (vs:=[iV (nth x1 x2)]) rfl rfl rfl rfl rfl ?_);clear S;intro w11 hk9 S
    refine Ld (Ig hk9 (Xi (by kernel_rfl) ?_))
    clear hsel
    replace S:=(S.nl [.own Ax 3 1 ((x1.set x2.toNat (nth x1 x3)).set x3.toNat (nth x1 x2)).length (((x1.set x2.toNat (nth x1 x3)).set x3.toNat (nth x1 x2)).flatMap eInt)] [true] rfl).k3 0 2 3 rfl
    refine Ho (Tn (Fg (Vm S rfl rfl fun a S=>Vq S Gc rfl rfl rfl fun a S=>Vm S rfl rfl fun a S=>Vq S Iu rfl rfl rfl fun a S=>Va S rfl rfl fun a S=>Va S rfl rfl fun a S=>Dl ?_)))
    exact ⟨m1,⟨((x1.set x2.toNat (nth x1 x3)).set x3.toNat (nth x1 x2)),W (x2 + 1),W (x3 - 1),h,S.nf [true] rfl ⟨rfl,rfl,rfl,trivial⟩⟩,Nat.lt_succ_self _⟩
   ·exact wp_exit (Ed (Ed (Gp (Tn (⟨x1,h,S.nf [true] rfl trivial⟩)))))
 clear S h;rintro a w2 ⟨x1,h,S⟩;rw [hj1] at h;clear hj1 j1
 obtain rfl:=Option.some.inj h
 exact Vg S results106 ⟨(S.holds _ (List.mem_of_getElem? (i:=0) rfl)),rfl⟩
def NL (xs : List Dk) (j : Nat) : Array Value:=#[iV (j : Int),.agg (Dk.enc (nth xs (j : Int))).toArray]
theorem back_in (φ ξ : View) (n Bs : Nat) (sv : Value) (xs : List Dk) (hB : φ Bs = some (.cells [sv].toArray 34 (0,0))) (hs : Slc ξ 11 sv (xs.map Dk.enc)) (l : Nat) (J : Nat → World → Prop) (w : World) (hJ : ∀ k w,J k w → Emb φ w ∧ Emb ξ w) (h0 : J 0 w)
    (hr : ∀ k x w1,(Xu xs.length)[k]? = some x → J k w1 → YieldAt (WF none) (n - 1) prog l (NL xs x) w1 fun e w'=>e = .returned (.bool true) ∧ J (k + 1) w') :
    CallsIn (WF none) n prog 123 (#[.func (.yield l) #[] #[]] ++ #[.pointer (some ⟨Bs,0,none⟩)]) w fun e w'=>(∃ v,e = .returned v) ∧ J (Xu xs.length).length w':=by
  refine i_enter (vs:=[.func (.yield l) #[] #[],.pointer (some ⟨Bs,0,none⟩)]) func123 rfl ntmps123 rfl fun a S=>?_
  have hlen : (Xu xs.length).length = xs.length:=by simp [Xu]
  have hmx:=Iz hs
  have hQ : ∀ fn a w,¬ bodyPost prog fn (fun e w'=>(∃ v,e = .returned v) ∧ J (Xu xs.length).length w') .outgrown a w:=fun _ _ _ ⟨⟨_,e⟩,_⟩=>by cases e
  have hbox : ∀ {k : Nat} {w : World},J k w → Rt w Bs 0 [sv]:=fun hj=>(Ru hB).at (hJ _ _ hj).1
  have hw : ∀ k : Nat,k ≤ xs.length → W ((xs.length : Int) - 1 - (k : Int)) = (xs.length : Int) - 1 - (k : Int):=fun k hk=>Nu (by omega) (by omega)
  refine Xz (Rf (hQ f123) rfl (lv S (Hm isAgg34 (off:=0) (o:=0) (S.tm rfl) (hbox h0) rfl) rfl fun a S=>lv S (Fq Nj (S.tm rfl) (Fj hs)) rfl fun a S=>lv S (Iu (S.tm rfl) rfl) rfl fun a S=>lv S (Ra (S.tm rfl)) rfl fun a S=>Ld (Tn (wpIn_block (i_loop (fun m a w'=>∃ k : Nat,k ≤ xs.length ∧ m = xs.length - k ∧ J k w' ∧ Sx w' [] nov [] [(0,.func (.yield l) #[] #[]),(1,.pointer (some ⟨Bs,0,none⟩)),(3,iV ((xs.length : Int) - 1 - (k : Int)))] 19 a w') xs.length ⟨0,Nat.zero_le _,rfl,h0,?_⟩ ?_)))))
  · have h1:=(S.rebase (w':=w)).sub (K':=[(0,.func (.yield l) #[] #[]),(1,.pointer (some ⟨Bs,0,none⟩)),(3,iV (W ((xs.length : Int) - 1)))]) (subR rfl)
    have h2:=hw 0 (Nat.zero_le _)
    rw [show (((0 : Nat) : Int)) = 0 from rfl,Int.sub_zero] at h2 ⊢
    rw [h2] at h1
    exact h1
  · clear S;rintro m a w1 ⟨k,hk,rfl,hj,S⟩
    refine Xz (Xz (Rf (hQ f123) rfl (lv S (Rm (S.tm rfl)) rfl fun a S=>lv S (Qe (S.tm rfl) rfl) rfl fun a S=>Ld (Tn (LZ (S.tm rfl) (fun hb=>?_) (fun hb=>?_))))))
    · have hb' : (0 : Int) ≤ (xs.length : Int) - 1 - (k : Int):=by simpa using hb
      have hlt : k < xs.length:=by omega
      have hx:=revI_at hlt
      have hy:=hr k _ w1 hx hj
      have hidx : ((xs.length - 1 - k : Nat) : Int) = (xs.length : Int) - 1 - (k : Int):=by omega
      refine wpIn_skip (Tn (Xz (wpIn_block (Xz (wpIn_region_lit (PD S (Rm (S.tm rfl)) (fun _ h=>by cases h) rfl fun a S=>PD S (Rm (S.tm rfl)) (fun _ h=>by cases h) rfl fun a S=>PD S (Hm isAgg34 (off:=0) (o:=0) (S.tm rfl) (hbox hj) rfl) (fun _ h=>by cases h) rfl fun a S=>PD S (Rm (S.tm rfl)) (fun _ h=>by cases h) rfl ?_))))));clear S;intro a S
      obtain ⟨b1,o1,hm1,hr1⟩:=Ev (a:=a) (x:=.tmp 13) (y:=.tmp 14) (ty:=0) Nj hs (nth_q (show xs.length - 1 - k < xs.length by omega)) rfl (S.tm rfl) (S.tm (by rw [hidx];rfl))
      refine PD S (hr1 _) (fun _ h=>by cases h) rfl fun a S=>PD S (Fp isAgg101 sizeOf101 (off:=o1) (o:=0) (part:=(Dk.enc (nth xs ((xs.length - 1 - k : Nat) : Int)))) rfl rfl (S.tm rfl) (hm1.at (hJ _ _ hj).2)) (fun _ h=>by cases h) rfl ?_;clear S;intro a S
      have h12 : a.eval (.tmp 12) = iV (((xs.length - 1 - k : Nat)) : Int):=by rw [hidx];exact S.tm rfl
      have h16:=S.tm (t:=16) rfl
      refine n_yield S (S.tm rfl) (vs:=NL xs (xs.length - 1 - k)) (by simp [NL,h12,h16]) rfl hy ?_ (fun e w' h=>⟨_,h.1⟩)
      clear S;rintro v w2 a ⟨hv,hj2⟩ S
      obtain rfl : v = .bool true:=by injection hv
      refine PD S (Hj (S.tm rfl)) (fun _ h=>by cases h) rfl fun a S=>n_done (Tn (LZ (S.tm rfl) (fun h=>by cases h) (fun _=>wpIn_skip (Ho (Tn ?_)))))
      refine Rf (fun a w h=>hQ f123 a w h) rfl (lv S (Rm (S.tm rfl)) rfl fun a S=>lv S (Iu (S.tm rfl) rfl) rfl fun a S=>lv S (Ra (S.tm rfl)) rfl fun a S=>Ld (Tn ⟨xs.length - (k + 1),a,by omega,rfl,k + 1,hlt,rfl,hj2,?_⟩))
      have h1:=S.sub (K':=[(0,.func (.yield l) #[] #[]),(1,.pointer (some ⟨Bs,0,none⟩)),(3,iV (W ((xs.length : Int) - 1 - (k : Int) - 1)))]) (subR rfl)
      have h2:=hw (k + 1) hlt
      have h3 : (xs.length : Int) - 1 - ((k + 1 : Nat) : Int) = (xs.length : Int) - 1 - (k : Int) - 1:=by omega
      rw [h3] at h2 ⊢
      rw [h2] at h1
      exact h1
    · have hb' : ¬ (0 : Int) ≤ (xs.length : Int) - 1 - (k : Int):=by simpa using hb
      obtain rfl : k = xs.length:=by omega
      refine wpIn_exit (Ed (Ed (Gp ?_)))
      show bodyPost _ _ _ .normal _ _
      rw [BN]
      refine ⟨S.nodefer,.tuple #[],by rw [results_none results123],⟨_,rfl⟩,?_⟩
      rw [hlen]
      exact hj
theorem back_ok (w : World) (sv : Value) (m : Nat) (hsl : Kq sv m) : Calls prog 105 [sv].toArray w (Ret w [] fun τ v _=>∃ Bs,v = .func (.func 123) #[] #[.pointer (some ⟨Bs,0,none⟩)] ∧ τ Bs = some (.cells [sv].toArray 34 (0,0))):=by
  refine Mv [] [] func105 rfl ntmps105 rfl (by simp) (by simp [fps]) (by simp [fps]) fun a S=>(Fs (Fg (Mn S (S.tm rfl) (cs:=[sv]) (Kq.cells hsl) rfl ?_)));clear S;intro a w1 b1 hz1 hk1 S
  refine lv S (Ra rfl) rfl fun a S=>Ld (Tn (Fs (Fg (lv S (Tg (us:=#[]) (vs:=#[.pointer (some ⟨b1,0,none⟩)]) (by simp) (by simp [S.tm (t:=1) rfl])) rfl fun a S=>lv S (Ra (S.tm rfl)) rfl fun a S=>Ld (Tn (wp_ret ?_))))))
  exact Ej S results105 rfl ⟨b1,rfl,blk_ret S (i:=0) rfl rfl⟩
abbrev kvP : Eo → Value:=fun x=>Value.agg (Eo.enc x).toArray
abbrev IG (b1 b2 b3 b4 : Nat) (at_ : Int) (m : List (Eo × Bool)) (x : List Int) (v : Value) : List LEnt :=
  [.own v 3 1 x.length (x.flatMap eInt),.blk b4 [v] 22,.blk b3 [.map (some b2)] 158,.map b2 (Gt kvP Value.bool m) m.length,.blk b1 [iV at_] 3]
set_option maxRecDepth 20000 in
theorem FR (w : World) (v_l : Value) (l : List Dk) (hs_l : Slc (view w []) 11 v_l (l.map Dk.enc)) (at_ : Int) (r : List Int) (h : Wp l at_ = some r) :
    Calls prog 82 [v_l,iV at_].toArray w (Ret w [] fun τ v _=>Tf τ 3 1 v r.length (r.flatMap eInt)):=by
  have hcons : ∀ {dn is : List Nat} {i : Nat} {k : Nat},Xu l.length = dn ++ i :: is → dn.length = k → (Xu l.length)[k]? = some i:=fun hd hk=>by rw [hd,← hk];simp
  have hQ : ∀ fn a w',¬ bodyPostM (WF none) 3 prog fn (Ret w [] fun τ v _=>Tf τ 3 1 v r.length (r.flatMap eInt)) .outgrown a w':=fun _ _ _ ⟨_,e,_⟩=>by cases e
  refine US 3 func82 rfl ntmps82 rfl fun a S=>?_
  replace S:=S.nk [] [(0,v_l),(1,iV at_)] [] rfl (subR rfl)
  refine Xz (Rf (hQ f82) rfl (Mn S (S.tm rfl) (cs:=[iV at_]) rfl rfl ?_));clear S;intro a w1 b1 hz1 hk1 S
  refine lv S (Ra rfl) rfl fun a S=>Ld (Tn (Xz (Rf (hQ f82) rfl (Rx (κ:=Eo) (ν:=Bool) S rfl kvP Value.bool ?_))));clear S;intro a w2 b2 hz2 hk2 S
  refine Hs S zeroValue158 (cs:=[.map none]) rfl rfl ?_;clear S;intro a w3 b3 hz3 hk3 S
  refine Ex S (S.tm rfl) (S.tm rfl) (i:=0) (off:=0) rfl sizeOf158 (vs:=[.map (some b2)]) rfl rfl rfl rfl ?_;clear S;intro w4 hk4 S
  refine Ld (Tn (Xz (Rf (hQ f82) rfl (Hs S zeroValue22 (cs:=[.slice none 0 0]) rfl rfl ?_))));clear S;intro a w5 b4 hz5 hk5 S
  replace S:=S.nil 3 1
  refine Ld (Tn (Xz (Xz (Rf (hQ f82) rfl (lv S (Rm (S.tm rfl)) rfl ?_)))));clear S;intro a S
  have hz6:=S.keep.size
  refine Dw S (fun _=>Dp (vs:=[v_l]) ⟨(S.tm rfl),trivial⟩ call105) (back_ok _ v_l _ (Fj hs_l)) rfl ?_;clear S;intro v1 a w6 hv1 hk6 hn1 S
  obtain ⟨φ1,hl1,hm1,S⟩:=S.see' hn1 hz6
  obtain ⟨Bs,rfl,hB⟩:=hv1
  replace hB:=hm1 _ _ hB
  refine Ld (Tn (wpIn_block ?_))
  replace S:=S.nk (IG b1 b2 b3 b4 at_ [] [] (.slice none 0 0)) [(3,.pointer (some ⟨b1,0,none⟩)),(5,.pointer (some ⟨b3,0,none⟩)),(6,.pointer (some ⟨b4,0,none⟩)),(11,.func (.func 123) #[] #[.pointer (some ⟨Bs,0,none⟩)])] [true,true,true,true,true] rfl (subR rfl)
  rw [BN]
  refine i_range (n:=3) (Xu l.length) (NL l) S (S.tm rfl) (fun args w=>call123 args w) (fun _=>rfl)
    (fun ll J W hJ h0 hr=>back_in φ1 (view w []) (3 - 1) Bs v_l l hB hs_l ll J W hJ h0 hr)
    (fun k L'=>∃ m x v,(∃ dn is,Xu l.length = dn ++ is ∧ dn.length = k ∧ Ko l at_ is m x = some r) ∧ L' = IG b1 b2 b3 b4 at_ m x v)
    ⟨[],[],.slice none 0 0,⟨[],_,rfl,rfl,h⟩,rfl⟩ ?_ ?_
  · clear h
    rintro ll D rec k i L' w7 hst hss hx ⟨m,x,v,⟨dn,is,hd,hk,h⟩,rfl⟩ S0
    have hact:=prms2 a 12 13 (iV (i : Int)) (.agg (Dk.enc (nth l (i : Int))).toArray) S0.nodefer
    obtain ⟨is',rfl⟩ : ∃ is',is = i :: is':=by
      cases is with
      | nil=>rw [hd,List.append_nil,← hk] at hx;simp at hx
      | cons j is' =>
        have:=hcons hd hk
        rw [hx] at this
        exact ⟨is',by rw [Option.some.inj this]⟩
    unfold NL
    rw [hact]
    have S:=(S0.put (d:=12) (v:=iV (i : Int)) (by decide)).put (d:=13) (v:=.agg (Dk.enc (nth l (i : Int))).toArray) (by decide)
    generalize ((a.put (some 12) (iV (i : Int))).put (some 13) (.agg (Dk.enc (nth l (i : Int))).toArray)) = a' at S
    refine Xz (Rf (fun _ _ h=>h) rfl (lv S (Ra (S.tm rfl)) rfl fun a S=>Ld (Tn (Rf (fun _ _ h=>h) rfl (Hs S zeroValue101 (cs:=[sV An,iV 0,iV 0,iV 0,sV An,sV An,sV An,iV 0,iV 0,sV An,iV 0]) rfl rfl ?_)))));clear S;intro a w8 b5 hz8 hk8 S
    refine Ex S (S.tm rfl) (S.tm rfl) (i:=0) (off:=0) rfl sizeOf101 (vs:=(Dk.enc (nth l (i : Int)))) rfl rfl rfl rfl ?_;clear S;intro w9 hk9 S
    refine Ld (Tn (i_begin S (i:=1) rfl (hst _) ?_));clear S;intro w10 S
    rw [hss] at S
    replace S:=S.nk (.blk b5 (Dk.enc (nth l (i : Int))) 101 :: .obj ll (.loop (rec .busy)) :: .obj D (.deferred (some [])) :: IG b1 b2 b3 b4 at_ m x v) [(3,.pointer (some ⟨b1,0,none⟩)),(5,.pointer (some ⟨b3,0,none⟩)),(6,.pointer (some ⟨b4,0,none⟩)),(7,iV (i : Int)),(8,.pointer (some ⟨b5,0,none⟩))] [true,true,true,true,true,true,true,true] rfl (subR rfl)
    rw [Ko] at h
    refine wpIn_block (Xz (i_mid (fun b w'=>∃ a,b = Oz [] a ∧ Sx w [] φ1 (.blk b5 (Dk.enc (nth l (i : Int))) 101 :: .obj ll (.loop (rec .busy)) :: .obj D (.deferred (some [])) :: IG b1 b2 b3 b4 at_ m x v) [(3,.pointer (some ⟨b1,0,none⟩)),(5,.pointer (some ⟨b3,0,none⟩)),(6,.pointer (some ⟨b4,0,none⟩)),(7,iV (i : Int)),(8,.pointer (some ⟨b5,0,none⟩)),(23,bV (Wg l at_ i m))] 40 a w') ?_ ?_))
    · rcases Bool.eq_false_or_eq_true (decide (at_ < ((nth l (i : Int)).At))) with hb1 | hb1
      · refine IF [] [] Tryz.mixed rfl S rfl (by kernel_rfl) ?_;clear S;intro w11 hk11 hsel S
        refine Lw [0,1,2,3,4,5,6,7,8,9] hsel (by kernel_rfl) rfl (Gm S rfl (Fy Sr (S.tm rfl)) rfl fun a S=>Gm S rfl (La isAgg3 (S.tm rfl) (S.cell (i:=0) rfl rfl)) rfl fun a S=>Gm S rfl (La isAgg3 (S.tm rfl) (S.cell (i:=7) rfl rfl)) rfl fun a S=>Gm S rfl (It (S.tm rfl) (S.tm rfl)) rfl fun a S=>Gm S rfl (Rm (S.tm rfl)) rfl ?_);clear S;intro a S
        iterate 4 (refine Nk S rfl rfl rfl rfl (Kp hb1) rfl ?_ rfl;clear S;intro a S)
        refine Gm S rfl (Qu hb1 (S.tm rfl) rfl) rfl fun a S=>Hv ?_
        have hq : Wg l at_ i m = true:=by unfold Wg;rw [hb1];rfl
        refine Tn ⟨a,rfl,?_⟩
        rw [hq]
        exact S.nk (.blk b5 (Dk.enc (nth l (i : Int))) 101 :: .obj ll (.loop (rec .busy)) :: .obj D (.deferred (some [])) :: IG b1 b2 b3 b4 at_ m x v) [(3,.pointer (some ⟨b1,0,none⟩)),(5,.pointer (some ⟨b3,0,none⟩)),(6,.pointer (some ⟨b4,0,none⟩)),(7,iV (i : Int)),(8,.pointer (some ⟨b5,0,none⟩)),(23,bV true)] [true,true,true,true,true,true,true,true] rfl (subR rfl)
      · refine IF [] [] Tryz.mixed rfl S rfl (by kernel_rfl) ?_;clear S;intro w11 hk11 hsel S
        refine Eb 0 S hsel rfl rfl rfl (by kernel_rfl) (by kernel_rfl) rfl (fun _ hw=>(Fy Sr (S.tm rfl))) fun a S=>Eb 1 S hsel rfl rfl rfl (by kernel_rfl) (by kernel_rfl) rfl (fun _ hw=>(Hm isAgg3 (off:=0) (o:=2) (S.tm rfl) ((S.blk_mem (i:=0) (cells:=(Dk.enc (nth l (i : Int)))) (b:=b5) (T:=101) rfl (Ia (e':=.blk b5 (Dk.enc (nth l (i : Int))) 101))).kept hw) rfl)) fun a S=>Eb 2 S hsel rfl rfl rfl (by kernel_rfl) (by kernel_rfl) rfl (fun _ hw=>(Hm isAgg3 (off:=0) (o:=0) (S.tm rfl) ((S.blk_mem (i:=7) (cells:=[iV at_]) (b:=b1) (T:=3) rfl (Ia (e':=.blk b1 [iV at_] 3))).kept hw) rfl)) fun a S=>Eb 3 S hsel rfl rfl rfl (by kernel_rfl) (by kernel_rfl) rfl (fun _ hw=>(It (S.tm rfl) (S.tm rfl))) fun a S=>Eb 4 S hsel rfl rfl rfl (by kernel_rfl) (by kernel_rfl) rfl (fun _ hw=>(Rm (S.tm rfl))) fun a S=>Eu 5 S hsel rfl rfl rfl rfl hb1 rfl rfl (by kernel_rfl) (by kernel_rfl) rfl (fun _ hw=>(Hm isAgg158 (off:=0) (o:=0) (S.tm rfl) ((S.blk_mem (i:=5) (cells:=[.map (some b2)]) (b:=b3) (T:=158) rfl (Ia (e':=.blk b3 [.map (some b2)] 158))).kept hw) rfl)) fun a S=>Eu 6 S hsel rfl rfl rfl rfl hb1 rfl rfl (by kernel_rfl) (by kernel_rfl) rfl (fun _ hw=>(Fp isAgg101 sizeOf101 (off:=0) (o:=0) (part:=(Dk.enc (nth l (i : Int)))) rfl rfl (S.tm rfl) ((S.blk_mem (i:=0) (cells:=(Dk.enc (nth l (i : Int)))) (b:=b5) (T:=101) rfl (Ia (e':=.blk b5 (Dk.enc (nth l (i : Int))) 101))).kept hw))) fun a S=>He 7 (by kernel_rfl) rfl (Du S rfl rfl rfl hb1 (Dw S (fun _=>Dp (vs:=[.agg (Dk.enc (nth l (i : Int))).toArray]) ⟨(S.tm rfl),trivial⟩ call81) (Xf _ (nth l (i : Int)) _ rfl) rfl ?_));clear S;intro v3 a w12 hv2 hk9 hn2 S
        subst hv2
        refine Ld (Ig hk9 (Lw [8,9] hsel (by kernel_rfl) rfl ?_))
        refine Ee S rfl rfl rfl rfl hb1 (Fb S (Qa (kv:=kvP) (vv:=Value.bool) (m:=m) (key:=(Fd (nth l (i : Int)))) (z:=false) (S.map_at (i:=6) rfl) underlying158 EW zeroValue4 (S.tm rfl) (S.tm rfl)) rfl fun a S=>Gm S rfl (Qv hb1 (S.tm rfl) (S.tm rfl)) rfl fun a S=>Hv ?_)
        have hq : Wg l at_ i m = Ea m (Fd (nth l (i : Int))) false:=by unfold Wg;rw [hb1];rfl
        refine Tn ⟨a,rfl,?_⟩
        rw [hq]
        exact S.nk (.blk b5 (Dk.enc (nth l (i : Int))) 101 :: .obj ll (.loop (rec .busy)) :: .obj D (.deferred (some [])) :: IG b1 b2 b3 b4 at_ m x v) [(3,.pointer (some ⟨b1,0,none⟩)),(5,.pointer (some ⟨b3,0,none⟩)),(6,.pointer (some ⟨b4,0,none⟩)),(7,iV (i : Int)),(8,.pointer (some ⟨b5,0,none⟩)),(23,bV (Ea m (Fd (nth l (i : Int))) false))] [true,true,true,true,true,true,true,true] rfl (subR rfl)
    · clear S;rintro _ w11 ⟨a,rfl,S⟩
      refine LZ (S.tm rfl) (fun hb2=>?_) (fun hb2=>?_)
      · rw [if_pos hb2] at h
        refine wpIn_exit (Ed (Gp ?_))
        exact ⟨_,⟨m,x,v,⟨dn ++ [i],is',by rw [hd];simp,by simp [hk],h⟩,rfl⟩,S0.back (S.nk (.obj ll (.loop (rec .busy)) :: .obj D (.deferred (some [])) :: IG b1 b2 b3 b4 at_ m x v) [] [false,true,true,true,true,true,true,true] rfl (subR rfl))⟩
      · rw [if_neg (by rw [hb2];simp)] at h
        obtain ⟨hc2,h⟩:=Ie h
        refine wpIn_skip (Tn (i_mid (fun b w'=>∃ a,b = Oz [] a ∧ Sx w [] φ1 (.blk b5 (Dk.enc (nth l (i : Int))) 101 :: .obj ll (.loop (rec .busy)) :: .obj D (.deferred (some [])) :: IG b1 b2 b3 b4 at_ (if decide ((nth l (i : Int)).Kind = 4) = true then Gl m (Eo.mk ((nth l (i : Int)).Of) ((nth l (i : Int)).Other)) true else m) x v) [(6,.pointer (some ⟨b4,0,none⟩)),(7,iV (i : Int)),(8,.pointer (some ⟨b5,0,none⟩))] 40 a w') ?_ ?_))
        · refine Xz (Rf (fun _ _ h=>h) rfl (lv S (Fy Ok (S.tm rfl)) rfl ?_));clear S;intro a S
          refine lv S (La isAgg3 (S.tm rfl) (S.cell (i:=0) rfl rfl)) rfl fun a S=>lv S (Im (S.tm rfl) rfl) rfl fun a S=>Ld (Tn (LZ (S.tm rfl) (fun hb3=>?_) (fun hb3=>?_)))
          · rw [if_pos hb3]
            refine Rf (fun _ _ h=>h) rfl (lv S (La isAgg158 (S.tm rfl) (S.cell (i:=5) rfl rfl)) rfl fun a S=>lv S (Fy Xa (S.tm rfl)) rfl fun a S=>lv S (La isAgg9 (S.tm rfl) (S.cell (i:=0) rfl rfl)) rfl fun a S=>lv S (Fy Ty (S.tm rfl)) rfl fun a S=>lv S (La isAgg3 (S.tm rfl) (S.cell (i:=0) rfl rfl)) rfl fun a S=>lv S (Mr UO (pv:=[(0,sV ((nth l (i : Int)).Of)),(1,iV ((nth l (i : Int)).Other))]) ⟨rfl,(S.tm rfl),rfl,(S.tm rfl),trivial⟩ (cs:=[sV ((nth l (i : Int)).Of),iV ((nth l (i : Int)).Other)]) (by kernel_rfl)) rfl fun a S=>Pc (kv:=kvP) (vv:=Value.bool) (m:=m) (key:=(Eo.mk ((nth l (i : Int)).Of) ((nth l (i : Int)).Other))) (val:=true) S (i:=6) rfl underlying158 EW (S.tm rfl) (S.tm rfl) rfl ?_);clear S;intro w13 hk10 S
            refine Ld (Tn ⟨a,rfl,?_⟩)
            exact S.nk (.blk b5 (Dk.enc (nth l (i : Int))) 101 :: .obj ll (.loop (rec .busy)) :: .obj D (.deferred (some [])) :: IG b1 b2 b3 b4 at_ (Gl m (Eo.mk ((nth l (i : Int)).Of) ((nth l (i : Int)).Other)) true) x v) [(6,.pointer (some ⟨b4,0,none⟩)),(7,iV (i : Int)),(8,.pointer (some ⟨b5,0,none⟩))] [true,true,true,true,true,true,true,true] rfl (subR rfl)
          · rw [if_neg (by rw [hb3];simp)]
            refine wpIn_skip (Tn ⟨a,rfl,?_⟩)
            exact S.nk (.blk b5 (Dk.enc (nth l (i : Int))) 101 :: .obj ll (.loop (rec .busy)) :: .obj D (.deferred (some [])) :: IG b1 b2 b3 b4 at_ m x v) [(6,.pointer (some ⟨b4,0,none⟩)),(7,iV (i : Int)),(8,.pointer (some ⟨b5,0,none⟩))] [true,true,true,true,true,true,true,true] rfl (subR rfl)
        · clear S;rintro _ w12 ⟨a,rfl,S⟩
          generalize (if decide ((nth l (i : Int)).Kind = 4) = true then Gl m (Eo.mk ((nth l (i : Int)).Of) ((nth l (i : Int)).Other)) true else m) = m2 at h S
          refine Rf (fun _ _ h=>h) rfl (lv S (La isAgg22 (S.tm rfl) (S.cell (i:=4) rfl rfl)) rfl fun a S=>lv S (Rm (S.tm rfl)) rfl fun a S=>Er S underlying22 sizeOf3 zeroValue3 rfl rfl (pv:=[(0,iV (i : Int))]) ⟨rfl,(S.tm rfl),trivial⟩ (cs:=[iV (i : Int)]) (by kernel_rfl) rfl ?_);clear S;intro a w14 b6 hz5 hk11 S
          refine Ms Pf Ik S (S.tm rfl) (i:=4) rfl (S.tm rfl) (j:=0) rfl (ys:=[(i : Int)]) rfl rfl rfl rfl (by have:=Nd hc2;omega) rfl ?_;clear S;intro v4 a w15 hk12 S
          refine Ex S (S.tm rfl) (S.tm rfl) (i:=5) (off:=0) rfl sizeOf22 (vs:=[v4]) (Kq.cells (Ph (S.own_at (i:=4) rfl))) rfl rfl (Qz (Kq.one (Ph (S.own_at (i:=4) rfl))) rfl) ?_;clear S;intro w16 hk13 S
          refine Ld (Ho ?_)
          exact ⟨_,⟨m2,x ++ [(i : Int)],v4,⟨dn ++ [i],is',by rw [hd];simp,by simp [hk],h⟩,rfl⟩,S0.back (S.nk (.obj ll (.loop (rec .busy)) :: .obj D (.deferred (some [])) :: IG b1 b2 b3 b4 at_ m2 (x ++ [(i : Int)]) v4) [] [false,false,true,true,true,true,true,true,true] rfl (subR rfl))⟩
  · rintro D ll o L' w7 ⟨m,x,v,⟨dn,is,hd,hk,h⟩,rfl⟩ S
    obtain rfl : is = []:=by
      have h1:=congrArg List.length hd
      rw [List.length_append] at h1
      exact List.length_eq_zero_iff.1 (by omega)
    rw [Ko] at h
    refine Ho (Tn (Xz (Rf (hQ f82) rfl (lv S (La isAgg22 (S.tm rfl) (S.cell (i:=3) rfl rfl)) rfl fun a S=>Pd 2 S rfl (fun _=>.own v 3 1 r.length (r.flatMap eInt)) (fun _=>Dp (vs:=[v]) ⟨(S.tm rfl),trivial⟩ call106) (AS _ v x (S.holds _ (List.mem_of_getElem? (i:=2) rfl)) _ h) rfl (fun _ _ _ h=>⟨h.1,fun _ hc=>hc⟩) ?_))));clear S;intro v5 a w17 hv3 hk14 hn3 S
    replace hv3:=hv3.2
    subst hv3
    refine Ld (Tn (Xz (Rf (hQ f82) rfl (lv S (La isAgg22 (S.tm rfl) (S.cell (i:=3) rfl rfl)) rfl fun a S=>lv S (Ra (S.tm rfl)) rfl fun a S=>Ld (Tn (wpIn_ret ?_))))))
    exact i_ret S (i:=1) rfl results82 rfl (fun w' S=>Th S (i:=2) rfl rfl)
theorem GZ (w : World) (ψ : View) (hψ : View.le ψ (view w [])) (Ad : Iw) (By : R32) (Ce : Rk ψ Ad By) (Ab : Value) (Ah : List Dk) (Af : Slc ψ 11 Ab (Ah.map Dk.enc)) (Bc : Int) (r : (Option Kg)) (h : Vn Ad Ah Bc = some r) :
    Calls prog 45 [.agg (R32.enc By).toArray,Ab,iV Bc].toArray w (Ret w [] fun τ v _=>AQ (join ψ τ) 112 EM.enc AA v r):=by
 obtain ⟨u1,u2,rfl,hs1,⟨u3,rfl,hs2⟩⟩:=Ce
 refine Fe func45 rfl ntmps45 rfl fun a S=>?_
 unfold Vn at h
 replace S:=S.k3 0 1 2 rfl
 refine Fr (Mn S (S.tm rfl) (cs:=[u1.val,u3.val,iV Ad.Table.Relay,iV Ad.Table.Most,iV Ad.Final.Size,iV Ad.Final.Many,iV Ad.Final.Reserves]) rfl rfl ?_);clear S;intro a w1 b1 hz1 hk1 S
 refine Vk S rfl rfl fun a S=>Dz (lv S (Fp isAgg32 sizeOf32 (off:=0) (o:=0) (part:=[u1.val,u3.val,iV Ad.Table.Relay,iV Ad.Table.Most,iV Ad.Final.Size,iV Ad.Final.Many,iV Ad.Final.Reserves]) rfl rfl (S.tm rfl) (S.cellsAt (i:=0) rfl)) rfl ?_);clear S;intro a S
 refine lv S (Mr bt_112 (pv:=[(0,.agg #[u1.val,u3.val,iV Ad.Table.Relay,iV Ad.Table.Most,iV Ad.Final.Size,iV Ad.Final.Many,iV Ad.Final.Reserves])]) ⟨rfl,(S.tm rfl),trivial⟩ (cs:=[u1.val,u3.val,iV Ad.Table.Relay,iV Ad.Table.Most,iV Ad.Final.Size,iV Ad.Final.Many,iV Ad.Final.Reserves,.slice none 0 0]) (by obtain ⟨_,_,hv⟩:=(Fj hs1);rw [hv];clear hv;obtain ⟨_,_,hv⟩:=(Fj hs2);rw [hv];clear hv;kernel_rfl)) rfl ?_;clear S;intro a S
 refine Mn S (S.tm rfl) (cs:=[u1.val,u3.val,iV Ad.Table.Relay,iV Ad.Table.Most,iV Ad.Final.Size,iV Ad.Final.Many,iV Ad.Final.Reserves,.slice none 0 0]) rfl rfl ?_;clear S;intro a w2 b2 hz2 hk2 S
 replace S:=S.nil 101 11
 refine Va S rfl rfl fun a S=>Dl (Fs (Fr (Vm S rfl rfl fun a S=>Vm S rfl rfl ?_)));clear S;intro a S
 obtain ⟨r1,hr1,h⟩:=Fa h
 have hz3:=S.keep.size
 refine Dw S (fun _=>Dp (vs:=[Ab,iV Bc]) ⟨(S.tm rfl),(S.tm rfl),trivial⟩ call82) (FR _ Ab Ah (Af.mono (View.le_trans hψ (S.le_arg Ec))) Bc _ hr1) rfl ?_;clear S;intro v1 a w3 hv1 hk3 hn1 S
 obtain ⟨φ1,hl1,hm1,S⟩:=S.see' hn1 hz3
 have hs3:=hv1.mono hm1
 refine lv S (Fq Pf (S.tm rfl) (Fj (Ga Ik hs3))) rfl fun a S=>lv S (Rm rfl) rfl fun a S=>Dl ?_
 replace S:=(S.nl [.own (.slice none 0 0) 101 11 ([] : List Dk).length (([] : List Dk).flatMap Dk.enc),.blk b2 [u1.val,u3.val,iV Ad.Table.Relay,iV Ad.Table.Most,iV Ad.Final.Size,iV Ad.Final.Many,iV Ad.Final.Reserves,(.slice none 0 0)] 112] [true,true,false] rfl).k5 1 7 15 16 17 rfl
 obtain ⟨j1,hj1,h⟩:=Ep h
 refine Eg (fun a w'=>∃ x1 : List Dk,∃ v2 : Value,j1 x1 = some r ∧ Sx w [] φ1 [.own v2 101 11 x1.length (x1.flatMap Dk.enc),.blk b2 [u1.val,u3.val,iV Ad.Table.Relay,iV Ad.Table.Most,iV Ad.Final.Size,iV Ad.Final.Many,iV Ad.Final.Reserves,v2] 112] [(7,.pointer (some ⟨b2,0,none⟩))] 36 a w') ?_ ?_
 ·refine wp_block (Gx (fun (ys1 : List Int) a w'=>∃ i1 : Nat,∃ x1 : List Dk,∃ v2 : Value,(∃ dn,r1 = dn ++ ys1 ∧ dn.length = i1) ∧ Mc Ah j1 ys1 i1 x1 = some r ∧ Sx w [] φ1 [.own v2 101 11 x1.length (x1.flatMap Dk.enc),.blk b2 [u1.val,u3.val,iV Ad.Table.Relay,iV Ad.Table.Most,iV Ad.Final.Size,iV Ad.Final.Many,iV Ad.Final.Reserves,v2] 112] [(1,Ab),(7,.pointer (some ⟨b2,0,none⟩)),(15,v1),(16,iV (r1.length : Int)),(17,iV (i1 : Int))] 36 a w') List.length r1 ⟨0,([] : List Dk),(.slice none 0 0),⟨[],rfl,rfl⟩,h,S.nf [true,true] rfl (subR rfl)⟩ ?_)
  clear S h;rintro ys1 a w4 ⟨i1,x1,v2,⟨dn,hd1,hi1⟩,h,S⟩
  cases ys1 with
  | nil =>
   rw [Mc.eq_1] at h
   refine Fr (Vb S Et rfl rfl rfl fun a S=>Ld ?_)
   replace S:=S.k6 1 7 15 16 17 18 rfl
   exact Tn (Fs (wp_cond_false ((S.tm rfl).trans (congrArg Value.bool (Il hd1 hi1))) (wp_exit (Ed (Ed (Gp (Tn (⟨x1,v2,h,S.nf [true,true] rfl ⟨rfl,trivial⟩⟩))))))))
  | cons y1 ys1 =>
   rw [Mc.eq_2] at h
   refine Fr (Vb S Et rfl rfl rfl fun a S=>Ld ?_)
   replace S:=S.k6 1 7 15 16 17 18 rfl
   refine Tn (Fs (wp_cond_true ((S.tm rfl).trans (congrArg Value.bool (Ht hd1 hi1))) (wp_skip (Tn (Fs (wp_block (Fs (Fg ?_))))))))
   obtain ⟨b3,o1,hm2,hr2⟩:=Ev (a:=a) (x:=.tmp 15) (y:=.tmp 17) (ty:=0) Pf (Ga Ik hs3) (Io hd1 hi1) rfl (S.tm rfl) (S.tm rfl)
   refine lv S (hr2 _) rfl ?_;clear S;intro a S
   clear hr2
   refine lv S (Hm isAgg3 (off:=o1) (o:=0) (S.tm rfl) (hm2.at S.emb) rfl) rfl fun a S=>Va S rfl rfl fun a S=>Dl ?_
   obtain ⟨hc1,h⟩:=Ie h
   obtain ⟨hc2,h⟩:=Ie h
   refine Hd [13] (v2.ownBlock.toList) Tryz.mixed S rfl (by kernel_rfl) ?_;clear S;intro w9 hk7 hsel S
   refine Gy 0 S hsel rfl rfl (by kernel_rfl) (by kernel_rfl) rfl (fun _=>(Rm (S.tm rfl))) fun a S=>Gy 1 S hsel rfl rfl (by kernel_rfl) (by kernel_rfl) rfl (fun _=>(Rm (S.tm rfl))) fun a S=>Gy 2 S hsel rfl rfl (by kernel_rfl) (by kernel_rfl) rfl (fun _=>(Lb (S.tm rfl))) fun a S=>Gy 3 S hsel rfl rfl (by kernel_rfl) (by kernel_rfl) rfl (fun _=>(Fy ET (S.tm rfl))) fun a S=>Eb 4 S hsel rfl (by kernel_rfl) (by kernel_rfl) (by kernel_rfl) (by kernel_rfl) rfl (fun _ hw=>(Hm isAgg34 (off:=0) (o:=7) (S.tm rfl) ((S.blk_mem (i:=1) (cells:=[u1.val,u3.val,iV Ad.Table.Relay,iV Ad.Table.Most,iV Ad.Final.Size,iV Ad.Final.Many,iV Ad.Final.Reserves,v2]) (b:=b2) (T:=112) rfl (Mo (i:=0) (j:=1) (e:=.own v2 101 11 x1.length (x1.flatMap Dk.enc)) (e':=.blk b2 [u1.val,u3.val,iV Ad.Table.Relay,iV Ad.Table.Most,iV Ad.Final.Size,iV Ad.Final.Many,iV Ad.Final.Reserves,v2] 112) S rfl rfl rfl)).kept hw) rfl)) fun a S=>Gy 5 S hsel rfl rfl (by kernel_rfl) (by kernel_rfl) rfl (fun _=>(Rm (S.tm rfl))) fun a S=>Gy 6 S hsel rfl rfl (by kernel_rfl) (by kernel_rfl) rfl (fun _=>(Rm (S.tm rfl))) ?_;clear S;intro a S
   obtain ⟨b6,o3,hm4,hr4⟩:=Ev (a:=a) (x:=.tmp 26) (y:=.tmp 27) (ty:=0) Nj (Af.mono (View.le_trans hψ (S.le_arg (Iv (i:=0) (e:=.own v2 101 11 x1.length (x1.flatMap Dk.enc)) rfl)))) (Dx hc1).1 (Dx hc1).2 (S.tm rfl) (S.tm rfl)
   refine Gy 7 S hsel rfl rfl (by kernel_rfl) (by kernel_rfl) rfl (fun _=>hr4 _) ?_;clear S;intro a S
   clear hr4
   refine Eb 8 S hsel rfl (by kernel_rfl) (by kernel_rfl) (by kernel_rfl) (by kernel_rfl) rfl (fun _ hw=>(Fp isAgg101 sizeOf101 (off:=o3) (o:=0) (part:=(Dk.enc (nth Ah y1))) rfl rfl (S.tm rfl) (hm4.kept hw))) fun a S=>He 9 (by kernel_rfl) rfl (Er S underlying34 sizeOf101 zeroValue101 rfl rfl (pv:=[(0,.agg (Dk.enc (nth Ah y1)).toArray)]) ⟨rfl,(S.tm rfl),trivial⟩ (cs:=[sV ((nth Ah y1).Site),iV ((nth Ah y1).No),iV ((nth Ah y1).At),iV ((nth Ah y1).Kind),sV ((nth Ah y1).Who),sV ((nth Ah y1).Club),sV ((nth Ah y1).Race),iV ((nth Ah y1).Time),iV ((nth Ah y1).Fault),sV ((nth Ah y1).Of),iV ((nth Ah y1).Other)]) (by kernel_rfl) rfl ?_);clear S;intro a w10 b7 hz5 hk8 S
   refine Ld (Ig (Keep.none hk8) (He 10 (by kernel_rfl) rfl ?_))
   refine Ms Nj Dk.enc_ok S (S.tm rfl) (i:=1) rfl (S.tm rfl) (j:=0) rfl (ys:=[(nth Ah y1)]) rfl rfl rfl rfl (by have:=Nd hc2;omega) rfl ?_;clear S;intro v4 a w11 hk9 S
   refine Ld (Ig hk9 (Gy 11 S hsel rfl rfl (by kernel_rfl) (by kernel_rfl) rfl (fun _=>(Lb (S.tm rfl))) fun a S=>Gy 12 S hsel rfl rfl (by kernel_rfl) (by kernel_rfl) rfl (fun _=>(Fy ET (S.tm rfl))) fun a S=>Ym 13 (v4.ownBlock.toList ++ [b2]) rfl (by kernel_rfl) rfl (Ex S (S.tm rfl) (S.tm rfl) (i:=2) (off:=7) rfl sizeOf34 (vs:=[v4]) (Kq.cells (Ph (S.own_at (i:=1) rfl))) rfl rfl (Qz (Kq.one (Ph (S.own_at (i:=1) rfl))) rfl) ?_)));clear S;intro w12 hk10 S
   refine Ld (Yn (Xi (by kernel_rfl) ?_))
   clear hsel
   replace S:=(S.nl [.own v4 101 11 (x1 ++ [(nth Ah y1)]).length ((x1 ++ [(nth Ah y1)]).flatMap Dk.enc),.blk b2 [u1.val,u3.val,iV Ad.Table.Relay,iV Ad.Table.Most,iV Ad.Final.Size,iV Ad.Final.Many,iV Ad.Final.Reserves,v4] 112] [false,true,true] rfl).k5 1 7 15 16 17 rfl
   exact Ho (Tn (Fg (Vq S Gc rfl rfl rfl fun a S=>Vm S rfl rfl fun a S=>Dl (⟨ys1,⟨i1 + 1,(x1 ++ [(nth Ah y1)]),v4,⟨_,(hd1).trans (List.append_cons _ _ _),by simp [hi1]⟩,h,S.nf [true,true] rfl ⟨rfl,rfl,rfl,rfl,(congrArg (fun z=>some (Value.int .i64 z)) (Hu hd1 hi1 (Iz (Ga Ik hs3)))),trivial⟩⟩,Nat.lt_succ_self _⟩))))
 clear S h;rintro a w5 ⟨x1,v2,h,S⟩;rw [hj1] at h;clear hj1 j1
 refine Tn (Fr (Vm S rfl rfl fun a S=>Va S rfl rfl fun a S=>Dl (wp_ret ?_)))
 obtain ⟨φ2,hl2,hs4,S⟩:=S.freezeT (xs:=x1) (enc:=Dk.enc) (i:=0) rfl (fun _ h=>by cases h)
 replace S:=S.nk [.blk b2 [u1.val,u3.val,iV Ad.Table.Relay,iV Ad.Table.Most,iV Ad.Final.Size,iV Ad.Final.Many,iV Ad.Final.Reserves,v2] 112] [(6,.pointer (some ⟨b2,0,none⟩)),(7,.pointer (some ⟨b2,0,none⟩)),(35,.pointer (some ⟨b2,0,none⟩))] [] rfl (subR rfl)
 obtain ⟨φ3,hl3,hb1,S⟩:=S.freezeB (i:=0) rfl (by simp)
 replace S:=S.nk [] [(6,.pointer (some ⟨b2,0,none⟩)),(7,.pointer (some ⟨b2,0,none⟩)),(35,.pointer (some ⟨b2,0,none⟩))] [] rfl (subR rfl)
 obtain rfl:=Option.some.inj h
 exact Ej S results45 rfl (AQ.mk (EM.mk (R32.mk u1 (R28.mk u3 Ad.Table.Relay Ad.Table.Most) Ad.Final) ⟨v2,Kq.one (Fj (Ga Dk.enc_ok hs4))⟩) (Pt (Yo hψ S.le_newer) _ _ ⟨(R32.mk u1 (R28.mk u3 Ad.Table.Relay Ad.Table.Most) Ad.Final),⟨v2,Kq.one (Fj (Ga Dk.enc_ok hs4))⟩,rfl,⟨u1,(R28.mk u3 Ad.Table.Relay Ad.Table.Most),rfl,(hs1.mono (le_join_left _ _)),⟨u3,rfl,(hs2.mono (le_join_left _ _))⟩⟩,((Ga Dk.enc_ok hs4).mono (View.le_trans hl3 (S.all_right hψ)))⟩) ((Yo hψ S.le_newer) _ _ ((S.all_right hψ) _ _ hb1)))
set_option maxRecDepth 20000 in
theorem EZ (w : World) (ψ : View) (hψ : View.le ψ (view w [])) (Ad : Iw) (By : R32) (Ce : Rk ψ Ad By) (Ab : Value) (Ah : List Dk) (Af : Slc ψ 11 Ab (Ah.map Dk.enc)) (Cw : Value) (Bc : List Int) (Cs : Slc ψ 1 Cw (Bc.map eInt)) (r : (Option Kg) × Int) (h : Xs Ad Ah Bc = some r) :
    Calls prog 20 [.agg (R32.enc By).toArray,Ab,Cw].toArray w (Ret w [] fun τ v _=>∃ u1 : Value,v = .tuple #[u1,iV r.2] ∧ AQ (join ψ τ) 112 EM.enc AA u1 r.1):=by
 obtain ⟨u1,u2,rfl,hs1,⟨u3,rfl,hs2⟩⟩:=Ce
 refine Fe func20 rfl ntmps20 rfl fun a S=>?_
 unfold Xs at h
 replace S:=S.k3 0 1 2 rfl
 refine Fr (Mn S (S.tm rfl) (cs:=[u1.val,u3.val,iV Ad.Table.Relay,iV Ad.Table.Most,iV Ad.Final.Size,iV Ad.Final.Many,iV Ad.Final.Reserves]) rfl rfl ?_);clear S;intro a w1 b1 hz1 hk1 S
 refine Vk S rfl rfl fun a S=>Vk S rfl rfl fun a S=>Dl (Fs (Fr (lv S (Fp isAgg32 sizeOf32 (off:=0) (o:=0) (part:=[u1.val,u3.val,iV Ad.Table.Relay,iV Ad.Table.Most,iV Ad.Final.Size,iV Ad.Final.Many,iV Ad.Final.Reserves]) rfl rfl (S.tm rfl) (S.cellsAt (i:=0) rfl)) rfl ?_)));clear S;intro a S
 obtain ⟨r1,hr1,h⟩:=Fa h
 refine Dw S (fun _=>Dp (vs:=[.agg (R32.enc (R32.mk u1 (R28.mk u3 Ad.Table.Relay Ad.Table.Most) Ad.Final)).toArray]) ⟨(S.tm rfl),trivial⟩ call42) (EX _ Ad (R32.mk u1 (R28.mk u3 Ad.Table.Relay Ad.Table.Most) Ad.Final) ⟨u1,(R28.mk u3 Ad.Table.Relay Ad.Table.Most),rfl,(hs1.mono (View.le_trans hψ (S.le_arg Ec))),⟨u3,rfl,(hs2.mono (View.le_trans hψ (S.le_arg Ec)))⟩⟩ _ hr1) rfl ?_;clear S;intro v1 a w2 hv1 hk2 hn1 S
 subst hv1
 refine Va S rfl rfl fun a S=>Dz (Vm S rfl rfl fun a S=>Vq S Kw rfl rfl rfl fun a S=>Dl (Fc h (S.tm rfl) (fun hb1 h=>?_) (fun hb1 h=>?_)))
 ·refine Fr (Vm S rfl rfl fun a S=>Vk S rfl rfl fun a S=>Va S rfl rfl fun a S=>Dl (wp_ret (Dt ?_)))
  obtain rfl:=Option.some.inj h
  exact Lg S results20 rfl rfl ⟨_,rfl,rfl⟩
 ·refine wp_skip (Tn (Fs (Fr (Vm S rfl rfl ?_))));clear S;intro a S
  obtain ⟨r2,hr2,h⟩:=Fa h
  refine Dw S (fun _=>Dp (vs:=[Ab]) ⟨(S.tm rfl),trivial⟩ call43) (DV _ Ab Ah (Af.mono (View.le_trans hψ (S.le_arg Ec))) _ hr2) rfl ?_;clear S;intro v2 a w3 hv2 hk3 hn2 S
  subst hv2
  refine Va S rfl rfl fun a S=>Dz (Vm S rfl rfl fun a S=>Vq S Kw rfl rfl rfl fun a S=>Ld ?_)
  replace S:=(S.nl [.blk b1 [u1.val,u3.val,iV Ad.Table.Relay,iV Ad.Table.Most,iV Ad.Final.Size,iV Ad.Final.Many,iV Ad.Final.Reserves] 32] [true] rfl).k5 1 2 3 9 20 rfl
  refine Tn (Fc h (S.tm rfl) (fun hb2 h=>?_) (fun hb2 h=>?_))
  ·refine Fr (Vm S rfl rfl fun a S=>Vk S rfl rfl fun a S=>Va S rfl rfl fun a S=>Dl (wp_ret (Dt ?_)))
   obtain rfl:=Option.some.inj h
   exact Lg S results20 rfl rfl ⟨_,rfl,rfl⟩
  ·refine wp_skip (Tn (Fs (Fr (Vm S rfl rfl fun a S=>lv S (Fq Pf (S.tm rfl) (Fj Cs)) rfl fun a S=>lv S (Rm rfl) rfl fun a S=>Dl ?_))))
   replace S:=S.k6 1 2 3 22 23 24 rfl
   obtain ⟨j1,hj1,h⟩:=Ep h
   refine Eg (fun a w'=>j1 = some r ∧ Sx w [] nov [.blk b1 [u1.val,u3.val,iV Ad.Table.Relay,iV Ad.Table.Most,iV Ad.Final.Size,iV Ad.Final.Many,iV Ad.Final.Reserves] 32] [(1,Ab),(2,Cw),(3,.pointer (some ⟨b1,0,none⟩))] 41 a w') ?_ ?_
   ·refine wp_block (Gx (fun (ys1 : List Int) a w'=>∃ i1 : Nat,(∃ dn,Bc = dn ++ ys1 ∧ dn.length = i1) ∧ Ow j1 ys1 i1 = some r ∧ Sx w [] nov [.blk b1 [u1.val,u3.val,iV Ad.Table.Relay,iV Ad.Table.Most,iV Ad.Final.Size,iV Ad.Final.Many,iV Ad.Final.Reserves] 32] [(1,Ab),(2,Cw),(3,.pointer (some ⟨b1,0,none⟩)),(22,Cw),(23,iV (Bc.length : Int)),(24,iV (i1 : Int))] 41 a w') List.length Bc ⟨0,⟨[],rfl,rfl⟩,h,S.nf [true] rfl (subR rfl)⟩ ?_)
    clear S h;rintro ys1 a w4 ⟨i1,⟨dn,hd1,hi1⟩,h,S⟩
    cases ys1 with
    | nil =>
     rw [Ow.eq_1] at h
     refine Fr (Vb S Et rfl rfl rfl fun a S=>Ld ?_)
     replace S:=S.k7 1 2 3 22 23 24 25 rfl
     exact Tn (Fs (wp_cond_false ((S.tm rfl).trans (congrArg Value.bool (Il hd1 hi1))) (wp_exit (Ed (Ed (Gp (Tn (⟨h,S.nf [true] rfl (subR rfl)⟩))))))))
    | cons y1 ys1 =>
     rw [Ow.eq_2] at h
     refine Fr (Vb S Et rfl rfl rfl fun a S=>Ld ?_)
     replace S:=S.k7 1 2 3 22 23 24 25 rfl
     refine Tn (Fs (wp_cond_true ((S.tm rfl).trans (congrArg Value.bool (Ht hd1 hi1))) (wp_skip (Tn (Fs (wp_block (Fs (Fg ?_))))))))
     obtain ⟨b2,o1,hm1,hr3⟩:=Ev (a:=a) (x:=.tmp 22) (y:=.tmp 24) (ty:=0) Pf Cs (Io hd1 hi1) rfl (S.tm rfl) (S.tm rfl)
     refine lv S (hr3 _) rfl ?_;clear S;intro a S
     clear hr3
     refine lv S (Hm isAgg3 (off:=o1) (o:=0) (S.tm rfl) (hm1.at (OU hψ S.emb0)) rfl) rfl fun a S=>Va S rfl rfl fun a S=>Dz (Vm S rfl rfl fun a S=>Dw S (fun _=>Dp (vs:=[iV y1]) ⟨(S.tm rfl),trivial⟩ call44) (Td _ y1 _ rfl) rfl ?_);clear S;intro v3 a w6 hv3 hk4 hn3 S
     subst hv3
     refine Vu S Hj rfl rfl fun a S=>Dl (Fc h (S.tm rfl) (fun hb3 h=>?_) (fun hb3 h=>?_))
     ·refine Fr (Vk S rfl rfl fun a S=>Vk S rfl rfl fun a S=>Ld ?_)
      replace S:=S.n0.k2 6 7 rfl
      refine Tn (wp_ret (Fl (Dt (Dt (Fl (Dt (Dt ?_)))))))
      obtain rfl:=Option.some.inj h
      exact Lg S results20 rfl rfl ⟨_,rfl,rfl⟩
     ·exact wp_skip (Ho (Tn (Fg (Vq S Gc rfl rfl rfl fun a S=>Vm S rfl rfl fun a S=>Dl (⟨ys1,⟨i1 + 1,⟨_,(hd1).trans (List.append_cons _ _ _),by simp [hi1]⟩,h,S.nf [true] rfl ⟨rfl,rfl,rfl,rfl,rfl,(congrArg (fun z=>some (Value.int .i64 z)) (Hu hd1 hi1 (Iz Cs))),trivial⟩⟩,Nat.lt_succ_self _⟩)))))
   clear S h;rintro a w5 ⟨h,S⟩;rw [hj1] at h;clear hj1 j1
   refine Tn (Fs ?_)
   obtain ⟨hc1,h⟩:=Ie h
   obtain ⟨r3,hr5,h⟩:=Fa h
   refine Hd [] ([]) Tryz.mixed S rfl (by kernel_rfl) ?_;clear S;intro w8 hk6 hsel S
   refine Eb 0 S hsel rfl rfl rfl (by kernel_rfl) (by kernel_rfl) rfl (fun _ hw=>(Fp isAgg32 sizeOf32 (off:=0) (o:=0) (part:=[u1.val,u3.val,iV Ad.Table.Relay,iV Ad.Table.Most,iV Ad.Final.Size,iV Ad.Final.Many,iV Ad.Final.Reserves]) rfl rfl (S.tm rfl) ((S.blk_mem (i:=0) (cells:=[u1.val,u3.val,iV Ad.Table.Relay,iV Ad.Table.Most,iV Ad.Final.Size,iV Ad.Final.Many,iV Ad.Final.Reserves]) (b:=b1) (T:=32) rfl (Ia (e':=.blk b1 [u1.val,u3.val,iV Ad.Table.Relay,iV Ad.Table.Most,iV Ad.Final.Size,iV Ad.Final.Many,iV Ad.Final.Reserves] 32))).kept hw))) fun a S=>Eb 1 S hsel rfl rfl rfl (by kernel_rfl) (by kernel_rfl) rfl (fun _ hw=>(Rm (S.tm rfl))) fun a S=>Eb 2 S hsel rfl rfl rfl (by kernel_rfl) (by kernel_rfl) rfl (fun _ hw=>(Rm (S.tm rfl))) fun a S=>Eb 3 S hsel rfl rfl rfl (by kernel_rfl) (by kernel_rfl) rfl (fun _ hw=>(Rm (S.tm rfl))) fun a S=>Eb 4 S hsel rfl rfl rfl (by kernel_rfl) (by kernel_rfl) rfl (fun _ hw=>(Fq Pf (S.tm rfl) (Fj Cs))) fun a S=>Eb 5 S hsel rfl rfl rfl (by kernel_rfl) (by kernel_rfl) rfl (fun _ hw=>(Iu (S.tm rfl) rfl)) ?_;clear S;intro a S
   obtain ⟨b4,o3,hm4,hr6⟩:=Ev (a:=a) (x:=.tmp 34) (y:=.tmp 37) (ty:=0) Pf (Cs.mono (View.le_trans hψ (S.le_arg Ec))) (Dx hc1).1 (Dx hc1).2 (S.tm rfl) (S.tm rfl)
   refine Eb 6 S hsel rfl rfl rfl (by kernel_rfl) (by kernel_rfl) rfl (fun _ hw=>hr6 _) ?_;clear S;intro a S
   clear hr6
   refine Eb 7 S hsel rfl rfl rfl (by kernel_rfl) (by kernel_rfl) rfl (fun _ hw=>(Hm isAgg3 (off:=o3) (o:=0) (S.tm rfl) (hm4.kept hw) rfl)) fun a S=>He 8 (by kernel_rfl) rfl ?_
   have hz3:=S.keep.size
   refine Dw S (fun _=>Dp (vs:=[.agg (R32.enc (R32.mk u1 (R28.mk u3 Ad.Table.Relay Ad.Table.Most) Ad.Final)).toArray,Ab,iV (nth Bc (W ((Bc.length : Int) - 1)))]) ⟨(S.tm rfl),(S.tm rfl),(S.tm rfl),trivial⟩ call45) (GZ _ (join ψ nov) (Ng (View.le_trans hψ (S.le_arg Ec)) (S.le_new Ec)) Ad (R32.mk u1 (R28.mk u3 Ad.Table.Relay Ad.Table.Most) Ad.Final) ⟨u1,(R28.mk u3 Ad.Table.Relay Ad.Table.Most),rfl,(hs1.mono (le_join_left _ _)),⟨u3,rfl,(hs2.mono (le_join_left _ _))⟩⟩ Ab Ah (Af.mono (le_join_left _ _)) (nth Bc (W ((Bc.length : Int) - 1))) _ hr5) rfl ?_;clear S;intro v5 a w9 hv5 hk7 hn5 S
   obtain ⟨φ2,hl2,hm5,S⟩:=S.see' hn5 hz3
   have hq2:=AQ.mono (Pt (Rb hl2 hm5)) (Rb hl2 hm5) hv5
   refine Ld (Ig hk7 (Lw [9,10] hsel (by kernel_rfl) rfl ?_))
   clear hsel
   refine Gm S rfl (Ra (S.tm rfl)) rfl fun a S=>Gm S rfl (Ra rfl) rfl fun a S=>Hv ?_
   replace S:=S.n0.k2 6 7 rfl
   refine Tn (wp_ret ?_)
   obtain rfl:=Option.some.inj h
   exact Lg S results20 rfl rfl ⟨_,rfl,(AQ.mono (Pt (Yo hψ S.le_newer)) (Yo hψ S.le_newer) hq2)⟩
theorem Fzs (w : World) (As : Dy) (Ca : Nat) (Bk : ByteArray) (Cb : (view w []) Ca = some (.cells [sV Bk].toArray 9 (0,0))) (r : Bool) (h : Wq As Bk = r) :
    Calls prog 86 [.agg (Dy.enc As).toArray,.pointer (some ⟨Ca,0,none⟩)].toArray w (Ret w [] fun _ v _=>v = bV r):=by
 refine Fe func86 rfl ntmps86 rfl fun a S=>?_
 unfold Wq at h
 replace S:=S.k2 0 1 rfl
 refine Fr (Mn S (S.tm rfl) (cs:=(Dy.enc As)) rfl rfl ?_);clear S;intro a w1 b1 hz1 hk1 S
 refine Vk S rfl rfl fun a S=>Dz (Vf Tx S rfl rfl fun a S=>Vl isAgg9 0 S rfl rfl rfl rfl fun a S=>lv S (Hm isAgg9 (off:=0) (o:=0) (S.tm rfl) ((Ru Cb).at S.emb0) rfl) rfl fun a S=>Vb S Ve rfl rfl rfl fun a S=>Va S rfl rfl fun a S=>Ld ?_)
 refine Tn (wp_ret ?_)
 subst h
 exact Ej S results86 rfl rfl
theorem Tr (w : World) (Ax : Value) (Ar : List Dy) (Bf : Slc (view w []) 8 Ax (Ar.map Dy.enc)) (Az : Nat) (Aw : ByteArray) (Bg : (view w []) Az = some (.cells [sV Aw].toArray 9 (0,0))) (r : Int) (h : Gh Ar Aw = r) :
    Calls prog 85 [Ax,.func (.func 86) #[] #[.pointer (some ⟨Az,0,none⟩)]].toArray w (Ret w [] fun _ v _=>v = iV r):=by
 refine Fe func85 rfl ntmps85 rfl fun a S=>?_
 unfold Gh at h
 replace S:=S.k2 0 1 rfl
 refine Fr (Vk S rfl rfl fun a S=>Dl (Fs (Fr (Vm S rfl rfl fun a S=>lv S (Fq Un (S.tm rfl) (Fj Bf)) rfl fun a S=>lv S (Rm rfl) rfl ?_))));clear S;intro a S
 refine Dl ?_
 replace S:=S.k4 0 1 7 8 rfl
 obtain ⟨j1,hj1,h⟩:=Ep h
 refine Eg (fun a w'=>j1 = r ∧ Sx w [] nov [] [] 19 a w') ?_ ?_
 ·refine wp_block (Gx (fun (ys1 : List Dy) a w'=>∃ i1 : Nat,(∃ dn,Ar = dn ++ ys1 ∧ dn.length = i1) ∧ Gg Aw j1 ys1 i1 = r ∧ Sx w [] nov [] [(0,Ax),(1,.func (.func 86) #[] #[.pointer (some ⟨Az,0,none⟩)]),(7,iV (Ar.length : Int)),(8,iV (i1 : Int))] 19 a w') List.length Ar ⟨0,⟨[],rfl,rfl⟩,h,S.nf [] rfl (subR rfl)⟩ ?_)
  clear S h;rintro ys1 a w1 ⟨i1,⟨dn,hd1,hi1⟩,h,S⟩
  cases ys1 with
  | nil =>
   rw [Gg.eq_1] at h
   refine Fr (Vb S Et rfl rfl rfl fun a S=>Ld ?_)
   replace S:=S.k5 0 1 7 8 9 rfl
   exact Tn (Fs (wp_cond_false ((S.tm rfl).trans (congrArg Value.bool (Il hd1 hi1))) (wp_exit (Ed (Ed (Gp (Tn (⟨h,S.nf [] rfl trivial⟩))))))))
  | cons y1 ys1 =>
   rw [Gg.eq_2] at h
   refine Fr (Vb S Et rfl rfl rfl fun a S=>Ld ?_)
   replace S:=S.k5 0 1 7 8 9 rfl
   refine Tn (Fs (wp_cond_true ((S.tm rfl).trans (congrArg Value.bool (Ht hd1 hi1))) (wp_skip (Tn (Fs (wp_block (Fr (Vm S rfl rfl fun a S=>Va S rfl rfl ?_))))))));clear S;intro a S
   refine Dl (Fs (Fg ?_))
   iterate 3 (refine Vm S rfl rfl ?_;clear S;intro a S)
   obtain ⟨b1,o1,hm1,hr1⟩:=Ev (a:=a) (x:=.tmp 12) (y:=.tmp 13) (ty:=0) Un Bf (Io hd1 hi1) rfl (S.tm rfl) (S.tm rfl)
   refine lv S (hr1 _) rfl ?_;clear S;intro a S
   clear hr1
   refine lv S (Fp isAgg42 sizeOf42 (off:=o1) (o:=0) (part:=(Dy.enc y1)) rfl rfl (S.tm rfl) (hm1.at S.emb0)) rfl fun a S=>Dw S (fun _=>Ts (cap:=[.pointer (some ⟨Az,0,none⟩)]) (S.tm rfl) (vs:=[.agg (Dy.enc y1).toArray]) ⟨(S.tm rfl),trivial⟩ call86) (Fzs _ y1 Az Aw ((S.le_arg Ec) _ _ Bg) _ rfl) rfl ?_;clear S;intro v1 a w3 hv1 hk1 hn1 S
   subst hv1
   refine Dl (Fc h (S.tm rfl) (fun hb1 h=>?_) (fun hb1 h=>?_))
   ·refine Fr (Vm S rfl rfl fun a S=>Va S rfl rfl fun a S=>Ld ?_)
    replace S:=S.k1 4 rfl
    refine Tn (wp_ret (Fl (Dt (Dt (Fl (Dt (Dt ?_)))))))
    subst h
    exact Ej S results85 rfl rfl
   ·exact wp_skip (Ho (Tn (Fg (Vq S Gc rfl rfl rfl fun a S=>Vm S rfl rfl fun a S=>Dl (⟨ys1,⟨i1 + 1,⟨_,(hd1).trans (List.append_cons _ _ _),by simp [hi1]⟩,h,S.nf [] rfl ⟨rfl,rfl,rfl,(congrArg (fun z=>some (Value.int .i64 z)) (Hu hd1 hi1 (Iz Bf))),trivial⟩⟩,Nat.lt_succ_self _⟩)))))
 clear S h;rintro a w2 ⟨h,S⟩;rw [hj1] at h;clear hj1 j1
 refine Tn (Fr (Vk S rfl rfl fun a S=>Dl (wp_ret ?_)))
 subst h
 exact Ej S results85 rfl rfl
set_option maxRecDepth 20000 in
theorem JN (w : World) (Ac : Int) (r : Int) (h : DN Ac = some r) :
    Calls prog 131 [.int .u32 Ac].toArray w (Ret w [] fun _ v _=>v = iV r):=by
 refine Fe func131 rfl ntmps131 rfl fun a S=>?_
 unfold DN at h
 replace S:=S.k1 0 rfl
 refine Fr (Vk S rfl rfl fun a S=>Dl (Fs (Fr (Vm S rfl rfl fun a S=>Vq S Qe rfl rfl rfl fun a S=>Ld ?_))))
 refine Tn ?_
 obtain ⟨j1,hj1,h⟩:=Ep h
 refine Eg (fun a w'=>∃ x1 : Int,∃ x2 : Int,j1 x1 x2 = some r ∧ Sx w [] nov [] [(0,.int .u32 x1),(2,iV x2)] 19 a w') ?_ ?_
 ·refine Fc h (S.tm rfl) (fun hb1 h=>?_) (fun hb1 h=>?_)
  ·refine Fr (Vm S rfl rfl fun a S=>lv S (Vd (S.tm rfl) rfl (by decide)) rfl fun a S=>Va S rfl rfl fun a S=>Dl (Fg (Vk S rfl rfl fun a S=>Dl ?_)))
   exact ⟨Gr .u32 Ac 16,16,h,S.nf [] rfl (subR rfl)⟩
  ·exact wp_skip (Tn (⟨Ac,0,h,S.nf [] rfl (subR rfl)⟩))
 clear S h;rintro a w1 ⟨x1,x2,h,S⟩;rw [hj1] at h;clear hj1 j1
 refine Tn (Fs (Fr (Vm S rfl rfl fun a S=>Vq S Qe rfl rfl rfl fun a S=>Dl ?_)))
 obtain ⟨j2,hj2,h⟩:=Ep h
 refine Eg (fun a w'=>∃ x3 : Int,∃ x4 : Int,j2 x3 x4 = some r ∧ Sx w [] nov [] [(0,.int .u32 x3),(2,iV x4)] 19 a w') ?_ ?_
 ·refine Fc h (S.tm rfl) (fun hb2 h=>?_) (fun hb2 h=>?_)
  ·refine Fr (Vm S rfl rfl fun a S=>lv S (Vd (S.tm rfl) rfl (by decide)) rfl fun a S=>Va S rfl rfl fun a S=>Dl (Fg (Vm S rfl rfl fun a S=>Vq S Gc rfl rfl rfl fun a S=>Va S rfl rfl ?_)));clear S;intro a S
   exact Dl (⟨Gr .u32 x1 8,W (x2 + 8),h,S.nf [] rfl (subR rfl)⟩)
  ·exact wp_skip (Tn (⟨x1,x2,h,S.nf [] rfl (subR rfl)⟩))
 clear S h;rintro a w2 ⟨x3,x4,h,S⟩;rw [hj2] at h;clear hj2 j2
 refine Tn (Fr (Vm S rfl rfl fun a S=>Vm S rfl rfl fun a S=>Vu S (Wo underlying217 underlying5) rfl rfl ?_));clear S;intro a S
 obtain ⟨hc1,h⟩:=Ie h
 refine lv S (Xv underlying9 rfl (S.tm rfl) hc1) rfl fun a S=>Vu S (Wo underlying5 underlying3) rfl rfl fun a S=>Vb S Gc rfl rfl rfl fun a S=>Va S rfl rfl fun a S=>Dl (wp_ret ?_)
 obtain rfl:=Option.some.inj h
 exact Ej S results131 rfl rfl
set_option maxRecDepth 20000 in
theorem DH (w : World) (Ac : Int) (r : Int) (h : Zw Ac = some r) :
    Calls prog 132 [.int .u64 Ac].toArray w (Ret w [] fun _ v _=>v = iV r):=by
 refine Fe func132 rfl ntmps132 rfl fun a S=>?_
 unfold Zw at h
 replace S:=S.k1 0 rfl
 refine Fr (Vk S rfl rfl fun a S=>Dl (Fs (Fr (Vm S rfl rfl fun a S=>Vq S Qe rfl rfl rfl fun a S=>Ld ?_))))
 refine Tn ?_
 obtain ⟨j1,hj1,h⟩:=Ep h
 refine Eg (fun a w'=>∃ x1 : Int,∃ x2 : Int,j1 x1 x2 = some r ∧ Sx w [] nov [] [(0,.int .u64 x1),(2,iV x2)] 25 a w') ?_ ?_
 ·refine Fc h (S.tm rfl) (fun hb1 h=>?_) (fun hb1 h=>?_)
  ·refine Fr (Vm S rfl rfl fun a S=>lv S (Vd (S.tm rfl) rfl (by decide)) rfl fun a S=>Va S rfl rfl fun a S=>Dl (Fg (Vk S rfl rfl fun a S=>Dl ?_)))
   exact ⟨Gr .u64 Ac 32,32,h,S.nf [] rfl (subR rfl)⟩
  ·exact wp_skip (Tn (⟨Ac,0,h,S.nf [] rfl (subR rfl)⟩))
 clear S h;rintro a w1 ⟨x1,x2,h,S⟩;rw [hj1] at h;clear hj1 j1
 refine Tn (Fs (Fr (Vm S rfl rfl fun a S=>Vq S Qe rfl rfl rfl fun a S=>Dl ?_)))
 obtain ⟨j2,hj2,h⟩:=Ep h
 refine Eg (fun a w'=>∃ x3 : Int,∃ x4 : Int,j2 x3 x4 = some r ∧ Sx w [] nov [] [(0,.int .u64 x3),(2,iV x4)] 25 a w') ?_ ?_
 ·refine Fc h (S.tm rfl) (fun hb2 h=>?_) (fun hb2 h=>?_)
  ·refine Fr (Vm S rfl rfl fun a S=>lv S (Vd (S.tm rfl) rfl (by decide)) rfl fun a S=>Va S rfl rfl fun a S=>Dl (Fg (Vm S rfl rfl fun a S=>Vq S Gc rfl rfl rfl fun a S=>Va S rfl rfl ?_)));clear S;intro a S
   exact Dl (⟨Gr .u64 x1 16,W (x2 + 16),h,S.nf [] rfl (subR rfl)⟩)
  ·exact wp_skip (Tn (⟨x1,x2,h,S.nf [] rfl (subR rfl)⟩))
 clear S h;rintro a w2 ⟨x3,x4,h,S⟩;rw [hj2] at h;clear hj2 j2
 refine Tn (Fs (Fr (Vm S rfl rfl fun a S=>Vq S Qe rfl rfl rfl fun a S=>Dl ?_)))
 obtain ⟨j3,hj3,h⟩:=Ep h
 refine Eg (fun a w'=>∃ x5 : Int,∃ x6 : Int,j3 x5 x6 = some r ∧ Sx w [] nov [] [(0,.int .u64 x5),(2,iV x6)] 25 a w') ?_ ?_
 ·refine Fc h (S.tm rfl) (fun hb3 h=>?_) (fun hb3 h=>?_)
  ·refine Fr (Vm S rfl rfl fun a S=>lv S (Vd (S.tm rfl) rfl (by decide)) rfl fun a S=>Va S rfl rfl fun a S=>Dl (Fg (Vm S rfl rfl fun a S=>Vq S Gc rfl rfl rfl fun a S=>Va S rfl rfl ?_)));clear S;intro a S
   exact Dl (⟨Gr .u64 x3 8,W (x4 + 8),h,S.nf [] rfl (subR rfl)⟩)
  ·exact wp_skip (Tn (⟨x3,x4,h,S.nf [] rfl (subR rfl)⟩))
 clear S h;rintro a w3 ⟨x5,x6,h,S⟩;rw [hj3] at h;clear hj3 j3
 refine Tn (Fr (Vm S rfl rfl fun a S=>Vm S rfl rfl fun a S=>Vu S (Wo underlying180 underlying5) rfl rfl ?_));clear S;intro a S
 obtain ⟨hc1,h⟩:=Ie h
 refine lv S (Xv underlying9 rfl (S.tm rfl) hc1) rfl fun a S=>Vu S (Wo underlying5 underlying3) rfl rfl fun a S=>Vb S Gc rfl rfl rfl fun a S=>Va S rfl rfl fun a S=>Dl (wp_ret ?_)
 obtain rfl:=Option.some.inj h
 exact Ej S results132 rfl rfl
theorem NM (w : World) (Ac : Int) (r : Int) (h : EL Ac = some r) :
    Calls prog 108 [.int .u64 Ac].toArray w (Ret w [] fun _ v _=>v = iV r):=by
 refine Fe func108 rfl ntmps108 rfl fun a S=>?_
 unfold EL at h
 replace S:=S.k1 0 rfl
 refine Fr (Vk S rfl rfl fun a S=>Dl (Fs (Fc h rfl (fun hb1 h=>?_) (fun hb1 h=>?_))))
 ·refine Fr (Vm S rfl rfl fun a S=>Vu S (Wo underlying193 underlying217) rfl rfl ?_);clear S;intro a S
  obtain ⟨r1,hr1,h⟩:=Fa h
  refine Dw S (fun _=>Dp (vs:=[.int .u32 (IntKind.wrap .u32 Ac)]) ⟨(S.tm rfl),trivial⟩ call131) (JN _ (IntKind.wrap .u32 Ac) _ hr1) rfl ?_;clear S;intro v1 a w1 hv1 hk1 hn1 S
  subst hv1
  refine Va S rfl rfl fun a S=>Dl (wp_ret (Dt ?_))
  obtain rfl:=Option.some.inj h
  exact Ej S results108 rfl rfl
 ·refine wp_skip (Tn (Fr (Vm S rfl rfl ?_)));clear S;intro a S
  obtain ⟨r2,hr2,h⟩:=Fa h
  refine Dw S (fun _=>Dp (vs:=[.int .u64 Ac]) ⟨(S.tm rfl),trivial⟩ call132) (DH _ Ac _ hr2) rfl ?_;clear S;intro v2 a w2 hv2 hk2 hn2 S
  subst hv2
  refine Va S rfl rfl fun a S=>Dl (wp_ret ?_)
  obtain rfl:=Option.some.inj h
  exact Ej S results108 rfl rfl
theorem CW (w : World) (Ap : Dk) (Au : Dk) (r : Int) (h : Nx Ap Au = r) :
    Calls prog 84 [.agg (Dk.enc Ap).toArray,.agg (Dk.enc Au).toArray].toArray w (Ret w [] fun _ v _=>v = iV r):=by
 refine Fe func84 rfl ntmps84 rfl fun a S=>?_
 unfold Nx at h
 replace S:=S.k2 0 1 rfl
 refine Fr (Mn S (S.tm rfl) (cs:=(Dk.enc Ap)) rfl rfl ?_);clear S;intro a w1 b1 hz1 hk1 S
 refine Mn S (S.tm rfl) (cs:=(Dk.enc Au)) rfl rfl ?_;clear S;intro a w2 b2 hz2 hk2 S
 refine Vk S rfl rfl fun a S=>Dz (Vf Mq S rfl rfl fun a S=>Vl isAgg9 1 S rfl rfl rfl rfl fun a S=>Vf Mq S rfl rfl fun a S=>Vl isAgg9 0 S rfl rfl rfl rfl fun a S=>Dw S (fun _=>Dp (vs:=[sV Ap.Who,sV Au.Who]) ⟨(S.tm rfl),(S.tm rfl),trivial⟩ call53) (Ot _ Ap.Who Au.Who _ rfl) rfl ?_);clear S;intro v1 a w3 hv1 hk3 hn1 S
 subst hv1
 refine Va S rfl rfl fun a S=>Dl (wp_ret ?_)
 subst h
 exact Ej S results84 rfl rfl
set_option maxRecDepth 20000 in
theorem Pu (w : World) (Aa : Value) (Av : List Dk) (Bn : (LEnt.own Aa 101 11 Av.length (Av.flatMap Dk.enc)).holds w) (Ap : Int) (Au : Int) (r : (List Dk)) (h : Hw Av Ap Au = some r) :
    Calls prog 100 [Aa,iV Ap,iV Au,.func (.func 84) #[] #[]].toArray w (Ret w (Aa.ownBlock.toList) fun _ v w'=>(LEnt.own Aa 101 11 r.length (r.flatMap Dk.enc)).holds w' ∧ v = .tuple #[]):=by
 refine Mv (Aa.ownBlock.toList) [.own Aa 101 11 Av.length (Av.flatMap Dk.enc)] func100 rfl ntmps100 rfl (fun e he=>by simp only [List.mem_singleton] at he;subst he;exact Bn) (Lt _) (Nf _) fun a S=>?_
 unfold Hw at h
 replace S:=(S.nl [.own Aa 101 11 Av.length (Av.flatMap Dk.enc)] [true] rfl).k4 0 1 2 3 rfl
 refine Fr (Vm S rfl rfl fun a S=>Vq S Gc rfl rfl rfl fun a S=>Va S rfl rfl fun a S=>Dl ?_)
 replace S:=S.k5 0 1 2 3 8 rfl
 obtain ⟨j1,hj1,h⟩:=Ep h
 refine Eg (fun a w'=>∃ x1 : List Dk,j1 x1 = some r ∧ Sx w (Aa.ownBlock.toList) nov [.own Aa 101 11 x1.length (x1.flatMap Dk.enc)] [] 53 a w') ?_ ?_
 ·refine wp_block (Gx (fun (m1 : Nat) a w'=>∃ x1 : List Dk,∃ x2 : Int,Ff Au Ap j1 m1 x1 x2 = some r ∧ Sx w (Aa.ownBlock.toList) nov [.own Aa 101 11 x1.length (x1.flatMap Dk.enc)] [(0,Aa),(1,iV Ap),(2,iV Au),(3,.func (.func 84) #[] #[]),(8,iV x2)] 53 a w') id ((Au - (W (Ap + 1))).toNat + 2) ⟨Av,W (Ap + 1),h,S.nf [true] rfl (subR rfl)⟩ ?_)
  clear S h;rintro m1 a w1 ⟨x1,x2,h,S⟩
  cases m1 with
  | zero=>rw [Ff.eq_1] at h;cases h
  | succ m1 =>
   rw [Ff.eq_2] at h
   refine Fs (Fr (Vm S rfl rfl fun a S=>Vm S rfl rfl fun a S=>Vb S Et rfl rfl rfl fun a S=>Dl (Fc h (S.tm rfl) (fun hb1 h=>?_) (fun hb1 h=>?_))))
   ·refine wp_skip (Tn (Fs (wp_block (Fr (Vm S rfl rfl fun a S=>Va S rfl rfl fun a S=>Dl ?_)))))
    replace S:=S.k6 0 1 2 3 8 9 rfl
    obtain ⟨j2,hj2,h⟩:=Ep h
    refine Eg (fun a w'=>∃ x3 : List Dk,j2 x3 = some r ∧ Sx w (Aa.ownBlock.toList) nov [.own Aa 101 11 x3.length (x3.flatMap Dk.enc)] [(0,Aa),(1,iV Ap),(2,iV Au),(3,.func (.func 84) #[] #[]),(8,iV x2)] 53 a w') ?_ ?_
    ·refine wp_block (Gx (fun (m2 : Nat) a w'=>∃ x3 : List Dk,∃ x4 : Int,El Ap j2 m2 x3 x4 = some r ∧ Sx w (Aa.ownBlock.toList) nov [.own Aa 101 11 x3.length (x3.flatMap Dk.enc)] [(0,Aa),(1,iV Ap),(2,iV Au),(3,.func (.func 84) #[] #[]),(8,iV x2),(9,iV x4)] 53 a w') id ((x2 - Ap).toNat + 2) ⟨x1,x2,h,S.nf [true] rfl (subR rfl)⟩ ?_)
     clear S h;rintro m2 a w3 ⟨x3,x4,h,S⟩
     cases m2 with
     | zero=>rw [El.eq_1] at h;cases h
     | succ m2 =>
      rw [El.eq_2] at h
      refine Fs (Fs ?_)
      obtain ⟨j3,hj3,h⟩:=Ep h
      refine Eg (fun a w'=>∃ x5 : Bool,j3 x5 = some r ∧ Sx w (Aa.ownBlock.toList) nov [.own Aa 101 11 x3.length (x3.flatMap Dk.enc)] [(0,Aa),(1,iV Ap),(2,iV Au),(3,.func (.func 84) #[] #[]),(8,iV x2),(9,iV x4),(34,bV x5)] 53 a w') ?_ ?_
      ·rcases Bool.eq_false_or_eq_true (decide (Ap < x4)) with hb2 | hb2
       ·replace h:=Qc h hb2
        obtain ⟨hc1,h⟩:=Ie h
        obtain ⟨hc2,h⟩:=Ie h
        refine Hd [] ([]) Tryz.mixed S rfl (by kernel_rfl) ?_;clear S;intro w7 hk2 hsel S
        refine Eb 0 S hsel rfl rfl rfl (by kernel_rfl) (by kernel_rfl) rfl (fun _ hw=>(Rm (S.tm rfl))) fun a S=>Eb 1 S hsel rfl rfl rfl (by kernel_rfl) (by kernel_rfl) rfl (fun _ hw=>(Rm (S.tm rfl))) fun a S=>Eb 2 S hsel rfl rfl rfl (by kernel_rfl) (by kernel_rfl) rfl (fun _ hw=>(It (S.tm rfl) (S.tm rfl))) fun a S=>Eb 3 S hsel rfl rfl rfl (by kernel_rfl) (by kernel_rfl) rfl (fun _ hw=>(Rm (S.tm rfl))) fun a S=>Eu 4 S hsel rfl rfl rfl rfl hb2 rfl rfl (by kernel_rfl) (by kernel_rfl) rfl (fun _ hw=>(Rm (S.tm rfl))) fun a S=>Eu 5 S hsel rfl rfl rfl rfl hb2 rfl rfl (by kernel_rfl) (by kernel_rfl) rfl (fun _ hw=>(Rm (S.tm rfl))) fun a S=>Eu 6 S hsel rfl rfl rfl rfl hb2 rfl rfl (by kernel_rfl) (by kernel_rfl) rfl (fun _ hw=>(Rm (S.tm rfl))) ?_;clear S;intro a S
        obtain ⟨b3,hg3,hr3⟩:=Hq (a:=a) (x:=.tmp 23) (y:=.tmp 24) (ty:=0) Nj Dk.enc_ok S (i:=0) rfl (Dx hc1).1 (Dx hc1).2 (S.tm rfl) (S.tm rfl)
        refine Eu 7 S hsel rfl rfl rfl rfl hb2 rfl rfl (by kernel_rfl) (by kernel_rfl) rfl (fun _ hw=>(hr3 _)) ?_;clear S;intro a S
        clear hr3
        refine Eu 8 S hsel rfl rfl rfl rfl hb2 rfl rfl (by kernel_rfl) (by kernel_rfl) rfl (fun _ hw=>(Fp isAgg101 sizeOf101 (off:=x4.toNat * 11) (o:=0) (part:=(Dk.enc (nth x3 x4))) rfl rfl (S.tm rfl) ((Pi Dk.enc_ok S (i:=0) rfl hg3 (Dx hc1).1 (Ia (e':=.own Aa 101 11 x3.length (x3.flatMap Dk.enc)))).kept hw))) fun a S=>Eu 9 S hsel rfl rfl rfl rfl hb2 rfl rfl (by kernel_rfl) (by kernel_rfl) rfl (fun _ hw=>(Rm (S.tm rfl))) fun a S=>Eu 10 S hsel rfl rfl rfl rfl hb2 rfl rfl (by kernel_rfl) (by kernel_rfl) rfl (fun _ hw=>(Rm (S.tm rfl))) fun a S=>Eu 11 S hsel rfl rfl rfl rfl hb2 rfl rfl (by kernel_rfl) (by kernel_rfl) rfl (fun _ hw=>(Iu (S.tm rfl) rfl)) ?_;clear S;intro a S
        obtain ⟨b4,hg4,hr4⟩:=Hq (a:=a) (x:=.tmp 27) (y:=.tmp 29) (ty:=0) Nj Dk.enc_ok S (i:=0) rfl (Dx hc2).1 (Dx hc2).2 (S.tm rfl) (S.tm rfl)
        refine Eu 12 S hsel rfl rfl rfl rfl hb2 rfl rfl (by kernel_rfl) (by kernel_rfl) rfl (fun _ hw=>(hr4 _)) ?_;clear S;intro a S
        clear hr4
        refine Eu 13 S hsel rfl rfl rfl rfl hb2 rfl rfl (by kernel_rfl) (by kernel_rfl) rfl (fun _ hw=>(Fp isAgg101 sizeOf101 (off:=((W (x4 - 1)).toNat) * 11) (o:=0) (part:=(Dk.enc (nth x3 (W (x4 - 1))))) rfl rfl (S.tm rfl) ((Pi Dk.enc_ok S (i:=0) rfl hg4 (Dx hc2).1 (Ia (e':=.own Aa 101 11 x3.length (x3.flatMap Dk.enc)))).kept hw))) fun a S=>He 14 (by kernel_rfl) rfl (Du S rfl rfl rfl hb2 (Dw S (fun _=>Ts (cap:=[]) (S.tm rfl) (vs:=[.agg (Dk.enc (nth x3 x4)).toArray,.agg (Dk.enc (nth x3 (W (x4 - 1)))).toArray]) ⟨(S.tm rfl),(S.tm rfl),trivial⟩ call84) (CW _ (nth x3 x4) (nth x3 (W (x4 - 1))) _ rfl) rfl ?_));clear S;intro v2 a w8 hv2 hk3 hn2 S
        subst hv2
        refine Ld (Ig hk3 (Lw [15,16] hsel (by kernel_rfl) rfl ?_))
        clear hsel
        refine Ee S rfl rfl rfl rfl hb2 (Fb S (Et (S.tm rfl) rfl) rfl fun a S=>Gm S rfl (Qu hb2 (S.tm rfl) (S.tm rfl)) rfl fun a S=>Hv ?_)
        replace S:=S.nk [.own Aa 101 11 x3.length (x3.flatMap Dk.enc)] [(0,Aa),(1,iV Ap),(2,iV Au),(3,.func (.func 84) #[] #[]),(8,iV x2),(9,iV x4),(22,.func (.func 84) #[] #[]),(23,Aa),(24,iV x4),(25,.pointer (some ⟨b3,x4.toNat * 11,none⟩)),(26,.agg (Dk.enc (nth x3 x4)).toArray),(27,Aa),(28,iV x4),(29,iV (W (x4 - 1))),(30,.pointer (some ⟨b4,((W (x4 - 1)).toNat) * 11,none⟩)),(31,.agg (Dk.enc (nth x3 (W (x4 - 1)))).toArray),(32,iV (Nx (nth x3 x4) (nth x3 (W (x4 - 1))))),(33,bV (decide ((Nx (nth x3 x4) (nth x3 (W (x4 - 1)))) < 0))),(34,bV (decide ((Nx (nth x3 x4) (nth x3 (W (x4 - 1)))) < 0)))] [true] rfl (subR rfl)
        exact Tn (⟨decide ((Nx (nth x3 x4) (nth x3 (W (x4 - 1)))) < 0),h,S.nf [true] rfl (subR rfl)⟩)
       ·replace h:=Qd h hb2
        refine Hd [] ([]) Tryz.mixed S rfl (by kernel_rfl) ?_;clear S;intro w9 hk4 hsel S
        refine Lw [0,1,2,3,4,5,6,7,8,9,10,11,12,13,14,15,16] hsel (by kernel_rfl) rfl ?_
        clear hsel
        refine Gm S rfl (Rm (S.tm rfl)) rfl fun a S=>Gm S rfl (Rm (S.tm rfl)) rfl fun a S=>Gm S rfl (It (S.tm rfl) (S.tm rfl)) rfl fun a S=>Gm S rfl (Rm (S.tm rfl)) rfl ?_;clear S;intro a S
        iterate 12 (refine Nk S rfl rfl rfl rfl (Jh hb2) rfl ?_ rfl;clear S;intro a S)
        refine Gm S rfl (Qv hb2 (S.tm rfl) rfl) rfl fun a S=>Hv ?_
        replace S:=S.k7 0 1 2 3 8 9 34 rfl
        exact Tn (⟨false,h,S.nf [true] rfl (subR rfl)⟩)
      clear S h;rintro a w5 ⟨x5,h,S⟩;rw [hj3] at h;clear hj3 j3
      refine Tn (Fc h (S.tm rfl) (fun hb3 h=>?_) (fun hb3 h=>?_))
      ·refine wp_skip (Tn (Fs (wp_block ?_)))
       obtain ⟨hc3,h⟩:=Ie h
       obtain ⟨hc4,h⟩:=Ie h
       obtain ⟨hc5,h⟩:=Ie h
       obtain ⟨hc6,h⟩:=Ie h
       refine Hd [15,17] ([]) Tryz.mixed S rfl (by kernel_rfl) ?_;clear S;intro w14 hk9 hsel S
       refine Gy 0 S hsel rfl rfl (by kernel_rfl) (by kernel_rfl) rfl (fun _=>(Rm (S.tm rfl))) fun a S=>Gy 1 S hsel rfl rfl (by kernel_rfl) (by kernel_rfl) rfl (fun _=>(Rm (S.tm rfl))) fun a S=>Gy 2 S hsel rfl rfl (by kernel_rfl) (by kernel_rfl) rfl (fun _=>(Rm (S.tm rfl))) fun a S=>Gy 3 S hsel rfl rfl (by kernel_rfl) (by kernel_rfl) rfl (fun _=>(Rm (S.tm rfl))) fun a S=>Gy 4 S hsel rfl rfl (by kernel_rfl) (by kernel_rfl) rfl (fun _=>(Iu (S.tm rfl) rfl)) fun a S=>Gy 5 S hsel rfl rfl (by kernel_rfl) (by kernel_rfl) rfl (fun _=>(Rm (S.tm rfl))) fun a S=>Gy 6 S hsel rfl rfl (by kernel_rfl) (by kernel_rfl) rfl (fun _=>(Rm (S.tm rfl))) fun a S=>Gy 7 S hsel rfl rfl (by kernel_rfl) (by kernel_rfl) rfl (fun _=>(Iu (S.tm rfl) rfl)) ?_;clear S;intro a S
       obtain ⟨b9,hg9,hr9⟩:=Hq (a:=a) (x:=.tmp 42) (y:=.tmp 44) (ty:=0) Nj Dk.enc_ok S (i:=0) rfl (Dx hc3).1 (Dx hc3).2 (S.tm rfl) (S.tm rfl)
       refine Gy 8 S hsel rfl rfl (by kernel_rfl) (by kernel_rfl) rfl (fun _=>(hr9 _)) ?_;clear S;intro a S
       clear hr9
       refine Eb 9 S hsel rfl (by kernel_rfl) (by kernel_rfl) (by kernel_rfl) (by kernel_rfl) rfl (fun _ hw=>(Fp isAgg101 sizeOf101 (off:=((W (x4 - 1)).toNat) * 11) (o:=0) (part:=(Dk.enc (nth x3 (W (x4 - 1))))) rfl rfl (S.tm rfl) ((Pi Dk.enc_ok S (i:=0) rfl hg9 (Dx hc3).1 (Ia (e':=.own Aa 101 11 x3.length (x3.flatMap Dk.enc)))).kept hw))) fun a S=>Gy 10 S hsel rfl rfl (by kernel_rfl) (by kernel_rfl) rfl (fun _=>(Rm (S.tm rfl))) fun a S=>Gy 11 S hsel rfl rfl (by kernel_rfl) (by kernel_rfl) rfl (fun _=>(Rm (S.tm rfl))) ?_;clear S;intro a S
       obtain ⟨b10,hg10,hr10⟩:=Hq (a:=a) (x:=.tmp 47) (y:=.tmp 48) (ty:=0) Nj Dk.enc_ok S (i:=0) rfl (Dx hc4).1 (Dx hc4).2 (S.tm rfl) (S.tm rfl)
       refine Gy 12 S hsel rfl rfl (by kernel_rfl) (by kernel_rfl) rfl (fun _=>(hr10 _)) ?_;clear S;intro a S
       clear hr10
       refine Eb 13 S hsel rfl (by kernel_rfl) (by kernel_rfl) (by kernel_rfl) (by kernel_rfl) rfl (fun _ hw=>(Fp isAgg101 sizeOf101 (off:=x4.toNat * 11) (o:=0) (part:=(Dk.enc (nth x3 x4))) rfl rfl (S.tm rfl) ((Pi Dk.enc_ok S (i:=0) rfl hg10 (Dx hc4).1 (Ia (e':=.own Aa 101 11 x3.length (x3.flatMap Dk.enc)))).kept hw))) ?_;clear S;intro a S
       obtain ⟨b11,hg11,hr11⟩:=Hq (a:=a) (x:=.tmp 37) (y:=.tmp 38) (ty:=0) Nj Dk.enc_ok S (i:=0) rfl (Dx hc5).1 (Dx hc5).2 (S.tm rfl) (S.tm rfl)
       refine Gy 14 S hsel rfl rfl (by kernel_rfl) (by kernel_rfl) rfl (fun _=>(hr11 _)) ?_;clear S;intro a S
       clear hr11
       refine Ym 15 (Aa.ownBlock.toList) rfl (by kernel_rfl) rfl (Qg (c:=0) (j:=x4.toNat) (nth x3 (W (x4 - 1))) Dk.enc_ok S (S.tm rfl) (S.tm rfl) (i:=0) rfl hg11 (Dx hc5).1 sizeOf101 (vs:=[sV ((nth x3 (W (x4 - 1))).Site),iV ((nth x3 (W (x4 - 1))).No),iV ((nth x3 (W (x4 - 1))).At),iV ((nth x3 (W (x4 - 1))).Kind),sV ((nth x3 (W (x4 - 1))).Who),sV ((nth x3 (W (x4 - 1))).Club),sV ((nth x3 (W (x4 - 1))).Race),iV ((nth x3 (W (x4 - 1))).Time),iV ((nth x3 (W (x4 - 1))).Fault),sV ((nth x3 (W (x4 - 1))).Of),iV ((nth x3 (W (x4 - 1))).Other)]) rfl rfl rfl rfl rfl ?_);clear S;intro w16 hk11 S
       refine Ld (Yn ?_)
       obtain ⟨b12,hg12,hr12⟩:=Hq (a:=a) (x:=.tmp 39) (y:=.tmp 41) (ty:=0) Nj Dk.enc_ok S (i:=0) rfl (Dx hc6).1 (Dx hc6).2 (S.tm rfl) (S.tm rfl)
       refine Eb 16 S hsel rfl rfl rfl (by kernel_rfl) (by kernel_rfl) rfl (fun _ hw=>(hr12 _)) ?_;clear S;intro a S
       clear hr12
       refine He 17 (by kernel_rfl) rfl (Qg (c:=0) (j:=(W (x4 - 1)).toNat) (nth x3 x4) Dk.enc_ok S (S.tm rfl) (S.tm rfl) (i:=0) rfl hg12 (Dx hc6).1 sizeOf101 (vs:=[sV ((nth x3 x4).Site),iV ((nth x3 x4).No),iV ((nth x3 x4).At),iV ((nth x3 x4).Kind),sV ((nth x3 x4).Who),sV ((nth x3 x4).Club),sV ((nth x3 x4).Race),iV ((nth x3 x4).Time),iV ((nth x3 x4).Fault),sV ((nth x3 x4).Of),iV ((nth x3 x4).Other)]) rfl rfl rfl rfl rfl ?_);clear S;intro w18 hk13 S
       refine Ld (Ig hk13 (Xi (by kernel_rfl) ?_))
       clear hsel
       replace S:=(S.nl [.own Aa 101 11 ((x3.set x4.toNat (nth x3 (W (x4 - 1)))).set ((W (x4 - 1)).toNat) (nth x3 x4)).length (((x3.set x4.toNat (nth x3 (W (x4 - 1)))).set ((W (x4 - 1)).toNat) (nth x3 x4)).flatMap Dk.enc)] [true] rfl).k6 0 1 2 3 8 9 rfl
       exact Ho (Tn (Fg (Vm S rfl rfl fun a S=>Vq S Iu rfl rfl rfl fun a S=>Va S rfl rfl fun a S=>Dl (⟨m2,⟨((x3.set x4.toNat (nth x3 (W (x4 - 1)))).set ((W (x4 - 1)).toNat) (nth x3 x4)),W (x4 - 1),h,S.nf [true] rfl ⟨rfl,rfl,rfl,rfl,rfl,rfl,trivial⟩⟩,Nat.lt_succ_self _⟩))))
      ·exact wp_exit (Ed (Ed (Gp (Tn (⟨x3,h,S.nf [true] rfl (subR rfl)⟩)))))
    clear S h;rintro a w4 ⟨x3,h,S⟩;rw [hj2] at h;clear hj2 j2
    exact Ho (Tn (Fg (Vm S rfl rfl fun a S=>Vq S Gc rfl rfl rfl fun a S=>Va S rfl rfl fun a S=>Dl (⟨m1,⟨x3,W (x2 + 1),h,S.nf [true] rfl ⟨rfl,rfl,rfl,rfl,rfl,trivial⟩⟩,Nat.lt_succ_self _⟩))))
   ·exact wp_exit (Ed (Ed (Gp (Tn (⟨x1,h,S.nf [true] rfl trivial⟩)))))
 clear S h;rintro a w2 ⟨x1,h,S⟩;rw [hj1] at h;clear hj1 j1
 obtain rfl:=Option.some.inj h
 exact Vg S results100 ⟨(S.holds _ (List.mem_of_getElem? (i:=0) rfl)),rfl⟩
theorem Rl (w : World) (Aa : Value) (Av : List Dk) (Bn : (LEnt.own Aa 101 11 Av.length (Av.flatMap Dk.enc)).holds w) (Ap : Int) (Au : Int) (Cz : Int) (r : (List Dk)) (h : Js Av Ap Au Cz = some r) :
    Calls prog 107 [Aa,iV Ap,iV Au,iV Cz,.func (.func 84) #[] #[]].toArray w (Ret w (Aa.ownBlock.toList) fun _ v w'=>(LEnt.own Aa 101 11 r.length (r.flatMap Dk.enc)).holds w' ∧ v = .tuple #[]):=by
 refine Mv (Aa.ownBlock.toList) [.own Aa 101 11 Av.length (Av.flatMap Dk.enc)] func107 rfl ntmps107 rfl (fun e he=>by simp only [List.mem_singleton] at he;subst he;exact Bn) (Lt _) (Nf _) fun a S=>?_
 unfold Js at h
 replace S:=(S.nl [.own Aa 101 11 Av.length (Av.flatMap Dk.enc)] [true] rfl).k5 0 1 2 3 4 rfl
 refine Fr (Vk S rfl rfl fun a S=>Dz (Vk S rfl rfl fun a S=>Dl ?_))
 replace S:=S.k6 0 1 2 3 4 10 rfl
 refine Eg (fun a w'=>False) ?_ ?_
 ·refine wp_block (Gx (fun (m1 : Nat) a w'=>∃ x1 : Int,∃ x2 : Int,∃ x3 : Int,∃ x4 : Bool,Gi Av m1 x1 x2 x3 x4 = some r ∧ Sx w (Aa.ownBlock.toList) nov [.own Aa 101 11 Av.length (Av.flatMap Dk.enc)] [(0,Aa),(1,iV x1),(2,iV x2),(3,iV x3),(4,.func (.func 84) #[] #[]),(10,bV x4)] 148 a w') id 4611686018427387904 ⟨Ap,Au,Cz,true,h,S.nf [true] rfl (subR rfl)⟩ ?_)
  clear S h;rintro m1 a w1 ⟨x1,x2,x3,x4,h,S⟩
  cases m1 with
  | zero=>rw [Gi.eq_1] at h;cases h
  | succ m1 =>
   rw [Gi.eq_2] at h
   refine wp_block (Fr (Vm S rfl rfl fun a S=>Vm S rfl rfl fun a S=>Vb S Iu rfl rfl rfl fun a S=>Va S rfl rfl fun a S=>Dl (Fs (Fs ?_))))
   refine Fg (Vm S rfl rfl fun a S=>Vq S Uv rfl rfl rfl fun a S=>Dl (Fc h (S.tm rfl) (fun hb1 h=>?_) (fun hb1 h=>?_)))
   ·refine Fs (Fg ?_)
    iterate 4 (refine Vm S rfl rfl ?_;clear S;intro a S)
    obtain ⟨r1,hr1,h⟩:=Fa h
    refine Pd 0 S rfl (fun _=>.own Aa 101 11 r1.length (r1.flatMap Dk.enc)) (fun _=>Dp (vs:=[Aa,iV x1,iV x2,.func (.func 84) #[] #[]]) ⟨(S.tm rfl),(S.tm rfl),(S.tm rfl),(S.tm rfl),trivial⟩ call100) (Pu _ Aa Av (S.holds _ (List.mem_of_getElem? (i:=0) rfl)) x1 x2 _ hr1) rfl (fun _ _ _ h=>⟨h.1,fun _ hc=>hc⟩) ?_;clear S;intro v1 a w3 hv1 hk1 hn1 S
    replace hv1:=hv1.2
    subst hv1
    refine Ld ?_
    replace S:=(S.nl [.own Aa 101 11 r1.length (r1.flatMap Dk.enc)] [true] rfl).k0
    refine Tn (wp_ret (Dt (Fl (Dt (Fl (Dt ?_))))))
    obtain rfl:=Option.some.inj h
    exact Vg S results107 ⟨(S.holds _ (List.mem_of_getElem? (i:=0) rfl)),rfl⟩
   ·refine wp_skip (Tn (Fs (Fr (Vm S rfl rfl fun a S=>Vq S Im rfl rfl rfl fun a S=>Dl (Fc h (S.tm rfl) (fun hb2 h=>?_) (fun hb2 h=>?_))))))
    ·refine Fs ?_
     cases h
    ·refine wp_skip (Tn (Fs (Fr (Vm S rfl rfl fun a S=>Vu S Hj rfl rfl fun a S=>Ld ?_))))
     replace S:=S.k1 39 rfl
     refine Tn (Fc h (S.tm rfl) (fun hb3 h=>?_) (fun hb3 h=>?_))
     ·refine Fs ?_
      cases h
     ·refine wp_skip (Tn (Fs ?_))
      cases h
 exact fun _ _ h=>h.elim
theorem Sz (w : World) (Bd : Value) (Ac : List Dk) (Cq : (LEnt.own Bd 101 11 Ac.length (Ac.flatMap Dk.enc)).holds w) (r : (List Dk)) (h : Jj Ac = some r) :
    Calls prog 83 [Bd,.func (.func 84) #[] #[]].toArray w (Ret w (Bd.ownBlock.toList) fun _ v w'=>(LEnt.own Bd 101 11 r.length (r.flatMap Dk.enc)).holds w' ∧ v = .tuple #[]):=by
 refine Mv (Bd.ownBlock.toList) [.own Bd 101 11 Ac.length (Ac.flatMap Dk.enc)] func83 rfl ntmps83 rfl (fun e he=>by simp only [List.mem_singleton] at he;subst he;exact Cq) (Lt _) (Nf _) fun a S=>?_
 unfold Jj at h
 replace S:=(S.nl [.own Bd 101 11 Ac.length (Ac.flatMap Dk.enc)] [true] rfl).k2 0 1 rfl
 refine Fr (Vm S rfl rfl fun a S=>lv S (Fq Nj (S.tm rfl) (Ph (S.own_at (i:=0) rfl))) rfl fun a S=>Va S rfl rfl fun a S=>Dl (Fg ?_))
 iterate 3 (refine Vm S rfl rfl ?_;clear S;intro a S)
 refine Vu S (Wo underlying3 underlying193) rfl rfl ?_;clear S;intro a S
 obtain ⟨r1,hr1,h⟩:=Fa h
 refine Dw S (fun _=>Dp (vs:=[.int .u64 (IntKind.wrap .u64 (Ac.length : Int))]) ⟨(S.tm rfl),trivial⟩ call108) (NM _ (IntKind.wrap .u64 (Ac.length : Int)) _ hr1) rfl ?_;clear S;intro v1 a w1 hv1 hk1 hn1 S
 subst hv1
 refine Vm S rfl rfl ?_;clear S;intro a S
 obtain ⟨r2,hr2,h⟩:=Fa h
 refine Pd 0 S rfl (fun _=>.own Bd 101 11 r2.length (r2.flatMap Dk.enc)) (fun _=>Dp (vs:=[Bd,iV 0,iV (Ac.length : Int),iV r1,.func (.func 84) #[] #[]]) ⟨(S.tm rfl),rfl,(S.tm rfl),(S.tm rfl),(S.tm rfl),trivial⟩ call107) (Rl _ Bd Ac (S.holds _ (List.mem_of_getElem? (i:=0) rfl)) 0 (Ac.length : Int) r1 _ hr2) rfl (fun _ _ _ h=>⟨h.1,fun _ hc=>hc⟩) ?_;clear S;intro v2 a w2 hv2 hk2 hn2 S
 replace hv2:=hv2.2
 subst hv2
 refine Ld ?_
 obtain rfl:=Option.some.inj h
 exact Vg S results83 ⟨(S.holds _ (List.mem_of_getElem? (i:=0) rfl)),rfl⟩
theorem Tz (w : World) (O : Nat) (Ae : Iw) (Bi : R32) (Bu : Rk (view w []) Ae Bi) (Ak : Value) (Ai : List Dk) (Bb : Slc (view w []) 11 Ak (Ai.map Dk.enc)) (Ao : (view w []) O = some (.cells (R32.enc Bi ++ [Ak]).toArray 112 (0,0))) (Al : ByteArray) (r : (List Dk)) (h : Ox Ae Ai Al = some r) :
    Calls prog 48 [.pointer (some ⟨O,0,none⟩),sV Al].toArray w (Ret w [] fun τ v _=>Tf τ 101 11 v r.length (r.flatMap Dk.enc)):=by
 obtain ⟨u1,u2,rfl,hs1,⟨u3,rfl,hs2⟩⟩:=Bu
 replace Ao : (view w []) O = some (.cells [u1.val,u3.val,iV Ae.Table.Relay,iV Ae.Table.Most,iV Ae.Final.Size,iV Ae.Final.Many,iV Ae.Final.Reserves,Ak].toArray 112 (0,0)):=Ao
 refine Fe func48 rfl ntmps48 rfl fun a S=>?_
 unfold Ox at h
 replace S:=S.k2 0 1 rfl
 refine Fr (Vk S rfl rfl fun a S=>Dz (OS (κ:=ByteArray) (ν:=Dk) S rfl Value.string (fun x=>Value.agg (Dk.enc x).toArray) ?_));clear S;intro a w1 b1 hz1 hk1 S
 refine Va S rfl rfl fun a S=>Dl (Fs (Fr (Vm S rfl rfl fun a S=>Vu S Lb rfl rfl fun a S=>Vf ET S rfl rfl fun a S=>lv S (Hm isAgg34 (off:=0) (o:=7) (S.tm rfl) ((Ru Ao).at S.emb0) rfl) rfl fun a S=>lv S (Fq Nj (S.tm rfl) (Fj Bb)) rfl ?_)));clear S;intro a S
 refine lv S (Rm rfl) rfl fun a S=>Dl ?_
 replace S:=(S.nl [.map b1 (Jd Value.string (fun x=>Value.agg (Dk.enc x).toArray) ([] : List (ByteArray × Dk)) ([] : List Nat)) 0] [true] rfl).k5 1 5 15 16 17 rfl
 obtain ⟨j1,hj1,h⟩:=Ep h
 refine Eg (fun a w'=>∃ x1 : List (ByteArray × Dk),∃ bs1 : List Nat,∃ ck1 : Nat,j1 x1 = some r ∧ Ub x1.length bs1 ck1 ∧ Sx w [] nov [.map b1 (Jd Value.string (fun x=>Value.agg (Dk.enc x).toArray) x1 bs1) ck1] [(5,.map (some b1))] 52 a w') ?_ ?_
 ·refine wp_block (Gx (fun (ys1 : List Dk) a w'=>∃ i1 : Nat,∃ x1 : List (ByteArray × Dk),∃ bs1 : List Nat,∃ ck1 : Nat,(∃ dn,Ai = dn ++ ys1 ∧ dn.length = i1) ∧ Lk Al j1 ys1 i1 x1 = some r ∧ Ub x1.length bs1 ck1 ∧ Sx w [] nov [.map b1 (Jd Value.string (fun x=>Value.agg (Dk.enc x).toArray) x1 bs1) ck1] [(1,sV Al),(5,.map (some b1)),(15,Ak),(16,iV (Ai.length : Int)),(17,iV (i1 : Int))] 52 a w') List.length Ai ⟨0,([] : List (ByteArray × Dk)),([] : List Nat),0,⟨[],rfl,rfl⟩,h,(SP (κ:=ByteArray) (ν:=Dk)),S.nf [true] rfl (subR rfl)⟩ ?_)
  clear S h;rintro ys1 a w2 ⟨i1,x1,bs1,ck1,⟨dn,hd1,hi1⟩,h,hB1,S⟩
  cases ys1 with
  | nil =>
   rw [Lk.eq_1] at h
   refine Fr (Vb S Et rfl rfl rfl fun a S=>Ld ?_)
   replace S:=S.k6 1 5 15 16 17 18 rfl
   exact Tn (Fs (wp_cond_false ((S.tm rfl).trans (congrArg Value.bool (Il hd1 hi1))) (wp_exit (Ed (Ed (Gp (Tn (⟨x1,bs1,ck1,h,hB1,S.nf [true] rfl ⟨rfl,trivial⟩⟩))))))))
  | cons y1 ys1 =>
   rw [Lk.eq_2] at h
   refine Fr (Vb S Et rfl rfl rfl fun a S=>Ld ?_)
   replace S:=S.k6 1 5 15 16 17 18 rfl
   refine Tn (Fs (wp_cond_true ((S.tm rfl).trans (congrArg Value.bool (Ht hd1 hi1))) (wp_skip (Tn (Fs ?_)))))
   obtain ⟨j2,hj2,h⟩:=Ep h
   refine Eg (fun a w'=>∃ x2 : List (ByteArray × Dk),∃ bs2 : List Nat,∃ ck2 : Nat,j2 x2 = some r ∧ Ub x2.length bs2 ck2 ∧ Sx w [] nov [.map b1 (Jd Value.string (fun x=>Value.agg (Dk.enc x).toArray) x2 bs2) ck2] [(1,sV Al),(5,.map (some b1)),(15,Ak),(16,iV (Ai.length : Int)),(17,iV (i1 : Int))] 52 a w') ?_ ?_
   ·refine wp_block (Fs (Fg ?_))
    obtain ⟨b2,o1,hm1,hr1⟩:=Ev (a:=a) (x:=.tmp 15) (y:=.tmp 17) (ty:=0) Nj Bb (Io hd1 hi1) rfl (S.tm rfl) (S.tm rfl)
    refine lv S (hr1 _) rfl ?_;clear S;intro a S
    clear hr1
    refine lv S (Fp isAgg101 sizeOf101 (off:=o1) (o:=0) (part:=(Dk.enc y1)) rfl rfl (S.tm rfl) (hm1.at S.emb0)) rfl fun a S=>Hs S zeroValue101 (cs:=[sV An,iV 0,iV 0,iV 0,sV An,sV An,sV An,iV 0,iV 0,sV An,iV 0]) rfl rfl ?_;clear S;intro a w5 b3 hz2 hk2 S
    refine Ex S (S.tm rfl) (S.tm rfl) (i:=0) (off:=0) rfl sizeOf101 (vs:=(Dk.enc y1)) rfl rfl rfl rfl ?_;clear S;intro w6 hk3 S
    refine Dl (Fs (Fr (Vf Re S rfl rfl fun a S=>Vl isAgg9 0 S rfl rfl rfl rfl fun a S=>Vm S rfl rfl fun a S=>Vb S CE rfl rfl rfl fun a S=>Dl ?_)))
    refine Fc h (S.tm rfl) (fun hb1 h=>?_) (fun hb1 h=>?_)
    ·exact wp_exit (Ed (Gp (Tn (⟨x1,bs1,ck1,h,hB1,S.nf [false,true] rfl (subR rfl)⟩))))
    ·refine wp_skip (Tn (Fr (Vf Ok S rfl rfl fun a S=>Vl isAgg3 0 S rfl rfl rfl rfl fun a S=>Ld ?_)))
     replace S:=(S.nl [.blk b3 (Dk.enc y1) 101,.map b1 (Jd Value.string (fun x=>Value.agg (Dk.enc x).toArray) x1 bs1) ck1] [true,true] rfl).k7 1 5 7 15 16 17 26 rfl
     refine Tn ?_
     obtain ⟨j3,hj3,h⟩:=Ep h
     refine Eg (fun a w'=>∃ x3 : List (ByteArray × Dk),∃ bs3 : List Nat,∃ ck3 : Nat,j3 x3 = some r ∧ Ub x3.length bs3 ck3 ∧ Sx w [] nov [.blk b3 (Dk.enc y1) 101,.map b1 (Jd Value.string (fun x=>Value.agg (Dk.enc x).toArray) x3 bs3) ck3] [(1,sV Al),(5,.map (some b1)),(15,Ak),(16,iV (Ai.length : Int)),(17,iV (i1 : Int))] 52 a w') ?_ ?_
     ·refine wp_block (Fr (Vq S Im rfl rfl rfl fun a S=>Va S rfl rfl fun a S=>Dl ?_))
      obtain ⟨j4,hj4,h⟩:=Ep h
      refine Eg (fun a w'=>∃ x4 : List (ByteArray × Dk),∃ bs4 : List Nat,∃ ck4 : Nat,j4 x4 = some r ∧ Ub x4.length bs4 ck4 ∧ Sx w [] nov [.blk b3 (Dk.enc y1) 101,.map b1 (Jd Value.string (fun x=>Value.agg (Dk.enc x).toArray) x4 bs4) ck4] [(1,sV Al),(5,.map (some b1)),(15,Ak),(16,iV (Ai.length : Int)),(17,iV (i1 : Int))] 52 a w') ?_ ?_
      ·refine Fc h (S.tm rfl) (fun hb2 h=>?_) (fun hb2 h=>?_)
       ·refine Fg (Vm S rfl rfl fun a S=>Vf Mq S rfl rfl fun a S=>Vl isAgg9 0 S rfl rfl rfl rfl fun a S=>lv S (Fp isAgg101 sizeOf101 (off:=0) (o:=0) (part:=(Dk.enc y1)) rfl rfl (S.tm rfl) (S.cellsAt (i:=0) rfl)) rfl fun a S=>LJ (kv:=Value.string) (vv:=(fun x=>Value.agg (Dk.enc x).toArray)) (m:=x1) (key:=y1.Who) (val:=y1) S (i:=1) rfl hB1 underlying113 (Mx underlying9) (S.tm rfl) (S.tm rfl) (S.tm rfl) ?_);clear S;intro w9 bs5 ck5 hB5 hk4 S
        exact Dl (⟨(Gl x1 y1.Who y1),bs5,ck5,h,hB5,S.nf [true,true] rfl (subR rfl)⟩)
       ·refine Fr (Vq S Im rfl rfl rfl fun a S=>Va S rfl rfl fun a S=>Dl ?_)
        obtain ⟨j5,hj5,h⟩:=Ep h
        refine Eg (fun a w'=>∃ x5 : List (ByteArray × Dk),∃ bs6 : List Nat,∃ ck6 : Nat,j5 x5 = some r ∧ Ub x5.length bs6 ck6 ∧ Sx w [] nov [.blk b3 (Dk.enc y1) 101,.map b1 (Jd Value.string (fun x=>Value.agg (Dk.enc x).toArray) x5 bs6) ck6] [(1,sV Al),(5,.map (some b1)),(15,Ak),(16,iV (Ai.length : Int)),(17,iV (i1 : Int))] 52 a w') ?_ ?_
        ·refine Fc h (S.tm rfl) (fun hb3 h=>?_) (fun hb3 h=>?_)
         ·refine Fg (Vm S rfl rfl fun a S=>Vf Mq S rfl rfl fun a S=>Vl isAgg9 0 S rfl rfl rfl rfl fun a S=>SQ (kv:=Value.string) (vv:=(fun x=>Value.agg (Dk.enc x).toArray)) (m:=x1) (key:=y1.Who) S (i:=1) rfl hB1 rfl underlying113 (Mx underlying9) (S.tm rfl) (S.tm rfl) ?_);clear S;intro w11 bs7 ck7 hB7 hk5 S
          exact Dl (⟨(AP x1 y1.Who),bs7,ck7,h,hB7,S.nf [true,true] rfl (subR rfl)⟩)
         ·exact wp_skip (Tn (⟨x1,bs1,ck1,h,hB1,S.nf [true,true] rfl (subR rfl)⟩))
        clear S h;rintro a w10 ⟨x5,bs6,ck6,h,hB6,S⟩;rw [hj5] at h;clear hj5 j5
        exact Tn (⟨x5,bs6,ck6,h,hB6,S.nf [true,true] rfl (subR rfl)⟩)
      clear S h;rintro a w8 ⟨x4,bs4,ck4,h,hB4,S⟩;rw [hj4] at h;clear hj4 j4
      exact Ho (Tn (⟨x4,bs4,ck4,h,hB4,S.nf [true,true] rfl (subR rfl)⟩))
     clear S h;rintro a w7 ⟨x3,bs3,ck3,h,hB3,S⟩;rw [hj3] at h;clear hj3 j3
     exact Ho (Tn (⟨x3,bs3,ck3,h,hB3,S.nf [false,true] rfl (subR rfl)⟩))
   clear S h;rintro a w4 ⟨x2,bs2,ck2,h,hB2,S⟩;rw [hj2] at h;clear hj2 j2
   exact Tn (Fg (Vq S Gc rfl rfl rfl fun a S=>Vm S rfl rfl fun a S=>Dl (⟨ys1,⟨i1 + 1,x2,bs2,ck2,⟨_,(hd1).trans (List.append_cons _ _ _),by simp [hi1]⟩,h,hB2,S.nf [true] rfl ⟨rfl,rfl,rfl,rfl,(congrArg (fun z=>some (Value.int .i64 z)) (Hu hd1 hi1 (Iz Bb))),trivial⟩⟩,Nat.lt_succ_self _⟩)))
 clear S h;rintro a w3 ⟨x1,bs1,ck1,h,hB1,S⟩;rw [hj1] at h;clear hj1 j1
 refine Tn (Fr (Vk S rfl rfl ?_));clear S;intro a S
 replace S:=S.nil 101 11
 refine Dl (Fs (Fr (Vm S rfl rfl fun a S=>l_range (es:=Jd Value.string (fun x=>Value.agg (Dk.enc x).toArray) x1 bs1) (clk:=ck1) S (S.map_at (i:=1) rfl) underlying113 (S.tm rfl) rfl ?_)));clear S;intro a w12 b4 hz3 hk6 S
 refine Dl ?_
 replace S:=(S.nl [.iter b4 b1 ck1 #[] ck1,.own (.slice none 0 0) 101 11 ([] : List Dk).length (([] : List Dk).flatMap Dk.enc),.map b1 (Jd Value.string (fun x=>Value.agg (Dk.enc x).toArray) x1 bs1) ck1] [true,true,true] rfl).k2 8 40 rfl
 obtain ⟨j6,hj6,h⟩:=Ep h
 replace h:=allE h
 refine Eg (fun a w'=>∃ x6 : List Dk,∃ v1 : Value,j6 x6 = some r ∧ Sx w [] nov [.own v1 101 11 x6.length (x6.flatMap Dk.enc),.map b1 (Jd Value.string (fun x=>Value.agg (Dk.enc x).toArray) x1 bs1) ck1] [(8,v1)] 52 a w') ?_ ?_
 ·refine wp_block (Gx (fun (q : List (ByteArray × Dk)) a w'=>∃ x6 : List Dk,∃ v1 : Value,∃ sn1 : Array Nat,DD x1 bs1 sn1 = q ∧ (∀ p,p.Perm q → Mj j6 p x6 = some r) ∧ Sx w [] nov [.iter b4 b1 ck1 sn1 ck1,.own v1 101 11 x6.length (x6.flatMap Dk.enc),.map b1 (Jd Value.string (fun x=>Value.agg (Dk.enc x).toArray) x1 bs1) ck1] [(8,v1),(40,.pointer (some ⟨b4,0,none⟩))] 52 a w') List.length x1 ⟨([] : List Dk),(.slice none 0 0),#[],(leftB_0 hB1),h,S.nf [true,true,true] rfl (subR rfl)⟩ ?_)
  clear S h;rintro q a w13 ⟨x6,v1,sn1,hq,h,S⟩
  refine Fr (l_nextB (kv:=Value.string) (vv:=(fun x=>Value.agg (Dk.enc x).toArray)) (m:=x1) S (i:=0) rfl (S.map_at (i:=2) rfl) hB1 (S.tm rfl) rfl ?_ ?_)
  ·intro hn1;clear S;intro a S
   replace h:=TV h (hq.symm.trans hn1)
   rw [Mj.eq_1] at h
   refine Vq S Gb rfl rfl rfl fun a S=>Ld ?_
   replace S:=S.k3 8 40 42 rfl
   exact Tn (Fs (wp_cond_false (S.tm rfl) (wp_exit (Ed (Ed (Gp (Tn (⟨x6,v1,h,S.nf [false,true,true] rfl ⟨rfl,trivial⟩⟩))))))))
  ·clear S;intro y2 sn2 a w15 hp1 hl1 hk7 S
   obtain ⟨sq1,h,hn2⟩:=SJ h (by rw [← hq];exact hp1) (fun _=>rfl)
   refine Vq S Gb rfl rfl rfl fun a S=>Ld ?_
   replace S:=(S.nl [.iter b4 b1 ck1 sn2 ck1,.own v1 101 11 x6.length (x6.flatMap Dk.enc),.map b1 (Jd Value.string (fun x=>Value.agg (Dk.enc x).toArray) x1 bs1) ck1] [true,true,true] rfl).k3 8 40 42 rfl
   refine Tn (Fs (wp_cond_true (S.tm rfl) (wp_skip (Tn (wp_block (Fr (lv S (SR (kv:=Value.string) (vv:=(fun x=>Value.agg (Dk.enc x).toArray)) (m:=x1) (e:=y2) (S.holds _ (List.mem_of_getElem? (i:=0) rfl)) (S.map_at (i:=2) rfl) hB1 hl1 (S.tm rfl)) rfl fun a S=>Vq S Gb rfl rfl rfl fun a S=>Hs S zeroValue101 (cs:=[sV An,iV 0,iV 0,iV 0,sV An,sV An,sV An,iV 0,iV 0,sV An,iV 0]) rfl rfl ?_)))))));clear S;intro a w16 b5 hz4 hk8 S
   refine Ex S (S.tm rfl) (S.tm rfl) (i:=0) (off:=0) rfl sizeOf101 (vs:=(Dk.enc y2.2)) rfl rfl rfl rfl ?_;clear S;intro w17 hk9 S
   refine Dl (Fg (Vm S rfl rfl fun a S=>lv S (Fp isAgg101 sizeOf101 (off:=0) (o:=0) (part:=(Dk.enc y2.2)) rfl rfl (S.tm rfl) (S.cellsAt (i:=0) rfl)) rfl fun a S=>Er S underlying34 sizeOf101 zeroValue101 rfl rfl (pv:=[(0,.agg (Dk.enc y2.2).toArray)]) ⟨rfl,(S.tm rfl),trivial⟩ (cs:=[sV y2.2.Site,iV y2.2.No,iV y2.2.At,iV y2.2.Kind,sV y2.2.Who,sV y2.2.Club,sV y2.2.Race,iV y2.2.Time,iV y2.2.Fault,sV y2.2.Of,iV y2.2.Other]) (by kernel_rfl) rfl ?_));clear S;intro a w18 b6 hz5 hk10 S
   obtain ⟨hc1,h⟩:=Ie h
   refine Ms Nj Dk.enc_ok S (S.tm rfl) (i:=3) rfl (S.tm rfl) (j:=0) rfl (ys:=[y2.2]) rfl rfl rfl rfl (by have:=Nd hc1;omega) rfl ?_;clear S;intro v2 a w19 hk11 S
   refine Va S rfl rfl fun a S=>Ld (Ho (Tn ?_))
   obtain rfl:=Option.some.inj h
   exact ⟨DD x1 bs1 sn2,⟨(x6 ++ [y2.2]),v2,sn2,rfl,hn2,S.nf [false,false,true,true,true] rfl (subR rfl)⟩,by have:=hp1.length_eq;rw [hq] at this;simp only [List.length_cons] at this;omega⟩
 clear S h;rintro a w14 ⟨x6,v1,h,S⟩;rw [hj6] at h;clear hj6 j6
 refine Tn (Fr (Vm S rfl rfl ?_));clear S;intro a S
 obtain ⟨r1,hr2,h⟩:=Fa h
 refine Pd 0 S rfl (fun _=>.own v1 101 11 r1.length (r1.flatMap Dk.enc)) (fun _=>Dp (vs:=[v1,.func (.func 84) #[] #[]]) ⟨(S.tm rfl),rfl,trivial⟩ call83) (Sz _ v1 x6 (S.holds _ (List.mem_of_getElem? (i:=0) rfl)) _ hr2) rfl (fun _ _ _ h=>⟨h.1,fun _ hc=>hc⟩) ?_;clear S;intro v3 a w20 hv1 hk12 hn3 S
 replace hv1:=hv1.2
 subst hv1
 refine Dz (Vm S rfl rfl fun a S=>Va S rfl rfl fun a S=>Dl (wp_ret ?_))
 obtain rfl:=Option.some.inj h
 exact Ej S results48 rfl (Th S (i:=0) rfl rfl)
theorem DI (w : World) (O : Nat) (Ae : Iw) (Bi : R32) (Bu : Rk (view w []) Ae Bi) (Ak : Value) (Ai : List Dk) (Bb : Slc (view w []) 11 Ak (Ai.map Dk.enc)) (Ao : (view w []) O = some (.cells (R32.enc Bi ++ [Ak]).toArray 112 (0,0))) (Bt : ByteArray) (r : Dy × Int) (h : Wh Ae Ai Bt = some r) :
    Calls prog 49 [.pointer (some ⟨O,0,none⟩),sV Bt].toArray w (Ret w [] fun _ v _=>v = .tuple #[.agg (Dy.enc r.1).toArray,iV r.2]):=by
 obtain ⟨u1,u2,rfl,hs1,⟨u3,rfl,hs2⟩⟩:=Bu
 replace Ao : (view w []) O = some (.cells [u1.val,u3.val,iV Ae.Table.Relay,iV Ae.Table.Most,iV Ae.Final.Size,iV Ae.Final.Many,iV Ae.Final.Reserves,Ak].toArray 112 (0,0)):=Ao
 refine Fe func49 rfl ntmps49 rfl fun a S=>?_
 unfold Wh at h
 replace S:=S.k2 0 1 rfl
 refine Fr (Mn S (S.tm rfl) (cs:=[sV Bt]) rfl rfl ?_);clear S;intro a w1 b1 hz1 hk1 S
 refine Hs S zeroValue42 (cs:=[sV An,iV 0,iV 0,iV 0,iV 0,iV 0,iV 0,iV 0]) rfl rfl ?_;clear S;intro a w2 b2 hz2 hk2 S
 refine Vk S rfl rfl fun a S=>Dz (Vm S rfl rfl fun a S=>Vu S Lb rfl rfl fun a S=>Vf BJ S rfl rfl fun a S=>Vf Xo S rfl rfl fun a S=>lv S (Hm isAgg26 (off:=0) (o:=0) (S.tm rfl) ((Ru Ao).at S.emb0) rfl) rfl fun a S=>lv S (Tg (us:=#[]) (xs:=[].toArray) (ys:=[.tmp 3].toArray) (by simp) (evA ⟨(S.tm rfl),trivial⟩ (vs:=[.pointer (some ⟨b1,0,none⟩)]))) rfl ?_);clear S;intro a S
 refine Dw S (fun _=>Dp (vs:=[u1.val,.func (.func 86) #[] #[.pointer (some ⟨b1,0,none⟩)]]) ⟨(S.tm rfl),(S.tm rfl),trivial⟩ call85) (Tr _ u1.val Ae.Races (hs1.mono (S.le_arg Ec)) b1 Bt (S.blk_view (i:=1) rfl ((Ia (e':=.blk b1 [sV Bt] 9)) _ rfl)) _ rfl) rfl ?_;clear S;intro v1 a w3 hv1 hk3 hn1 S
 subst hv1
 refine Va S rfl rfl fun a S=>Dl (Fs (Fr (Vm S rfl rfl fun a S=>Vq S Et rfl rfl rfl fun a S=>Ld ?_)))
 replace S:=(S.nl [.blk b2 (Dy.enc (Dy.mk An 0 0 0 0 0 0 0)) 42,.blk b1 [sV Bt] 9] [true,true] rfl).k5 0 3 4 6 15 rfl
 refine Tn (Fc h (S.tm rfl) (fun hb1 h=>?_) (fun hb1 h=>?_))
 ·refine Fr (lv S (Mr QV (pv:=[]) trivial (cs:=[sV An,iV 0,iV 0,iV 0,iV 0,iV 0,iV 0,iV 0]) (by kernel_rfl)) rfl fun a S=>Ex S (S.tm rfl) (S.tm rfl) (i:=0) (off:=0) rfl sizeOf42 (vs:=(Dy.enc (Dy.mk An 0 0 0 0 0 0 0))) rfl rfl rfl rfl ?_);clear S;intro w4 hk4 S
  refine Vk S rfl rfl fun a S=>Dl (wp_ret (Dt ?_))
  obtain rfl:=Option.some.inj h
  exact Xw S (rs:=[.cell 4 42,.tmp 5]) (vs:=[.agg (Dy.enc (Dy.mk An 0 0 0 0 0 0 0)).toArray,iV 8]) results49 ⟨(Ti (off:=0) S rfl isAgg42 sizeOf42 rfl (S.cellsAt (i:=0) rfl)),(Zt S rfl),trivial⟩ rfl rfl
 ·refine wp_skip (Tn (Fs (Fr (Vm S rfl rfl fun a S=>Vl isAgg9 1 S rfl rfl rfl rfl ?_))));clear S;intro a S
  obtain ⟨r1,hr1,h⟩:=Fa h
  have hz3:=S.keep.size
  refine Dw S (fun _=>Dp (vs:=[.pointer (some ⟨O,0,none⟩),sV Bt]) ⟨(S.tm rfl),(S.tm rfl),trivial⟩ call48) (Tz _ O Ae (R32.mk u1 (R28.mk u3 Ae.Table.Relay Ae.Table.Most) Ae.Final) ⟨u1,(R28.mk u3 Ae.Table.Relay Ae.Table.Most),rfl,(hs1.mono (S.le_arg Ec)),⟨u3,rfl,(hs2.mono (S.le_arg Ec))⟩⟩ Ak Ai (Bb.mono (S.le_arg Ec)) ((S.le_arg Ec) _ _ Ao) Bt _ hr1) rfl ?_;clear S;intro v2 a w5 hv2 hk5 hn2 S
  obtain ⟨φ1,hl1,hm1,S⟩:=S.see' hn2 hz3
  have hs3:=hv2.mono hm1
  refine lv S (Fq Nj (S.tm rfl) (Fj (Ga Dk.enc_ok hs3))) rfl fun a S=>Vq S It rfl rfl rfl fun a S=>Dl (Fc h (S.tm rfl) (fun hb2 h=>?_) (fun hb2 h=>?_))
  ·refine Fr (lv S (Mr QV (pv:=[]) trivial (cs:=[sV An,iV 0,iV 0,iV 0,iV 0,iV 0,iV 0,iV 0]) (by kernel_rfl)) rfl fun a S=>Ex S (S.tm rfl) (S.tm rfl) (i:=0) (off:=0) rfl sizeOf42 (vs:=(Dy.enc (Dy.mk An 0 0 0 0 0 0 0))) rfl rfl rfl rfl ?_);clear S;intro w6 hk6 S
   refine Vk S rfl rfl fun a S=>Dl (wp_ret (Dt ?_))
   obtain rfl:=Option.some.inj h
   exact Xw S (rs:=[.cell 4 42,.tmp 5]) (vs:=[.agg (Dy.enc (Dy.mk An 0 0 0 0 0 0 0)).toArray,iV 2]) results49 ⟨(Ti (off:=0) S rfl isAgg42 sizeOf42 rfl (S.cellsAt (i:=0) rfl)),(Zt S rfl),trivial⟩ rfl rfl
  ·refine wp_skip (Tn (Fr (Vm S rfl rfl fun a S=>Vu S Lb rfl rfl fun a S=>Vf BJ S rfl rfl fun a S=>Vf Xo S rfl rfl fun a S=>lv S (Hm isAgg26 (off:=0) (o:=0) (S.tm rfl) ((Ru Ao).at S.emb0) rfl) rfl fun a S=>Vm S rfl rfl ?_)));clear S;intro a S
   obtain ⟨hc1,h⟩:=Ie h
   obtain ⟨b3,o1,hm2,hr2⟩:=Ev (a:=a) (x:=.tmp 27) (y:=.tmp 28) (ty:=0) Un hs1 (Dx hc1).1 (Dx hc1).2 (S.tm rfl) (S.tm rfl)
   refine lv S (hr2 _) rfl ?_;clear S;intro a S
   clear hr2
   refine lv S (Fp isAgg42 sizeOf42 (off:=o1) (o:=0) (part:=(Dy.enc (nth Ae.Races (Gh Ae.Races Bt)))) rfl rfl (S.tm rfl) (hm2.at S.emb0)) rfl fun a S=>Ex S (S.tm rfl) (S.tm rfl) (i:=0) (off:=0) rfl sizeOf42 (vs:=(Dy.enc (nth Ae.Races (Gh Ae.Races Bt)))) rfl rfl rfl rfl ?_;clear S;intro w7 hk7 S
   refine Vk S rfl rfl fun a S=>Ld ?_
   replace S:=(S.nl [.blk b2 (Dy.enc (nth Ae.Races (Gh Ae.Races Bt))) 42] [true,false] rfl).k2 4 5 rfl
   refine Tn (wp_ret ?_)
   obtain rfl:=Option.some.inj h
   exact Xw S (rs:=[.cell 4 42,.tmp 5]) (vs:=[.agg (Dy.enc (nth Ae.Races (Gh Ae.Races Bt))).toArray,iV 0]) results49 ⟨(Ti (off:=0) S rfl isAgg42 sizeOf42 rfl (S.cellsAt (i:=0) rfl)),(Zt S rfl),trivial⟩ rfl rfl
theorem MA (w : World) (O : Nat) (Ae : Iw) (Bi : R32) (Bu : Rk (view w []) Ae Bi) (Ak : Value) (Ai : List Dk) (Bb : Slc (view w []) 11 Ak (Ai.map Dk.enc)) (Ao : (view w []) O = some (.cells (R32.enc Bi ++ [Ak]).toArray 112 (0,0))) (r : Int) (h : Zb Ae Ai = some r) :
    Calls prog 46 [.pointer (some ⟨O,0,none⟩)].toArray w (Ret w [] fun _ v _=>v = iV r):=by
 obtain ⟨u1,u2,rfl,hs1,⟨u3,rfl,hs2⟩⟩:=Bu
 replace Ao : (view w []) O = some (.cells [u1.val,u3.val,iV Ae.Table.Relay,iV Ae.Table.Most,iV Ae.Final.Size,iV Ae.Final.Many,iV Ae.Final.Reserves,Ak].toArray 112 (0,0)):=Ao
 refine Fe func46 rfl ntmps46 rfl fun a S=>?_
 unfold Zb at h
 replace S:=S.k1 0 rfl
 refine Fr (Vk S rfl rfl fun a S=>Dl (Fs (Fr (Vm S rfl rfl fun a S=>Vu S Lb rfl rfl fun a S=>Vf BJ S rfl rfl ?_))));clear S;intro a S
 refine Vf Xo S rfl rfl fun a S=>lv S (Hm isAgg26 (off:=0) (o:=0) (S.tm rfl) ((Ru Ao).at S.emb0) rfl) rfl fun a S=>lv S (Fq Un (S.tm rfl) (Fj hs1)) rfl fun a S=>lv S (Rm rfl) rfl fun a S=>Dl ?_
 replace S:=S.k4 0 11 12 13 rfl
 obtain ⟨j1,hj1,h⟩:=Ep h
 refine Eg (fun a w'=>j1 = some r ∧ Sx w [] nov [] [] 28 a w') ?_ ?_
 ·refine wp_block (Gx (fun (ys1 : List Dy) a w'=>∃ i1 : Nat,(∃ dn,Ae.Races = dn ++ ys1 ∧ dn.length = i1) ∧ Oy Ae Ai j1 ys1 i1 = some r ∧ Sx w [] nov [] [(0,.pointer (some ⟨O,0,none⟩)),(11,u1.val),(12,iV (Ae.Races.length : Int)),(13,iV (i1 : Int))] 28 a w') List.length Ae.Races ⟨0,⟨[],rfl,rfl⟩,h,S.nf [] rfl (subR rfl)⟩ ?_)
  clear S h;rintro ys1 a w1 ⟨i1,⟨dn,hd1,hi1⟩,h,S⟩
  cases ys1 with
  | nil =>
   rw [Oy.eq_1] at h
   refine Fr (Vb S Et rfl rfl rfl fun a S=>Ld ?_)
   replace S:=S.k5 0 11 12 13 14 rfl
   exact Tn (Fs (wp_cond_false ((S.tm rfl).trans (congrArg Value.bool (Il hd1 hi1))) (wp_exit (Ed (Ed (Gp (Tn (⟨h,S.nf [] rfl trivial⟩))))))))
  | cons y1 ys1 =>
   rw [Oy.eq_2] at h
   refine Fr (Vb S Et rfl rfl rfl fun a S=>Ld ?_)
   replace S:=S.k5 0 11 12 13 14 rfl
   refine Tn (Fs (wp_cond_true ((S.tm rfl).trans (congrArg Value.bool (Ht hd1 hi1))) (wp_skip (Tn (Fs (wp_block (Fs (Fg ?_))))))))
   obtain ⟨b1,o1,hm1,hr1⟩:=Ev (a:=a) (x:=.tmp 11) (y:=.tmp 13) (ty:=0) Un hs1 (Io hd1 hi1) rfl (S.tm rfl) (S.tm rfl)
   refine lv S (hr1 _) rfl ?_;clear S;intro a S
   clear hr1
   refine lv S (Fp isAgg42 sizeOf42 (off:=o1) (o:=0) (part:=(Dy.enc y1)) rfl rfl (S.tm rfl) (hm1.at S.emb0)) rfl fun a S=>Hs S zeroValue42 (cs:=[sV An,iV 0,iV 0,iV 0,iV 0,iV 0,iV 0,iV 0]) rfl rfl ?_;clear S;intro a w3 b2 hz1 hk1 S
   refine Ex S (S.tm rfl) (S.tm rfl) (i:=0) (off:=0) rfl sizeOf42 (vs:=(Dy.enc y1)) rfl rfl rfl rfl ?_;clear S;intro w4 hk2 S
   refine Dz (Vm S rfl rfl fun a S=>Vf Tx S rfl rfl fun a S=>Vl isAgg9 0 S rfl rfl rfl rfl ?_);clear S;intro a S
   obtain ⟨r1,hr2,h⟩:=Fa h
   refine Dw S (fun _=>Dp (vs:=[.pointer (some ⟨O,0,none⟩),sV y1.Key]) ⟨(S.tm rfl),(S.tm rfl),trivial⟩ call49) (DI _ O Ae (R32.mk u1 (R28.mk u3 Ae.Table.Relay Ae.Table.Most) Ae.Final) ⟨u1,(R28.mk u3 Ae.Table.Relay Ae.Table.Most),rfl,(hs1.mono (S.le_arg Ec)),⟨u3,rfl,(hs2.mono (S.le_arg Ec))⟩⟩ Ak Ai (Bb.mono (S.le_arg Ec)) ((S.le_arg Ec) _ _ Ao) y1.Key _ hr2) rfl ?_;clear S;intro v1 a w5 hv1 hk3 hn1 S
   subst hv1
   refine Vm S rfl rfl fun a S=>Vq S Gb rfl rfl rfl fun a S=>Vq S Gb rfl rfl rfl fun a S=>Hs S zeroValue42 (cs:=[sV An,iV 0,iV 0,iV 0,iV 0,iV 0,iV 0,iV 0]) rfl rfl ?_;clear S;intro a w6 b3 hz2 hk4 S
   refine Ex S (S.tm rfl) (S.tm rfl) (i:=0) (off:=0) rfl sizeOf42 (vs:=(Dy.enc r1.1)) rfl rfl rfl rfl ?_;clear S;intro w7 hk5 S
   refine Va S rfl rfl fun a S=>Ld ?_
   replace S:=S.n0.k5 0 6 11 12 13 rfl
   refine Tn (Fr (Vm S rfl rfl fun a S=>Vq S Kw rfl rfl rfl fun a S=>Dl (Fc h (S.tm rfl) (fun hb1 h=>?_) (fun hb1 h=>?_))))
   ·refine Fr (Vm S rfl rfl fun a S=>Va S rfl rfl fun a S=>Dl (wp_ret (Fl (Dt (Dt (Fl ?_))))))
    refine Dt (Dt ?_)
    obtain rfl:=Option.some.inj h
    exact Ej S results46 rfl rfl
   ·exact wp_skip (Ho (Tn (Fg (Vq S Gc rfl rfl rfl fun a S=>Vm S rfl rfl fun a S=>Dl (⟨ys1,⟨i1 + 1,⟨_,(hd1).trans (List.append_cons _ _ _),by simp [hi1]⟩,h,S.nf [] rfl ⟨rfl,rfl,rfl,(congrArg (fun z=>some (Value.int .i64 z)) (Hu hd1 hi1 (Iz hs1))),trivial⟩⟩,Nat.lt_succ_self _⟩)))))
 clear S h;rintro a w2 ⟨h,S⟩;rw [hj1] at h;clear hj1 j1
 refine Tn (Fr (Vk S rfl rfl fun a S=>Dl (wp_ret ?_)))
 obtain rfl:=Option.some.inj h
 exact Ej S results46 rfl rfl
theorem DJ (w : World) (O : Nat) (Ae : Iw) (Bi : R32) (Bu : Rk (view w []) Ae Bi) (Ak : Value) (Ai : List Dk) (Bb : Slc (view w []) 11 Ak (Ai.map Dk.enc)) (Ao : (view w []) O = some (.cells (R32.enc Bi ++ [Ak]).toArray 112 (0,0))) (Al : ByteArray) (r : (List (ByteArray × Dk))) (h : Hk Ae Ai Al = r) :
    Calls prog 47 [.pointer (some ⟨O,0,none⟩),sV Al].toArray w (Ret w [] fun τ v _=>∃ b : Nat,v = .map (some b) ∧ τ b = some (.map (Gt Value.string (fun x=>Value.agg (Dk.enc x).toArray) r) r.length)):=by
 obtain ⟨u1,u2,rfl,hs1,⟨u3,rfl,hs2⟩⟩:=Bu
 replace Ao : (view w []) O = some (.cells [u1.val,u3.val,iV Ae.Table.Relay,iV Ae.Table.Most,iV Ae.Final.Size,iV Ae.Final.Many,iV Ae.Final.Reserves,Ak].toArray 112 (0,0)):=Ao
 refine Fe func47 rfl ntmps47 rfl fun a S=>?_
 unfold Hk at h
 replace S:=S.k2 0 1 rfl
 refine Fr (Vk S rfl rfl fun a S=>Dz (Rx (κ:=ByteArray) (ν:=Dk) S rfl Value.string (fun x=>Value.agg (Dk.enc x).toArray) ?_));clear S;intro a w1 b1 hz1 hk1 S
 refine Va S rfl rfl fun a S=>Dl (Fs (Fr (Vm S rfl rfl fun a S=>Vu S Lb rfl rfl fun a S=>Vf ET S rfl rfl fun a S=>lv S (Hm isAgg34 (off:=0) (o:=7) (S.tm rfl) ((Ru Ao).at S.emb0) rfl) rfl fun a S=>lv S (Fq Nj (S.tm rfl) (Fj Bb)) rfl ?_)));clear S;intro a S
 refine lv S (Rm rfl) rfl fun a S=>Dl ?_
 replace S:=(S.nl [.map b1 (Gt Value.string (fun x=>Value.agg (Dk.enc x).toArray) ([] : List (ByteArray × Dk))) ([] : List (ByteArray × Dk)).length] [true] rfl).k5 1 5 12 13 14 rfl
 obtain ⟨j1,hj1,h⟩:=Ep h
 refine Eg (fun a w'=>∃ x1 : List (ByteArray × Dk),j1 x1 = r ∧ Sx w [] nov [.map b1 (Gt Value.string (fun x=>Value.agg (Dk.enc x).toArray) x1) x1.length] [(5,.map (some b1))] 33 a w') ?_ ?_
 ·refine wp_block (Gx (fun (ys1 : List Dk) a w'=>∃ i1 : Nat,∃ x1 : List (ByteArray × Dk),(∃ dn,Ai = dn ++ ys1 ∧ dn.length = i1) ∧ Od Al j1 ys1 i1 x1 = r ∧ Sx w [] nov [.map b1 (Gt Value.string (fun x=>Value.agg (Dk.enc x).toArray) x1) x1.length] [(1,sV Al),(5,.map (some b1)),(12,Ak),(13,iV (Ai.length : Int)),(14,iV (i1 : Int))] 33 a w') List.length Ai ⟨0,([] : List (ByteArray × Dk)),⟨[],rfl,rfl⟩,h,S.nf [true] rfl (subR rfl)⟩ ?_)
  clear S h;rintro ys1 a w2 ⟨i1,x1,⟨dn,hd1,hi1⟩,h,S⟩
  cases ys1 with
  | nil =>
   rw [Od.eq_1] at h
   refine Fr (Vb S Et rfl rfl rfl fun a S=>Ld ?_)
   replace S:=S.k6 1 5 12 13 14 15 rfl
   exact Tn (Fs (wp_cond_false ((S.tm rfl).trans (congrArg Value.bool (Il hd1 hi1))) (wp_exit (Ed (Ed (Gp (Tn (⟨x1,h,S.nf [true] rfl ⟨rfl,trivial⟩⟩))))))))
  | cons y1 ys1 =>
   rw [Od.eq_2] at h
   refine Fr (Vb S Et rfl rfl rfl fun a S=>Ld ?_)
   replace S:=S.k6 1 5 12 13 14 15 rfl
   refine Tn (Fs (wp_cond_true ((S.tm rfl).trans (congrArg Value.bool (Ht hd1 hi1))) (wp_skip (Tn (Fs ?_)))))
   obtain ⟨j2,hj2,h⟩:=Ep h
   refine Eg (fun a w'=>∃ x2 : List (ByteArray × Dk),j2 x2 = r ∧ Sx w [] nov [.map b1 (Gt Value.string (fun x=>Value.agg (Dk.enc x).toArray) x2) x2.length] [(1,sV Al),(5,.map (some b1)),(12,Ak),(13,iV (Ai.length : Int)),(14,iV (i1 : Int))] 33 a w') ?_ ?_
   ·refine wp_block (Fs (Fg ?_))
    obtain ⟨b2,o1,hm1,hr1⟩:=Ev (a:=a) (x:=.tmp 12) (y:=.tmp 14) (ty:=0) Nj Bb (Io hd1 hi1) rfl (S.tm rfl) (S.tm rfl)
    refine lv S (hr1 _) rfl ?_;clear S;intro a S
    clear hr1
    refine lv S (Fp isAgg101 sizeOf101 (off:=o1) (o:=0) (part:=(Dk.enc y1)) rfl rfl (S.tm rfl) (hm1.at S.emb0)) rfl fun a S=>Hs S zeroValue101 (cs:=[sV An,iV 0,iV 0,iV 0,sV An,sV An,sV An,iV 0,iV 0,sV An,iV 0]) rfl rfl ?_;clear S;intro a w5 b3 hz2 hk2 S
    refine Ex S (S.tm rfl) (S.tm rfl) (i:=0) (off:=0) rfl sizeOf101 (vs:=(Dk.enc y1)) rfl rfl rfl rfl ?_;clear S;intro w6 hk3 S
    refine Dz (Vf Re S rfl rfl fun a S=>Vl isAgg9 0 S rfl rfl rfl rfl fun a S=>Vm S rfl rfl fun a S=>Vb S Ve rfl rfl rfl fun a S=>Vm S rfl rfl fun a S=>Hn 4 (fun a w'=>Keep [] w6 w' ∧ Sx w [] nov [.blk b3 (Dk.enc y1) 101,.map b1 (Gt Value.string (fun x=>Value.agg (Dk.enc x).toArray) x1) x1.length] [(1,sV Al),(5,.map (some b1)),(7,.pointer (some ⟨b3,0,none⟩)),(12,Ak),(13,iV (Ai.length : Int)),(14,iV (i1 : Int)),(26,bV ((decide (y1.Race = Al)) && (decide (y1.Kind = 3))))] 33 a w') ?_ ?_)
    ·rcases Bool.eq_false_or_eq_true (decide (y1.Race = Al)) with hb1 | hb1
     ·exact Du S rfl rfl rfl hb1 (Vf Ok S rfl rfl fun a S=>Du S rfl rfl rfl hb1 (Vl isAgg3 0 S rfl rfl rfl rfl fun a S=>Du S rfl rfl rfl hb1 (Vq S Im rfl rfl rfl fun a S=>lv S (Hg hb1 (S.tm rfl) (S.tm rfl)) rfl fun a S=>Dl (⟨Keep.refl _ _,S.nf [true,true] rfl (subR rfl)⟩))))
     ·iterate 3 (refine Gn S rfl rfl rfl (Jh hb1) rfl ?_ rfl;clear S;intro a S)
      exact lv S (Hh (decide (y1.Kind = 3)) hb1 (S.tm rfl) rfl) rfl fun a S=>Dl (⟨Keep.refl _ _,S.nf [true,true] rfl (subR rfl)⟩)
    clear S;rintro a w7 ⟨hk4,S⟩
    refine Dl ?_
    obtain ⟨j3,hj3,h⟩:=Ep h
    refine Eg (fun a w'=>∃ x3 : List (ByteArray × Dk),j3 x3 = r ∧ Sx w [] nov [.blk b3 (Dk.enc y1) 101,.map b1 (Gt Value.string (fun x=>Value.agg (Dk.enc x).toArray) x3) x3.length] [(1,sV Al),(5,.map (some b1)),(12,Ak),(13,iV (Ai.length : Int)),(14,iV (i1 : Int))] 33 a w') ?_ ?_
    ·refine Fc h (S.tm rfl) (fun hb2 h=>?_) (fun hb2 h=>?_)
     ·refine Fg (Vm S rfl rfl fun a S=>Vf Mq S rfl rfl fun a S=>Vl isAgg9 0 S rfl rfl rfl rfl fun a S=>lv S (Fp isAgg101 sizeOf101 (off:=0) (o:=0) (part:=(Dk.enc y1)) rfl rfl (S.tm rfl) (S.cellsAt (i:=0) rfl)) rfl fun a S=>Pc (kv:=Value.string) (vv:=(fun x=>Value.agg (Dk.enc x).toArray)) (m:=x1) (key:=y1.Who) (val:=y1) S (i:=1) rfl underlying113 (Mx underlying9) (S.tm rfl) (S.tm rfl) (S.tm rfl) ?_);clear S;intro w9 hk5 S
      exact Dl (⟨(Gl x1 y1.Who y1),h,S.nf [true,true] rfl (subR rfl)⟩)
     ·exact wp_skip (Tn (⟨x1,h,S.nf [true,true] rfl (subR rfl)⟩))
    clear S h;rintro a w8 ⟨x3,h,S⟩;rw [hj3] at h;clear hj3 j3
    exact Ho (Tn (⟨x3,h,S.nf [false,true] rfl (subR rfl)⟩))
   clear S h;rintro a w4 ⟨x2,h,S⟩;rw [hj2] at h;clear hj2 j2
   exact Tn (Fg (Vq S Gc rfl rfl rfl fun a S=>Vm S rfl rfl fun a S=>Dl (⟨ys1,⟨i1 + 1,x2,⟨_,(hd1).trans (List.append_cons _ _ _),by simp [hi1]⟩,h,S.nf [true] rfl ⟨rfl,rfl,rfl,rfl,(congrArg (fun z=>some (Value.int .i64 z)) (Hu hd1 hi1 (Iz Bb))),trivial⟩⟩,Nat.lt_succ_self _⟩)))
 clear S h;rintro a w3 ⟨x1,h,S⟩;rw [hj1] at h;clear hj1 j1
 refine Tn (Fr (Vm S rfl rfl fun a S=>Va S rfl rfl fun a S=>Dl (wp_ret ?_)))
 subst h
 exact Ej S results47 rfl ⟨_,rfl,S.map_ret (i:=0) rfl rfl⟩
theorem FT (w : World) (O : Nat) (Ae : Iw) (Bi : R32) (Bu : Rk (view w []) Ae Bi) (Ak : Value) (Ai : List Dk) (Bb : Slc (view w []) 11 Ak (Ai.map Dk.enc)) (Ao : (view w []) O = some (.cells (R32.enc Bi ++ [Ak]).toArray 112 (0,0))) (r : (List Kj) × Int) (h : Wr Ae Ai = some r) :
    Calls prog 21 [.pointer (some ⟨O,0,none⟩)].toArray w (Ret w [] fun τ v _=>∃ u1 : Value,v = .tuple #[u1,iV r.2] ∧ Tf τ 118 2 u1 r.1.length (r.1.flatMap Kj.enc)):=by
 obtain ⟨u1,u2,rfl,hs1,⟨u3,rfl,hs2⟩⟩:=Bu
 replace Ao : (view w []) O = some (.cells [u1.val,u3.val,iV Ae.Table.Relay,iV Ae.Table.Most,iV Ae.Final.Size,iV Ae.Final.Many,iV Ae.Final.Reserves,Ak].toArray 112 (0,0)):=Ao
 refine Fe func21 rfl ntmps21 rfl fun a S=>?_
 unfold Wr at h
 replace S:=S.k1 0 rfl
 refine Fr (Vk S rfl rfl fun a S=>Vk S rfl rfl fun a S=>Dl (Fs (Fr (Vm S rfl rfl ?_))));clear S;intro a S
 obtain ⟨r1,hr1,h⟩:=Fa h
 refine Dw S (fun _=>Dp (vs:=[.pointer (some ⟨O,0,none⟩)]) ⟨(S.tm rfl),trivial⟩ call46) (MA _ O Ae (R32.mk u1 (R28.mk u3 Ae.Table.Relay Ae.Table.Most) Ae.Final) ⟨u1,(R28.mk u3 Ae.Table.Relay Ae.Table.Most),rfl,(hs1.mono (S.le_arg Ec)),⟨u3,rfl,(hs2.mono (S.le_arg Ec))⟩⟩ Ak Ai (Bb.mono (S.le_arg Ec)) ((S.le_arg Ec) _ _ Ao) _ hr1) rfl ?_;clear S;intro v1 a w1 hv1 hk1 hn1 S
 subst hv1
 refine Va S rfl rfl fun a S=>Dz (Vm S rfl rfl fun a S=>Vq S Kw rfl rfl rfl fun a S=>Dl (Fc h (S.tm rfl) (fun hb1 h=>?_) (fun hb1 h=>?_)))
 ·refine Fr (Vm S rfl rfl fun a S=>Vk S rfl rfl fun a S=>Va S rfl rfl fun a S=>Dl (wp_ret (Dt ?_)))
  obtain rfl:=Option.some.inj h
  exact Lg S results21 rfl rfl ⟨_,rfl,(Qf _ _ _)⟩
 ·refine wp_skip (Tn (Fr (Vk S rfl rfl ?_)));clear S;intro a S
  replace S:=S.nil 118 2
  refine Dl (Fs (Fr (Vm S rfl rfl fun a S=>Vu S Lb rfl rfl fun a S=>Vf BJ S rfl rfl fun a S=>Vf Xo S rfl rfl fun a S=>lv S (Hm isAgg26 (off:=0) (o:=0) (S.tm rfl) ((Ru Ao).at S.emb0) rfl) rfl fun a S=>lv S (Fq Un (S.tm rfl) (Fj hs1)) rfl ?_)));clear S;intro a S
  refine lv S (Rm rfl) rfl fun a S=>Ld ?_
  replace S:=(S.nl [.own (.slice none 0 0) 118 2 ([] : List Kj).length (([] : List Kj).flatMap Kj.enc)] [true] rfl).k5 0 5 22 23 24 rfl
  refine Tn ?_
  obtain ⟨j1,hj1,h⟩:=Ep h
  refine Eg (fun a w'=>∃ x1 : List Kj,∃ φ1 : View,∃ v2 : Value,j1 x1 = some r ∧ View.le nov φ1 ∧ Sx w [] φ1 [.own v2 118 2 x1.length (x1.flatMap Kj.enc)] [(5,v2)] 61 a w') ?_ ?_
  ·refine wp_block (Gx (fun (ys1 : List Dy) a w'=>∃ i1 : Nat,∃ x1 : List Kj,∃ φ1 : View,∃ v2 : Value,(∃ dn,Ae.Races = dn ++ ys1 ∧ dn.length = i1) ∧ Lm Ae Ai j1 ys1 i1 x1 = some r ∧ View.le nov φ1 ∧ Sx w [] φ1 [.own v2 118 2 x1.length (x1.flatMap Kj.enc)] [(0,.pointer (some ⟨O,0,none⟩)),(5,v2),(22,u1.val),(23,iV (Ae.Races.length : Int)),(24,iV (i1 : Int))] 61 a w') List.length Ae.Races ⟨0,([] : List Kj),nov,(.slice none 0 0),⟨[],rfl,rfl⟩,h,View.le_refl _,S.nf [true] rfl (subR rfl)⟩ ?_)
   clear S h;rintro ys1 a w2 ⟨i1,x1,φ1,v2,⟨dn,hd1,hi1⟩,h,hl1,S⟩
   cases ys1 with
   | nil =>
    rw [Lm.eq_1] at h
    refine Fr (Vb S Et rfl rfl rfl fun a S=>Ld ?_)
    replace S:=S.k6 0 5 22 23 24 25 rfl
    exact Tn (Fs (wp_cond_false ((S.tm rfl).trans (congrArg Value.bool (Il hd1 hi1))) (wp_exit (Ed (Ed (Gp (Tn (⟨x1,φ1,v2,h,hl1,S.nf [true] rfl ⟨rfl,trivial⟩⟩))))))))
   | cons y1 ys1 =>
    rw [Lm.eq_2] at h
    refine Fr (Vb S Et rfl rfl rfl fun a S=>Ld ?_)
    replace S:=S.k6 0 5 22 23 24 25 rfl
    refine Tn (Fs (wp_cond_true ((S.tm rfl).trans (congrArg Value.bool (Ht hd1 hi1))) (wp_skip (Tn (Fs (wp_block (Fs (Fg ?_))))))))
    obtain ⟨b1,o1,hm1,hr2⟩:=Ev (a:=a) (x:=.tmp 22) (y:=.tmp 24) (ty:=0) Un hs1 (Io hd1 hi1) rfl (S.tm rfl) (S.tm rfl)
    refine lv S (hr2 _) rfl ?_;clear S;intro a S
    clear hr2
    refine lv S (Fp isAgg42 sizeOf42 (off:=o1) (o:=0) (part:=(Dy.enc y1)) rfl rfl (S.tm rfl) (hm1.at S.emb0)) rfl fun a S=>Hs S zeroValue42 (cs:=[sV An,iV 0,iV 0,iV 0,iV 0,iV 0,iV 0,iV 0]) rfl rfl ?_;clear S;intro a w4 b2 hz1 hk2 S
    refine Ex S (S.tm rfl) (S.tm rfl) (i:=0) (off:=0) rfl sizeOf42 (vs:=(Dy.enc y1)) rfl rfl rfl rfl ?_;clear S;intro w5 hk3 S
    refine Dz (Vm S rfl rfl fun a S=>Vf Tx S rfl rfl fun a S=>Vl isAgg9 0 S rfl rfl rfl rfl ?_);clear S;intro a S
    have hz2:=S.keep.size
    refine Dw S (fun _=>Dp (vs:=[.pointer (some ⟨O,0,none⟩),sV y1.Key]) ⟨(S.tm rfl),(S.tm rfl),trivial⟩ call47) (DJ _ O Ae (R32.mk u1 (R28.mk u3 Ae.Table.Relay Ae.Table.Most) Ae.Final) ⟨u1,(R28.mk u3 Ae.Table.Relay Ae.Table.Most),rfl,(hs1.mono (S.le_arg Ec)),⟨u3,rfl,(hs2.mono (S.le_arg Ec))⟩⟩ Ak Ai (Bb.mono (S.le_arg Ec)) ((S.le_arg Ec) _ _ Ao) y1.Key _ rfl) rfl ?_;clear S;intro v3 a w6 hv2 hk4 hn2 S
    obtain ⟨φ2,hl2,hm2,S⟩:=S.see' hn2 hz2
    obtain ⟨b3,rfl,hq1⟩:=hv2
    replace hq1:=hm2 _ _ hq1
    refine Va S rfl rfl fun a S=>Dz (Vm S rfl rfl fun a S=>Vf Tx S rfl rfl fun a S=>Vl isAgg9 0 S rfl rfl rfl rfl ?_);clear S;intro a S
    obtain ⟨r2,hr3,h⟩:=Fa h
    have hz3:=S.keep.size
    refine Dw S (fun _=>Dp (vs:=[.pointer (some ⟨O,0,none⟩),sV y1.Key]) ⟨(S.tm rfl),(S.tm rfl),trivial⟩ call48) (Tz _ O Ae (R32.mk u1 (R28.mk u3 Ae.Table.Relay Ae.Table.Most) Ae.Final) ⟨u1,(R28.mk u3 Ae.Table.Relay Ae.Table.Most),rfl,(hs1.mono (S.le_arg Ec)),⟨u3,rfl,(hs2.mono (S.le_arg Ec))⟩⟩ Ak Ai (Bb.mono (S.le_arg Ec)) ((S.le_arg Ec) _ _ Ao) y1.Key _ hr3) rfl ?_;clear S;intro v4 a w7 hv3 hk5 hn3 S
    obtain ⟨φ3,hl3,hm3,S⟩:=S.see' hn3 hz3
    have hs3:=hv3.mono hm3
    refine lv S (Fq Nj (S.tm rfl) (Fj (Ga Dk.enc_ok hs3))) rfl fun a S=>lv S (Rm rfl) rfl fun a S=>Ld ?_
    replace S:=(S.nl [.blk b2 (Dy.enc y1) 42,.own v2 118 2 x1.length (x1.flatMap Kj.enc)] [true,true] rfl).k10 0 5 7 8 22 23 24 35 36 37 rfl
    refine Tn ?_
    obtain ⟨j2,hj2,h⟩:=Ep h
    refine Eg (fun a w'=>∃ x2 : List Kj,∃ v5 : Value,j2 x2 = some r ∧ Sx w [] φ3 [.blk b2 (Dy.enc y1) 42,.own v5 118 2 x2.length (x2.flatMap Kj.enc)] [(0,.pointer (some ⟨O,0,none⟩)),(5,v5),(22,u1.val),(23,iV (Ae.Races.length : Int)),(24,iV (i1 : Int))] 61 a w') ?_ ?_
    ·refine wp_block (Gx (fun (ys2 : List Dk) a w'=>∃ i2 : Nat,∃ x2 : List Kj,∃ v5 : Value,(∃ dn,r2 = dn ++ ys2 ∧ dn.length = i2) ∧ Ll Ae Ai y1 j2 ys2 i2 x2 = some r ∧ Sx w [] φ3 [.blk b2 (Dy.enc y1) 42,.own v5 118 2 x2.length (x2.flatMap Kj.enc)] [(0,.pointer (some ⟨O,0,none⟩)),(5,v5),(7,.pointer (some ⟨b2,0,none⟩)),(8,.map (some b3)),(22,u1.val),(23,iV (Ae.Races.length : Int)),(24,iV (i1 : Int)),(35,v4),(36,iV (r2.length : Int)),(37,iV (i2 : Int))] 61 a w') List.length r2 ⟨0,x1,v2,⟨[],rfl,rfl⟩,h,S.nf [true,true] rfl (subR rfl)⟩ ?_)
     clear S h;rintro ys2 a w8 ⟨i2,x2,v5,⟨dn,hd2,hi2⟩,h,S⟩
     cases ys2 with
     | nil =>
      rw [Ll.eq_1] at h
      refine Fr (Vb S Et rfl rfl rfl fun a S=>Ld ?_)
      replace S:=S.k11 0 5 7 8 22 23 24 35 36 37 38 rfl
      exact Tn (Fs (wp_cond_false ((S.tm rfl).trans (congrArg Value.bool (Il hd2 hi2))) (wp_exit (Ed (Ed (Gp (Tn (⟨x2,v5,h,S.nf [true,true] rfl (subR rfl)⟩))))))))
     | cons y2 ys2 =>
      rw [Ll.eq_2] at h
      refine Fr (Vb S Et rfl rfl rfl fun a S=>Ld ?_)
      replace S:=S.k11 0 5 7 8 22 23 24 35 36 37 38 rfl
      refine Tn (Fs (wp_cond_true ((S.tm rfl).trans (congrArg Value.bool (Ht hd2 hi2))) (wp_skip (Tn (Fs ?_)))))
      obtain ⟨j3,hj3,h⟩:=Ep h
      refine Eg (fun a w'=>∃ x3 : List Kj,∃ v6 : Value,j3 x3 = some r ∧ Sx w [] φ3 [.blk b2 (Dy.enc y1) 42,.own v6 118 2 x3.length (x3.flatMap Kj.enc)] [(0,.pointer (some ⟨O,0,none⟩)),(5,v6),(7,.pointer (some ⟨b2,0,none⟩)),(8,.map (some b3)),(22,u1.val),(23,iV (Ae.Races.length : Int)),(24,iV (i1 : Int)),(35,v4),(36,iV (r2.length : Int)),(37,iV (i2 : Int))] 61 a w') ?_ ?_
      ·refine wp_block (Fs (Fg ?_))
       obtain ⟨b4,o2,hm4,hr4⟩:=Ev (a:=a) (x:=.tmp 35) (y:=.tmp 37) (ty:=0) Nj (Ga Dk.enc_ok hs3) (Io hd2 hi2) rfl (S.tm rfl) (S.tm rfl)
       refine lv S (hr4 _) rfl ?_;clear S;intro a S
       clear hr4
       refine lv S (Fp isAgg101 sizeOf101 (off:=o2) (o:=0) (part:=(Dk.enc y2)) rfl rfl (S.tm rfl) (hm4.at S.emb)) rfl fun a S=>Hs S zeroValue101 (cs:=[sV An,iV 0,iV 0,iV 0,sV An,sV An,sV An,iV 0,iV 0,sV An,iV 0]) rfl rfl ?_;clear S;intro a w11 b5 hz4 hk6 S
       refine Ex S (S.tm rfl) (S.tm rfl) (i:=0) (off:=0) rfl sizeOf101 (vs:=(Dk.enc y2)) rfl rfl rfl rfl ?_;clear S;intro w12 hk7 S
       refine Dz (Vm S rfl rfl fun a S=>Vf Mq S rfl rfl fun a S=>Vl isAgg9 0 S rfl rfl rfl rfl fun a S=>lv S (DM (kv:=Value.string) (vv:=(fun x=>Value.agg (Dk.enc x).toArray)) (m:=(Hk Ae Ai y1.Key)) (key:=y2.Who) (z:=(Dk.mk An 0 0 0 An An An 0 0 An 0)) (S.emb _ _ (hl3 _ _ hq1)) underlying113 (Mx underlying9) zeroValue101 (S.tm rfl) (S.tm rfl)) rfl fun a S=>Vm S rfl rfl fun a S=>Vq S Gb rfl rfl rfl fun a S=>Vq S Gb rfl rfl rfl ?_);clear S;intro a S
       refine Hs S zeroValue101 (cs:=[sV An,iV 0,iV 0,iV 0,sV An,sV An,sV An,iV 0,iV 0,sV An,iV 0]) rfl rfl ?_;clear S;intro a w13 b6 hz5 hk8 S
       refine Ex S (S.tm rfl) (S.tm rfl) (i:=0) (off:=0) rfl sizeOf101 (vs:=(Dk.enc (Ea (Hk Ae Ai y1.Key) y2.Who (Dk.mk An 0 0 0 An An An 0 0 An 0)))) rfl rfl rfl rfl ?_;clear S;intro w14 hk9 S
       refine Va S rfl rfl fun a S=>Ld ?_
       replace S:=(S.nl [.blk b5 (Dk.enc y2) 101,.blk b2 (Dy.enc y1) 42,.own v5 118 2 x2.length (x2.flatMap Kj.enc)] [false,true,true,true] rfl).k12 0 5 7 8 10 12 22 23 24 35 36 37 rfl
       refine Tn (Fr (Vm S rfl rfl fun a S=>Vu S Hj rfl rfl fun a S=>Dl ?_))
       obtain ⟨j4,hj4,h⟩:=Ep h
       refine Eg (fun a w'=>∃ x4 : List Kj,∃ v7 : Value,j4 x4 = some r ∧ Sx w [] φ3 [.blk b2 (Dy.enc y1) 42,.own v7 118 2 x4.length (x4.flatMap Kj.enc)] [(0,.pointer (some ⟨O,0,none⟩)),(5,v7),(7,.pointer (some ⟨b2,0,none⟩)),(8,.map (some b3)),(22,u1.val),(23,iV (Ae.Races.length : Int)),(24,iV (i1 : Int)),(35,v4),(36,iV (r2.length : Int)),(37,iV (i2 : Int))] 61 a w') ?_ ?_
       ·refine Fc h (S.tm rfl) (fun hb2 h=>?_) (fun hb2 h=>?_)
        ·refine Fg (Vm S rfl rfl fun a S=>Vf Tx S rfl rfl fun a S=>Vl isAgg9 1 S rfl rfl rfl rfl fun a S=>Vf Mq S rfl rfl fun a S=>Vl isAgg9 0 S rfl rfl rfl rfl fun a S=>lv S (Mr bt_118 (pv:=[(0,sV y1.Key),(1,sV y2.Who)]) ⟨rfl,(S.tm rfl),rfl,(S.tm rfl),trivial⟩ (cs:=[sV y1.Key,sV y2.Who]) (by kernel_rfl)) rfl fun a S=>Er S underlying37 sizeOf118 zeroValue118 rfl rfl (pv:=[(0,.agg #[sV y1.Key,sV y2.Who])]) ⟨rfl,(S.tm rfl),trivial⟩ (cs:=[sV y1.Key,sV y2.Who]) (by kernel_rfl) rfl ?_);clear S;intro a w16 b7 hz6 hk10 S
         obtain ⟨hc1,h⟩:=Ie h
         refine Ms sl_37 Kj.enc_ok S (S.tm rfl) (i:=3) rfl (S.tm rfl) (j:=0) rfl (ys:=[(Kj.mk y1.Key y2.Who)]) rfl rfl rfl rfl (by have:=Nd hc1;omega) rfl ?_;clear S;intro v8 a w17 hk11 S
         refine Va S rfl rfl fun a S=>Ld ?_
         replace S:=(S.nl [.blk b2 (Dy.enc y1) 42,.own v8 118 2 (x2 ++ [(Kj.mk y1.Key y2.Who)]).length ((x2 ++ [(Kj.mk y1.Key y2.Who)]).flatMap Kj.enc)] [false,false,true,true] rfl).k10 0 5 7 8 22 23 24 35 36 37 rfl
         exact Tn (⟨(x2 ++ [(Kj.mk y1.Key y2.Who)]),v8,h,S.nf [true,true] rfl (subR rfl)⟩)
        ·exact wp_skip (Tn (⟨x2,v5,h,S.nf [false,true,true] rfl (subR rfl)⟩))
       clear S h;rintro a w15 ⟨x4,v7,h,S⟩;rw [hj4] at h;clear hj4 j4
       exact Ho (Tn (⟨x4,v7,h,S.nf [true,true] rfl (subR rfl)⟩))
      clear S h;rintro a w10 ⟨x3,v6,h,S⟩;rw [hj3] at h;clear hj3 j3
      exact Tn (Fg (Vq S Gc rfl rfl rfl fun a S=>Vm S rfl rfl fun a S=>Dl (⟨ys2,⟨i2 + 1,x3,v6,⟨_,(hd2).trans (List.append_cons _ _ _),by simp [hi2]⟩,h,S.nf [true,true] rfl ⟨rfl,rfl,rfl,rfl,rfl,rfl,rfl,rfl,rfl,(congrArg (fun z=>some (Value.int .i64 z)) (Hu hd2 hi2 (Iz (Ga Dk.enc_ok hs3)))),trivial⟩⟩,Nat.lt_succ_self _⟩)))
    clear S h;rintro a w9 ⟨x2,v5,h,S⟩;rw [hj2] at h;clear hj2 j2
    exact Ho (Tn (Fg (Vq S Gc rfl rfl rfl fun a S=>Vm S rfl rfl fun a S=>Dl (⟨ys1,⟨i1 + 1,x2,φ3,v5,⟨_,(hd1).trans (List.append_cons _ _ _),by simp [hi1]⟩,h,(View.le_trans hl1 (View.le_trans hl2 hl3)),S.nf [false,true] rfl ⟨rfl,rfl,rfl,rfl,(congrArg (fun z=>some (Value.int .i64 z)) (Hu hd1 hi1 (Iz hs1))),trivial⟩⟩,Nat.lt_succ_self _⟩))))
  clear S h;rintro a w3 ⟨x1,φ1,v2,h,hl1,S⟩;rw [hj1] at h;clear hj1 j1
  refine Tn (Fr (Vm S rfl rfl fun a S=>Va S rfl rfl fun a S=>Vk S rfl rfl fun a S=>Dl (wp_ret ?_)))
  obtain rfl:=Option.some.inj h
  exact Lg S results21 rfl rfl ⟨_,rfl,(Th S (i:=0) rfl rfl)⟩
theorem HA (w : World) (Ad : Iw) (By : R32) (Ce : Rk (view w []) Ad By) (Ab : Value) (Ah : List Dk) (Af : Slc (view w []) 11 Ab (Ah.map Dk.enc)) (Bc : Int) (r : (List Kj) × Int) (h : Vo Ad Ah Bc = some r) :
    Calls prog 7 [.agg (R32.enc By).toArray,Ab,iV Bc].toArray w (Ret w [] fun τ v _=>∃ u1 : Value,v = .tuple #[u1,iV r.2] ∧ Tf τ 118 2 u1 r.1.length (r.1.flatMap Kj.enc)):=by
 obtain ⟨u1,u2,rfl,hs1,⟨u3,rfl,hs2⟩⟩:=Ce
 refine Fe func7 rfl ntmps7 rfl fun a S=>?_
 unfold Vo at h
 replace S:=S.k3 0 1 2 rfl
 refine Fr (Mn S (S.tm rfl) (cs:=[u1.val,u3.val,iV Ad.Table.Relay,iV Ad.Table.Most,iV Ad.Final.Size,iV Ad.Final.Many,iV Ad.Final.Reserves]) rfl rfl ?_);clear S;intro a w1 b1 hz1 hk1 S
 refine Vk S rfl rfl fun a S=>Vk S rfl rfl fun a S=>Dz (lv S (Fp isAgg32 sizeOf32 (off:=0) (o:=0) (part:=[u1.val,u3.val,iV Ad.Table.Relay,iV Ad.Table.Most,iV Ad.Final.Size,iV Ad.Final.Many,iV Ad.Final.Reserves]) rfl rfl (S.tm rfl) (S.cellsAt (i:=0) rfl)) rfl fun a S=>Vm S rfl rfl fun a S=>Vm S rfl rfl fun a S=>Er S underlying22 sizeOf3 zeroValue3 rfl rfl (pv:=[(0,iV Bc)]) ⟨rfl,(S.tm rfl),trivial⟩ (cs:=[iV Bc]) (by kernel_rfl) rfl ?_);clear S;intro a w2 b2 hz2 hk2 S
 replace S:=S.litOwn (i:=0) (xs:=[Bc]) rfl Ik rfl rfl rfl
 replace S:=S.nk [.own (.slice (some ⟨b2,0,none⟩) 1 1) 3 1 ([Bc] : List Int).length (([Bc] : List Int).flatMap eInt),.blk b1 [u1.val,u3.val,iV Ad.Table.Relay,iV Ad.Table.Most,iV Ad.Final.Size,iV Ad.Final.Many,iV Ad.Final.Reserves] 32] [(0,.agg #[u1.val,u3.val,iV Ad.Table.Relay,iV Ad.Table.Most,iV Ad.Final.Size,iV Ad.Final.Many,iV Ad.Final.Reserves]),(1,Ab),(2,iV Bc),(3,.pointer (some ⟨b1,0,none⟩)),(6,.slice none 0 0),(7,iV 0),(11,.agg #[u1.val,u3.val,iV Ad.Table.Relay,iV Ad.Table.Most,iV Ad.Final.Size,iV Ad.Final.Many,iV Ad.Final.Reserves]),(12,Ab),(13,iV Bc),(14,(.slice (some ⟨b2,0,none⟩) 1 1))] [] rfl (subR rfl)
 obtain ⟨φ1,hl1,hs3,S⟩:=S.freezeT (xs:=([Bc] : List Int)) (enc:=eInt) (i:=0) rfl (fun _ h=>by cases h)
 replace S:=S.nk [.blk b1 [u1.val,u3.val,iV Ad.Table.Relay,iV Ad.Table.Most,iV Ad.Final.Size,iV Ad.Final.Many,iV Ad.Final.Reserves] 32] [(0,.agg #[u1.val,u3.val,iV Ad.Table.Relay,iV Ad.Table.Most,iV Ad.Final.Size,iV Ad.Final.Many,iV Ad.Final.Reserves]),(1,Ab),(2,iV Bc),(3,.pointer (some ⟨b1,0,none⟩)),(6,.slice none 0 0),(7,iV 0),(11,.agg #[u1.val,u3.val,iV Ad.Table.Relay,iV Ad.Table.Most,iV Ad.Final.Size,iV Ad.Final.Many,iV Ad.Final.Reserves]),(12,Ab),(13,iV Bc),(14,(.slice (some ⟨b2,0,none⟩) 1 1))] [] rfl (subR rfl)
 obtain ⟨r1,hr1,h⟩:=Fa h
 have hz3:=S.keep.size
 refine Dw S (fun _=>Dp (vs:=[.agg (R32.enc (R32.mk u1 (R28.mk u3 Ad.Table.Relay Ad.Table.Most) Ad.Final)).toArray,Ab,(.slice (some ⟨b2,0,none⟩) 1 1)]) ⟨(S.tm rfl),(S.tm rfl),(S.tm rfl),trivial⟩ call20) (EZ _ (join (view w []) φ1) (Ng (S.le_arg Ec) (S.le_new Ec)) Ad (R32.mk u1 (R28.mk u3 Ad.Table.Relay Ad.Table.Most) Ad.Final) ⟨u1,(R28.mk u3 Ad.Table.Relay Ad.Table.Most),rfl,(hs1.mono (le_join_left _ _)),⟨u3,rfl,(hs2.mono (le_join_left _ _))⟩⟩ Ab Ah (Af.mono (le_join_left _ _)) (.slice (some ⟨b2,0,none⟩) 1 1) ([Bc] : List Int) ((Ga Ik hs3).mono (S.all_right (View.le_refl _))) _ hr1) rfl ?_;clear S;intro v1 a w3 hv1 hk3 hn1 S
 obtain ⟨u4,rfl,ho1⟩:=hv1
 obtain ⟨φ2,hl2,hm1,S⟩:=S.see' hn1 hz3
 have hq1:=AQ.mono (Pt (Rb hl2 hm1)) (Rb hl2 hm1) ho1
 refine Vm S rfl rfl fun a S=>Vq S Gb rfl rfl rfl fun a S=>Vq S Gb rfl rfl rfl fun a S=>Va S rfl rfl fun a S=>Va S rfl rfl fun a S=>Ld ?_
 replace S:=S.n0.k2 8 9 rfl
 refine Tn (Fs (Fr (Vm S rfl rfl fun a S=>Vq S Kw rfl rfl rfl fun a S=>Dl (Fc h (S.tm rfl) (fun hb1 h=>?_) (fun hb1 h=>?_)))))
 ·refine Fr (Vm S rfl rfl fun a S=>Vk S rfl rfl fun a S=>Va S rfl rfl fun a S=>Dl (wp_ret (Dt ?_)))
  obtain rfl:=Option.some.inj h
  exact Lg S results7 rfl rfl ⟨_,rfl,(Qf _ _ _)⟩
 ·refine wp_skip (Tn (Fr (Vm S rfl rfl ?_)));clear S;intro a S
  obtain ⟨r2,hr2,h⟩:=Fa h
  obtain ⟨b3,q1,rfl,hq2,hb2⟩:=hq1.deref hr2
  obtain ⟨u5,u9,rfl,⟨u6,u7,rfl,hs4,⟨u8,rfl,hs5⟩⟩,hs6⟩:=hq2
  replace hb2 : (join (view w []) φ2) b3 = some (.cells [u6.val,u8.val,iV r2.p_.Table.Relay,iV r2.p_.Table.Most,iV r2.p_.Final.Size,iV r2.p_.Final.Many,iV r2.p_.Final.Reserves,u9.val].toArray 112 (0,0)):=hb2
  obtain ⟨r3,hr3,h⟩:=Fa h
  have hz4:=S.keep.size
  refine Dw S (fun _=>Dp (vs:=[.pointer (some ⟨b3,0,none⟩)]) ⟨(S.tm rfl),trivial⟩ call21) (FT _ b3 r2.p_ (R32.mk u6 (R28.mk u8 r2.p_.Table.Relay r2.p_.Table.Most) r2.p_.Final) ⟨u6,(R28.mk u8 r2.p_.Table.Relay r2.p_.Table.Most),rfl,(hs4.mono (Ng (S.le_arg Ec) (S.le_new Ec))),⟨u8,rfl,(hs5.mono (Ng (S.le_arg Ec) (S.le_new Ec)))⟩⟩ u9.val r2.deeds_ (hs6.mono (Ng (S.le_arg Ec) (S.le_new Ec))) ((Ng (S.le_arg Ec) (S.le_new Ec)) _ _ hb2) _ hr3) rfl ?_;clear S;intro v2 a w4 hv2 hk4 hn2 S
  obtain ⟨u10,rfl,ho2⟩:=hv2
  obtain ⟨φ3,hl3,hm2,S⟩:=S.see' hn2 hz4
  have hs7:=ho2.mono hm2
  refine Vq S Gb rfl rfl rfl fun a S=>Vq S Gb rfl rfl rfl fun a S=>Va S rfl rfl fun a S=>Va S rfl rfl fun a S=>Dl (wp_ret ?_)
  obtain rfl:=Option.some.inj h
  exact Lg S results7 rfl rfl ⟨_,rfl,((hs7).mono S.le_newer)⟩
set_option maxRecDepth 20000 in
theorem GM (w : World) (ψ : View) (hψ : View.le ψ (view w [])) (Ad : Iw) (By : R32) (Ce : Rk ψ Ad By) (Ab : Value) (Ah : List Dk) (Af : Slc ψ 11 Ab (Ah.map Dk.enc)) (Al : ByteArray) (Bc : Int) (r : (Option Kg) × Dy × Int) (h : Zc Ad Ah Al Bc = some r) :
    Calls prog 22 [.agg (R32.enc By).toArray,Ab,sV Al,iV Bc].toArray w (Ret w [] fun τ v _=>∃ u1 : Value,v = .tuple #[u1,.agg (Dy.enc r.2.1).toArray,iV r.2.2] ∧ AQ (join ψ τ) 112 EM.enc AA u1 r.1):=by
 obtain ⟨u1,u2,rfl,hs1,⟨u3,rfl,hs2⟩⟩:=Ce
 refine Fe func22 rfl ntmps22 rfl fun a S=>?_
 unfold Zc at h
 replace S:=S.k4 0 1 2 3 rfl
 refine Fr (Mn S (S.tm rfl) (cs:=[u1.val,u3.val,iV Ad.Table.Relay,iV Ad.Table.Most,iV Ad.Final.Size,iV Ad.Final.Many,iV Ad.Final.Reserves]) rfl rfl ?_);clear S;intro a w1 b1 hz1 hk1 S
 refine Vk S rfl rfl fun a S=>Hs S zeroValue42 (cs:=[sV An,iV 0,iV 0,iV 0,iV 0,iV 0,iV 0,iV 0]) rfl rfl ?_;clear S;intro a w2 b2 hz2 hk2 S
 refine Vk S rfl rfl fun a S=>Dz (lv S (Fp isAgg32 sizeOf32 (off:=0) (o:=0) (part:=[u1.val,u3.val,iV Ad.Table.Relay,iV Ad.Table.Most,iV Ad.Final.Size,iV Ad.Final.Many,iV Ad.Final.Reserves]) rfl rfl (S.tm rfl) (S.cellsAt (i:=1) rfl)) rfl fun a S=>Vm S rfl rfl fun a S=>Vm S rfl rfl fun a S=>Er S underlying22 sizeOf3 zeroValue3 rfl rfl (pv:=[(0,iV Bc)]) ⟨rfl,(S.tm rfl),trivial⟩ (cs:=[iV Bc]) (by kernel_rfl) rfl ?_);clear S;intro a w3 b3 hz3 hk3 S
 replace S:=S.litOwn (i:=0) (xs:=[Bc]) rfl Ik rfl rfl rfl
 replace S:=S.nk [.own (.slice (some ⟨b3,0,none⟩) 1 1) 3 1 ([Bc] : List Int).length (([Bc] : List Int).flatMap eInt),.blk b2 (Dy.enc (Dy.mk An 0 0 0 0 0 0 0)) 42,.blk b1 [u1.val,u3.val,iV Ad.Table.Relay,iV Ad.Table.Most,iV Ad.Final.Size,iV Ad.Final.Many,iV Ad.Final.Reserves] 32] [(0,.agg #[u1.val,u3.val,iV Ad.Table.Relay,iV Ad.Table.Most,iV Ad.Final.Size,iV Ad.Final.Many,iV Ad.Final.Reserves]),(1,Ab),(2,sV Al),(3,iV Bc),(4,.pointer (some ⟨b1,0,none⟩)),(8,.pointer none),(9,.pointer (some ⟨b2,0,none⟩)),(10,iV 0),(15,.agg #[u1.val,u3.val,iV Ad.Table.Relay,iV Ad.Table.Most,iV Ad.Final.Size,iV Ad.Final.Many,iV Ad.Final.Reserves]),(16,Ab),(17,iV Bc),(18,(.slice (some ⟨b3,0,none⟩) 1 1))] [] rfl (subR rfl)
 obtain ⟨φ1,hl1,hs3,S⟩:=S.freezeT (xs:=([Bc] : List Int)) (enc:=eInt) (i:=0) rfl (fun _ h=>by cases h)
 replace S:=S.nk [.blk b2 (Dy.enc (Dy.mk An 0 0 0 0 0 0 0)) 42,.blk b1 [u1.val,u3.val,iV Ad.Table.Relay,iV Ad.Table.Most,iV Ad.Final.Size,iV Ad.Final.Many,iV Ad.Final.Reserves] 32] [(0,.agg #[u1.val,u3.val,iV Ad.Table.Relay,iV Ad.Table.Most,iV Ad.Final.Size,iV Ad.Final.Many,iV Ad.Final.Reserves]),(1,Ab),(2,sV Al),(3,iV Bc),(4,.pointer (some ⟨b1,0,none⟩)),(8,.pointer none),(9,.pointer (some ⟨b2,0,none⟩)),(10,iV 0),(15,.agg #[u1.val,u3.val,iV Ad.Table.Relay,iV Ad.Table.Most,iV Ad.Final.Size,iV Ad.Final.Many,iV Ad.Final.Reserves]),(16,Ab),(17,iV Bc),(18,(.slice (some ⟨b3,0,none⟩) 1 1))] [] rfl (subR rfl)
 obtain ⟨r1,hr1,h⟩:=Fa h
 have hz4:=S.keep.size
 refine Dw S (fun _=>Dp (vs:=[.agg (R32.enc (R32.mk u1 (R28.mk u3 Ad.Table.Relay Ad.Table.Most) Ad.Final)).toArray,Ab,(.slice (some ⟨b3,0,none⟩) 1 1)]) ⟨(S.tm rfl),(S.tm rfl),(S.tm rfl),trivial⟩ call20) (EZ _ (join ψ φ1) (Ng (View.le_trans hψ (S.le_arg Ec)) (S.le_new Ec)) Ad (R32.mk u1 (R28.mk u3 Ad.Table.Relay Ad.Table.Most) Ad.Final) ⟨u1,(R28.mk u3 Ad.Table.Relay Ad.Table.Most),rfl,(hs1.mono (le_join_left _ _)),⟨u3,rfl,(hs2.mono (le_join_left _ _))⟩⟩ Ab Ah (Af.mono (le_join_left _ _)) (.slice (some ⟨b3,0,none⟩) 1 1) ([Bc] : List Int) ((Ga Ik hs3).mono (S.all_right hψ)) _ hr1) rfl ?_;clear S;intro v1 a w4 hv1 hk4 hn1 S
 obtain ⟨u4,rfl,ho1⟩:=hv1
 obtain ⟨φ2,hl2,hm1,S⟩:=S.see' hn1 hz4
 have hq1:=AQ.mono (Pt (Rb hl2 hm1)) (Rb hl2 hm1) ho1
 refine Vm S rfl rfl fun a S=>Vq S Gb rfl rfl rfl fun a S=>Vq S Gb rfl rfl rfl fun a S=>Va S rfl rfl fun a S=>Va S rfl rfl fun a S=>Ld ?_
 replace S:=(S.nl [.blk b2 (Dy.enc (Dy.mk An 0 0 0 0 0 0 0)) 42] [true,false] rfl).k4 2 9 11 12 rfl
 refine Tn (Fs (Fr (Vm S rfl rfl fun a S=>Vq S Kw rfl rfl rfl fun a S=>Dl (Fc h (S.tm rfl) (fun hb1 h=>?_) (fun hb1 h=>?_)))))
 ·refine Fr (lv S (Mr QV (pv:=[]) trivial (cs:=[sV An,iV 0,iV 0,iV 0,iV 0,iV 0,iV 0,iV 0]) (by kernel_rfl)) rfl fun a S=>Vm S rfl rfl fun a S=>Vk S rfl rfl fun a S=>Ex S (S.tm rfl) (S.tm rfl) (i:=0) (off:=0) rfl sizeOf42 (vs:=(Dy.enc (Dy.mk An 0 0 0 0 0 0 0))) rfl rfl rfl rfl ?_);clear S;intro w5 hk5 S
  refine Va S rfl rfl fun a S=>Dl (wp_ret (Dt ?_))
  obtain rfl:=Option.some.inj h
  exact Xw S (rs:=[.tmp 8,.cell 9 42,.tmp 10]) (vs:=[.pointer none,.agg (Dy.enc (Dy.mk An 0 0 0 0 0 0 0)).toArray,iV r1.2]) results22 ⟨(Zt S rfl),(Ti (off:=0) S rfl isAgg42 sizeOf42 rfl (S.cellsAt (i:=0) rfl)),(Zt S rfl),trivial⟩ rfl ⟨_,rfl,rfl⟩
 ·refine wp_skip (Tn (Fr (Vm S rfl rfl fun a S=>Vm S rfl rfl ?_)));clear S;intro a S
  obtain ⟨r2,hr2,h⟩:=Fa h
  obtain ⟨b4,q1,rfl,hq2,hb2⟩:=hq1.deref hr2
  obtain ⟨u5,u9,rfl,⟨u6,u7,rfl,hs4,⟨u8,rfl,hs5⟩⟩,hs6⟩:=hq2
  replace hb2 : (join ψ φ2) b4 = some (.cells [u6.val,u8.val,iV r2.p_.Table.Relay,iV r2.p_.Table.Most,iV r2.p_.Final.Size,iV r2.p_.Final.Many,iV r2.p_.Final.Reserves,u9.val].toArray 112 (0,0)):=hb2
  obtain ⟨r3,hr3,h⟩:=Fa h
  refine Dw S (fun _=>Dp (vs:=[.pointer (some ⟨b4,0,none⟩),sV Al]) ⟨(S.tm rfl),(S.tm rfl),trivial⟩ call49) (DI _ b4 r2.p_ (R32.mk u6 (R28.mk u8 r2.p_.Table.Relay r2.p_.Table.Most) r2.p_.Final) ⟨u6,(R28.mk u8 r2.p_.Table.Relay r2.p_.Table.Most),rfl,(hs4.mono (Ng (View.le_trans hψ (S.le_arg Ec)) (S.le_new Ec))),⟨u8,rfl,(hs5.mono (Ng (View.le_trans hψ (S.le_arg Ec)) (S.le_new Ec)))⟩⟩ u9.val r2.deeds_ (hs6.mono (Ng (View.le_trans hψ (S.le_arg Ec)) (S.le_new Ec))) ((Ng (View.le_trans hψ (S.le_arg Ec)) (S.le_new Ec)) _ _ hb2) Al _ hr3) rfl ?_;clear S;intro v2 a w6 hv2 hk6 hn2 S
  subst hv2
  refine Vm S rfl rfl fun a S=>Vq S Gb rfl rfl rfl fun a S=>Vq S Gb rfl rfl rfl fun a S=>Hs S zeroValue42 (cs:=[sV An,iV 0,iV 0,iV 0,iV 0,iV 0,iV 0,iV 0]) rfl rfl ?_;clear S;intro a w7 b5 hz5 hk7 S
  refine Ex S (S.tm rfl) (S.tm rfl) (i:=0) (off:=0) rfl sizeOf42 (vs:=(Dy.enc r3.1)) rfl rfl rfl rfl ?_;clear S;intro w8 hk8 S
  refine Va S rfl rfl fun a S=>Dl (Fs (Hd [] ([b2]) Tryz.mixed S rfl (by kernel_rfl) ?_));clear S;intro w10 hk10 hsel S
  refine Eb 0 S hsel rfl rfl rfl (by kernel_rfl) (by kernel_rfl) rfl (fun _ hw=>(Rm (S.tm rfl))) fun a S=>Eb 1 S hsel rfl rfl rfl (by kernel_rfl) (by kernel_rfl) rfl (fun _ hw=>(Fp isAgg42 sizeOf42 (off:=0) (o:=0) (part:=(Dy.enc r3.1)) rfl rfl (S.tm rfl) ((S.blk_mem (i:=0) (cells:=(Dy.enc r3.1)) (b:=b5) (T:=42) rfl (Mo (i:=1) (j:=0) (e:=.blk b2 (Dy.enc (Dy.mk An 0 0 0 0 0 0 0)) 42) (e':=.blk b5 (Dy.enc r3.1) 42) S rfl rfl rfl)).kept hw))) fun a S=>Eb 2 S hsel rfl rfl rfl (by kernel_rfl) (by kernel_rfl) rfl (fun _ hw=>(Rm (S.tm rfl))) fun a S=>Eb 3 S hsel rfl rfl rfl (by kernel_rfl) (by kernel_rfl) rfl (fun _ hw=>(Ra (S.tm rfl))) fun a S=>He 4 (by kernel_rfl) rfl (Ex S (S.tm rfl) (S.tm rfl) (i:=1) (off:=0) rfl sizeOf42 (vs:=(Dy.enc r3.1)) rfl rfl rfl rfl ?_);clear S;intro w11 hk11 S
  refine Ld (Ig hk11 (Lw [5] hsel (by kernel_rfl) rfl ?_))
  clear hsel
  refine Gm S rfl (Ra (S.tm rfl)) rfl fun a S=>Hv ?_
  replace S:=(S.nl [.blk b2 (Dy.enc r3.1) 42] [false,true] rfl).k3 8 9 10 rfl
  refine Tn (wp_ret ?_)
  obtain rfl:=Option.some.inj h
  exact Xw S (rs:=[.tmp 8,.cell 9 42,.tmp 10]) (vs:=[.pointer (some ⟨b4,0,none⟩),.agg (Dy.enc r3.1).toArray,iV r3.2]) results22 ⟨(Zt S rfl),(Ti (off:=0) S rfl isAgg42 sizeOf42 rfl (S.cellsAt (i:=0) rfl)),(Zt S rfl),trivial⟩ rfl ⟨_,rfl,(AQ.mk (EM.mk (R32.mk u6 (R28.mk u8 r2.p_.Table.Relay r2.p_.Table.Most) r2.p_.Final) u9) (Pt (Yo hψ S.le_newer) _ _ ⟨(R32.mk u6 (R28.mk u8 r2.p_.Table.Relay r2.p_.Table.Most) r2.p_.Final),u9,rfl,⟨u6,(R28.mk u8 r2.p_.Table.Relay r2.p_.Table.Most),rfl,hs4,⟨u8,rfl,hs5⟩⟩,hs6⟩) ((Yo hψ S.le_newer) _ _ hb2))⟩
theorem IH (w : World) (O : Nat) (Ae : Iw) (Bi : R32) (Bu : Rk (view w []) Ae Bi) (Ak : Value) (Ai : List Dk) (Bb : Slc (view w []) 11 Ak (Ai.map Dk.enc)) (Ao : (view w []) O = some (.cells (R32.enc Bi ++ [Ak]).toArray 112 (0,0))) (Al : ByteArray) (r : (List Gq)) (h : Yp Ae Ai Al = some r) :
    Calls prog 23 [.pointer (some ⟨O,0,none⟩),sV Al].toArray w (Ret w [] fun τ v _=>Tf τ 56 2 v r.length (r.flatMap Gq.enc)):=by
 obtain ⟨u1,u2,rfl,hs1,⟨u3,rfl,hs2⟩⟩:=Bu
 replace Ao : (view w []) O = some (.cells [u1.val,u3.val,iV Ae.Table.Relay,iV Ae.Table.Most,iV Ae.Final.Size,iV Ae.Final.Many,iV Ae.Final.Reserves,Ak].toArray 112 (0,0)):=Ao
 refine Fe func23 rfl ntmps23 rfl fun a S=>?_
 unfold Yp at h
 replace S:=S.k2 0 1 rfl
 refine Fr (Vk S rfl rfl fun a S=>Dz (Vk S rfl rfl ?_));clear S;intro a S
 replace S:=S.nil 56 2
 refine Dl (Fs (Fr (Vm S rfl rfl fun a S=>Vm S rfl rfl ?_)));clear S;intro a S
 obtain ⟨r1,hr1,h⟩:=Fa h
 have hz1:=S.keep.size
 refine Dw S (fun _=>Dp (vs:=[.pointer (some ⟨O,0,none⟩),sV Al]) ⟨(S.tm rfl),(S.tm rfl),trivial⟩ call48) (Tz _ O Ae (R32.mk u1 (R28.mk u3 Ae.Table.Relay Ae.Table.Most) Ae.Final) ⟨u1,(R28.mk u3 Ae.Table.Relay Ae.Table.Most),rfl,(hs1.mono (S.le_arg Ec)),⟨u3,rfl,(hs2.mono (S.le_arg Ec))⟩⟩ Ak Ai (Bb.mono (S.le_arg Ec)) ((S.le_arg Ec) _ _ Ao) Al _ hr1) rfl ?_;clear S;intro v1 a w1 hv1 hk1 hn1 S
 obtain ⟨φ1,hl1,hm1,S⟩:=S.see' hn1 hz1
 have hs3:=hv1.mono hm1
 refine lv S (Fq Nj (S.tm rfl) (Fj (Ga Dk.enc_ok hs3))) rfl fun a S=>lv S (Rm rfl) rfl fun a S=>Dl ?_
 replace S:=(S.nl [.own (.slice none 0 0) 56 2 ([] : List Gq).length (([] : List Gq).flatMap Gq.enc)] [true] rfl).k4 5 10 11 12 rfl
 obtain ⟨j1,hj1,h⟩:=Ep h
 refine Eg (fun a w'=>∃ x1 : List Gq,∃ v2 : Value,j1 x1 = some r ∧ Sx w [] φ1 [.own v2 56 2 x1.length (x1.flatMap Gq.enc)] [(5,v2)] 26 a w') ?_ ?_
 ·refine wp_block (Gx (fun (ys1 : List Dk) a w'=>∃ i1 : Nat,∃ x1 : List Gq,∃ v2 : Value,(∃ dn,r1 = dn ++ ys1 ∧ dn.length = i1) ∧ My j1 ys1 i1 x1 = some r ∧ Sx w [] φ1 [.own v2 56 2 x1.length (x1.flatMap Gq.enc)] [(5,v2),(10,v1),(11,iV (r1.length : Int)),(12,iV (i1 : Int))] 26 a w') List.length r1 ⟨0,([] : List Gq),(.slice none 0 0),⟨[],rfl,rfl⟩,h,S.nf [true] rfl (subR rfl)⟩ ?_)
  clear S h;rintro ys1 a w2 ⟨i1,x1,v2,⟨dn,hd1,hi1⟩,h,S⟩
  cases ys1 with
  | nil =>
   rw [My.eq_1] at h
   refine Fr (Vb S Et rfl rfl rfl fun a S=>Ld ?_)
   replace S:=S.k5 5 10 11 12 13 rfl
   exact Tn (Fs (wp_cond_false ((S.tm rfl).trans (congrArg Value.bool (Il hd1 hi1))) (wp_exit (Ed (Ed (Gp (Tn (⟨x1,v2,h,S.nf [true] rfl ⟨rfl,trivial⟩⟩))))))))
  | cons y1 ys1 =>
   rw [My.eq_2] at h
   refine Fr (Vb S Et rfl rfl rfl fun a S=>Ld ?_)
   replace S:=S.k5 5 10 11 12 13 rfl
   refine Tn (Fs (wp_cond_true ((S.tm rfl).trans (congrArg Value.bool (Ht hd1 hi1))) (wp_skip (Tn (Fs (wp_block (Fs (Fg ?_))))))))
   obtain ⟨b1,o1,hm2,hr2⟩:=Ev (a:=a) (x:=.tmp 10) (y:=.tmp 12) (ty:=0) Nj (Ga Dk.enc_ok hs3) (Io hd1 hi1) rfl (S.tm rfl) (S.tm rfl)
   refine lv S (hr2 _) rfl ?_;clear S;intro a S
   clear hr2
   refine lv S (Fp isAgg101 sizeOf101 (off:=o1) (o:=0) (part:=(Dk.enc y1)) rfl rfl (S.tm rfl) (hm2.at S.emb)) rfl fun a S=>Hs S zeroValue101 (cs:=[sV An,iV 0,iV 0,iV 0,sV An,sV An,sV An,iV 0,iV 0,sV An,iV 0]) rfl rfl ?_;clear S;intro a w4 b2 hz2 hk2 S
   refine Ex S (S.tm rfl) (S.tm rfl) (i:=0) (off:=0) rfl sizeOf101 (vs:=(Dk.enc y1)) rfl rfl rfl rfl ?_;clear S;intro w5 hk3 S
   refine Dl (Fg (Vm S rfl rfl fun a S=>Vf Mq S rfl rfl fun a S=>Vl isAgg9 0 S rfl rfl rfl rfl fun a S=>Vf Sd S rfl rfl fun a S=>Vl isAgg3 0 S rfl rfl rfl rfl fun a S=>lv S (Mr bt_56 (pv:=[(0,sV y1.Who),(1,iV y1.Time)]) ⟨rfl,(S.tm rfl),rfl,(S.tm rfl),trivial⟩ (cs:=[sV y1.Who,iV y1.Time]) (by kernel_rfl)) rfl fun a S=>Er S underlying43 sizeOf56 zeroValue56 rfl rfl (pv:=[(0,.agg #[sV y1.Who,iV y1.Time])]) ⟨rfl,(S.tm rfl),trivial⟩ (cs:=[sV y1.Who,iV y1.Time]) (by kernel_rfl) rfl ?_));clear S;intro a w6 b3 hz3 hk4 S
   obtain ⟨hc1,h⟩:=Ie h
   refine Ms DE Gq.enc_ok S (S.tm rfl) (i:=2) rfl (S.tm rfl) (j:=0) rfl (ys:=[(Gq.mk y1.Who y1.Time)]) rfl rfl rfl rfl (by have:=Nd hc1;omega) rfl ?_;clear S;intro v3 a w7 hk5 S
   refine Va S rfl rfl fun a S=>Ld ?_
   replace S:=(S.nl [.own v3 56 2 (x1 ++ [(Gq.mk y1.Who y1.Time)]).length ((x1 ++ [(Gq.mk y1.Who y1.Time)]).flatMap Gq.enc)] [false,false,true] rfl).k4 5 10 11 12 rfl
   exact Ho (Tn (Fg (Vq S Gc rfl rfl rfl fun a S=>Vm S rfl rfl fun a S=>Dl (⟨ys1,⟨i1 + 1,(x1 ++ [(Gq.mk y1.Who y1.Time)]),v3,⟨_,(hd1).trans (List.append_cons _ _ _),by simp [hi1]⟩,h,S.nf [true] rfl ⟨rfl,rfl,rfl,(congrArg (fun z=>some (Value.int .i64 z)) (Hu hd1 hi1 (Iz (Ga Dk.enc_ok hs3)))),trivial⟩⟩,Nat.lt_succ_self _⟩))))
 clear S h;rintro a w3 ⟨x1,v2,h,S⟩;rw [hj1] at h;clear hj1 j1
 refine Tn (Fr (Vm S rfl rfl fun a S=>Va S rfl rfl fun a S=>Dl (wp_ret ?_)))
 obtain rfl:=Option.some.inj h
 exact Ej S results23 rfl (Th S (i:=0) rfl rfl)
theorem HB (w : World) (Ad : Iw) (By : R32) (Ce : Rk (view w []) Ad By) (Ab : Value) (Ah : List Dk) (Af : Slc (view w []) 11 Ab (Ah.map Dk.enc)) (Al : ByteArray) (Bc : Int) (r : (List Gq) × Int) (h : Vp Ad Ah Al Bc = some r) :
    Calls prog 8 [.agg (R32.enc By).toArray,Ab,sV Al,iV Bc].toArray w (Ret w [] fun τ v _=>∃ u1 : Value,v = .tuple #[u1,iV r.2] ∧ Tf τ 56 2 u1 r.1.length (r.1.flatMap Gq.enc)):=by
 obtain ⟨u1,u2,rfl,hs1,⟨u3,rfl,hs2⟩⟩:=Ce
 refine Fe func8 rfl ntmps8 rfl fun a S=>?_
 unfold Vp at h
 replace S:=S.k4 0 1 2 3 rfl
 refine Fr (Mn S (S.tm rfl) (cs:=[u1.val,u3.val,iV Ad.Table.Relay,iV Ad.Table.Most,iV Ad.Final.Size,iV Ad.Final.Many,iV Ad.Final.Reserves]) rfl rfl ?_);clear S;intro a w1 b1 hz1 hk1 S
 refine Vk S rfl rfl fun a S=>Vk S rfl rfl fun a S=>Dz (lv S (Fp isAgg32 sizeOf32 (off:=0) (o:=0) (part:=[u1.val,u3.val,iV Ad.Table.Relay,iV Ad.Table.Most,iV Ad.Final.Size,iV Ad.Final.Many,iV Ad.Final.Reserves]) rfl rfl (S.tm rfl) (S.cellsAt (i:=0) rfl)) rfl ?_);clear S;intro a S
 iterate 3 (refine Vm S rfl rfl ?_;clear S;intro a S)
 obtain ⟨r1,hr1,h⟩:=Fa h
 have hz2:=S.keep.size
 refine Dw S (fun _=>Dp (vs:=[.agg (R32.enc (R32.mk u1 (R28.mk u3 Ad.Table.Relay Ad.Table.Most) Ad.Final)).toArray,Ab,sV Al,iV Bc]) ⟨(S.tm rfl),(S.tm rfl),(S.tm rfl),(S.tm rfl),trivial⟩ call22) (GM _ (join (view w []) nov) (Ng (S.le_arg Ec) (S.le_new Ec)) Ad (R32.mk u1 (R28.mk u3 Ad.Table.Relay Ad.Table.Most) Ad.Final) ⟨u1,(R28.mk u3 Ad.Table.Relay Ad.Table.Most),rfl,(hs1.mono (le_join_left _ _)),⟨u3,rfl,(hs2.mono (le_join_left _ _))⟩⟩ Ab Ah (Af.mono (le_join_left _ _)) Al Bc _ hr1) rfl ?_;clear S;intro v1 a w2 hv1 hk2 hn1 S
 obtain ⟨u4,rfl,ho1⟩:=hv1
 obtain ⟨φ1,hl1,hm1,S⟩:=S.see' hn1 hz2
 have hq1:=AQ.mono (Pt (Rb hl1 hm1)) (Rb hl1 hm1) ho1
 refine Vm S rfl rfl ?_;clear S;intro a S
 iterate 3 (refine Vq S Gb rfl rfl rfl ?_;clear S;intro a S)
 refine Hs S zeroValue42 (cs:=[sV An,iV 0,iV 0,iV 0,iV 0,iV 0,iV 0,iV 0]) rfl rfl ?_;clear S;intro a w3 b2 hz3 hk3 S
 refine Va S rfl rfl fun a S=>Ex S (S.tm rfl) (S.tm rfl) (i:=0) (off:=0) rfl sizeOf42 (vs:=(Dy.enc r1.2.1)) rfl rfl rfl rfl ?_;clear S;intro w4 hk4 S
 refine Va S rfl rfl fun a S=>Ld ?_
 replace S:=S.n0.k3 2 10 12 rfl
 refine Tn (Fs (Fr (Vm S rfl rfl fun a S=>Vq S Kw rfl rfl rfl fun a S=>Dl (Fc h (S.tm rfl) (fun hb1 h=>?_) (fun hb1 h=>?_)))))
 ·refine Fr (Vm S rfl rfl fun a S=>Vk S rfl rfl fun a S=>Va S rfl rfl fun a S=>Dl (wp_ret (Dt ?_)))
  obtain rfl:=Option.some.inj h
  exact Lg S results8 rfl rfl ⟨_,rfl,(Qf _ _ _)⟩
 ·refine wp_skip (Tn (Fr (Vm S rfl rfl fun a S=>Vm S rfl rfl ?_)));clear S;intro a S
  obtain ⟨r2,hr2,h⟩:=Fa h
  obtain ⟨b3,q1,rfl,hq2,hb2⟩:=hq1.deref hr2
  obtain ⟨u5,u9,rfl,⟨u6,u7,rfl,hs3,⟨u8,rfl,hs4⟩⟩,hs5⟩:=hq2
  replace hb2 : (join (view w []) φ1) b3 = some (.cells [u6.val,u8.val,iV r2.p_.Table.Relay,iV r2.p_.Table.Most,iV r2.p_.Final.Size,iV r2.p_.Final.Many,iV r2.p_.Final.Reserves,u9.val].toArray 112 (0,0)):=hb2
  obtain ⟨r3,hr3,h⟩:=Fa h
  have hz4:=S.keep.size
  refine Dw S (fun _=>Dp (vs:=[.pointer (some ⟨b3,0,none⟩),sV Al]) ⟨(S.tm rfl),(S.tm rfl),trivial⟩ call23) (IH _ b3 r2.p_ (R32.mk u6 (R28.mk u8 r2.p_.Table.Relay r2.p_.Table.Most) r2.p_.Final) ⟨u6,(R28.mk u8 r2.p_.Table.Relay r2.p_.Table.Most),rfl,(hs3.mono (Ng (S.le_arg Ec) (S.le_new Ec))),⟨u8,rfl,(hs4.mono (Ng (S.le_arg Ec) (S.le_new Ec)))⟩⟩ u9.val r2.deeds_ (hs5.mono (Ng (S.le_arg Ec) (S.le_new Ec))) ((Ng (S.le_arg Ec) (S.le_new Ec)) _ _ hb2) Al _ hr3) rfl ?_;clear S;intro v2 a w5 hv2 hk5 hn2 S
  obtain ⟨φ2,hl2,hm2,S⟩:=S.see' hn2 hz4
  have hs6:=hv2.mono hm2
  refine Va S rfl rfl fun a S=>Vk S rfl rfl fun a S=>Dl (wp_ret ?_)
  obtain rfl:=Option.some.inj h
  exact Lg S results8 rfl rfl ⟨_,rfl,((hs6).mono S.le_newer)⟩
theorem DW (w : World) (Ab : Value) (Ah : List Gq) (Af : Slc (view w []) 2 Ab (Ah.map Gq.enc)) (r : Int) (h : So Ah = some r) :
    Calls prog 133 [Ab].toArray w (Ret w [] fun _ v _=>v = iV r):=by
 refine Fe func133 rfl ntmps133 rfl fun a S=>?_
 unfold So at h
 replace S:=S.k1 0 rfl
 refine Fr (Vk S rfl rfl fun a S=>Dl (Fs (Fr (Vm S rfl rfl fun a S=>lv S (Fq DE (S.tm rfl) (Fj Af)) rfl fun a S=>Vq S It rfl rfl rfl ?_))));clear S;intro a S
 refine Dl (Fc h (S.tm rfl) (fun hb1 h=>?_) (fun hb1 h=>?_))
 ·refine Fr (Vk S rfl rfl fun a S=>Dl (wp_ret (Dt ?_)))
  obtain rfl:=Option.some.inj h
  exact Ej S results133 rfl rfl
 ·refine wp_skip (Tn (Fr (Rx (κ:=ByteArray) (ν:=Bool) S rfl Value.string Value.bool ?_)));clear S;intro a w1 b1 hz1 hk1 S
  refine Va S rfl rfl fun a S=>Dz (Vk S rfl rfl fun a S=>Dl (Fs (Fs (Fg ?_))))
  refine Vm S rfl rfl fun a S=>lv S (Fq DE (S.tm rfl) (Fj Af)) rfl fun a S=>lv S (Rm rfl) rfl fun a S=>Dl ?_
  replace S:=(S.nl [.map b1 (Gt Value.string Value.bool ([] : List (ByteArray × Bool))) ([] : List (ByteArray × Bool)).length] [true] rfl).k5 3 4 11 12 13 rfl
  obtain ⟨j1,hj1,h⟩:=Ep h
  refine Eg (fun a w'=>∃ x1 : List (ByteArray × Bool),∃ x2 : Bool,j1 x1 x2 = some r ∧ Sx w [] nov [.map b1 (Gt Value.string Value.bool x1) x1.length] [(4,bV x2)] 37 a w') ?_ ?_
  ·refine wp_block (Gx (fun (ys1 : List Gq) a w'=>∃ i1 : Nat,∃ x1 : List (ByteArray × Bool),∃ x2 : Bool,(∃ dn,Ah = dn ++ ys1 ∧ dn.length = i1) ∧ Kx j1 ys1 i1 x1 x2 = some r ∧ Sx w [] nov [.map b1 (Gt Value.string Value.bool x1) x1.length] [(3,.map (some b1)),(4,bV x2),(11,Ab),(12,iV (Ah.length : Int)),(13,iV (i1 : Int))] 37 a w') List.length Ah ⟨0,([] : List (ByteArray × Bool)),false,⟨[],rfl,rfl⟩,h,S.nf [true] rfl (subR rfl)⟩ ?_)
   clear S h;rintro ys1 a w2 ⟨i1,x1,x2,⟨dn,hd1,hi1⟩,h,S⟩
   cases ys1 with
   | nil =>
    rw [Kx.eq_1] at h
    refine Fr (Vb S Et rfl rfl rfl fun a S=>Ld ?_)
    replace S:=S.k6 3 4 11 12 13 14 rfl
    exact Tn (Fs (wp_cond_false ((S.tm rfl).trans (congrArg Value.bool (Il hd1 hi1))) (wp_exit (Ed (Ed (Gp (Tn (⟨x1,x2,h,S.nf [true] rfl ⟨rfl,trivial⟩⟩))))))))
   | cons y1 ys1 =>
    rw [Kx.eq_2] at h
    refine Fr (Vb S Et rfl rfl rfl fun a S=>Ld ?_)
    replace S:=S.k6 3 4 11 12 13 14 rfl
    refine Tn (Fs (wp_cond_true ((S.tm rfl).trans (congrArg Value.bool (Ht hd1 hi1))) (wp_skip (Tn (Fs (wp_block (Fs (Fg ?_))))))))
    obtain ⟨b2,o1,hm1,hr1⟩:=Ev (a:=a) (x:=.tmp 11) (y:=.tmp 13) (ty:=0) DE Af (Io hd1 hi1) rfl (S.tm rfl) (S.tm rfl)
    refine lv S (hr1 _) rfl ?_;clear S;intro a S
    clear hr1
    refine lv S (Fp isAgg56 sizeOf56 (off:=o1) (o:=0) (part:=(Gq.enc y1)) rfl rfl (S.tm rfl) (hm1.at S.emb0)) rfl fun a S=>Hs S zeroValue56 (cs:=[sV An,iV 0]) rfl rfl ?_;clear S;intro a w4 b3 hz2 hk2 S
    refine Ex S (S.tm rfl) (S.tm rfl) (i:=0) (off:=0) rfl sizeOf56 (vs:=(Gq.enc y1)) rfl rfl rfl rfl ?_;clear S;intro w5 hk3 S
    refine Dl (Fs (Fr (Vf CK S rfl rfl fun a S=>Vl isAgg9 0 S rfl rfl rfl rfl ?_)));clear S;intro a S
    obtain ⟨r1,hr2,h⟩:=Fa h
    refine Dw S (fun _=>Dp (vs:=[sV y1.Who]) ⟨(S.tm rfl),trivial⟩ call95) (Ij _ y1.Who _ hr2) rfl ?_;clear S;intro v1 a w6 hv1 hk4 hn1 S
    subst hv1
    refine Vu S Hj rfl rfl fun a S=>Dl (Fc h (S.tm rfl) (fun hb2 h=>?_) (fun hb2 h=>?_))
    ·refine Fr (Vk S rfl rfl fun a S=>Dl (wp_ret (Dt (Fl (Dt (Dt (Fl ?_)))))))
     refine Dt (Dt ?_)
     obtain rfl:=Option.some.inj h
     exact Ej S results133 rfl rfl
    ·refine wp_skip (Tn (Fs (Fr (Vf QL S rfl rfl fun a S=>Vl isAgg3 0 S rfl rfl rfl rfl fun a S=>Dw S (fun _=>Dp (vs:=[iV y1.Time,iV 0,iV 360000]) ⟨(S.tm rfl),rfl,rfl,trivial⟩ call55) (Fm _ y1.Time 0 360000 _ rfl) rfl ?_))));clear S;intro v2 a w7 hv2 hk5 hn2 S
     subst hv2
     refine Vu S Hj rfl rfl fun a S=>Ld ?_
     replace S:=(S.nl [.blk b3 (Gq.enc y1) 56,.map b1 (Gt Value.string Value.bool x1) x1.length] [true,true] rfl).k7 3 4 6 11 12 13 24 rfl
     refine Tn (Fc h (S.tm rfl) (fun hb3 h=>?_) (fun hb3 h=>?_))
     ·refine Fr (Vk S rfl rfl fun a S=>Dl (wp_ret (Dt (Fl (Dt (Dt (Fl ?_)))))))
      refine Dt (Dt ?_)
      obtain rfl:=Option.some.inj h
      exact Ej S results133 rfl rfl
     ·refine wp_skip (Tn (Fr (Vm S rfl rfl fun a S=>Vm S rfl rfl fun a S=>Hn 5 (fun a w'=>Keep [] w7 w' ∧ Sx w [] nov [.blk b3 (Gq.enc y1) 56,.map b1 (Gt Value.string Value.bool x1) x1.length] [(3,.map (some b1)),(6,.pointer (some ⟨b3,0,none⟩)),(11,Ab),(12,iV (Ah.length : Int)),(13,iV (i1 : Int)),(31,bV (x2 || (Ea x1 y1.Who false)))] 37 a w') ?_ ?_)))
      ·rcases Bool.eq_false_or_eq_true x2 with hb4 | hb4
       ·iterate 4 (refine Gn S rfl rfl rfl (Kp hb4) rfl ?_ rfl;clear S;intro a S)
        exact lv S (Jq (Ea x1 y1.Who false) hb4 (S.tm rfl) rfl) rfl fun a S=>Dl (⟨Keep.refl _ _,S.nf [true,true] rfl (subR rfl)⟩)
       ·refine Du S rfl rfl rfl hb4 (Vm S rfl rfl fun a S=>Du S rfl rfl rfl hb4 (Vf CK S rfl rfl fun a S=>Du S rfl rfl rfl hb4 (Vl isAgg9 0 S rfl rfl rfl rfl fun a S=>Du S rfl rfl rfl hb4 (lv S (Qa (kv:=Value.string) (vv:=Value.bool) (m:=x1) (key:=y1.Who) (z:=false) (S.map_at (i:=1) rfl) underlying200 (Mx underlying9) zeroValue4 (S.tm rfl) (S.tm rfl)) rfl fun a S=>lv S (Jr hb4 (S.tm rfl) (S.tm rfl)) rfl fun a S=>Dl ?_))))
        exact ⟨Keep.refl _ _,S.nf [true,true] rfl (subR rfl)⟩
      clear S;rintro a w8 ⟨hk6,S⟩
      refine Va S rfl rfl fun a S=>Dl (Fg (Vm S rfl rfl fun a S=>Vf CK S rfl rfl fun a S=>Vl isAgg9 0 S rfl rfl rfl rfl fun a S=>Pc (kv:=Value.string) (vv:=Value.bool) (m:=x1) (key:=y1.Who) (val:=true) S (i:=1) rfl underlying200 (Mx underlying9) (S.tm rfl) (S.tm rfl) rfl ?_));clear S;intro w9 hk7 S
      exact Ld (Ho (Tn (Fg (Vq S Gc rfl rfl rfl fun a S=>Vm S rfl rfl fun a S=>Dl (⟨ys1,⟨i1 + 1,(Gl x1 y1.Who true),(x2 || (Ea x1 y1.Who false)),⟨_,(hd1).trans (List.append_cons _ _ _),by simp [hi1]⟩,h,S.nf [false,true] rfl ⟨rfl,rfl,rfl,rfl,(congrArg (fun z=>some (Value.int .i64 z)) (Hu hd1 hi1 (Iz Af))),trivial⟩⟩,Nat.lt_succ_self _⟩)))))
  clear S h;rintro a w3 ⟨x1,x2,h,S⟩;rw [hj1] at h;clear hj1 j1
  refine Tn (Fs (Fr (Vm S rfl rfl fun a S=>Dl (Fc h (S.tm rfl) (fun hb5 h=>?_) (fun hb5 h=>?_)))))
  ·refine Fr (Vk S rfl rfl fun a S=>Dl (wp_ret (Dt ?_)))
   obtain rfl:=Option.some.inj h
   exact Ej S results133 rfl rfl
  ·refine wp_skip (Tn (Fr (Vk S rfl rfl fun a S=>Dl (wp_ret ?_))))
   obtain rfl:=Option.some.inj h
   exact Ej S results133 rfl rfl
set_option maxRecDepth 20000 in
theorem AG (w : World) (Cc : Value) (Cd : List Ii) (Cl : List Sq) (Cg : Slc (view w []) 3 Cc (Cl.map Sq.enc)) (Ch : Lh (Uu (view w [])) Cd Cl) (r : Int) (h : Pp Cd = some r) :
    Calls prog 134 [Cc].toArray w (Ret w [] fun _ v _=>v = iV r):=by
 refine Fe func134 rfl ntmps134 rfl fun a S=>?_
 unfold Pp at h
 replace S:=S.k1 0 rfl
 refine Fr (Vk S rfl rfl fun a S=>Dl (Fs (Fr (Vm S rfl rfl fun a S=>lv S (Fq DQ (S.tm rfl) (Uj Cg Ch)) rfl fun a S=>Vq S It rfl rfl rfl ?_))));clear S;intro a S
 refine Dl (Fc h (S.tm rfl) (fun hb1 h=>?_) (fun hb1 h=>?_))
 ·refine Fr (Vk S rfl rfl fun a S=>Dl (wp_ret (Dt ?_)))
  obtain rfl:=Option.some.inj h
  exact Ej S results134 rfl rfl
 ·refine wp_skip (Tn (Fs (Fr (Vm S rfl rfl fun a S=>lv S (Fq DQ (S.tm rfl) (Uj Cg Ch)) rfl fun a S=>lv S (Rm rfl) rfl fun a S=>Dl ?_))))
  replace S:=S.k4 0 8 9 10 rfl
  obtain ⟨j1,hj1,h⟩:=Ep h
  refine Eg (fun a w'=>j1 = some r ∧ Sx w [] nov [] [] 40 a w') ?_ ?_
  ·refine wp_block (Gx (fun (ys1 : List Ii) a w'=>∃ i1 : Nat,(∃ dn,Cd = dn ++ ys1 ∧ dn.length = i1) ∧ Jb Cd j1 ys1 i1 = some r ∧ Sx w [] nov [] [(0,Cc),(8,Cc),(9,iV (Cd.length : Int)),(10,iV (i1 : Int))] 40 a w') List.length Cd ⟨0,⟨[],rfl,rfl⟩,h,S.nf [] rfl (subR rfl)⟩ ?_)
   clear S h;rintro ys1 a w1 ⟨i1,⟨dn,hd1,hi1⟩,h,S⟩
   cases ys1 with
   | nil =>
    rw [Jb.eq_1] at h
    refine Fr (Vb S Et rfl rfl rfl fun a S=>Ld ?_)
    replace S:=S.k5 0 8 9 10 11 rfl
    exact Tn (Fs (wp_cond_false ((S.tm rfl).trans (congrArg Value.bool (Il hd1 hi1))) (wp_exit (Ed (Ed (Gp (Tn (⟨h,S.nf [] rfl trivial⟩))))))))
   | cons y1 ys1 =>
    rw [Jb.eq_2] at h
    refine Fr (Vb S Et rfl rfl rfl fun a S=>Ld ?_)
    replace S:=S.k5 0 8 9 10 11 rfl
    refine Tn (Fs (wp_cond_true ((S.tm rfl).trans (congrArg Value.bool (Ht hd1 hi1))) (wp_skip (Tn (Fs (wp_block (Fr (Vm S rfl rfl ?_))))))));clear S;intro a S
    obtain ⟨r1,hg1,hl1⟩:=Lh.at Ch (Io hd1 hi1)
    obtain ⟨u1,rfl,hs1⟩:=hl1
    obtain ⟨b1,o1,hm1,hr1⟩:=Ev (a:=a) (x:=.tmp 8) (y:=.tmp 10) (ty:=0) DQ Cg hg1 rfl (S.tm rfl) (S.tm rfl)
    refine lv S (hr1 _) rfl ?_;clear S;intro a S
    clear hr1
    refine lv S (Fp isAgg166 sizeOf166 (off:=o1) (o:=0) (part:=[sV y1.Who,iV y1.Fault,u1.val]) rfl rfl (S.tm rfl) (hm1.at S.emb0)) rfl fun a S=>Hs S zeroValue166 (cs:=[sV An,iV 0,.slice none 0 0]) rfl rfl ?_;clear S;intro a w3 b2 hz1 hk1 S
    refine Va S rfl rfl fun a S=>Ex S (S.tm rfl) (S.tm rfl) (i:=0) (off:=0) rfl sizeOf166 (vs:=[sV y1.Who,iV y1.Fault,u1.val]) rfl rfl rfl (Qz rfl (Qz rfl (Qz (Kq.one (Fj hs1)) rfl))) ?_;clear S;intro w4 hk2 S
    refine Dl (wp_block (Fr (Vf EU S rfl rfl fun a S=>Vl isAgg9 0 S rfl rfl rfl rfl ?_)));clear S;intro a S
    obtain ⟨r2,hr2,h⟩:=Fa h
    refine Dw S (fun _=>Dp (vs:=[sV y1.Who]) ⟨(S.tm rfl),trivial⟩ call95) (Ij _ y1.Who _ hr2) rfl ?_;clear S;intro v1 a w5 hv1 hk3 hn1 S
    subst hv1
    refine Vu S Hj rfl rfl fun a S=>Va S rfl rfl fun a S=>Ld ?_
    replace S:=(S.nl [.blk b2 [sV y1.Who,iV y1.Fault,u1.val] 166] [true] rfl).k7 0 3 4 8 9 10 15 rfl
    refine Tn (Fc h (S.tm rfl) (fun hb2 h=>?_) (fun hb2 h=>?_))
    ·refine Fr (Vk S rfl rfl fun a S=>Dl (wp_ret (Fl (Fl (Dt (Dt (Fl ?_)))))))
     refine Dt (Dt ?_)
     obtain rfl:=Option.some.inj h
     exact Ej S results134 rfl rfl
    ·refine Fr (Vf NG S rfl rfl fun a S=>Vl isAgg3 0 S rfl rfl rfl rfl fun a S=>Dw S (fun _=>Dp (vs:=[iV y1.Fault,iV 0,iV 8]) ⟨(S.tm rfl),rfl,rfl,trivial⟩ call55) (Fm _ y1.Fault 0 8 _ rfl) rfl ?_);clear S;intro v2 a w6 hv2 hk4 hn2 S
     subst hv2
     refine Vu S Hj rfl rfl fun a S=>Va S rfl rfl fun a S=>Dl (Fc h (S.tm rfl) (fun hb3 h=>?_) (fun hb3 h=>?_))
     ·refine Fr (Vk S rfl rfl fun a S=>Dl (wp_ret (Fl (Fl (Dt (Dt (Fl ?_)))))))
      refine Dt (Dt ?_)
      obtain rfl:=Option.some.inj h
      exact Ej S results134 rfl rfl
     ·refine Fs (Hd [] ([]) Tryz.mixed S rfl (by kernel_rfl) ?_);clear S;intro w7 hk5 hsel S
      refine Lw [0,1,2,3,4,5,6,7,8,9,10,11,12,13] hsel (by kernel_rfl) rfl ?_
      clear hsel
      refine Gm S rfl (Rm (S.tm rfl)) rfl fun a S=>Gm S rfl (It (S.tm rfl) rfl) rfl fun a S=>Gm S rfl (Rm (S.tm rfl)) rfl ?_;clear S;intro a S
      obtain ⟨j2,hj2,h⟩:=Ep h
      refine Ue 10 (fun a w'=>∃ c1,j2 c1 = some r ∧ Keep [] w7 w' ∧ Sx w [] nov [.blk b2 [sV y1.Who,iV y1.Fault,u1.val] 166] [(0,Cc),(8,Cc),(9,iV (Cd.length : Int)),(10,iV (i1 : Int)),(38,bV c1)] 40 a w') ?_ ?_
      ·rcases Bool.eq_false_or_eq_true (decide (0 < (i1 : Int))) with hb4 | hb4
       ·replace h:=Qc h hb4
        refine Ee S rfl rfl rfl rfl hb4 (Fb S (Fy EU (S.tm rfl)) rfl fun a S=>Ee S rfl rfl rfl rfl hb4 (Fb S (La isAgg9 (S.tm rfl) (S.cell (i:=0) rfl rfl)) rfl fun a S=>Ee S rfl rfl rfl rfl hb4 (Fb S (Rm (S.tm rfl)) rfl fun a S=>Ee S rfl rfl rfl rfl hb4 (Fb S (Rm (S.tm rfl)) rfl fun a S=>Ee S rfl rfl rfl rfl hb4 (Fb S (Iu (S.tm rfl) rfl) rfl fun a S=>Ee S rfl rfl rfl rfl hb4 ?_)))))
        obtain ⟨hc1,h⟩:=Ie h
        obtain ⟨r3,hg2,hl2⟩:=NC Ch hc1
        obtain ⟨u2,rfl,hs2⟩:=hl2
        obtain ⟨b3,o2,hm2,hr3⟩:=Ev (a:=a) (x:=.tmp 31) (y:=.tmp 33) (ty:=0) DQ Cg hg2 (Dx hc1).2 (S.tm rfl) (S.tm rfl)
        refine Fb S (hr3 _) rfl ?_;clear S;intro a S
        clear hr3
        exact Ee S rfl rfl rfl rfl hb4 (Fb S (Fy EU (S.tm rfl)) rfl fun a S=>Ee S rfl rfl rfl rfl hb4 (Fb S (Hm isAgg9 (off:=o2) (o:=0) (S.tm rfl) (hm2.at S.emb0) rfl) rfl fun a S=>Ee S rfl rfl rfl rfl hb4 (Fb S (HH (S.tm rfl) (S.tm rfl)) rfl fun a S=>Gm S rfl (Hg hb4 (S.tm rfl) (S.tm rfl)) rfl fun a S=>Hv (⟨_,h,Keep.refl _ _,S.nf [true] rfl (subR rfl)⟩))))
       ·replace h:=Qd h hb4
        iterate 9 (refine Nk S rfl rfl rfl rfl (Jh hb4) rfl ?_ rfl;clear S;intro a S)
        exact Gm S rfl (Hh true hb4 (S.tm rfl) rfl) rfl fun a S=>Hv (⟨_,h,Keep.refl _ _,S.nf [true] rfl (subR rfl)⟩)
      clear S h;rintro a w8 ⟨c1,h,hk6,S⟩;rw [hj2] at h;clear hj2 j2
      refine Gm S rfl (Ra (S.tm rfl)) rfl fun a S=>Hv ?_
      replace S:=S.n0.k5 0 8 9 10 25 rfl
      refine Tn (Fc h (S.tm rfl) (fun hb5 h=>?_) (fun hb5 h=>?_))
      ·refine Fr (Vk S rfl rfl fun a S=>Dl (wp_ret (Fl (Fl (Dt (Dt (Fl ?_)))))))
       refine Dt (Dt ?_)
       obtain rfl:=Option.some.inj h
       exact Ej S results134 rfl rfl
      ·exact wp_skip (Ho (Ho (Tn (Fg (Vq S Gc rfl rfl rfl fun a S=>Vm S rfl rfl fun a S=>Dl (⟨ys1,⟨i1 + 1,⟨_,(hd1).trans (List.append_cons _ _ _),by simp [hi1]⟩,h,S.nf [] rfl ⟨rfl,rfl,rfl,(congrArg (fun z=>some (Value.int .i64 z)) (Hu hd1 hi1 (Wy Cg Ch))),trivial⟩⟩,Nat.lt_succ_self _⟩))))))
  clear S h;rintro a w2 ⟨h,S⟩;rw [hj1] at h;clear hj1 j1
  refine Tn (Fr (Vk S rfl rfl fun a S=>Dl (wp_ret ?_)))
  obtain rfl:=Option.some.inj h
  exact Ej S results134 rfl rfl
set_option maxRecDepth 20000 in
theorem FU (w : World) (Ap : Dq) (Au : Dq) (Dd : Nat) (Dh : Int) (Da : (view w []) Dd = some (.cells [iV Dh].toArray 3 (0,0))) (r : Int) (h : Um Ap Au Dh = some r) :
    Calls prog 136 [.agg (Dq.enc Ap).toArray,.agg (Dq.enc Au).toArray,.pointer (some ⟨Dd,0,none⟩)].toArray w (Ret w [] fun _ v _=>v = iV r):=by
 refine Fe func136 rfl ntmps136 rfl fun a S=>?_
 unfold Um at h
 replace S:=S.k3 0 1 2 rfl
 refine Fr (Mn S (S.tm rfl) (cs:=(Dq.enc Ap)) rfl rfl ?_);clear S;intro a w1 b1 hz1 hk1 S
 refine Mn S (S.tm rfl) (cs:=(Dq.enc Au)) rfl rfl ?_;clear S;intro a w2 b2 hz2 hk2 S
 refine Vk S rfl rfl fun a S=>Dl (Fs (Hd [] ([]) Tryz.mixed S rfl (by kernel_rfl) ?_));clear S;intro w3 hk3 hsel S
 refine Lw [0,1,2,3,4,5,6,7,8,9] hsel (by kernel_rfl) rfl ?_
 clear hsel
 refine Gm S rfl (Fy Ze (S.tm rfl)) rfl fun a S=>Gm S rfl (La isAgg3 (S.tm rfl) (S.cell (i:=1) rfl rfl)) rfl fun a S=>Gm S rfl (Hm isAgg3 (off:=0) (o:=0) (S.tm rfl) ((Ru Da).at S.emb0) rfl) rfl ?_;clear S;intro a S
 obtain ⟨hc1,h⟩:=Ie h
 refine Gm S rfl (DL (S.tm rfl) (S.tm rfl) (Ud hc1)) rfl fun a S=>Gm S rfl (Fy Ze (S.tm rfl)) rfl fun a S=>Gm S rfl (La isAgg3 (S.tm rfl) (S.cell (i:=0) rfl rfl)) rfl fun a S=>Gm S rfl (Hm isAgg3 (off:=0) (o:=0) (S.tm rfl) ((Ru Da).at S.emb0) rfl) rfl ?_;clear S;intro a S
 obtain ⟨hc2,h⟩:=Ie h
 refine Gm S rfl (DL (S.tm rfl) (S.tm rfl) (Ud hc2)) rfl fun a S=>Gm S rfl (Iu (S.tm rfl) (S.tm rfl)) rfl fun a S=>Gm S rfl (Ra (S.tm rfl)) rfl fun a S=>Hv ?_
 replace S:=S.n0.k1 5 rfl
 refine Tn (wp_ret ?_)
 obtain rfl:=Option.some.inj h
 exact Ej S results136 rfl rfl
set_option maxRecDepth 20000 in
theorem Mu (w : World) (Aa : Value) (Av : List Dq) (Bn : (LEnt.own Aa 127 4 Av.length (Av.flatMap Dq.enc)).holds w) (Ap : Int) (Au : Int) (Be : Nat) (Bw : Int) (Cf : (view w (Aa.ownBlock.toList)) Be = some (.cells [iV Bw].toArray 3 (0,0))) (r : (List Dq)) (h : Hi Av Ap Au Bw = some r) :
    Calls prog 167 [Aa,iV Ap,iV Au,.func (.func 136) #[] #[.pointer (some ⟨Be,0,none⟩)]].toArray w (Ret w (Aa.ownBlock.toList) fun _ v w'=>(LEnt.own Aa 127 4 r.length (r.flatMap Dq.enc)).holds w' ∧ v = .tuple #[]):=by
 refine Mv (Aa.ownBlock.toList) [.own Aa 127 4 Av.length (Av.flatMap Dq.enc)] func167 rfl ntmps167 rfl (fun e he=>by simp only [List.mem_singleton] at he;subst he;exact Bn) (Lt _) (Nf _) fun a S=>?_
 unfold Hi at h
 replace S:=(S.nl [.own Aa 127 4 Av.length (Av.flatMap Dq.enc)] [true] rfl).k4 0 1 2 3 rfl
 refine Fr (Vm S rfl rfl fun a S=>Vq S Gc rfl rfl rfl fun a S=>Va S rfl rfl fun a S=>Dl ?_)
 replace S:=S.k5 0 1 2 3 8 rfl
 obtain ⟨j1,hj1,h⟩:=Ep h
 refine Eg (fun a w'=>∃ x1 : List Dq,j1 x1 = some r ∧ Sx w (Aa.ownBlock.toList) nov [.own Aa 127 4 x1.length (x1.flatMap Dq.enc)] [] 53 a w') ?_ ?_
 ·refine wp_block (Gx (fun (m1 : Nat) a w'=>∃ x1 : List Dq,∃ x2 : Int,Fi Au Ap Bw j1 m1 x1 x2 = some r ∧ Sx w (Aa.ownBlock.toList) nov [.own Aa 127 4 x1.length (x1.flatMap Dq.enc)] [(0,Aa),(1,iV Ap),(2,iV Au),(3,.func (.func 136) #[] #[.pointer (some ⟨Be,0,none⟩)]),(8,iV x2)] 53 a w') id ((Au - (W (Ap + 1))).toNat + 2) ⟨Av,W (Ap + 1),h,S.nf [true] rfl (subR rfl)⟩ ?_)
  clear S h;rintro m1 a w1 ⟨x1,x2,h,S⟩
  cases m1 with
  | zero=>rw [Fi.eq_1] at h;cases h
  | succ m1 =>
   rw [Fi.eq_2] at h
   refine Fs (Fr (Vm S rfl rfl fun a S=>Vm S rfl rfl fun a S=>Vb S Et rfl rfl rfl fun a S=>Dl (Fc h (S.tm rfl) (fun hb1 h=>?_) (fun hb1 h=>?_))))
   ·refine wp_skip (Tn (Fs (wp_block (Fr (Vm S rfl rfl fun a S=>Va S rfl rfl fun a S=>Dl ?_)))))
    replace S:=S.k6 0 1 2 3 8 9 rfl
    obtain ⟨j2,hj2,h⟩:=Ep h
    refine Eg (fun a w'=>∃ x3 : List Dq,j2 x3 = some r ∧ Sx w (Aa.ownBlock.toList) nov [.own Aa 127 4 x3.length (x3.flatMap Dq.enc)] [(0,Aa),(1,iV Ap),(2,iV Au),(3,.func (.func 136) #[] #[.pointer (some ⟨Be,0,none⟩)]),(8,iV x2)] 53 a w') ?_ ?_
    ·refine wp_block (Gx (fun (m2 : Nat) a w'=>∃ x3 : List Dq,∃ x4 : Int,En Ap Bw j2 m2 x3 x4 = some r ∧ Sx w (Aa.ownBlock.toList) nov [.own Aa 127 4 x3.length (x3.flatMap Dq.enc)] [(0,Aa),(1,iV Ap),(2,iV Au),(3,.func (.func 136) #[] #[.pointer (some ⟨Be,0,none⟩)]),(8,iV x2),(9,iV x4)] 53 a w') id ((x2 - Ap).toNat + 2) ⟨x1,x2,h,S.nf [true] rfl (subR rfl)⟩ ?_)
     clear S h;rintro m2 a w3 ⟨x3,x4,h,S⟩
     cases m2 with
     | zero=>rw [En.eq_1] at h;cases h
     | succ m2 =>
      rw [En.eq_2] at h
      refine Fs (Fs ?_)
      obtain ⟨j3,hj3,h⟩:=Ep h
      refine Eg (fun a w'=>∃ x5 : Bool,j3 x5 = some r ∧ Sx w (Aa.ownBlock.toList) nov [.own Aa 127 4 x3.length (x3.flatMap Dq.enc)] [(0,Aa),(1,iV Ap),(2,iV Au),(3,.func (.func 136) #[] #[.pointer (some ⟨Be,0,none⟩)]),(8,iV x2),(9,iV x4),(34,bV x5)] 53 a w') ?_ ?_
      ·rcases Bool.eq_false_or_eq_true (decide (Ap < x4)) with hb2 | hb2
       ·replace h:=Qc h hb2
        obtain ⟨hc1,h⟩:=Ie h
        obtain ⟨hc2,h⟩:=Ie h
        obtain ⟨r1,hr3,h⟩:=Fa h
        refine Hd [] ([]) Tryz.mixed S rfl (by kernel_rfl) ?_;clear S;intro w7 hk2 hsel S
        refine Eb 0 S hsel rfl rfl rfl (by kernel_rfl) (by kernel_rfl) rfl (fun _ hw=>(Rm (S.tm rfl))) fun a S=>Eb 1 S hsel rfl rfl rfl (by kernel_rfl) (by kernel_rfl) rfl (fun _ hw=>(Rm (S.tm rfl))) fun a S=>Eb 2 S hsel rfl rfl rfl (by kernel_rfl) (by kernel_rfl) rfl (fun _ hw=>(It (S.tm rfl) (S.tm rfl))) fun a S=>Eb 3 S hsel rfl rfl rfl (by kernel_rfl) (by kernel_rfl) rfl (fun _ hw=>(Rm (S.tm rfl))) fun a S=>Eu 4 S hsel rfl rfl rfl rfl hb2 rfl rfl (by kernel_rfl) (by kernel_rfl) rfl (fun _ hw=>(Rm (S.tm rfl))) fun a S=>Eu 5 S hsel rfl rfl rfl rfl hb2 rfl rfl (by kernel_rfl) (by kernel_rfl) rfl (fun _ hw=>(Rm (S.tm rfl))) fun a S=>Eu 6 S hsel rfl rfl rfl rfl hb2 rfl rfl (by kernel_rfl) (by kernel_rfl) rfl (fun _ hw=>(Rm (S.tm rfl))) ?_;clear S;intro a S
        obtain ⟨b3,hg3,hr4⟩:=Hq (a:=a) (x:=.tmp 23) (y:=.tmp 24) (ty:=0) Sb Dq.enc_ok S (i:=0) rfl (Dx hc1).1 (Dx hc1).2 (S.tm rfl) (S.tm rfl)
        refine Eu 7 S hsel rfl rfl rfl rfl hb2 rfl rfl (by kernel_rfl) (by kernel_rfl) rfl (fun _ hw=>(hr4 _)) ?_;clear S;intro a S
        clear hr4
        refine Eu 8 S hsel rfl rfl rfl rfl hb2 rfl rfl (by kernel_rfl) (by kernel_rfl) rfl (fun _ hw=>(Fp isAgg127 sizeOf127 (off:=x4.toNat * 4) (o:=0) (part:=(Dq.enc (nth x3 x4))) rfl rfl (S.tm rfl) ((Pi Dq.enc_ok S (i:=0) rfl hg3 (Dx hc1).1 (Ia (e':=.own Aa 127 4 x3.length (x3.flatMap Dq.enc)))).kept hw))) fun a S=>Eu 9 S hsel rfl rfl rfl rfl hb2 rfl rfl (by kernel_rfl) (by kernel_rfl) rfl (fun _ hw=>(Rm (S.tm rfl))) fun a S=>Eu 10 S hsel rfl rfl rfl rfl hb2 rfl rfl (by kernel_rfl) (by kernel_rfl) rfl (fun _ hw=>(Rm (S.tm rfl))) fun a S=>Eu 11 S hsel rfl rfl rfl rfl hb2 rfl rfl (by kernel_rfl) (by kernel_rfl) rfl (fun _ hw=>(Iu (S.tm rfl) rfl)) ?_;clear S;intro a S
        obtain ⟨b4,hg4,hr5⟩:=Hq (a:=a) (x:=.tmp 27) (y:=.tmp 29) (ty:=0) Sb Dq.enc_ok S (i:=0) rfl (Dx hc2).1 (Dx hc2).2 (S.tm rfl) (S.tm rfl)
        refine Eu 12 S hsel rfl rfl rfl rfl hb2 rfl rfl (by kernel_rfl) (by kernel_rfl) rfl (fun _ hw=>(hr5 _)) ?_;clear S;intro a S
        clear hr5
        refine Eu 13 S hsel rfl rfl rfl rfl hb2 rfl rfl (by kernel_rfl) (by kernel_rfl) rfl (fun _ hw=>(Fp isAgg127 sizeOf127 (off:=((W (x4 - 1)).toNat) * 4) (o:=0) (part:=(Dq.enc (nth x3 (W (x4 - 1))))) rfl rfl (S.tm rfl) ((Pi Dq.enc_ok S (i:=0) rfl hg4 (Dx hc2).1 (Ia (e':=.own Aa 127 4 x3.length (x3.flatMap Dq.enc)))).kept hw))) fun a S=>He 14 (by kernel_rfl) rfl (Du S rfl rfl rfl hb2 (Dw S (fun _=>Ts (cap:=[.pointer (some ⟨Be,0,none⟩)]) (S.tm rfl) (vs:=[.agg (Dq.enc (nth x3 x4)).toArray,.agg (Dq.enc (nth x3 (W (x4 - 1)))).toArray]) ⟨(S.tm rfl),(S.tm rfl),trivial⟩ call136) (FU _ (nth x3 x4) (nth x3 (W (x4 - 1))) Be Bw ((S.le_arg Ec) _ _ Cf) _ hr3) rfl ?_));clear S;intro v2 a w8 hv2 hk3 hn2 S
        subst hv2
        refine Ld (Ig hk3 (Lw [15,16] hsel (by kernel_rfl) rfl ?_))
        clear hsel
        refine Ee S rfl rfl rfl rfl hb2 (Fb S (Et (S.tm rfl) rfl) rfl fun a S=>Gm S rfl (Qu hb2 (S.tm rfl) (S.tm rfl)) rfl fun a S=>Hv ?_)
        replace S:=S.nk [.own Aa 127 4 x3.length (x3.flatMap Dq.enc)] [(0,Aa),(1,iV Ap),(2,iV Au),(3,.func (.func 136) #[] #[.pointer (some ⟨Be,0,none⟩)]),(8,iV x2),(9,iV x4),(22,.func (.func 136) #[] #[.pointer (some ⟨Be,0,none⟩)]),(23,Aa),(24,iV x4),(25,.pointer (some ⟨b3,x4.toNat * 4,none⟩)),(26,.agg (Dq.enc (nth x3 x4)).toArray),(27,Aa),(28,iV x4),(29,iV (W (x4 - 1))),(30,.pointer (some ⟨b4,((W (x4 - 1)).toNat) * 4,none⟩)),(31,.agg (Dq.enc (nth x3 (W (x4 - 1)))).toArray),(32,iV r1),(33,bV (decide (r1 < 0))),(34,bV (decide (r1 < 0)))] [true] rfl (subR rfl)
        exact Tn (⟨decide (r1 < 0),h,S.nf [true] rfl (subR rfl)⟩)
       ·replace h:=Qd h hb2
        refine Hd [] ([]) Tryz.mixed S rfl (by kernel_rfl) ?_;clear S;intro w9 hk4 hsel S
        refine Lw [0,1,2,3,4,5,6,7,8,9,10,11,12,13,14,15,16] hsel (by kernel_rfl) rfl ?_
        clear hsel
        refine Gm S rfl (Rm (S.tm rfl)) rfl fun a S=>Gm S rfl (Rm (S.tm rfl)) rfl fun a S=>Gm S rfl (It (S.tm rfl) (S.tm rfl)) rfl fun a S=>Gm S rfl (Rm (S.tm rfl)) rfl ?_;clear S;intro a S
        iterate 12 (refine Nk S rfl rfl rfl rfl (Jh hb2) rfl ?_ rfl;clear S;intro a S)
        refine Gm S rfl (Qv hb2 (S.tm rfl) rfl) rfl fun a S=>Hv ?_
        replace S:=S.k7 0 1 2 3 8 9 34 rfl
        exact Tn (⟨false,h,S.nf [true] rfl (subR rfl)⟩)
      clear S h;rintro a w5 ⟨x5,h,S⟩;rw [hj3] at h;clear hj3 j3
      refine Tn (Fc h (S.tm rfl) (fun hb3 h=>?_) (fun hb3 h=>?_))
      ·refine wp_skip (Tn (Fs (wp_block ?_)))
       obtain ⟨hc3,h⟩:=Ie h
       obtain ⟨hc4,h⟩:=Ie h
       obtain ⟨hc5,h⟩:=Ie h
       obtain ⟨hc6,h⟩:=Ie h
       refine Hd [15,17] ([]) Tryz.mixed S rfl (by kernel_rfl) ?_;clear S;intro w14 hk9 hsel S
       refine Gy 0 S hsel rfl rfl (by kernel_rfl) (by kernel_rfl) rfl (fun _=>(Rm (S.tm rfl))) fun a S=>Gy 1 S hsel rfl rfl (by kernel_rfl) (by kernel_rfl) rfl (fun _=>(Rm (S.tm rfl))) fun a S=>Gy 2 S hsel rfl rfl (by kernel_rfl) (by kernel_rfl) rfl (fun _=>(Rm (S.tm rfl))) fun a S=>Gy 3 S hsel rfl rfl (by kernel_rfl) (by kernel_rfl) rfl (fun _=>(Rm (S.tm rfl))) fun a S=>Gy 4 S hsel rfl rfl (by kernel_rfl) (by kernel_rfl) rfl (fun _=>(Iu (S.tm rfl) rfl)) fun a S=>Gy 5 S hsel rfl rfl (by kernel_rfl) (by kernel_rfl) rfl (fun _=>(Rm (S.tm rfl))) fun a S=>Gy 6 S hsel rfl rfl (by kernel_rfl) (by kernel_rfl) rfl (fun _=>(Rm (S.tm rfl))) fun a S=>Gy 7 S hsel rfl rfl (by kernel_rfl) (by kernel_rfl) rfl (fun _=>(Iu (S.tm rfl) rfl)) ?_;clear S;intro a S
       obtain ⟨b9,hg9,hr10⟩:=Hq (a:=a) (x:=.tmp 42) (y:=.tmp 44) (ty:=0) Sb Dq.enc_ok S (i:=0) rfl (Dx hc3).1 (Dx hc3).2 (S.tm rfl) (S.tm rfl)
       refine Gy 8 S hsel rfl rfl (by kernel_rfl) (by kernel_rfl) rfl (fun _=>(hr10 _)) ?_;clear S;intro a S
       clear hr10
       refine Eb 9 S hsel rfl (by kernel_rfl) (by kernel_rfl) (by kernel_rfl) (by kernel_rfl) rfl (fun _ hw=>(Fp isAgg127 sizeOf127 (off:=((W (x4 - 1)).toNat) * 4) (o:=0) (part:=(Dq.enc (nth x3 (W (x4 - 1))))) rfl rfl (S.tm rfl) ((Pi Dq.enc_ok S (i:=0) rfl hg9 (Dx hc3).1 (Ia (e':=.own Aa 127 4 x3.length (x3.flatMap Dq.enc)))).kept hw))) fun a S=>Gy 10 S hsel rfl rfl (by kernel_rfl) (by kernel_rfl) rfl (fun _=>(Rm (S.tm rfl))) fun a S=>Gy 11 S hsel rfl rfl (by kernel_rfl) (by kernel_rfl) rfl (fun _=>(Rm (S.tm rfl))) ?_;clear S;intro a S
       obtain ⟨b10,hg10,hr11⟩:=Hq (a:=a) (x:=.tmp 47) (y:=.tmp 48) (ty:=0) Sb Dq.enc_ok S (i:=0) rfl (Dx hc4).1 (Dx hc4).2 (S.tm rfl) (S.tm rfl)
       refine Gy 12 S hsel rfl rfl (by kernel_rfl) (by kernel_rfl) rfl (fun _=>(hr11 _)) ?_;clear S;intro a S
       clear hr11
       refine Eb 13 S hsel rfl (by kernel_rfl) (by kernel_rfl) (by kernel_rfl) (by kernel_rfl) rfl (fun _ hw=>(Fp isAgg127 sizeOf127 (off:=x4.toNat * 4) (o:=0) (part:=(Dq.enc (nth x3 x4))) rfl rfl (S.tm rfl) ((Pi Dq.enc_ok S (i:=0) rfl hg10 (Dx hc4).1 (Ia (e':=.own Aa 127 4 x3.length (x3.flatMap Dq.enc)))).kept hw))) ?_;clear S;intro a S
       obtain ⟨b11,hg11,hr12⟩:=Hq (a:=a) (x:=.tmp 37) (y:=.tmp 38) (ty:=0) Sb Dq.enc_ok S (i:=0) rfl (Dx hc5).1 (Dx hc5).2 (S.tm rfl) (S.tm rfl)
       refine Gy 14 S hsel rfl rfl (by kernel_rfl) (by kernel_rfl) rfl (fun _=>(hr12 _)) ?_;clear S;intro a S
       clear hr12
       refine Ym 15 (Aa.ownBlock.toList) rfl (by kernel_rfl) rfl (Qg (c:=0) (j:=x4.toNat) (nth x3 (W (x4 - 1))) Dq.enc_ok S (S.tm rfl) (S.tm rfl) (i:=0) rfl hg11 (Dx hc5).1 sizeOf127 (vs:=[sV ((nth x3 (W (x4 - 1))).Who),iV ((nth x3 (W (x4 - 1))).Rank),iV ((nth x3 (W (x4 - 1))).Time),iV ((nth x3 (W (x4 - 1))).Fault)]) rfl rfl rfl rfl rfl ?_);clear S;intro w16 hk11 S
       refine Ld (Yn ?_)
       obtain ⟨b12,hg12,hr13⟩:=Hq (a:=a) (x:=.tmp 39) (y:=.tmp 41) (ty:=0) Sb Dq.enc_ok S (i:=0) rfl (Dx hc6).1 (Dx hc6).2 (S.tm rfl) (S.tm rfl)
       refine Eb 16 S hsel rfl rfl rfl (by kernel_rfl) (by kernel_rfl) rfl (fun _ hw=>(hr13 _)) ?_;clear S;intro a S
       clear hr13
       refine He 17 (by kernel_rfl) rfl (Qg (c:=0) (j:=(W (x4 - 1)).toNat) (nth x3 x4) Dq.enc_ok S (S.tm rfl) (S.tm rfl) (i:=0) rfl hg12 (Dx hc6).1 sizeOf127 (vs:=[sV ((nth x3 x4).Who),iV ((nth x3 x4).Rank),iV ((nth x3 x4).Time),iV ((nth x3 x4).Fault)]) rfl rfl rfl rfl rfl ?_);clear S;intro w18 hk13 S
       refine Ld (Ig hk13 (Xi (by kernel_rfl) ?_))
       clear hsel
       replace S:=(S.nl [.own Aa 127 4 ((x3.set x4.toNat (nth x3 (W (x4 - 1)))).set ((W (x4 - 1)).toNat) (nth x3 x4)).length (((x3.set x4.toNat (nth x3 (W (x4 - 1)))).set ((W (x4 - 1)).toNat) (nth x3 x4)).flatMap Dq.enc)] [true] rfl).k6 0 1 2 3 8 9 rfl
       exact Ho (Tn (Fg (Vm S rfl rfl fun a S=>Vq S Iu rfl rfl rfl fun a S=>Va S rfl rfl fun a S=>Dl (⟨m2,⟨((x3.set x4.toNat (nth x3 (W (x4 - 1)))).set ((W (x4 - 1)).toNat) (nth x3 x4)),W (x4 - 1),h,S.nf [true] rfl ⟨rfl,rfl,rfl,rfl,rfl,rfl,trivial⟩⟩,Nat.lt_succ_self _⟩))))
      ·exact wp_exit (Ed (Ed (Gp (Tn (⟨x3,h,S.nf [true] rfl (subR rfl)⟩)))))
    clear S h;rintro a w4 ⟨x3,h,S⟩;rw [hj2] at h;clear hj2 j2
    exact Ho (Tn (Fg (Vm S rfl rfl fun a S=>Vq S Gc rfl rfl rfl fun a S=>Va S rfl rfl fun a S=>Dl (⟨m1,⟨x3,W (x2 + 1),h,S.nf [true] rfl ⟨rfl,rfl,rfl,rfl,rfl,trivial⟩⟩,Nat.lt_succ_self _⟩))))
   ·exact wp_exit (Ed (Ed (Gp (Tn (⟨x1,h,S.nf [true] rfl trivial⟩)))))
 clear S h;rintro a w2 ⟨x1,h,S⟩;rw [hj1] at h;clear hj1 j1
 obtain rfl:=Option.some.inj h
 exact Vg S results167 ⟨(S.holds _ (List.mem_of_getElem? (i:=0) rfl)),rfl⟩
theorem Se (w : World) (Aa : Value) (Av : List Dq) (Bn : (LEnt.own Aa 127 4 Av.length (Av.flatMap Dq.enc)).holds w) (Ba : Int) (Be : Nat) (Bw : Int) (Cf : (view w (Aa.ownBlock.toList)) Be = some (.cells [iV Bw].toArray 3 (0,0))) (r : (List Dq)) (h : Kd Av Ba Bw = some r) :
    Calls prog 156 [Aa,iV Ba,.func (.func 136) #[] #[.pointer (some ⟨Be,0,none⟩)]].toArray w (Ret w (Aa.ownBlock.toList) fun _ v w'=>(LEnt.own Aa 127 4 r.length (r.flatMap Dq.enc)).holds w' ∧ v = .tuple #[]):=by
 refine Mv (Aa.ownBlock.toList) [.own Aa 127 4 Av.length (Av.flatMap Dq.enc)] func156 rfl ntmps156 rfl (fun e he=>by simp only [List.mem_singleton] at he;subst he;exact Bn) (Lt _) (Nf _) fun a S=>?_
 unfold Kd at h
 replace S:=(S.nl [.own Aa 127 4 Av.length (Av.flatMap Dq.enc)] [true] rfl).k3 0 1 2 rfl
 refine Fr (Vk S rfl rfl fun a S=>Dz (Vm S rfl rfl fun a S=>Vk S rfl rfl fun a S=>Va S rfl rfl fun a S=>Ld ?_))
 refine Tn (Fs ?_)
 replace S:=S.k6 0 1 2 6 7 8 rfl
 obtain ⟨j1,hj1,h⟩:=Ep h
 refine Eg (fun a w'=>∃ x1 : List Dq,∃ x2 : Int,j1 x1 x2 = some r ∧ Sx w (Aa.ownBlock.toList) nov [.own Aa 127 4 x1.length (x1.flatMap Dq.enc)] [(0,Aa),(1,iV Ba),(2,.func (.func 136) #[] #[.pointer (some ⟨Be,0,none⟩)]),(6,iV 20),(7,iV x2)] 63 a w') ?_ ?_
 ·refine wp_block (Gx (fun (m1 : Nat) a w'=>∃ x1 : List Dq,∃ x2 : Int,∃ x3 : Int,Gd Ba Bw j1 m1 x1 x2 x3 = some r ∧ Sx w (Aa.ownBlock.toList) nov [.own Aa 127 4 x1.length (x1.flatMap Dq.enc)] [(0,Aa),(1,iV Ba),(2,.func (.func 136) #[] #[.pointer (some ⟨Be,0,none⟩)]),(6,iV 20),(7,iV x2),(8,iV x3)] 63 a w') id ((Ba - 20).toNat + 2) ⟨Av,0,20,h,S.nf [true] rfl (subR rfl)⟩ ?_)
  clear S h;rintro m1 a w1 ⟨x1,x2,x3,h,S⟩
  cases m1 with
  | zero=>rw [Gd.eq_1] at h;cases h
  | succ m1 =>
   rw [Gd.eq_2] at h
   refine Fs (Fr (Vm S rfl rfl fun a S=>Vm S rfl rfl fun a S=>Vb S Uv rfl rfl rfl fun a S=>Dl (Fc h (S.tm rfl) (fun hb1 h=>?_) (fun hb1 h=>?_))))
   ·refine wp_skip (Tn (wp_block (Fs (Fg ?_))))
    iterate 4 (refine Vm S rfl rfl ?_;clear S;intro a S)
    obtain ⟨r1,hr1,h⟩:=Fa h
    refine Pd 0 S rfl (fun _=>.own Aa 127 4 r1.length (r1.flatMap Dq.enc)) (fun _=>Dp (vs:=[Aa,iV x2,iV x3,.func (.func 136) #[] #[.pointer (some ⟨Be,0,none⟩)]]) ⟨(S.tm rfl),(S.tm rfl),(S.tm rfl),(S.tm rfl),trivial⟩ call167) (Mu _ Aa x1 (S.holds _ (List.mem_of_getElem? (i:=0) rfl)) x2 x3 Be Bw ((S.le_arg (Iv (i:=0) (e:=.own Aa 127 4 x1.length (x1.flatMap Dq.enc)) rfl)) _ _ Cf) _ hr1) rfl (fun _ _ _ h=>⟨h.1,fun _ hc=>hc⟩) ?_;clear S;intro v1 a w3 hv1 hk1 hn1 S
    replace hv1:=hv1.2
    subst hv1
    refine Dz (Vm S rfl rfl fun a S=>Va S rfl rfl fun a S=>Ld ?_)
    replace S:=(S.nl [.own Aa 127 4 r1.length (r1.flatMap Dq.enc)] [true] rfl).k6 0 1 2 6 7 8 rfl
    exact Tn (Fg (Vm S rfl rfl fun a S=>Vm S rfl rfl fun a S=>Vb S Gc rfl rfl rfl fun a S=>Va S rfl rfl fun a S=>Ld (Ho (Tn (⟨m1,⟨r1,x3,W (x3 + 20),h,S.nf [true] rfl ⟨rfl,rfl,rfl,rfl,rfl,rfl,trivial⟩⟩,Nat.lt_succ_self _⟩)))))
   ·exact wp_exit (Ed (Ed (Gp (Tn (⟨x1,x2,h,S.nf [true] rfl (subR rfl)⟩)))))
 clear S h;rintro a w2 ⟨x1,x2,h,S⟩;rw [hj1] at h;clear hj1 j1
 refine Tn (Fs (Fg ?_))
 iterate 4 (refine Vm S rfl rfl ?_;clear S;intro a S)
 obtain ⟨r2,hr2,h⟩:=Fa h
 refine Pd 0 S rfl (fun _=>.own Aa 127 4 r2.length (r2.flatMap Dq.enc)) (fun _=>Dp (vs:=[Aa,iV x2,iV Ba,.func (.func 136) #[] #[.pointer (some ⟨Be,0,none⟩)]]) ⟨(S.tm rfl),(S.tm rfl),(S.tm rfl),(S.tm rfl),trivial⟩ call167) (Mu _ Aa x1 (S.holds _ (List.mem_of_getElem? (i:=0) rfl)) x2 Ba Be Bw ((S.le_arg (Iv (i:=0) (e:=.own Aa 127 4 x1.length (x1.flatMap Dq.enc)) rfl)) _ _ Cf) _ hr2) rfl (fun _ _ _ h=>⟨h.1,fun _ hc=>hc⟩) ?_;clear S;intro v2 a w4 hv2 hk2 hn2 S
 replace hv2:=hv2.2
 subst hv2
 refine Dl ?_
 replace S:=(S.nl [.own Aa 127 4 r2.length (r2.flatMap Dq.enc)] [true] rfl).k2 1 6 rfl
 obtain ⟨j2,hj2,h⟩:=Ep h
 refine Eg (fun a w'=>j2 = some r ∧ Sx w (Aa.ownBlock.toList) nov [.own Aa 127 4 r2.length (r2.flatMap Dq.enc)] [] 63 a w') ?_ ?_
 ·refine wp_block (Gx (fun (m2 : Nat) a w'=>∃ x4 : Int,Ge Ba j2 m2 x4 = some r ∧ Sx w (Aa.ownBlock.toList) nov [.own Aa 127 4 r2.length (r2.flatMap Dq.enc)] [(1,iV Ba),(6,iV x4)] 63 a w') id ((Ba - 20).toNat + 2) ⟨20,h,S.nf [true] rfl (subR rfl)⟩ ?_)
  clear S h;rintro m2 a w5 ⟨x4,h,S⟩
  cases m2 with
  | zero=>rw [Ge.eq_1] at h;cases h
  | succ m2 =>
   rw [Ge.eq_2] at h
   refine Fs (Fr (Vm S rfl rfl fun a S=>Vm S rfl rfl fun a S=>Vb S Et rfl rfl rfl fun a S=>Dl (Fc h (S.tm rfl) (fun hb2 h=>?_) (fun hb2 h=>?_))))
   ·refine wp_skip (Tn (wp_block (Fr (Vm S rfl rfl fun a S=>Vu S (Yv rfl) rfl rfl fun a S=>Vk S rfl rfl fun a S=>Va S rfl rfl fun a S=>Dl ?_))))
    refine Fs ?_
    replace S:=S.k4 1 6 7 8 rfl
    obtain ⟨j3,hj3,h⟩:=Ep h
    refine Eg (fun a w'=>∃ x5 : Int,j3 x5 = some r ∧ Sx w (Aa.ownBlock.toList) nov [.own Aa 127 4 r2.length (r2.flatMap Dq.enc)] [(1,iV Ba),(6,iV x4),(7,iV x5)] 63 a w') ?_ ?_
    ·refine wp_block (Gx (fun (m3 : Nat) a w'=>∃ x5 : Int,∃ x6 : Int,Hc Ba j3 m3 x5 x6 = some r ∧ Sx w (Aa.ownBlock.toList) nov [.own Aa 127 4 r2.length (r2.flatMap Dq.enc)] [(1,iV Ba),(6,iV x4),(7,iV x5),(8,iV x6)] 63 a w') id ((Ba - (W (2 * x4))).toNat + 2) ⟨0,W (2 * x4),h,S.nf [true] rfl (subR rfl)⟩ ?_)
     clear S h;rintro m3 a w7 ⟨x5,x6,h,S⟩
     cases m3 with
     | zero=>rw [Hc.eq_1] at h;cases h
     | succ m3 =>
      rw [Hc.eq_2] at h
      refine Fs (Fr (Vm S rfl rfl fun a S=>Vm S rfl rfl fun a S=>Vb S Uv rfl rfl rfl fun a S=>Dl (Fc h (S.tm rfl) (fun hb3 h=>?_) (fun hb3 h=>?_))))
      ·refine wp_skip (Tn (wp_block (Fs ?_)))
       cases h
      ·exact wp_exit (Ed (Ed (Gp (Tn (⟨x5,h,S.nf [true] rfl (subR rfl)⟩)))))
    clear S h;rintro a w8 ⟨x5,h,S⟩;rw [hj3] at h;clear hj3 j3
    refine Tn (Fs (Fr (Vm S rfl rfl fun a S=>Vm S rfl rfl fun a S=>Vb S Gc rfl rfl rfl fun a S=>Va S rfl rfl fun a S=>Dl (Fs ?_))))
    refine Fg (Vm S rfl rfl fun a S=>Vm S rfl rfl fun a S=>Vb S Et rfl rfl rfl fun a S=>Dl (Fc h (S.tm rfl) (fun hb4 h=>?_) (fun hb4 h=>?_)))
    ·cases h
    ·exact wp_skip (Tn (Fg (Vm S rfl rfl fun a S=>Vq S Yv rfl rfl rfl fun a S=>Va S rfl rfl fun a S=>Ld (Ho (Tn (⟨m2,⟨W (x4 * 2),h,S.nf [true] rfl ⟨rfl,rfl,trivial⟩⟩,Nat.lt_succ_self _⟩))))))
   ·exact wp_exit (Ed (Ed (Gp (Tn (⟨h,S.nf [true] rfl trivial⟩)))))
 clear S h;rintro a w6 ⟨h,S⟩;rw [hj2] at h;clear hj2 j2
 obtain rfl:=Option.some.inj h
 exact Vg S results156 ⟨(S.holds _ (List.mem_of_getElem? (i:=0) rfl)),rfl⟩
theorem Rr (w : World) (Bd : Value) (Ac : List Dq) (Cq : (LEnt.own Bd 127 4 Ac.length (Ac.flatMap Dq.enc)).holds w) (Be : Nat) (Bw : Int) (Cf : (view w (Bd.ownBlock.toList)) Be = some (.cells [iV Bw].toArray 3 (0,0))) (r : (List Dq)) (h : Ir Ac Bw = some r) :
    Calls prog 135 [Bd,.func (.func 136) #[] #[.pointer (some ⟨Be,0,none⟩)]].toArray w (Ret w (Bd.ownBlock.toList) fun _ v w'=>(LEnt.own Bd 127 4 r.length (r.flatMap Dq.enc)).holds w' ∧ v = .tuple #[]):=by
 refine Mv (Bd.ownBlock.toList) [.own Bd 127 4 Ac.length (Ac.flatMap Dq.enc)] func135 rfl ntmps135 rfl (fun e he=>by simp only [List.mem_singleton] at he;subst he;exact Cq) (Lt _) (Nf _) fun a S=>?_
 unfold Ir at h
 replace S:=(S.nl [.own Bd 127 4 Ac.length (Ac.flatMap Dq.enc)] [true] rfl).k2 0 1 rfl
 refine Fg (Vm S rfl rfl fun a S=>Vm S rfl rfl fun a S=>lv S (Fq Sb (S.tm rfl) (Ph (S.own_at (i:=0) rfl))) rfl fun a S=>Vm S rfl rfl ?_);clear S;intro a S
 obtain ⟨r1,hr1,h⟩:=Fa h
 refine Pd 0 S rfl (fun _=>.own Bd 127 4 r1.length (r1.flatMap Dq.enc)) (fun _=>Dp (vs:=[Bd,iV (Ac.length : Int),.func (.func 136) #[] #[.pointer (some ⟨Be,0,none⟩)]]) ⟨(S.tm rfl),(S.tm rfl),(S.tm rfl),trivial⟩ call156) (Se _ Bd Ac (S.holds _ (List.mem_of_getElem? (i:=0) rfl)) (Ac.length : Int) Be Bw ((S.le_arg (Iv (i:=0) (e:=.own Bd 127 4 Ac.length (Ac.flatMap Dq.enc)) rfl)) _ _ Cf) _ hr1) rfl (fun _ _ _ h=>⟨h.1,fun _ hc=>hc⟩) ?_;clear S;intro v1 a w1 hv1 hk1 hn1 S
 replace hv1:=hv1.2
 subst hv1
 refine Ld ?_
 obtain rfl:=Option.some.inj h
 exact Vg S results135 ⟨(S.holds _ (List.mem_of_getElem? (i:=0) rfl)),rfl⟩
end Go.Proofs.YtfcmmengcdebnaaGreatDoor
