/- Each Go function computes its plain twin,by program. -/
import Derived.Test.YtjlcjcabljbolaaGreatDoorWk1
namespace Go.Proofs.YtjlcjcabljbolaaGreatDoor
open Go
open Go.Proofs.Tryz
set_option maxRecDepth 20000 in
theorem ED (w : World) (Ab : Dt) (r : Int) (h : Nd Ab = some r) :
    Calls prog 72 [.agg (Dt.enc Ab).toArray].toArray w (Ret w [] fun _ v _=>v = iV r):=by
 refine Fe func72 rfl ntmps72 rfl fun a S=>?_
 unfold Nd at h
 replace S:=S.k1 0 rfl
 refine Fr (My S (S.tm rfl) (cs:=(Dt.enc Ab)) rfl rfl ?_);clear S;intro a w1 b1 hz1 hk1 S
 refine Vk S rfl rfl fun a S=>Dl (Fs (wp_block (Fr (Vf Ri S rfl rfl fun a S=>Vl isAgg9 0 S rfl rfl rfl rfl ?_))));clear S;intro a S
 obtain ⟨r1,hr1,h⟩:=Fb h
 refine Ec S (fun _=>Dv (vs:=[sV Ab.Site]) ⟨(S.tm rfl),trivial⟩ call89) (Ie _ Ab.Site _ hr1) rfl ?_;clear S;intro v1 a w2 hv1 hk2 hn1 S
 subst hv1
 refine Vu S Hh rfl rfl fun a S=>Va S rfl rfl fun a S=>Dl (Fc h (S.tm rfl) (fun hb1 h=>?_) (fun hb1 h=>?_))
 ·refine Fr (Vk S rfl rfl fun a S=>Dl (wp_ret (Fq (Dy ?_))))
  obtain rfl:=Option.some.inj h
  exact Eo S results72 rfl rfl
 ·refine Fr (Vf Tk S rfl rfl fun a S=>Vl isAgg3 0 S rfl rfl rfl rfl fun a S=>Ec S (fun _=>Dv (vs:=[iV Ab.No,iV 1,iV 1000000]) ⟨(S.tm rfl),rfl,rfl,trivial⟩ call48) (Fk _ Ab.No 1 1000000 _ rfl) rfl ?_);clear S;intro v2 a w3 hv2 hk3 hn2 S
  subst hv2
  refine Vu S Hh rfl rfl fun a S=>Vm S rfl rfl fun a S=>Hj 5 (fun a w'=>Keep [] w3 w' ∧ Sx w [] nov [.blk b1 (Dt.enc Ab) 38] [(1,.pointer (some ⟨b1,0,none⟩)),(22,bV ((!(Dx Ab.No 1 1000000)) || (!(Ik Ab.At))))] 152 a w') ?_ ?_
  ·rcases Bool.eq_false_or_eq_true (!(Dx Ab.No 1 1000000)) with hb2 | hb2
   ·iterate 4 (refine Gt S rfl rfl rfl (Mh hb2) rfl ?_ rfl;clear S;intro a S)
    exact lv S (Kh (!(Ik Ab.At)) hb2 (S.tm rfl) rfl) rfl fun a S=>Dl (⟨Keep.refl _ _,S.nf [true] rfl (subR rfl)⟩)
   ·refine Ea S rfl rfl rfl hb2 (Vf Ui S rfl rfl fun a S=>Ea S rfl rfl rfl hb2 (Vl isAgg3 0 S rfl rfl rfl rfl fun a S=>Ea S rfl rfl rfl hb2 (Ec S (fun _=>Dv (vs:=[iV Ab.At]) ⟨(S.tm rfl),trivial⟩ call40) (Ss _ Ab.At _ rfl) rfl ?_)));clear S;intro v3 a w5 hv3 hk4 hn3 S
    subst hv3
    exact Ea S rfl rfl rfl hb2 (Vu S Hh rfl rfl fun a S=>lv S (Ki hb2 (S.tm rfl) (S.tm rfl)) rfl fun a S=>Dl (⟨hk4,S.nf [true] rfl (subR rfl)⟩))
  clear S;rintro a w4 ⟨hk5,S⟩
  refine Va S rfl rfl fun a S=>Dl (Fc h (S.tm rfl) (fun hb3 h=>?_) (fun hb3 h=>?_))
  ·refine Fr (Vk S rfl rfl fun a S=>Dl (wp_ret (Fq (Dy ?_))))
   obtain rfl:=Option.some.inj h
   exact Eo S results72 rfl rfl
  ·refine Fr (Vf Pm S rfl rfl fun a S=>Vl isAgg3 0 S rfl rfl rfl rfl fun a S=>Ec S (fun _=>Dv (vs:=[iV Ab.Kind,iV 1,iV 4]) ⟨(S.tm rfl),rfl,rfl,trivial⟩ call48) (Fk _ Ab.Kind 1 4 _ rfl) rfl ?_);clear S;intro v4 a w6 hv4 hk6 hn4 S
   subst hv4
   refine Vu S Hh rfl rfl fun a S=>Va S rfl rfl fun a S=>Dl (Fc h (S.tm rfl) (fun hb4 h=>?_) (fun hb4 h=>?_))
   ·refine Fr (Vk S rfl rfl fun a S=>Dl (wp_ret (Fq (Dy ?_))))
    obtain rfl:=Option.some.inj h
    exact Eo S results72 rfl rfl
   ·refine wp_skip (Ho (Tn (Fs (Hd [] ([]) Tryz.mixed S rfl (by kernel_rfl) ?_))));clear S;intro w7 hk7 hsel S
    refine Kz [0,1,2,3,4,5,6,7,8,9,10,11] hsel (by kernel_rfl) rfl ?_
    clear hsel
    refine Gk S rfl (Ge Pm (S.tm rfl)) rfl fun a S=>Gk S rfl (Mi isAgg3 (S.tm rfl) (S.cell (i:=0) rfl rfl)) rfl fun a S=>Gk S rfl (Im (S.tm rfl) rfl) rfl fun a S=>Gk S rfl (Ge Pm (S.tm rfl)) rfl fun a S=>Gk S rfl (Mi isAgg3 (S.tm rfl) (S.cell (i:=0) rfl rfl)) rfl fun a S=>Gk S rfl (Im (S.tm rfl) rfl) rfl fun a S=>Gk S rfl (Ge Pm (S.tm rfl)) rfl fun a S=>Gk S rfl (Mi isAgg3 (S.tm rfl) (S.cell (i:=0) rfl rfl)) rfl fun a S=>Gk S rfl (Im (S.tm rfl) rfl) rfl ?_;clear S;intro a S
    iterate 3 (refine Gk S rfl (Ra (S.tm rfl)) rfl ?_;clear S;intro a S)
    refine Ig ?_
    replace S:=(S.nl [.blk b1 (Dt.enc Ab) 38] [true] rfl).k4 1 3 4 5 rfl
    refine Tn (Fs (wp_block (Fs (Fr (Vm S rfl rfl fun a S=>Vu S Hh rfl rfl fun a S=>Vm S rfl rfl ?_)))));clear S;intro a S
    obtain ⟨j1,hj1,h⟩:=Eu h
    refine Hj 11 (fun a w'=>∃ c1,j1 c1 = some r ∧ Keep [] w7 w' ∧ Sx w [] nov [.blk b1 (Dt.enc Ab) 38] [(1,.pointer (some ⟨b1,0,none⟩)),(3,bV (decide (Ab.Kind = 1))),(4,bV (decide (Ab.Kind = 3))),(5,bV (decide (Ab.Kind = 4))),(51,bV c1)] 152 a w') ?_ ?_
    ·rcases Bool.eq_false_or_eq_true (!(decide (Ab.Kind = 4))) with hb5 | hb5
     ·replace h:=Qw h hb5
      refine Ea S rfl rfl rfl hb5 (Vf Ou S rfl rfl fun a S=>Ea S rfl rfl rfl hb5 (Vl isAgg9 0 S rfl rfl rfl rfl fun a S=>Ea S rfl rfl rfl hb5 ?_))
      obtain ⟨r2,hr2,h⟩:=Fb h
      refine Ec S (fun _=>Dv (vs:=[sV Ab.Who]) ⟨(S.tm rfl),trivial⟩ call89) (Ie _ Ab.Who _ hr2) rfl ?_;clear S;intro v5 a w9 hv5 hk8 hn5 S
      subst hv5
      refine Ea S rfl rfl rfl hb5 (Vu S Hh rfl rfl fun a S=>Ea S rfl rfl rfl hb5 (Vm S rfl rfl ?_));clear S;intro a S
      obtain ⟨j2,hj2,h⟩:=Eu h
      refine Hj 5 (fun a w'=>∃ c2,j2 c2 = some r ∧ Keep [] w9 w' ∧ Sx w [] nov [.blk b1 (Dt.enc Ab) 38] [(1,.pointer (some ⟨b1,0,none⟩)),(3,bV (decide (Ab.Kind = 1))),(4,bV (decide (Ab.Kind = 3))),(5,bV (decide (Ab.Kind = 4))),(40,bV (!(decide (Ab.Kind = 4)))),(50,bV c2)] 152 a w') ?_ ?_
      ·rcases Bool.eq_false_or_eq_true (!r2) with hb6 | hb6
       ·replace h:=Qw h hb6
        iterate 4 (refine Gt S rfl rfl rfl (Mh hb6) rfl ?_ rfl;clear S;intro a S)
        exact Ea S rfl rfl rfl hb5 (Vq S (Kh true hb6) rfl rfl rfl fun a S=>Dl (⟨_,h,Keep.refl _ _,S.nf [true] rfl (subR rfl)⟩))
       ·replace h:=Qx h hb6
        refine Ea S rfl rfl rfl hb6 (Vf Sr S rfl rfl fun a S=>Ea S rfl rfl rfl hb6 (Vl isAgg9 0 S rfl rfl rfl rfl fun a S=>Ea S rfl rfl rfl hb6 ?_))
        obtain ⟨r3,hr3,h⟩:=Fb h
        refine Ec S (fun _=>Dv (vs:=[sV Ab.Race]) ⟨(S.tm rfl),trivial⟩ call89) (Ie _ Ab.Race _ hr3) rfl ?_;clear S;intro v6 a w11 hv6 hk9 hn6 S
        subst hv6
        exact Ea S rfl rfl rfl hb6 (Vu S Hh rfl rfl fun a S=>Ea S rfl rfl rfl hb5 (lv S (Ki hb6 (S.tm rfl) (S.tm rfl)) rfl fun a S=>Dl (⟨_,h,hk9,S.nf [true] rfl (subR rfl)⟩)))
      clear S h;rintro a w10 ⟨c2,h,hk10,S⟩;rw [hj2] at h;clear hj2 j2
      exact lv S (Hm hb5 (S.tm rfl) (S.tm rfl)) rfl fun a S=>Dl (⟨_,h,(hk8).trans hk10,S.nf [true] rfl (subR rfl)⟩)
     ·replace h:=Qx h hb5
      iterate 5 (refine Gt S rfl rfl rfl (Jq hb5) rfl ?_ rfl;clear S;intro a S)
      iterate 4 (refine Zg S rfl rfl rfl rfl ?_;clear S;intro a S)
      exact Gt S rfl rfl rfl (Jq hb5) rfl (fun a S=>Vq S (Hn true hb5) rfl rfl rfl fun a S=>Dl (⟨_,h,Keep.refl _ _,S.nf [true] rfl (subR rfl)⟩)) rfl
    clear S h;rintro a w8 ⟨c1,h,hk11,S⟩;rw [hj1] at h;clear hj1 j1
    refine Va S rfl rfl fun a S=>Dl ?_
    obtain ⟨j3,hj3,h⟩:=Eu h
    refine En (fun a w'=>∃ x1 : Bool,j3 x1 = some r ∧ Sx w [] nov [.blk b1 (Dt.enc Ab) 38] [(1,.pointer (some ⟨b1,0,none⟩)),(3,bV (decide (Ab.Kind = 1))),(4,bV (decide (Ab.Kind = 3))),(5,bV (decide (Ab.Kind = 4))),(37,bV x1)] 152 a w') ?_ ?_
    ·refine Fc h (S.tm rfl) (fun hb7 h=>?_) (fun hb7 h=>?_)
     ·exact wp_skip (Tn (⟨c1,h,S.nf [true] rfl (subR rfl)⟩))
     ·refine Fg (Vm S rfl rfl fun a S=>Vm S rfl rfl fun a S=>Hj 4 (fun a w'=>Keep [] w8 w' ∧ Sx w [] nov [.blk b1 (Dt.enc Ab) 38] [(1,.pointer (some ⟨b1,0,none⟩)),(3,bV (decide (Ab.Kind = 1))),(4,bV (decide (Ab.Kind = 3))),(5,bV (decide (Ab.Kind = 4))),(57,bV ((decide (Ab.Kind = 1)) && (!decide (Ab.Club = An))))] 152 a w') ?_ ?_)
      ·rcases Bool.eq_false_or_eq_true (decide (Ab.Kind = 1)) with hb8 | hb8
       ·exact Ea S rfl rfl rfl hb8 (Vf Vj S rfl rfl fun a S=>Ea S rfl rfl rfl hb8 (Vl isAgg9 0 S rfl rfl rfl rfl fun a S=>Ea S rfl rfl rfl hb8 (Vq S BM rfl rfl rfl fun a S=>lv S (Hm hb8 (S.tm rfl) (S.tm rfl)) rfl fun a S=>Dl (⟨Keep.refl _ _,S.nf [true] rfl (subR rfl)⟩))))
       ·iterate 3 (refine Gt S rfl rfl rfl (Jq hb8) rfl ?_ rfl;clear S;intro a S)
        exact lv S (Hn (!decide (Ab.Club = An)) hb8 (S.tm rfl) rfl) rfl fun a S=>Dl (⟨Keep.refl _ _,S.nf [true] rfl (subR rfl)⟩)
      clear S;rintro a w13 ⟨hk12,S⟩
      refine Vm S rfl rfl ?_;clear S;intro a S
      obtain ⟨j4,hj4,h⟩:=Eu h
      refine Hj 5 (fun a w'=>∃ c3,j4 c3 = some r ∧ Keep [] w13 w' ∧ Sx w [] nov [.blk b1 (Dt.enc Ab) 38] [(1,.pointer (some ⟨b1,0,none⟩)),(3,bV (decide (Ab.Kind = 1))),(4,bV (decide (Ab.Kind = 3))),(5,bV (decide (Ab.Kind = 4))),(63,bV c3)] 152 a w') ?_ ?_
      ·rcases Bool.eq_false_or_eq_true ((decide (Ab.Kind = 1)) && (!decide (Ab.Club = An))) with hb9 | hb9
       ·replace h:=Qw h hb9
        refine Ea S rfl rfl rfl hb9 (Vf Vj S rfl rfl fun a S=>Ea S rfl rfl rfl hb9 (Vl isAgg9 0 S rfl rfl rfl rfl fun a S=>Ea S rfl rfl rfl hb9 ?_))
        obtain ⟨r4,hr4,h⟩:=Fb h
        refine Ec S (fun _=>Dv (vs:=[sV Ab.Club]) ⟨(S.tm rfl),trivial⟩ call89) (Ie _ Ab.Club _ hr4) rfl ?_;clear S;intro v7 a w15 hv7 hk13 hn7 S
        subst hv7
        exact Ea S rfl rfl rfl hb9 (Vu S Hh rfl rfl fun a S=>lv S (Hm hb9 (S.tm rfl) (S.tm rfl)) rfl fun a S=>Dl (⟨_,h,hk13,S.nf [true] rfl (subR rfl)⟩))
       ·replace h:=Qx h hb9
        iterate 4 (refine Gt S rfl rfl rfl (Jq hb9) rfl ?_ rfl;clear S;intro a S)
        exact Vq S (Hn true hb9) rfl rfl rfl fun a S=>Dl (⟨_,h,Keep.refl _ _,S.nf [true] rfl (subR rfl)⟩)
      clear S h;rintro a w14 ⟨c3,h,hk14,S⟩;rw [hj4] at h;clear hj4 j4
      exact Va S rfl rfl fun a S=>Dl (⟨c3,h,S.nf [true] rfl (subR rfl)⟩)
    clear S h;rintro a w12 ⟨x1,h,S⟩;rw [hj3] at h;clear hj3 j3
    refine Tn (Fc h (S.tm rfl) (fun hb10 h=>?_) (fun hb10 h=>?_))
    ·refine Fr (Vk S rfl rfl fun a S=>Dl (wp_ret (Fq (Dy ?_))))
     obtain rfl:=Option.some.inj h
     exact Eo S results72 rfl rfl
    ·refine Fs (Fr (Vm S rfl rfl fun a S=>Vm S rfl rfl fun a S=>Hj 2 (fun a w'=>Keep [] w12 w' ∧ Sx w [] nov [.blk b1 (Dt.enc Ab) 38] [(1,.pointer (some ⟨b1,0,none⟩)),(3,bV (decide (Ab.Kind = 1))),(4,bV (decide (Ab.Kind = 3))),(5,bV (decide (Ab.Kind = 4))),(68,bV ((decide (Ab.Kind = 1)) || (decide (Ab.Kind = 3))))] 152 a w') ?_ ?_))
     ·rcases Bool.eq_false_or_eq_true (decide (Ab.Kind = 1)) with hb11 | hb11
      ·exact Gt S rfl rfl rfl (Mh hb11) rfl (fun a S=>lv S (Kh (decide (Ab.Kind = 3)) hb11 (S.tm rfl) rfl) rfl fun a S=>Dl (⟨Keep.refl _ _,S.nf [true] rfl (subR rfl)⟩)) rfl
      ·exact Ea S rfl rfl rfl hb11 (Vm S rfl rfl fun a S=>lv S (Ki hb11 (S.tm rfl) (S.tm rfl)) rfl fun a S=>Dl (⟨Keep.refl _ _,S.nf [true] rfl (subR rfl)⟩))
     clear S;rintro a w16 ⟨hk15,S⟩
     refine Vm S rfl rfl fun a S=>Hj 5 (fun a w'=>Keep [] w16 w' ∧ Sx w [] nov [.blk b1 (Dt.enc Ab) 38] [(1,.pointer (some ⟨b1,0,none⟩)),(3,bV (decide (Ab.Kind = 1))),(4,bV (decide (Ab.Kind = 3))),(5,bV (decide (Ab.Kind = 4))),(74,bV (((decide (Ab.Kind = 1)) || (decide (Ab.Kind = 3))) && (!(Dx Ab.Time 0 360000))))] 152 a w') ?_ ?_
     ·rcases Bool.eq_false_or_eq_true ((decide (Ab.Kind = 1)) || (decide (Ab.Kind = 3))) with hb12 | hb12
      ·refine Ea S rfl rfl rfl hb12 (Vf Uj S rfl rfl fun a S=>Ea S rfl rfl rfl hb12 (Vl isAgg3 0 S rfl rfl rfl rfl fun a S=>Ea S rfl rfl rfl hb12 (Ec S (fun _=>Dv (vs:=[iV Ab.Time,iV 0,iV 360000]) ⟨(S.tm rfl),rfl,rfl,trivial⟩ call48) (Fk _ Ab.Time 0 360000 _ rfl) rfl ?_)));clear S;intro v8 a w18 hv8 hk16 hn8 S
       subst hv8
       exact Ea S rfl rfl rfl hb12 (Vu S Hh rfl rfl fun a S=>lv S (Hm hb12 (S.tm rfl) (S.tm rfl)) rfl fun a S=>Dl (⟨hk16,S.nf [true] rfl (subR rfl)⟩))
      ·iterate 4 (refine Gt S rfl rfl rfl (Jq hb12) rfl ?_ rfl;clear S;intro a S)
       exact lv S (Hn (!(Dx Ab.Time 0 360000)) hb12 (S.tm rfl) rfl) rfl fun a S=>Dl (⟨Keep.refl _ _,S.nf [true] rfl (subR rfl)⟩)
     clear S;rintro a w17 ⟨hk17,S⟩
     refine Va S rfl rfl fun a S=>Dl ?_
     obtain ⟨j5,hj5,h⟩:=Eu h
     refine En (fun a w'=>∃ x2 : Bool,j5 x2 = some r ∧ Sx w [] nov [.blk b1 (Dt.enc Ab) 38] [(1,.pointer (some ⟨b1,0,none⟩)),(3,bV (decide (Ab.Kind = 1))),(4,bV (decide (Ab.Kind = 3))),(5,bV (decide (Ab.Kind = 4))),(64,bV x2)] 152 a w') ?_ ?_
     ·refine Fc h (S.tm rfl) (fun hb13 h=>?_) (fun hb13 h=>?_)
      ·exact wp_skip (Tn (⟨(((decide (Ab.Kind = 1)) || (decide (Ab.Kind = 3))) && (!(Dx Ab.Time 0 360000))),h,S.nf [true] rfl (subR rfl)⟩))
      ·refine Fg (Vm S rfl rfl fun a S=>Vm S rfl rfl fun a S=>Hj 5 (fun a w'=>Keep [] w17 w' ∧ Sx w [] nov [.blk b1 (Dt.enc Ab) 38] [(1,.pointer (some ⟨b1,0,none⟩)),(3,bV (decide (Ab.Kind = 1))),(4,bV (decide (Ab.Kind = 3))),(5,bV (decide (Ab.Kind = 4))),(81,bV ((decide (Ab.Kind = 3)) && (!(Dx Ab.Fault 0 8))))] 152 a w') ?_ ?_)
       ·rcases Bool.eq_false_or_eq_true (decide (Ab.Kind = 3)) with hb14 | hb14
        ·refine Ea S rfl rfl rfl hb14 (Vf Wf S rfl rfl fun a S=>Ea S rfl rfl rfl hb14 (Vl isAgg3 0 S rfl rfl rfl rfl fun a S=>Ea S rfl rfl rfl hb14 (Ec S (fun _=>Dv (vs:=[iV Ab.Fault,iV 0,iV 8]) ⟨(S.tm rfl),rfl,rfl,trivial⟩ call48) (Fk _ Ab.Fault 0 8 _ rfl) rfl ?_)));clear S;intro v9 a w21 hv9 hk18 hn9 S
         subst hv9
         exact Ea S rfl rfl rfl hb14 (Vu S Hh rfl rfl fun a S=>lv S (Hm hb14 (S.tm rfl) (S.tm rfl)) rfl fun a S=>Dl (⟨hk18,S.nf [true] rfl (subR rfl)⟩))
        ·iterate 4 (refine Gt S rfl rfl rfl (Jq hb14) rfl ?_ rfl;clear S;intro a S)
         exact lv S (Hn (!(Dx Ab.Fault 0 8)) hb14 (S.tm rfl) rfl) rfl fun a S=>Dl (⟨Keep.refl _ _,S.nf [true] rfl (subR rfl)⟩)
       clear S;rintro a w20 ⟨hk19,S⟩
       exact Va S rfl rfl fun a S=>Dl (⟨((decide (Ab.Kind = 3)) && (!(Dx Ab.Fault 0 8))),h,S.nf [true] rfl (subR rfl)⟩)
     clear S h;rintro a w19 ⟨x2,h,S⟩;rw [hj5] at h;clear hj5 j5
     refine Tn (Fc h (S.tm rfl) (fun hb15 h=>?_) (fun hb15 h=>?_))
     ·refine Fr (Vk S rfl rfl fun a S=>Dl (wp_ret (Fq (Dy ?_))))
      obtain rfl:=Option.some.inj h
      exact Eo S results72 rfl rfl
     ·refine Fr (Vm S rfl rfl fun a S=>Vm S rfl rfl ?_);clear S;intro a S
      obtain ⟨j6,hj6,h⟩:=Eu h
      refine Hj 5 (fun a w'=>∃ c4,j6 c4 = some r ∧ Keep [] w19 w' ∧ Sx w [] nov [.blk b1 (Dt.enc Ab) 38] [(1,.pointer (some ⟨b1,0,none⟩)),(3,bV (decide (Ab.Kind = 1))),(4,bV (decide (Ab.Kind = 3))),(5,bV (decide (Ab.Kind = 4))),(89,bV c4)] 152 a w') ?_ ?_
      ·rcases Bool.eq_false_or_eq_true (decide (Ab.Kind = 4)) with hb16 | hb16
       ·replace h:=Qw h hb16
        refine Ea S rfl rfl rfl hb16 (Vf Yg S rfl rfl fun a S=>Ea S rfl rfl rfl hb16 (Vl isAgg9 0 S rfl rfl rfl rfl fun a S=>Ea S rfl rfl rfl hb16 ?_))
        obtain ⟨r5,hr5,h⟩:=Fb h
        refine Ec S (fun _=>Dv (vs:=[sV Ab.Of]) ⟨(S.tm rfl),trivial⟩ call89) (Ie _ Ab.Of _ hr5) rfl ?_;clear S;intro v10 a w23 hv10 hk20 hn10 S
        subst hv10
        exact Ea S rfl rfl rfl hb16 (Vu S Hh rfl rfl fun a S=>lv S (Hm hb16 (S.tm rfl) (S.tm rfl)) rfl fun a S=>Dl (⟨_,h,hk20,S.nf [true] rfl (subR rfl)⟩))
       ·replace h:=Qx h hb16
        iterate 4 (refine Gt S rfl rfl rfl (Jq hb16) rfl ?_ rfl;clear S;intro a S)
        exact Vq S (Hn true hb16) rfl rfl rfl fun a S=>Dl (⟨_,h,Keep.refl _ _,S.nf [true] rfl (subR rfl)⟩)
      clear S h;rintro a w22 ⟨c4,h,hk21,S⟩;rw [hj6] at h;clear hj6 j6
      refine Va S rfl rfl fun a S=>Dl (Fc h (S.tm rfl) (fun hb17 h=>?_) (fun hb17 h=>?_))
      ·refine Fr (Vk S rfl rfl fun a S=>Dl (wp_ret (Fq (Dy ?_))))
       obtain rfl:=Option.some.inj h
       exact Eo S results72 rfl rfl
      ·refine Fr (Vm S rfl rfl fun a S=>Vm S rfl rfl fun a S=>Hj 5 (fun a w'=>Keep [] w22 w' ∧ Sx w [] nov [.blk b1 (Dt.enc Ab) 38] [(1,.pointer (some ⟨b1,0,none⟩)),(3,bV (decide (Ab.Kind = 1))),(4,bV (decide (Ab.Kind = 3))),(5,bV (decide (Ab.Kind = 4))),(97,bV ((decide (Ab.Kind = 4)) && (!(Dx Ab.Other 1 1000000))))] 152 a w') ?_ ?_)
       ·rcases Bool.eq_false_or_eq_true (decide (Ab.Kind = 4)) with hb18 | hb18
        ·refine Ea S rfl rfl rfl hb18 (Vf Vn S rfl rfl fun a S=>Ea S rfl rfl rfl hb18 (Vl isAgg3 0 S rfl rfl rfl rfl fun a S=>Ea S rfl rfl rfl hb18 (Ec S (fun _=>Dv (vs:=[iV Ab.Other,iV 1,iV 1000000]) ⟨(S.tm rfl),rfl,rfl,trivial⟩ call48) (Fk _ Ab.Other 1 1000000 _ rfl) rfl ?_)));clear S;intro v11 a w25 hv11 hk22 hn11 S
         subst hv11
         exact Ea S rfl rfl rfl hb18 (Vu S Hh rfl rfl fun a S=>lv S (Hm hb18 (S.tm rfl) (S.tm rfl)) rfl fun a S=>Dl (⟨hk22,S.nf [true] rfl (subR rfl)⟩))
        ·iterate 4 (refine Gt S rfl rfl rfl (Jq hb18) rfl ?_ rfl;clear S;intro a S)
         exact lv S (Hn (!(Dx Ab.Other 1 1000000)) hb18 (S.tm rfl) rfl) rfl fun a S=>Dl (⟨Keep.refl _ _,S.nf [true] rfl (subR rfl)⟩)
       clear S;rintro a w24 ⟨hk23,S⟩
       refine Va S rfl rfl fun a S=>Dl (Fc h (S.tm rfl) (fun hb19 h=>?_) (fun hb19 h=>?_))
       ·refine Fr (Vk S rfl rfl fun a S=>Dl (wp_ret (Fq (Dy ?_))))
        obtain rfl:=Option.some.inj h
        exact Eo S results72 rfl rfl
       ·refine wp_skip (Ho (Tn (Fr (Vf Ri S rfl rfl fun a S=>Vl isAgg9 0 S rfl rfl rfl rfl fun a S=>Vf Tk S rfl rfl fun a S=>Vl isAgg3 0 S rfl rfl rfl rfl fun a S=>Vf Ui S rfl rfl fun a S=>Vl isAgg3 0 S rfl rfl rfl rfl ?_))));clear S;intro a S
        refine Vf Pm S rfl rfl fun a S=>Vl isAgg3 0 S rfl rfl rfl rfl fun a S=>lv S (Mj JL (pv:=[(0,sV Ab.Site),(1,iV Ab.No),(2,iV Ab.At),(3,iV Ab.Kind)]) ⟨rfl,(S.tm rfl),rfl,(S.tm rfl),rfl,(S.tm rfl),rfl,(S.tm rfl),trivial⟩ (cs:=[sV Ab.Site,iV Ab.No,iV Ab.At,iV Ab.Kind,sV An,sV An,sV An,iV 0,iV 0,sV An,iV 0]) (by kernel_rfl)) rfl fun a S=>Hz S zeroValue38 (cs:=[sV An,iV 0,iV 0,iV 0,sV An,sV An,sV An,iV 0,iV 0,sV An,iV 0]) rfl rfl ?_;clear S;intro a w26 b2 hz2 hk24 S
        refine Fh S (S.tm rfl) (S.tm rfl) (i:=0) (off:=0) rfl sizeOf38 (vs:=(Dt.enc (Dt.mk Ab.Site Ab.No Ab.At Ab.Kind An An An 0 0 An 0))) rfl rfl rfl rfl ?_;clear S;intro w27 hk25 S
        refine Ld ?_
        replace S:=(S.nl [.blk b2 (Dt.enc (Dt.mk Ab.Site Ab.No Ab.At Ab.Kind An An An 0 0 An 0)) 38,.blk b1 (Dt.enc Ab) 38] [true,true] rfl).k5 1 3 4 5 6 rfl
        refine Tn (Fs ?_)
        obtain ⟨j7,hj7,h⟩:=Eu h
        refine En (fun a w'=>∃ x3 : ByteArray,∃ x4 : ByteArray,∃ x5 : ByteArray,∃ x6 : Int,∃ x7 : Int,∃ x8 : ByteArray,∃ x9 : Int,j7 x3 x4 x5 x6 x7 x8 x9 = some r ∧ Sx w [] nov [.blk b2 (Dt.enc (Dt.mk Ab.Site Ab.No Ab.At Ab.Kind x3 x4 x5 x6 x7 x8 x9)) 38,.blk b1 (Dt.enc Ab) 38] [(1,.pointer (some ⟨b1,0,none⟩)),(6,.pointer (some ⟨b2,0,none⟩))] 152 a w') ?_ ?_
        ·refine wp_block (Fr (Vm S rfl rfl fun a S=>Va S rfl rfl fun a S=>Dl ?_))
         obtain ⟨j8,hj8,h⟩:=Eu h
         refine En (fun a w'=>∃ x10 : ByteArray,∃ x11 : ByteArray,∃ x12 : ByteArray,∃ x13 : Int,∃ x14 : Int,∃ x15 : ByteArray,∃ x16 : Int,j8 x10 x11 x12 x13 x14 x15 x16 = some r ∧ Sx w [] nov [.blk b2 (Dt.enc (Dt.mk Ab.Site Ab.No Ab.At Ab.Kind x10 x11 x12 x13 x14 x15 x16)) 38,.blk b1 (Dt.enc Ab) 38] [(1,.pointer (some ⟨b1,0,none⟩)),(6,.pointer (some ⟨b2,0,none⟩))] 152 a w') ?_ ?_
         ·refine Fc h (S.tm rfl) (fun hb20 h=>?_) (fun hb20 h=>?_)
          ·refine Hd [] ([b2]) Tryz.mixed S rfl (by kernel_rfl) ?_;clear S;intro w34 hk30 hsel S
           refine Ef 0 S hsel rfl rfl rfl (by kernel_rfl) (by kernel_rfl) rfl (fun _ hw=>(Ge Ou (S.tm rfl))) fun a S=>Ef 1 S hsel rfl rfl rfl (by kernel_rfl) (by kernel_rfl) rfl (fun _ hw=>(Hp isAgg9 (off:=0) (o:=4) (S.tm rfl) ((S.blk_mem (i:=1) (cells:=(Dt.enc Ab)) (b:=b1) (T:=38) rfl (Mk (i:=0) (j:=1) (e:=.blk b2 (Dt.enc (Dt.mk Ab.Site Ab.No Ab.At Ab.Kind An An An 0 0 An 0)) 38) (e':=.blk b1 (Dt.enc Ab) 38) S rfl rfl rfl)).kept hw) rfl)) fun a S=>Ef 2 S hsel rfl rfl rfl (by kernel_rfl) (by kernel_rfl) rfl (fun _ hw=>(Ge Vj (S.tm rfl))) fun a S=>Ef 3 S hsel rfl rfl rfl (by kernel_rfl) (by kernel_rfl) rfl (fun _ hw=>(Hp isAgg9 (off:=0) (o:=5) (S.tm rfl) ((S.blk_mem (i:=1) (cells:=(Dt.enc Ab)) (b:=b1) (T:=38) rfl (Mk (i:=0) (j:=1) (e:=.blk b2 (Dt.enc (Dt.mk Ab.Site Ab.No Ab.At Ab.Kind An An An 0 0 An 0)) 38) (e':=.blk b1 (Dt.enc Ab) 38) S rfl rfl rfl)).kept hw) rfl)) fun a S=>Ef 4 S hsel rfl rfl rfl (by kernel_rfl) (by kernel_rfl) rfl (fun _ hw=>(Ge Sr (S.tm rfl))) fun a S=>Ef 5 S hsel rfl rfl rfl (by kernel_rfl) (by kernel_rfl) rfl (fun _ hw=>(Hp isAgg9 (off:=0) (o:=6) (S.tm rfl) ((S.blk_mem (i:=1) (cells:=(Dt.enc Ab)) (b:=b1) (T:=38) rfl (Mk (i:=0) (j:=1) (e:=.blk b2 (Dt.enc (Dt.mk Ab.Site Ab.No Ab.At Ab.Kind An An An 0 0 An 0)) 38) (e':=.blk b1 (Dt.enc Ab) 38) S rfl rfl rfl)).kept hw) rfl)) fun a S=>Ef 6 S hsel rfl rfl rfl (by kernel_rfl) (by kernel_rfl) rfl (fun _ hw=>(Ge Uj (S.tm rfl))) fun a S=>Ef 7 S hsel rfl rfl rfl (by kernel_rfl) (by kernel_rfl) rfl (fun _ hw=>(Hp isAgg3 (off:=0) (o:=7) (S.tm rfl) ((S.blk_mem (i:=1) (cells:=(Dt.enc Ab)) (b:=b1) (T:=38) rfl (Mk (i:=0) (j:=1) (e:=.blk b2 (Dt.enc (Dt.mk Ab.Site Ab.No Ab.At Ab.Kind An An An 0 0 An 0)) 38) (e':=.blk b1 (Dt.enc Ab) 38) S rfl rfl rfl)).kept hw) rfl)) ?_;clear S;intro a S
           refine Ef 8 S hsel rfl rfl rfl (by kernel_rfl) (by kernel_rfl) rfl (fun _ hw=>(Ge Ou (S.tm rfl))) fun a S=>Gw 9 (by kernel_rfl) rfl (Fh S (S.tm rfl) (S.tm rfl) (i:=0) (off:=4) rfl sizeOf9 (vs:=[sV Ab.Who]) rfl rfl rfl rfl ?_);clear S;intro w35 hk31 S
           refine Ld (Hx hk31 (Ef 10 S hsel rfl rfl rfl (by kernel_rfl) (by kernel_rfl) rfl (fun _ hw=>(Ge Vj (S.tm rfl))) fun a S=>Gw 11 (by kernel_rfl) rfl (Fh S (S.tm rfl) (S.tm rfl) (i:=0) (off:=5) rfl sizeOf9 (vs:=[sV Ab.Club]) rfl rfl rfl rfl ?_)));clear S;intro w36 hk32 S
           refine Ld (Hx hk32 (Ef 12 S hsel rfl rfl rfl (by kernel_rfl) (by kernel_rfl) rfl (fun _ hw=>(Ge Sr (S.tm rfl))) fun a S=>Gw 13 (by kernel_rfl) rfl (Fh S (S.tm rfl) (S.tm rfl) (i:=0) (off:=6) rfl sizeOf9 (vs:=[sV Ab.Race]) rfl rfl rfl rfl ?_)));clear S;intro w37 hk33 S
           refine Ld (Hx hk33 (Ef 14 S hsel rfl rfl rfl (by kernel_rfl) (by kernel_rfl) rfl (fun _ hw=>(Ge Uj (S.tm rfl))) fun a S=>Gw 15 (by kernel_rfl) rfl (Fh S (S.tm rfl) (S.tm rfl) (i:=0) (off:=7) rfl sizeOf3 (vs:=[iV Ab.Time]) rfl rfl rfl rfl ?_)));clear S;intro w38 hk34 S
           refine Ld (Hx hk34 (Wu (by kernel_rfl) ?_))
           clear hsel
           replace S:=(S.nl [.blk b2 (Dt.enc (Dt.mk Ab.Site Ab.No Ab.At Ab.Kind Ab.Who Ab.Club Ab.Race Ab.Time 0 An 0)) 38,.blk b1 (Dt.enc Ab) 38] [true,true] rfl).k2 1 6 rfl
           exact Tn (⟨Ab.Who,Ab.Club,Ab.Race,Ab.Time,0,An,0,h,S.nf [true,true] rfl (subR rfl)⟩)
          ·refine Fr (Vm S rfl rfl fun a S=>Va S rfl rfl fun a S=>Dl ?_)
           obtain ⟨j9,hj9,h⟩:=Eu h
           refine En (fun a w'=>∃ x17 : ByteArray,∃ x18 : ByteArray,∃ x19 : Int,∃ x20 : Int,∃ x21 : ByteArray,∃ x22 : Int,j9 x17 x18 x19 x20 x21 x22 = some r ∧ Sx w [] nov [.blk b2 (Dt.enc (Dt.mk Ab.Site Ab.No Ab.At Ab.Kind x17 An x18 x19 x20 x21 x22)) 38,.blk b1 (Dt.enc Ab) 38] [(1,.pointer (some ⟨b1,0,none⟩)),(6,.pointer (some ⟨b2,0,none⟩))] 152 a w') ?_ ?_
           ·refine Fc h (S.tm rfl) (fun hb21 h=>?_) (fun hb21 h=>?_)
            ·refine Hd [] ([b2]) Tryz.mixed S rfl (by kernel_rfl) ?_;clear S;intro w44 hk39 hsel S
             refine Ef 0 S hsel rfl rfl rfl (by kernel_rfl) (by kernel_rfl) rfl (fun _ hw=>(Ge Ou (S.tm rfl))) fun a S=>Ef 1 S hsel rfl rfl rfl (by kernel_rfl) (by kernel_rfl) rfl (fun _ hw=>(Hp isAgg9 (off:=0) (o:=4) (S.tm rfl) ((S.blk_mem (i:=1) (cells:=(Dt.enc Ab)) (b:=b1) (T:=38) rfl (Mk (i:=0) (j:=1) (e:=.blk b2 (Dt.enc (Dt.mk Ab.Site Ab.No Ab.At Ab.Kind An An An 0 0 An 0)) 38) (e':=.blk b1 (Dt.enc Ab) 38) S rfl rfl rfl)).kept hw) rfl)) fun a S=>Ef 2 S hsel rfl rfl rfl (by kernel_rfl) (by kernel_rfl) rfl (fun _ hw=>(Ge Sr (S.tm rfl))) fun a S=>Ef 3 S hsel rfl rfl rfl (by kernel_rfl) (by kernel_rfl) rfl (fun _ hw=>(Hp isAgg9 (off:=0) (o:=6) (S.tm rfl) ((S.blk_mem (i:=1) (cells:=(Dt.enc Ab)) (b:=b1) (T:=38) rfl (Mk (i:=0) (j:=1) (e:=.blk b2 (Dt.enc (Dt.mk Ab.Site Ab.No Ab.At Ab.Kind An An An 0 0 An 0)) 38) (e':=.blk b1 (Dt.enc Ab) 38) S rfl rfl rfl)).kept hw) rfl)) fun a S=>Ef 4 S hsel rfl rfl rfl (by kernel_rfl) (by kernel_rfl) rfl (fun _ hw=>(Ge Uj (S.tm rfl))) fun a S=>Ef 5 S hsel rfl rfl rfl (by kernel_rfl) (by kernel_rfl) rfl (fun _ hw=>(Hp isAgg3 (off:=0) (o:=7) (S.tm rfl) ((S.blk_mem (i:=1) (cells:=(Dt.enc Ab)) (b:=b1) (T:=38) rfl (Mk (i:=0) (j:=1) (e:=.blk b2 (Dt.enc (Dt.mk Ab.Site Ab.No Ab.At Ab.Kind An An An 0 0 An 0)) 38) (e':=.blk b1 (Dt.enc Ab) 38) S rfl rfl rfl)).kept hw) rfl)) fun a S=>Ef 6 S hsel rfl rfl rfl (by kernel_rfl) (by kernel_rfl) rfl (fun _ hw=>(Ge Wf (S.tm rfl))) fun a S=>Ef 7 S hsel rfl rfl rfl (by kernel_rfl) (by kernel_rfl) rfl (fun _ hw=>(Hp isAgg3 (off:=0) (o:=8) (S.tm rfl) ((S.blk_mem (i:=1) (cells:=(Dt.enc Ab)) (b:=b1) (T:=38) rfl (Mk (i:=0) (j:=1) (e:=.blk b2 (Dt.enc (Dt.mk Ab.Site Ab.No Ab.At Ab.Kind An An An 0 0 An 0)) 38) (e':=.blk b1 (Dt.enc Ab) 38) S rfl rfl rfl)).kept hw) rfl)) ?_;clear S;intro a S
             refine Ef 8 S hsel rfl rfl rfl (by kernel_rfl) (by kernel_rfl) rfl (fun _ hw=>(Ge Ou (S.tm rfl))) fun a S=>Gw 9 (by kernel_rfl) rfl (Fh S (S.tm rfl) (S.tm rfl) (i:=0) (off:=4) rfl sizeOf9 (vs:=[sV Ab.Who]) rfl rfl rfl rfl ?_);clear S;intro w45 hk40 S
             refine Ld (Hx hk40 (Ef 10 S hsel rfl rfl rfl (by kernel_rfl) (by kernel_rfl) rfl (fun _ hw=>(Ge Sr (S.tm rfl))) fun a S=>Gw 11 (by kernel_rfl) rfl (Fh S (S.tm rfl) (S.tm rfl) (i:=0) (off:=6) rfl sizeOf9 (vs:=[sV Ab.Race]) rfl rfl rfl rfl ?_)));clear S;intro w46 hk41 S
             refine Ld (Hx hk41 (Ef 12 S hsel rfl rfl rfl (by kernel_rfl) (by kernel_rfl) rfl (fun _ hw=>(Ge Uj (S.tm rfl))) fun a S=>Gw 13 (by kernel_rfl) rfl (Fh S (S.tm rfl) (S.tm rfl) (i:=0) (off:=7) rfl sizeOf3 (vs:=[iV Ab.Time]) rfl rfl rfl rfl ?_)));clear S;intro w47 hk42 S
             refine Ld (Hx hk42 (Ef 14 S hsel rfl rfl rfl (by kernel_rfl) (by kernel_rfl) rfl (fun _ hw=>(Ge Wf (S.tm rfl))) fun a S=>Gw 15 (by kernel_rfl) rfl (Fh S (S.tm rfl) (S.tm rfl) (i:=0) (off:=8) rfl sizeOf3 (vs:=[iV Ab.Fault]) rfl rfl rfl rfl ?_)));clear S;intro w48 hk43 S
             refine Ld (Hx hk43 (Wu (by kernel_rfl) ?_))
             clear hsel
             replace S:=(S.nl [.blk b2 (Dt.enc (Dt.mk Ab.Site Ab.No Ab.At Ab.Kind Ab.Who An Ab.Race Ab.Time Ab.Fault An 0)) 38,.blk b1 (Dt.enc Ab) 38] [true,true] rfl).k2 1 6 rfl
             exact Tn (⟨Ab.Who,Ab.Race,Ab.Time,Ab.Fault,An,0,h,S.nf [true,true] rfl (subR rfl)⟩)
            ·refine Fr (Vm S rfl rfl fun a S=>Va S rfl rfl fun a S=>Dl ?_)
             obtain ⟨j10,hj10,h⟩:=Eu h
             refine En (fun a w'=>∃ x23 : ByteArray,∃ x24 : ByteArray,∃ x25 : ByteArray,∃ x26 : Int,j10 x23 x24 x25 x26 = some r ∧ Sx w [] nov [.blk b2 (Dt.enc (Dt.mk Ab.Site Ab.No Ab.At Ab.Kind x23 An x24 0 0 x25 x26)) 38,.blk b1 (Dt.enc Ab) 38] [(1,.pointer (some ⟨b1,0,none⟩)),(6,.pointer (some ⟨b2,0,none⟩))] 152 a w') ?_ ?_
             ·refine Fc h (S.tm rfl) (fun hb22 h=>?_) (fun hb22 h=>?_)
              ·refine Hd [] ([b2]) Tryz.mixed S rfl (by kernel_rfl) ?_;clear S;intro w52 hk46 hsel S
               refine Ef 0 S hsel rfl rfl rfl (by kernel_rfl) (by kernel_rfl) rfl (fun _ hw=>(Ge Yg (S.tm rfl))) fun a S=>Ef 1 S hsel rfl rfl rfl (by kernel_rfl) (by kernel_rfl) rfl (fun _ hw=>(Hp isAgg9 (off:=0) (o:=9) (S.tm rfl) ((S.blk_mem (i:=1) (cells:=(Dt.enc Ab)) (b:=b1) (T:=38) rfl (Mk (i:=0) (j:=1) (e:=.blk b2 (Dt.enc (Dt.mk Ab.Site Ab.No Ab.At Ab.Kind An An An 0 0 An 0)) 38) (e':=.blk b1 (Dt.enc Ab) 38) S rfl rfl rfl)).kept hw) rfl)) fun a S=>Ef 2 S hsel rfl rfl rfl (by kernel_rfl) (by kernel_rfl) rfl (fun _ hw=>(Ge Vn (S.tm rfl))) fun a S=>Ef 3 S hsel rfl rfl rfl (by kernel_rfl) (by kernel_rfl) rfl (fun _ hw=>(Hp isAgg3 (off:=0) (o:=10) (S.tm rfl) ((S.blk_mem (i:=1) (cells:=(Dt.enc Ab)) (b:=b1) (T:=38) rfl (Mk (i:=0) (j:=1) (e:=.blk b2 (Dt.enc (Dt.mk Ab.Site Ab.No Ab.At Ab.Kind An An An 0 0 An 0)) 38) (e':=.blk b1 (Dt.enc Ab) 38) S rfl rfl rfl)).kept hw) rfl)) fun a S=>Ef 4 S hsel rfl rfl rfl (by kernel_rfl) (by kernel_rfl) rfl (fun _ hw=>(Ge Yg (S.tm rfl))) fun a S=>Gw 5 (by kernel_rfl) rfl (Fh S (S.tm rfl) (S.tm rfl) (i:=0) (off:=9) rfl sizeOf9 (vs:=[sV Ab.Of]) rfl rfl rfl rfl ?_);clear S;intro w53 hk47 S
               refine Ld (Hx hk47 (Ef 6 S hsel rfl rfl rfl (by kernel_rfl) (by kernel_rfl) rfl (fun _ hw=>(Ge Vn (S.tm rfl))) fun a S=>Gw 7 (by kernel_rfl) rfl (Fh S (S.tm rfl) (S.tm rfl) (i:=0) (off:=10) rfl sizeOf3 (vs:=[iV Ab.Other]) rfl rfl rfl rfl ?_)));clear S;intro w54 hk48 S
               refine Ld (Hx hk48 (Wu (by kernel_rfl) ?_))
               clear hsel
               replace S:=(S.nl [.blk b2 (Dt.enc (Dt.mk Ab.Site Ab.No Ab.At Ab.Kind An An An 0 0 Ab.Of Ab.Other)) 38,.blk b1 (Dt.enc Ab) 38] [true,true] rfl).k2 1 6 rfl
               exact Tn (⟨An,An,Ab.Of,Ab.Other,h,S.nf [true,true] rfl (subR rfl)⟩)
              ·refine Hd [] ([b2]) Tryz.mixed S rfl (by kernel_rfl) ?_;clear S;intro w57 hk51 hsel S
               refine Ef 0 S hsel rfl rfl rfl (by kernel_rfl) (by kernel_rfl) rfl (fun _ hw=>(Ge Ou (S.tm rfl))) fun a S=>Ef 1 S hsel rfl rfl rfl (by kernel_rfl) (by kernel_rfl) rfl (fun _ hw=>(Hp isAgg9 (off:=0) (o:=4) (S.tm rfl) ((S.blk_mem (i:=1) (cells:=(Dt.enc Ab)) (b:=b1) (T:=38) rfl (Mk (i:=0) (j:=1) (e:=.blk b2 (Dt.enc (Dt.mk Ab.Site Ab.No Ab.At Ab.Kind An An An 0 0 An 0)) 38) (e':=.blk b1 (Dt.enc Ab) 38) S rfl rfl rfl)).kept hw) rfl)) fun a S=>Ef 2 S hsel rfl rfl rfl (by kernel_rfl) (by kernel_rfl) rfl (fun _ hw=>(Ge Sr (S.tm rfl))) fun a S=>Ef 3 S hsel rfl rfl rfl (by kernel_rfl) (by kernel_rfl) rfl (fun _ hw=>(Hp isAgg9 (off:=0) (o:=6) (S.tm rfl) ((S.blk_mem (i:=1) (cells:=(Dt.enc Ab)) (b:=b1) (T:=38) rfl (Mk (i:=0) (j:=1) (e:=.blk b2 (Dt.enc (Dt.mk Ab.Site Ab.No Ab.At Ab.Kind An An An 0 0 An 0)) 38) (e':=.blk b1 (Dt.enc Ab) 38) S rfl rfl rfl)).kept hw) rfl)) fun a S=>Ef 4 S hsel rfl rfl rfl (by kernel_rfl) (by kernel_rfl) rfl (fun _ hw=>(Ge Ou (S.tm rfl))) fun a S=>Gw 5 (by kernel_rfl) rfl (Fh S (S.tm rfl) (S.tm rfl) (i:=0) (off:=4) rfl sizeOf9 (vs:=[sV Ab.Who]) rfl rfl rfl rfl ?_);clear S;intro w58 hk52 S
               refine Ld (Hx hk52 (Ef 6 S hsel rfl rfl rfl (by kernel_rfl) (by kernel_rfl) rfl (fun _ hw=>(Ge Sr (S.tm rfl))) fun a S=>Gw 7 (by kernel_rfl) rfl (Fh S (S.tm rfl) (S.tm rfl) (i:=0) (off:=6) rfl sizeOf9 (vs:=[sV Ab.Race]) rfl rfl rfl rfl ?_)));clear S;intro w59 hk53 S
               refine Ld (Hx hk53 (Wu (by kernel_rfl) ?_))
               clear hsel
               replace S:=(S.nl [.blk b2 (Dt.enc (Dt.mk Ab.Site Ab.No Ab.At Ab.Kind Ab.Who An Ab.Race 0 0 An 0)) 38,.blk b1 (Dt.enc Ab) 38] [true,true] rfl).k2 1 6 rfl
               exact Tn (⟨Ab.Who,Ab.Race,An,0,h,S.nf [true,true] rfl (subR rfl)⟩)
             clear S h;rintro a w49 ⟨x23,x24,x25,x26,h,S⟩;rw [hj10] at h;clear hj10 j10
             exact Tn (⟨x23,x24,0,0,x25,x26,h,S.nf [true,true] rfl (subR rfl)⟩)
           clear S h;rintro a w39 ⟨x17,x18,x19,x20,x21,x22,h,S⟩;rw [hj9] at h;clear hj9 j9
           exact Tn (⟨x17,An,x18,x19,x20,x21,x22,h,S.nf [true,true] rfl (subR rfl)⟩)
         clear S h;rintro a w29 ⟨x10,x11,x12,x13,x14,x15,x16,h,S⟩;rw [hj8] at h;clear hj8 j8
         exact Ho (Tn (⟨x10,x11,x12,x13,x14,x15,x16,h,S.nf [true,true] rfl (subR rfl)⟩))
        clear S h;rintro a w28 ⟨x3,x4,x5,x6,x7,x8,x9,h,S⟩;rw [hj7] at h;clear hj7 j7
        refine Tn (Fs (Fr (lv S (Fx isAgg38 sizeOf38 (off:=0) (o:=0) (part:=(Dt.enc Ab)) rfl rfl (S.tm rfl) (S.cellsAt (i:=1) rfl)) rfl fun a S=>lv S (Fx isAgg38 sizeOf38 (off:=0) (o:=0) (part:=(Dt.enc (Dt.mk Ab.Site Ab.No Ab.At Ab.Kind x3 x4 x5 x6 x7 x8 x9))) rfl rfl (S.tm rfl) (S.cellsAt (i:=0) rfl)) rfl fun a S=>lv S (JK (m:=Ab) (n:=(Dt.mk Ab.Site Ab.No Ab.At Ab.Kind x3 x4 x5 x6 x7 x8 x9)) (S.tm rfl) (S.tm rfl)) rfl fun a S=>Dl (Fc h (S.tm rfl) (fun hb23 h=>?_) (fun hb23 h=>?_)))))
        ·refine Fr (Vk S rfl rfl fun a S=>Dl (wp_ret (Dy ?_)))
         obtain rfl:=Option.some.inj h
         exact Eo S results72 rfl rfl
        ·refine wp_skip (Tn (Fr (Vk S rfl rfl fun a S=>Dl (wp_ret ?_))))
         obtain rfl:=Option.some.inj h
         exact Eo S results72 rfl rfl
theorem Yv (w : World) (Ab : Int) (r : Bool) (h : Si Ab = r) :
    Calls prog 115 [iV Ab].toArray w (Ret w [] fun _ v _=>v = bV r):=by
 refine Fe func115 rfl ntmps115 rfl fun a S=>?_
 unfold Si at h
 replace S:=S.k1 0 rfl
 refine Fr (Vk S rfl rfl fun a S=>Dz (Vm S rfl rfl fun a S=>Vm S rfl rfl fun a S=>Vb S Ky rfl rfl rfl fun a S=>Va S rfl rfl ?_));clear S;intro a S
 refine Dl (wp_ret ?_)
 subst h
 exact Eo S results115 rfl rfl
theorem Xp (w : World) (Ab : Int) (Bh : Int) (r : Int) (h : Jw Ab Bh = r) :
    Calls prog 98 [iV Ab,iV Bh].toArray w (Ret w [] fun _ v _=>v = iV r):=by
 refine Fe func98 rfl ntmps98 rfl fun a S=>?_
 unfold Jw at h
 replace S:=S.k2 0 1 rfl
 refine Fr (Vk S rfl rfl fun a S=>Dz (Vm S rfl rfl fun a S=>Ec S (fun _=>Dv (vs:=[iV Ab]) ⟨(S.tm rfl),trivial⟩ call115) (Yv _ Ab _ rfl) rfl ?_));clear S;intro v1 a w1 hv1 hk1 hn1 S
 subst hv1
 refine Va S rfl rfl fun a S=>Dz (Vm S rfl rfl fun a S=>Ec S (fun _=>Dv (vs:=[iV Bh]) ⟨(S.tm rfl),trivial⟩ call115) (Yv _ Bh _ rfl) rfl ?_);clear S;intro v2 a w2 hv2 hk2 hn2 S
 subst hv2
 refine Va S rfl rfl fun a S=>Dl (Fs (Fr (Vm S rfl rfl fun a S=>Dl (Fc h (S.tm rfl) (fun hb1 h=>?_) (fun hb1 h=>?_)))))
 ·refine Fs (Fr (Vm S rfl rfl fun a S=>Dl (Fc h (S.tm rfl) (fun hb2 h=>?_) (fun hb2 h=>?_))))
  ·refine Fr (Vk S rfl rfl fun a S=>Dl (wp_ret (Dy (Dy ?_))))
   subst h
   exact Eo S results98 rfl rfl
  ·refine wp_skip (Tn (Fr (Vk S rfl rfl fun a S=>Dl (wp_ret (Dy ?_)))))
   subst h
   exact Eo S results98 rfl rfl
 ·refine wp_skip (Tn (Fs (Fr (Vm S rfl rfl fun a S=>Dl (Fc h (S.tm rfl) (fun hb3 h=>?_) (fun hb3 h=>?_))))))
  ·refine Fr (Vk S rfl rfl fun a S=>Dl (wp_ret (Dy ?_)))
   subst h
   exact Eo S results98 rfl rfl
  ·refine wp_skip (Tn (Fs (Fr (Vm S rfl rfl fun a S=>Vm S rfl rfl fun a S=>Vb S Ex rfl rfl rfl fun a S=>Dl (Fc h (S.tm rfl) (fun hb4 h=>?_) (fun hb4 h=>?_))))))
   ·refine Fr (Vk S rfl rfl fun a S=>Dl (wp_ret (Dy ?_)))
    subst h
    exact Eo S results98 rfl rfl
   ·refine wp_skip (Tn (Fs (Fr (Vm S rfl rfl fun a S=>Vm S rfl rfl fun a S=>Vb S Jh rfl rfl rfl fun a S=>Ld ?_))))
    replace S:=S.k1 19 rfl
    refine Tn (Fc h (S.tm rfl) (fun hb5 h=>?_) (fun hb5 h=>?_))
    ·refine Fr (Vk S rfl rfl fun a S=>Dl (wp_ret (Dy ?_)))
     subst h
     exact Eo S results98 rfl rfl
    ·refine wp_skip (Tn (Fr (Vk S rfl rfl fun a S=>Dl (wp_ret ?_))))
     subst h
     exact Eo S results98 rfl rfl
theorem CO (w : World) (Da : Value) (Cw : List Int) (Cx : Slc (view w []) 1 Da (Cw.map eInt)) (r : Int) (h : Sz Cw = r) :
    Calls prog 97 [Da].toArray w (Ret w [] fun _ v _=>v = iV r):=by
 refine Fe func97 rfl ntmps97 rfl fun a S=>?_
 unfold Sz at h
 replace S:=S.k1 0 rfl
 refine Fr (Vk S rfl rfl fun a S=>Dz (Vk S rfl rfl fun a S=>Dl (Fs ?_)))
 refine Fr (Vm S rfl rfl fun a S=>lv S (Fz Oz (S.tm rfl) (Fl Cx)) rfl fun a S=>lv S (Rm rfl) rfl fun a S=>Dl ?_)
 replace S:=S.k4 3 6 7 8 rfl
 obtain ⟨j1,hj1,h⟩:=Eu h
 refine En (fun a w'=>j1 = r ∧ Sx w [] nov [] [(3,iV 0)] 18 a w') ?_ ?_
 ·refine wp_block (Hb (fun (ys1 : List Int) a w'=>∃ i1 : Nat,(∃ dn,Cw = dn ++ ys1 ∧ dn.length = i1) ∧ Mc j1 ys1 i1 = r ∧ Sx w [] nov [] [(3,iV 0),(6,Da),(7,iV (Cw.length : Int)),(8,iV (i1 : Int))] 18 a w') List.length Cw ⟨0,⟨[],rfl,rfl⟩,h,S.nf [] rfl (subR rfl)⟩ ?_)
  clear S h;rintro ys1 a w1 ⟨i1,⟨dn,hd1,hi1⟩,h,S⟩
  cases ys1 with
  | nil =>
   rw [Mc.eq_1] at h
   refine Fr (Vb S Ex rfl rfl rfl fun a S=>Ld ?_)
   replace S:=S.k5 3 6 7 8 9 rfl
   exact Tn (Fs (wp_cond_false ((S.tm rfl).trans (congrArg Value.bool (Io hd1 hi1))) (wp_exit (Ei (Ei (Gp (Tn (⟨h,S.nf [] rfl ⟨rfl,trivial⟩⟩))))))))
  | cons y1 ys1 =>
   rw [Mc.eq_2] at h
   refine Fr (Vb S Ex rfl rfl rfl fun a S=>Ld ?_)
   replace S:=S.k5 3 6 7 8 9 rfl
   refine Tn (Fs (wp_cond_true ((S.tm rfl).trans (congrArg Value.bool (Hv hd1 hi1))) (wp_skip (Tn (Fs (wp_block (Fs (Fg ?_))))))))
   obtain ⟨b1,o1,hm1,hr1⟩:=Fd (a:=a) (x:=.tmp 6) (y:=.tmp 8) (ty:=0) Oz Cx (Iq hd1 hi1) rfl (S.tm rfl) (S.tm rfl)
   refine lv S (hr1 _) rfl ?_;clear S;intro a S
   clear hr1
   refine lv S (Hp isAgg3 (off:=o1) (o:=0) (S.tm rfl) (hm1.at S.emb0) rfl) rfl fun a S=>Va S rfl rfl fun a S=>Dz (Vm S rfl rfl fun a S=>Vm S rfl rfl fun a S=>Vb S Ky rfl rfl rfl fun a S=>Dl ?_)
   refine Fc h (S.tm rfl) (fun hb1 h=>?_) (fun hb1 h=>?_)
   ·refine Fr (Vm S rfl rfl fun a S=>Va S rfl rfl fun a S=>Dl (wp_ret (Fq (Dy (Dy (Fq ?_))))))
    refine Dy (Dy ?_)
    subst h
    exact Eo S results97 rfl rfl
   ·exact wp_skip (Ho (Tn (Fg (Vq S Gf rfl rfl rfl fun a S=>Vm S rfl rfl fun a S=>Dl (⟨ys1,⟨i1 + 1,⟨_,(hd1).trans (List.append_cons _ _ _),by simp [hi1]⟩,h,S.nf [] rfl ⟨rfl,rfl,rfl,(congrArg (fun z=>some (Value.int .i64 z)) (Hw hd1 hi1 (Jn Cx))),trivial⟩⟩,Nat.lt_succ_self _⟩)))))
 clear S h;rintro a w2 ⟨h,S⟩;rw [hj1] at h;clear hj1 j1
 refine Tn (Fr (Vm S rfl rfl fun a S=>Va S rfl rfl fun a S=>Dl (wp_ret ?_)))
 subst h
 exact Eo S results97 rfl rfl
set_option maxRecDepth 20000 in
theorem GC (w : World) (Al : Dt) (Aq : Dt) (r : Int) (h : Mw Al Aq = r) :
    Calls prog 73 [.agg (Dt.enc Al).toArray,.agg (Dt.enc Aq).toArray].toArray w (Ret w [] fun _ v _=>v = iV r):=by
 refine Fe func73 rfl ntmps73 rfl fun a S=>?_
 unfold Mw at h
 replace S:=S.k2 0 1 rfl
 refine Fr (My S (S.tm rfl) (cs:=(Dt.enc Al)) rfl rfl ?_);clear S;intro a w1 b1 hz1 hk1 S
 refine My S (S.tm rfl) (cs:=(Dt.enc Aq)) rfl rfl ?_;clear S;intro a w2 b2 hz2 hk2 S
 refine Vk S rfl rfl fun a S=>Dl (Fs (Hd [] ([]) Tryz.mixed S rfl (by kernel_rfl) ?_));clear S;intro w8 hk8 hsel S
 refine Ef 0 S hsel rfl rfl rfl (by kernel_rfl) (by kernel_rfl) rfl (fun _ hw=>(Ge Ui (S.tm rfl))) fun a S=>Ef 1 S hsel rfl rfl rfl (by kernel_rfl) (by kernel_rfl) rfl (fun _ hw=>(Hp isAgg3 (off:=0) (o:=2) (S.tm rfl) ((S.blk_mem (i:=1) (cells:=(Dt.enc Al)) (b:=b1) (T:=38) rfl (Hr (e':=.blk b1 (Dt.enc Al) 38))).kept hw) rfl)) fun a S=>Ef 2 S hsel rfl rfl rfl (by kernel_rfl) (by kernel_rfl) rfl (fun _ hw=>(Ge Ui (S.tm rfl))) fun a S=>Ef 3 S hsel rfl rfl rfl (by kernel_rfl) (by kernel_rfl) rfl (fun _ hw=>(Hp isAgg3 (off:=0) (o:=2) (S.tm rfl) ((S.blk_mem (i:=0) (cells:=(Dt.enc Aq)) (b:=b2) (T:=38) rfl (Hr (e':=.blk b2 (Dt.enc Aq) 38))).kept hw) rfl)) fun a S=>Ef 5 S hsel rfl rfl rfl (by kernel_rfl) (by kernel_rfl) rfl (fun _ hw=>(Ge Ri (S.tm rfl))) fun a S=>Ef 6 S hsel rfl rfl rfl (by kernel_rfl) (by kernel_rfl) rfl (fun _ hw=>(Hp isAgg9 (off:=0) (o:=0) (S.tm rfl) ((S.blk_mem (i:=1) (cells:=(Dt.enc Al)) (b:=b1) (T:=38) rfl (Hr (e':=.blk b1 (Dt.enc Al) 38))).kept hw) rfl)) fun a S=>Ef 7 S hsel rfl rfl rfl (by kernel_rfl) (by kernel_rfl) rfl (fun _ hw=>(Ge Ri (S.tm rfl))) fun a S=>Ef 8 S hsel rfl rfl rfl (by kernel_rfl) (by kernel_rfl) rfl (fun _ hw=>(Hp isAgg9 (off:=0) (o:=0) (S.tm rfl) ((S.blk_mem (i:=0) (cells:=(Dt.enc Aq)) (b:=b2) (T:=38) rfl (Hr (e':=.blk b2 (Dt.enc Aq) 38))).kept hw) rfl)) fun a S=>Ef 10 S hsel rfl rfl rfl (by kernel_rfl) (by kernel_rfl) rfl (fun _ hw=>(Ge Tk (S.tm rfl))) fun a S=>Ef 11 S hsel rfl rfl rfl (by kernel_rfl) (by kernel_rfl) rfl (fun _ hw=>(Hp isAgg3 (off:=0) (o:=1) (S.tm rfl) ((S.blk_mem (i:=1) (cells:=(Dt.enc Al)) (b:=b1) (T:=38) rfl (Hr (e':=.blk b1 (Dt.enc Al) 38))).kept hw) rfl)) fun a S=>Ef 12 S hsel rfl rfl rfl (by kernel_rfl) (by kernel_rfl) rfl (fun _ hw=>(Ge Tk (S.tm rfl))) ?_;clear S;intro a S
 refine Ef 13 S hsel rfl rfl rfl (by kernel_rfl) (by kernel_rfl) rfl (fun _ hw=>(Hp isAgg3 (off:=0) (o:=1) (S.tm rfl) ((S.blk_mem (i:=0) (cells:=(Dt.enc Aq)) (b:=b2) (T:=38) rfl (Hr (e':=.blk b2 (Dt.enc Aq) 38))).kept hw) rfl)) fun a S=>Gw 4 (by kernel_rfl) rfl (Ec S (fun _=>Dv (vs:=[iV Al.At,iV Aq.At]) ⟨(S.tm rfl),(S.tm rfl),trivial⟩ call98) (Xp _ Al.At Aq.At _ rfl) rfl ?_);clear S;intro v5 a w9 hv5 hk9 hn5 S
 subst hv5
 refine Ld (Hx hk9 (Gw 9 (by kernel_rfl) rfl (Ec S (fun _=>Dv (vs:=[sV Al.Site,sV Aq.Site]) ⟨(S.tm rfl),(S.tm rfl),trivial⟩ call46) (On _ Al.Site Aq.Site _ rfl) rfl ?_)));clear S;intro v6 a w10 hv6 hk10 hn6 S
 subst hv6
 refine Ld (Hx hk10 (Gw 14 (by kernel_rfl) rfl (Ec S (fun _=>Dv (vs:=[iV Al.No,iV Aq.No]) ⟨(S.tm rfl),(S.tm rfl),trivial⟩ call98) (Xp _ Al.No Aq.No _ rfl) rfl ?_)));clear S;intro v7 a w11 hv7 hk11 hn7 S
 subst hv7
 refine Ld (Hx hk11 (Gw 15 (by kernel_rfl) rfl (Et S underlying22 sizeOf3 zeroValue3 rfl rfl (pv:=[(0,iV (Jw Al.At Aq.At)),(1,iV (Hi Al.Site Aq.Site)),(2,iV (Jw Al.No Aq.No))]) ⟨rfl,(S.tm rfl),rfl,(S.tm rfl),rfl,(S.tm rfl),trivial⟩ (cs:=[iV (Jw Al.At Aq.At),iV (Hi Al.Site Aq.Site),iV (Jw Al.No Aq.No)]) (by kernel_rfl) rfl ?_)));clear S;intro a w12 b4 hz4 hk12 S
 refine Ld (Hx hk12 (Gw 16 (by kernel_rfl) rfl (Ec S (fun _=>Dv (vs:=[.slice (some ⟨b4,0,none⟩) 3 3]) ⟨(S.tm rfl),trivial⟩ call97) (CO _ (.slice (some ⟨b4,0,none⟩) 3 3) [(Jw Al.At Aq.At),(Hi Al.Site Aq.Site),(Jw Al.No Aq.No)] (Jr Ih S (i:=0) rfl rfl rfl rfl ((Hr (e':=.blk b4 [iV (Jw Al.At Aq.At),iV (Hi Al.Site Aq.Site),iV (Jw Al.No Aq.No)] 3)) _ rfl)) _ rfl) rfl ?_)));clear S;intro v8 a w13 hv8 hk13 hn8 S
 subst hv8
 refine Ld (Hx hk13 (Kz [17] hsel (by kernel_rfl) rfl ?_))
 clear hsel
 refine Gk S rfl (Ra (S.tm rfl)) rfl fun a S=>Ig ?_
 replace S:=S.n0.k1 4 rfl
 refine Tn (wp_ret ?_)
 subst h
 exact Eo S results73 rfl rfl
theorem Wr (w : World) (Ab : Dt) (r : Eg) (h : Ek Ab = r) :
    Calls prog 74 [.agg (Dt.enc Ab).toArray].toArray w (Ret w [] fun _ v _=>v = .agg (Eg.enc r).toArray):=by
 refine Fe func74 rfl ntmps74 rfl fun a S=>?_
 unfold Ek at h
 replace S:=S.k1 0 rfl
 refine Fr (My S (S.tm rfl) (cs:=(Dt.enc Ab)) rfl rfl ?_);clear S;intro a w1 b1 hz1 hk1 S
 refine Hz S zeroValue142 (cs:=[sV An,iV 0]) rfl rfl ?_;clear S;intro a w2 b2 hz2 hk2 S
 refine Dz (Vf Ri S rfl rfl fun a S=>Vl isAgg9 1 S rfl rfl rfl rfl fun a S=>Vf Tk S rfl rfl fun a S=>Vl isAgg3 1 S rfl rfl rfl rfl fun a S=>lv S (Mj TM (pv:=[(0,sV Ab.Site),(1,iV Ab.No)]) ⟨rfl,(S.tm rfl),rfl,(S.tm rfl),trivial⟩ (cs:=[sV Ab.Site,iV Ab.No]) (by kernel_rfl)) rfl fun a S=>Fh S (S.tm rfl) (S.tm rfl) (i:=0) (off:=0) rfl sizeOf142 (vs:=[sV Ab.Site,iV Ab.No]) rfl rfl rfl rfl ?_);clear S;intro w3 hk3 S
 refine Dl (wp_ret ?_)
 subst h
 exact Zh S (rs:=[.cell 2 142]) (vs:=[.agg #[sV Ab.Site,iV Ab.No]]) results74 ⟨(Uw (off:=0) S rfl isAgg142 sizeOf142 rfl (S.cellsAt (i:=0) rfl)),trivial⟩ rfl rfl
set_option maxRecDepth 20000 in
theorem DB (w : World) (Ac : Value) (Ag : List Dt) (Ae : Slc (view w []) 11 Ac (Ag.map Dt.enc)) (r : Int) (h : Pg Ag = some r) :
    Calls prog 39 [Ac].toArray w (Ret w [] fun _ v _=>v = iV r):=by
 refine Fe func39 rfl ntmps39 rfl fun a S=>?_
 unfold Pg at h
 replace S:=S.k1 0 rfl
 refine Fr (Vk S rfl rfl fun a S=>Dl (Fs (Fr (Vm S rfl rfl fun a S=>lv S (Fz Ni (S.tm rfl) (Fl Ae)) rfl fun a S=>Vq S Jh rfl rfl rfl ?_))));clear S;intro a S
 refine Dl (Fc h (S.tm rfl) (fun hb1 h=>?_) (fun hb1 h=>?_))
 ·refine Fr (Vk S rfl rfl fun a S=>Dl (wp_ret (Dy ?_)))
  obtain rfl:=Option.some.inj h
  exact Eo S results39 rfl rfl
 ·refine wp_skip (Tn (Fr (Rk (κ:=Eg) (ν:=Bool) S rfl (fun x=>Value.agg (Eg.enc x).toArray) Value.bool ?_)));clear S;intro a w1 b1 hz1 hk1 S
  refine Va S rfl rfl fun a S=>Dz (Vk S rfl rfl fun a S=>Dl (Fs (Fs (Fg ?_))))
  refine Vm S rfl rfl fun a S=>lv S (Fz Ni (S.tm rfl) (Fl Ae)) rfl fun a S=>lv S (Rm rfl) rfl fun a S=>Dl ?_
  replace S:=(S.nl [.map b1 (Gn (fun x=>Value.agg (Eg.enc x).toArray) Value.bool ([] : List (Eg × Bool))) ([] : List (Eg × Bool)).length] [true] rfl).k6 0 3 4 12 13 14 rfl
  obtain ⟨j1,hj1,h⟩:=Eu h
  refine En (fun a w'=>∃ x1 : List (Eg × Bool),∃ x2 : Bool,j1 x1 x2 = some r ∧ Sx w [] nov [.map b1 (Gn (fun x=>Value.agg (Eg.enc x).toArray) Value.bool x1) x1.length] [(4,bV x2)] 48 a w') ?_ ?_
  ·refine wp_block (Hb (fun (ys1 : List Dt) a w'=>∃ i1 : Nat,∃ x1 : List (Eg × Bool),∃ x2 : Bool,(∃ dn,Ag = dn ++ ys1 ∧ dn.length = i1) ∧ Hy Ag j1 ys1 i1 x1 x2 = some r ∧ Sx w [] nov [.map b1 (Gn (fun x=>Value.agg (Eg.enc x).toArray) Value.bool x1) x1.length] [(0,Ac),(3,.map (some b1)),(4,bV x2),(12,Ac),(13,iV (Ag.length : Int)),(14,iV (i1 : Int))] 48 a w') List.length Ag ⟨0,([] : List (Eg × Bool)),false,⟨[],rfl,rfl⟩,h,S.nf [true] rfl (subR rfl)⟩ ?_)
   clear S h;rintro ys1 a w2 ⟨i1,x1,x2,⟨dn,hd1,hi1⟩,h,S⟩
   cases ys1 with
   | nil =>
    rw [Hy.eq_1] at h
    refine Fr (Vb S Ex rfl rfl rfl fun a S=>Ld ?_)
    replace S:=S.k7 0 3 4 12 13 14 15 rfl
    exact Tn (Fs (wp_cond_false ((S.tm rfl).trans (congrArg Value.bool (Io hd1 hi1))) (wp_exit (Ei (Ei (Gp (Tn (⟨x1,x2,h,S.nf [true] rfl ⟨rfl,trivial⟩⟩))))))))
   | cons y1 ys1 =>
    rw [Hy.eq_2] at h
    refine Fr (Vb S Ex rfl rfl rfl fun a S=>Ld ?_)
    replace S:=S.k7 0 3 4 12 13 14 15 rfl
    refine Tn (Fs (wp_cond_true ((S.tm rfl).trans (congrArg Value.bool (Hv hd1 hi1))) (wp_skip (Tn (Fs (wp_block (Fr (Vm S rfl rfl ?_))))))));clear S;intro a S
    obtain ⟨b2,o1,hm1,hr1⟩:=Fd (a:=a) (x:=.tmp 12) (y:=.tmp 14) (ty:=0) Ni Ae (Iq hd1 hi1) rfl (S.tm rfl) (S.tm rfl)
    refine lv S (hr1 _) rfl ?_;clear S;intro a S
    clear hr1
    refine lv S (Fx isAgg38 sizeOf38 (off:=o1) (o:=0) (part:=(Dt.enc y1)) rfl rfl (S.tm rfl) (hm1.at S.emb0)) rfl fun a S=>Hz S zeroValue38 (cs:=[sV An,iV 0,iV 0,iV 0,sV An,sV An,sV An,iV 0,iV 0,sV An,iV 0]) rfl rfl ?_;clear S;intro a w4 b3 hz2 hk2 S
    refine Va S rfl rfl fun a S=>Fh S (S.tm rfl) (S.tm rfl) (i:=0) (off:=0) rfl sizeOf38 (vs:=(Dt.enc y1)) rfl rfl rfl rfl ?_;clear S;intro w5 hk3 S
    refine Dl (Fs (Fr (lv S (Fx isAgg38 sizeOf38 (off:=0) (o:=0) (part:=(Dt.enc y1)) rfl rfl (S.tm rfl) (S.cellsAt (i:=0) rfl)) rfl ?_)));clear S;intro a S
    obtain ⟨r1,hr2,h⟩:=Fb h
    refine Ec S (fun _=>Dv (vs:=[.agg (Dt.enc y1).toArray]) ⟨(S.tm rfl),trivial⟩ call72) (ED _ y1 _ hr2) rfl ?_;clear S;intro v1 a w6 hv1 hk4 hn1 S
    subst hv1
    refine Va S rfl rfl fun a S=>Ld ?_
    replace S:=(S.nl [.blk b3 (Dt.enc y1) 38,.map b1 (Gn (fun x=>Value.agg (Eg.enc x).toArray) Value.bool x1) x1.length] [true,true] rfl).k9 0 3 4 5 6 7 12 13 14 rfl
    refine Tn (Fr (Vm S rfl rfl fun a S=>Vq S Ky rfl rfl rfl fun a S=>Dl (Fc h (S.tm rfl) (fun hb2 h=>?_) (fun hb2 h=>?_))))
    ·refine Fr (Vm S rfl rfl fun a S=>Va S rfl rfl fun a S=>Dl (wp_ret (Dy (Fq (Dy (Dy ?_))))))
     refine Fq (Dy (Dy ?_))
     obtain rfl:=Option.some.inj h
     exact Eo S results39 rfl rfl
    ·refine wp_skip (Tn (Fs (Fs ?_)))
     obtain ⟨j2,hj2,h⟩:=Eu h
     refine En (fun a w'=>∃ x3 : Bool,j2 x3 = some r ∧ Sx w [] nov [.blk b3 (Dt.enc y1) 38,.map b1 (Gn (fun x=>Value.agg (Eg.enc x).toArray) Value.bool x1) x1.length] [(0,Ac),(3,.map (some b1)),(4,bV x2),(6,.pointer (some ⟨b3,0,none⟩)),(12,Ac),(13,iV (Ag.length : Int)),(14,iV (i1 : Int)),(35,bV x3)] 48 a w') ?_ ?_
     ·rcases Bool.eq_false_or_eq_true (decide (0 < (i1 : Int))) with hb3 | hb3
      ·replace h:=Qw h hb3
       obtain ⟨hc1,h⟩:=Ia h
       refine Hd [] ([]) Tryz.mixed S rfl (by kernel_rfl) ?_;clear S;intro w9 hk6 hsel S
       refine Ef 0 S hsel rfl rfl rfl (by kernel_rfl) (by kernel_rfl) rfl (fun _ hw=>(Rm (S.tm rfl))) fun a S=>Ef 1 S hsel rfl rfl rfl (by kernel_rfl) (by kernel_rfl) rfl (fun _ hw=>(Jh (S.tm rfl) rfl)) fun a S=>Ef 2 S hsel rfl rfl rfl (by kernel_rfl) (by kernel_rfl) rfl (fun _ hw=>(Rm (S.tm rfl))) fun a S=>Ev 3 S hsel rfl rfl rfl rfl hb3 rfl rfl (by kernel_rfl) (by kernel_rfl) rfl (fun _ hw=>(Rm (S.tm rfl))) fun a S=>Ev 4 S hsel rfl rfl rfl rfl hb3 rfl rfl (by kernel_rfl) (by kernel_rfl) rfl (fun _ hw=>(Rm (S.tm rfl))) fun a S=>Ev 5 S hsel rfl rfl rfl rfl hb3 rfl rfl (by kernel_rfl) (by kernel_rfl) rfl (fun _ hw=>(Ja (S.tm rfl) rfl)) ?_;clear S;intro a S
       obtain ⟨b5,o3,hm3,hr4⟩:=Fd (a:=a) (x:=.tmp 27) (y:=.tmp 29) (ty:=0) Ni (Ae.mono (S.le_arg Ej)) (Ed hc1).1 (Ed hc1).2 (S.tm rfl) (S.tm rfl)
       refine Ev 6 S hsel rfl rfl rfl rfl hb3 rfl rfl (by kernel_rfl) (by kernel_rfl) rfl (fun _ hw=>hr4 _) ?_;clear S;intro a S
       clear hr4
       refine Ev 7 S hsel rfl rfl rfl rfl hb3 rfl rfl (by kernel_rfl) (by kernel_rfl) rfl (fun _ hw=>(Fx isAgg38 sizeOf38 (off:=o3) (o:=0) (part:=(Dt.enc (nth Ag (W ((i1 : Int) - 1))))) rfl rfl (S.tm rfl) (hm3.kept hw))) fun a S=>Ev 8 S hsel rfl rfl rfl rfl hb3 rfl rfl (by kernel_rfl) (by kernel_rfl) rfl (fun _ hw=>(Fx isAgg38 sizeOf38 (off:=0) (o:=0) (part:=(Dt.enc y1)) rfl rfl (S.tm rfl) ((S.blk_mem (i:=0) (cells:=(Dt.enc y1)) (b:=b3) (T:=38) rfl (Hr (e':=.blk b3 (Dt.enc y1) 38))).kept hw))) fun a S=>Gw 9 (by kernel_rfl) rfl (Ea S rfl rfl rfl hb3 (Ec S (fun _=>Dv (vs:=[.agg (Dt.enc (nth Ag (W ((i1 : Int) - 1)))).toArray,.agg (Dt.enc y1).toArray]) ⟨(S.tm rfl),(S.tm rfl),trivial⟩ call73) (GC _ (nth Ag (W ((i1 : Int) - 1))) y1 _ rfl) rfl ?_));clear S;intro v3 a w10 hv3 hk7 hn3 S
       subst hv3
       refine Ld (Hx hk7 (Kz [10,11] hsel (by kernel_rfl) rfl ?_))
       clear hsel
       refine Fm S rfl rfl rfl rfl hb3 (Gv S (Qd (S.tm rfl) rfl) rfl fun a S=>Gk S rfl (Qi hb3 (S.tm rfl) (S.tm rfl)) rfl fun a S=>Ig ?_)
       replace S:=S.k16 0 3 4 6 12 13 14 27 28 29 30 31 32 33 34 35 rfl
       exact Tn (⟨decide (0 ≤ (Mw (nth Ag (W ((i1 : Int) - 1))) y1)),h,S.nf [true,true] rfl (subR rfl)⟩)
      ·replace h:=Qx h hb3
       refine Hd [] ([]) Tryz.mixed S rfl (by kernel_rfl) ?_;clear S;intro w11 hk8 hsel S
       refine Kz [0,1,2,3,4,5,6,7,8,9,10,11] hsel (by kernel_rfl) rfl ?_
       clear hsel
       refine Gk S rfl (Rm (S.tm rfl)) rfl fun a S=>Gk S rfl (Jh (S.tm rfl) rfl) rfl fun a S=>Gk S rfl (Rm (S.tm rfl)) rfl ?_;clear S;intro a S
       iterate 8 (refine Qe S rfl rfl rfl rfl (Jq hb3) rfl ?_ rfl;clear S;intro a S)
       refine Gk S rfl (Qj hb3 (S.tm rfl) rfl) rfl fun a S=>Ig ?_
       replace S:=S.k8 0 3 4 6 12 13 14 35 rfl
       exact Tn (⟨false,h,S.nf [true,true] rfl (subR rfl)⟩)
     clear S h;rintro a w7 ⟨x3,h,S⟩;rw [hj2] at h;clear hj2 j2
     refine Tn (Fc h (S.tm rfl) (fun hb4 h=>?_) (fun hb4 h=>?_))
     ·refine Fr (Vk S rfl rfl fun a S=>Dl (wp_ret (Dy (Fq (Dy (Dy (Fq ?_)))))))
      refine Dy (Dy ?_)
      obtain rfl:=Option.some.inj h
      exact Eo S results39 rfl rfl
     ·refine wp_skip (Tn (Fr (Vm S rfl rfl fun a S=>Vm S rfl rfl fun a S=>Hj 5 (fun a w'=>Keep [] w7 w' ∧ Sx w [] nov [.blk b3 (Dt.enc y1) 38,.map b1 (Gn (fun x=>Value.agg (Eg.enc x).toArray) Value.bool x1) x1.length] [(0,Ac),(3,.map (some b1)),(6,.pointer (some ⟨b3,0,none⟩)),(12,Ac),(13,iV (Ag.length : Int)),(14,iV (i1 : Int)),(42,bV (x2 || (Ee x1 (Ek y1) false)))] 48 a w') ?_ ?_)))
      ·rcases Bool.eq_false_or_eq_true x2 with hb5 | hb5
       ·iterate 4 (refine Gt S rfl rfl rfl (Mh hb5) rfl ?_ rfl;clear S;intro a S)
        exact lv S (Kh (Ee x1 (Ek y1) false) hb5 (S.tm rfl) rfl) rfl fun a S=>Dl (⟨Keep.refl _ _,S.nf [true,true] rfl (subR rfl)⟩)
       ·refine Ea S rfl rfl rfl hb5 (Vm S rfl rfl fun a S=>Ea S rfl rfl rfl hb5 (lv S (Fx isAgg38 sizeOf38 (off:=0) (o:=0) (part:=(Dt.enc y1)) rfl rfl (S.tm rfl) (S.cellsAt (i:=0) rfl)) rfl fun a S=>Ea S rfl rfl rfl hb5 (Ec S (fun _=>Dv (vs:=[.agg (Dt.enc y1).toArray]) ⟨(S.tm rfl),trivial⟩ call74) (Wr _ y1 _ rfl) rfl ?_)));clear S;intro v4 a w13 hv4 hk9 hn4 S
        subst hv4
        exact Ea S rfl rfl rfl hb5 (lv S (Pt (kv:=(fun x=>Value.agg (Eg.enc x).toArray)) (vv:=Value.bool) (m:=x1) (key:=(Ek y1)) (z:=false) (S.map_at (i:=1) rfl) underlying140 EB zeroValue4 (S.tm rfl) (S.tm rfl)) rfl fun a S=>lv S (Ki hb5 (S.tm rfl) (S.tm rfl)) rfl fun a S=>Dl (⟨hk9,S.nf [true,true] rfl (subR rfl)⟩))
      clear S;rintro a w12 ⟨hk10,S⟩
      refine Va S rfl rfl fun a S=>Dl (Fg (Vm S rfl rfl fun a S=>lv S (Fx isAgg38 sizeOf38 (off:=0) (o:=0) (part:=(Dt.enc y1)) rfl rfl (S.tm rfl) (S.cellsAt (i:=0) rfl)) rfl fun a S=>Ec S (fun _=>Dv (vs:=[.agg (Dt.enc y1).toArray]) ⟨(S.tm rfl),trivial⟩ call74) (Wr _ y1 _ rfl) rfl ?_));clear S;intro v5 a w14 hv5 hk11 hn5 S
      subst hv5
      refine Ox (kv:=(fun x=>Value.agg (Eg.enc x).toArray)) (vv:=Value.bool) (m:=x1) (key:=(Ek y1)) (val:=true) S (i:=1) rfl underlying140 EB (S.tm rfl) (S.tm rfl) rfl ?_;clear S;intro w15 hk12 S
      exact Ld (Ho (Tn (Fg (Vq S Gf rfl rfl rfl fun a S=>Vm S rfl rfl fun a S=>Dl (⟨ys1,⟨i1 + 1,(Gj x1 (Ek y1) true),(x2 || (Ee x1 (Ek y1) false)),⟨_,(hd1).trans (List.append_cons _ _ _),by simp [hi1]⟩,h,S.nf [false,true] rfl ⟨rfl,rfl,rfl,rfl,rfl,(congrArg (fun z=>some (Value.int .i64 z)) (Hw hd1 hi1 (Jn Ae))),trivial⟩⟩,Nat.lt_succ_self _⟩)))))
  clear S h;rintro a w3 ⟨x1,x2,h,S⟩;rw [hj1] at h;clear hj1 j1
  refine Tn (Fs (Fr (Vm S rfl rfl fun a S=>Dl (Fc h (S.tm rfl) (fun hb6 h=>?_) (fun hb6 h=>?_)))))
  ·refine Fr (Vk S rfl rfl fun a S=>Dl (wp_ret (Dy ?_)))
   obtain rfl:=Option.some.inj h
   exact Eo S results39 rfl rfl
  ·refine wp_skip (Tn (Fr (Vk S rfl rfl fun a S=>Dl (wp_ret ?_))))
   obtain rfl:=Option.some.inj h
   exact Eo S results39 rfl rfl
theorem AE (w : World) (Aw : Value) (Ap : List Int) (De : (LEnt.own Aw 3 1 Ap.length (Ap.flatMap eInt)).holds w) (r : (List Int)) (h : Om Ap = some r) :
    Calls prog 76 [Aw].toArray w (Ret w (Aw.ownBlock.toList) fun _ v w'=>(LEnt.own Aw 3 1 r.length (r.flatMap eInt)).holds w' ∧ v = .tuple #[]):=by
 refine Mo (Aw.ownBlock.toList) [.own Aw 3 1 Ap.length (Ap.flatMap eInt)] func76 rfl ntmps76 rfl (fun e he=>by simp only [List.mem_singleton] at he;subst he;exact De) (Li _) (Nb _) fun a S=>?_
 unfold Om at h
 replace S:=(S.nl [.own Aw 3 1 Ap.length (Ap.flatMap eInt)] [true] rfl).k1 0 rfl
 refine Fr (Vm S rfl rfl fun a S=>lv S (Fz Oz (S.tm rfl) (Pb (S.own_at (i:=0) rfl))) rfl fun a S=>Vq S Ja rfl rfl rfl fun a S=>Vk S rfl rfl fun a S=>Va S rfl rfl fun a S=>Dl ?_)
 replace S:=S.k3 0 2 3 rfl
 obtain ⟨j1,hj1,h⟩:=Eu h
 refine En (fun a w'=>∃ x1 : List Int,j1 x1 = some r ∧ Sx w (Aw.ownBlock.toList) nov [.own Aw 3 1 x1.length (x1.flatMap eInt)] [] 28 a w') ?_ ?_
 ·refine wp_block (Hb (fun (m1 : Nat) a w'=>∃ x1 : List Int,∃ x2 : Int,∃ x3 : Int,Jf j1 m1 x1 x2 x3 = some r ∧ Sx w (Aw.ownBlock.toList) nov [.own Aw 3 1 x1.length (x1.flatMap eInt)] [(0,Aw),(2,iV x2),(3,iV x3)] 28 a w') id (((W ((Ap.length : Int) - 1)) - 0).toNat + 2) ⟨Ap,0,W ((Ap.length : Int) - 1),h,S.nf [true] rfl (subR rfl)⟩ ?_)
  clear S h;rintro m1 a w1 ⟨x1,x2,x3,h,S⟩
  cases m1 with
  | zero=>rw [Jf.eq_1] at h;cases h
  | succ m1 =>
   rw [Jf.eq_2] at h
   refine Fs (Fr (Vm S rfl rfl fun a S=>Vm S rfl rfl fun a S=>Vb S Ex rfl rfl rfl fun a S=>Dl (Fc h (S.tm rfl) (fun hb1 h=>?_) (fun hb1 h=>?_))))
   ·refine wp_skip (Tn (Fs (wp_block ?_)))
    obtain ⟨hc1,h⟩:=Ia h
    obtain ⟨hc2,h⟩:=Ia h
    obtain ⟨hc3,h⟩:=Ia h
    obtain ⟨hc4,h⟩:=Ia h
    refine Hd [13,15] ([]) Tryz.mixed S rfl (by kernel_rfl) ?_;clear S;intro w7 hk5 hsel S
    refine Gu 0 S hsel rfl rfl (by kernel_rfl) (by kernel_rfl) rfl (fun _=>(Rm (S.tm rfl))) fun a S=>Gu 1 S hsel rfl rfl (by kernel_rfl) (by kernel_rfl) rfl (fun _=>(Rm (S.tm rfl))) fun a S=>Gu 2 S hsel rfl rfl (by kernel_rfl) (by kernel_rfl) rfl (fun _=>(Rm (S.tm rfl))) fun a S=>Gu 3 S hsel rfl rfl (by kernel_rfl) (by kernel_rfl) rfl (fun _=>(Rm (S.tm rfl))) fun a S=>Gu 4 S hsel rfl rfl (by kernel_rfl) (by kernel_rfl) rfl (fun _=>(Rm (S.tm rfl))) fun a S=>Gu 5 S hsel rfl rfl (by kernel_rfl) (by kernel_rfl) rfl (fun _=>(Rm (S.tm rfl))) ?_;clear S;intro a S
    obtain ⟨b5,hg5,hr5⟩:=Hk (a:=a) (x:=.tmp 18) (y:=.tmp 19) (ty:=0) Oz Ih S (i:=0) rfl (Ed hc1).1 (Ed hc1).2 (S.tm rfl) (S.tm rfl)
    refine Gu 6 S hsel rfl rfl (by kernel_rfl) (by kernel_rfl) rfl (fun _=>(hr5 _)) ?_;clear S;intro a S
    clear hr5
    refine Ef 7 S hsel rfl (by kernel_rfl) (by kernel_rfl) (by kernel_rfl) (by kernel_rfl) rfl (fun _ hw=>(Hp isAgg3 (off:=x3.toNat * 1) (o:=0) (S.tm rfl) ((Pc Ih S (i:=0) rfl hg5 (Ed hc1).1 (Hr (e':=.own Aw 3 1 x1.length (x1.flatMap eInt)))).kept hw) rfl)) fun a S=>Gu 8 S hsel rfl rfl (by kernel_rfl) (by kernel_rfl) rfl (fun _=>(Rm (S.tm rfl))) fun a S=>Gu 9 S hsel rfl rfl (by kernel_rfl) (by kernel_rfl) rfl (fun _=>(Rm (S.tm rfl))) ?_;clear S;intro a S
    obtain ⟨b6,hg6,hr6⟩:=Hk (a:=a) (x:=.tmp 22) (y:=.tmp 23) (ty:=0) Oz Ih S (i:=0) rfl (Ed hc2).1 (Ed hc2).2 (S.tm rfl) (S.tm rfl)
    refine Gu 10 S hsel rfl rfl (by kernel_rfl) (by kernel_rfl) rfl (fun _=>(hr6 _)) ?_;clear S;intro a S
    clear hr6
    refine Ef 11 S hsel rfl (by kernel_rfl) (by kernel_rfl) (by kernel_rfl) (by kernel_rfl) rfl (fun _ hw=>(Hp isAgg3 (off:=x2.toNat * 1) (o:=0) (S.tm rfl) ((Pc Ih S (i:=0) rfl hg6 (Ed hc2).1 (Hr (e':=.own Aw 3 1 x1.length (x1.flatMap eInt)))).kept hw) rfl)) ?_;clear S;intro a S
    obtain ⟨b7,hg7,hr7⟩:=Hk (a:=a) (x:=.tmp 14) (y:=.tmp 15) (ty:=0) Oz Ih S (i:=0) rfl (Ed hc3).1 (Ed hc3).2 (S.tm rfl) (S.tm rfl)
    refine Gu 12 S hsel rfl rfl (by kernel_rfl) (by kernel_rfl) rfl (fun _=>(hr7 _)) ?_;clear S;intro a S
    clear hr7
    refine Xz 13 (Aw.ownBlock.toList) rfl (by kernel_rfl) rfl (Pv (c:=0) (j:=x2.toNat) (nth x1 x3) Ih S (S.tm rfl) (S.tm rfl) (i:=0) rfl hg7 (Ed hc3).1 sizeOf3 (vs:=[iV (nth x1 x3)]) rfl rfl rfl rfl rfl ?_);clear S;intro w9 hk7 S
    refine Ld (Ya ?_)
    obtain ⟨b8,hg8,hr8⟩:=Hk (a:=a) (x:=.tmp 16) (y:=.tmp 17) (ty:=0) Oz Ih S (i:=0) rfl (Ed hc4).1 (Ed hc4).2 (S.tm rfl) (S.tm rfl)
    refine Ef 14 S hsel rfl rfl rfl (by kernel_rfl) (by kernel_rfl) rfl (fun _ hw=>(hr8 _)) ?_;clear S;intro a S
    clear hr8
    refine Gw 15 (by kernel_rfl) rfl (Pv (c:=0) (j:=x3.toNat) (nth x1 x2) Ih S (S.tm rfl) (S.tm rfl) (i:=0) rfl hg8 (Ed hc4).1 sizeOf3 (vs:=[iV (nth x1 x2)]) rfl rfl rfl rfl rfl ?_);clear S;intro w11 hk9 S
    refine Ld (Hx hk9 (Wu (by kernel_rfl) ?_))
    clear hsel
    replace S:=(S.nl [.own Aw 3 1 ((x1.set x2.toNat (nth x1 x3)).set x3.toNat (nth x1 x2)).length (((x1.set x2.toNat (nth x1 x3)).set x3.toNat (nth x1 x2)).flatMap eInt)] [true] rfl).k3 0 2 3 rfl
    refine Ho (Tn (Fg (Vm S rfl rfl fun a S=>Vq S Gf rfl rfl rfl fun a S=>Vm S rfl rfl fun a S=>Vq S Ja rfl rfl rfl fun a S=>Va S rfl rfl fun a S=>Va S rfl rfl fun a S=>Dl ?_)))
    exact ⟨m1,⟨((x1.set x2.toNat (nth x1 x3)).set x3.toNat (nth x1 x2)),W (x2 + 1),W (x3 - 1),h,S.nf [true] rfl ⟨rfl,rfl,rfl,trivial⟩⟩,Nat.lt_succ_self _⟩
   ·exact wp_exit (Ei (Ei (Gp (Tn (⟨x1,h,S.nf [true] rfl trivial⟩)))))
 clear S h;rintro a w2 ⟨x1,h,S⟩;rw [hj1] at h;clear hj1 j1
 obtain rfl:=Option.some.inj h
 exact Uv S results76 ⟨(S.holds _ (List.mem_of_getElem? (i:=0) rfl)),rfl⟩
def MM (xs : List Dt) (j : Nat) : Array Value:=#[iV (j : Int),.agg (Dt.enc (nth xs (j : Int))).toArray]
theorem back_in (φ ξ : View) (n Bs : Nat) (sv : Value) (xs : List Dt) (hB : φ Bs = some (.cells [sv].toArray 34 (0,0))) (hs : Slc ξ 11 sv (xs.map Dt.enc)) (l : Nat) (J : Nat → World → Prop) (w : World) (hJ : ∀ k w,J k w → Emb φ w ∧ Emb ξ w) (h0 : J 0 w)
    (hr : ∀ k x w1,(Xg xs.length)[k]? = some x → J k w1 → YieldAt (WF none) (n - 1) prog l (MM xs x) w1 fun e w'=>e = .returned (.bool true) ∧ J (k + 1) w') :
    CallsIn (WF none) n prog 99 (#[.func (.yield l) #[] #[]] ++ #[.pointer (some ⟨Bs,0,none⟩)]) w fun e w'=>(∃ v,e = .returned v) ∧ J (Xg xs.length).length w':=by
  refine i_enter (vs:=[.func (.yield l) #[] #[],.pointer (some ⟨Bs,0,none⟩)]) func99 rfl ntmps99 rfl fun a S=>?_
  have hlen : (Xg xs.length).length = xs.length:=by simp [Xg]
  have hmx:=Jn hs
  have hQ : ∀ fn a w,¬ bodyPost prog fn (fun e w'=>(∃ v,e = .returned v) ∧ J (Xg xs.length).length w') .outgrown a w:=fun _ _ _ ⟨⟨_,e⟩,_⟩=>by cases e
  have hbox : ∀ {k : Nat} {w : World},J k w → Rh w Bs 0 [sv]:=fun hj=>(Sn hB).at (hJ _ _ hj).1
  have hw : ∀ k : Nat,k ≤ xs.length → W ((xs.length : Int) - 1 - (k : Int)) = (xs.length : Int) - 1 - (k : Int):=fun k hk=>Oc (by omega) (by omega)
  refine Xn (Qs (hQ f99) rfl (lv S (Hp isAgg34 (off:=0) (o:=0) (S.tm rfl) (hbox h0) rfl) rfl fun a S=>lv S (Fz Ni (S.tm rfl) (Fl hs)) rfl fun a S=>lv S (Ja (S.tm rfl) rfl) rfl fun a S=>lv S (Ra (S.tm rfl)) rfl fun a S=>Ld (Tn (wpIn_block (i_loop (fun m a w'=>∃ k : Nat,k ≤ xs.length ∧ m = xs.length - k ∧ J k w' ∧ Sx w' [] nov [] [(0,.func (.yield l) #[] #[]),(1,.pointer (some ⟨Bs,0,none⟩)),(3,iV ((xs.length : Int) - 1 - (k : Int)))] 19 a w') xs.length ⟨0,Nat.zero_le _,rfl,h0,?_⟩ ?_)))))
  · have h1:=(S.rebase (w':=w)).sub (K':=[(0,.func (.yield l) #[] #[]),(1,.pointer (some ⟨Bs,0,none⟩)),(3,iV (W ((xs.length : Int) - 1)))]) (subR rfl)
    have h2:=hw 0 (Nat.zero_le _)
    rw [show (((0 : Nat) : Int)) = 0 from rfl,Int.sub_zero] at h2 ⊢
    rw [h2] at h1
    exact h1
  · clear S;rintro m a w1 ⟨k,hk,rfl,hj,S⟩
    refine Xn (Xn (Qs (hQ f99) rfl (lv S (Rm (S.tm rfl)) rfl fun a S=>lv S (Qd (S.tm rfl) rfl) rfl fun a S=>Ld (Tn (LA (S.tm rfl) (fun hb=>?_) (fun hb=>?_))))))
    · have hb' : (0 : Int) ≤ (xs.length : Int) - 1 - (k : Int):=by simpa using hb
      have hlt : k < xs.length:=by omega
      have hx:=revI_at hlt
      have hy:=hr k _ w1 hx hj
      have hidx : ((xs.length - 1 - k : Nat) : Int) = (xs.length : Int) - 1 - (k : Int):=by omega
      refine wpIn_skip (Tn (Xn (wpIn_block (Xn (wpIn_region_lit (OB S (Rm (S.tm rfl)) (fun _ h=>by cases h) rfl fun a S=>OB S (Rm (S.tm rfl)) (fun _ h=>by cases h) rfl fun a S=>OB S (Hp isAgg34 (off:=0) (o:=0) (S.tm rfl) (hbox hj) rfl) (fun _ h=>by cases h) rfl fun a S=>OB S (Rm (S.tm rfl)) (fun _ h=>by cases h) rfl ?_))))));clear S;intro a S
      obtain ⟨b1,o1,hm1,hr1⟩:=Fd (a:=a) (x:=.tmp 13) (y:=.tmp 14) (ty:=0) Ni hs (nth_q (show xs.length - 1 - k < xs.length by omega)) rfl (S.tm rfl) (S.tm (by rw [hidx];rfl))
      refine OB S (hr1 _) (fun _ h=>by cases h) rfl fun a S=>OB S (Fx isAgg38 sizeOf38 (off:=o1) (o:=0) (part:=(Dt.enc (nth xs ((xs.length - 1 - k : Nat) : Int)))) rfl rfl (S.tm rfl) (hm1.at (hJ _ _ hj).2)) (fun _ h=>by cases h) rfl ?_;clear S;intro a S
      have h12 : a.eval (.tmp 12) = iV (((xs.length - 1 - k : Nat)) : Int):=by rw [hidx];exact S.tm rfl
      have h16:=S.tm (t:=16) rfl
      refine n_yield S (S.tm rfl) (vs:=MM xs (xs.length - 1 - k)) (by simp [MM,h12,h16]) rfl hy ?_ (fun e w' h=>⟨_,h.1⟩)
      clear S;rintro v w2 a ⟨hv,hj2⟩ S
      obtain rfl : v = .bool true:=by injection hv
      refine OB S (Hh (S.tm rfl)) (fun _ h=>by cases h) rfl fun a S=>n_done (Tn (LA (S.tm rfl) (fun h=>by cases h) (fun _=>wpIn_skip (Ho (Tn ?_)))))
      refine Qs (fun a w h=>hQ f99 a w h) rfl (lv S (Rm (S.tm rfl)) rfl fun a S=>lv S (Ja (S.tm rfl) rfl) rfl fun a S=>lv S (Ra (S.tm rfl)) rfl fun a S=>Ld (Tn ⟨xs.length - (k + 1),a,by omega,rfl,k + 1,hlt,rfl,hj2,?_⟩))
      have h1:=S.sub (K':=[(0,.func (.yield l) #[] #[]),(1,.pointer (some ⟨Bs,0,none⟩)),(3,iV (W ((xs.length : Int) - 1 - (k : Int) - 1)))]) (subR rfl)
      have h2:=hw (k + 1) hlt
      have h3 : (xs.length : Int) - 1 - ((k + 1 : Nat) : Int) = (xs.length : Int) - 1 - (k : Int) - 1:=by omega
      rw [h3] at h2 ⊢
      rw [h2] at h1
      exact h1
    · have hb' : ¬ (0 : Int) ≤ (xs.length : Int) - 1 - (k : Int):=by simpa using hb
      obtain rfl : k = xs.length:=by omega
      refine wpIn_exit (Ei (Ei (Gp ?_)))
      show bodyPost _ _ _ .normal _ _
      rw [AY]
      refine ⟨S.nodefer,.tuple #[],by rw [results_none results99],⟨_,rfl⟩,?_⟩
      rw [hlen]
      exact hj
theorem back_ok (w : World) (sv : Value) (m : Nat) (hsl : Kk sv m) : Calls prog 75 [sv].toArray w (Ret w [] fun τ v _=>∃ Bs,v = .func (.func 99) #[] #[.pointer (some ⟨Bs,0,none⟩)] ∧ τ Bs = some (.cells [sv].toArray 34 (0,0))):=by
  refine Mo [] [] func75 rfl ntmps75 rfl (by simp) (by simp [fps]) (by simp [fps]) fun a S=>(Fs (Fg (My S (S.tm rfl) (cs:=[sv]) (Kk.cells hsl) rfl ?_)));clear S;intro a w1 b1 hz1 hk1 S
  refine lv S (Ra rfl) rfl fun a S=>Ld (Tn (Fs (Fg (lv S (Um (us:=#[]) (vs:=#[.pointer (some ⟨b1,0,none⟩)]) (by simp) (by simp [S.tm (t:=1) rfl])) rfl fun a S=>lv S (Ra (S.tm rfl)) rfl fun a S=>Ld (Tn (wp_ret ?_))))))
  exact Eo S results75 rfl ⟨b1,rfl,blk_ret S (i:=0) rfl rfl⟩
abbrev kvP : Eg → Value:=fun x=>Value.agg (Eg.enc x).toArray
abbrev HD (b1 b2 b3 b4 : Nat) (at_ : Int) (m : List (Eg × Bool)) (x : List Int) (v : Value) : List LEnt :=
  [.own v 3 1 x.length (x.flatMap eInt),.blk b4 [v] 22,.blk b3 [.map (some b2)] 140,.map b2 (Gn kvP Value.bool m) m.length,.blk b1 [iV at_] 3]
set_option maxRecDepth 20000 in
theorem EZ (w : World) (v_l : Value) (l : List Dt) (hs_l : Slc (view w []) 11 v_l (l.map Dt.enc)) (at_ : Int) (r : List Int) (h : Wd l at_ = some r) :
    Calls prog 41 [v_l,iV at_].toArray w (Ret w [] fun τ v _=>Td τ 3 1 v r.length (r.flatMap eInt)):=by
  have hcons : ∀ {dn is : List Nat} {i : Nat} {k : Nat},Xg l.length = dn ++ i :: is → dn.length = k → (Xg l.length)[k]? = some i:=fun hd hk=>by rw [hd,← hk];simp
  have hQ : ∀ fn a w',¬ bodyPostM (WF none) 3 prog fn (Ret w [] fun τ v _=>Td τ 3 1 v r.length (r.flatMap eInt)) .outgrown a w':=fun _ _ _ ⟨_,e,_⟩=>by cases e
  refine TQ 3 func41 rfl ntmps41 rfl fun a S=>?_
  replace S:=S.nk [] [(0,v_l),(1,iV at_)] [] rfl (subR rfl)
  refine Xn (Qs (hQ f41) rfl (My S (S.tm rfl) (cs:=[iV at_]) rfl rfl ?_));clear S;intro a w1 b1 hz1 hk1 S
  refine lv S (Ra rfl) rfl fun a S=>Ld (Tn (Xn (Qs (hQ f41) rfl (Rk (κ:=Eg) (ν:=Bool) S rfl kvP Value.bool ?_))));clear S;intro a w2 b2 hz2 hk2 S
  refine Hz S zeroValue140 (cs:=[.map none]) rfl rfl ?_;clear S;intro a w3 b3 hz3 hk3 S
  refine Fh S (S.tm rfl) (S.tm rfl) (i:=0) (off:=0) rfl sizeOf140 (vs:=[.map (some b2)]) rfl rfl rfl rfl ?_;clear S;intro w4 hk4 S
  refine Ld (Tn (Xn (Qs (hQ f41) rfl (Hz S zeroValue22 (cs:=[.slice none 0 0]) rfl rfl ?_))));clear S;intro a w5 b4 hz5 hk5 S
  replace S:=S.nil 3 1
  refine Ld (Tn (Xn (Xn (Qs (hQ f41) rfl (lv S (Rm (S.tm rfl)) rfl ?_)))));clear S;intro a S
  have hz6:=S.keep.size
  refine Ec S (fun _=>Dv (vs:=[v_l]) ⟨(S.tm rfl),trivial⟩ call75) (back_ok _ v_l _ (Fl hs_l)) rfl ?_;clear S;intro v1 a w6 hv1 hk6 hn1 S
  obtain ⟨φ1,hl1,hm1,S⟩:=S.see' hn1 hz6
  obtain ⟨Bs,rfl,hB⟩:=hv1
  replace hB:=hm1 _ _ hB
  refine Ld (Tn (wpIn_block ?_))
  replace S:=S.nk (HD b1 b2 b3 b4 at_ [] [] (.slice none 0 0)) [(3,.pointer (some ⟨b1,0,none⟩)),(5,.pointer (some ⟨b3,0,none⟩)),(6,.pointer (some ⟨b4,0,none⟩)),(11,.func (.func 99) #[] #[.pointer (some ⟨Bs,0,none⟩)])] [true,true,true,true,true] rfl (subR rfl)
  rw [AY]
  refine i_range (n:=3) (Xg l.length) (MM l) S (S.tm rfl) (fun args w=>call99 args w) (fun _=>rfl)
    (fun ll J W hJ h0 hr=>back_in φ1 (view w []) (3 - 1) Bs v_l l hB hs_l ll J W hJ h0 hr)
    (fun k L'=>∃ m x v,(∃ dn is,Xg l.length = dn ++ is ∧ dn.length = k ∧ Km l at_ is m x = some r) ∧ L' = HD b1 b2 b3 b4 at_ m x v)
    ⟨[],[],.slice none 0 0,⟨[],_,rfl,rfl,h⟩,rfl⟩ ?_ ?_
  · clear h
    rintro ll D rec k i L' w7 hst hss hx ⟨m,x,v,⟨dn,is,hd,hk,h⟩,rfl⟩ S0
    have hact:=prms2 a 12 13 (iV (i : Int)) (.agg (Dt.enc (nth l (i : Int))).toArray) S0.nodefer
    obtain ⟨is',rfl⟩ : ∃ is',is = i :: is':=by
      cases is with
      | nil=>rw [hd,List.append_nil,← hk] at hx;simp at hx
      | cons j is' =>
        have:=hcons hd hk
        rw [hx] at this
        exact ⟨is',by rw [Option.some.inj this]⟩
    unfold MM
    rw [hact]
    have S:=(S0.put (d:=12) (v:=iV (i : Int)) (by decide)).put (d:=13) (v:=.agg (Dt.enc (nth l (i : Int))).toArray) (by decide)
    generalize ((a.put (some 12) (iV (i : Int))).put (some 13) (.agg (Dt.enc (nth l (i : Int))).toArray)) = a' at S
    refine Xn (Qs (fun _ _ h=>h) rfl (lv S (Ra (S.tm rfl)) rfl fun a S=>Ld (Tn (Qs (fun _ _ h=>h) rfl (Hz S zeroValue38 (cs:=[sV An,iV 0,iV 0,iV 0,sV An,sV An,sV An,iV 0,iV 0,sV An,iV 0]) rfl rfl ?_)))));clear S;intro a w8 b5 hz8 hk8 S
    refine Fh S (S.tm rfl) (S.tm rfl) (i:=0) (off:=0) rfl sizeOf38 (vs:=(Dt.enc (nth l (i : Int)))) rfl rfl rfl rfl ?_;clear S;intro w9 hk9 S
    refine Ld (Tn (i_begin S (i:=1) rfl (hst _) ?_));clear S;intro w10 S
    rw [hss] at S
    replace S:=S.nk (.blk b5 (Dt.enc (nth l (i : Int))) 38 :: .obj ll (.loop (rec .busy)) :: .obj D (.deferred (some [])) :: HD b1 b2 b3 b4 at_ m x v) [(3,.pointer (some ⟨b1,0,none⟩)),(5,.pointer (some ⟨b3,0,none⟩)),(6,.pointer (some ⟨b4,0,none⟩)),(7,iV (i : Int)),(8,.pointer (some ⟨b5,0,none⟩))] [true,true,true,true,true,true,true,true] rfl (subR rfl)
    rw [Km] at h
    refine wpIn_block (Xn (i_mid (fun b w'=>∃ a,b = Ov [] a ∧ Sx w [] φ1 (.blk b5 (Dt.enc (nth l (i : Int))) 38 :: .obj ll (.loop (rec .busy)) :: .obj D (.deferred (some [])) :: HD b1 b2 b3 b4 at_ m x v) [(3,.pointer (some ⟨b1,0,none⟩)),(5,.pointer (some ⟨b3,0,none⟩)),(6,.pointer (some ⟨b4,0,none⟩)),(7,iV (i : Int)),(8,.pointer (some ⟨b5,0,none⟩)),(23,bV (Vv l at_ i m))] 40 a w') ?_ ?_))
    · rcases Bool.eq_false_or_eq_true (decide (at_ < ((nth l (i : Int)).At))) with hb1 | hb1
      · refine HC [] [] Tryz.mixed rfl S rfl (by kernel_rfl) ?_;clear S;intro w11 hk11 hsel S
        refine Kz [0,1,2,3,4,5,6,7,8,9] hsel (by kernel_rfl) rfl (Gk S rfl (Ge Ui (S.tm rfl)) rfl fun a S=>Gk S rfl (Mi isAgg3 (S.tm rfl) (S.cell (i:=0) rfl rfl)) rfl fun a S=>Gk S rfl (Mi isAgg3 (S.tm rfl) (S.cell (i:=7) rfl rfl)) rfl fun a S=>Gk S rfl (Jh (S.tm rfl) (S.tm rfl)) rfl fun a S=>Gk S rfl (Rm (S.tm rfl)) rfl ?_);clear S;intro a S
        iterate 4 (refine Qe S rfl rfl rfl rfl (Mh hb1) rfl ?_ rfl;clear S;intro a S)
        refine Gk S rfl (Qi hb1 (S.tm rfl) rfl) rfl fun a S=>Ig ?_
        have hq : Vv l at_ i m = true:=by unfold Vv;rw [hb1];rfl
        refine Tn ⟨a,rfl,?_⟩
        rw [hq]
        exact S.nk (.blk b5 (Dt.enc (nth l (i : Int))) 38 :: .obj ll (.loop (rec .busy)) :: .obj D (.deferred (some [])) :: HD b1 b2 b3 b4 at_ m x v) [(3,.pointer (some ⟨b1,0,none⟩)),(5,.pointer (some ⟨b3,0,none⟩)),(6,.pointer (some ⟨b4,0,none⟩)),(7,iV (i : Int)),(8,.pointer (some ⟨b5,0,none⟩)),(23,bV true)] [true,true,true,true,true,true,true,true] rfl (subR rfl)
      · refine HC [] [] Tryz.mixed rfl S rfl (by kernel_rfl) ?_;clear S;intro w11 hk11 hsel S
        refine Ef 0 S hsel rfl rfl rfl (by kernel_rfl) (by kernel_rfl) rfl (fun _ hw=>(Ge Ui (S.tm rfl))) fun a S=>Ef 1 S hsel rfl rfl rfl (by kernel_rfl) (by kernel_rfl) rfl (fun _ hw=>(Hp isAgg3 (off:=0) (o:=2) (S.tm rfl) ((S.blk_mem (i:=0) (cells:=(Dt.enc (nth l (i : Int)))) (b:=b5) (T:=38) rfl (Hr (e':=.blk b5 (Dt.enc (nth l (i : Int))) 38))).kept hw) rfl)) fun a S=>Ef 2 S hsel rfl rfl rfl (by kernel_rfl) (by kernel_rfl) rfl (fun _ hw=>(Hp isAgg3 (off:=0) (o:=0) (S.tm rfl) ((S.blk_mem (i:=7) (cells:=[iV at_]) (b:=b1) (T:=3) rfl (Hr (e':=.blk b1 [iV at_] 3))).kept hw) rfl)) fun a S=>Ef 3 S hsel rfl rfl rfl (by kernel_rfl) (by kernel_rfl) rfl (fun _ hw=>(Jh (S.tm rfl) (S.tm rfl))) fun a S=>Ef 4 S hsel rfl rfl rfl (by kernel_rfl) (by kernel_rfl) rfl (fun _ hw=>(Rm (S.tm rfl))) fun a S=>Ev 5 S hsel rfl rfl rfl rfl hb1 rfl rfl (by kernel_rfl) (by kernel_rfl) rfl (fun _ hw=>(Hp isAgg140 (off:=0) (o:=0) (S.tm rfl) ((S.blk_mem (i:=5) (cells:=[.map (some b2)]) (b:=b3) (T:=140) rfl (Hr (e':=.blk b3 [.map (some b2)] 140))).kept hw) rfl)) fun a S=>Ev 6 S hsel rfl rfl rfl rfl hb1 rfl rfl (by kernel_rfl) (by kernel_rfl) rfl (fun _ hw=>(Fx isAgg38 sizeOf38 (off:=0) (o:=0) (part:=(Dt.enc (nth l (i : Int)))) rfl rfl (S.tm rfl) ((S.blk_mem (i:=0) (cells:=(Dt.enc (nth l (i : Int)))) (b:=b5) (T:=38) rfl (Hr (e':=.blk b5 (Dt.enc (nth l (i : Int))) 38))).kept hw))) fun a S=>Gw 7 (by kernel_rfl) rfl (Ea S rfl rfl rfl hb1 (Ec S (fun _=>Dv (vs:=[.agg (Dt.enc (nth l (i : Int))).toArray]) ⟨(S.tm rfl),trivial⟩ call74) (Wr _ (nth l (i : Int)) _ rfl) rfl ?_));clear S;intro v3 a w12 hv2 hk9 hn2 S
        subst hv2
        refine Ld (Hx hk9 (Kz [8,9] hsel (by kernel_rfl) rfl ?_))
        refine Fm S rfl rfl rfl rfl hb1 (Gv S (Pt (kv:=kvP) (vv:=Value.bool) (m:=m) (key:=(Ek (nth l (i : Int)))) (z:=false) (S.map_at (i:=6) rfl) underlying140 EB zeroValue4 (S.tm rfl) (S.tm rfl)) rfl fun a S=>Gk S rfl (Qj hb1 (S.tm rfl) (S.tm rfl)) rfl fun a S=>Ig ?_)
        have hq : Vv l at_ i m = Ee m (Ek (nth l (i : Int))) false:=by unfold Vv;rw [hb1];rfl
        refine Tn ⟨a,rfl,?_⟩
        rw [hq]
        exact S.nk (.blk b5 (Dt.enc (nth l (i : Int))) 38 :: .obj ll (.loop (rec .busy)) :: .obj D (.deferred (some [])) :: HD b1 b2 b3 b4 at_ m x v) [(3,.pointer (some ⟨b1,0,none⟩)),(5,.pointer (some ⟨b3,0,none⟩)),(6,.pointer (some ⟨b4,0,none⟩)),(7,iV (i : Int)),(8,.pointer (some ⟨b5,0,none⟩)),(23,bV (Ee m (Ek (nth l (i : Int))) false))] [true,true,true,true,true,true,true,true] rfl (subR rfl)
    · clear S;rintro _ w11 ⟨a,rfl,S⟩
      refine LA (S.tm rfl) (fun hb2=>?_) (fun hb2=>?_)
      · rw [if_pos hb2] at h
        refine wpIn_exit (Ei (Gp ?_))
        exact ⟨_,⟨m,x,v,⟨dn ++ [i],is',by rw [hd];simp,by simp [hk],h⟩,rfl⟩,S0.back (S.nk (.obj ll (.loop (rec .busy)) :: .obj D (.deferred (some [])) :: HD b1 b2 b3 b4 at_ m x v) [] [false,true,true,true,true,true,true,true] rfl (subR rfl))⟩
      · rw [if_neg (by rw [hb2];simp)] at h
        obtain ⟨hc2,h⟩:=Ia h
        refine wpIn_skip (Tn (i_mid (fun b w'=>∃ a,b = Ov [] a ∧ Sx w [] φ1 (.blk b5 (Dt.enc (nth l (i : Int))) 38 :: .obj ll (.loop (rec .busy)) :: .obj D (.deferred (some [])) :: HD b1 b2 b3 b4 at_ (if decide ((nth l (i : Int)).Kind = 4) = true then Gj m (Eg.mk ((nth l (i : Int)).Of) ((nth l (i : Int)).Other)) true else m) x v) [(6,.pointer (some ⟨b4,0,none⟩)),(7,iV (i : Int)),(8,.pointer (some ⟨b5,0,none⟩))] 40 a w') ?_ ?_))
        · refine Xn (Qs (fun _ _ h=>h) rfl (lv S (Ge Pm (S.tm rfl)) rfl ?_));clear S;intro a S
          refine lv S (Mi isAgg3 (S.tm rfl) (S.cell (i:=0) rfl rfl)) rfl fun a S=>lv S (Im (S.tm rfl) rfl) rfl fun a S=>Ld (Tn (LA (S.tm rfl) (fun hb3=>?_) (fun hb3=>?_)))
          · rw [if_pos hb3]
            refine Qs (fun _ _ h=>h) rfl (lv S (Mi isAgg140 (S.tm rfl) (S.cell (i:=5) rfl rfl)) rfl fun a S=>lv S (Ge Yg (S.tm rfl)) rfl fun a S=>lv S (Mi isAgg9 (S.tm rfl) (S.cell (i:=0) rfl rfl)) rfl fun a S=>lv S (Ge Vn (S.tm rfl)) rfl fun a S=>lv S (Mi isAgg3 (S.tm rfl) (S.cell (i:=0) rfl rfl)) rfl fun a S=>lv S (Mj TM (pv:=[(0,sV ((nth l (i : Int)).Of)),(1,iV ((nth l (i : Int)).Other))]) ⟨rfl,(S.tm rfl),rfl,(S.tm rfl),trivial⟩ (cs:=[sV ((nth l (i : Int)).Of),iV ((nth l (i : Int)).Other)]) (by kernel_rfl)) rfl fun a S=>Ox (kv:=kvP) (vv:=Value.bool) (m:=m) (key:=(Eg.mk ((nth l (i : Int)).Of) ((nth l (i : Int)).Other))) (val:=true) S (i:=6) rfl underlying140 EB (S.tm rfl) (S.tm rfl) rfl ?_);clear S;intro w13 hk10 S
            refine Ld (Tn ⟨a,rfl,?_⟩)
            exact S.nk (.blk b5 (Dt.enc (nth l (i : Int))) 38 :: .obj ll (.loop (rec .busy)) :: .obj D (.deferred (some [])) :: HD b1 b2 b3 b4 at_ (Gj m (Eg.mk ((nth l (i : Int)).Of) ((nth l (i : Int)).Other)) true) x v) [(6,.pointer (some ⟨b4,0,none⟩)),(7,iV (i : Int)),(8,.pointer (some ⟨b5,0,none⟩))] [true,true,true,true,true,true,true,true] rfl (subR rfl)
          · rw [if_neg (by rw [hb3];simp)]
            refine wpIn_skip (Tn ⟨a,rfl,?_⟩)
            exact S.nk (.blk b5 (Dt.enc (nth l (i : Int))) 38 :: .obj ll (.loop (rec .busy)) :: .obj D (.deferred (some [])) :: HD b1 b2 b3 b4 at_ m x v) [(6,.pointer (some ⟨b4,0,none⟩)),(7,iV (i : Int)),(8,.pointer (some ⟨b5,0,none⟩))] [true,true,true,true,true,true,true,true] rfl (subR rfl)
        · clear S;rintro _ w12 ⟨a,rfl,S⟩
          generalize (if decide ((nth l (i : Int)).Kind = 4) = true then Gj m (Eg.mk ((nth l (i : Int)).Of) ((nth l (i : Int)).Other)) true else m) = m2 at h S
          refine Qs (fun _ _ h=>h) rfl (lv S (Mi isAgg22 (S.tm rfl) (S.cell (i:=4) rfl rfl)) rfl fun a S=>lv S (Rm (S.tm rfl)) rfl fun a S=>Et S underlying22 sizeOf3 zeroValue3 rfl rfl (pv:=[(0,iV (i : Int))]) ⟨rfl,(S.tm rfl),trivial⟩ (cs:=[iV (i : Int)]) (by kernel_rfl) rfl ?_);clear S;intro a w14 b6 hz5 hk11 S
          refine Mb Oz Ih S (S.tm rfl) (i:=4) rfl (S.tm rfl) (j:=0) rfl (ys:=[(i : Int)]) rfl rfl rfl rfl (by have:=Mn hc2;omega) rfl ?_;clear S;intro v4 a w15 hk12 S
          refine Fh S (S.tm rfl) (S.tm rfl) (i:=5) (off:=0) rfl sizeOf22 (vs:=[v4]) (Kk.cells (Pb (S.own_at (i:=4) rfl))) rfl rfl (Qn (Kk.one (Pb (S.own_at (i:=4) rfl))) rfl) ?_;clear S;intro w16 hk13 S
          refine Ld (Ho ?_)
          exact ⟨_,⟨m2,x ++ [(i : Int)],v4,⟨dn ++ [i],is',by rw [hd];simp,by simp [hk],h⟩,rfl⟩,S0.back (S.nk (.obj ll (.loop (rec .busy)) :: .obj D (.deferred (some [])) :: HD b1 b2 b3 b4 at_ m2 (x ++ [(i : Int)]) v4) [] [false,false,true,true,true,true,true,true,true] rfl (subR rfl))⟩
  · rintro D ll o L' w7 ⟨m,x,v,⟨dn,is,hd,hk,h⟩,rfl⟩ S
    obtain rfl : is = []:=by
      have h1:=congrArg List.length hd
      rw [List.length_append] at h1
      exact List.length_eq_zero_iff.1 (by omega)
    rw [Km] at h
    refine Ho (Tn (Xn (Qs (hQ f41) rfl (lv S (Mi isAgg22 (S.tm rfl) (S.cell (i:=3) rfl rfl)) rfl fun a S=>Oy 2 S rfl (fun _=>.own v 3 1 r.length (r.flatMap eInt)) (fun _=>Dv (vs:=[v]) ⟨(S.tm rfl),trivial⟩ call76) (AE _ v x (S.holds _ (List.mem_of_getElem? (i:=2) rfl)) _ h) rfl (fun _ _ _ h=>⟨h.1,fun _ hc=>hc⟩) ?_))));clear S;intro v5 a w17 hv3 hk14 hn3 S
    replace hv3:=hv3.2
    subst hv3
    refine Ld (Tn (Xn (Qs (hQ f41) rfl (lv S (Mi isAgg22 (S.tm rfl) (S.cell (i:=3) rfl rfl)) rfl fun a S=>lv S (Ra (S.tm rfl)) rfl fun a S=>Ld (Tn (wpIn_ret ?_))))))
    exact i_ret S (i:=1) rfl results41 rfl (fun w' S=>Sw S (i:=2) rfl rfl)
theorem Zx (w : World) (ψ : View) (hψ : View.le ψ (view w [])) (Af : Mp) (Cn : R32) (Cs : Tv ψ Af Cn) (Ac : Value) (Ag : List Dt) (Ae : Slc ψ 11 Ac (Ag.map Dt.enc)) (Cb : Int) (r : (Option Kd)) (h : Ti Af Ag Cb = some r) :
    Calls prog 18 [.agg (R32.enc Cn).toArray,Ac,iV Cb].toArray w (Ret w [] fun τ v _=>DR (join ψ τ) 99 R99.enc EX v r):=by
 obtain ⟨u1,u2,rfl,hs1,⟨u3,rfl,hs2⟩⟩:=Cs
 refine Fe func18 rfl ntmps18 rfl fun a S=>?_
 unfold Ti at h
 replace S:=S.k3 0 1 2 rfl
 refine Fr (My S (S.tm rfl) (cs:=[u1.val,u3.val,iV Af.Table.Relay,iV Af.Table.Most,iV Af.Final.Size,iV Af.Final.Many,iV Af.Final.Reserves]) rfl rfl ?_);clear S;intro a w1 b1 hz1 hk1 S
 refine Vk S rfl rfl fun a S=>Dz (lv S (Fx isAgg32 sizeOf32 (off:=0) (o:=0) (part:=[u1.val,u3.val,iV Af.Table.Relay,iV Af.Table.Most,iV Af.Final.Size,iV Af.Final.Many,iV Af.Final.Reserves]) rfl rfl (S.tm rfl) (S.cellsAt (i:=0) rfl)) rfl ?_);clear S;intro a S
 refine lv S (Mj bt_99 (pv:=[(0,.agg #[u1.val,u3.val,iV Af.Table.Relay,iV Af.Table.Most,iV Af.Final.Size,iV Af.Final.Many,iV Af.Final.Reserves])]) ⟨rfl,(S.tm rfl),trivial⟩ (cs:=[u1.val,u3.val,iV Af.Table.Relay,iV Af.Table.Most,iV Af.Final.Size,iV Af.Final.Many,iV Af.Final.Reserves,.slice none 0 0]) (by obtain ⟨_,_,hv⟩:=(Fl hs1);rw [hv];clear hv;obtain ⟨_,_,hv⟩:=(Fl hs2);rw [hv];clear hv;kernel_rfl)) rfl ?_;clear S;intro a S
 refine My S (S.tm rfl) (cs:=[u1.val,u3.val,iV Af.Table.Relay,iV Af.Table.Most,iV Af.Final.Size,iV Af.Final.Many,iV Af.Final.Reserves,.slice none 0 0]) rfl rfl ?_;clear S;intro a w2 b2 hz2 hk2 S
 replace S:=S.nil 38 11
 refine Va S rfl rfl fun a S=>Dl (Fs (Fr (Vm S rfl rfl fun a S=>Vm S rfl rfl ?_)));clear S;intro a S
 obtain ⟨r1,hr1,h⟩:=Fb h
 have hz3:=S.keep.size
 refine Ec S (fun _=>Dv (vs:=[Ac,iV Cb]) ⟨(S.tm rfl),(S.tm rfl),trivial⟩ call41) (EZ _ Ac Ag (Ae.mono (View.le_trans hψ (S.le_arg Ej))) Cb _ hr1) rfl ?_;clear S;intro v1 a w3 hv1 hk3 hn1 S
 obtain ⟨φ1,hl1,hm1,S⟩:=S.see' hn1 hz3
 have hs3:=hv1.mono hm1
 refine lv S (Fz Oz (S.tm rfl) (Fl (He Ih hs3))) rfl fun a S=>lv S (Rm rfl) rfl fun a S=>Dl ?_
 replace S:=(S.nl [.own (.slice none 0 0) 38 11 ([] : List Dt).length (([] : List Dt).flatMap Dt.enc),.blk b2 [u1.val,u3.val,iV Af.Table.Relay,iV Af.Table.Most,iV Af.Final.Size,iV Af.Final.Many,iV Af.Final.Reserves,(.slice none 0 0)] 99] [true,true,false] rfl).k5 1 7 15 16 17 rfl
 obtain ⟨j1,hj1,h⟩:=Eu h
 refine En (fun a w'=>∃ x1 : List Dt,∃ v2 : Value,j1 x1 = some r ∧ Sx w [] φ1 [.own v2 38 11 x1.length (x1.flatMap Dt.enc),.blk b2 [u1.val,u3.val,iV Af.Table.Relay,iV Af.Table.Most,iV Af.Final.Size,iV Af.Final.Many,iV Af.Final.Reserves,v2] 99] [(7,.pointer (some ⟨b2,0,none⟩))] 36 a w') ?_ ?_
 ·refine wp_block (Hb (fun (ys1 : List Int) a w'=>∃ i1 : Nat,∃ x1 : List Dt,∃ v2 : Value,(∃ dn,r1 = dn ++ ys1 ∧ dn.length = i1) ∧ Lv Ag j1 ys1 i1 x1 = some r ∧ Sx w [] φ1 [.own v2 38 11 x1.length (x1.flatMap Dt.enc),.blk b2 [u1.val,u3.val,iV Af.Table.Relay,iV Af.Table.Most,iV Af.Final.Size,iV Af.Final.Many,iV Af.Final.Reserves,v2] 99] [(1,Ac),(7,.pointer (some ⟨b2,0,none⟩)),(15,v1),(16,iV (r1.length : Int)),(17,iV (i1 : Int))] 36 a w') List.length r1 ⟨0,([] : List Dt),(.slice none 0 0),⟨[],rfl,rfl⟩,h,S.nf [true,true] rfl (subR rfl)⟩ ?_)
  clear S h;rintro ys1 a w4 ⟨i1,x1,v2,⟨dn,hd1,hi1⟩,h,S⟩
  cases ys1 with
  | nil =>
   rw [Lv.eq_1] at h
   refine Fr (Vb S Ex rfl rfl rfl fun a S=>Ld ?_)
   replace S:=S.k6 1 7 15 16 17 18 rfl
   exact Tn (Fs (wp_cond_false ((S.tm rfl).trans (congrArg Value.bool (Io hd1 hi1))) (wp_exit (Ei (Ei (Gp (Tn (⟨x1,v2,h,S.nf [true,true] rfl ⟨rfl,trivial⟩⟩))))))))
  | cons y1 ys1 =>
   rw [Lv.eq_2] at h
   refine Fr (Vb S Ex rfl rfl rfl fun a S=>Ld ?_)
   replace S:=S.k6 1 7 15 16 17 18 rfl
   refine Tn (Fs (wp_cond_true ((S.tm rfl).trans (congrArg Value.bool (Hv hd1 hi1))) (wp_skip (Tn (Fs (wp_block (Fs (Fg ?_))))))))
   obtain ⟨b3,o1,hm2,hr2⟩:=Fd (a:=a) (x:=.tmp 15) (y:=.tmp 17) (ty:=0) Oz (He Ih hs3) (Iq hd1 hi1) rfl (S.tm rfl) (S.tm rfl)
   refine lv S (hr2 _) rfl ?_;clear S;intro a S
   clear hr2
   refine lv S (Hp isAgg3 (off:=o1) (o:=0) (S.tm rfl) (hm2.at S.emb) rfl) rfl fun a S=>Va S rfl rfl fun a S=>Dl ?_
   obtain ⟨hc1,h⟩:=Ia h
   obtain ⟨hc2,h⟩:=Ia h
   refine Hd [13] (v2.ownBlock.toList) Tryz.mixed S rfl (by kernel_rfl) ?_;clear S;intro w9 hk7 hsel S
   refine Gu 0 S hsel rfl rfl (by kernel_rfl) (by kernel_rfl) rfl (fun _=>(Rm (S.tm rfl))) fun a S=>Gu 1 S hsel rfl rfl (by kernel_rfl) (by kernel_rfl) rfl (fun _=>(Rm (S.tm rfl))) fun a S=>Gu 2 S hsel rfl rfl (by kernel_rfl) (by kernel_rfl) rfl (fun _=>(Ll (S.tm rfl))) fun a S=>Gu 3 S hsel rfl rfl (by kernel_rfl) (by kernel_rfl) rfl (fun _=>(Ge GR (S.tm rfl))) fun a S=>Ef 4 S hsel rfl (by kernel_rfl) (by kernel_rfl) (by kernel_rfl) (by kernel_rfl) rfl (fun _ hw=>(Hp isAgg34 (off:=0) (o:=7) (S.tm rfl) ((S.blk_mem (i:=1) (cells:=[u1.val,u3.val,iV Af.Table.Relay,iV Af.Table.Most,iV Af.Final.Size,iV Af.Final.Many,iV Af.Final.Reserves,v2]) (b:=b2) (T:=99) rfl (Mk (i:=0) (j:=1) (e:=.own v2 38 11 x1.length (x1.flatMap Dt.enc)) (e':=.blk b2 [u1.val,u3.val,iV Af.Table.Relay,iV Af.Table.Most,iV Af.Final.Size,iV Af.Final.Many,iV Af.Final.Reserves,v2] 99) S rfl rfl rfl)).kept hw) rfl)) fun a S=>Gu 5 S hsel rfl rfl (by kernel_rfl) (by kernel_rfl) rfl (fun _=>(Rm (S.tm rfl))) fun a S=>Gu 6 S hsel rfl rfl (by kernel_rfl) (by kernel_rfl) rfl (fun _=>(Rm (S.tm rfl))) ?_;clear S;intro a S
   obtain ⟨b6,o3,hm4,hr4⟩:=Fd (a:=a) (x:=.tmp 26) (y:=.tmp 27) (ty:=0) Ni (Ae.mono (View.le_trans hψ (S.le_arg (Ip (i:=0) (e:=.own v2 38 11 x1.length (x1.flatMap Dt.enc)) rfl)))) (Ed hc1).1 (Ed hc1).2 (S.tm rfl) (S.tm rfl)
   refine Gu 7 S hsel rfl rfl (by kernel_rfl) (by kernel_rfl) rfl (fun _=>hr4 _) ?_;clear S;intro a S
   clear hr4
   refine Ef 8 S hsel rfl (by kernel_rfl) (by kernel_rfl) (by kernel_rfl) (by kernel_rfl) rfl (fun _ hw=>(Fx isAgg38 sizeOf38 (off:=o3) (o:=0) (part:=(Dt.enc (nth Ag y1))) rfl rfl (S.tm rfl) (hm4.kept hw))) fun a S=>Gw 9 (by kernel_rfl) rfl (Et S underlying34 sizeOf38 zeroValue38 rfl rfl (pv:=[(0,.agg (Dt.enc (nth Ag y1)).toArray)]) ⟨rfl,(S.tm rfl),trivial⟩ (cs:=[sV ((nth Ag y1).Site),iV ((nth Ag y1).No),iV ((nth Ag y1).At),iV ((nth Ag y1).Kind),sV ((nth Ag y1).Who),sV ((nth Ag y1).Club),sV ((nth Ag y1).Race),iV ((nth Ag y1).Time),iV ((nth Ag y1).Fault),sV ((nth Ag y1).Of),iV ((nth Ag y1).Other)]) (by kernel_rfl) rfl ?_);clear S;intro a w10 b7 hz5 hk8 S
   refine Ld (Hx (Keep.none hk8) (Gw 10 (by kernel_rfl) rfl ?_))
   refine Mb Ni Dt.enc_ok S (S.tm rfl) (i:=1) rfl (S.tm rfl) (j:=0) rfl (ys:=[(nth Ag y1)]) rfl rfl rfl rfl (by have:=Mn hc2;omega) rfl ?_;clear S;intro v4 a w11 hk9 S
   refine Ld (Hx hk9 (Gu 11 S hsel rfl rfl (by kernel_rfl) (by kernel_rfl) rfl (fun _=>(Ll (S.tm rfl))) fun a S=>Gu 12 S hsel rfl rfl (by kernel_rfl) (by kernel_rfl) rfl (fun _=>(Ge GR (S.tm rfl))) fun a S=>Xz 13 (v4.ownBlock.toList ++ [b2]) rfl (by kernel_rfl) rfl (Fh S (S.tm rfl) (S.tm rfl) (i:=2) (off:=7) rfl sizeOf34 (vs:=[v4]) (Kk.cells (Pb (S.own_at (i:=1) rfl))) rfl rfl (Qn (Kk.one (Pb (S.own_at (i:=1) rfl))) rfl) ?_)));clear S;intro w12 hk10 S
   refine Ld (Ya (Wu (by kernel_rfl) ?_))
   clear hsel
   replace S:=(S.nl [.own v4 38 11 (x1 ++ [(nth Ag y1)]).length ((x1 ++ [(nth Ag y1)]).flatMap Dt.enc),.blk b2 [u1.val,u3.val,iV Af.Table.Relay,iV Af.Table.Most,iV Af.Final.Size,iV Af.Final.Many,iV Af.Final.Reserves,v4] 99] [false,true,true] rfl).k5 1 7 15 16 17 rfl
   exact Ho (Tn (Fg (Vq S Gf rfl rfl rfl fun a S=>Vm S rfl rfl fun a S=>Dl (⟨ys1,⟨i1 + 1,(x1 ++ [(nth Ag y1)]),v4,⟨_,(hd1).trans (List.append_cons _ _ _),by simp [hi1]⟩,h,S.nf [true,true] rfl ⟨rfl,rfl,rfl,rfl,(congrArg (fun z=>some (Value.int .i64 z)) (Hw hd1 hi1 (Jn (He Ih hs3)))),trivial⟩⟩,Nat.lt_succ_self _⟩))))
 clear S h;rintro a w5 ⟨x1,v2,h,S⟩;rw [hj1] at h;clear hj1 j1
 refine Tn (Fr (Vm S rfl rfl fun a S=>Va S rfl rfl fun a S=>Dl (wp_ret ?_)))
 obtain ⟨φ2,hl2,hs4,S⟩:=S.freezeT (xs:=x1) (enc:=Dt.enc) (i:=0) rfl (fun _ h=>by cases h)
 replace S:=S.nk [.blk b2 [u1.val,u3.val,iV Af.Table.Relay,iV Af.Table.Most,iV Af.Final.Size,iV Af.Final.Many,iV Af.Final.Reserves,v2] 99] [(6,.pointer (some ⟨b2,0,none⟩)),(7,.pointer (some ⟨b2,0,none⟩)),(35,.pointer (some ⟨b2,0,none⟩))] [] rfl (subR rfl)
 obtain ⟨φ3,hl3,hb1,S⟩:=S.freezeB (i:=0) rfl (by simp)
 replace S:=S.nk [] [(6,.pointer (some ⟨b2,0,none⟩)),(7,.pointer (some ⟨b2,0,none⟩)),(35,.pointer (some ⟨b2,0,none⟩))] [] rfl (subR rfl)
 obtain rfl:=Option.some.inj h
 exact Eo S results18 rfl (DR.mk (R99.mk (R32.mk u1 (R28.mk u3 Af.Table.Relay Af.Table.Most) Af.Final) ⟨v2,Kk.one (Fl (He Dt.enc_ok hs4))⟩) (Uo (BV hψ S.le_newer) _ _ ⟨(R32.mk u1 (R28.mk u3 Af.Table.Relay Af.Table.Most) Af.Final),⟨v2,Kk.one (Fl (He Dt.enc_ok hs4))⟩,rfl,⟨u1,(R28.mk u3 Af.Table.Relay Af.Table.Most),rfl,(hs1.mono (le_join_left _ _)),⟨u3,rfl,(hs2.mono (le_join_left _ _))⟩⟩,((He Dt.enc_ok hs4).mono (View.le_trans hl3 (S.all_right hψ)))⟩) ((BV hψ S.le_newer) _ _ ((S.all_right hψ) _ _ hb1)))
set_option maxRecDepth 20000 in
theorem LB (w : World) (ψ : View) (hψ : View.le ψ (view w [])) (Af : Mp) (Cn : R32) (Cs : Tv ψ Af Cn) (Ac : Value) (Ag : List Dt) (Ae : Slc ψ 11 Ac (Ag.map Dt.enc)) (Cy : Value) (Cb : List Int) (Cu : Slc ψ 1 Cy (Cb.map eInt)) (r : (Option Kd) × Int) (h : Yr Af Ag Cb = some r) :
    Calls prog 17 [.agg (R32.enc Cn).toArray,Ac,Cy].toArray w (Ret w [] fun τ v _=>∃ u1 : Value,v = .tuple #[u1,iV r.2] ∧ DR (join ψ τ) 99 R99.enc EX u1 r.1):=by
 obtain ⟨u1,u2,rfl,hs1,⟨u3,rfl,hs2⟩⟩:=Cs
 refine Fe func17 rfl ntmps17 rfl fun a S=>?_
 unfold Yr at h
 replace S:=S.k3 0 1 2 rfl
 refine Fr (My S (S.tm rfl) (cs:=[u1.val,u3.val,iV Af.Table.Relay,iV Af.Table.Most,iV Af.Final.Size,iV Af.Final.Many,iV Af.Final.Reserves]) rfl rfl ?_);clear S;intro a w1 b1 hz1 hk1 S
 refine Vk S rfl rfl fun a S=>Vk S rfl rfl fun a S=>Dl (Fs (Fr (lv S (Fx isAgg32 sizeOf32 (off:=0) (o:=0) (part:=[u1.val,u3.val,iV Af.Table.Relay,iV Af.Table.Most,iV Af.Final.Size,iV Af.Final.Many,iV Af.Final.Reserves]) rfl rfl (S.tm rfl) (S.cellsAt (i:=0) rfl)) rfl ?_)));clear S;intro a S
 obtain ⟨r1,hr1,h⟩:=Fb h
 refine Ec S (fun _=>Dv (vs:=[.agg (R32.enc (R32.mk u1 (R28.mk u3 Af.Table.Relay Af.Table.Most) Af.Final)).toArray]) ⟨(S.tm rfl),trivial⟩ call38) (EC _ Af (R32.mk u1 (R28.mk u3 Af.Table.Relay Af.Table.Most) Af.Final) ⟨u1,(R28.mk u3 Af.Table.Relay Af.Table.Most),rfl,(hs1.mono (View.le_trans hψ (S.le_arg Ej))),⟨u3,rfl,(hs2.mono (View.le_trans hψ (S.le_arg Ej)))⟩⟩ _ hr1) rfl ?_;clear S;intro v1 a w2 hv1 hk2 hn1 S
 subst hv1
 refine Va S rfl rfl fun a S=>Dz (Vm S rfl rfl fun a S=>Vq S Ky rfl rfl rfl fun a S=>Dl (Fc h (S.tm rfl) (fun hb1 h=>?_) (fun hb1 h=>?_)))
 ·refine Fr (Vm S rfl rfl fun a S=>Vk S rfl rfl fun a S=>Va S rfl rfl fun a S=>Dl (wp_ret (Dy ?_)))
  obtain rfl:=Option.some.inj h
  exact Lq S results17 rfl rfl ⟨_,rfl,rfl⟩
 ·refine wp_skip (Tn (Fs (Fr (Vm S rfl rfl ?_))));clear S;intro a S
  obtain ⟨r2,hr2,h⟩:=Fb h
  refine Ec S (fun _=>Dv (vs:=[Ac]) ⟨(S.tm rfl),trivial⟩ call39) (DB _ Ac Ag (Ae.mono (View.le_trans hψ (S.le_arg Ej))) _ hr2) rfl ?_;clear S;intro v2 a w3 hv2 hk3 hn2 S
  subst hv2
  refine Va S rfl rfl fun a S=>Dz (Vm S rfl rfl fun a S=>Vq S Ky rfl rfl rfl fun a S=>Ld ?_)
  replace S:=(S.nl [.blk b1 [u1.val,u3.val,iV Af.Table.Relay,iV Af.Table.Most,iV Af.Final.Size,iV Af.Final.Many,iV Af.Final.Reserves] 32] [true] rfl).k5 1 2 3 9 20 rfl
  refine Tn (Fc h (S.tm rfl) (fun hb2 h=>?_) (fun hb2 h=>?_))
  ·refine Fr (Vm S rfl rfl fun a S=>Vk S rfl rfl fun a S=>Va S rfl rfl fun a S=>Dl (wp_ret (Dy ?_)))
   obtain rfl:=Option.some.inj h
   exact Lq S results17 rfl rfl ⟨_,rfl,rfl⟩
  ·refine wp_skip (Tn (Fs (Fr (Vm S rfl rfl fun a S=>lv S (Fz Oz (S.tm rfl) (Fl Cu)) rfl fun a S=>lv S (Rm rfl) rfl fun a S=>Dl ?_))))
   replace S:=S.k6 1 2 3 22 23 24 rfl
   obtain ⟨j1,hj1,h⟩:=Eu h
   refine En (fun a w'=>j1 = some r ∧ Sx w [] nov [.blk b1 [u1.val,u3.val,iV Af.Table.Relay,iV Af.Table.Most,iV Af.Final.Size,iV Af.Final.Many,iV Af.Final.Reserves] 32] [(1,Ac),(2,Cy),(3,.pointer (some ⟨b1,0,none⟩))] 41 a w') ?_ ?_
   ·refine wp_block (Hb (fun (ys1 : List Int) a w'=>∃ i1 : Nat,(∃ dn,Cb = dn ++ ys1 ∧ dn.length = i1) ∧ Oq j1 ys1 i1 = some r ∧ Sx w [] nov [.blk b1 [u1.val,u3.val,iV Af.Table.Relay,iV Af.Table.Most,iV Af.Final.Size,iV Af.Final.Many,iV Af.Final.Reserves] 32] [(1,Ac),(2,Cy),(3,.pointer (some ⟨b1,0,none⟩)),(22,Cy),(23,iV (Cb.length : Int)),(24,iV (i1 : Int))] 41 a w') List.length Cb ⟨0,⟨[],rfl,rfl⟩,h,S.nf [true] rfl (subR rfl)⟩ ?_)
    clear S h;rintro ys1 a w4 ⟨i1,⟨dn,hd1,hi1⟩,h,S⟩
    cases ys1 with
    | nil =>
     rw [Oq.eq_1] at h
     refine Fr (Vb S Ex rfl rfl rfl fun a S=>Ld ?_)
     replace S:=S.k7 1 2 3 22 23 24 25 rfl
     exact Tn (Fs (wp_cond_false ((S.tm rfl).trans (congrArg Value.bool (Io hd1 hi1))) (wp_exit (Ei (Ei (Gp (Tn (⟨h,S.nf [true] rfl (subR rfl)⟩))))))))
    | cons y1 ys1 =>
     rw [Oq.eq_2] at h
     refine Fr (Vb S Ex rfl rfl rfl fun a S=>Ld ?_)
     replace S:=S.k7 1 2 3 22 23 24 25 rfl
     refine Tn (Fs (wp_cond_true ((S.tm rfl).trans (congrArg Value.bool (Hv hd1 hi1))) (wp_skip (Tn (Fs (wp_block (Fs (Fg ?_))))))))
     obtain ⟨b2,o1,hm1,hr3⟩:=Fd (a:=a) (x:=.tmp 22) (y:=.tmp 24) (ty:=0) Oz Cu (Iq hd1 hi1) rfl (S.tm rfl) (S.tm rfl)
     refine lv S (hr3 _) rfl ?_;clear S;intro a S
     clear hr3
     refine lv S (Hp isAgg3 (off:=o1) (o:=0) (S.tm rfl) (hm1.at (NT hψ S.emb0)) rfl) rfl fun a S=>Va S rfl rfl fun a S=>Dz (Vm S rfl rfl fun a S=>Ec S (fun _=>Dv (vs:=[iV y1]) ⟨(S.tm rfl),trivial⟩ call40) (Ss _ y1 _ rfl) rfl ?_);clear S;intro v3 a w6 hv3 hk4 hn3 S
     subst hv3
     refine Vu S Hh rfl rfl fun a S=>Dl (Fc h (S.tm rfl) (fun hb3 h=>?_) (fun hb3 h=>?_))
     ·refine Fr (Vk S rfl rfl fun a S=>Vk S rfl rfl fun a S=>Ld ?_)
      replace S:=S.n0.k2 6 7 rfl
      refine Tn (wp_ret (Fq (Dy (Dy (Fq (Dy (Dy ?_)))))))
      obtain rfl:=Option.some.inj h
      exact Lq S results17 rfl rfl ⟨_,rfl,rfl⟩
     ·exact wp_skip (Ho (Tn (Fg (Vq S Gf rfl rfl rfl fun a S=>Vm S rfl rfl fun a S=>Dl (⟨ys1,⟨i1 + 1,⟨_,(hd1).trans (List.append_cons _ _ _),by simp [hi1]⟩,h,S.nf [true] rfl ⟨rfl,rfl,rfl,rfl,rfl,(congrArg (fun z=>some (Value.int .i64 z)) (Hw hd1 hi1 (Jn Cu))),trivial⟩⟩,Nat.lt_succ_self _⟩)))))
   clear S h;rintro a w5 ⟨h,S⟩;rw [hj1] at h;clear hj1 j1
   refine Tn (Fs ?_)
   obtain ⟨hc1,h⟩:=Ia h
   obtain ⟨r3,hr5,h⟩:=Fb h
   refine Hd [] ([]) Tryz.mixed S rfl (by kernel_rfl) ?_;clear S;intro w8 hk6 hsel S
   refine Ef 0 S hsel rfl rfl rfl (by kernel_rfl) (by kernel_rfl) rfl (fun _ hw=>(Fx isAgg32 sizeOf32 (off:=0) (o:=0) (part:=[u1.val,u3.val,iV Af.Table.Relay,iV Af.Table.Most,iV Af.Final.Size,iV Af.Final.Many,iV Af.Final.Reserves]) rfl rfl (S.tm rfl) ((S.blk_mem (i:=0) (cells:=[u1.val,u3.val,iV Af.Table.Relay,iV Af.Table.Most,iV Af.Final.Size,iV Af.Final.Many,iV Af.Final.Reserves]) (b:=b1) (T:=32) rfl (Hr (e':=.blk b1 [u1.val,u3.val,iV Af.Table.Relay,iV Af.Table.Most,iV Af.Final.Size,iV Af.Final.Many,iV Af.Final.Reserves] 32))).kept hw))) fun a S=>Ef 1 S hsel rfl rfl rfl (by kernel_rfl) (by kernel_rfl) rfl (fun _ hw=>(Rm (S.tm rfl))) fun a S=>Ef 2 S hsel rfl rfl rfl (by kernel_rfl) (by kernel_rfl) rfl (fun _ hw=>(Rm (S.tm rfl))) fun a S=>Ef 3 S hsel rfl rfl rfl (by kernel_rfl) (by kernel_rfl) rfl (fun _ hw=>(Rm (S.tm rfl))) fun a S=>Ef 4 S hsel rfl rfl rfl (by kernel_rfl) (by kernel_rfl) rfl (fun _ hw=>(Fz Oz (S.tm rfl) (Fl Cu))) fun a S=>Ef 5 S hsel rfl rfl rfl (by kernel_rfl) (by kernel_rfl) rfl (fun _ hw=>(Ja (S.tm rfl) rfl)) ?_;clear S;intro a S
   obtain ⟨b4,o3,hm4,hr6⟩:=Fd (a:=a) (x:=.tmp 34) (y:=.tmp 37) (ty:=0) Oz (Cu.mono (View.le_trans hψ (S.le_arg Ej))) (Ed hc1).1 (Ed hc1).2 (S.tm rfl) (S.tm rfl)
   refine Ef 6 S hsel rfl rfl rfl (by kernel_rfl) (by kernel_rfl) rfl (fun _ hw=>hr6 _) ?_;clear S;intro a S
   clear hr6
   refine Ef 7 S hsel rfl rfl rfl (by kernel_rfl) (by kernel_rfl) rfl (fun _ hw=>(Hp isAgg3 (off:=o3) (o:=0) (S.tm rfl) (hm4.kept hw) rfl)) fun a S=>Gw 8 (by kernel_rfl) rfl ?_
   have hz3:=S.keep.size
   refine Ec S (fun _=>Dv (vs:=[.agg (R32.enc (R32.mk u1 (R28.mk u3 Af.Table.Relay Af.Table.Most) Af.Final)).toArray,Ac,iV (nth Cb (W ((Cb.length : Int) - 1)))]) ⟨(S.tm rfl),(S.tm rfl),(S.tm rfl),trivial⟩ call18) (Zx _ (join ψ nov) (Nx (View.le_trans hψ (S.le_arg Ej)) (S.le_new Ej)) Af (R32.mk u1 (R28.mk u3 Af.Table.Relay Af.Table.Most) Af.Final) ⟨u1,(R28.mk u3 Af.Table.Relay Af.Table.Most),rfl,(hs1.mono (le_join_left _ _)),⟨u3,rfl,(hs2.mono (le_join_left _ _))⟩⟩ Ac Ag (Ae.mono (le_join_left _ _)) (nth Cb (W ((Cb.length : Int) - 1))) _ hr5) rfl ?_;clear S;intro v5 a w9 hv5 hk7 hn5 S
   obtain ⟨φ2,hl2,hm5,S⟩:=S.see' hn5 hz3
   have hq2:=DR.mono (Uo (Ty hl2 hm5)) (Ty hl2 hm5) hv5
   refine Ld (Hx hk7 (Kz [9,10] hsel (by kernel_rfl) rfl ?_))
   clear hsel
   refine Gk S rfl (Ra (S.tm rfl)) rfl fun a S=>Gk S rfl (Ra rfl) rfl fun a S=>Ig ?_
   replace S:=S.n0.k2 6 7 rfl
   refine Tn (wp_ret ?_)
   obtain rfl:=Option.some.inj h
   exact Lq S results17 rfl rfl ⟨_,rfl,(DR.mono (Uo (BV hψ S.le_newer)) (BV hψ S.le_newer) hq2)⟩
theorem FA (w : World) (Ao : Eh) (Cf : Nat) (Bq : ByteArray) (Cg : (view w []) Cf = some (.cells [sV Bq].toArray 9 (0,0))) (r : Bool) (h : We Ao Bq = r) :
    Calls prog 78 [.agg (Eh.enc Ao).toArray,.pointer (some ⟨Cf,0,none⟩)].toArray w (Ret w [] fun _ v _=>v = bV r):=by
 refine Fe func78 rfl ntmps78 rfl fun a S=>?_
 unfold We at h
 replace S:=S.k2 0 1 rfl
 refine Fr (My S (S.tm rfl) (cs:=(Eh.enc Ao)) rfl rfl ?_);clear S;intro a w1 b1 hz1 hk1 S
 refine Vk S rfl rfl fun a S=>Dz (Vf Xa S rfl rfl fun a S=>Vl isAgg9 0 S rfl rfl rfl rfl fun a S=>lv S (Hp isAgg9 (off:=0) (o:=0) (S.tm rfl) ((Sn Cg).at S.emb0) rfl) rfl fun a S=>Vb S Wb rfl rfl rfl fun a S=>Va S rfl rfl fun a S=>Ld ?_)
 refine Tn (wp_ret ?_)
 subst h
 exact Eo S results78 rfl rfl
theorem Tc (w : World) (Aw : Value) (Ap : List Eh) (Bf : Slc (view w []) 8 Aw (Ap.map Eh.enc)) (Ba : Nat) (Ay : ByteArray) (Bm : (view w []) Ba = some (.cells [sV Ay].toArray 9 (0,0))) (r : Int) (h : Gh Ap Ay = r) :
    Calls prog 77 [Aw,.func (.func 78) #[] #[.pointer (some ⟨Ba,0,none⟩)]].toArray w (Ret w [] fun _ v _=>v = iV r):=by
 refine Fe func77 rfl ntmps77 rfl fun a S=>?_
 unfold Gh at h
 replace S:=S.k2 0 1 rfl
 refine Fr (Vk S rfl rfl fun a S=>Dl (Fs (Fr (Vm S rfl rfl fun a S=>lv S (Fz Vi (S.tm rfl) (Fl Bf)) rfl fun a S=>lv S (Rm rfl) rfl ?_))));clear S;intro a S
 refine Dl ?_
 replace S:=S.k4 0 1 7 8 rfl
 obtain ⟨j1,hj1,h⟩:=Eu h
 refine En (fun a w'=>j1 = r ∧ Sx w [] nov [] [] 19 a w') ?_ ?_
 ·refine wp_block (Hb (fun (ys1 : List Eh) a w'=>∃ i1 : Nat,(∃ dn,Ap = dn ++ ys1 ∧ dn.length = i1) ∧ Gg Ay j1 ys1 i1 = r ∧ Sx w [] nov [] [(0,Aw),(1,.func (.func 78) #[] #[.pointer (some ⟨Ba,0,none⟩)]),(7,iV (Ap.length : Int)),(8,iV (i1 : Int))] 19 a w') List.length Ap ⟨0,⟨[],rfl,rfl⟩,h,S.nf [] rfl (subR rfl)⟩ ?_)
  clear S h;rintro ys1 a w1 ⟨i1,⟨dn,hd1,hi1⟩,h,S⟩
  cases ys1 with
  | nil =>
   rw [Gg.eq_1] at h
   refine Fr (Vb S Ex rfl rfl rfl fun a S=>Ld ?_)
   replace S:=S.k5 0 1 7 8 9 rfl
   exact Tn (Fs (wp_cond_false ((S.tm rfl).trans (congrArg Value.bool (Io hd1 hi1))) (wp_exit (Ei (Ei (Gp (Tn (⟨h,S.nf [] rfl trivial⟩))))))))
  | cons y1 ys1 =>
   rw [Gg.eq_2] at h
   refine Fr (Vb S Ex rfl rfl rfl fun a S=>Ld ?_)
   replace S:=S.k5 0 1 7 8 9 rfl
   refine Tn (Fs (wp_cond_true ((S.tm rfl).trans (congrArg Value.bool (Hv hd1 hi1))) (wp_skip (Tn (Fs (wp_block (Fr (Vm S rfl rfl fun a S=>Va S rfl rfl ?_))))))));clear S;intro a S
   refine Dl (Fs (Fg ?_))
   iterate 3 (refine Vm S rfl rfl ?_;clear S;intro a S)
   obtain ⟨b1,o1,hm1,hr1⟩:=Fd (a:=a) (x:=.tmp 12) (y:=.tmp 13) (ty:=0) Vi Bf (Iq hd1 hi1) rfl (S.tm rfl) (S.tm rfl)
   refine lv S (hr1 _) rfl ?_;clear S;intro a S
   clear hr1
   refine lv S (Fx isAgg51 sizeOf51 (off:=o1) (o:=0) (part:=(Eh.enc y1)) rfl rfl (S.tm rfl) (hm1.at S.emb0)) rfl fun a S=>Ec S (fun _=>Un (cap:=[.pointer (some ⟨Ba,0,none⟩)]) (S.tm rfl) (vs:=[.agg (Eh.enc y1).toArray]) ⟨(S.tm rfl),trivial⟩ call78) (FA _ y1 Ba Ay ((S.le_arg Ej) _ _ Bm) _ rfl) rfl ?_;clear S;intro v1 a w3 hv1 hk1 hn1 S
   subst hv1
   refine Dl (Fc h (S.tm rfl) (fun hb1 h=>?_) (fun hb1 h=>?_))
   ·refine Fr (Vm S rfl rfl fun a S=>Va S rfl rfl fun a S=>Ld ?_)
    replace S:=S.k1 4 rfl
    refine Tn (wp_ret (Fq (Dy (Dy (Fq (Dy (Dy ?_)))))))
    subst h
    exact Eo S results77 rfl rfl
   ·exact wp_skip (Ho (Tn (Fg (Vq S Gf rfl rfl rfl fun a S=>Vm S rfl rfl fun a S=>Dl (⟨ys1,⟨i1 + 1,⟨_,(hd1).trans (List.append_cons _ _ _),by simp [hi1]⟩,h,S.nf [] rfl ⟨rfl,rfl,rfl,(congrArg (fun z=>some (Value.int .i64 z)) (Hw hd1 hi1 (Jn Bf))),trivial⟩⟩,Nat.lt_succ_self _⟩)))))
 clear S h;rintro a w2 ⟨h,S⟩;rw [hj1] at h;clear hj1 j1
 refine Tn (Fr (Vk S rfl rfl fun a S=>Dl (wp_ret ?_)))
 subst h
 exact Eo S results77 rfl rfl
set_option maxRecDepth 20000 in
theorem IF (w : World) (Ab : Int) (r : Int) (h : CT Ab = some r) :
    Calls prog 144 [.int .u32 Ab].toArray w (Ret w [] fun _ v _=>v = iV r):=by
 refine Fe func144 rfl ntmps144 rfl fun a S=>?_
 unfold CT at h
 replace S:=S.k1 0 rfl
 refine Fr (Vk S rfl rfl fun a S=>Dl (Fs (Fr (Vm S rfl rfl fun a S=>Vq S Qd rfl rfl rfl fun a S=>Ld ?_))))
 refine Tn ?_
 obtain ⟨j1,hj1,h⟩:=Eu h
 refine En (fun a w'=>∃ x1 : Int,∃ x2 : Int,j1 x1 x2 = some r ∧ Sx w [] nov [] [(0,.int .u32 x1),(2,iV x2)] 19 a w') ?_ ?_
 ·refine Fc h (S.tm rfl) (fun hb1 h=>?_) (fun hb1 h=>?_)
  ·refine Fr (Vm S rfl rfl fun a S=>lv S (Uu (S.tm rfl) rfl (by decide)) rfl fun a S=>Va S rfl rfl fun a S=>Dl (Fg (Vk S rfl rfl fun a S=>Dl ?_)))
   exact ⟨Gm .u32 Ab 16,16,h,S.nf [] rfl (subR rfl)⟩
  ·exact wp_skip (Tn (⟨Ab,0,h,S.nf [] rfl (subR rfl)⟩))
 clear S h;rintro a w1 ⟨x1,x2,h,S⟩;rw [hj1] at h;clear hj1 j1
 refine Tn (Fs (Fr (Vm S rfl rfl fun a S=>Vq S Qd rfl rfl rfl fun a S=>Dl ?_)))
 obtain ⟨j2,hj2,h⟩:=Eu h
 refine En (fun a w'=>∃ x3 : Int,∃ x4 : Int,j2 x3 x4 = some r ∧ Sx w [] nov [] [(0,.int .u32 x3),(2,iV x4)] 19 a w') ?_ ?_
 ·refine Fc h (S.tm rfl) (fun hb2 h=>?_) (fun hb2 h=>?_)
  ·refine Fr (Vm S rfl rfl fun a S=>lv S (Uu (S.tm rfl) rfl (by decide)) rfl fun a S=>Va S rfl rfl fun a S=>Dl (Fg (Vm S rfl rfl fun a S=>Vq S Gf rfl rfl rfl fun a S=>Va S rfl rfl ?_)));clear S;intro a S
   exact Dl (⟨Gm .u32 x1 8,W (x2 + 8),h,S.nf [] rfl (subR rfl)⟩)
  ·exact wp_skip (Tn (⟨x1,x2,h,S.nf [] rfl (subR rfl)⟩))
 clear S h;rintro a w2 ⟨x3,x4,h,S⟩;rw [hj2] at h;clear hj2 j2
 refine Tn (Fr (Vm S rfl rfl fun a S=>Vm S rfl rfl fun a S=>Vu S (Wc underlying218 underlying5) rfl rfl ?_));clear S;intro a S
 obtain ⟨hc1,h⟩:=Ia h
 refine lv S (Xj underlying9 rfl (S.tm rfl) hc1) rfl fun a S=>Vu S (Wc underlying5 underlying3) rfl rfl fun a S=>Vb S Gf rfl rfl rfl fun a S=>Va S rfl rfl fun a S=>Dl (wp_ret ?_)
 obtain rfl:=Option.some.inj h
 exact Eo S results144 rfl rfl
set_option maxRecDepth 20000 in
theorem CP (w : World) (Ab : Int) (r : Int) (h : Zk Ab = some r) :
    Calls prog 134 [.int .u64 Ab].toArray w (Ret w [] fun _ v _=>v = iV r):=by
 refine Fe func134 rfl ntmps134 rfl fun a S=>?_
 unfold Zk at h
 replace S:=S.k1 0 rfl
 refine Fr (Vk S rfl rfl fun a S=>Dl (Fs (Fr (Vm S rfl rfl fun a S=>Vq S Qd rfl rfl rfl fun a S=>Ld ?_))))
 refine Tn ?_
 obtain ⟨j1,hj1,h⟩:=Eu h
 refine En (fun a w'=>∃ x1 : Int,∃ x2 : Int,j1 x1 x2 = some r ∧ Sx w [] nov [] [(0,.int .u64 x1),(2,iV x2)] 25 a w') ?_ ?_
 ·refine Fc h (S.tm rfl) (fun hb1 h=>?_) (fun hb1 h=>?_)
  ·refine Fr (Vm S rfl rfl fun a S=>lv S (Uu (S.tm rfl) rfl (by decide)) rfl fun a S=>Va S rfl rfl fun a S=>Dl (Fg (Vk S rfl rfl fun a S=>Dl ?_)))
   exact ⟨Gm .u64 Ab 32,32,h,S.nf [] rfl (subR rfl)⟩
  ·exact wp_skip (Tn (⟨Ab,0,h,S.nf [] rfl (subR rfl)⟩))
 clear S h;rintro a w1 ⟨x1,x2,h,S⟩;rw [hj1] at h;clear hj1 j1
 refine Tn (Fs (Fr (Vm S rfl rfl fun a S=>Vq S Qd rfl rfl rfl fun a S=>Dl ?_)))
 obtain ⟨j2,hj2,h⟩:=Eu h
 refine En (fun a w'=>∃ x3 : Int,∃ x4 : Int,j2 x3 x4 = some r ∧ Sx w [] nov [] [(0,.int .u64 x3),(2,iV x4)] 25 a w') ?_ ?_
 ·refine Fc h (S.tm rfl) (fun hb2 h=>?_) (fun hb2 h=>?_)
  ·refine Fr (Vm S rfl rfl fun a S=>lv S (Uu (S.tm rfl) rfl (by decide)) rfl fun a S=>Va S rfl rfl fun a S=>Dl (Fg (Vm S rfl rfl fun a S=>Vq S Gf rfl rfl rfl fun a S=>Va S rfl rfl ?_)));clear S;intro a S
   exact Dl (⟨Gm .u64 x1 16,W (x2 + 16),h,S.nf [] rfl (subR rfl)⟩)
  ·exact wp_skip (Tn (⟨x1,x2,h,S.nf [] rfl (subR rfl)⟩))
 clear S h;rintro a w2 ⟨x3,x4,h,S⟩;rw [hj2] at h;clear hj2 j2
 refine Tn (Fs (Fr (Vm S rfl rfl fun a S=>Vq S Qd rfl rfl rfl fun a S=>Dl ?_)))
 obtain ⟨j3,hj3,h⟩:=Eu h
 refine En (fun a w'=>∃ x5 : Int,∃ x6 : Int,j3 x5 x6 = some r ∧ Sx w [] nov [] [(0,.int .u64 x5),(2,iV x6)] 25 a w') ?_ ?_
 ·refine Fc h (S.tm rfl) (fun hb3 h=>?_) (fun hb3 h=>?_)
  ·refine Fr (Vm S rfl rfl fun a S=>lv S (Uu (S.tm rfl) rfl (by decide)) rfl fun a S=>Va S rfl rfl fun a S=>Dl (Fg (Vm S rfl rfl fun a S=>Vq S Gf rfl rfl rfl fun a S=>Va S rfl rfl ?_)));clear S;intro a S
   exact Dl (⟨Gm .u64 x3 8,W (x4 + 8),h,S.nf [] rfl (subR rfl)⟩)
  ·exact wp_skip (Tn (⟨x3,x4,h,S.nf [] rfl (subR rfl)⟩))
 clear S h;rintro a w3 ⟨x5,x6,h,S⟩;rw [hj3] at h;clear hj3 j3
 refine Tn (Fr (Vm S rfl rfl fun a S=>Vm S rfl rfl fun a S=>Vu S (Wc underlying172 underlying5) rfl rfl ?_));clear S;intro a S
 obtain ⟨hc1,h⟩:=Ia h
 refine lv S (Xj underlying9 rfl (S.tm rfl) hc1) rfl fun a S=>Vu S (Wc underlying5 underlying3) rfl rfl fun a S=>Vb S Gf rfl rfl rfl fun a S=>Va S rfl rfl fun a S=>Dl (wp_ret ?_)
 obtain rfl:=Option.some.inj h
 exact Eo S results134 rfl rfl
theorem MN (w : World) (Ab : Int) (r : Int) (h : DT Ab = some r) :
    Calls prog 117 [.int .u64 Ab].toArray w (Ret w [] fun _ v _=>v = iV r):=by
 refine Fe func117 rfl ntmps117 rfl fun a S=>?_
 unfold DT at h
 replace S:=S.k1 0 rfl
 refine Fr (Vk S rfl rfl fun a S=>Dl (Fs (Fc h rfl (fun hb1 h=>?_) (fun hb1 h=>?_))))
 ·refine Fr (Vm S rfl rfl fun a S=>Vu S (Wc underlying190 underlying218) rfl rfl ?_);clear S;intro a S
  obtain ⟨r1,hr1,h⟩:=Fb h
  refine Ec S (fun _=>Dv (vs:=[.int .u32 (IntKind.wrap .u32 Ab)]) ⟨(S.tm rfl),trivial⟩ call144) (IF _ (IntKind.wrap .u32 Ab) _ hr1) rfl ?_;clear S;intro v1 a w1 hv1 hk1 hn1 S
  subst hv1
  refine Va S rfl rfl fun a S=>Dl (wp_ret (Dy ?_))
  obtain rfl:=Option.some.inj h
  exact Eo S results117 rfl rfl
 ·refine wp_skip (Tn (Fr (Vm S rfl rfl ?_)));clear S;intro a S
  obtain ⟨r2,hr2,h⟩:=Fb h
  refine Ec S (fun _=>Dv (vs:=[.int .u64 Ab]) ⟨(S.tm rfl),trivial⟩ call134) (CP _ Ab _ hr2) rfl ?_;clear S;intro v2 a w2 hv2 hk2 hn2 S
  subst hv2
  refine Va S rfl rfl fun a S=>Dl (wp_ret ?_)
  obtain rfl:=Option.some.inj h
  exact Eo S results117 rfl rfl
theorem CG (w : World) (Al : Dt) (Aq : Dt) (r : Int) (h : Ns Al Aq = r) :
    Calls prog 101 [.agg (Dt.enc Al).toArray,.agg (Dt.enc Aq).toArray].toArray w (Ret w [] fun _ v _=>v = iV r):=by
 refine Fe func101 rfl ntmps101 rfl fun a S=>?_
 unfold Ns at h
 replace S:=S.k2 0 1 rfl
 refine Fr (My S (S.tm rfl) (cs:=(Dt.enc Al)) rfl rfl ?_);clear S;intro a w1 b1 hz1 hk1 S
 refine My S (S.tm rfl) (cs:=(Dt.enc Aq)) rfl rfl ?_;clear S;intro a w2 b2 hz2 hk2 S
 refine Vk S rfl rfl fun a S=>Dz (Vf Ou S rfl rfl fun a S=>Vl isAgg9 1 S rfl rfl rfl rfl fun a S=>Vf Ou S rfl rfl fun a S=>Vl isAgg9 0 S rfl rfl rfl rfl fun a S=>Ec S (fun _=>Dv (vs:=[sV Al.Who,sV Aq.Who]) ⟨(S.tm rfl),(S.tm rfl),trivial⟩ call46) (On _ Al.Who Aq.Who _ rfl) rfl ?_);clear S;intro v1 a w3 hv1 hk3 hn1 S
 subst hv1
 refine Va S rfl rfl fun a S=>Dl (wp_ret ?_)
 subst h
 exact Eo S results101 rfl rfl
set_option maxRecDepth 20000 in
theorem Pn (w : World) (Aa : Value) (Ar : List Dt) (Bj : (LEnt.own Aa 38 11 Ar.length (Ar.flatMap Dt.enc)).holds w) (Al : Int) (Aq : Int) (r : (List Dt)) (h : Hs Ar Al Aq = some r) :
    Calls prog 94 [Aa,iV Al,iV Aq,.func (.func 101) #[] #[]].toArray w (Ret w (Aa.ownBlock.toList) fun _ v w'=>(LEnt.own Aa 38 11 r.length (r.flatMap Dt.enc)).holds w' ∧ v = .tuple #[]):=by
 refine Mo (Aa.ownBlock.toList) [.own Aa 38 11 Ar.length (Ar.flatMap Dt.enc)] func94 rfl ntmps94 rfl (fun e he=>by simp only [List.mem_singleton] at he;subst he;exact Bj) (Li _) (Nb _) fun a S=>?_
 unfold Hs at h
 replace S:=(S.nl [.own Aa 38 11 Ar.length (Ar.flatMap Dt.enc)] [true] rfl).k4 0 1 2 3 rfl
 refine Fr (Vm S rfl rfl fun a S=>Vq S Gf rfl rfl rfl fun a S=>Va S rfl rfl fun a S=>Dl ?_)
 replace S:=S.k5 0 1 2 3 8 rfl
 obtain ⟨j1,hj1,h⟩:=Eu h
 refine En (fun a w'=>∃ x1 : List Dt,j1 x1 = some r ∧ Sx w (Aa.ownBlock.toList) nov [.own Aa 38 11 x1.length (x1.flatMap Dt.enc)] [] 53 a w') ?_ ?_
 ·refine wp_block (Hb (fun (m1 : Nat) a w'=>∃ x1 : List Dt,∃ x2 : Int,Fa Aq Al j1 m1 x1 x2 = some r ∧ Sx w (Aa.ownBlock.toList) nov [.own Aa 38 11 x1.length (x1.flatMap Dt.enc)] [(0,Aa),(1,iV Al),(2,iV Aq),(3,.func (.func 101) #[] #[]),(8,iV x2)] 53 a w') id ((Aq - (W (Al + 1))).toNat + 2) ⟨Ar,W (Al + 1),h,S.nf [true] rfl (subR rfl)⟩ ?_)
  clear S h;rintro m1 a w1 ⟨x1,x2,h,S⟩
  cases m1 with
  | zero=>rw [Fa.eq_1] at h;cases h
  | succ m1 =>
   rw [Fa.eq_2] at h
   refine Fs (Fr (Vm S rfl rfl fun a S=>Vm S rfl rfl fun a S=>Vb S Ex rfl rfl rfl fun a S=>Dl (Fc h (S.tm rfl) (fun hb1 h=>?_) (fun hb1 h=>?_))))
   ·refine wp_skip (Tn (Fs (wp_block (Fr (Vm S rfl rfl fun a S=>Va S rfl rfl fun a S=>Dl ?_)))))
    replace S:=S.k6 0 1 2 3 8 9 rfl
    obtain ⟨j2,hj2,h⟩:=Eu h
    refine En (fun a w'=>∃ x3 : List Dt,j2 x3 = some r ∧ Sx w (Aa.ownBlock.toList) nov [.own Aa 38 11 x3.length (x3.flatMap Dt.enc)] [(0,Aa),(1,iV Al),(2,iV Aq),(3,.func (.func 101) #[] #[]),(8,iV x2)] 53 a w') ?_ ?_
    ·refine wp_block (Hb (fun (m2 : Nat) a w'=>∃ x3 : List Dt,∃ x4 : Int,Er Al j2 m2 x3 x4 = some r ∧ Sx w (Aa.ownBlock.toList) nov [.own Aa 38 11 x3.length (x3.flatMap Dt.enc)] [(0,Aa),(1,iV Al),(2,iV Aq),(3,.func (.func 101) #[] #[]),(8,iV x2),(9,iV x4)] 53 a w') id ((x2 - Al).toNat + 2) ⟨x1,x2,h,S.nf [true] rfl (subR rfl)⟩ ?_)
     clear S h;rintro m2 a w3 ⟨x3,x4,h,S⟩
     cases m2 with
     | zero=>rw [Er.eq_1] at h;cases h
     | succ m2 =>
      rw [Er.eq_2] at h
      refine Fs (Fs ?_)
      obtain ⟨j3,hj3,h⟩:=Eu h
      refine En (fun a w'=>∃ x5 : Bool,j3 x5 = some r ∧ Sx w (Aa.ownBlock.toList) nov [.own Aa 38 11 x3.length (x3.flatMap Dt.enc)] [(0,Aa),(1,iV Al),(2,iV Aq),(3,.func (.func 101) #[] #[]),(8,iV x2),(9,iV x4),(34,bV x5)] 53 a w') ?_ ?_
      ·rcases Bool.eq_false_or_eq_true (decide (Al < x4)) with hb2 | hb2
       ·replace h:=Qw h hb2
        obtain ⟨hc1,h⟩:=Ia h
        obtain ⟨hc2,h⟩:=Ia h
        refine Hd [] ([]) Tryz.mixed S rfl (by kernel_rfl) ?_;clear S;intro w7 hk2 hsel S
        refine Ef 0 S hsel rfl rfl rfl (by kernel_rfl) (by kernel_rfl) rfl (fun _ hw=>(Rm (S.tm rfl))) fun a S=>Ef 1 S hsel rfl rfl rfl (by kernel_rfl) (by kernel_rfl) rfl (fun _ hw=>(Rm (S.tm rfl))) fun a S=>Ef 2 S hsel rfl rfl rfl (by kernel_rfl) (by kernel_rfl) rfl (fun _ hw=>(Jh (S.tm rfl) (S.tm rfl))) fun a S=>Ef 3 S hsel rfl rfl rfl (by kernel_rfl) (by kernel_rfl) rfl (fun _ hw=>(Rm (S.tm rfl))) fun a S=>Ev 4 S hsel rfl rfl rfl rfl hb2 rfl rfl (by kernel_rfl) (by kernel_rfl) rfl (fun _ hw=>(Rm (S.tm rfl))) fun a S=>Ev 5 S hsel rfl rfl rfl rfl hb2 rfl rfl (by kernel_rfl) (by kernel_rfl) rfl (fun _ hw=>(Rm (S.tm rfl))) fun a S=>Ev 6 S hsel rfl rfl rfl rfl hb2 rfl rfl (by kernel_rfl) (by kernel_rfl) rfl (fun _ hw=>(Rm (S.tm rfl))) ?_;clear S;intro a S
        obtain ⟨b3,hg3,hr3⟩:=Hk (a:=a) (x:=.tmp 23) (y:=.tmp 24) (ty:=0) Ni Dt.enc_ok S (i:=0) rfl (Ed hc1).1 (Ed hc1).2 (S.tm rfl) (S.tm rfl)
        refine Ev 7 S hsel rfl rfl rfl rfl hb2 rfl rfl (by kernel_rfl) (by kernel_rfl) rfl (fun _ hw=>(hr3 _)) ?_;clear S;intro a S
        clear hr3
        refine Ev 8 S hsel rfl rfl rfl rfl hb2 rfl rfl (by kernel_rfl) (by kernel_rfl) rfl (fun _ hw=>(Fx isAgg38 sizeOf38 (off:=x4.toNat * 11) (o:=0) (part:=(Dt.enc (nth x3 x4))) rfl rfl (S.tm rfl) ((Pc Dt.enc_ok S (i:=0) rfl hg3 (Ed hc1).1 (Hr (e':=.own Aa 38 11 x3.length (x3.flatMap Dt.enc)))).kept hw))) fun a S=>Ev 9 S hsel rfl rfl rfl rfl hb2 rfl rfl (by kernel_rfl) (by kernel_rfl) rfl (fun _ hw=>(Rm (S.tm rfl))) fun a S=>Ev 10 S hsel rfl rfl rfl rfl hb2 rfl rfl (by kernel_rfl) (by kernel_rfl) rfl (fun _ hw=>(Rm (S.tm rfl))) fun a S=>Ev 11 S hsel rfl rfl rfl rfl hb2 rfl rfl (by kernel_rfl) (by kernel_rfl) rfl (fun _ hw=>(Ja (S.tm rfl) rfl)) ?_;clear S;intro a S
        obtain ⟨b4,hg4,hr4⟩:=Hk (a:=a) (x:=.tmp 27) (y:=.tmp 29) (ty:=0) Ni Dt.enc_ok S (i:=0) rfl (Ed hc2).1 (Ed hc2).2 (S.tm rfl) (S.tm rfl)
        refine Ev 12 S hsel rfl rfl rfl rfl hb2 rfl rfl (by kernel_rfl) (by kernel_rfl) rfl (fun _ hw=>(hr4 _)) ?_;clear S;intro a S
        clear hr4
        refine Ev 13 S hsel rfl rfl rfl rfl hb2 rfl rfl (by kernel_rfl) (by kernel_rfl) rfl (fun _ hw=>(Fx isAgg38 sizeOf38 (off:=((W (x4 - 1)).toNat) * 11) (o:=0) (part:=(Dt.enc (nth x3 (W (x4 - 1))))) rfl rfl (S.tm rfl) ((Pc Dt.enc_ok S (i:=0) rfl hg4 (Ed hc2).1 (Hr (e':=.own Aa 38 11 x3.length (x3.flatMap Dt.enc)))).kept hw))) fun a S=>Gw 14 (by kernel_rfl) rfl (Ea S rfl rfl rfl hb2 (Ec S (fun _=>Un (cap:=[]) (S.tm rfl) (vs:=[.agg (Dt.enc (nth x3 x4)).toArray,.agg (Dt.enc (nth x3 (W (x4 - 1)))).toArray]) ⟨(S.tm rfl),(S.tm rfl),trivial⟩ call101) (CG _ (nth x3 x4) (nth x3 (W (x4 - 1))) _ rfl) rfl ?_));clear S;intro v2 a w8 hv2 hk3 hn2 S
        subst hv2
        refine Ld (Hx hk3 (Kz [15,16] hsel (by kernel_rfl) rfl ?_))
        clear hsel
        refine Fm S rfl rfl rfl rfl hb2 (Gv S (Ex (S.tm rfl) rfl) rfl fun a S=>Gk S rfl (Qi hb2 (S.tm rfl) (S.tm rfl)) rfl fun a S=>Ig ?_)
        replace S:=S.nk [.own Aa 38 11 x3.length (x3.flatMap Dt.enc)] [(0,Aa),(1,iV Al),(2,iV Aq),(3,.func (.func 101) #[] #[]),(8,iV x2),(9,iV x4),(22,.func (.func 101) #[] #[]),(23,Aa),(24,iV x4),(25,.pointer (some ⟨b3,x4.toNat * 11,none⟩)),(26,.agg (Dt.enc (nth x3 x4)).toArray),(27,Aa),(28,iV x4),(29,iV (W (x4 - 1))),(30,.pointer (some ⟨b4,((W (x4 - 1)).toNat) * 11,none⟩)),(31,.agg (Dt.enc (nth x3 (W (x4 - 1)))).toArray),(32,iV (Ns (nth x3 x4) (nth x3 (W (x4 - 1))))),(33,bV (decide ((Ns (nth x3 x4) (nth x3 (W (x4 - 1)))) < 0))),(34,bV (decide ((Ns (nth x3 x4) (nth x3 (W (x4 - 1)))) < 0)))] [true] rfl (subR rfl)
        exact Tn (⟨decide ((Ns (nth x3 x4) (nth x3 (W (x4 - 1)))) < 0),h,S.nf [true] rfl (subR rfl)⟩)
       ·replace h:=Qx h hb2
        refine Hd [] ([]) Tryz.mixed S rfl (by kernel_rfl) ?_;clear S;intro w9 hk4 hsel S
        refine Kz [0,1,2,3,4,5,6,7,8,9,10,11,12,13,14,15,16] hsel (by kernel_rfl) rfl ?_
        clear hsel
        refine Gk S rfl (Rm (S.tm rfl)) rfl fun a S=>Gk S rfl (Rm (S.tm rfl)) rfl fun a S=>Gk S rfl (Jh (S.tm rfl) (S.tm rfl)) rfl fun a S=>Gk S rfl (Rm (S.tm rfl)) rfl ?_;clear S;intro a S
        iterate 12 (refine Qe S rfl rfl rfl rfl (Jq hb2) rfl ?_ rfl;clear S;intro a S)
        refine Gk S rfl (Qj hb2 (S.tm rfl) rfl) rfl fun a S=>Ig ?_
        replace S:=S.k7 0 1 2 3 8 9 34 rfl
        exact Tn (⟨false,h,S.nf [true] rfl (subR rfl)⟩)
      clear S h;rintro a w5 ⟨x5,h,S⟩;rw [hj3] at h;clear hj3 j3
      refine Tn (Fc h (S.tm rfl) (fun hb3 h=>?_) (fun hb3 h=>?_))
      ·refine wp_skip (Tn (Fs (wp_block ?_)))
       obtain ⟨hc3,h⟩:=Ia h
       obtain ⟨hc4,h⟩:=Ia h
       obtain ⟨hc5,h⟩:=Ia h
       obtain ⟨hc6,h⟩:=Ia h
       refine Hd [15,17] ([]) Tryz.mixed S rfl (by kernel_rfl) ?_;clear S;intro w14 hk9 hsel S
       refine Gu 0 S hsel rfl rfl (by kernel_rfl) (by kernel_rfl) rfl (fun _=>(Rm (S.tm rfl))) fun a S=>Gu 1 S hsel rfl rfl (by kernel_rfl) (by kernel_rfl) rfl (fun _=>(Rm (S.tm rfl))) fun a S=>Gu 2 S hsel rfl rfl (by kernel_rfl) (by kernel_rfl) rfl (fun _=>(Rm (S.tm rfl))) fun a S=>Gu 3 S hsel rfl rfl (by kernel_rfl) (by kernel_rfl) rfl (fun _=>(Rm (S.tm rfl))) fun a S=>Gu 4 S hsel rfl rfl (by kernel_rfl) (by kernel_rfl) rfl (fun _=>(Ja (S.tm rfl) rfl)) fun a S=>Gu 5 S hsel rfl rfl (by kernel_rfl) (by kernel_rfl) rfl (fun _=>(Rm (S.tm rfl))) fun a S=>Gu 6 S hsel rfl rfl (by kernel_rfl) (by kernel_rfl) rfl (fun _=>(Rm (S.tm rfl))) fun a S=>Gu 7 S hsel rfl rfl (by kernel_rfl) (by kernel_rfl) rfl (fun _=>(Ja (S.tm rfl) rfl)) ?_;clear S;intro a S
       obtain ⟨b9,hg9,hr9⟩:=Hk (a:=a) (x:=.tmp 42) (y:=.tmp 44) (ty:=0) Ni Dt.enc_ok S (i:=0) rfl (Ed hc3).1 (Ed hc3).2 (S.tm rfl) (S.tm rfl)
       refine Gu 8 S hsel rfl rfl (by kernel_rfl) (by kernel_rfl) rfl (fun _=>(hr9 _)) ?_;clear S;intro a S
       clear hr9
       refine Ef 9 S hsel rfl (by kernel_rfl) (by kernel_rfl) (by kernel_rfl) (by kernel_rfl) rfl (fun _ hw=>(Fx isAgg38 sizeOf38 (off:=((W (x4 - 1)).toNat) * 11) (o:=0) (part:=(Dt.enc (nth x3 (W (x4 - 1))))) rfl rfl (S.tm rfl) ((Pc Dt.enc_ok S (i:=0) rfl hg9 (Ed hc3).1 (Hr (e':=.own Aa 38 11 x3.length (x3.flatMap Dt.enc)))).kept hw))) fun a S=>Gu 10 S hsel rfl rfl (by kernel_rfl) (by kernel_rfl) rfl (fun _=>(Rm (S.tm rfl))) fun a S=>Gu 11 S hsel rfl rfl (by kernel_rfl) (by kernel_rfl) rfl (fun _=>(Rm (S.tm rfl))) ?_;clear S;intro a S
       obtain ⟨b10,hg10,hr10⟩:=Hk (a:=a) (x:=.tmp 47) (y:=.tmp 48) (ty:=0) Ni Dt.enc_ok S (i:=0) rfl (Ed hc4).1 (Ed hc4).2 (S.tm rfl) (S.tm rfl)
       refine Gu 12 S hsel rfl rfl (by kernel_rfl) (by kernel_rfl) rfl (fun _=>(hr10 _)) ?_;clear S;intro a S
       clear hr10
       refine Ef 13 S hsel rfl (by kernel_rfl) (by kernel_rfl) (by kernel_rfl) (by kernel_rfl) rfl (fun _ hw=>(Fx isAgg38 sizeOf38 (off:=x4.toNat * 11) (o:=0) (part:=(Dt.enc (nth x3 x4))) rfl rfl (S.tm rfl) ((Pc Dt.enc_ok S (i:=0) rfl hg10 (Ed hc4).1 (Hr (e':=.own Aa 38 11 x3.length (x3.flatMap Dt.enc)))).kept hw))) ?_;clear S;intro a S
       obtain ⟨b11,hg11,hr11⟩:=Hk (a:=a) (x:=.tmp 37) (y:=.tmp 38) (ty:=0) Ni Dt.enc_ok S (i:=0) rfl (Ed hc5).1 (Ed hc5).2 (S.tm rfl) (S.tm rfl)
       refine Gu 14 S hsel rfl rfl (by kernel_rfl) (by kernel_rfl) rfl (fun _=>(hr11 _)) ?_;clear S;intro a S
       clear hr11
       refine Xz 15 (Aa.ownBlock.toList) rfl (by kernel_rfl) rfl (Pv (c:=0) (j:=x4.toNat) (nth x3 (W (x4 - 1))) Dt.enc_ok S (S.tm rfl) (S.tm rfl) (i:=0) rfl hg11 (Ed hc5).1 sizeOf38 (vs:=[sV ((nth x3 (W (x4 - 1))).Site),iV ((nth x3 (W (x4 - 1))).No),iV ((nth x3 (W (x4 - 1))).At),iV ((nth x3 (W (x4 - 1))).Kind),sV ((nth x3 (W (x4 - 1))).Who),sV ((nth x3 (W (x4 - 1))).Club),sV ((nth x3 (W (x4 - 1))).Race),iV ((nth x3 (W (x4 - 1))).Time),iV ((nth x3 (W (x4 - 1))).Fault),sV ((nth x3 (W (x4 - 1))).Of),iV ((nth x3 (W (x4 - 1))).Other)]) rfl rfl rfl rfl rfl ?_);clear S;intro w16 hk11 S
       refine Ld (Ya ?_)
       obtain ⟨b12,hg12,hr12⟩:=Hk (a:=a) (x:=.tmp 39) (y:=.tmp 41) (ty:=0) Ni Dt.enc_ok S (i:=0) rfl (Ed hc6).1 (Ed hc6).2 (S.tm rfl) (S.tm rfl)
       refine Ef 16 S hsel rfl rfl rfl (by kernel_rfl) (by kernel_rfl) rfl (fun _ hw=>(hr12 _)) ?_;clear S;intro a S
       clear hr12
       refine Gw 17 (by kernel_rfl) rfl (Pv (c:=0) (j:=(W (x4 - 1)).toNat) (nth x3 x4) Dt.enc_ok S (S.tm rfl) (S.tm rfl) (i:=0) rfl hg12 (Ed hc6).1 sizeOf38 (vs:=[sV ((nth x3 x4).Site),iV ((nth x3 x4).No),iV ((nth x3 x4).At),iV ((nth x3 x4).Kind),sV ((nth x3 x4).Who),sV ((nth x3 x4).Club),sV ((nth x3 x4).Race),iV ((nth x3 x4).Time),iV ((nth x3 x4).Fault),sV ((nth x3 x4).Of),iV ((nth x3 x4).Other)]) rfl rfl rfl rfl rfl ?_);clear S;intro w18 hk13 S
       refine Ld (Hx hk13 (Wu (by kernel_rfl) ?_))
       clear hsel
       replace S:=(S.nl [.own Aa 38 11 ((x3.set x4.toNat (nth x3 (W (x4 - 1)))).set ((W (x4 - 1)).toNat) (nth x3 x4)).length (((x3.set x4.toNat (nth x3 (W (x4 - 1)))).set ((W (x4 - 1)).toNat) (nth x3 x4)).flatMap Dt.enc)] [true] rfl).k6 0 1 2 3 8 9 rfl
       exact Ho (Tn (Fg (Vm S rfl rfl fun a S=>Vq S Ja rfl rfl rfl fun a S=>Va S rfl rfl fun a S=>Dl (⟨m2,⟨((x3.set x4.toNat (nth x3 (W (x4 - 1)))).set ((W (x4 - 1)).toNat) (nth x3 x4)),W (x4 - 1),h,S.nf [true] rfl ⟨rfl,rfl,rfl,rfl,rfl,rfl,trivial⟩⟩,Nat.lt_succ_self _⟩))))
      ·exact wp_exit (Ei (Ei (Gp (Tn (⟨x3,h,S.nf [true] rfl (subR rfl)⟩)))))
    clear S h;rintro a w4 ⟨x3,h,S⟩;rw [hj2] at h;clear hj2 j2
    exact Ho (Tn (Fg (Vm S rfl rfl fun a S=>Vq S Gf rfl rfl rfl fun a S=>Va S rfl rfl fun a S=>Dl (⟨m1,⟨x3,W (x2 + 1),h,S.nf [true] rfl ⟨rfl,rfl,rfl,rfl,rfl,trivial⟩⟩,Nat.lt_succ_self _⟩))))
   ·exact wp_exit (Ei (Ei (Gp (Tn (⟨x1,h,S.nf [true] rfl trivial⟩)))))
 clear S h;rintro a w2 ⟨x1,h,S⟩;rw [hj1] at h;clear hj1 j1
 obtain rfl:=Option.some.inj h
 exact Uv S results94 ⟨(S.holds _ (List.mem_of_getElem? (i:=0) rfl)),rfl⟩
theorem Rb (w : World) (Aa : Value) (Ar : List Dt) (Bj : (LEnt.own Aa 38 11 Ar.length (Ar.flatMap Dt.enc)).holds w) (Al : Int) (Aq : Int) (Dc : Int) (r : (List Dt)) (h : Jm Ar Al Aq Dc = some r) :
    Calls prog 116 [Aa,iV Al,iV Aq,iV Dc,.func (.func 101) #[] #[]].toArray w (Ret w (Aa.ownBlock.toList) fun _ v w'=>(LEnt.own Aa 38 11 r.length (r.flatMap Dt.enc)).holds w' ∧ v = .tuple #[]):=by
 refine Mo (Aa.ownBlock.toList) [.own Aa 38 11 Ar.length (Ar.flatMap Dt.enc)] func116 rfl ntmps116 rfl (fun e he=>by simp only [List.mem_singleton] at he;subst he;exact Bj) (Li _) (Nb _) fun a S=>?_
 unfold Jm at h
 replace S:=(S.nl [.own Aa 38 11 Ar.length (Ar.flatMap Dt.enc)] [true] rfl).k5 0 1 2 3 4 rfl
 refine Fr (Vk S rfl rfl fun a S=>Dz (Vk S rfl rfl fun a S=>Dl ?_))
 replace S:=S.k6 0 1 2 3 4 10 rfl
 refine En (fun a w'=>False) ?_ ?_
 ·refine wp_block (Hb (fun (m1 : Nat) a w'=>∃ x1 : Int,∃ x2 : Int,∃ x3 : Int,∃ x4 : Bool,Gi Ar m1 x1 x2 x3 x4 = some r ∧ Sx w (Aa.ownBlock.toList) nov [.own Aa 38 11 Ar.length (Ar.flatMap Dt.enc)] [(0,Aa),(1,iV x1),(2,iV x2),(3,iV x3),(4,.func (.func 101) #[] #[]),(10,bV x4)] 148 a w') id 4611686018427387904 ⟨Al,Aq,Dc,true,h,S.nf [true] rfl (subR rfl)⟩ ?_)
  clear S h;rintro m1 a w1 ⟨x1,x2,x3,x4,h,S⟩
  cases m1 with
  | zero=>rw [Gi.eq_1] at h;cases h
  | succ m1 =>
   rw [Gi.eq_2] at h
   refine wp_block (Fr (Vm S rfl rfl fun a S=>Vm S rfl rfl fun a S=>Vb S Ja rfl rfl rfl fun a S=>Va S rfl rfl fun a S=>Dl (Fs (Fs ?_))))
   refine Fg (Vm S rfl rfl fun a S=>Vq S Uk rfl rfl rfl fun a S=>Dl (Fc h (S.tm rfl) (fun hb1 h=>?_) (fun hb1 h=>?_)))
   ·refine Fs (Fg ?_)
    iterate 4 (refine Vm S rfl rfl ?_;clear S;intro a S)
    obtain ⟨r1,hr1,h⟩:=Fb h
    refine Oy 0 S rfl (fun _=>.own Aa 38 11 r1.length (r1.flatMap Dt.enc)) (fun _=>Dv (vs:=[Aa,iV x1,iV x2,.func (.func 101) #[] #[]]) ⟨(S.tm rfl),(S.tm rfl),(S.tm rfl),(S.tm rfl),trivial⟩ call94) (Pn _ Aa Ar (S.holds _ (List.mem_of_getElem? (i:=0) rfl)) x1 x2 _ hr1) rfl (fun _ _ _ h=>⟨h.1,fun _ hc=>hc⟩) ?_;clear S;intro v1 a w3 hv1 hk1 hn1 S
    replace hv1:=hv1.2
    subst hv1
    refine Ld ?_
    replace S:=(S.nl [.own Aa 38 11 r1.length (r1.flatMap Dt.enc)] [true] rfl).k0
    refine Tn (wp_ret (Dy (Fq (Dy (Fq (Dy ?_))))))
    obtain rfl:=Option.some.inj h
    exact Uv S results116 ⟨(S.holds _ (List.mem_of_getElem? (i:=0) rfl)),rfl⟩
   ·refine wp_skip (Tn (Fs (Fr (Vm S rfl rfl fun a S=>Vq S Im rfl rfl rfl fun a S=>Dl (Fc h (S.tm rfl) (fun hb2 h=>?_) (fun hb2 h=>?_))))))
    ·refine Fs ?_
     cases h
    ·refine wp_skip (Tn (Fs (Fr (Vm S rfl rfl fun a S=>Vu S Hh rfl rfl fun a S=>Ld ?_))))
     replace S:=S.k1 39 rfl
     refine Tn (Fc h (S.tm rfl) (fun hb3 h=>?_) (fun hb3 h=>?_))
     ·refine Fs ?_
      cases h
     ·refine wp_skip (Tn (Fs ?_))
      cases h
 exact fun _ _ h=>h.elim
theorem Sl (w : World) (Bc : Value) (Ab : List Dt) (Cr : (LEnt.own Bc 38 11 Ab.length (Ab.flatMap Dt.enc)).holds w) (r : (List Dt)) (h : Jd Ab = some r) :
    Calls prog 100 [Bc,.func (.func 101) #[] #[]].toArray w (Ret w (Bc.ownBlock.toList) fun _ v w'=>(LEnt.own Bc 38 11 r.length (r.flatMap Dt.enc)).holds w' ∧ v = .tuple #[]):=by
 refine Mo (Bc.ownBlock.toList) [.own Bc 38 11 Ab.length (Ab.flatMap Dt.enc)] func100 rfl ntmps100 rfl (fun e he=>by simp only [List.mem_singleton] at he;subst he;exact Cr) (Li _) (Nb _) fun a S=>?_
 unfold Jd at h
 replace S:=(S.nl [.own Bc 38 11 Ab.length (Ab.flatMap Dt.enc)] [true] rfl).k2 0 1 rfl
 refine Fr (Vm S rfl rfl fun a S=>lv S (Fz Ni (S.tm rfl) (Pb (S.own_at (i:=0) rfl))) rfl fun a S=>Va S rfl rfl fun a S=>Dl (Fg ?_))
 iterate 3 (refine Vm S rfl rfl ?_;clear S;intro a S)
 refine Vu S (Wc underlying3 underlying190) rfl rfl ?_;clear S;intro a S
 obtain ⟨r1,hr1,h⟩:=Fb h
 refine Ec S (fun _=>Dv (vs:=[.int .u64 (IntKind.wrap .u64 (Ab.length : Int))]) ⟨(S.tm rfl),trivial⟩ call117) (MN _ (IntKind.wrap .u64 (Ab.length : Int)) _ hr1) rfl ?_;clear S;intro v1 a w1 hv1 hk1 hn1 S
 subst hv1
 refine Vm S rfl rfl ?_;clear S;intro a S
 obtain ⟨r2,hr2,h⟩:=Fb h
 refine Oy 0 S rfl (fun _=>.own Bc 38 11 r2.length (r2.flatMap Dt.enc)) (fun _=>Dv (vs:=[Bc,iV 0,iV (Ab.length : Int),iV r1,.func (.func 101) #[] #[]]) ⟨(S.tm rfl),rfl,(S.tm rfl),(S.tm rfl),(S.tm rfl),trivial⟩ call116) (Rb _ Bc Ab (S.holds _ (List.mem_of_getElem? (i:=0) rfl)) 0 (Ab.length : Int) r1 _ hr2) rfl (fun _ _ _ h=>⟨h.1,fun _ hc=>hc⟩) ?_;clear S;intro v2 a w2 hv2 hk2 hn2 S
 replace hv2:=hv2.2
 subst hv2
 refine Ld ?_
 obtain rfl:=Option.some.inj h
 exact Uv S results100 ⟨(S.holds _ (List.mem_of_getElem? (i:=0) rfl)),rfl⟩
theorem Yw (w : World) (O : Nat) (Ah : Mp) (Br : R32) (Bw : Tv (view w []) Ah Br) (Au : Value) (Ai : List Dt) (Be : Slc (view w []) 11 Au (Ai.map Dt.enc)) (As : (view w []) O = some (.cells (R32.enc Br ++ [Au]).toArray 99 (0,0))) (Ax : ByteArray) (r : (List Dt)) (h : Qy Ah Ai Ax = some r) :
    Calls prog 79 [.pointer (some ⟨O,0,none⟩),sV Ax].toArray w (Ret w [] fun τ v _=>Td τ 38 11 v r.length (r.flatMap Dt.enc)):=by
 obtain ⟨u1,u2,rfl,hs1,⟨u3,rfl,hs2⟩⟩:=Bw
 replace As : (view w []) O = some (.cells [u1.val,u3.val,iV Ah.Table.Relay,iV Ah.Table.Most,iV Ah.Final.Size,iV Ah.Final.Many,iV Ah.Final.Reserves,Au].toArray 99 (0,0)):=As
 refine Fe func79 rfl ntmps79 rfl fun a S=>?_
 unfold Qy at h
 replace S:=S.k2 0 1 rfl
 refine Fr (Vk S rfl rfl fun a S=>Dz (NR (κ:=ByteArray) (ν:=Dt) S rfl Value.string (fun x=>Value.agg (Dt.enc x).toArray) ?_));clear S;intro a w1 b1 hz1 hk1 S
 refine Va S rfl rfl fun a S=>Dl (Fs (Fr (Vm S rfl rfl fun a S=>Vu S Ll rfl rfl fun a S=>Vf GR S rfl rfl fun a S=>lv S (Hp isAgg34 (off:=0) (o:=7) (S.tm rfl) ((Sn As).at S.emb0) rfl) rfl fun a S=>lv S (Fz Ni (S.tm rfl) (Fl Be)) rfl ?_)));clear S;intro a S
 refine lv S (Rm rfl) rfl fun a S=>Dl ?_
 replace S:=(S.nl [.map b1 (Iv Value.string (fun x=>Value.agg (Dt.enc x).toArray) ([] : List (ByteArray × Dt)) ([] : List Nat)) 0] [true] rfl).k5 1 5 15 16 17 rfl
 obtain ⟨j1,hj1,h⟩:=Eu h
 refine En (fun a w'=>∃ x1 : List (ByteArray × Dt),∃ bs1 : List Nat,∃ ck1 : Nat,j1 x1 = some r ∧ Tp x1.length bs1 ck1 ∧ Sx w [] nov [.map b1 (Iv Value.string (fun x=>Value.agg (Dt.enc x).toArray) x1 bs1) ck1] [(5,.map (some b1))] 52 a w') ?_ ?_
 ·refine wp_block (Hb (fun (ys1 : List Dt) a w'=>∃ i1 : Nat,∃ x1 : List (ByteArray × Dt),∃ bs1 : List Nat,∃ ck1 : Nat,(∃ dn,Ai = dn ++ ys1 ∧ dn.length = i1) ∧ Le Ax j1 ys1 i1 x1 = some r ∧ Tp x1.length bs1 ck1 ∧ Sx w [] nov [.map b1 (Iv Value.string (fun x=>Value.agg (Dt.enc x).toArray) x1 bs1) ck1] [(1,sV Ax),(5,.map (some b1)),(15,Au),(16,iV (Ai.length : Int)),(17,iV (i1 : Int))] 52 a w') List.length Ai ⟨0,([] : List (ByteArray × Dt)),([] : List Nat),0,⟨[],rfl,rfl⟩,h,(RD (κ:=ByteArray) (ν:=Dt)),S.nf [true] rfl (subR rfl)⟩ ?_)
  clear S h;rintro ys1 a w2 ⟨i1,x1,bs1,ck1,⟨dn,hd1,hi1⟩,h,hB1,S⟩
  cases ys1 with
  | nil =>
   rw [Le.eq_1] at h
   refine Fr (Vb S Ex rfl rfl rfl fun a S=>Ld ?_)
   replace S:=S.k6 1 5 15 16 17 18 rfl
   exact Tn (Fs (wp_cond_false ((S.tm rfl).trans (congrArg Value.bool (Io hd1 hi1))) (wp_exit (Ei (Ei (Gp (Tn (⟨x1,bs1,ck1,h,hB1,S.nf [true] rfl ⟨rfl,trivial⟩⟩))))))))
  | cons y1 ys1 =>
   rw [Le.eq_2] at h
   refine Fr (Vb S Ex rfl rfl rfl fun a S=>Ld ?_)
   replace S:=S.k6 1 5 15 16 17 18 rfl
   refine Tn (Fs (wp_cond_true ((S.tm rfl).trans (congrArg Value.bool (Hv hd1 hi1))) (wp_skip (Tn (Fs ?_)))))
   obtain ⟨j2,hj2,h⟩:=Eu h
   refine En (fun a w'=>∃ x2 : List (ByteArray × Dt),∃ bs2 : List Nat,∃ ck2 : Nat,j2 x2 = some r ∧ Tp x2.length bs2 ck2 ∧ Sx w [] nov [.map b1 (Iv Value.string (fun x=>Value.agg (Dt.enc x).toArray) x2 bs2) ck2] [(1,sV Ax),(5,.map (some b1)),(15,Au),(16,iV (Ai.length : Int)),(17,iV (i1 : Int))] 52 a w') ?_ ?_
   ·refine wp_block (Fs (Fg ?_))
    obtain ⟨b2,o1,hm1,hr1⟩:=Fd (a:=a) (x:=.tmp 15) (y:=.tmp 17) (ty:=0) Ni Be (Iq hd1 hi1) rfl (S.tm rfl) (S.tm rfl)
    refine lv S (hr1 _) rfl ?_;clear S;intro a S
    clear hr1
    refine lv S (Fx isAgg38 sizeOf38 (off:=o1) (o:=0) (part:=(Dt.enc y1)) rfl rfl (S.tm rfl) (hm1.at S.emb0)) rfl fun a S=>Hz S zeroValue38 (cs:=[sV An,iV 0,iV 0,iV 0,sV An,sV An,sV An,iV 0,iV 0,sV An,iV 0]) rfl rfl ?_;clear S;intro a w5 b3 hz2 hk2 S
    refine Fh S (S.tm rfl) (S.tm rfl) (i:=0) (off:=0) rfl sizeOf38 (vs:=(Dt.enc y1)) rfl rfl rfl rfl ?_;clear S;intro w6 hk3 S
    refine Dl (Fs (Fr (Vf Sr S rfl rfl fun a S=>Vl isAgg9 0 S rfl rfl rfl rfl fun a S=>Vm S rfl rfl fun a S=>Vb S BM rfl rfl rfl fun a S=>Dl ?_)))
    refine Fc h (S.tm rfl) (fun hb1 h=>?_) (fun hb1 h=>?_)
    ·exact wp_exit (Ei (Gp (Tn (⟨x1,bs1,ck1,h,hB1,S.nf [false,true] rfl (subR rfl)⟩))))
    ·refine wp_skip (Tn (Fr (Vf Pm S rfl rfl fun a S=>Vl isAgg3 0 S rfl rfl rfl rfl fun a S=>Ld ?_)))
     replace S:=(S.nl [.blk b3 (Dt.enc y1) 38,.map b1 (Iv Value.string (fun x=>Value.agg (Dt.enc x).toArray) x1 bs1) ck1] [true,true] rfl).k7 1 5 7 15 16 17 26 rfl
     refine Tn ?_
     obtain ⟨j3,hj3,h⟩:=Eu h
     refine En (fun a w'=>∃ x3 : List (ByteArray × Dt),∃ bs3 : List Nat,∃ ck3 : Nat,j3 x3 = some r ∧ Tp x3.length bs3 ck3 ∧ Sx w [] nov [.blk b3 (Dt.enc y1) 38,.map b1 (Iv Value.string (fun x=>Value.agg (Dt.enc x).toArray) x3 bs3) ck3] [(1,sV Ax),(5,.map (some b1)),(15,Au),(16,iV (Ai.length : Int)),(17,iV (i1 : Int))] 52 a w') ?_ ?_
     ·refine wp_block (Fr (Vq S Im rfl rfl rfl fun a S=>Va S rfl rfl fun a S=>Dl ?_))
      obtain ⟨j4,hj4,h⟩:=Eu h
      refine En (fun a w'=>∃ x4 : List (ByteArray × Dt),∃ bs4 : List Nat,∃ ck4 : Nat,j4 x4 = some r ∧ Tp x4.length bs4 ck4 ∧ Sx w [] nov [.blk b3 (Dt.enc y1) 38,.map b1 (Iv Value.string (fun x=>Value.agg (Dt.enc x).toArray) x4 bs4) ck4] [(1,sV Ax),(5,.map (some b1)),(15,Au),(16,iV (Ai.length : Int)),(17,iV (i1 : Int))] 52 a w') ?_ ?_
      ·refine Fc h (S.tm rfl) (fun hb2 h=>?_) (fun hb2 h=>?_)
       ·refine Fg (Vm S rfl rfl fun a S=>Vf Ou S rfl rfl fun a S=>Vl isAgg9 0 S rfl rfl rfl rfl fun a S=>lv S (Fx isAgg38 sizeOf38 (off:=0) (o:=0) (part:=(Dt.enc y1)) rfl rfl (S.tm rfl) (S.cellsAt (i:=0) rfl)) rfl fun a S=>KK (kv:=Value.string) (vv:=(fun x=>Value.agg (Dt.enc x).toArray)) (m:=x1) (key:=y1.Who) (val:=y1) S (i:=1) rfl hB1 underlying150 (Mz underlying9) (S.tm rfl) (S.tm rfl) (S.tm rfl) ?_);clear S;intro w9 bs5 ck5 hB5 hk4 S
        exact Dl (⟨(Gj x1 y1.Who y1),bs5,ck5,h,hB5,S.nf [true,true] rfl (subR rfl)⟩)
       ·refine Fr (Vq S Im rfl rfl rfl fun a S=>Va S rfl rfl fun a S=>Dl ?_)
        obtain ⟨j5,hj5,h⟩:=Eu h
        refine En (fun a w'=>∃ x5 : List (ByteArray × Dt),∃ bs6 : List Nat,∃ ck6 : Nat,j5 x5 = some r ∧ Tp x5.length bs6 ck6 ∧ Sx w [] nov [.blk b3 (Dt.enc y1) 38,.map b1 (Iv Value.string (fun x=>Value.agg (Dt.enc x).toArray) x5 bs6) ck6] [(1,sV Ax),(5,.map (some b1)),(15,Au),(16,iV (Ai.length : Int)),(17,iV (i1 : Int))] 52 a w') ?_ ?_
        ·refine Fc h (S.tm rfl) (fun hb3 h=>?_) (fun hb3 h=>?_)
         ·refine Fg (Vm S rfl rfl fun a S=>Vf Ou S rfl rfl fun a S=>Vl isAgg9 0 S rfl rfl rfl rfl fun a S=>RE (kv:=Value.string) (vv:=(fun x=>Value.agg (Dt.enc x).toArray)) (m:=x1) (key:=y1.Who) S (i:=1) rfl hB1 rfl underlying150 (Mz underlying9) (S.tm rfl) (S.tm rfl) ?_);clear S;intro w11 bs7 ck7 hB7 hk5 S
          exact Dl (⟨(AC x1 y1.Who),bs7,ck7,h,hB7,S.nf [true,true] rfl (subR rfl)⟩)
         ·exact wp_skip (Tn (⟨x1,bs1,ck1,h,hB1,S.nf [true,true] rfl (subR rfl)⟩))
        clear S h;rintro a w10 ⟨x5,bs6,ck6,h,hB6,S⟩;rw [hj5] at h;clear hj5 j5
        exact Tn (⟨x5,bs6,ck6,h,hB6,S.nf [true,true] rfl (subR rfl)⟩)
      clear S h;rintro a w8 ⟨x4,bs4,ck4,h,hB4,S⟩;rw [hj4] at h;clear hj4 j4
      exact Ho (Tn (⟨x4,bs4,ck4,h,hB4,S.nf [true,true] rfl (subR rfl)⟩))
     clear S h;rintro a w7 ⟨x3,bs3,ck3,h,hB3,S⟩;rw [hj3] at h;clear hj3 j3
     exact Ho (Tn (⟨x3,bs3,ck3,h,hB3,S.nf [false,true] rfl (subR rfl)⟩))
   clear S h;rintro a w4 ⟨x2,bs2,ck2,h,hB2,S⟩;rw [hj2] at h;clear hj2 j2
   exact Tn (Fg (Vq S Gf rfl rfl rfl fun a S=>Vm S rfl rfl fun a S=>Dl (⟨ys1,⟨i1 + 1,x2,bs2,ck2,⟨_,(hd1).trans (List.append_cons _ _ _),by simp [hi1]⟩,h,hB2,S.nf [true] rfl ⟨rfl,rfl,rfl,rfl,(congrArg (fun z=>some (Value.int .i64 z)) (Hw hd1 hi1 (Jn Be))),trivial⟩⟩,Nat.lt_succ_self _⟩)))
 clear S h;rintro a w3 ⟨x1,bs1,ck1,h,hB1,S⟩;rw [hj1] at h;clear hj1 j1
 refine Tn (Fr (Vk S rfl rfl ?_));clear S;intro a S
 replace S:=S.nil 38 11
 refine Dl (Fs (Fr (Vm S rfl rfl fun a S=>l_range (es:=Iv Value.string (fun x=>Value.agg (Dt.enc x).toArray) x1 bs1) (clk:=ck1) S (S.map_at (i:=1) rfl) underlying150 (S.tm rfl) rfl ?_)));clear S;intro a w12 b4 hz3 hk6 S
 refine Dl ?_
 replace S:=(S.nl [.iter b4 b1 ck1 #[] ck1,.own (.slice none 0 0) 38 11 ([] : List Dt).length (([] : List Dt).flatMap Dt.enc),.map b1 (Iv Value.string (fun x=>Value.agg (Dt.enc x).toArray) x1 bs1) ck1] [true,true,true] rfl).k2 8 40 rfl
 obtain ⟨j6,hj6,h⟩:=Eu h
 replace h:=allE h
 refine En (fun a w'=>∃ x6 : List Dt,∃ v1 : Value,j6 x6 = some r ∧ Sx w [] nov [.own v1 38 11 x6.length (x6.flatMap Dt.enc),.map b1 (Iv Value.string (fun x=>Value.agg (Dt.enc x).toArray) x1 bs1) ck1] [(8,v1)] 52 a w') ?_ ?_
 ·refine wp_block (Hb (fun (q : List (ByteArray × Dt)) a w'=>∃ x6 : List Dt,∃ v1 : Value,∃ sn1 : Array Nat,CN x1 bs1 sn1 = q ∧ (∀ p,p.Perm q → Md j6 p x6 = some r) ∧ Sx w [] nov [.iter b4 b1 ck1 sn1 ck1,.own v1 38 11 x6.length (x6.flatMap Dt.enc),.map b1 (Iv Value.string (fun x=>Value.agg (Dt.enc x).toArray) x1 bs1) ck1] [(8,v1),(40,.pointer (some ⟨b4,0,none⟩))] 52 a w') List.length x1 ⟨([] : List Dt),(.slice none 0 0),#[],(leftB_0 hB1),h,S.nf [true,true,true] rfl (subR rfl)⟩ ?_)
  clear S h;rintro q a w13 ⟨x6,v1,sn1,hq,h,S⟩
  refine Fr (l_nextB (kv:=Value.string) (vv:=(fun x=>Value.agg (Dt.enc x).toArray)) (m:=x1) S (i:=0) rfl (S.map_at (i:=2) rfl) hB1 (S.tm rfl) rfl ?_ ?_)
  ·intro hn1;clear S;intro a S
   replace h:=SM h (hq.symm.trans hn1)
   rw [Md.eq_1] at h
   refine Vq S Gx rfl rfl rfl fun a S=>Ld ?_
   replace S:=S.k3 8 40 42 rfl
   exact Tn (Fs (wp_cond_false (S.tm rfl) (wp_exit (Ei (Ei (Gp (Tn (⟨x6,v1,h,S.nf [false,true,true] rfl ⟨rfl,trivial⟩⟩))))))))
  ·clear S;intro y2 sn2 a w15 hp1 hl1 hk7 S
   obtain ⟨sq1,h,hn2⟩:=QX h (by rw [← hq];exact hp1) (fun _=>rfl)
   refine Vq S Gx rfl rfl rfl fun a S=>Ld ?_
   replace S:=(S.nl [.iter b4 b1 ck1 sn2 ck1,.own v1 38 11 x6.length (x6.flatMap Dt.enc),.map b1 (Iv Value.string (fun x=>Value.agg (Dt.enc x).toArray) x1 bs1) ck1] [true,true,true] rfl).k3 8 40 42 rfl
   refine Tn (Fs (wp_cond_true (S.tm rfl) (wp_skip (Tn (wp_block (Fr (lv S (RF (kv:=Value.string) (vv:=(fun x=>Value.agg (Dt.enc x).toArray)) (m:=x1) (e:=y2) (S.holds _ (List.mem_of_getElem? (i:=0) rfl)) (S.map_at (i:=2) rfl) hB1 hl1 (S.tm rfl)) rfl fun a S=>Vq S Gx rfl rfl rfl fun a S=>Hz S zeroValue38 (cs:=[sV An,iV 0,iV 0,iV 0,sV An,sV An,sV An,iV 0,iV 0,sV An,iV 0]) rfl rfl ?_)))))));clear S;intro a w16 b5 hz4 hk8 S
   refine Fh S (S.tm rfl) (S.tm rfl) (i:=0) (off:=0) rfl sizeOf38 (vs:=(Dt.enc y2.2)) rfl rfl rfl rfl ?_;clear S;intro w17 hk9 S
   refine Dl (Fg (Vm S rfl rfl fun a S=>lv S (Fx isAgg38 sizeOf38 (off:=0) (o:=0) (part:=(Dt.enc y2.2)) rfl rfl (S.tm rfl) (S.cellsAt (i:=0) rfl)) rfl fun a S=>Et S underlying34 sizeOf38 zeroValue38 rfl rfl (pv:=[(0,.agg (Dt.enc y2.2).toArray)]) ⟨rfl,(S.tm rfl),trivial⟩ (cs:=[sV y2.2.Site,iV y2.2.No,iV y2.2.At,iV y2.2.Kind,sV y2.2.Who,sV y2.2.Club,sV y2.2.Race,iV y2.2.Time,iV y2.2.Fault,sV y2.2.Of,iV y2.2.Other]) (by kernel_rfl) rfl ?_));clear S;intro a w18 b6 hz5 hk10 S
   obtain ⟨hc1,h⟩:=Ia h
   refine Mb Ni Dt.enc_ok S (S.tm rfl) (i:=3) rfl (S.tm rfl) (j:=0) rfl (ys:=[y2.2]) rfl rfl rfl rfl (by have:=Mn hc1;omega) rfl ?_;clear S;intro v2 a w19 hk11 S
   refine Va S rfl rfl fun a S=>Ld (Ho (Tn ?_))
   obtain rfl:=Option.some.inj h
   exact ⟨CN x1 bs1 sn2,⟨(x6 ++ [y2.2]),v2,sn2,rfl,hn2,S.nf [false,false,true,true,true] rfl (subR rfl)⟩,by have:=hp1.length_eq;rw [hq] at this;simp only [List.length_cons] at this;omega⟩
 clear S h;rintro a w14 ⟨x6,v1,h,S⟩;rw [hj6] at h;clear hj6 j6
 refine Tn (Fr (Vm S rfl rfl ?_));clear S;intro a S
 obtain ⟨r1,hr2,h⟩:=Fb h
 refine Oy 0 S rfl (fun _=>.own v1 38 11 r1.length (r1.flatMap Dt.enc)) (fun _=>Dv (vs:=[v1,.func (.func 101) #[] #[]]) ⟨(S.tm rfl),rfl,trivial⟩ call100) (Sl _ v1 x6 (S.holds _ (List.mem_of_getElem? (i:=0) rfl)) _ hr2) rfl (fun _ _ _ h=>⟨h.1,fun _ hc=>hc⟩) ?_;clear S;intro v3 a w20 hv1 hk12 hn3 S
 replace hv1:=hv1.2
 subst hv1
 refine Dz (Vm S rfl rfl fun a S=>Va S rfl rfl fun a S=>Dl (wp_ret ?_))
 obtain rfl:=Option.some.inj h
 exact Eo S results79 rfl (Sw S (i:=0) rfl rfl)
theorem IG (w : World) (O : Nat) (Ah : Mp) (Br : R32) (Bw : Tv (view w []) Ah Br) (Au : Value) (Ai : List Dt) (Be : Slc (view w []) 11 Au (Ai.map Dt.enc)) (As : (view w []) O = some (.cells (R32.enc Br ++ [Au]).toArray 99 (0,0))) (Bp : ByteArray) (r : Eh × Int) (h : Xl Ah Ai Bp = some r) :
    Calls prog 42 [.pointer (some ⟨O,0,none⟩),sV Bp].toArray w (Ret w [] fun _ v _=>v = .tuple #[.agg (Eh.enc r.1).toArray,iV r.2]):=by
 obtain ⟨u1,u2,rfl,hs1,⟨u3,rfl,hs2⟩⟩:=Bw
 replace As : (view w []) O = some (.cells [u1.val,u3.val,iV Ah.Table.Relay,iV Ah.Table.Most,iV Ah.Final.Size,iV Ah.Final.Many,iV Ah.Final.Reserves,Au].toArray 99 (0,0)):=As
 refine Fe func42 rfl ntmps42 rfl fun a S=>?_
 unfold Xl at h
 replace S:=S.k2 0 1 rfl
 refine Fr (My S (S.tm rfl) (cs:=[sV Bp]) rfl rfl ?_);clear S;intro a w1 b1 hz1 hk1 S
 refine Hz S zeroValue51 (cs:=[sV An,iV 0,iV 0,iV 0,iV 0,iV 0,iV 0,iV 0]) rfl rfl ?_;clear S;intro a w2 b2 hz2 hk2 S
 refine Vk S rfl rfl fun a S=>Dz (Vm S rfl rfl fun a S=>Vu S Ll rfl rfl fun a S=>Vf GQ S rfl rfl fun a S=>Vf Yf S rfl rfl fun a S=>lv S (Hp isAgg26 (off:=0) (o:=0) (S.tm rfl) ((Sn As).at S.emb0) rfl) rfl fun a S=>lv S (Um (us:=#[]) (xs:=[].toArray) (ys:=[.tmp 3].toArray) (by simp) (evA ⟨(S.tm rfl),trivial⟩ (vs:=[.pointer (some ⟨b1,0,none⟩)]))) rfl ?_);clear S;intro a S
 refine Ec S (fun _=>Dv (vs:=[u1.val,.func (.func 78) #[] #[.pointer (some ⟨b1,0,none⟩)]]) ⟨(S.tm rfl),(S.tm rfl),trivial⟩ call77) (Tc _ u1.val Ah.Races (hs1.mono (S.le_arg Ej)) b1 Bp (S.blk_view (i:=1) rfl ((Hr (e':=.blk b1 [sV Bp] 9)) _ rfl)) _ rfl) rfl ?_;clear S;intro v1 a w3 hv1 hk3 hn1 S
 subst hv1
 refine Va S rfl rfl fun a S=>Dl (Fs (Fr (Vm S rfl rfl fun a S=>Vq S Ex rfl rfl rfl fun a S=>Ld ?_)))
 replace S:=(S.nl [.blk b2 (Eh.enc (Eh.mk An 0 0 0 0 0 0 0)) 51,.blk b1 [sV Bp] 9] [true,true] rfl).k5 0 3 4 6 15 rfl
 refine Tn (Fc h (S.tm rfl) (fun hb1 h=>?_) (fun hb1 h=>?_))
 ·refine Fr (lv S (Mj TK (pv:=[]) trivial (cs:=[sV An,iV 0,iV 0,iV 0,iV 0,iV 0,iV 0,iV 0]) (by kernel_rfl)) rfl fun a S=>Fh S (S.tm rfl) (S.tm rfl) (i:=0) (off:=0) rfl sizeOf51 (vs:=(Eh.enc (Eh.mk An 0 0 0 0 0 0 0))) rfl rfl rfl rfl ?_);clear S;intro w4 hk4 S
  refine Vk S rfl rfl fun a S=>Dl (wp_ret (Dy ?_))
  obtain rfl:=Option.some.inj h
  exact Zh S (rs:=[.cell 4 51,.tmp 5]) (vs:=[.agg (Eh.enc (Eh.mk An 0 0 0 0 0 0 0)).toArray,iV 8]) results42 ⟨(Uw (off:=0) S rfl isAgg51 sizeOf51 rfl (S.cellsAt (i:=0) rfl)),(KI S rfl),trivial⟩ rfl rfl
 ·refine wp_skip (Tn (Fs (Fr (Vm S rfl rfl fun a S=>Vl isAgg9 1 S rfl rfl rfl rfl ?_))));clear S;intro a S
  obtain ⟨r1,hr1,h⟩:=Fb h
  have hz3:=S.keep.size
  refine Ec S (fun _=>Dv (vs:=[.pointer (some ⟨O,0,none⟩),sV Bp]) ⟨(S.tm rfl),(S.tm rfl),trivial⟩ call79) (Yw _ O Ah (R32.mk u1 (R28.mk u3 Ah.Table.Relay Ah.Table.Most) Ah.Final) ⟨u1,(R28.mk u3 Ah.Table.Relay Ah.Table.Most),rfl,(hs1.mono (S.le_arg Ej)),⟨u3,rfl,(hs2.mono (S.le_arg Ej))⟩⟩ Au Ai (Be.mono (S.le_arg Ej)) ((S.le_arg Ej) _ _ As) Bp _ hr1) rfl ?_;clear S;intro v2 a w5 hv2 hk5 hn2 S
  obtain ⟨φ1,hl1,hm1,S⟩:=S.see' hn2 hz3
  have hs3:=hv2.mono hm1
  refine lv S (Fz Ni (S.tm rfl) (Fl (He Dt.enc_ok hs3))) rfl fun a S=>Vq S Jh rfl rfl rfl fun a S=>Dl (Fc h (S.tm rfl) (fun hb2 h=>?_) (fun hb2 h=>?_))
  ·refine Fr (lv S (Mj TK (pv:=[]) trivial (cs:=[sV An,iV 0,iV 0,iV 0,iV 0,iV 0,iV 0,iV 0]) (by kernel_rfl)) rfl fun a S=>Fh S (S.tm rfl) (S.tm rfl) (i:=0) (off:=0) rfl sizeOf51 (vs:=(Eh.enc (Eh.mk An 0 0 0 0 0 0 0))) rfl rfl rfl rfl ?_);clear S;intro w6 hk6 S
   refine Vk S rfl rfl fun a S=>Dl (wp_ret (Dy ?_))
   obtain rfl:=Option.some.inj h
   exact Zh S (rs:=[.cell 4 51,.tmp 5]) (vs:=[.agg (Eh.enc (Eh.mk An 0 0 0 0 0 0 0)).toArray,iV 2]) results42 ⟨(Uw (off:=0) S rfl isAgg51 sizeOf51 rfl (S.cellsAt (i:=0) rfl)),(KI S rfl),trivial⟩ rfl rfl
  ·refine wp_skip (Tn (Fr (Vm S rfl rfl fun a S=>Vu S Ll rfl rfl fun a S=>Vf GQ S rfl rfl fun a S=>Vf Yf S rfl rfl fun a S=>lv S (Hp isAgg26 (off:=0) (o:=0) (S.tm rfl) ((Sn As).at S.emb0) rfl) rfl fun a S=>Vm S rfl rfl ?_)));clear S;intro a S
   obtain ⟨hc1,h⟩:=Ia h
   obtain ⟨b3,o1,hm2,hr2⟩:=Fd (a:=a) (x:=.tmp 27) (y:=.tmp 28) (ty:=0) Vi hs1 (Ed hc1).1 (Ed hc1).2 (S.tm rfl) (S.tm rfl)
   refine lv S (hr2 _) rfl ?_;clear S;intro a S
   clear hr2
   refine lv S (Fx isAgg51 sizeOf51 (off:=o1) (o:=0) (part:=(Eh.enc (nth Ah.Races (Gh Ah.Races Bp)))) rfl rfl (S.tm rfl) (hm2.at S.emb0)) rfl fun a S=>Fh S (S.tm rfl) (S.tm rfl) (i:=0) (off:=0) rfl sizeOf51 (vs:=(Eh.enc (nth Ah.Races (Gh Ah.Races Bp)))) rfl rfl rfl rfl ?_;clear S;intro w7 hk7 S
   refine Vk S rfl rfl fun a S=>Ld ?_
   replace S:=(S.nl [.blk b2 (Eh.enc (nth Ah.Races (Gh Ah.Races Bp))) 51] [true,false] rfl).k2 4 5 rfl
   refine Tn (wp_ret ?_)
   obtain rfl:=Option.some.inj h
   exact Zh S (rs:=[.cell 4 51,.tmp 5]) (vs:=[.agg (Eh.enc (nth Ah.Races (Gh Ah.Races Bp))).toArray,iV 0]) results42 ⟨(Uw (off:=0) S rfl isAgg51 sizeOf51 rfl (S.cellsAt (i:=0) rfl)),(KI S rfl),trivial⟩ rfl rfl
theorem EE (w : World) (O : Nat) (Ah : Mp) (Br : R32) (Bw : Tv (view w []) Ah Br) (Au : Value) (Ai : List Dt) (Be : Slc (view w []) 11 Au (Ai.map Dt.enc)) (As : (view w []) O = some (.cells (R32.enc Br ++ [Au]).toArray 99 (0,0))) (r : Int) (h : Xe Ah Ai = some r) :
    Calls prog 19 [.pointer (some ⟨O,0,none⟩)].toArray w (Ret w [] fun _ v _=>v = iV r):=by
 obtain ⟨u1,u2,rfl,hs1,⟨u3,rfl,hs2⟩⟩:=Bw
 replace As : (view w []) O = some (.cells [u1.val,u3.val,iV Ah.Table.Relay,iV Ah.Table.Most,iV Ah.Final.Size,iV Ah.Final.Many,iV Ah.Final.Reserves,Au].toArray 99 (0,0)):=As
 refine Fe func19 rfl ntmps19 rfl fun a S=>?_
 unfold Xe at h
 replace S:=S.k1 0 rfl
 refine Fr (Vk S rfl rfl fun a S=>Dl (Fs (Fr (Vm S rfl rfl fun a S=>Vu S Ll rfl rfl fun a S=>Vf GQ S rfl rfl ?_))));clear S;intro a S
 refine Vf Yf S rfl rfl fun a S=>lv S (Hp isAgg26 (off:=0) (o:=0) (S.tm rfl) ((Sn As).at S.emb0) rfl) rfl fun a S=>lv S (Fz Vi (S.tm rfl) (Fl hs1)) rfl fun a S=>lv S (Rm rfl) rfl fun a S=>Dl ?_
 replace S:=S.k4 0 11 12 13 rfl
 obtain ⟨j1,hj1,h⟩:=Eu h
 refine En (fun a w'=>j1 = some r ∧ Sx w [] nov [] [] 28 a w') ?_ ?_
 ·refine wp_block (Hb (fun (ys1 : List Eh) a w'=>∃ i1 : Nat,(∃ dn,Ah.Races = dn ++ ys1 ∧ dn.length = i1) ∧ Ot Ah Ai j1 ys1 i1 = some r ∧ Sx w [] nov [] [(0,.pointer (some ⟨O,0,none⟩)),(11,u1.val),(12,iV (Ah.Races.length : Int)),(13,iV (i1 : Int))] 28 a w') List.length Ah.Races ⟨0,⟨[],rfl,rfl⟩,h,S.nf [] rfl (subR rfl)⟩ ?_)
  clear S h;rintro ys1 a w1 ⟨i1,⟨dn,hd1,hi1⟩,h,S⟩
  cases ys1 with
  | nil =>
   rw [Ot.eq_1] at h
   refine Fr (Vb S Ex rfl rfl rfl fun a S=>Ld ?_)
   replace S:=S.k5 0 11 12 13 14 rfl
   exact Tn (Fs (wp_cond_false ((S.tm rfl).trans (congrArg Value.bool (Io hd1 hi1))) (wp_exit (Ei (Ei (Gp (Tn (⟨h,S.nf [] rfl trivial⟩))))))))
  | cons y1 ys1 =>
   rw [Ot.eq_2] at h
   refine Fr (Vb S Ex rfl rfl rfl fun a S=>Ld ?_)
   replace S:=S.k5 0 11 12 13 14 rfl
   refine Tn (Fs (wp_cond_true ((S.tm rfl).trans (congrArg Value.bool (Hv hd1 hi1))) (wp_skip (Tn (Fs (wp_block (Fs (Fg ?_))))))))
   obtain ⟨b1,o1,hm1,hr1⟩:=Fd (a:=a) (x:=.tmp 11) (y:=.tmp 13) (ty:=0) Vi hs1 (Iq hd1 hi1) rfl (S.tm rfl) (S.tm rfl)
   refine lv S (hr1 _) rfl ?_;clear S;intro a S
   clear hr1
   refine lv S (Fx isAgg51 sizeOf51 (off:=o1) (o:=0) (part:=(Eh.enc y1)) rfl rfl (S.tm rfl) (hm1.at S.emb0)) rfl fun a S=>Hz S zeroValue51 (cs:=[sV An,iV 0,iV 0,iV 0,iV 0,iV 0,iV 0,iV 0]) rfl rfl ?_;clear S;intro a w3 b2 hz1 hk1 S
   refine Fh S (S.tm rfl) (S.tm rfl) (i:=0) (off:=0) rfl sizeOf51 (vs:=(Eh.enc y1)) rfl rfl rfl rfl ?_;clear S;intro w4 hk2 S
   refine Dz (Vm S rfl rfl fun a S=>Vf Xa S rfl rfl fun a S=>Vl isAgg9 0 S rfl rfl rfl rfl ?_);clear S;intro a S
   obtain ⟨r1,hr2,h⟩:=Fb h
   refine Ec S (fun _=>Dv (vs:=[.pointer (some ⟨O,0,none⟩),sV y1.Key]) ⟨(S.tm rfl),(S.tm rfl),trivial⟩ call42) (IG _ O Ah (R32.mk u1 (R28.mk u3 Ah.Table.Relay Ah.Table.Most) Ah.Final) ⟨u1,(R28.mk u3 Ah.Table.Relay Ah.Table.Most),rfl,(hs1.mono (S.le_arg Ej)),⟨u3,rfl,(hs2.mono (S.le_arg Ej))⟩⟩ Au Ai (Be.mono (S.le_arg Ej)) ((S.le_arg Ej) _ _ As) y1.Key _ hr2) rfl ?_;clear S;intro v1 a w5 hv1 hk3 hn1 S
   subst hv1
   refine Vm S rfl rfl fun a S=>Vq S Gx rfl rfl rfl fun a S=>Vq S Gx rfl rfl rfl fun a S=>Hz S zeroValue51 (cs:=[sV An,iV 0,iV 0,iV 0,iV 0,iV 0,iV 0,iV 0]) rfl rfl ?_;clear S;intro a w6 b3 hz2 hk4 S
   refine Fh S (S.tm rfl) (S.tm rfl) (i:=0) (off:=0) rfl sizeOf51 (vs:=(Eh.enc r1.1)) rfl rfl rfl rfl ?_;clear S;intro w7 hk5 S
   refine Va S rfl rfl fun a S=>Ld ?_
   replace S:=S.n0.k5 0 6 11 12 13 rfl
   refine Tn (Fr (Vm S rfl rfl fun a S=>Vq S Ky rfl rfl rfl fun a S=>Dl (Fc h (S.tm rfl) (fun hb1 h=>?_) (fun hb1 h=>?_))))
   ·refine Fr (Vm S rfl rfl fun a S=>Va S rfl rfl fun a S=>Dl (wp_ret (Fq (Dy (Dy (Fq ?_))))))
    refine Dy (Dy ?_)
    obtain rfl:=Option.some.inj h
    exact Eo S results19 rfl rfl
   ·exact wp_skip (Ho (Tn (Fg (Vq S Gf rfl rfl rfl fun a S=>Vm S rfl rfl fun a S=>Dl (⟨ys1,⟨i1 + 1,⟨_,(hd1).trans (List.append_cons _ _ _),by simp [hi1]⟩,h,S.nf [] rfl ⟨rfl,rfl,rfl,(congrArg (fun z=>some (Value.int .i64 z)) (Hw hd1 hi1 (Jn hs1))),trivial⟩⟩,Nat.lt_succ_self _⟩)))))
 clear S h;rintro a w2 ⟨h,S⟩;rw [hj1] at h;clear hj1 j1
 refine Tn (Fr (Vk S rfl rfl fun a S=>Dl (wp_ret ?_)))
 obtain rfl:=Option.some.inj h
 exact Eo S results19 rfl rfl
theorem IH (w : World) (O : Nat) (Ah : Mp) (Br : R32) (Bw : Tv (view w []) Ah Br) (Au : Value) (Ai : List Dt) (Be : Slc (view w []) 11 Au (Ai.map Dt.enc)) (As : (view w []) O = some (.cells (R32.enc Br ++ [Au]).toArray 99 (0,0))) (Ax : ByteArray) (r : (List (ByteArray × Dt))) (h : Hq Ah Ai Ax = r) :
    Calls prog 80 [.pointer (some ⟨O,0,none⟩),sV Ax].toArray w (Ret w [] fun τ v _=>∃ b : Nat,v = .map (some b) ∧ τ b = some (.map (Gn Value.string (fun x=>Value.agg (Dt.enc x).toArray) r) r.length)):=by
 obtain ⟨u1,u2,rfl,hs1,⟨u3,rfl,hs2⟩⟩:=Bw
 replace As : (view w []) O = some (.cells [u1.val,u3.val,iV Ah.Table.Relay,iV Ah.Table.Most,iV Ah.Final.Size,iV Ah.Final.Many,iV Ah.Final.Reserves,Au].toArray 99 (0,0)):=As
 refine Fe func80 rfl ntmps80 rfl fun a S=>?_
 unfold Hq at h
 replace S:=S.k2 0 1 rfl
 refine Fr (Vk S rfl rfl fun a S=>Dz (Rk (κ:=ByteArray) (ν:=Dt) S rfl Value.string (fun x=>Value.agg (Dt.enc x).toArray) ?_));clear S;intro a w1 b1 hz1 hk1 S
 refine Va S rfl rfl fun a S=>Dl (Fs (Fr (Vm S rfl rfl fun a S=>Vu S Ll rfl rfl fun a S=>Vf GR S rfl rfl fun a S=>lv S (Hp isAgg34 (off:=0) (o:=7) (S.tm rfl) ((Sn As).at S.emb0) rfl) rfl fun a S=>lv S (Fz Ni (S.tm rfl) (Fl Be)) rfl ?_)));clear S;intro a S
 refine lv S (Rm rfl) rfl fun a S=>Dl ?_
 replace S:=(S.nl [.map b1 (Gn Value.string (fun x=>Value.agg (Dt.enc x).toArray) ([] : List (ByteArray × Dt))) ([] : List (ByteArray × Dt)).length] [true] rfl).k5 1 5 12 13 14 rfl
 obtain ⟨j1,hj1,h⟩:=Eu h
 refine En (fun a w'=>∃ x1 : List (ByteArray × Dt),j1 x1 = r ∧ Sx w [] nov [.map b1 (Gn Value.string (fun x=>Value.agg (Dt.enc x).toArray) x1) x1.length] [(5,.map (some b1))] 33 a w') ?_ ?_
 ·refine wp_block (Hb (fun (ys1 : List Dt) a w'=>∃ i1 : Nat,∃ x1 : List (ByteArray × Dt),(∃ dn,Ai = dn ++ ys1 ∧ dn.length = i1) ∧ Nz Ax j1 ys1 i1 x1 = r ∧ Sx w [] nov [.map b1 (Gn Value.string (fun x=>Value.agg (Dt.enc x).toArray) x1) x1.length] [(1,sV Ax),(5,.map (some b1)),(12,Au),(13,iV (Ai.length : Int)),(14,iV (i1 : Int))] 33 a w') List.length Ai ⟨0,([] : List (ByteArray × Dt)),⟨[],rfl,rfl⟩,h,S.nf [true] rfl (subR rfl)⟩ ?_)
  clear S h;rintro ys1 a w2 ⟨i1,x1,⟨dn,hd1,hi1⟩,h,S⟩
  cases ys1 with
  | nil =>
   rw [Nz.eq_1] at h
   refine Fr (Vb S Ex rfl rfl rfl fun a S=>Ld ?_)
   replace S:=S.k6 1 5 12 13 14 15 rfl
   exact Tn (Fs (wp_cond_false ((S.tm rfl).trans (congrArg Value.bool (Io hd1 hi1))) (wp_exit (Ei (Ei (Gp (Tn (⟨x1,h,S.nf [true] rfl ⟨rfl,trivial⟩⟩))))))))
  | cons y1 ys1 =>
   rw [Nz.eq_2] at h
   refine Fr (Vb S Ex rfl rfl rfl fun a S=>Ld ?_)
   replace S:=S.k6 1 5 12 13 14 15 rfl
   refine Tn (Fs (wp_cond_true ((S.tm rfl).trans (congrArg Value.bool (Hv hd1 hi1))) (wp_skip (Tn (Fs ?_)))))
   obtain ⟨j2,hj2,h⟩:=Eu h
   refine En (fun a w'=>∃ x2 : List (ByteArray × Dt),j2 x2 = r ∧ Sx w [] nov [.map b1 (Gn Value.string (fun x=>Value.agg (Dt.enc x).toArray) x2) x2.length] [(1,sV Ax),(5,.map (some b1)),(12,Au),(13,iV (Ai.length : Int)),(14,iV (i1 : Int))] 33 a w') ?_ ?_
   ·refine wp_block (Fs (Fg ?_))
    obtain ⟨b2,o1,hm1,hr1⟩:=Fd (a:=a) (x:=.tmp 12) (y:=.tmp 14) (ty:=0) Ni Be (Iq hd1 hi1) rfl (S.tm rfl) (S.tm rfl)
    refine lv S (hr1 _) rfl ?_;clear S;intro a S
    clear hr1
    refine lv S (Fx isAgg38 sizeOf38 (off:=o1) (o:=0) (part:=(Dt.enc y1)) rfl rfl (S.tm rfl) (hm1.at S.emb0)) rfl fun a S=>Hz S zeroValue38 (cs:=[sV An,iV 0,iV 0,iV 0,sV An,sV An,sV An,iV 0,iV 0,sV An,iV 0]) rfl rfl ?_;clear S;intro a w5 b3 hz2 hk2 S
    refine Fh S (S.tm rfl) (S.tm rfl) (i:=0) (off:=0) rfl sizeOf38 (vs:=(Dt.enc y1)) rfl rfl rfl rfl ?_;clear S;intro w6 hk3 S
    refine Dz (Vf Sr S rfl rfl fun a S=>Vl isAgg9 0 S rfl rfl rfl rfl fun a S=>Vm S rfl rfl fun a S=>Vb S Wb rfl rfl rfl fun a S=>Vm S rfl rfl fun a S=>Hj 4 (fun a w'=>Keep [] w6 w' ∧ Sx w [] nov [.blk b3 (Dt.enc y1) 38,.map b1 (Gn Value.string (fun x=>Value.agg (Dt.enc x).toArray) x1) x1.length] [(1,sV Ax),(5,.map (some b1)),(7,.pointer (some ⟨b3,0,none⟩)),(12,Au),(13,iV (Ai.length : Int)),(14,iV (i1 : Int)),(26,bV ((decide (y1.Race = Ax)) && (decide (y1.Kind = 3))))] 33 a w') ?_ ?_)
    ·rcases Bool.eq_false_or_eq_true (decide (y1.Race = Ax)) with hb1 | hb1
     ·exact Ea S rfl rfl rfl hb1 (Vf Pm S rfl rfl fun a S=>Ea S rfl rfl rfl hb1 (Vl isAgg3 0 S rfl rfl rfl rfl fun a S=>Ea S rfl rfl rfl hb1 (Vq S Im rfl rfl rfl fun a S=>lv S (Hm hb1 (S.tm rfl) (S.tm rfl)) rfl fun a S=>Dl (⟨Keep.refl _ _,S.nf [true,true] rfl (subR rfl)⟩))))
     ·iterate 3 (refine Gt S rfl rfl rfl (Jq hb1) rfl ?_ rfl;clear S;intro a S)
      exact lv S (Hn (decide (y1.Kind = 3)) hb1 (S.tm rfl) rfl) rfl fun a S=>Dl (⟨Keep.refl _ _,S.nf [true,true] rfl (subR rfl)⟩)
    clear S;rintro a w7 ⟨hk4,S⟩
    refine Dl ?_
    obtain ⟨j3,hj3,h⟩:=Eu h
    refine En (fun a w'=>∃ x3 : List (ByteArray × Dt),j3 x3 = r ∧ Sx w [] nov [.blk b3 (Dt.enc y1) 38,.map b1 (Gn Value.string (fun x=>Value.agg (Dt.enc x).toArray) x3) x3.length] [(1,sV Ax),(5,.map (some b1)),(12,Au),(13,iV (Ai.length : Int)),(14,iV (i1 : Int))] 33 a w') ?_ ?_
    ·refine Fc h (S.tm rfl) (fun hb2 h=>?_) (fun hb2 h=>?_)
     ·refine Fg (Vm S rfl rfl fun a S=>Vf Ou S rfl rfl fun a S=>Vl isAgg9 0 S rfl rfl rfl rfl fun a S=>lv S (Fx isAgg38 sizeOf38 (off:=0) (o:=0) (part:=(Dt.enc y1)) rfl rfl (S.tm rfl) (S.cellsAt (i:=0) rfl)) rfl fun a S=>Ox (kv:=Value.string) (vv:=(fun x=>Value.agg (Dt.enc x).toArray)) (m:=x1) (key:=y1.Who) (val:=y1) S (i:=1) rfl underlying150 (Mz underlying9) (S.tm rfl) (S.tm rfl) (S.tm rfl) ?_);clear S;intro w9 hk5 S
      exact Dl (⟨(Gj x1 y1.Who y1),h,S.nf [true,true] rfl (subR rfl)⟩)
     ·exact wp_skip (Tn (⟨x1,h,S.nf [true,true] rfl (subR rfl)⟩))
    clear S h;rintro a w8 ⟨x3,h,S⟩;rw [hj3] at h;clear hj3 j3
    exact Ho (Tn (⟨x3,h,S.nf [false,true] rfl (subR rfl)⟩))
   clear S h;rintro a w4 ⟨x2,h,S⟩;rw [hj2] at h;clear hj2 j2
   exact Tn (Fg (Vq S Gf rfl rfl rfl fun a S=>Vm S rfl rfl fun a S=>Dl (⟨ys1,⟨i1 + 1,x2,⟨_,(hd1).trans (List.append_cons _ _ _),by simp [hi1]⟩,h,S.nf [true] rfl ⟨rfl,rfl,rfl,rfl,(congrArg (fun z=>some (Value.int .i64 z)) (Hw hd1 hi1 (Jn Be))),trivial⟩⟩,Nat.lt_succ_self _⟩)))
 clear S h;rintro a w3 ⟨x1,h,S⟩;rw [hj1] at h;clear hj1 j1
 refine Tn (Fr (Vm S rfl rfl fun a S=>Va S rfl rfl fun a S=>Dl (wp_ret ?_)))
 subst h
 exact Eo S results80 rfl ⟨_,rfl,S.map_ret (i:=0) rfl rfl⟩
theorem DC (w : World) (Ac : Value) (Ag : List Jk) (Ae : Slc (view w []) 2 Ac (Ag.map Jk.enc)) (r : Int) (h : Se Ag = some r) :
    Calls prog 118 [Ac].toArray w (Ret w [] fun _ v _=>v = iV r):=by
 refine Fe func118 rfl ntmps118 rfl fun a S=>?_
 unfold Se at h
 replace S:=S.k1 0 rfl
 refine Fr (Vk S rfl rfl fun a S=>Dl (Fs (Fr (Vm S rfl rfl fun a S=>lv S (Fz EY (S.tm rfl) (Fl Ae)) rfl fun a S=>Vq S Jh rfl rfl rfl ?_))));clear S;intro a S
 refine Dl (Fc h (S.tm rfl) (fun hb1 h=>?_) (fun hb1 h=>?_))
 ·refine Fr (Vk S rfl rfl fun a S=>Dl (wp_ret (Dy ?_)))
  obtain rfl:=Option.some.inj h
  exact Eo S results118 rfl rfl
 ·refine wp_skip (Tn (Fr (Rk (κ:=ByteArray) (ν:=Bool) S rfl Value.string Value.bool ?_)));clear S;intro a w1 b1 hz1 hk1 S
  refine Va S rfl rfl fun a S=>Dz (Vk S rfl rfl fun a S=>Dl (Fs (Fs (Fg ?_))))
  refine Vm S rfl rfl fun a S=>lv S (Fz EY (S.tm rfl) (Fl Ae)) rfl fun a S=>lv S (Rm rfl) rfl fun a S=>Dl ?_
  replace S:=(S.nl [.map b1 (Gn Value.string Value.bool ([] : List (ByteArray × Bool))) ([] : List (ByteArray × Bool)).length] [true] rfl).k5 3 4 11 12 13 rfl
  obtain ⟨j1,hj1,h⟩:=Eu h
  refine En (fun a w'=>∃ x1 : List (ByteArray × Bool),∃ x2 : Bool,j1 x1 x2 = some r ∧ Sx w [] nov [.map b1 (Gn Value.string Value.bool x1) x1.length] [(4,bV x2)] 37 a w') ?_ ?_
  ·refine wp_block (Hb (fun (ys1 : List Jk) a w'=>∃ i1 : Nat,∃ x1 : List (ByteArray × Bool),∃ x2 : Bool,(∃ dn,Ag = dn ++ ys1 ∧ dn.length = i1) ∧ Kr j1 ys1 i1 x1 x2 = some r ∧ Sx w [] nov [.map b1 (Gn Value.string Value.bool x1) x1.length] [(3,.map (some b1)),(4,bV x2),(11,Ac),(12,iV (Ag.length : Int)),(13,iV (i1 : Int))] 37 a w') List.length Ag ⟨0,([] : List (ByteArray × Bool)),false,⟨[],rfl,rfl⟩,h,S.nf [true] rfl (subR rfl)⟩ ?_)
   clear S h;rintro ys1 a w2 ⟨i1,x1,x2,⟨dn,hd1,hi1⟩,h,S⟩
   cases ys1 with
   | nil =>
    rw [Kr.eq_1] at h
    refine Fr (Vb S Ex rfl rfl rfl fun a S=>Ld ?_)
    replace S:=S.k6 3 4 11 12 13 14 rfl
    exact Tn (Fs (wp_cond_false ((S.tm rfl).trans (congrArg Value.bool (Io hd1 hi1))) (wp_exit (Ei (Ei (Gp (Tn (⟨x1,x2,h,S.nf [true] rfl ⟨rfl,trivial⟩⟩))))))))
   | cons y1 ys1 =>
    rw [Kr.eq_2] at h
    refine Fr (Vb S Ex rfl rfl rfl fun a S=>Ld ?_)
    replace S:=S.k6 3 4 11 12 13 14 rfl
    refine Tn (Fs (wp_cond_true ((S.tm rfl).trans (congrArg Value.bool (Hv hd1 hi1))) (wp_skip (Tn (Fs (wp_block (Fs (Fg ?_))))))))
    obtain ⟨b2,o1,hm1,hr1⟩:=Fd (a:=a) (x:=.tmp 11) (y:=.tmp 13) (ty:=0) EY Ae (Iq hd1 hi1) rfl (S.tm rfl) (S.tm rfl)
    refine lv S (hr1 _) rfl ?_;clear S;intro a S
    clear hr1
    refine lv S (Fx isAgg156 sizeOf156 (off:=o1) (o:=0) (part:=(Jk.enc y1)) rfl rfl (S.tm rfl) (hm1.at S.emb0)) rfl fun a S=>Hz S zeroValue156 (cs:=[sV An,iV 0]) rfl rfl ?_;clear S;intro a w4 b3 hz2 hk2 S
    refine Fh S (S.tm rfl) (S.tm rfl) (i:=0) (off:=0) rfl sizeOf156 (vs:=(Jk.enc y1)) rfl rfl rfl rfl ?_;clear S;intro w5 hk3 S
    refine Dl (Fs (Fr (Vf AX S rfl rfl fun a S=>Vl isAgg9 0 S rfl rfl rfl rfl ?_)));clear S;intro a S
    obtain ⟨r1,hr2,h⟩:=Fb h
    refine Ec S (fun _=>Dv (vs:=[sV y1.Who]) ⟨(S.tm rfl),trivial⟩ call89) (Ie _ y1.Who _ hr2) rfl ?_;clear S;intro v1 a w6 hv1 hk4 hn1 S
    subst hv1
    refine Vu S Hh rfl rfl fun a S=>Dl (Fc h (S.tm rfl) (fun hb2 h=>?_) (fun hb2 h=>?_))
    ·refine Fr (Vk S rfl rfl fun a S=>Dl (wp_ret (Dy (Fq (Dy (Dy (Fq ?_)))))))
     refine Dy (Dy ?_)
     obtain rfl:=Option.some.inj h
     exact Eo S results118 rfl rfl
    ·refine wp_skip (Tn (Fs (Fr (Vf MG S rfl rfl fun a S=>Vl isAgg3 0 S rfl rfl rfl rfl fun a S=>Ec S (fun _=>Dv (vs:=[iV y1.Time,iV 0,iV 360000]) ⟨(S.tm rfl),rfl,rfl,trivial⟩ call48) (Fk _ y1.Time 0 360000 _ rfl) rfl ?_))));clear S;intro v2 a w7 hv2 hk5 hn2 S
     subst hv2
     refine Vu S Hh rfl rfl fun a S=>Ld ?_
     replace S:=(S.nl [.blk b3 (Jk.enc y1) 156,.map b1 (Gn Value.string Value.bool x1) x1.length] [true,true] rfl).k7 3 4 6 11 12 13 24 rfl
     refine Tn (Fc h (S.tm rfl) (fun hb3 h=>?_) (fun hb3 h=>?_))
     ·refine Fr (Vk S rfl rfl fun a S=>Dl (wp_ret (Dy (Fq (Dy (Dy (Fq ?_)))))))
      refine Dy (Dy ?_)
      obtain rfl:=Option.some.inj h
      exact Eo S results118 rfl rfl
     ·refine wp_skip (Tn (Fr (Vm S rfl rfl fun a S=>Vm S rfl rfl fun a S=>Hj 5 (fun a w'=>Keep [] w7 w' ∧ Sx w [] nov [.blk b3 (Jk.enc y1) 156,.map b1 (Gn Value.string Value.bool x1) x1.length] [(3,.map (some b1)),(6,.pointer (some ⟨b3,0,none⟩)),(11,Ac),(12,iV (Ag.length : Int)),(13,iV (i1 : Int)),(31,bV (x2 || (Ee x1 y1.Who false)))] 37 a w') ?_ ?_)))
      ·rcases Bool.eq_false_or_eq_true x2 with hb4 | hb4
       ·iterate 4 (refine Gt S rfl rfl rfl (Mh hb4) rfl ?_ rfl;clear S;intro a S)
        exact lv S (Kh (Ee x1 y1.Who false) hb4 (S.tm rfl) rfl) rfl fun a S=>Dl (⟨Keep.refl _ _,S.nf [true,true] rfl (subR rfl)⟩)
       ·refine Ea S rfl rfl rfl hb4 (Vm S rfl rfl fun a S=>Ea S rfl rfl rfl hb4 (Vf AX S rfl rfl fun a S=>Ea S rfl rfl rfl hb4 (Vl isAgg9 0 S rfl rfl rfl rfl fun a S=>Ea S rfl rfl rfl hb4 (lv S (Pt (kv:=Value.string) (vv:=Value.bool) (m:=x1) (key:=y1.Who) (z:=false) (S.map_at (i:=1) rfl) underlying187 (Mz underlying9) zeroValue4 (S.tm rfl) (S.tm rfl)) rfl fun a S=>lv S (Ki hb4 (S.tm rfl) (S.tm rfl)) rfl fun a S=>Dl ?_))))
        exact ⟨Keep.refl _ _,S.nf [true,true] rfl (subR rfl)⟩
      clear S;rintro a w8 ⟨hk6,S⟩
      refine Va S rfl rfl fun a S=>Dl (Fg (Vm S rfl rfl fun a S=>Vf AX S rfl rfl fun a S=>Vl isAgg9 0 S rfl rfl rfl rfl fun a S=>Ox (kv:=Value.string) (vv:=Value.bool) (m:=x1) (key:=y1.Who) (val:=true) S (i:=1) rfl underlying187 (Mz underlying9) (S.tm rfl) (S.tm rfl) rfl ?_));clear S;intro w9 hk7 S
      exact Ld (Ho (Tn (Fg (Vq S Gf rfl rfl rfl fun a S=>Vm S rfl rfl fun a S=>Dl (⟨ys1,⟨i1 + 1,(Gj x1 y1.Who true),(x2 || (Ee x1 y1.Who false)),⟨_,(hd1).trans (List.append_cons _ _ _),by simp [hi1]⟩,h,S.nf [false,true] rfl ⟨rfl,rfl,rfl,rfl,(congrArg (fun z=>some (Value.int .i64 z)) (Hw hd1 hi1 (Jn Ae))),trivial⟩⟩,Nat.lt_succ_self _⟩)))))
  clear S h;rintro a w3 ⟨x1,x2,h,S⟩;rw [hj1] at h;clear hj1 j1
  refine Tn (Fs (Fr (Vm S rfl rfl fun a S=>Dl (Fc h (S.tm rfl) (fun hb5 h=>?_) (fun hb5 h=>?_)))))
  ·refine Fr (Vk S rfl rfl fun a S=>Dl (wp_ret (Dy ?_)))
   obtain rfl:=Option.some.inj h
   exact Eo S results118 rfl rfl
  ·refine wp_skip (Tn (Fr (Vk S rfl rfl fun a S=>Dl (wp_ret ?_))))
   obtain rfl:=Option.some.inj h
   exact Eo S results118 rfl rfl
set_option maxRecDepth 20000 in
theorem Zs (w : World) (By : Value) (Bz : List Ib) (Cj : List Sf) (Cc : Slc (view w []) 3 By (Cj.map Sf.enc)) (Cd : La (Uh (view w [])) Bz Cj) (r : Int) (h : Pk Bz = some r) :
    Calls prog 119 [By].toArray w (Ret w [] fun _ v _=>v = iV r):=by
 refine Fe func119 rfl ntmps119 rfl fun a S=>?_
 unfold Pk at h
 replace S:=S.k1 0 rfl
 refine Fr (Vk S rfl rfl fun a S=>Dl (Fs (Fr (Vm S rfl rfl fun a S=>lv S (Fz CW (S.tm rfl) (Tx Cc Cd)) rfl fun a S=>Vq S Jh rfl rfl rfl ?_))));clear S;intro a S
 refine Dl (Fc h (S.tm rfl) (fun hb1 h=>?_) (fun hb1 h=>?_))
 ·refine Fr (Vk S rfl rfl fun a S=>Dl (wp_ret (Dy ?_)))
  obtain rfl:=Option.some.inj h
  exact Eo S results119 rfl rfl
 ·refine wp_skip (Tn (Fs (Fr (Vm S rfl rfl fun a S=>lv S (Fz CW (S.tm rfl) (Tx Cc Cd)) rfl fun a S=>lv S (Rm rfl) rfl fun a S=>Dl ?_))))
  replace S:=S.k4 0 8 9 10 rfl
  obtain ⟨j1,hj1,h⟩:=Eu h
  refine En (fun a w'=>j1 = some r ∧ Sx w [] nov [] [] 40 a w') ?_ ?_
  ·refine wp_block (Hb (fun (ys1 : List Ib) a w'=>∃ i1 : Nat,(∃ dn,Bz = dn ++ ys1 ∧ dn.length = i1) ∧ Iu Bz j1 ys1 i1 = some r ∧ Sx w [] nov [] [(0,By),(8,By),(9,iV (Bz.length : Int)),(10,iV (i1 : Int))] 40 a w') List.length Bz ⟨0,⟨[],rfl,rfl⟩,h,S.nf [] rfl (subR rfl)⟩ ?_)
   clear S h;rintro ys1 a w1 ⟨i1,⟨dn,hd1,hi1⟩,h,S⟩
   cases ys1 with
   | nil =>
    rw [Iu.eq_1] at h
    refine Fr (Vb S Ex rfl rfl rfl fun a S=>Ld ?_)
    replace S:=S.k5 0 8 9 10 11 rfl
    exact Tn (Fs (wp_cond_false ((S.tm rfl).trans (congrArg Value.bool (Io hd1 hi1))) (wp_exit (Ei (Ei (Gp (Tn (⟨h,S.nf [] rfl trivial⟩))))))))
   | cons y1 ys1 =>
    rw [Iu.eq_2] at h
    refine Fr (Vb S Ex rfl rfl rfl fun a S=>Ld ?_)
    replace S:=S.k5 0 8 9 10 11 rfl
    refine Tn (Fs (wp_cond_true ((S.tm rfl).trans (congrArg Value.bool (Hv hd1 hi1))) (wp_skip (Tn (Fs (wp_block (Fr (Vm S rfl rfl ?_))))))));clear S;intro a S
    obtain ⟨r1,hg1,hl1⟩:=La.at Cd (Iq hd1 hi1)
    obtain ⟨u1,rfl,hs1⟩:=hl1
    obtain ⟨b1,o1,hm1,hr1⟩:=Fd (a:=a) (x:=.tmp 8) (y:=.tmp 10) (ty:=0) CW Cc hg1 rfl (S.tm rfl) (S.tm rfl)
    refine lv S (hr1 _) rfl ?_;clear S;intro a S
    clear hr1
    refine lv S (Fx isAgg158 sizeOf158 (off:=o1) (o:=0) (part:=[sV y1.Who,iV y1.Fault,u1.val]) rfl rfl (S.tm rfl) (hm1.at S.emb0)) rfl fun a S=>Hz S zeroValue158 (cs:=[sV An,iV 0,.slice none 0 0]) rfl rfl ?_;clear S;intro a w3 b2 hz1 hk1 S
    refine Va S rfl rfl fun a S=>Fh S (S.tm rfl) (S.tm rfl) (i:=0) (off:=0) rfl sizeOf158 (vs:=[sV y1.Who,iV y1.Fault,u1.val]) rfl rfl rfl (Qn rfl (Qn rfl (Qn (Kk.one (Fl hs1)) rfl))) ?_;clear S;intro w4 hk2 S
    refine Dl (wp_block (Fr (Vf DZ S rfl rfl fun a S=>Vl isAgg9 0 S rfl rfl rfl rfl ?_)));clear S;intro a S
    obtain ⟨r2,hr2,h⟩:=Fb h
    refine Ec S (fun _=>Dv (vs:=[sV y1.Who]) ⟨(S.tm rfl),trivial⟩ call89) (Ie _ y1.Who _ hr2) rfl ?_;clear S;intro v1 a w5 hv1 hk3 hn1 S
    subst hv1
    refine Vu S Hh rfl rfl fun a S=>Va S rfl rfl fun a S=>Ld ?_
    replace S:=(S.nl [.blk b2 [sV y1.Who,iV y1.Fault,u1.val] 158] [true] rfl).k7 0 3 4 8 9 10 15 rfl
    refine Tn (Fc h (S.tm rfl) (fun hb2 h=>?_) (fun hb2 h=>?_))
    ·refine Fr (Vk S rfl rfl fun a S=>Dl (wp_ret (Fq (Fq (Dy (Dy (Fq ?_)))))))
     refine Dy (Dy ?_)
     obtain rfl:=Option.some.inj h
     exact Eo S results119 rfl rfl
    ·refine Fr (Vf MH S rfl rfl fun a S=>Vl isAgg3 0 S rfl rfl rfl rfl fun a S=>Ec S (fun _=>Dv (vs:=[iV y1.Fault,iV 0,iV 8]) ⟨(S.tm rfl),rfl,rfl,trivial⟩ call48) (Fk _ y1.Fault 0 8 _ rfl) rfl ?_);clear S;intro v2 a w6 hv2 hk4 hn2 S
     subst hv2
     refine Vu S Hh rfl rfl fun a S=>Va S rfl rfl fun a S=>Dl (Fc h (S.tm rfl) (fun hb3 h=>?_) (fun hb3 h=>?_))
     ·refine Fr (Vk S rfl rfl fun a S=>Dl (wp_ret (Fq (Fq (Dy (Dy (Fq ?_)))))))
      refine Dy (Dy ?_)
      obtain rfl:=Option.some.inj h
      exact Eo S results119 rfl rfl
     ·refine Fs (Hd [] ([]) Tryz.mixed S rfl (by kernel_rfl) ?_);clear S;intro w7 hk5 hsel S
      refine Kz [0,1,2,3,4,5,6,7,8,9,10,11,12,13] hsel (by kernel_rfl) rfl ?_
      clear hsel
      refine Gk S rfl (Rm (S.tm rfl)) rfl fun a S=>Gk S rfl (Jh (S.tm rfl) rfl) rfl fun a S=>Gk S rfl (Rm (S.tm rfl)) rfl ?_;clear S;intro a S
      obtain ⟨j2,hj2,h⟩:=Eu h
      refine Yl 10 (fun a w'=>∃ c1,j2 c1 = some r ∧ Keep [] w7 w' ∧ Sx w [] nov [.blk b2 [sV y1.Who,iV y1.Fault,u1.val] 158] [(0,By),(8,By),(9,iV (Bz.length : Int)),(10,iV (i1 : Int)),(38,bV c1)] 40 a w') ?_ ?_
      ·rcases Bool.eq_false_or_eq_true (decide (0 < (i1 : Int))) with hb4 | hb4
       ·replace h:=Qw h hb4
        refine Fm S rfl rfl rfl rfl hb4 (Gv S (Ge DZ (S.tm rfl)) rfl fun a S=>Fm S rfl rfl rfl rfl hb4 (Gv S (Mi isAgg9 (S.tm rfl) (S.cell (i:=0) rfl rfl)) rfl fun a S=>Fm S rfl rfl rfl rfl hb4 (Gv S (Rm (S.tm rfl)) rfl fun a S=>Fm S rfl rfl rfl rfl hb4 (Gv S (Rm (S.tm rfl)) rfl fun a S=>Fm S rfl rfl rfl rfl hb4 (Gv S (Ja (S.tm rfl) rfl) rfl fun a S=>Fm S rfl rfl rfl rfl hb4 ?_)))))
        obtain ⟨hc1,h⟩:=Ia h
        obtain ⟨r3,hg2,hl2⟩:=MC Cd hc1
        obtain ⟨u2,rfl,hs2⟩:=hl2
        obtain ⟨b3,o2,hm2,hr3⟩:=Fd (a:=a) (x:=.tmp 31) (y:=.tmp 33) (ty:=0) CW Cc hg2 (Ed hc1).2 (S.tm rfl) (S.tm rfl)
        refine Gv S (hr3 _) rfl ?_;clear S;intro a S
        clear hr3
        exact Fm S rfl rfl rfl rfl hb4 (Gv S (Ge DZ (S.tm rfl)) rfl fun a S=>Fm S rfl rfl rfl rfl hb4 (Gv S (Hp isAgg9 (off:=o2) (o:=0) (S.tm rfl) (hm2.at S.emb0) rfl) rfl fun a S=>Fm S rfl rfl rfl rfl hb4 (Gv S (GH (S.tm rfl) (S.tm rfl)) rfl fun a S=>Gk S rfl (Hm hb4 (S.tm rfl) (S.tm rfl)) rfl fun a S=>Ig (⟨_,h,Keep.refl _ _,S.nf [true] rfl (subR rfl)⟩))))
       ·replace h:=Qx h hb4
        iterate 9 (refine Qe S rfl rfl rfl rfl (Jq hb4) rfl ?_ rfl;clear S;intro a S)
        exact Gk S rfl (Hn true hb4 (S.tm rfl) rfl) rfl fun a S=>Ig (⟨_,h,Keep.refl _ _,S.nf [true] rfl (subR rfl)⟩)
      clear S h;rintro a w8 ⟨c1,h,hk6,S⟩;rw [hj2] at h;clear hj2 j2
      refine Gk S rfl (Ra (S.tm rfl)) rfl fun a S=>Ig ?_
      replace S:=S.n0.k5 0 8 9 10 25 rfl
      refine Tn (Fc h (S.tm rfl) (fun hb5 h=>?_) (fun hb5 h=>?_))
      ·refine Fr (Vk S rfl rfl fun a S=>Dl (wp_ret (Fq (Fq (Dy (Dy (Fq ?_)))))))
       refine Dy (Dy ?_)
       obtain rfl:=Option.some.inj h
       exact Eo S results119 rfl rfl
      ·exact wp_skip (Ho (Ho (Tn (Fg (Vq S Gf rfl rfl rfl fun a S=>Vm S rfl rfl fun a S=>Dl (⟨ys1,⟨i1 + 1,⟨_,(hd1).trans (List.append_cons _ _ _),by simp [hi1]⟩,h,S.nf [] rfl ⟨rfl,rfl,rfl,(congrArg (fun z=>some (Value.int .i64 z)) (Hw hd1 hi1 (Wj Cc Cd))),trivial⟩⟩,Nat.lt_succ_self _⟩))))))
  clear S h;rintro a w2 ⟨h,S⟩;rw [hj1] at h;clear hj1 j1
  refine Tn (Fr (Vk S rfl rfl fun a S=>Dl (wp_ret ?_)))
  obtain rfl:=Option.some.inj h
  exact Eo S results119 rfl rfl
set_option maxRecDepth 20000 in
theorem FB (w : World) (Al : Dw) (Aq : Dw) (Dk : Nat) (Dq : Int) (Dd : (view w []) Dk = some (.cells [iV Dq].toArray 3 (0,0))) (r : Int) (h : Ub Al Aq Dq = some r) :
    Calls prog 121 [.agg (Dw.enc Al).toArray,.agg (Dw.enc Aq).toArray,.pointer (some ⟨Dk,0,none⟩)].toArray w (Ret w [] fun _ v _=>v = iV r):=by
 refine Fe func121 rfl ntmps121 rfl fun a S=>?_
 unfold Ub at h
 replace S:=S.k3 0 1 2 rfl
 refine Fr (My S (S.tm rfl) (cs:=(Dw.enc Al)) rfl rfl ?_);clear S;intro a w1 b1 hz1 hk1 S
 refine My S (S.tm rfl) (cs:=(Dw.enc Aq)) rfl rfl ?_;clear S;intro a w2 b2 hz2 hk2 S
 refine Vk S rfl rfl fun a S=>Dl (Fs (Hd [] ([]) Tryz.mixed S rfl (by kernel_rfl) ?_));clear S;intro w3 hk3 hsel S
 refine Kz [0,1,2,3,4,5,6,7,8,9] hsel (by kernel_rfl) rfl ?_
 clear hsel
 refine Gk S rfl (Ge Ys (S.tm rfl)) rfl fun a S=>Gk S rfl (Mi isAgg3 (S.tm rfl) (S.cell (i:=1) rfl rfl)) rfl fun a S=>Gk S rfl (Hp isAgg3 (off:=0) (o:=0) (S.tm rfl) ((Sn Dd).at S.emb0) rfl) rfl ?_;clear S;intro a S
 obtain ⟨hc1,h⟩:=Ia h
 refine Gk S rfl (CS (S.tm rfl) (S.tm rfl) (Tr hc1)) rfl fun a S=>Gk S rfl (Ge Ys (S.tm rfl)) rfl fun a S=>Gk S rfl (Mi isAgg3 (S.tm rfl) (S.cell (i:=0) rfl rfl)) rfl fun a S=>Gk S rfl (Hp isAgg3 (off:=0) (o:=0) (S.tm rfl) ((Sn Dd).at S.emb0) rfl) rfl ?_;clear S;intro a S
 obtain ⟨hc2,h⟩:=Ia h
 refine Gk S rfl (CS (S.tm rfl) (S.tm rfl) (Tr hc2)) rfl fun a S=>Gk S rfl (Ja (S.tm rfl) (S.tm rfl)) rfl fun a S=>Gk S rfl (Ra (S.tm rfl)) rfl fun a S=>Ig ?_
 replace S:=S.n0.k1 5 rfl
 refine Tn (wp_ret ?_)
 obtain rfl:=Option.some.inj h
 exact Eo S results121 rfl rfl
set_option maxRecDepth 20000 in
theorem Mm (w : World) (Aa : Value) (Ar : List Dw) (Bj : (LEnt.own Aa 109 4 Ar.length (Ar.flatMap Dw.enc)).holds w) (Al : Int) (Aq : Int) (Bd : Nat) (Bu : Int) (Ca : (view w (Aa.ownBlock.toList)) Bd = some (.cells [iV Bu].toArray 3 (0,0))) (r : (List Dw)) (h : Hf Ar Al Aq Bu = some r) :
    Calls prog 160 [Aa,iV Al,iV Aq,.func (.func 121) #[] #[.pointer (some ⟨Bd,0,none⟩)]].toArray w (Ret w (Aa.ownBlock.toList) fun _ v w'=>(LEnt.own Aa 109 4 r.length (r.flatMap Dw.enc)).holds w' ∧ v = .tuple #[]):=by
 refine Mo (Aa.ownBlock.toList) [.own Aa 109 4 Ar.length (Ar.flatMap Dw.enc)] func160 rfl ntmps160 rfl (fun e he=>by simp only [List.mem_singleton] at he;subst he;exact Bj) (Li _) (Nb _) fun a S=>?_
 unfold Hf at h
 replace S:=(S.nl [.own Aa 109 4 Ar.length (Ar.flatMap Dw.enc)] [true] rfl).k4 0 1 2 3 rfl
 refine Fr (Vm S rfl rfl fun a S=>Vq S Gf rfl rfl rfl fun a S=>Va S rfl rfl fun a S=>Dl ?_)
 replace S:=S.k5 0 1 2 3 8 rfl
 obtain ⟨j1,hj1,h⟩:=Eu h
 refine En (fun a w'=>∃ x1 : List Dw,j1 x1 = some r ∧ Sx w (Aa.ownBlock.toList) nov [.own Aa 109 4 x1.length (x1.flatMap Dw.enc)] [] 53 a w') ?_ ?_
 ·refine wp_block (Hb (fun (m1 : Nat) a w'=>∃ x1 : List Dw,∃ x2 : Int,Fi Aq Al Bu j1 m1 x1 x2 = some r ∧ Sx w (Aa.ownBlock.toList) nov [.own Aa 109 4 x1.length (x1.flatMap Dw.enc)] [(0,Aa),(1,iV Al),(2,iV Aq),(3,.func (.func 121) #[] #[.pointer (some ⟨Bd,0,none⟩)]),(8,iV x2)] 53 a w') id ((Aq - (W (Al + 1))).toNat + 2) ⟨Ar,W (Al + 1),h,S.nf [true] rfl (subR rfl)⟩ ?_)
  clear S h;rintro m1 a w1 ⟨x1,x2,h,S⟩
  cases m1 with
  | zero=>rw [Fi.eq_1] at h;cases h
  | succ m1 =>
   rw [Fi.eq_2] at h
   refine Fs (Fr (Vm S rfl rfl fun a S=>Vm S rfl rfl fun a S=>Vb S Ex rfl rfl rfl fun a S=>Dl (Fc h (S.tm rfl) (fun hb1 h=>?_) (fun hb1 h=>?_))))
   ·refine wp_skip (Tn (Fs (wp_block (Fr (Vm S rfl rfl fun a S=>Va S rfl rfl fun a S=>Dl ?_)))))
    replace S:=S.k6 0 1 2 3 8 9 rfl
    obtain ⟨j2,hj2,h⟩:=Eu h
    refine En (fun a w'=>∃ x3 : List Dw,j2 x3 = some r ∧ Sx w (Aa.ownBlock.toList) nov [.own Aa 109 4 x3.length (x3.flatMap Dw.enc)] [(0,Aa),(1,iV Al),(2,iV Aq),(3,.func (.func 121) #[] #[.pointer (some ⟨Bd,0,none⟩)]),(8,iV x2)] 53 a w') ?_ ?_
    ·refine wp_block (Hb (fun (m2 : Nat) a w'=>∃ x3 : List Dw,∃ x4 : Int,Es Al Bu j2 m2 x3 x4 = some r ∧ Sx w (Aa.ownBlock.toList) nov [.own Aa 109 4 x3.length (x3.flatMap Dw.enc)] [(0,Aa),(1,iV Al),(2,iV Aq),(3,.func (.func 121) #[] #[.pointer (some ⟨Bd,0,none⟩)]),(8,iV x2),(9,iV x4)] 53 a w') id ((x2 - Al).toNat + 2) ⟨x1,x2,h,S.nf [true] rfl (subR rfl)⟩ ?_)
     clear S h;rintro m2 a w3 ⟨x3,x4,h,S⟩
     cases m2 with
     | zero=>rw [Es.eq_1] at h;cases h
     | succ m2 =>
      rw [Es.eq_2] at h
      refine Fs (Fs ?_)
      obtain ⟨j3,hj3,h⟩:=Eu h
      refine En (fun a w'=>∃ x5 : Bool,j3 x5 = some r ∧ Sx w (Aa.ownBlock.toList) nov [.own Aa 109 4 x3.length (x3.flatMap Dw.enc)] [(0,Aa),(1,iV Al),(2,iV Aq),(3,.func (.func 121) #[] #[.pointer (some ⟨Bd,0,none⟩)]),(8,iV x2),(9,iV x4),(34,bV x5)] 53 a w') ?_ ?_
      ·rcases Bool.eq_false_or_eq_true (decide (Al < x4)) with hb2 | hb2
       ·replace h:=Qw h hb2
        obtain ⟨hc1,h⟩:=Ia h
        obtain ⟨hc2,h⟩:=Ia h
        obtain ⟨r1,hr3,h⟩:=Fb h
        refine Hd [] ([]) Tryz.mixed S rfl (by kernel_rfl) ?_;clear S;intro w7 hk2 hsel S
        refine Ef 0 S hsel rfl rfl rfl (by kernel_rfl) (by kernel_rfl) rfl (fun _ hw=>(Rm (S.tm rfl))) fun a S=>Ef 1 S hsel rfl rfl rfl (by kernel_rfl) (by kernel_rfl) rfl (fun _ hw=>(Rm (S.tm rfl))) fun a S=>Ef 2 S hsel rfl rfl rfl (by kernel_rfl) (by kernel_rfl) rfl (fun _ hw=>(Jh (S.tm rfl) (S.tm rfl))) fun a S=>Ef 3 S hsel rfl rfl rfl (by kernel_rfl) (by kernel_rfl) rfl (fun _ hw=>(Rm (S.tm rfl))) fun a S=>Ev 4 S hsel rfl rfl rfl rfl hb2 rfl rfl (by kernel_rfl) (by kernel_rfl) rfl (fun _ hw=>(Rm (S.tm rfl))) fun a S=>Ev 5 S hsel rfl rfl rfl rfl hb2 rfl rfl (by kernel_rfl) (by kernel_rfl) rfl (fun _ hw=>(Rm (S.tm rfl))) fun a S=>Ev 6 S hsel rfl rfl rfl rfl hb2 rfl rfl (by kernel_rfl) (by kernel_rfl) rfl (fun _ hw=>(Rm (S.tm rfl))) ?_;clear S;intro a S
        obtain ⟨b3,hg3,hr4⟩:=Hk (a:=a) (x:=.tmp 23) (y:=.tmp 24) (ty:=0) Rq Dw.enc_ok S (i:=0) rfl (Ed hc1).1 (Ed hc1).2 (S.tm rfl) (S.tm rfl)
        refine Ev 7 S hsel rfl rfl rfl rfl hb2 rfl rfl (by kernel_rfl) (by kernel_rfl) rfl (fun _ hw=>(hr4 _)) ?_;clear S;intro a S
        clear hr4
        refine Ev 8 S hsel rfl rfl rfl rfl hb2 rfl rfl (by kernel_rfl) (by kernel_rfl) rfl (fun _ hw=>(Fx isAgg109 sizeOf109 (off:=x4.toNat * 4) (o:=0) (part:=(Dw.enc (nth x3 x4))) rfl rfl (S.tm rfl) ((Pc Dw.enc_ok S (i:=0) rfl hg3 (Ed hc1).1 (Hr (e':=.own Aa 109 4 x3.length (x3.flatMap Dw.enc)))).kept hw))) fun a S=>Ev 9 S hsel rfl rfl rfl rfl hb2 rfl rfl (by kernel_rfl) (by kernel_rfl) rfl (fun _ hw=>(Rm (S.tm rfl))) fun a S=>Ev 10 S hsel rfl rfl rfl rfl hb2 rfl rfl (by kernel_rfl) (by kernel_rfl) rfl (fun _ hw=>(Rm (S.tm rfl))) fun a S=>Ev 11 S hsel rfl rfl rfl rfl hb2 rfl rfl (by kernel_rfl) (by kernel_rfl) rfl (fun _ hw=>(Ja (S.tm rfl) rfl)) ?_;clear S;intro a S
        obtain ⟨b4,hg4,hr5⟩:=Hk (a:=a) (x:=.tmp 27) (y:=.tmp 29) (ty:=0) Rq Dw.enc_ok S (i:=0) rfl (Ed hc2).1 (Ed hc2).2 (S.tm rfl) (S.tm rfl)
        refine Ev 12 S hsel rfl rfl rfl rfl hb2 rfl rfl (by kernel_rfl) (by kernel_rfl) rfl (fun _ hw=>(hr5 _)) ?_;clear S;intro a S
        clear hr5
        refine Ev 13 S hsel rfl rfl rfl rfl hb2 rfl rfl (by kernel_rfl) (by kernel_rfl) rfl (fun _ hw=>(Fx isAgg109 sizeOf109 (off:=((W (x4 - 1)).toNat) * 4) (o:=0) (part:=(Dw.enc (nth x3 (W (x4 - 1))))) rfl rfl (S.tm rfl) ((Pc Dw.enc_ok S (i:=0) rfl hg4 (Ed hc2).1 (Hr (e':=.own Aa 109 4 x3.length (x3.flatMap Dw.enc)))).kept hw))) fun a S=>Gw 14 (by kernel_rfl) rfl (Ea S rfl rfl rfl hb2 (Ec S (fun _=>Un (cap:=[.pointer (some ⟨Bd,0,none⟩)]) (S.tm rfl) (vs:=[.agg (Dw.enc (nth x3 x4)).toArray,.agg (Dw.enc (nth x3 (W (x4 - 1)))).toArray]) ⟨(S.tm rfl),(S.tm rfl),trivial⟩ call121) (FB _ (nth x3 x4) (nth x3 (W (x4 - 1))) Bd Bu ((S.le_arg Ej) _ _ Ca) _ hr3) rfl ?_));clear S;intro v2 a w8 hv2 hk3 hn2 S
        subst hv2
        refine Ld (Hx hk3 (Kz [15,16] hsel (by kernel_rfl) rfl ?_))
        clear hsel
        refine Fm S rfl rfl rfl rfl hb2 (Gv S (Ex (S.tm rfl) rfl) rfl fun a S=>Gk S rfl (Qi hb2 (S.tm rfl) (S.tm rfl)) rfl fun a S=>Ig ?_)
        replace S:=S.nk [.own Aa 109 4 x3.length (x3.flatMap Dw.enc)] [(0,Aa),(1,iV Al),(2,iV Aq),(3,.func (.func 121) #[] #[.pointer (some ⟨Bd,0,none⟩)]),(8,iV x2),(9,iV x4),(22,.func (.func 121) #[] #[.pointer (some ⟨Bd,0,none⟩)]),(23,Aa),(24,iV x4),(25,.pointer (some ⟨b3,x4.toNat * 4,none⟩)),(26,.agg (Dw.enc (nth x3 x4)).toArray),(27,Aa),(28,iV x4),(29,iV (W (x4 - 1))),(30,.pointer (some ⟨b4,((W (x4 - 1)).toNat) * 4,none⟩)),(31,.agg (Dw.enc (nth x3 (W (x4 - 1)))).toArray),(32,iV r1),(33,bV (decide (r1 < 0))),(34,bV (decide (r1 < 0)))] [true] rfl (subR rfl)
        exact Tn (⟨decide (r1 < 0),h,S.nf [true] rfl (subR rfl)⟩)
       ·replace h:=Qx h hb2
        refine Hd [] ([]) Tryz.mixed S rfl (by kernel_rfl) ?_;clear S;intro w9 hk4 hsel S
        refine Kz [0,1,2,3,4,5,6,7,8,9,10,11,12,13,14,15,16] hsel (by kernel_rfl) rfl ?_
        clear hsel
        refine Gk S rfl (Rm (S.tm rfl)) rfl fun a S=>Gk S rfl (Rm (S.tm rfl)) rfl fun a S=>Gk S rfl (Jh (S.tm rfl) (S.tm rfl)) rfl fun a S=>Gk S rfl (Rm (S.tm rfl)) rfl ?_;clear S;intro a S
        iterate 12 (refine Qe S rfl rfl rfl rfl (Jq hb2) rfl ?_ rfl;clear S;intro a S)
        refine Gk S rfl (Qj hb2 (S.tm rfl) rfl) rfl fun a S=>Ig ?_
        replace S:=S.k7 0 1 2 3 8 9 34 rfl
        exact Tn (⟨false,h,S.nf [true] rfl (subR rfl)⟩)
      clear S h;rintro a w5 ⟨x5,h,S⟩;rw [hj3] at h;clear hj3 j3
      refine Tn (Fc h (S.tm rfl) (fun hb3 h=>?_) (fun hb3 h=>?_))
      ·refine wp_skip (Tn (Fs (wp_block ?_)))
       obtain ⟨hc3,h⟩:=Ia h
       obtain ⟨hc4,h⟩:=Ia h
       obtain ⟨hc5,h⟩:=Ia h
       obtain ⟨hc6,h⟩:=Ia h
       refine Hd [15,17] ([]) Tryz.mixed S rfl (by kernel_rfl) ?_;clear S;intro w14 hk9 hsel S
       refine Gu 0 S hsel rfl rfl (by kernel_rfl) (by kernel_rfl) rfl (fun _=>(Rm (S.tm rfl))) fun a S=>Gu 1 S hsel rfl rfl (by kernel_rfl) (by kernel_rfl) rfl (fun _=>(Rm (S.tm rfl))) fun a S=>Gu 2 S hsel rfl rfl (by kernel_rfl) (by kernel_rfl) rfl (fun _=>(Rm (S.tm rfl))) fun a S=>Gu 3 S hsel rfl rfl (by kernel_rfl) (by kernel_rfl) rfl (fun _=>(Rm (S.tm rfl))) fun a S=>Gu 4 S hsel rfl rfl (by kernel_rfl) (by kernel_rfl) rfl (fun _=>(Ja (S.tm rfl) rfl)) fun a S=>Gu 5 S hsel rfl rfl (by kernel_rfl) (by kernel_rfl) rfl (fun _=>(Rm (S.tm rfl))) fun a S=>Gu 6 S hsel rfl rfl (by kernel_rfl) (by kernel_rfl) rfl (fun _=>(Rm (S.tm rfl))) fun a S=>Gu 7 S hsel rfl rfl (by kernel_rfl) (by kernel_rfl) rfl (fun _=>(Ja (S.tm rfl) rfl)) ?_;clear S;intro a S
       obtain ⟨b9,hg9,hr10⟩:=Hk (a:=a) (x:=.tmp 42) (y:=.tmp 44) (ty:=0) Rq Dw.enc_ok S (i:=0) rfl (Ed hc3).1 (Ed hc3).2 (S.tm rfl) (S.tm rfl)
       refine Gu 8 S hsel rfl rfl (by kernel_rfl) (by kernel_rfl) rfl (fun _=>(hr10 _)) ?_;clear S;intro a S
       clear hr10
       refine Ef 9 S hsel rfl (by kernel_rfl) (by kernel_rfl) (by kernel_rfl) (by kernel_rfl) rfl (fun _ hw=>(Fx isAgg109 sizeOf109 (off:=((W (x4 - 1)).toNat) * 4) (o:=0) (part:=(Dw.enc (nth x3 (W (x4 - 1))))) rfl rfl (S.tm rfl) ((Pc Dw.enc_ok S (i:=0) rfl hg9 (Ed hc3).1 (Hr (e':=.own Aa 109 4 x3.length (x3.flatMap Dw.enc)))).kept hw))) fun a S=>Gu 10 S hsel rfl rfl (by kernel_rfl) (by kernel_rfl) rfl (fun _=>(Rm (S.tm rfl))) fun a S=>Gu 11 S hsel rfl rfl (by kernel_rfl) (by kernel_rfl) rfl (fun _=>(Rm (S.tm rfl))) ?_;clear S;intro a S
       obtain ⟨b10,hg10,hr11⟩:=Hk (a:=a) (x:=.tmp 47) (y:=.tmp 48) (ty:=0) Rq Dw.enc_ok S (i:=0) rfl (Ed hc4).1 (Ed hc4).2 (S.tm rfl) (S.tm rfl)
       refine Gu 12 S hsel rfl rfl (by kernel_rfl) (by kernel_rfl) rfl (fun _=>(hr11 _)) ?_;clear S;intro a S
       clear hr11
       refine Ef 13 S hsel rfl (by kernel_rfl) (by kernel_rfl) (by kernel_rfl) (by kernel_rfl) rfl (fun _ hw=>(Fx isAgg109 sizeOf109 (off:=x4.toNat * 4) (o:=0) (part:=(Dw.enc (nth x3 x4))) rfl rfl (S.tm rfl) ((Pc Dw.enc_ok S (i:=0) rfl hg10 (Ed hc4).1 (Hr (e':=.own Aa 109 4 x3.length (x3.flatMap Dw.enc)))).kept hw))) ?_;clear S;intro a S
       obtain ⟨b11,hg11,hr12⟩:=Hk (a:=a) (x:=.tmp 37) (y:=.tmp 38) (ty:=0) Rq Dw.enc_ok S (i:=0) rfl (Ed hc5).1 (Ed hc5).2 (S.tm rfl) (S.tm rfl)
       refine Gu 14 S hsel rfl rfl (by kernel_rfl) (by kernel_rfl) rfl (fun _=>(hr12 _)) ?_;clear S;intro a S
       clear hr12
       refine Xz 15 (Aa.ownBlock.toList) rfl (by kernel_rfl) rfl (Pv (c:=0) (j:=x4.toNat) (nth x3 (W (x4 - 1))) Dw.enc_ok S (S.tm rfl) (S.tm rfl) (i:=0) rfl hg11 (Ed hc5).1 sizeOf109 (vs:=[sV ((nth x3 (W (x4 - 1))).Who),iV ((nth x3 (W (x4 - 1))).Rank),iV ((nth x3 (W (x4 - 1))).Time),iV ((nth x3 (W (x4 - 1))).Fault)]) rfl rfl rfl rfl rfl ?_);clear S;intro w16 hk11 S
       refine Ld (Ya ?_)
       obtain ⟨b12,hg12,hr13⟩:=Hk (a:=a) (x:=.tmp 39) (y:=.tmp 41) (ty:=0) Rq Dw.enc_ok S (i:=0) rfl (Ed hc6).1 (Ed hc6).2 (S.tm rfl) (S.tm rfl)
       refine Ef 16 S hsel rfl rfl rfl (by kernel_rfl) (by kernel_rfl) rfl (fun _ hw=>(hr13 _)) ?_;clear S;intro a S
       clear hr13
       refine Gw 17 (by kernel_rfl) rfl (Pv (c:=0) (j:=(W (x4 - 1)).toNat) (nth x3 x4) Dw.enc_ok S (S.tm rfl) (S.tm rfl) (i:=0) rfl hg12 (Ed hc6).1 sizeOf109 (vs:=[sV ((nth x3 x4).Who),iV ((nth x3 x4).Rank),iV ((nth x3 x4).Time),iV ((nth x3 x4).Fault)]) rfl rfl rfl rfl rfl ?_);clear S;intro w18 hk13 S
       refine Ld (Hx hk13 (Wu (by kernel_rfl) ?_))
       clear hsel
       replace S:=(S.nl [.own Aa 109 4 ((x3.set x4.toNat (nth x3 (W (x4 - 1)))).set ((W (x4 - 1)).toNat) (nth x3 x4)).length (((x3.set x4.toNat (nth x3 (W (x4 - 1)))).set ((W (x4 - 1)).toNat) (nth x3 x4)).flatMap Dw.enc)] [true] rfl).k6 0 1 2 3 8 9 rfl
       exact Ho (Tn (Fg (Vm S rfl rfl fun a S=>Vq S Ja rfl rfl rfl fun a S=>Va S rfl rfl fun a S=>Dl (⟨m2,⟨((x3.set x4.toNat (nth x3 (W (x4 - 1)))).set ((W (x4 - 1)).toNat) (nth x3 x4)),W (x4 - 1),h,S.nf [true] rfl ⟨rfl,rfl,rfl,rfl,rfl,rfl,trivial⟩⟩,Nat.lt_succ_self _⟩))))
      ·exact wp_exit (Ei (Ei (Gp (Tn (⟨x3,h,S.nf [true] rfl (subR rfl)⟩)))))
    clear S h;rintro a w4 ⟨x3,h,S⟩;rw [hj2] at h;clear hj2 j2
    exact Ho (Tn (Fg (Vm S rfl rfl fun a S=>Vq S Gf rfl rfl rfl fun a S=>Va S rfl rfl fun a S=>Dl (⟨m1,⟨x3,W (x2 + 1),h,S.nf [true] rfl ⟨rfl,rfl,rfl,rfl,rfl,trivial⟩⟩,Nat.lt_succ_self _⟩))))
   ·exact wp_exit (Ei (Ei (Gp (Tn (⟨x1,h,S.nf [true] rfl trivial⟩)))))
 clear S h;rintro a w2 ⟨x1,h,S⟩;rw [hj1] at h;clear hj1 j1
 obtain rfl:=Option.some.inj h
 exact Uv S results160 ⟨(S.holds _ (List.mem_of_getElem? (i:=0) rfl)),rfl⟩
theorem Rr (w : World) (Aa : Value) (Ar : List Dw) (Bj : (LEnt.own Aa 109 4 Ar.length (Ar.flatMap Dw.enc)).holds w) (Az : Int) (Bd : Nat) (Bu : Int) (Ca : (view w (Aa.ownBlock.toList)) Bd = some (.cells [iV Bu].toArray 3 (0,0))) (r : (List Dw)) (h : Jx Ar Az Bu = some r) :
    Calls prog 145 [Aa,iV Az,.func (.func 121) #[] #[.pointer (some ⟨Bd,0,none⟩)]].toArray w (Ret w (Aa.ownBlock.toList) fun _ v w'=>(LEnt.own Aa 109 4 r.length (r.flatMap Dw.enc)).holds w' ∧ v = .tuple #[]):=by
 refine Mo (Aa.ownBlock.toList) [.own Aa 109 4 Ar.length (Ar.flatMap Dw.enc)] func145 rfl ntmps145 rfl (fun e he=>by simp only [List.mem_singleton] at he;subst he;exact Bj) (Li _) (Nb _) fun a S=>?_
 unfold Jx at h
 replace S:=(S.nl [.own Aa 109 4 Ar.length (Ar.flatMap Dw.enc)] [true] rfl).k3 0 1 2 rfl
 refine Fr (Vk S rfl rfl fun a S=>Dz (Vm S rfl rfl fun a S=>Vk S rfl rfl fun a S=>Va S rfl rfl fun a S=>Ld ?_))
 refine Tn (Fs ?_)
 replace S:=S.k6 0 1 2 6 7 8 rfl
 obtain ⟨j1,hj1,h⟩:=Eu h
 refine En (fun a w'=>∃ x1 : List Dw,∃ x2 : Int,j1 x1 x2 = some r ∧ Sx w (Aa.ownBlock.toList) nov [.own Aa 109 4 x1.length (x1.flatMap Dw.enc)] [(0,Aa),(1,iV Az),(2,.func (.func 121) #[] #[.pointer (some ⟨Bd,0,none⟩)]),(6,iV 20),(7,iV x2)] 63 a w') ?_ ?_
 ·refine wp_block (Hb (fun (m1 : Nat) a w'=>∃ x1 : List Dw,∃ x2 : Int,∃ x3 : Int,Gb Az Bu j1 m1 x1 x2 x3 = some r ∧ Sx w (Aa.ownBlock.toList) nov [.own Aa 109 4 x1.length (x1.flatMap Dw.enc)] [(0,Aa),(1,iV Az),(2,.func (.func 121) #[] #[.pointer (some ⟨Bd,0,none⟩)]),(6,iV 20),(7,iV x2),(8,iV x3)] 63 a w') id ((Az - 20).toNat + 2) ⟨Ar,0,20,h,S.nf [true] rfl (subR rfl)⟩ ?_)
  clear S h;rintro m1 a w1 ⟨x1,x2,x3,h,S⟩
  cases m1 with
  | zero=>rw [Gb.eq_1] at h;cases h
  | succ m1 =>
   rw [Gb.eq_2] at h
   refine Fs (Fr (Vm S rfl rfl fun a S=>Vm S rfl rfl fun a S=>Vb S Uk rfl rfl rfl fun a S=>Dl (Fc h (S.tm rfl) (fun hb1 h=>?_) (fun hb1 h=>?_))))
   ·refine wp_skip (Tn (wp_block (Fs (Fg ?_))))
    iterate 4 (refine Vm S rfl rfl ?_;clear S;intro a S)
    obtain ⟨r1,hr1,h⟩:=Fb h
    refine Oy 0 S rfl (fun _=>.own Aa 109 4 r1.length (r1.flatMap Dw.enc)) (fun _=>Dv (vs:=[Aa,iV x2,iV x3,.func (.func 121) #[] #[.pointer (some ⟨Bd,0,none⟩)]]) ⟨(S.tm rfl),(S.tm rfl),(S.tm rfl),(S.tm rfl),trivial⟩ call160) (Mm _ Aa x1 (S.holds _ (List.mem_of_getElem? (i:=0) rfl)) x2 x3 Bd Bu ((S.le_arg (Ip (i:=0) (e:=.own Aa 109 4 x1.length (x1.flatMap Dw.enc)) rfl)) _ _ Ca) _ hr1) rfl (fun _ _ _ h=>⟨h.1,fun _ hc=>hc⟩) ?_;clear S;intro v1 a w3 hv1 hk1 hn1 S
    replace hv1:=hv1.2
    subst hv1
    refine Dz (Vm S rfl rfl fun a S=>Va S rfl rfl fun a S=>Ld ?_)
    replace S:=(S.nl [.own Aa 109 4 r1.length (r1.flatMap Dw.enc)] [true] rfl).k6 0 1 2 6 7 8 rfl
    exact Tn (Fg (Vm S rfl rfl fun a S=>Vm S rfl rfl fun a S=>Vb S Gf rfl rfl rfl fun a S=>Va S rfl rfl fun a S=>Ld (Ho (Tn (⟨m1,⟨r1,x3,W (x3 + 20),h,S.nf [true] rfl ⟨rfl,rfl,rfl,rfl,rfl,rfl,trivial⟩⟩,Nat.lt_succ_self _⟩)))))
   ·exact wp_exit (Ei (Ei (Gp (Tn (⟨x1,x2,h,S.nf [true] rfl (subR rfl)⟩)))))
 clear S h;rintro a w2 ⟨x1,x2,h,S⟩;rw [hj1] at h;clear hj1 j1
 refine Tn (Fs (Fg ?_))
 iterate 4 (refine Vm S rfl rfl ?_;clear S;intro a S)
 obtain ⟨r2,hr2,h⟩:=Fb h
 refine Oy 0 S rfl (fun _=>.own Aa 109 4 r2.length (r2.flatMap Dw.enc)) (fun _=>Dv (vs:=[Aa,iV x2,iV Az,.func (.func 121) #[] #[.pointer (some ⟨Bd,0,none⟩)]]) ⟨(S.tm rfl),(S.tm rfl),(S.tm rfl),(S.tm rfl),trivial⟩ call160) (Mm _ Aa x1 (S.holds _ (List.mem_of_getElem? (i:=0) rfl)) x2 Az Bd Bu ((S.le_arg (Ip (i:=0) (e:=.own Aa 109 4 x1.length (x1.flatMap Dw.enc)) rfl)) _ _ Ca) _ hr2) rfl (fun _ _ _ h=>⟨h.1,fun _ hc=>hc⟩) ?_;clear S;intro v2 a w4 hv2 hk2 hn2 S
 replace hv2:=hv2.2
 subst hv2
 refine Dl ?_
 replace S:=(S.nl [.own Aa 109 4 r2.length (r2.flatMap Dw.enc)] [true] rfl).k2 1 6 rfl
 obtain ⟨j2,hj2,h⟩:=Eu h
 refine En (fun a w'=>j2 = some r ∧ Sx w (Aa.ownBlock.toList) nov [.own Aa 109 4 r2.length (r2.flatMap Dw.enc)] [] 63 a w') ?_ ?_
 ·refine wp_block (Hb (fun (m2 : Nat) a w'=>∃ x4 : Int,Gc Az j2 m2 x4 = some r ∧ Sx w (Aa.ownBlock.toList) nov [.own Aa 109 4 r2.length (r2.flatMap Dw.enc)] [(1,iV Az),(6,iV x4)] 63 a w') id ((Az - 20).toNat + 2) ⟨20,h,S.nf [true] rfl (subR rfl)⟩ ?_)
  clear S h;rintro m2 a w5 ⟨x4,h,S⟩
  cases m2 with
  | zero=>rw [Gc.eq_1] at h;cases h
  | succ m2 =>
   rw [Gc.eq_2] at h
   refine Fs (Fr (Vm S rfl rfl fun a S=>Vm S rfl rfl fun a S=>Vb S Ex rfl rfl rfl fun a S=>Dl (Fc h (S.tm rfl) (fun hb2 h=>?_) (fun hb2 h=>?_))))
   ·refine wp_skip (Tn (wp_block (Fr (Vm S rfl rfl fun a S=>Vu S (Yk rfl) rfl rfl fun a S=>Vk S rfl rfl fun a S=>Va S rfl rfl fun a S=>Dl ?_))))
    refine Fs ?_
    replace S:=S.k4 1 6 7 8 rfl
    obtain ⟨j3,hj3,h⟩:=Eu h
    refine En (fun a w'=>∃ x5 : Int,j3 x5 = some r ∧ Sx w (Aa.ownBlock.toList) nov [.own Aa 109 4 r2.length (r2.flatMap Dw.enc)] [(1,iV Az),(6,iV x4),(7,iV x5)] 63 a w') ?_ ?_
    ·refine wp_block (Hb (fun (m3 : Nat) a w'=>∃ x5 : Int,∃ x6 : Int,Hc Az j3 m3 x5 x6 = some r ∧ Sx w (Aa.ownBlock.toList) nov [.own Aa 109 4 r2.length (r2.flatMap Dw.enc)] [(1,iV Az),(6,iV x4),(7,iV x5),(8,iV x6)] 63 a w') id ((Az - (W (2 * x4))).toNat + 2) ⟨0,W (2 * x4),h,S.nf [true] rfl (subR rfl)⟩ ?_)
     clear S h;rintro m3 a w7 ⟨x5,x6,h,S⟩
     cases m3 with
     | zero=>rw [Hc.eq_1] at h;cases h
     | succ m3 =>
      rw [Hc.eq_2] at h
      refine Fs (Fr (Vm S rfl rfl fun a S=>Vm S rfl rfl fun a S=>Vb S Uk rfl rfl rfl fun a S=>Dl (Fc h (S.tm rfl) (fun hb3 h=>?_) (fun hb3 h=>?_))))
      ·refine wp_skip (Tn (wp_block (Fs ?_)))
       cases h
      ·exact wp_exit (Ei (Ei (Gp (Tn (⟨x5,h,S.nf [true] rfl (subR rfl)⟩)))))
    clear S h;rintro a w8 ⟨x5,h,S⟩;rw [hj3] at h;clear hj3 j3
    refine Tn (Fs (Fr (Vm S rfl rfl fun a S=>Vm S rfl rfl fun a S=>Vb S Gf rfl rfl rfl fun a S=>Va S rfl rfl fun a S=>Dl (Fs ?_))))
    refine Fg (Vm S rfl rfl fun a S=>Vm S rfl rfl fun a S=>Vb S Ex rfl rfl rfl fun a S=>Dl (Fc h (S.tm rfl) (fun hb4 h=>?_) (fun hb4 h=>?_)))
    ·cases h
    ·exact wp_skip (Tn (Fg (Vm S rfl rfl fun a S=>Vq S Yk rfl rfl rfl fun a S=>Va S rfl rfl fun a S=>Ld (Ho (Tn (⟨m2,⟨W (x4 * 2),h,S.nf [true] rfl ⟨rfl,rfl,trivial⟩⟩,Nat.lt_succ_self _⟩))))))
   ·exact wp_exit (Ei (Ei (Gp (Tn (⟨h,S.nf [true] rfl trivial⟩)))))
 clear S h;rintro a w6 ⟨h,S⟩;rw [hj2] at h;clear hj2 j2
 obtain rfl:=Option.some.inj h
 exact Uv S results145 ⟨(S.holds _ (List.mem_of_getElem? (i:=0) rfl)),rfl⟩
theorem Rf (w : World) (Bc : Value) (Ab : List Dw) (Cr : (LEnt.own Bc 109 4 Ab.length (Ab.flatMap Dw.enc)).holds w) (Bd : Nat) (Bu : Int) (Ca : (view w (Bc.ownBlock.toList)) Bd = some (.cells [iV Bu].toArray 3 (0,0))) (r : (List Dw)) (h : Il Ab Bu = some r) :
    Calls prog 120 [Bc,.func (.func 121) #[] #[.pointer (some ⟨Bd,0,none⟩)]].toArray w (Ret w (Bc.ownBlock.toList) fun _ v w'=>(LEnt.own Bc 109 4 r.length (r.flatMap Dw.enc)).holds w' ∧ v = .tuple #[]):=by
 refine Mo (Bc.ownBlock.toList) [.own Bc 109 4 Ab.length (Ab.flatMap Dw.enc)] func120 rfl ntmps120 rfl (fun e he=>by simp only [List.mem_singleton] at he;subst he;exact Cr) (Li _) (Nb _) fun a S=>?_
 unfold Il at h
 replace S:=(S.nl [.own Bc 109 4 Ab.length (Ab.flatMap Dw.enc)] [true] rfl).k2 0 1 rfl
 refine Fg (Vm S rfl rfl fun a S=>Vm S rfl rfl fun a S=>lv S (Fz Rq (S.tm rfl) (Pb (S.own_at (i:=0) rfl))) rfl fun a S=>Vm S rfl rfl ?_);clear S;intro a S
 obtain ⟨r1,hr1,h⟩:=Fb h
 refine Oy 0 S rfl (fun _=>.own Bc 109 4 r1.length (r1.flatMap Dw.enc)) (fun _=>Dv (vs:=[Bc,iV (Ab.length : Int),.func (.func 121) #[] #[.pointer (some ⟨Bd,0,none⟩)]]) ⟨(S.tm rfl),(S.tm rfl),(S.tm rfl),trivial⟩ call145) (Rr _ Bc Ab (S.holds _ (List.mem_of_getElem? (i:=0) rfl)) (Ab.length : Int) Bd Bu ((S.le_arg (Ip (i:=0) (e:=.own Bc 109 4 Ab.length (Ab.flatMap Dw.enc)) rfl)) _ _ Ca) _ hr1) rfl (fun _ _ _ h=>⟨h.1,fun _ hc=>hc⟩) ?_;clear S;intro v1 a w1 hv1 hk1 hn1 S
 replace hv1:=hv1.2
 subst hv1
 refine Ld ?_
 obtain rfl:=Option.some.inj h
 exact Uv S results120 ⟨(S.holds _ (List.mem_of_getElem? (i:=0) rfl)),rfl⟩
set_option maxRecDepth 20000 in
theorem II (w : World) (Ac : Value) (Ag : List Jk) (Ae : Slc (view w []) 2 Ac (Ag.map Jk.enc)) (By : Value) (Bz : List Ib) (Cj : List Sf) (Cc : Slc (view w []) 3 By (Cj.map Sf.enc)) (Cd : La (Uh (view w [])) Bz Cj) (Bv : Int) (r : (List Dw) × Int) (h : Zl Ag Bz Bv = some r) :
    Calls prog 102 [Ac,By,iV Bv].toArray w (Ret w [] fun τ v _=>∃ u1 : Value,v = .tuple #[u1,iV r.2] ∧ Td τ 109 4 u1 r.1.length (r.1.flatMap Dw.enc)):=by
 refine Fe func102 rfl ntmps102 rfl fun a S=>?_
 unfold Zl at h
 replace S:=S.k3 0 1 2 rfl
 refine Fr (My S (S.tm rfl) (cs:=[iV Bv]) rfl rfl ?_);clear S;intro a w1 b1 hz1 hk1 S
 refine Vk S rfl rfl fun a S=>Vk S rfl rfl fun a S=>Dl (Fs (Fr (Vm S rfl rfl ?_)));clear S;intro a S
 obtain ⟨r1,hr1,h⟩:=Fb h
 refine Ec S (fun _=>Dv (vs:=[Ac]) ⟨(S.tm rfl),trivial⟩ call118) (DC _ Ac Ag (Ae.mono (S.le_arg Ej)) _ hr1) rfl ?_;clear S;intro v1 a w2 hv1 hk2 hn1 S
 subst hv1
 refine Va S rfl rfl fun a S=>Dz (Vm S rfl rfl fun a S=>Vq S Ky rfl rfl rfl fun a S=>Dl (Fc h (S.tm rfl) (fun hb1 h=>?_) (fun hb1 h=>?_)))
 ·refine Fr (Vm S rfl rfl fun a S=>Vk S rfl rfl fun a S=>Va S rfl rfl fun a S=>Dl (wp_ret (Dy ?_)))
  obtain rfl:=Option.some.inj h
  exact Lq S results102 rfl rfl ⟨_,rfl,(Ow _ _ _)⟩
 ·refine wp_skip (Tn (Fs (Fr (Vm S rfl rfl ?_))));clear S;intro a S
  obtain ⟨r2,hr2,h⟩:=Fb h
  refine Ec S (fun _=>Dv (vs:=[By]) ⟨(S.tm rfl),trivial⟩ call119) (Zs _ By Bz Cj (Cc.mono (S.le_arg Ej)) (HA (S.le_arg Ej) Cd) _ hr2) rfl ?_;clear S;intro v2 a w3 hv2 hk3 hn2 S
  subst hv2
  refine Va S rfl rfl fun a S=>Dz (Vm S rfl rfl fun a S=>Vq S Ky rfl rfl rfl fun a S=>Ld ?_)
  replace S:=(S.nl [.blk b1 [iV Bv] 3] [true] rfl).k5 0 1 5 9 27 rfl
  refine Tn (Fc h (S.tm rfl) (fun hb2 h=>?_) (fun hb2 h=>?_))
  ·refine Fr (Vm S rfl rfl fun a S=>Vk S rfl rfl fun a S=>Va S rfl rfl fun a S=>Dl (wp_ret (Dy ?_)))
   obtain rfl:=Option.some.inj h
   exact Lq S results102 rfl rfl ⟨_,rfl,(Ow _ _ _)⟩
  ·refine wp_skip (Tn (Fr (Rk (κ:=ByteArray) (ν:=Int) S rfl Value.string (Value.int .i64) ?_)));clear S;intro a w4 b2 hz2 hk4 S
   refine Va S rfl rfl fun a S=>Dl (Fs (Fr (Vm S rfl rfl fun a S=>lv S (Fz CW (S.tm rfl) (Tx Cc Cd)) rfl fun a S=>lv S (Rm rfl) rfl fun a S=>Dl ?_)))
   replace S:=(S.nl [.map b2 (Gn Value.string (Value.int .i64) ([] : List (ByteArray × Int))) ([] : List (ByteArray × Int)).length,.blk b1 [iV Bv] 3] [true,true] rfl).k6 0 5 10 30 31 32 rfl
   obtain ⟨j1,hj1,h⟩:=Eu h
   refine En (fun a w'=>∃ x1 : List (ByteArray × Int),j1 x1 = some r ∧ Sx w [] nov [.map b2 (Gn Value.string (Value.int .i64) x1) x1.length,.blk b1 [iV Bv] 3] [(0,Ac),(5,.pointer (some ⟨b1,0,none⟩)),(10,.map (some b2))] 122 a w') ?_ ?_
   ·refine wp_block (Hb (fun (ys1 : List Ib) a w'=>∃ i1 : Nat,∃ x1 : List (ByteArray × Int),(∃ dn,Bz = dn ++ ys1 ∧ dn.length = i1) ∧ Oa j1 ys1 i1 x1 = some r ∧ Sx w [] nov [.map b2 (Gn Value.string (Value.int .i64) x1) x1.length,.blk b1 [iV Bv] 3] [(0,Ac),(5,.pointer (some ⟨b1,0,none⟩)),(10,.map (some b2)),(30,By),(31,iV (Bz.length : Int)),(32,iV (i1 : Int))] 122 a w') List.length Bz ⟨0,([] : List (ByteArray × Int)),⟨[],rfl,rfl⟩,h,S.nf [true,true] rfl (subR rfl)⟩ ?_)
    clear S h;rintro ys1 a w5 ⟨i1,x1,⟨dn,hd1,hi1⟩,h,S⟩
    cases ys1 with
    | nil =>
     rw [Oa.eq_1] at h
     refine Fr (Vb S Ex rfl rfl rfl fun a S=>Ld ?_)
     replace S:=S.k7 0 5 10 30 31 32 33 rfl
     exact Tn (Fs (wp_cond_false ((S.tm rfl).trans (congrArg Value.bool (Io hd1 hi1))) (wp_exit (Ei (Ei (Gp (Tn (⟨x1,h,S.nf [true,true] rfl (subR rfl)⟩))))))))
    | cons y1 ys1 =>
     rw [Oa.eq_2] at h
     refine Fr (Vb S Ex rfl rfl rfl fun a S=>Ld ?_)
     replace S:=S.k7 0 5 10 30 31 32 33 rfl
     refine Tn (Fs (wp_cond_true ((S.tm rfl).trans (congrArg Value.bool (Hv hd1 hi1))) (wp_skip (Tn (Fs (wp_block (Fs (Fg ?_))))))))
     obtain ⟨r3,hg1,hl1⟩:=La.at Cd (Iq hd1 hi1)
     obtain ⟨u1,rfl,hs1⟩:=hl1
     obtain ⟨b3,o1,hm1,hr3⟩:=Fd (a:=a) (x:=.tmp 30) (y:=.tmp 32) (ty:=0) CW Cc hg1 rfl (S.tm rfl) (S.tm rfl)
     refine lv S (hr3 _) rfl ?_;clear S;intro a S
     clear hr3
     refine lv S (Fx isAgg158 sizeOf158 (off:=o1) (o:=0) (part:=[sV y1.Who,iV y1.Fault,u1.val]) rfl rfl (S.tm rfl) (hm1.at S.emb0)) rfl fun a S=>Hz S zeroValue158 (cs:=[sV An,iV 0,.slice none 0 0]) rfl rfl ?_;clear S;intro a w7 b4 hz3 hk5 S
     refine Fh S (S.tm rfl) (S.tm rfl) (i:=0) (off:=0) rfl sizeOf158 (vs:=[sV y1.Who,iV y1.Fault,u1.val]) rfl rfl rfl (Qn rfl (Qn rfl (Qn (Kk.one (Fl hs1)) rfl))) ?_;clear S;intro w8 hk6 S
     refine Dl (Fg (Vm S rfl rfl fun a S=>Vf DZ S rfl rfl fun a S=>Vl isAgg9 0 S rfl rfl rfl rfl fun a S=>Vf MH S rfl rfl fun a S=>Vl isAgg3 0 S rfl rfl rfl rfl fun a S=>Ox (kv:=Value.string) (vv:=(Value.int .i64)) (m:=x1) (key:=y1.Who) (val:=y1.Fault) S (i:=1) rfl underlying89 (Mz underlying9) (S.tm rfl) (S.tm rfl) (S.tm rfl) ?_));clear S;intro w9 hk7 S
     refine Ld ?_
     replace S:=(S.nl [.map b2 (Gn Value.string (Value.int .i64) (Gj x1 y1.Who y1.Fault)) (Gj x1 y1.Who y1.Fault).length,.blk b1 [iV Bv] 3] [false,true,true] rfl).k6 0 5 10 30 31 32 rfl
     exact Ho (Tn (Fg (Vq S Gf rfl rfl rfl fun a S=>Vm S rfl rfl fun a S=>Dl (⟨ys1,⟨i1 + 1,(Gj x1 y1.Who y1.Fault),⟨_,(hd1).trans (List.append_cons _ _ _),by simp [hi1]⟩,h,S.nf [true,true] rfl ⟨rfl,rfl,rfl,rfl,rfl,(congrArg (fun z=>some (Value.int .i64 z)) (Hw hd1 hi1 (Wj Cc Cd))),trivial⟩⟩,Nat.lt_succ_self _⟩))))
   clear S h;rintro a w6 ⟨x1,h,S⟩;rw [hj1] at h;clear hj1 j1
   refine Tn (Fr (Vk S rfl rfl ?_));clear S;intro a S
   replace S:=S.nil 109 4
   refine Vk S rfl rfl ?_;clear S;intro a S
   replace S:=S.nil 109 4
   refine Dl (Fs (Fr (Vm S rfl rfl fun a S=>lv S (Fz EY (S.tm rfl) (Fl Ae)) rfl fun a S=>lv S (Rm rfl) rfl fun a S=>Dl ?_)))
   replace S:=(S.nl [.own (.slice none 0 0) 109 4 ([] : List Dw).length (([] : List Dw).flatMap Dw.enc),.own (.slice none 0 0) 109 4 ([] : List Dw).length (([] : List Dw).flatMap Dw.enc),.map b2 (Gn Value.string (Value.int .i64) x1) x1.length,.blk b1 [iV Bv] 3] [true,true,true,true] rfl).k7 5 10 13 14 42 43 44 rfl
   obtain ⟨j2,hj2,h⟩:=Eu h
   refine En (fun a w'=>∃ x2 : List Dw,∃ x3 : List Dw,∃ v3 : Value,∃ v4 : Value,j2 x2 x3 = some r ∧ Sx w [] nov [.own v3 109 4 x2.length (x2.flatMap Dw.enc),.own v4 109 4 x3.length (x3.flatMap Dw.enc),.map b2 (Gn Value.string (Value.int .i64) x1) x1.length,.blk b1 [iV Bv] 3] [(5,.pointer (some ⟨b1,0,none⟩)),(13,v4),(14,v3)] 122 a w') ?_ ?_
   ·refine wp_block (Hb (fun (ys2 : List Jk) a w'=>∃ i2 : Nat,∃ x2 : List Dw,∃ x3 : List Dw,∃ v3 : Value,∃ v4 : Value,(∃ dn,Ag = dn ++ ys2 ∧ dn.length = i2) ∧ Nf x1 j2 ys2 i2 x2 x3 = some r ∧ Sx w [] nov [.own v3 109 4 x2.length (x2.flatMap Dw.enc),.own v4 109 4 x3.length (x3.flatMap Dw.enc),.map b2 (Gn Value.string (Value.int .i64) x1) x1.length,.blk b1 [iV Bv] 3] [(5,.pointer (some ⟨b1,0,none⟩)),(10,.map (some b2)),(13,v4),(14,v3),(42,Ac),(43,iV (Ag.length : Int)),(44,iV (i2 : Int))] 122 a w') List.length Ag ⟨0,([] : List Dw),([] : List Dw),(.slice none 0 0),(.slice none 0 0),⟨[],rfl,rfl⟩,h,S.nf [true,true,true,true] rfl (subR rfl)⟩ ?_)
    clear S h;rintro ys2 a w10 ⟨i2,x2,x3,v3,v4,⟨dn,hd2,hi2⟩,h,S⟩
    cases ys2 with
    | nil =>
     rw [Nf.eq_1] at h
     refine Fr (Vb S Ex rfl rfl rfl fun a S=>Ld ?_)
     replace S:=S.k8 5 10 13 14 42 43 44 45 rfl
     exact Tn (Fs (wp_cond_false ((S.tm rfl).trans (congrArg Value.bool (Io hd2 hi2))) (wp_exit (Ei (Ei (Gp (Tn (⟨x2,x3,v3,v4,h,S.nf [true,true,true,true] rfl (subR rfl)⟩))))))))
    | cons y2 ys2 =>
     rw [Nf.eq_2] at h
     refine Fr (Vb S Ex rfl rfl rfl fun a S=>Ld ?_)
     replace S:=S.k8 5 10 13 14 42 43 44 45 rfl
     refine Tn (Fs (wp_cond_true ((S.tm rfl).trans (congrArg Value.bool (Hv hd2 hi2))) (wp_skip (Tn (Fs ?_)))))
     obtain ⟨j3,hj3,h⟩:=Eu h
     refine En (fun a w'=>∃ x4 : List Dw,∃ x5 : List Dw,∃ v5 : Value,∃ v6 : Value,j3 x4 x5 = some r ∧ Sx w [] nov [.own v5 109 4 x4.length (x4.flatMap Dw.enc),.own v6 109 4 x5.length (x5.flatMap Dw.enc),.map b2 (Gn Value.string (Value.int .i64) x1) x1.length,.blk b1 [iV Bv] 3] [(5,.pointer (some ⟨b1,0,none⟩)),(10,.map (some b2)),(13,v6),(14,v5),(42,Ac),(43,iV (Ag.length : Int)),(44,iV (i2 : Int))] 122 a w') ?_ ?_
     ·refine wp_block (Fs (Fg ?_))
      obtain ⟨b5,o2,hm2,hr4⟩:=Fd (a:=a) (x:=.tmp 42) (y:=.tmp 44) (ty:=0) EY Ae (Iq hd2 hi2) rfl (S.tm rfl) (S.tm rfl)
      refine lv S (hr4 _) rfl ?_;clear S;intro a S
      clear hr4
      refine lv S (Fx isAgg156 sizeOf156 (off:=o2) (o:=0) (part:=(Jk.enc y2)) rfl rfl (S.tm rfl) (hm2.at S.emb0)) rfl fun a S=>Hz S zeroValue156 (cs:=[sV An,iV 0]) rfl rfl ?_;clear S;intro a w13 b6 hz4 hk8 S
      refine Fh S (S.tm rfl) (S.tm rfl) (i:=0) (off:=0) rfl sizeOf156 (vs:=(Jk.enc y2)) rfl rfl rfl rfl ?_;clear S;intro w14 hk9 S
      refine Dz (Vf AX S rfl rfl fun a S=>Vl isAgg9 0 S rfl rfl rfl rfl fun a S=>Vf MG S rfl rfl fun a S=>Vl isAgg3 0 S rfl rfl rfl rfl fun a S=>Vm S rfl rfl fun a S=>Vf AX S rfl rfl fun a S=>Vl isAgg9 0 S rfl rfl rfl rfl ?_);clear S;intro a S
      refine lv S (Pt (kv:=Value.string) (vv:=(Value.int .i64)) (m:=x1) (key:=y2.Who) (z:=0) (S.map_at (i:=3) rfl) underlying89 (Mz underlying9) zeroValue3 (S.tm rfl) (S.tm rfl)) rfl fun a S=>lv S (Mj bt_109 (pv:=[(0,sV y2.Who),(2,iV y2.Time),(3,iV (Ee x1 y2.Who 0))]) ⟨rfl,(S.tm rfl),rfl,(S.tm rfl),rfl,(S.tm rfl),trivial⟩ (cs:=[sV y2.Who,iV 0,iV y2.Time,iV (Ee x1 y2.Who 0)]) (by kernel_rfl)) rfl fun a S=>Hz S zeroValue109 (cs:=[sV An,iV 0,iV 0,iV 0]) rfl rfl ?_;clear S;intro a w15 b7 hz5 hk10 S
      refine Fh S (S.tm rfl) (S.tm rfl) (i:=0) (off:=0) rfl sizeOf109 (vs:=[sV y2.Who,iV 0,iV y2.Time,iV (Ee x1 y2.Who 0)]) rfl rfl rfl rfl ?_;clear S;intro w16 hk11 S
      refine Ld ?_
      replace S:=(S.nl [.blk b7 [sV y2.Who,iV 0,iV y2.Time,iV (Ee x1 y2.Who 0)] 109,.own v3 109 4 x2.length (x2.flatMap Dw.enc),.own v4 109 4 x3.length (x3.flatMap Dw.enc),.map b2 (Gn Value.string (Value.int .i64) x1) x1.length,.blk b1 [iV Bv] 3] [true,false,true,true,true,true] rfl).k8 5 10 13 14 17 42 43 44 rfl
      refine Tn (Fr (Vf MF S rfl rfl fun a S=>Vl isAgg3 0 S rfl rfl rfl rfl fun a S=>Vq S Im rfl rfl rfl fun a S=>Vm S rfl rfl fun a S=>Hj 4 (fun a w'=>Keep [] w16 w' ∧ Sx w [] nov [.blk b7 [sV y2.Who,iV 0,iV y2.Time,iV (Ee x1 y2.Who 0)] 109,.own v3 109 4 x2.length (x2.flatMap Dw.enc),.own v4 109 4 x3.length (x3.flatMap Dw.enc),.map b2 (Gn Value.string (Value.int .i64) x1) x1.length,.blk b1 [iV Bv] 3] [(5,.pointer (some ⟨b1,0,none⟩)),(10,.map (some b2)),(13,v4),(14,v3),(17,.pointer (some ⟨b7,0,none⟩)),(42,Ac),(43,iV (Ag.length : Int)),(44,iV (i2 : Int)),(64,bV ((decide ((Ee x1 y2.Who 0) = 0)) && (decide (0 < y2.Time))))] 122 a w') ?_ ?_))
      ·rcases Bool.eq_false_or_eq_true (decide ((Ee x1 y2.Who 0) = 0)) with hb3 | hb3
       ·exact Ea S rfl rfl rfl hb3 (Vf Ys S rfl rfl fun a S=>Ea S rfl rfl rfl hb3 (Vl isAgg3 0 S rfl rfl rfl rfl fun a S=>Ea S rfl rfl rfl hb3 (Vq S Jh rfl rfl rfl fun a S=>lv S (Hm hb3 (S.tm rfl) (S.tm rfl)) rfl fun a S=>Dl (⟨Keep.refl _ _,S.nf [true,true,true,true,true] rfl (subR rfl)⟩))))
       ·iterate 3 (refine Gt S rfl rfl rfl (Jq hb3) rfl ?_ rfl;clear S;intro a S)
        exact lv S (Hn (decide (0 < y2.Time)) hb3 (S.tm rfl) rfl) rfl fun a S=>Dl (⟨Keep.refl _ _,S.nf [true,true,true,true,true] rfl (subR rfl)⟩)
      clear S;rintro a w17 ⟨hk12,S⟩
      refine Dl ?_
      obtain ⟨j4,hj4,h⟩:=Eu h
      refine En (fun a w'=>∃ x6 : List Dw,∃ x7 : List Dw,∃ v7 : Value,∃ v8 : Value,j4 x6 x7 = some r ∧ Sx w [] nov [.own v7 109 4 x6.length (x6.flatMap Dw.enc),.own v8 109 4 x7.length (x7.flatMap Dw.enc),.map b2 (Gn Value.string (Value.int .i64) x1) x1.length,.blk b1 [iV Bv] 3] [(5,.pointer (some ⟨b1,0,none⟩)),(10,.map (some b2)),(13,v8),(14,v7),(42,Ac),(43,iV (Ag.length : Int)),(44,iV (i2 : Int))] 122 a w') ?_ ?_
      ·refine Fc h (S.tm rfl) (fun hb4 h=>?_) (fun hb4 h=>?_)
       ·refine Fg (Vm S rfl rfl fun a S=>lv S (Fx isAgg109 sizeOf109 (off:=0) (o:=0) (part:=[sV y2.Who,iV 0,iV y2.Time,iV (Ee x1 y2.Who 0)]) rfl rfl (S.tm rfl) (S.cellsAt (i:=0) rfl)) rfl fun a S=>Et S underlying103 sizeOf109 zeroValue109 rfl rfl (pv:=[(0,.agg #[sV y2.Who,iV 0,iV y2.Time,iV (Ee x1 y2.Who 0)])]) ⟨rfl,(S.tm rfl),trivial⟩ (cs:=[sV y2.Who,iV 0,iV y2.Time,iV (Ee x1 y2.Who 0)]) (by kernel_rfl) rfl ?_);clear S;intro a w19 b8 hz6 hk13 S
        obtain ⟨hc1,h⟩:=Ia h
        refine Mb Rq Dw.enc_ok S (S.tm rfl) (i:=3) rfl (S.tm rfl) (j:=0) rfl (ys:=[(Dw.mk y2.Who 0 y2.Time (Ee x1 y2.Who 0))]) rfl rfl rfl rfl (by have:=Mn hc1;omega) rfl ?_;clear S;intro v9 a w20 hk14 S
        refine Va S rfl rfl fun a S=>Ld ?_
        replace S:=(S.nl [.own v3 109 4 x2.length (x2.flatMap Dw.enc),.own v9 109 4 (x3 ++ [(Dw.mk y2.Who 0 y2.Time (Ee x1 y2.Who 0))]).length ((x3 ++ [(Dw.mk y2.Who 0 y2.Time (Ee x1 y2.Who 0))]).flatMap Dw.enc),.map b2 (Gn Value.string (Value.int .i64) x1) x1.length,.blk b1 [iV Bv] 3] [false,false,true,true,true,true] rfl).k7 5 10 13 14 42 43 44 rfl
        exact Tn (⟨x2,(x3 ++ [(Dw.mk y2.Who 0 y2.Time (Ee x1 y2.Who 0))]),v3,v9,h,S.nf [true,true,true,true] rfl (subR rfl)⟩)
       ·refine Fg (Vm S rfl rfl fun a S=>lv S (Fx isAgg109 sizeOf109 (off:=0) (o:=0) (part:=[sV y2.Who,iV 0,iV y2.Time,iV (Ee x1 y2.Who 0)]) rfl rfl (S.tm rfl) (S.cellsAt (i:=0) rfl)) rfl fun a S=>Et S underlying103 sizeOf109 zeroValue109 rfl rfl (pv:=[(0,.agg #[sV y2.Who,iV 0,iV y2.Time,iV (Ee x1 y2.Who 0)])]) ⟨rfl,(S.tm rfl),trivial⟩ (cs:=[sV y2.Who,iV 0,iV y2.Time,iV (Ee x1 y2.Who 0)]) (by kernel_rfl) rfl ?_);clear S;intro a w21 b9 hz7 hk15 S
        obtain ⟨hc2,h⟩:=Ia h
        refine Mb Rq Dw.enc_ok S (S.tm rfl) (i:=2) rfl (S.tm rfl) (j:=0) rfl (ys:=[(Dw.mk y2.Who 0 y2.Time (Ee x1 y2.Who 0))]) rfl rfl rfl rfl (by have:=Mn hc2;omega) rfl ?_;clear S;intro v10 a w22 hk16 S
        refine Va S rfl rfl fun a S=>Ld ?_
        replace S:=(S.nl [.own v10 109 4 (x2 ++ [(Dw.mk y2.Who 0 y2.Time (Ee x1 y2.Who 0))]).length ((x2 ++ [(Dw.mk y2.Who 0 y2.Time (Ee x1 y2.Who 0))]).flatMap Dw.enc),.own v4 109 4 x3.length (x3.flatMap Dw.enc),.map b2 (Gn Value.string (Value.int .i64) x1) x1.length,.blk b1 [iV Bv] 3] [false,false,true,true,true,true] rfl).k7 5 10 13 14 42 43 44 rfl
        exact Tn (⟨(x2 ++ [(Dw.mk y2.Who 0 y2.Time (Ee x1 y2.Who 0))]),x3,v10,v4,h,S.nf [true,true,true,true] rfl (subR rfl)⟩)
      clear S h;rintro a w18 ⟨x6,x7,v7,v8,h,S⟩;rw [hj4] at h;clear hj4 j4
      exact Ho (Tn (⟨x6,x7,v7,v8,h,S.nf [true,true,true,true] rfl (subR rfl)⟩))
     clear S h;rintro a w12 ⟨x4,x5,v5,v6,h,S⟩;rw [hj3] at h;clear hj3 j3
     exact Tn (Fg (Vq S Gf rfl rfl rfl fun a S=>Vm S rfl rfl fun a S=>Dl (⟨ys2,⟨i2 + 1,x4,x5,v5,v6,⟨_,(hd2).trans (List.append_cons _ _ _),by simp [hi2]⟩,h,S.nf [true,true,true,true] rfl ⟨rfl,rfl,rfl,rfl,rfl,rfl,(congrArg (fun z=>some (Value.int .i64 z)) (Hw hd2 hi2 (Jn Ae))),trivial⟩⟩,Nat.lt_succ_self _⟩)))
   clear S h;rintro a w11 ⟨x2,x3,v3,v4,h,S⟩;rw [hj2] at h;clear hj2 j2
   refine Tn (Fr (Vm S rfl rfl fun a S=>lv S (Um (us:=#[]) (xs:=[].toArray) (ys:=[.tmp 5].toArray) (by simp) (evA ⟨(S.tm rfl),trivial⟩ (vs:=[.pointer (some ⟨b1,0,none⟩)]))) rfl ?_));clear S;intro a S
   obtain ⟨r4,hr5,h⟩:=Fb h
   refine Oy 1 S rfl (fun _=>.own v4 109 4 r4.length (r4.flatMap Dw.enc)) (fun _=>Dv (vs:=[v4,.func (.func 121) #[] #[.pointer (some ⟨b1,0,none⟩)]]) ⟨(S.tm rfl),(S.tm rfl),trivial⟩ call120) (Rf _ v4 x3 (S.holds _ (List.mem_of_getElem? (i:=1) rfl)) b1 Bv (S.blk_view (i:=3) rfl ((Mk (i:=1) (j:=3) (e:=.own v4 109 4 x3.length (x3.flatMap Dw.enc)) (e':=.blk b1 [iV Bv] 3) S rfl rfl rfl) _ rfl)) _ hr5) rfl (fun _ _ _ h=>⟨h.1,fun _ hc=>hc⟩) ?_;clear S;intro v11 a w23 hv3 hk17 hn3 S
   replace hv3:=hv3.2
   subst hv3
   refine Dl (Fs (Fr (Vm S rfl rfl fun a S=>lv S (Fz Rq (S.tm rfl) (Pb (S.own_at (i:=1) rfl))) rfl fun a S=>lv S (Rm rfl) rfl fun a S=>Dl ?_)))
   replace S:=(S.nl [.own v3 109 4 x2.length (x2.flatMap Dw.enc),.own v4 109 4 r4.length (r4.flatMap Dw.enc),.blk b1 [iV Bv] 3] [true,true,false,true] rfl).k5 5 13 14 78 79 rfl
   have hm3:=own_max (S.own_at (i:=1) rfl)
   obtain ⟨j5,hj5,h⟩:=Eu h
   refine En (fun a w'=>∃ x8 : List Dw,∃ v12 : Value,j5 x8 = some r ∧ Sx w [] nov [.own v3 109 4 x2.length (x2.flatMap Dw.enc),.own v12 109 4 x8.length (x8.flatMap Dw.enc),.blk b1 [iV Bv] 3] [(13,v12),(14,v3)] 122 a w') ?_ ?_
   ·refine wp_block (Hb (fun (ys3 : List Dw) a w'=>∃ i3 : Nat,∃ x8 : List Dw,∃ v12 : Value,(∃ dn,r4 = dn ++ ys3 ∧ dn.length = i3) ∧ Ng Bv j5 ys3 i3 x8 = some r ∧ Sx w [] nov [.own v3 109 4 x2.length (x2.flatMap Dw.enc),.own v12 109 4 x8.length (x8.flatMap Dw.enc),.blk b1 [iV Bv] 3] [(5,.pointer (some ⟨b1,0,none⟩)),(13,v12),(14,v3),(78,iV (r4.length : Int)),(79,iV (i3 : Int))] 122 a w') List.length r4 ⟨0,r4,v4,⟨[],rfl,rfl⟩,h,S.nf [true,true,true] rfl (subR rfl)⟩ ?_)
    clear S h;rintro ys3 a w24 ⟨i3,x8,v12,⟨dn,hd3,hi3⟩,h,S⟩
    cases ys3 with
    | nil =>
     rw [Ng.eq_1] at h
     refine Fr (Vb S Ex rfl rfl rfl fun a S=>Ld ?_)
     replace S:=S.k6 5 13 14 78 79 80 rfl
     exact Tn (Fs (wp_cond_false ((S.tm rfl).trans (congrArg Value.bool (Io hd3 hi3))) (wp_exit (Ei (Ei (Gp (Tn (⟨x8,v12,h,S.nf [true,true,true] rfl (subR rfl)⟩))))))))
    | cons y3 ys3 =>
     rw [Ng.eq_2] at h
     refine Fr (Vb S Ex rfl rfl rfl fun a S=>Ld ?_)
     replace S:=S.k6 5 13 14 78 79 80 rfl
     refine Tn (Fs (wp_cond_true ((S.tm rfl).trans (congrArg Value.bool (Hv hd3 hi3))) (wp_skip (Tn (Fs ?_)))))
     obtain ⟨j6,hj6,h⟩:=Eu h
     refine En (fun a w'=>∃ x9 : List Dw,j6 x9 = some r ∧ Sx w [] nov [.own v3 109 4 x2.length (x2.flatMap Dw.enc),.own v12 109 4 x9.length (x9.flatMap Dw.enc),.blk b1 [iV Bv] 3] [(5,.pointer (some ⟨b1,0,none⟩)),(13,v12),(14,v3),(78,iV (r4.length : Int)),(79,iV (i3 : Int))] 122 a w') ?_ ?_
     ·refine wp_block (Fr (Vm S rfl rfl fun a S=>Va S rfl rfl fun a S=>Dl (Fs (Hd [] ([]) Tryz.mixed S rfl (by kernel_rfl) ?_))));clear S;intro w27 hk18 hsel S
      refine Kz [0,1,2,3,4,5,6,7,8,9,10,11,12,13,14,15,16,17,18,19] hsel (by kernel_rfl) rfl ?_
      clear hsel
      refine Gk S rfl (Rm (S.tm rfl)) rfl fun a S=>Gk S rfl (Jh (S.tm rfl) rfl) rfl fun a S=>Gk S rfl (Rm (S.tm rfl)) rfl ?_;clear S;intro a S
      obtain ⟨j7,hj7,h⟩:=Eu h
      refine Yl 17 (fun a w'=>∃ c1,j7 c1 = some r ∧ Keep [] w27 w' ∧ Sx w [] nov [.own v3 109 4 x2.length (x2.flatMap Dw.enc),.own v12 109 4 x8.length (x8.flatMap Dw.enc),.blk b1 [iV Bv] 3] [(5,.pointer (some ⟨b1,0,none⟩)),(13,v12),(14,v3),(18,iV (i3 : Int)),(78,iV (r4.length : Int)),(79,iV (i3 : Int)),(101,bV c1)] 122 a w') ?_ ?_
      ·rcases Bool.eq_false_or_eq_true (decide (0 < (i3 : Int))) with hb5 | hb5
       ·replace h:=Qw h hb5
        refine Fm S rfl rfl rfl rfl hb5 (Gv S (Rm (S.tm rfl)) rfl fun a S=>Fm S rfl rfl rfl rfl hb5 (Gv S (Rm (S.tm rfl)) rfl fun a S=>Fm S rfl rfl rfl rfl hb5 ?_))
        obtain ⟨hc3,h⟩:=Ia h
        obtain ⟨b10,hg2,hr6⟩:=Hk (a:=a) (x:=.tmp 85) (y:=.tmp 86) (ty:=0) Rq Dw.enc_ok S (i:=1) rfl (Ed hc3).1 (Ed hc3).2 (S.tm rfl) (S.tm rfl)
        refine Gv S (hr6 _) rfl ?_;clear S;intro a S
        clear hr6
        refine Fm S rfl rfl rfl rfl hb5 (Gv S (Ge Ys (S.tm rfl)) rfl fun a S=>Fm S rfl rfl rfl rfl hb5 (Gv S (Hp isAgg3 (off:=((i3 : Int).toNat) * 4) (o:=2) (S.tm rfl) (Tf Dw.enc_ok S (i:=1) rfl hg2 (Ed hc3).1) rfl) rfl fun a S=>Fm S rfl rfl rfl rfl hb5 (Gv S (Mi isAgg3 (S.tm rfl) (S.cell (i:=2) rfl rfl)) rfl fun a S=>Fm S rfl rfl rfl rfl hb5 ?_)))
        obtain ⟨hc4,h⟩:=Ia h
        refine Gv S (CS (S.tm rfl) (S.tm rfl) (Tr hc4)) rfl fun a S=>Fm S rfl rfl rfl rfl hb5 (Gv S (Rm (S.tm rfl)) rfl fun a S=>Fm S rfl rfl rfl rfl hb5 (Gv S (Rm (S.tm rfl)) rfl fun a S=>Fm S rfl rfl rfl rfl hb5 (Gv S (Ja (S.tm rfl) rfl) rfl fun a S=>Fm S rfl rfl rfl rfl hb5 ?_)))
        obtain ⟨hc5,h⟩:=Ia h
        obtain ⟨b11,hg3,hr7⟩:=Hk (a:=a) (x:=.tmp 92) (y:=.tmp 94) (ty:=0) Rq Dw.enc_ok S (i:=1) rfl (Ed hc5).1 (Ed hc5).2 (S.tm rfl) (S.tm rfl)
        refine Gv S (hr7 _) rfl ?_;clear S;intro a S
        clear hr7
        refine Fm S rfl rfl rfl rfl hb5 (Gv S (Ge Ys (S.tm rfl)) rfl fun a S=>Fm S rfl rfl rfl rfl hb5 (Gv S (Hp isAgg3 (off:=((W ((i3 : Int) - 1)).toNat) * 4) (o:=2) (S.tm rfl) (Tf Dw.enc_ok S (i:=1) rfl hg3 (Ed hc5).1) rfl) rfl fun a S=>Fm S rfl rfl rfl rfl hb5 (Gv S (Mi isAgg3 (S.tm rfl) (S.cell (i:=2) rfl rfl)) rfl fun a S=>Fm S rfl rfl rfl rfl hb5 ?_)))
        obtain ⟨hc6,h⟩:=Ia h
        exact Gv S (CS (S.tm rfl) (S.tm rfl) (Tr hc6)) rfl fun a S=>Fm S rfl rfl rfl rfl hb5 (Gv S (Im (S.tm rfl) (S.tm rfl)) rfl fun a S=>Gk S rfl (Hm hb5 (S.tm rfl) (S.tm rfl)) rfl fun a S=>Ig (⟨_,h,Keep.refl _ _,S.nf [true,true,true] rfl (subR rfl)⟩))
       ·replace h:=Qx h hb5
        iterate 16 (refine Qe S rfl rfl rfl rfl (Jq hb5) rfl ?_ rfl;clear S;intro a S)
        exact Gk S rfl (Hn true hb5 (S.tm rfl) rfl) rfl fun a S=>Ig (⟨_,h,Keep.refl _ _,S.nf [true,true,true] rfl (subR rfl)⟩)
      clear S h;rintro a w28 ⟨c1,h,hk19,S⟩;rw [hj7] at h;clear hj7 j7
      refine Ig ?_
      replace S:=S.k7 5 13 14 18 78 79 101 rfl
      refine Tn ?_
      obtain ⟨j8,hj8,h⟩:=Eu h
      refine En (fun a w'=>∃ x10 : List Dw,j8 x10 = some r ∧ Sx w [] nov [.own v3 109 4 x2.length (x2.flatMap Dw.enc),.own v12 109 4 x10.length (x10.flatMap Dw.enc),.blk b1 [iV Bv] 3] [(5,.pointer (some ⟨b1,0,none⟩)),(13,v12),(14,v3),(78,iV (r4.length : Int)),(79,iV (i3 : Int))] 122 a w') ?_ ?_
      ·refine Fc h (S.tm rfl) (fun hb6 h=>?_) (fun hb6 h=>?_)
       ·refine Fg ?_
        iterate 4 (refine Vm S rfl rfl ?_;clear S;intro a S)
        refine Vq S Ja rfl rfl rfl ?_;clear S;intro a S
        obtain ⟨hc7,h⟩:=Ia h
        obtain ⟨b12,hg4,hr8⟩:=Hk (a:=a) (x:=.tmp 104) (y:=.tmp 106) (ty:=0) Rq Dw.enc_ok S (i:=1) rfl (Ed hc7).1 (Ed hc7).2 (S.tm rfl) (S.tm rfl)
        refine lv S (hr8 _) rfl ?_;clear S;intro a S
        clear hr8
        refine Vf AV S rfl rfl fun a S=>lv S (Hp isAgg3 (off:=((W ((i3 : Int) - 1)).toNat) * 4) (o:=1) (S.tm rfl) (Tf Dw.enc_ok S (i:=1) rfl hg4 (Ed hc7).1) rfl) rfl ?_;clear S;intro a S
        obtain ⟨hc8,h⟩:=Ia h
        obtain ⟨b13,hg5,hr9⟩:=Hk (a:=a) (x:=.tmp 102) (y:=.tmp 103) (ty:=0) Rq Dw.enc_ok S (i:=1) rfl (Ed hc8).1 (Ed hc8).2 (S.tm rfl) (S.tm rfl)
        refine lv S (hr9 _) rfl ?_;clear S;intro a S
        clear hr9
        refine Vf AV S rfl rfl fun a S=>Pv (c:=1) (j:=(i3 : Int).toNat) (Dw.mk ((nth x8 (i3 : Int)).Who) ((nth x8 (W ((i3 : Int) - 1))).Rank) ((nth x8 (i3 : Int)).Time) ((nth x8 (i3 : Int)).Fault)) Dw.enc_ok S (S.tm rfl) (S.tm rfl) (i:=1) rfl hg5 (Ed hc8).1 sizeOf3 (vs:=[iV ((nth x8 (W ((i3 : Int) - 1))).Rank)]) rfl rfl rfl rfl rfl ?_;clear S;intro w31 hk21 S
        refine Ld ?_
        replace S:=(S.nl [.own v3 109 4 x2.length (x2.flatMap Dw.enc),.own v12 109 4 (x8.set ((i3 : Int).toNat) (Dw.mk ((nth x8 (i3 : Int)).Who) ((nth x8 (W ((i3 : Int) - 1))).Rank) ((nth x8 (i3 : Int)).Time) ((nth x8 (i3 : Int)).Fault))).length ((x8.set ((i3 : Int).toNat) (Dw.mk ((nth x8 (i3 : Int)).Who) ((nth x8 (W ((i3 : Int) - 1))).Rank) ((nth x8 (i3 : Int)).Time) ((nth x8 (i3 : Int)).Fault))).flatMap Dw.enc),.blk b1 [iV Bv] 3] [true,true,true] rfl).k5 5 13 14 78 79 rfl
        exact Tn (⟨(x8.set ((i3 : Int).toNat) (Dw.mk ((nth x8 (i3 : Int)).Who) ((nth x8 (W ((i3 : Int) - 1))).Rank) ((nth x8 (i3 : Int)).Time) ((nth x8 (i3 : Int)).Fault))),h,S.nf [true,true,true] rfl (subR rfl)⟩)
       ·refine Fg ?_
        iterate 3 (refine Vm S rfl rfl ?_;clear S;intro a S)
        refine Vq S Gf rfl rfl rfl ?_;clear S;intro a S
        obtain ⟨hc9,h⟩:=Ia h
        obtain ⟨b14,hg6,hr10⟩:=Hk (a:=a) (x:=.tmp 112) (y:=.tmp 113) (ty:=0) Rq Dw.enc_ok S (i:=1) rfl (Ed hc9).1 (Ed hc9).2 (S.tm rfl) (S.tm rfl)
        refine lv S (hr10 _) rfl ?_;clear S;intro a S
        clear hr10
        refine Vf AV S rfl rfl fun a S=>Pv (c:=1) (j:=(i3 : Int).toNat) (Dw.mk ((nth x8 (i3 : Int)).Who) (W ((i3 : Int) + 1)) ((nth x8 (i3 : Int)).Time) ((nth x8 (i3 : Int)).Fault)) Dw.enc_ok S (S.tm rfl) (S.tm rfl) (i:=1) rfl hg6 (Ed hc9).1 sizeOf3 (vs:=[iV (W ((i3 : Int) + 1))]) rfl rfl rfl rfl rfl ?_;clear S;intro w33 hk23 S
        exact Dl (⟨(x8.set ((i3 : Int).toNat) (Dw.mk ((nth x8 (i3 : Int)).Who) (W ((i3 : Int) + 1)) ((nth x8 (i3 : Int)).Time) ((nth x8 (i3 : Int)).Fault))),h,S.nf [true,true,true] rfl (subR rfl)⟩)
      clear S h;rintro a w29 ⟨x10,h,S⟩;rw [hj8] at h;clear hj8 j8
      exact Ho (Tn (⟨x10,h,S.nf [true,true,true] rfl (subR rfl)⟩))
     clear S h;rintro a w26 ⟨x9,h,S⟩;rw [hj6] at h;clear hj6 j6
     exact Tn (Fg (Vq S Gf rfl rfl rfl fun a S=>Vm S rfl rfl fun a S=>Dl (⟨ys3,⟨i3 + 1,x9,v12,⟨_,(hd3).trans (List.append_cons _ _ _),by simp [hi3]⟩,h,S.nf [true,true,true] rfl ⟨rfl,rfl,rfl,rfl,(congrArg (fun z=>some (Value.int .i64 z)) (Hw hd3 hi3 hm3)),trivial⟩⟩,Nat.lt_succ_self _⟩)))
   clear S h;rintro a w25 ⟨x8,v12,h,S⟩;rw [hj5] at h;clear hj5 j5
   refine Tn (Fr (Vm S rfl rfl fun a S=>Vm S rfl rfl ?_));clear S;intro a S
   obtain ⟨hc10,h⟩:=Ia h
   refine ET (Y:=[]) Rq Dw.enc_ok S (S.tm rfl) (i:=1) rfl (S.tm rfl) (Xi Dw.enc_ok S (i:=0) rfl (fun _ _ h=>by cases h)) rfl rfl (by have:=Mn hc10;omega) rfl ?_;clear S;intro v13 a w34 hk24 S
   refine Va S rfl rfl fun a S=>Vk S rfl rfl fun a S=>Dl (wp_ret ?_)
   obtain rfl:=Option.some.inj h
   exact Lq S results102 rfl rfl ⟨_,rfl,(Sw S (i:=1) rfl rfl)⟩
theorem IJ (w : World) (Ac : Value) (Ag : List Jk) (Ae : Slc (view w []) 2 Ac (Ag.map Jk.enc)) (By : Value) (Bz : List Ib) (Cj : List Sf) (Cc : Slc (view w []) 3 By (Cj.map Sf.enc)) (Cd : La (Uh (view w [])) Bz Cj) (r : (List Dw) × Int) (h : Vw Ag Bz = some r) :
    Calls prog 81 [Ac,By].toArray w (Ret w [] fun τ v _=>∃ u1 : Value,v = .tuple #[u1,iV r.2] ∧ Td τ 109 4 u1 r.1.length (r.1.flatMap Dw.enc)):=by
 refine Fe func81 rfl ntmps81 rfl fun a S=>?_
 unfold Vw at h
 replace S:=S.k2 0 1 rfl
 refine Fr (Vk S rfl rfl fun a S=>Vk S rfl rfl fun a S=>Dz (Vm S rfl rfl fun a S=>Vm S rfl rfl ?_));clear S;intro a S
 obtain ⟨r1,hr1,h⟩:=Fb h
 have hz1:=S.keep.size
 refine Ec S (fun _=>Dv (vs:=[Ac,By,iV 1]) ⟨(S.tm rfl),(S.tm rfl),rfl,trivial⟩ call102) (II _ Ac Ag (Ae.mono (S.le_arg Ej)) By Bz Cj (Cc.mono (S.le_arg Ej)) (HA (S.le_arg Ej) Cd) 1 _ hr1) rfl ?_;clear S;intro v1 a w1 hv1 hk1 hn1 S
 obtain ⟨u1,rfl,ho1⟩:=hv1
 obtain ⟨φ1,hl1,hm1,S⟩:=S.see' hn1 hz1
 have hs1:=ho1.mono hm1
 refine Vq S Gx rfl rfl rfl fun a S=>Vq S Gx rfl rfl rfl fun a S=>Va S rfl rfl fun a S=>Va S rfl rfl fun a S=>Dl (wp_ret ?_)
 obtain rfl:=Option.some.inj h
 exact Lq S results81 rfl rfl ⟨_,rfl,((hs1).mono S.le_newer)⟩
theorem GD (w : World) (O : Nat) (Ah : Mp) (Br : R32) (Bw : Tv (view w []) Ah Br) (Au : Value) (Ai : List Dt) (Be : Slc (view w []) 11 Au (Ai.map Dt.enc)) (As : (view w []) O = some (.cells (R32.enc Br ++ [Au]).toArray 99 (0,0))) (Ax : ByteArray) (r : (List Dw) × (List (ByteArray × ByteArray)) × Int) (h : Vd Ah Ai Ax = some r) :
    Calls prog 43 [.pointer (some ⟨O,0,none⟩),sV Ax].toArray w (Ret w [] fun τ v _=>∃ u1 : Value,∃ u2 : Value,v = .tuple #[u1,u2,iV r.2.2] ∧ Td τ 109 4 u1 r.1.length (r.1.flatMap Dw.enc) ∧ (∃ b : Nat,u2 = .map (some b) ∧ τ b = some (.map (Gn Value.string Value.string r.2.1) r.2.1.length))):=by
 obtain ⟨u1,u2,rfl,hs1,⟨u3,rfl,hs2⟩⟩:=Bw
 replace As : (view w []) O = some (.cells [u1.val,u3.val,iV Ah.Table.Relay,iV Ah.Table.Most,iV Ah.Final.Size,iV Ah.Final.Many,iV Ah.Final.Reserves,Au].toArray 99 (0,0)):=As
 refine Fe func43 rfl ntmps43 rfl fun a S=>?_
 unfold Vd at h
 replace S:=S.k2 0 1 rfl
 refine Fs (Fg ?_)
 iterate 3 (refine Vk S rfl rfl ?_;clear S;intro a S)
 refine Dz (Vm S rfl rfl fun a S=>Vm S rfl rfl ?_);clear S;intro a S
 have hz1:=S.keep.size
 refine Ec S (fun _=>Dv (vs:=[.pointer (some ⟨O,0,none⟩),sV Ax]) ⟨(S.tm rfl),(S.tm rfl),trivial⟩ call80) (IH _ O Ah (R32.mk u1 (R28.mk u3 Ah.Table.Relay Ah.Table.Most) Ah.Final) ⟨u1,(R28.mk u3 Ah.Table.Relay Ah.Table.Most),rfl,(hs1.mono (S.le_arg Ej)),⟨u3,rfl,(hs2.mono (S.le_arg Ej))⟩⟩ Au Ai (Be.mono (S.le_arg Ej)) ((S.le_arg Ej) _ _ As) Ax _ rfl) rfl ?_;clear S;intro v1 a w1 hv1 hk1 hn1 S
 obtain ⟨φ1,hl1,hm1,S⟩:=S.see' hn1 hz1
 obtain ⟨b1,rfl,hq1⟩:=hv1
 replace hq1:=hm1 _ _ hq1
 refine Va S rfl rfl fun a S=>Dz (Rk (κ:=ByteArray) (ν:=ByteArray) S rfl Value.string Value.string ?_);clear S;intro a w2 b2 hz2 hk2 S
 refine Va S rfl rfl fun a S=>Dz (Vk S rfl rfl ?_);clear S;intro a S
 replace S:=S.nil 156 2
 refine Dz (Vk S rfl rfl ?_);clear S;intro a S
 replace S:=S.nil 158 3
 refine Dl (Fs (Fr (Vm S rfl rfl fun a S=>Vm S rfl rfl ?_)));clear S;intro a S
 obtain ⟨r1,hr1,h⟩:=Fb h
 have hz3:=S.keep.size
 refine Ec S (fun _=>Dv (vs:=[.pointer (some ⟨O,0,none⟩),sV Ax]) ⟨(S.tm rfl),(S.tm rfl),trivial⟩ call79) (Yw _ O Ah (R32.mk u1 (R28.mk u3 Ah.Table.Relay Ah.Table.Most) Ah.Final) ⟨u1,(R28.mk u3 Ah.Table.Relay Ah.Table.Most),rfl,(hs1.mono (S.le_arg Ej)),⟨u3,rfl,(hs2.mono (S.le_arg Ej))⟩⟩ Au Ai (Be.mono (S.le_arg Ej)) ((S.le_arg Ej) _ _ As) Ax _ hr1) rfl ?_;clear S;intro v2 a w3 hv2 hk3 hn2 S
 obtain ⟨φ2,hl2,hm2,S⟩:=S.see' hn2 hz3
 have hs3:=hv2.mono hm2
 refine lv S (Fz Ni (S.tm rfl) (Fl (He Dt.enc_ok hs3))) rfl fun a S=>lv S (Rm rfl) rfl fun a S=>Ld ?_
 replace S:=(S.nl [.own (.slice none 0 0) 158 3 ([] : List Sf).length (([] : List Sf).flatMap Sf.enc),.own (.slice none 0 0) 156 2 ([] : List Jk).length (([] : List Jk).flatMap Jk.enc),.map b2 (Gn Value.string Value.string ([] : List (ByteArray × ByteArray))) ([] : List (ByteArray × ByteArray)).length] [true,true,true] rfl).k7 7 8 9 10 23 24 25 rfl
 refine Tn ?_
 obtain ⟨j1,hj1,h⟩:=Eu h
 refine En (fun a w'=>∃ x1 : List Ib,∃ x2 : List Jk,∃ x3 : List (ByteArray × ByteArray),∃ v3 : Value,∃ rs1 : List Sf,∃ v4 : Value,j1 x1 x2 x3 = some r ∧ La (Uh φ2) x1 rs1 ∧ Sx w [] φ2 [.own v3 158 3 rs1.length (rs1.flatMap Sf.enc),.own v4 156 2 x2.length (x2.flatMap Jk.enc),.map b2 (Gn Value.string Value.string x3) x3.length] [(8,.map (some b2)),(9,v4),(10,v3)] 72 a w') ?_ ?_
 ·refine wp_block (Hb (fun (ys1 : List Dt) a w'=>∃ i1 : Nat,∃ x1 : List Ib,∃ x2 : List Jk,∃ x3 : List (ByteArray × ByteArray),∃ v3 : Value,∃ rs1 : List Sf,∃ v4 : Value,(∃ dn,r1 = dn ++ ys1 ∧ dn.length = i1) ∧ Lw Ah Ai Ax j1 ys1 i1 x1 x2 x3 = some r ∧ La (Uh φ2) x1 rs1 ∧ Sx w [] φ2 [.own v3 158 3 rs1.length (rs1.flatMap Sf.enc),.own v4 156 2 x2.length (x2.flatMap Jk.enc),.map b2 (Gn Value.string Value.string x3) x3.length] [(7,.map (some b1)),(8,.map (some b2)),(9,v4),(10,v3),(23,v2),(24,iV (r1.length : Int)),(25,iV (i1 : Int))] 72 a w') List.length r1 ⟨0,([] : List Ib),([] : List Jk),([] : List (ByteArray × ByteArray)),(.slice none 0 0),([] : List Sf),(.slice none 0 0),⟨[],rfl,rfl⟩,h,.nil,S.nf [true,true,true] rfl (subR rfl)⟩ ?_)
  clear S h;rintro ys1 a w4 ⟨i1,x1,x2,x3,v3,rs1,v4,⟨dn,hd1,hi1⟩,h,hr2,S⟩
  cases ys1 with
  | nil =>
   rw [Lw.eq_1] at h
   refine Fr (Vb S Ex rfl rfl rfl fun a S=>Ld ?_)
   replace S:=S.k8 7 8 9 10 23 24 25 26 rfl
   exact Tn (Fs (wp_cond_false ((S.tm rfl).trans (congrArg Value.bool (Io hd1 hi1))) (wp_exit (Ei (Ei (Gp (Tn (⟨x1,x2,x3,v3,rs1,v4,h,hr2,S.nf [true,true,true] rfl (subR rfl)⟩))))))))
  | cons y1 ys1 =>
   rw [Lw.eq_2] at h
   refine Fr (Vb S Ex rfl rfl rfl fun a S=>Ld ?_)
   replace S:=S.k8 7 8 9 10 23 24 25 26 rfl
   refine Tn (Fs (wp_cond_true ((S.tm rfl).trans (congrArg Value.bool (Hv hd1 hi1))) (wp_skip (Tn (Fs ?_)))))
   obtain ⟨j2,hj2,h⟩:=Eu h
   refine En (fun a w'=>∃ x4 : List Ib,∃ x5 : List Jk,∃ x6 : List (ByteArray × ByteArray),∃ v5 : Value,∃ rs2 : List Sf,∃ v6 : Value,j2 x4 x5 x6 = some r ∧ La (Uh φ2) x4 rs2 ∧ Sx w [] φ2 [.own v5 158 3 rs2.length (rs2.flatMap Sf.enc),.own v6 156 2 x5.length (x5.flatMap Jk.enc),.map b2 (Gn Value.string Value.string x6) x6.length] [(7,.map (some b1)),(8,.map (some b2)),(9,v6),(10,v5),(23,v2),(24,iV (r1.length : Int)),(25,iV (i1 : Int))] 72 a w') ?_ ?_
   ·refine wp_block (Fs (Fg ?_))
    obtain ⟨b3,o1,hm3,hr4⟩:=Fd (a:=a) (x:=.tmp 23) (y:=.tmp 25) (ty:=0) Ni (He Dt.enc_ok hs3) (Iq hd1 hi1) rfl (S.tm rfl) (S.tm rfl)
    refine lv S (hr4 _) rfl ?_;clear S;intro a S
    clear hr4
    refine lv S (Fx isAgg38 sizeOf38 (off:=o1) (o:=0) (part:=(Dt.enc y1)) rfl rfl (S.tm rfl) (hm3.at S.emb)) rfl fun a S=>Hz S zeroValue38 (cs:=[sV An,iV 0,iV 0,iV 0,sV An,sV An,sV An,iV 0,iV 0,sV An,iV 0]) rfl rfl ?_;clear S;intro a w7 b4 hz4 hk4 S
    refine Fh S (S.tm rfl) (S.tm rfl) (i:=0) (off:=0) rfl sizeOf38 (vs:=(Dt.enc y1)) rfl rfl rfl rfl ?_;clear S;intro w8 hk5 S
    refine Dz (Vm S rfl rfl fun a S=>Vf Ou S rfl rfl fun a S=>Vl isAgg9 0 S rfl rfl rfl rfl fun a S=>lv S (GX (kv:=Value.string) (vv:=(fun x=>Value.agg (Dt.enc x).toArray)) (m:=(Hq Ah Ai Ax)) (key:=y1.Who) (z:=(Dt.mk An 0 0 0 An An An 0 0 An 0)) (S.emb _ _ (hl2 _ _ hq1)) underlying150 (Mz underlying9) zeroValue38 (S.tm rfl) (S.tm rfl)) rfl fun a S=>Vm S rfl rfl fun a S=>Vq S Gx rfl rfl rfl fun a S=>Vq S Gx rfl rfl rfl ?_);clear S;intro a S
    refine Hz S zeroValue38 (cs:=[sV An,iV 0,iV 0,iV 0,sV An,sV An,sV An,iV 0,iV 0,sV An,iV 0]) rfl rfl ?_;clear S;intro a w9 b5 hz5 hk6 S
    refine Fh S (S.tm rfl) (S.tm rfl) (i:=0) (off:=0) rfl sizeOf38 (vs:=(Dt.enc (Ee (Hq Ah Ai Ax) y1.Who (Dt.mk An 0 0 0 An An An 0 0 An 0)))) rfl rfl rfl rfl ?_;clear S;intro w10 hk7 S
    refine Va S rfl rfl fun a S=>Ld ?_
    replace S:=(S.nl [.blk b5 (Dt.enc (Ee (Hq Ah Ai Ax) y1.Who (Dt.mk An 0 0 0 An An An 0 0 An 0))) 38,.blk b4 (Dt.enc y1) 38,.own v3 158 3 rs1.length (rs1.flatMap Sf.enc),.own v4 156 2 x2.length (x2.flatMap Jk.enc),.map b2 (Gn Value.string Value.string x3) x3.length] [true,true,true,true,true] rfl).k10 7 8 9 10 12 13 14 23 24 25 rfl
    refine Tn (Fs (Fr (Vm S rfl rfl fun a S=>Vu S Hh rfl rfl fun a S=>Dl (Fc h (S.tm rfl) (fun hb1 h=>?_) (fun hb1 h=>?_)))))
    ·exact wp_exit (Ei (Gp (Tn (⟨x1,x2,x3,v3,rs1,v4,h,hr2,S.nf [false,false,true,true,true] rfl (subR rfl)⟩))))
    ·refine wp_skip (Tn (Fr (Vm S rfl rfl fun a S=>Vf Ou S rfl rfl fun a S=>Vl isAgg9 1 S rfl rfl rfl rfl fun a S=>Vf Vj S rfl rfl fun a S=>Vl isAgg9 1 S rfl rfl rfl rfl fun a S=>Ox (kv:=Value.string) (vv:=Value.string) (m:=x3) (key:=y1.Who) (val:=y1.Club) S (i:=4) rfl underlying104 (Mz underlying9) (S.tm rfl) (S.tm rfl) (S.tm rfl) ?_)));clear S;intro w11 hk8 S
     refine Ld ?_
     replace S:=(S.nl [.blk b5 (Dt.enc (Ee (Hq Ah Ai Ax) y1.Who (Dt.mk An 0 0 0 An An An 0 0 An 0))) 38,.blk b4 (Dt.enc y1) 38,.own v3 158 3 rs1.length (rs1.flatMap Sf.enc),.own v4 156 2 x2.length (x2.flatMap Jk.enc),.map b2 (Gn Value.string Value.string (Gj x3 y1.Who y1.Club)) (Gj x3 y1.Who y1.Club).length] [true,true,true,true,true] rfl).k9 7 8 9 10 12 13 23 24 25 rfl
     refine Tn (Fr (Vm S rfl rfl fun a S=>Vf Ou S rfl rfl fun a S=>Vl isAgg9 1 S rfl rfl rfl rfl fun a S=>Vf Uj S rfl rfl fun a S=>Vl isAgg3 0 S rfl rfl rfl rfl fun a S=>lv S (Mj bt_156 (pv:=[(0,sV y1.Who),(1,iV ((Ee (Hq Ah Ai Ax) y1.Who (Dt.mk An 0 0 0 An An An 0 0 An 0)).Time))]) ⟨rfl,(S.tm rfl),rfl,(S.tm rfl),trivial⟩ (cs:=[sV y1.Who,iV ((Ee (Hq Ah Ai Ax) y1.Who (Dt.mk An 0 0 0 An An An 0 0 An 0)).Time)]) (by kernel_rfl)) rfl fun a S=>Et S underlying152 sizeOf156 zeroValue156 rfl rfl (pv:=[(0,.agg #[sV y1.Who,iV ((Ee (Hq Ah Ai Ax) y1.Who (Dt.mk An 0 0 0 An An An 0 0 An 0)).Time)])]) ⟨rfl,(S.tm rfl),trivial⟩ (cs:=[sV y1.Who,iV ((Ee (Hq Ah Ai Ax) y1.Who (Dt.mk An 0 0 0 An An An 0 0 An 0)).Time)]) (by kernel_rfl) rfl ?_));clear S;intro a w12 b6 hz6 hk9 S
     obtain ⟨hc1,h⟩:=Ia h
     refine Mb EY Jk.enc_ok S (S.tm rfl) (i:=4) rfl (S.tm rfl) (j:=0) rfl (ys:=[(Jk.mk y1.Who ((Ee (Hq Ah Ai Ax) y1.Who (Dt.mk An 0 0 0 An An An 0 0 An 0)).Time))]) rfl rfl rfl rfl (by have:=Mn hc1;omega) rfl ?_;clear S;intro v7 a w13 hk10 S
     refine Va S rfl rfl fun a S=>Ld ?_
     replace S:=(S.nl [.blk b5 (Dt.enc (Ee (Hq Ah Ai Ax) y1.Who (Dt.mk An 0 0 0 An An An 0 0 An 0))) 38,.blk b4 (Dt.enc y1) 38,.own v3 158 3 rs1.length (rs1.flatMap Sf.enc),.own v7 156 2 (x2 ++ [(Jk.mk y1.Who ((Ee (Hq Ah Ai Ax) y1.Who (Dt.mk An 0 0 0 An An An 0 0 An 0)).Time))]).length ((x2 ++ [(Jk.mk y1.Who ((Ee (Hq Ah Ai Ax) y1.Who (Dt.mk An 0 0 0 An An An 0 0 An 0)).Time))]).flatMap Jk.enc),.map b2 (Gn Value.string Value.string (Gj x3 y1.Who y1.Club)) (Gj x3 y1.Who y1.Club).length] [false,true,true,true,true,true] rfl).k9 7 8 9 10 12 13 23 24 25 rfl
     refine Tn (Fr (Vf Wf S rfl rfl fun a S=>Vl isAgg3 0 S rfl rfl rfl rfl fun a S=>Vq S Jh rfl rfl rfl fun a S=>Dl ?_))
     obtain ⟨j3,hj3,h⟩:=Eu h
     refine En (fun a w'=>∃ x7 : List Ib,∃ v8 : Value,∃ rs3 : List Sf,j3 x7 = some r ∧ La (Uh φ2) x7 rs3 ∧ Sx w [] φ2 [.own v8 158 3 rs3.length (rs3.flatMap Sf.enc),.own v7 156 2 (x2 ++ [(Jk.mk y1.Who ((Ee (Hq Ah Ai Ax) y1.Who (Dt.mk An 0 0 0 An An An 0 0 An 0)).Time))]).length ((x2 ++ [(Jk.mk y1.Who ((Ee (Hq Ah Ai Ax) y1.Who (Dt.mk An 0 0 0 An An An 0 0 An 0)).Time))]).flatMap Jk.enc),.map b2 (Gn Value.string Value.string (Gj x3 y1.Who y1.Club)) (Gj x3 y1.Who y1.Club).length] [(7,.map (some b1)),(8,.map (some b2)),(9,v7),(10,v8),(23,v2),(24,iV (r1.length : Int)),(25,iV (i1 : Int))] 72 a w') ?_ ?_
     ·refine Fc h (S.tm rfl) (fun hb2 h=>?_) (fun hb2 h=>?_)
      ·refine Fg (Vm S rfl rfl fun a S=>Vf Ou S rfl rfl fun a S=>Vl isAgg9 1 S rfl rfl rfl rfl fun a S=>Vf Wf S rfl rfl fun a S=>Vl isAgg3 0 S rfl rfl rfl rfl fun a S=>lv S (Mj bt_158 (pv:=[(0,sV y1.Who),(1,iV ((Ee (Hq Ah Ai Ax) y1.Who (Dt.mk An 0 0 0 An An An 0 0 An 0)).Fault))]) ⟨rfl,(S.tm rfl),rfl,(S.tm rfl),trivial⟩ (cs:=[sV y1.Who,iV ((Ee (Hq Ah Ai Ax) y1.Who (Dt.mk An 0 0 0 An An An 0 0 An 0)).Fault),.slice none 0 0]) (by kernel_rfl)) rfl fun a S=>Et S underlying153 sizeOf158 zeroValue158 rfl rfl (pv:=[(0,.agg #[sV y1.Who,iV ((Ee (Hq Ah Ai Ax) y1.Who (Dt.mk An 0 0 0 An An An 0 0 An 0)).Fault),.slice none 0 0])]) ⟨rfl,(S.tm rfl),trivial⟩ (cs:=[sV y1.Who,iV ((Ee (Hq Ah Ai Ax) y1.Who (Dt.mk An 0 0 0 An An An 0 0 An 0)).Fault),.slice none 0 0]) (by kernel_rfl) rfl ?_);clear S;intro a w15 b7 hz7 hk11 S
       obtain ⟨hc2,h⟩:=Ia h
       have hr6 : La (Uh φ2) (x1 ++ [(Ib.mk y1.Who ((Ee (Hq Ah Ai Ax) y1.Who (Dt.mk An 0 0 0 An An An 0 0 An 0)).Fault) ([] : List ByteArray))]) (rs1 ++ [(Sf.mk y1.Who ((Ee (Hq Ah Ai Ax) y1.Who (Dt.mk An 0 0 0 An An An 0 0 An 0)).Fault) ⟨.slice none 0 0,rfl⟩)]):=La.app hr2 (La.cons ⟨⟨.slice none 0 0,rfl⟩,rfl,(GJ _ _)⟩ La.nil)
       refine Mb CW Sf.enc_ok S (S.tm rfl) (i:=3) rfl (S.tm rfl) (j:=0) rfl (ys:=[(Sf.mk y1.Who ((Ee (Hq Ah Ai Ax) y1.Who (Dt.mk An 0 0 0 An An An 0 0 An 0)).Fault) ⟨.slice none 0 0,rfl⟩)]) rfl rfl rfl rfl (by have:=Mn hc2;have:=La.len hr2;simp at this ⊢;omega) rfl ?_;clear S;intro v9 a w16 hk12 S
       refine Va S rfl rfl fun a S=>Ld ?_
       replace S:=(S.nl [.own v9 158 3 (rs1 ++ [(Sf.mk y1.Who ((Ee (Hq Ah Ai Ax) y1.Who (Dt.mk An 0 0 0 An An An 0 0 An 0)).Fault) ⟨.slice none 0 0,rfl⟩)]).length ((rs1 ++ [(Sf.mk y1.Who ((Ee (Hq Ah Ai Ax) y1.Who (Dt.mk An 0 0 0 An An An 0 0 An 0)).Fault) ⟨.slice none 0 0,rfl⟩)]).flatMap Sf.enc),.own v7 156 2 (x2 ++ [(Jk.mk y1.Who ((Ee (Hq Ah Ai Ax) y1.Who (Dt.mk An 0 0 0 An An An 0 0 An 0)).Time))]).length ((x2 ++ [(Jk.mk y1.Who ((Ee (Hq Ah Ai Ax) y1.Who (Dt.mk An 0 0 0 An An An 0 0 An 0)).Time))]).flatMap Jk.enc),.map b2 (Gn Value.string Value.string (Gj x3 y1.Who y1.Club)) (Gj x3 y1.Who y1.Club).length] [false,false,false,true,true,true] rfl).k7 7 8 9 10 23 24 25 rfl
       exact Tn (⟨(x1 ++ [(Ib.mk y1.Who ((Ee (Hq Ah Ai Ax) y1.Who (Dt.mk An 0 0 0 An An An 0 0 An 0)).Fault) ([] : List ByteArray))]),v9,(rs1 ++ [(Sf.mk y1.Who ((Ee (Hq Ah Ai Ax) y1.Who (Dt.mk An 0 0 0 An An An 0 0 An 0)).Fault) ⟨.slice none 0 0,rfl⟩)]),h,hr6,S.nf [true,true,true] rfl (subR rfl)⟩)
      ·exact wp_skip (Tn (⟨x1,v3,rs1,h,hr2,S.nf [false,false,true,true,true] rfl (subR rfl)⟩))
     clear S h;rintro a w14 ⟨x7,v8,rs3,h,hr5,S⟩;rw [hj3] at h;clear hj3 j3
     exact Ho (Tn (⟨x7,(x2 ++ [(Jk.mk y1.Who ((Ee (Hq Ah Ai Ax) y1.Who (Dt.mk An 0 0 0 An An An 0 0 An 0)).Time))]),(Gj x3 y1.Who y1.Club),v8,rs3,v7,h,hr5,S.nf [true,true,true] rfl (subR rfl)⟩))
   clear S h;rintro a w6 ⟨x4,x5,x6,v5,rs2,v6,h,hr3,S⟩;rw [hj2] at h;clear hj2 j2
   exact Tn (Fg (Vq S Gf rfl rfl rfl fun a S=>Vm S rfl rfl fun a S=>Dl (⟨ys1,⟨i1 + 1,x4,x5,x6,v5,rs2,v6,⟨_,(hd1).trans (List.append_cons _ _ _),by simp [hi1]⟩,h,hr3,S.nf [true,true,true] rfl ⟨rfl,rfl,rfl,rfl,rfl,rfl,(congrArg (fun z=>some (Value.int .i64 z)) (Hw hd1 hi1 (Jn (He Dt.enc_ok hs3)))),trivial⟩⟩,Nat.lt_succ_self _⟩)))
 clear S h;rintro a w5 ⟨x1,x2,x3,v3,rs1,v4,h,hr2,S⟩;rw [hj1] at h;clear hj1 j1
 refine Tn (Fr (Vm S rfl rfl fun a S=>Vm S rfl rfl ?_));clear S;intro a S
 obtain ⟨r2,hr7,h⟩:=Fb h
 have hz8:=S.keep.size
 refine Ec S (fun _=>Dv (vs:=[v4,v3]) ⟨(S.tm rfl),(S.tm rfl),trivial⟩ call81) (IJ _ v4 x2 (Xi Jk.enc_ok S (i:=1) rfl (Hr (e':=.own v4 156 2 x2.length (x2.flatMap Jk.enc)))) v3 x1 rs1 (Xi Sf.enc_ok S (i:=0) rfl (Hr (e':=.own v3 158 3 rs1.length (rs1.flatMap Sf.enc)))) (HA (S.le_new Ej) hr2) _ hr7) rfl ?_;clear S;intro v10 a w17 hv3 hk13 hn3 S
 obtain ⟨u6,rfl,ho3⟩:=hv3
 obtain ⟨φ3,hl3,hm4,S⟩:=S.see' hn3 hz8
 have hs4:=ho3.mono hm4
 refine Vm S rfl rfl fun a S=>Vq S Gx rfl rfl rfl fun a S=>Vq S Gx rfl rfl rfl fun a S=>Va S rfl rfl fun a S=>Va S rfl rfl fun a S=>Dl (Fs (Fg ?_))
 iterate 3 (refine Vm S rfl rfl ?_;clear S;intro a S)
 iterate 3 (refine Va S rfl rfl ?_;clear S;intro a S)
 refine Ld ?_
 replace S:=S.d1.d0.k3 4 5 6 rfl
 refine Tn (wp_ret ?_)
 obtain rfl:=Option.some.inj h
 exact f_ret3 S results43 rfl rfl rfl ⟨_,_,rfl,((hs4).mono S.le_newer),⟨_,rfl,S.map_ret (i:=0) rfl rfl⟩⟩
end Go.Proofs.YtjlcjcabljbolaaGreatDoor
