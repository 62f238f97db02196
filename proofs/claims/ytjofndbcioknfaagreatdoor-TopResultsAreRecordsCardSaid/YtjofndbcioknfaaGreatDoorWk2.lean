/- Each Go function computes its plain twin,by program. -/
import Derived.Test.YtjofndbcioknfaaGreatDoorWk1
namespace Go.Proofs.YtjofndbcioknfaaGreatDoor
open Go
open Go.Proofs.Tryz
set_option maxRecDepth 20000 in
theorem GM (w : World) (Ac : Eg) (r : Int) (h : Rs Ac = some r) :
    Calls prog 118 [.agg (Eg.enc Ac).toArray].toArray w (Ret w [] fun _ v _=>v = iV r):=by
 refine Fe func118 rfl ntmps118 rfl fun a S=>?_
 unfold Rs at h
 replace S:=S.k1 0 rfl
 refine Fr (Mk S (S.tm rfl) (cs:=(Eg.enc Ac)) rfl rfl ?_);clear S;intro a w1 b1 hz1 hk1 S
 refine Vk S rfl rfl fun a S=>Dl (Fs (wp_block (Fr (Vf Rd S rfl rfl fun a S=>Vl isAgg9 0 S rfl rfl rfl rfl ?_))));clear S;intro a S
 obtain ⟨r1,hr1,h⟩:=Ga h
 refine Er S (fun _=>Ei (vs:=[sV Ac.Site]) ⟨(S.tm rfl),trivial⟩ call107) (Jp _ Ac.Site _ hr1) rfl ?_;clear S;intro v1 a w2 hv1 hk2 hn1 S
 subst hv1
 refine Vu S Ig rfl rfl fun a S=>Va S rfl rfl fun a S=>Dl (Fc h (S.tm rfl) (fun hb1 h=>?_) (fun hb1 h=>?_))
 ·refine Fr (Vk S rfl rfl fun a S=>Dl (wp_ret (Gg (Ek ?_))))
  obtain rfl:=Option.some.inj h
  exact Fd S results118 rfl rfl
 ·refine Fr (Vf Tl S rfl rfl fun a S=>Vl isAgg3 0 S rfl rfl rfl rfl fun a S=>Er S (fun _=>Ei (vs:=[iV Ac.No,iV 1,iV 1000000]) ⟨(S.tm rfl),rfl,rfl,trivial⟩ call65) (Gl _ Ac.No 1 1000000 _ rfl) rfl ?_);clear S;intro v2 a w3 hv2 hk3 hn2 S
  subst hv2
  refine Vu S Ig rfl rfl fun a S=>Vm S rfl rfl fun a S=>Io 5 (fun a w'=>Keep [] w3 w' ∧ Sx w [] nov [.blk b1 (Eg.enc Ac) 101] [(1,.pointer (some ⟨b1,0,none⟩)),(22,bV ((!(El Ac.No 1 1000000)) || (!(Ji Ac.At))))] 152 a w') ?_ ?_
  ·rcases Bool.eq_false_or_eq_true (!(El Ac.No 1 1000000)) with hb2 | hb2
   ·iterate 4 (refine Hk S rfl rfl rfl (Ng hb2) rfl ?_ rfl;clear S;intro a S)
    exact lv S (Lk (!(Ji Ac.At)) hb2 (S.tm rfl) rfl) rfl fun a S=>Dl (⟨Keep.refl _ _,S.nf [true] rfl (subR rfl)⟩)
   ·refine Em S rfl rfl rfl hb2 (Vf Ul S rfl rfl fun a S=>Em S rfl rfl rfl hb2 (Vl isAgg3 0 S rfl rfl rfl rfl fun a S=>Em S rfl rfl rfl hb2 (Er S (fun _=>Ei (vs:=[iV Ac.At]) ⟨(S.tm rfl),trivial⟩ call62) (Sq _ Ac.At _ rfl) rfl ?_)));clear S;intro v3 a w5 hv3 hk4 hn3 S
    subst hv3
    exact Em S rfl rfl rfl hb2 (Vu S Ig rfl rfl fun a S=>lv S (Ll hb2 (S.tm rfl) (S.tm rfl)) rfl fun a S=>Dl (⟨hk4,S.nf [true] rfl (subR rfl)⟩))
  clear S;rintro a w4 ⟨hk5,S⟩
  refine Va S rfl rfl fun a S=>Dl (Fc h (S.tm rfl) (fun hb3 h=>?_) (fun hb3 h=>?_))
  ·refine Fr (Vk S rfl rfl fun a S=>Dl (wp_ret (Gg (Ek ?_))))
   obtain rfl:=Option.some.inj h
   exact Fd S results118 rfl rfl
  ·refine Fr (Vf Pv S rfl rfl fun a S=>Vl isAgg3 0 S rfl rfl rfl rfl fun a S=>Er S (fun _=>Ei (vs:=[iV Ac.Kind,iV 1,iV 4]) ⟨(S.tm rfl),rfl,rfl,trivial⟩ call65) (Gl _ Ac.Kind 1 4 _ rfl) rfl ?_);clear S;intro v4 a w6 hv4 hk6 hn4 S
   subst hv4
   refine Vu S Ig rfl rfl fun a S=>Va S rfl rfl fun a S=>Dl (Fc h (S.tm rfl) (fun hb4 h=>?_) (fun hb4 h=>?_))
   ·refine Fr (Vk S rfl rfl fun a S=>Dl (wp_ret (Gg (Ek ?_))))
    obtain rfl:=Option.some.inj h
    exact Fd S results118 rfl rfl
   ·refine wp_skip (Im (Tn (Fs (Hd [] ([]) Tryz.mixed S rfl (by kernel_rfl) ?_))));clear S;intro w7 hk7 hsel S
    refine Kt [0,1,2,3,4,5,6,7,8,9,10,11] hsel (by kernel_rfl) rfl ?_
    clear hsel
    refine Gv S rfl (Gb Pv (S.tm rfl)) rfl fun a S=>Gv S rfl (Mg isAgg3 (S.tm rfl) (S.cell (i:=0) rfl rfl)) rfl fun a S=>Gv S rfl (Jn (S.tm rfl) rfl) rfl fun a S=>Gv S rfl (Gb Pv (S.tm rfl)) rfl fun a S=>Gv S rfl (Mg isAgg3 (S.tm rfl) (S.cell (i:=0) rfl rfl)) rfl fun a S=>Gv S rfl (Jn (S.tm rfl) rfl) rfl fun a S=>Gv S rfl (Gb Pv (S.tm rfl)) rfl fun a S=>Gv S rfl (Mg isAgg3 (S.tm rfl) (S.cell (i:=0) rfl rfl)) rfl fun a S=>Gv S rfl (Jn (S.tm rfl) rfl) rfl ?_;clear S;intro a S
    iterate 3 (refine Gv S rfl (Ra (S.tm rfl)) rfl ?_;clear S;intro a S)
    refine Jb ?_
    replace S:=(S.nl [.blk b1 (Eg.enc Ac) 101] [true] rfl).k4 1 3 4 5 rfl
    refine Tn (Fs (wp_block (Fs (Fr (Vm S rfl rfl fun a S=>Vu S Ig rfl rfl fun a S=>Vm S rfl rfl ?_)))));clear S;intro a S
    obtain ⟨j1,hj1,h⟩:=Fk h
    refine Io 11 (fun a w'=>∃ c1,j1 c1 = some r ∧ Keep [] w7 w' ∧ Sx w [] nov [.blk b1 (Eg.enc Ac) 101] [(1,.pointer (some ⟨b1,0,none⟩)),(3,bV (decide (Ac.Kind = 1))),(4,bV (decide (Ac.Kind = 3))),(5,bV (decide (Ac.Kind = 4))),(51,bV c1)] 152 a w') ?_ ?_
    ·rcases Bool.eq_false_or_eq_true (!(decide (Ac.Kind = 4))) with hb5 | hb5
     ·replace h:=Rz h hb5
      refine Em S rfl rfl rfl hb5 (Vf Oq S rfl rfl fun a S=>Em S rfl rfl rfl hb5 (Vl isAgg9 0 S rfl rfl rfl rfl fun a S=>Em S rfl rfl rfl hb5 ?_))
      obtain ⟨r2,hr2,h⟩:=Ga h
      refine Er S (fun _=>Ei (vs:=[sV Ac.Who]) ⟨(S.tm rfl),trivial⟩ call107) (Jp _ Ac.Who _ hr2) rfl ?_;clear S;intro v5 a w9 hv5 hk8 hn5 S
      subst hv5
      refine Em S rfl rfl rfl hb5 (Vu S Ig rfl rfl fun a S=>Em S rfl rfl rfl hb5 (Vm S rfl rfl ?_));clear S;intro a S
      obtain ⟨j2,hj2,h⟩:=Fk h
      refine Io 5 (fun a w'=>∃ c2,j2 c2 = some r ∧ Keep [] w9 w' ∧ Sx w [] nov [.blk b1 (Eg.enc Ac) 101] [(1,.pointer (some ⟨b1,0,none⟩)),(3,bV (decide (Ac.Kind = 1))),(4,bV (decide (Ac.Kind = 3))),(5,bV (decide (Ac.Kind = 4))),(40,bV (!(decide (Ac.Kind = 4)))),(50,bV c2)] 152 a w') ?_ ?_
      ·rcases Bool.eq_false_or_eq_true (!r2) with hb6 | hb6
       ·replace h:=Rz h hb6
        iterate 4 (refine Hk S rfl rfl rfl (Ng hb6) rfl ?_ rfl;clear S;intro a S)
        exact Em S rfl rfl rfl hb5 (Vq S (Lk true hb6) rfl rfl rfl fun a S=>Dl (⟨_,h,Keep.refl _ _,S.nf [true] rfl (subR rfl)⟩))
       ·replace h:=Sa h hb6
        refine Em S rfl rfl rfl hb6 (Vf Sm S rfl rfl fun a S=>Em S rfl rfl rfl hb6 (Vl isAgg9 0 S rfl rfl rfl rfl fun a S=>Em S rfl rfl rfl hb6 ?_))
        obtain ⟨r3,hr3,h⟩:=Ga h
        refine Er S (fun _=>Ei (vs:=[sV Ac.Race]) ⟨(S.tm rfl),trivial⟩ call107) (Jp _ Ac.Race _ hr3) rfl ?_;clear S;intro v6 a w11 hv6 hk9 hn6 S
        subst hv6
        exact Em S rfl rfl rfl hb6 (Vu S Ig rfl rfl fun a S=>Em S rfl rfl rfl hb5 (lv S (Ll hb6 (S.tm rfl) (S.tm rfl)) rfl fun a S=>Dl (⟨_,h,hk9,S.nf [true] rfl (subR rfl)⟩)))
      clear S h;rintro a w10 ⟨c2,h,hk10,S⟩;rw [hj2] at h;clear hj2 j2
      exact lv S (Ii hb5 (S.tm rfl) (S.tm rfl)) rfl fun a S=>Dl (⟨_,h,(hk8).trans hk10,S.nf [true] rfl (subR rfl)⟩)
     ·replace h:=Sa h hb5
      iterate 5 (refine Hk S rfl rfl rfl (Ka hb5) rfl ?_ rfl;clear S;intro a S)
      iterate 4 (refine BM S rfl rfl rfl rfl ?_;clear S;intro a S)
      exact Hk S rfl rfl rfl (Ka hb5) rfl (fun a S=>Vq S (Ij true hb5) rfl rfl rfl fun a S=>Dl (⟨_,h,Keep.refl _ _,S.nf [true] rfl (subR rfl)⟩)) rfl
    clear S h;rintro a w8 ⟨c1,h,hk11,S⟩;rw [hj1] at h;clear hj1 j1
    refine Va S rfl rfl fun a S=>Dl ?_
    obtain ⟨j3,hj3,h⟩:=Fk h
    refine Fa (fun a w'=>∃ x1 : Bool,j3 x1 = some r ∧ Sx w [] nov [.blk b1 (Eg.enc Ac) 101] [(1,.pointer (some ⟨b1,0,none⟩)),(3,bV (decide (Ac.Kind = 1))),(4,bV (decide (Ac.Kind = 3))),(5,bV (decide (Ac.Kind = 4))),(37,bV x1)] 152 a w') ?_ ?_
    ·refine Fc h (S.tm rfl) (fun hb7 h=>?_) (fun hb7 h=>?_)
     ·exact wp_skip (Tn (⟨c1,h,S.nf [true] rfl (subR rfl)⟩))
     ·refine Fg (Vm S rfl rfl fun a S=>Vm S rfl rfl fun a S=>Io 4 (fun a w'=>Keep [] w8 w' ∧ Sx w [] nov [.blk b1 (Eg.enc Ac) 101] [(1,.pointer (some ⟨b1,0,none⟩)),(3,bV (decide (Ac.Kind = 1))),(4,bV (decide (Ac.Kind = 3))),(5,bV (decide (Ac.Kind = 4))),(57,bV ((decide (Ac.Kind = 1)) && (!decide (Ac.Club = An))))] 152 a w') ?_ ?_)
      ·rcases Bool.eq_false_or_eq_true (decide (Ac.Kind = 1)) with hb8 | hb8
       ·exact Em S rfl rfl rfl hb8 (Vf Vp S rfl rfl fun a S=>Em S rfl rfl rfl hb8 (Vl isAgg9 0 S rfl rfl rfl rfl fun a S=>Em S rfl rfl rfl hb8 (Vq S DZ rfl rfl rfl fun a S=>lv S (Ii hb8 (S.tm rfl) (S.tm rfl)) rfl fun a S=>Dl (⟨Keep.refl _ _,S.nf [true] rfl (subR rfl)⟩))))
       ·iterate 3 (refine Hk S rfl rfl rfl (Ka hb8) rfl ?_ rfl;clear S;intro a S)
        exact lv S (Ij (!decide (Ac.Club = An)) hb8 (S.tm rfl) rfl) rfl fun a S=>Dl (⟨Keep.refl _ _,S.nf [true] rfl (subR rfl)⟩)
      clear S;rintro a w13 ⟨hk12,S⟩
      refine Vm S rfl rfl ?_;clear S;intro a S
      obtain ⟨j4,hj4,h⟩:=Fk h
      refine Io 5 (fun a w'=>∃ c3,j4 c3 = some r ∧ Keep [] w13 w' ∧ Sx w [] nov [.blk b1 (Eg.enc Ac) 101] [(1,.pointer (some ⟨b1,0,none⟩)),(3,bV (decide (Ac.Kind = 1))),(4,bV (decide (Ac.Kind = 3))),(5,bV (decide (Ac.Kind = 4))),(63,bV c3)] 152 a w') ?_ ?_
      ·rcases Bool.eq_false_or_eq_true ((decide (Ac.Kind = 1)) && (!decide (Ac.Club = An))) with hb9 | hb9
       ·replace h:=Rz h hb9
        refine Em S rfl rfl rfl hb9 (Vf Vp S rfl rfl fun a S=>Em S rfl rfl rfl hb9 (Vl isAgg9 0 S rfl rfl rfl rfl fun a S=>Em S rfl rfl rfl hb9 ?_))
        obtain ⟨r4,hr4,h⟩:=Ga h
        refine Er S (fun _=>Ei (vs:=[sV Ac.Club]) ⟨(S.tm rfl),trivial⟩ call107) (Jp _ Ac.Club _ hr4) rfl ?_;clear S;intro v7 a w15 hv7 hk13 hn7 S
        subst hv7
        exact Em S rfl rfl rfl hb9 (Vu S Ig rfl rfl fun a S=>lv S (Ii hb9 (S.tm rfl) (S.tm rfl)) rfl fun a S=>Dl (⟨_,h,hk13,S.nf [true] rfl (subR rfl)⟩))
       ·replace h:=Sa h hb9
        iterate 4 (refine Hk S rfl rfl rfl (Ka hb9) rfl ?_ rfl;clear S;intro a S)
        exact Vq S (Ij true hb9) rfl rfl rfl fun a S=>Dl (⟨_,h,Keep.refl _ _,S.nf [true] rfl (subR rfl)⟩)
      clear S h;rintro a w14 ⟨c3,h,hk14,S⟩;rw [hj4] at h;clear hj4 j4
      exact Va S rfl rfl fun a S=>Dl (⟨c3,h,S.nf [true] rfl (subR rfl)⟩)
    clear S h;rintro a w12 ⟨x1,h,S⟩;rw [hj3] at h;clear hj3 j3
    refine Tn (Fc h (S.tm rfl) (fun hb10 h=>?_) (fun hb10 h=>?_))
    ·refine Fr (Vk S rfl rfl fun a S=>Dl (wp_ret (Gg (Ek ?_))))
     obtain rfl:=Option.some.inj h
     exact Fd S results118 rfl rfl
    ·refine Fs (Fr (Vm S rfl rfl fun a S=>Vm S rfl rfl fun a S=>Io 2 (fun a w'=>Keep [] w12 w' ∧ Sx w [] nov [.blk b1 (Eg.enc Ac) 101] [(1,.pointer (some ⟨b1,0,none⟩)),(3,bV (decide (Ac.Kind = 1))),(4,bV (decide (Ac.Kind = 3))),(5,bV (decide (Ac.Kind = 4))),(68,bV ((decide (Ac.Kind = 1)) || (decide (Ac.Kind = 3))))] 152 a w') ?_ ?_))
     ·rcases Bool.eq_false_or_eq_true (decide (Ac.Kind = 1)) with hb11 | hb11
      ·exact Hk S rfl rfl rfl (Ng hb11) rfl (fun a S=>lv S (Lk (decide (Ac.Kind = 3)) hb11 (S.tm rfl) rfl) rfl fun a S=>Dl (⟨Keep.refl _ _,S.nf [true] rfl (subR rfl)⟩)) rfl
      ·exact Em S rfl rfl rfl hb11 (Vm S rfl rfl fun a S=>lv S (Ll hb11 (S.tm rfl) (S.tm rfl)) rfl fun a S=>Dl (⟨Keep.refl _ _,S.nf [true] rfl (subR rfl)⟩))
     clear S;rintro a w16 ⟨hk15,S⟩
     refine Vm S rfl rfl fun a S=>Io 5 (fun a w'=>Keep [] w16 w' ∧ Sx w [] nov [.blk b1 (Eg.enc Ac) 101] [(1,.pointer (some ⟨b1,0,none⟩)),(3,bV (decide (Ac.Kind = 1))),(4,bV (decide (Ac.Kind = 3))),(5,bV (decide (Ac.Kind = 4))),(74,bV (((decide (Ac.Kind = 1)) || (decide (Ac.Kind = 3))) && (!(El Ac.Time 0 360000))))] 152 a w') ?_ ?_
     ·rcases Bool.eq_false_or_eq_true ((decide (Ac.Kind = 1)) || (decide (Ac.Kind = 3))) with hb12 | hb12
      ·refine Em S rfl rfl rfl hb12 (Vf Um S rfl rfl fun a S=>Em S rfl rfl rfl hb12 (Vl isAgg3 0 S rfl rfl rfl rfl fun a S=>Em S rfl rfl rfl hb12 (Er S (fun _=>Ei (vs:=[iV Ac.Time,iV 0,iV 360000]) ⟨(S.tm rfl),rfl,rfl,trivial⟩ call65) (Gl _ Ac.Time 0 360000 _ rfl) rfl ?_)));clear S;intro v8 a w18 hv8 hk16 hn8 S
       subst hv8
       exact Em S rfl rfl rfl hb12 (Vu S Ig rfl rfl fun a S=>lv S (Ii hb12 (S.tm rfl) (S.tm rfl)) rfl fun a S=>Dl (⟨hk16,S.nf [true] rfl (subR rfl)⟩))
      ·iterate 4 (refine Hk S rfl rfl rfl (Ka hb12) rfl ?_ rfl;clear S;intro a S)
       exact lv S (Ij (!(El Ac.Time 0 360000)) hb12 (S.tm rfl) rfl) rfl fun a S=>Dl (⟨Keep.refl _ _,S.nf [true] rfl (subR rfl)⟩)
     clear S;rintro a w17 ⟨hk17,S⟩
     refine Va S rfl rfl fun a S=>Dl ?_
     obtain ⟨j5,hj5,h⟩:=Fk h
     refine Fa (fun a w'=>∃ x2 : Bool,j5 x2 = some r ∧ Sx w [] nov [.blk b1 (Eg.enc Ac) 101] [(1,.pointer (some ⟨b1,0,none⟩)),(3,bV (decide (Ac.Kind = 1))),(4,bV (decide (Ac.Kind = 3))),(5,bV (decide (Ac.Kind = 4))),(64,bV x2)] 152 a w') ?_ ?_
     ·refine Fc h (S.tm rfl) (fun hb13 h=>?_) (fun hb13 h=>?_)
      ·exact wp_skip (Tn (⟨(((decide (Ac.Kind = 1)) || (decide (Ac.Kind = 3))) && (!(El Ac.Time 0 360000))),h,S.nf [true] rfl (subR rfl)⟩))
      ·refine Fg (Vm S rfl rfl fun a S=>Vm S rfl rfl fun a S=>Io 5 (fun a w'=>Keep [] w17 w' ∧ Sx w [] nov [.blk b1 (Eg.enc Ac) 101] [(1,.pointer (some ⟨b1,0,none⟩)),(3,bV (decide (Ac.Kind = 1))),(4,bV (decide (Ac.Kind = 3))),(5,bV (decide (Ac.Kind = 4))),(81,bV ((decide (Ac.Kind = 3)) && (!(El Ac.Fault 0 8))))] 152 a w') ?_ ?_)
       ·rcases Bool.eq_false_or_eq_true (decide (Ac.Kind = 3)) with hb14 | hb14
        ·refine Em S rfl rfl rfl hb14 (Vf Ws S rfl rfl fun a S=>Em S rfl rfl rfl hb14 (Vl isAgg3 0 S rfl rfl rfl rfl fun a S=>Em S rfl rfl rfl hb14 (Er S (fun _=>Ei (vs:=[iV Ac.Fault,iV 0,iV 8]) ⟨(S.tm rfl),rfl,rfl,trivial⟩ call65) (Gl _ Ac.Fault 0 8 _ rfl) rfl ?_)));clear S;intro v9 a w21 hv9 hk18 hn9 S
         subst hv9
         exact Em S rfl rfl rfl hb14 (Vu S Ig rfl rfl fun a S=>lv S (Ii hb14 (S.tm rfl) (S.tm rfl)) rfl fun a S=>Dl (⟨hk18,S.nf [true] rfl (subR rfl)⟩))
        ·iterate 4 (refine Hk S rfl rfl rfl (Ka hb14) rfl ?_ rfl;clear S;intro a S)
         exact lv S (Ij (!(El Ac.Fault 0 8)) hb14 (S.tm rfl) rfl) rfl fun a S=>Dl (⟨Keep.refl _ _,S.nf [true] rfl (subR rfl)⟩)
       clear S;rintro a w20 ⟨hk19,S⟩
       exact Va S rfl rfl fun a S=>Dl (⟨((decide (Ac.Kind = 3)) && (!(El Ac.Fault 0 8))),h,S.nf [true] rfl (subR rfl)⟩)
     clear S h;rintro a w19 ⟨x2,h,S⟩;rw [hj5] at h;clear hj5 j5
     refine Tn (Fc h (S.tm rfl) (fun hb15 h=>?_) (fun hb15 h=>?_))
     ·refine Fr (Vk S rfl rfl fun a S=>Dl (wp_ret (Gg (Ek ?_))))
      obtain rfl:=Option.some.inj h
      exact Fd S results118 rfl rfl
     ·refine Fr (Vm S rfl rfl fun a S=>Vm S rfl rfl ?_);clear S;intro a S
      obtain ⟨j6,hj6,h⟩:=Fk h
      refine Io 5 (fun a w'=>∃ c4,j6 c4 = some r ∧ Keep [] w19 w' ∧ Sx w [] nov [.blk b1 (Eg.enc Ac) 101] [(1,.pointer (some ⟨b1,0,none⟩)),(3,bV (decide (Ac.Kind = 1))),(4,bV (decide (Ac.Kind = 3))),(5,bV (decide (Ac.Kind = 4))),(89,bV c4)] 152 a w') ?_ ?_
      ·rcases Bool.eq_false_or_eq_true (decide (Ac.Kind = 4)) with hb16 | hb16
       ·replace h:=Rz h hb16
        refine Em S rfl rfl rfl hb16 (Vf Yr S rfl rfl fun a S=>Em S rfl rfl rfl hb16 (Vl isAgg9 0 S rfl rfl rfl rfl fun a S=>Em S rfl rfl rfl hb16 ?_))
        obtain ⟨r5,hr5,h⟩:=Ga h
        refine Er S (fun _=>Ei (vs:=[sV Ac.Of]) ⟨(S.tm rfl),trivial⟩ call107) (Jp _ Ac.Of _ hr5) rfl ?_;clear S;intro v10 a w23 hv10 hk20 hn10 S
        subst hv10
        exact Em S rfl rfl rfl hb16 (Vu S Ig rfl rfl fun a S=>lv S (Ii hb16 (S.tm rfl) (S.tm rfl)) rfl fun a S=>Dl (⟨_,h,hk20,S.nf [true] rfl (subR rfl)⟩))
       ·replace h:=Sa h hb16
        iterate 4 (refine Hk S rfl rfl rfl (Ka hb16) rfl ?_ rfl;clear S;intro a S)
        exact Vq S (Ij true hb16) rfl rfl rfl fun a S=>Dl (⟨_,h,Keep.refl _ _,S.nf [true] rfl (subR rfl)⟩)
      clear S h;rintro a w22 ⟨c4,h,hk21,S⟩;rw [hj6] at h;clear hj6 j6
      refine Va S rfl rfl fun a S=>Dl (Fc h (S.tm rfl) (fun hb17 h=>?_) (fun hb17 h=>?_))
      ·refine Fr (Vk S rfl rfl fun a S=>Dl (wp_ret (Gg (Ek ?_))))
       obtain rfl:=Option.some.inj h
       exact Fd S results118 rfl rfl
      ·refine Fr (Vm S rfl rfl fun a S=>Vm S rfl rfl fun a S=>Io 5 (fun a w'=>Keep [] w22 w' ∧ Sx w [] nov [.blk b1 (Eg.enc Ac) 101] [(1,.pointer (some ⟨b1,0,none⟩)),(3,bV (decide (Ac.Kind = 1))),(4,bV (decide (Ac.Kind = 3))),(5,bV (decide (Ac.Kind = 4))),(97,bV ((decide (Ac.Kind = 4)) && (!(El Ac.Other 1 1000000))))] 152 a w') ?_ ?_)
       ·rcases Bool.eq_false_or_eq_true (decide (Ac.Kind = 4)) with hb18 | hb18
        ·refine Em S rfl rfl rfl hb18 (Vf Wc S rfl rfl fun a S=>Em S rfl rfl rfl hb18 (Vl isAgg3 0 S rfl rfl rfl rfl fun a S=>Em S rfl rfl rfl hb18 (Er S (fun _=>Ei (vs:=[iV Ac.Other,iV 1,iV 1000000]) ⟨(S.tm rfl),rfl,rfl,trivial⟩ call65) (Gl _ Ac.Other 1 1000000 _ rfl) rfl ?_)));clear S;intro v11 a w25 hv11 hk22 hn11 S
         subst hv11
         exact Em S rfl rfl rfl hb18 (Vu S Ig rfl rfl fun a S=>lv S (Ii hb18 (S.tm rfl) (S.tm rfl)) rfl fun a S=>Dl (⟨hk22,S.nf [true] rfl (subR rfl)⟩))
        ·iterate 4 (refine Hk S rfl rfl rfl (Ka hb18) rfl ?_ rfl;clear S;intro a S)
         exact lv S (Ij (!(El Ac.Other 1 1000000)) hb18 (S.tm rfl) rfl) rfl fun a S=>Dl (⟨Keep.refl _ _,S.nf [true] rfl (subR rfl)⟩)
       clear S;rintro a w24 ⟨hk23,S⟩
       refine Va S rfl rfl fun a S=>Dl (Fc h (S.tm rfl) (fun hb19 h=>?_) (fun hb19 h=>?_))
       ·refine Fr (Vk S rfl rfl fun a S=>Dl (wp_ret (Gg (Ek ?_))))
        obtain rfl:=Option.some.inj h
        exact Fd S results118 rfl rfl
       ·refine wp_skip (Im (Tn (Fr (Vf Rd S rfl rfl fun a S=>Vl isAgg9 0 S rfl rfl rfl rfl fun a S=>Vf Tl S rfl rfl fun a S=>Vl isAgg3 0 S rfl rfl rfl rfl fun a S=>Vf Ul S rfl rfl fun a S=>Vl isAgg3 0 S rfl rfl rfl rfl ?_))));clear S;intro a S
        refine Vf Pv S rfl rfl fun a S=>Vl isAgg3 0 S rfl rfl rfl rfl fun a S=>lv S (Nc RN (pv:=[(0,sV Ac.Site),(1,iV Ac.No),(2,iV Ac.At),(3,iV Ac.Kind)]) ⟨rfl,(S.tm rfl),rfl,(S.tm rfl),rfl,(S.tm rfl),rfl,(S.tm rfl),trivial⟩ (cs:=[sV Ac.Site,iV Ac.No,iV Ac.At,iV Ac.Kind,sV An,sV An,sV An,iV 0,iV 0,sV An,iV 0]) (by kernel_rfl)) rfl fun a S=>Iz S zeroValue101 (cs:=[sV An,iV 0,iV 0,iV 0,sV An,sV An,sV An,iV 0,iV 0,sV An,iV 0]) rfl rfl ?_;clear S;intro a w26 b2 hz2 hk24 S
        refine Ft S (S.tm rfl) (S.tm rfl) (i:=0) (off:=0) rfl sizeOf101 (vs:=(Eg.enc (Eg.mk Ac.Site Ac.No Ac.At Ac.Kind An An An 0 0 An 0))) rfl rfl rfl rfl ?_;clear S;intro w27 hk25 S
        refine Ld ?_
        replace S:=(S.nl [.blk b2 (Eg.enc (Eg.mk Ac.Site Ac.No Ac.At Ac.Kind An An An 0 0 An 0)) 101,.blk b1 (Eg.enc Ac) 101] [true,true] rfl).k5 1 3 4 5 6 rfl
        refine Tn (Fs ?_)
        obtain ⟨j7,hj7,h⟩:=Fk h
        refine Fa (fun a w'=>∃ x3 : ByteArray,∃ x4 : ByteArray,∃ x5 : ByteArray,∃ x6 : Int,∃ x7 : Int,∃ x8 : ByteArray,∃ x9 : Int,j7 x3 x4 x5 x6 x7 x8 x9 = some r ∧ Sx w [] nov [.blk b2 (Eg.enc (Eg.mk Ac.Site Ac.No Ac.At Ac.Kind x3 x4 x5 x6 x7 x8 x9)) 101,.blk b1 (Eg.enc Ac) 101] [(1,.pointer (some ⟨b1,0,none⟩)),(6,.pointer (some ⟨b2,0,none⟩))] 152 a w') ?_ ?_
        ·refine wp_block (Fr (Vm S rfl rfl fun a S=>Va S rfl rfl fun a S=>Dl ?_))
         obtain ⟨j8,hj8,h⟩:=Fk h
         refine Fa (fun a w'=>∃ x10 : ByteArray,∃ x11 : ByteArray,∃ x12 : ByteArray,∃ x13 : Int,∃ x14 : Int,∃ x15 : ByteArray,∃ x16 : Int,j8 x10 x11 x12 x13 x14 x15 x16 = some r ∧ Sx w [] nov [.blk b2 (Eg.enc (Eg.mk Ac.Site Ac.No Ac.At Ac.Kind x10 x11 x12 x13 x14 x15 x16)) 101,.blk b1 (Eg.enc Ac) 101] [(1,.pointer (some ⟨b1,0,none⟩)),(6,.pointer (some ⟨b2,0,none⟩))] 152 a w') ?_ ?_
         ·refine Fc h (S.tm rfl) (fun hb20 h=>?_) (fun hb20 h=>?_)
          ·refine Hd [] ([b2]) Tryz.mixed S rfl (by kernel_rfl) ?_;clear S;intro w34 hk30 hsel S
           refine Eo 0 S hsel rfl rfl rfl (by kernel_rfl) (by kernel_rfl) rfl (fun _ hw=>(Gb Oq (S.tm rfl))) fun a S=>Eo 1 S hsel rfl rfl rfl (by kernel_rfl) (by kernel_rfl) rfl (fun _ hw=>(Hw isAgg9 (off:=0) (o:=4) (S.tm rfl) ((S.blk_mem (i:=1) (cells:=(Eg.enc Ac)) (b:=b1) (T:=101) rfl (Nf (i:=0) (j:=1) (e:=.blk b2 (Eg.enc (Eg.mk Ac.Site Ac.No Ac.At Ac.Kind An An An 0 0 An 0)) 101) (e':=.blk b1 (Eg.enc Ac) 101) S rfl rfl rfl)).kept hw) rfl)) fun a S=>Eo 2 S hsel rfl rfl rfl (by kernel_rfl) (by kernel_rfl) rfl (fun _ hw=>(Gb Vp (S.tm rfl))) fun a S=>Eo 3 S hsel rfl rfl rfl (by kernel_rfl) (by kernel_rfl) rfl (fun _ hw=>(Hw isAgg9 (off:=0) (o:=5) (S.tm rfl) ((S.blk_mem (i:=1) (cells:=(Eg.enc Ac)) (b:=b1) (T:=101) rfl (Nf (i:=0) (j:=1) (e:=.blk b2 (Eg.enc (Eg.mk Ac.Site Ac.No Ac.At Ac.Kind An An An 0 0 An 0)) 101) (e':=.blk b1 (Eg.enc Ac) 101) S rfl rfl rfl)).kept hw) rfl)) fun a S=>Eo 4 S hsel rfl rfl rfl (by kernel_rfl) (by kernel_rfl) rfl (fun _ hw=>(Gb Sm (S.tm rfl))) fun a S=>Eo 5 S hsel rfl rfl rfl (by kernel_rfl) (by kernel_rfl) rfl (fun _ hw=>(Hw isAgg9 (off:=0) (o:=6) (S.tm rfl) ((S.blk_mem (i:=1) (cells:=(Eg.enc Ac)) (b:=b1) (T:=101) rfl (Nf (i:=0) (j:=1) (e:=.blk b2 (Eg.enc (Eg.mk Ac.Site Ac.No Ac.At Ac.Kind An An An 0 0 An 0)) 101) (e':=.blk b1 (Eg.enc Ac) 101) S rfl rfl rfl)).kept hw) rfl)) fun a S=>Eo 6 S hsel rfl rfl rfl (by kernel_rfl) (by kernel_rfl) rfl (fun _ hw=>(Gb Um (S.tm rfl))) fun a S=>Eo 7 S hsel rfl rfl rfl (by kernel_rfl) (by kernel_rfl) rfl (fun _ hw=>(Hw isAgg3 (off:=0) (o:=7) (S.tm rfl) ((S.blk_mem (i:=1) (cells:=(Eg.enc Ac)) (b:=b1) (T:=101) rfl (Nf (i:=0) (j:=1) (e:=.blk b2 (Eg.enc (Eg.mk Ac.Site Ac.No Ac.At Ac.Kind An An An 0 0 An 0)) 101) (e':=.blk b1 (Eg.enc Ac) 101) S rfl rfl rfl)).kept hw) rfl)) ?_;clear S;intro a S
           refine Eo 8 S hsel rfl rfl rfl (by kernel_rfl) (by kernel_rfl) rfl (fun _ hw=>(Gb Oq (S.tm rfl))) fun a S=>Hi 9 (by kernel_rfl) rfl (Ft S (S.tm rfl) (S.tm rfl) (i:=0) (off:=4) rfl sizeOf9 (vs:=[sV Ac.Who]) rfl rfl rfl rfl ?_);clear S;intro w35 hk31 S
           refine Ld (It hk31 (Eo 10 S hsel rfl rfl rfl (by kernel_rfl) (by kernel_rfl) rfl (fun _ hw=>(Gb Vp (S.tm rfl))) fun a S=>Hi 11 (by kernel_rfl) rfl (Ft S (S.tm rfl) (S.tm rfl) (i:=0) (off:=5) rfl sizeOf9 (vs:=[sV Ac.Club]) rfl rfl rfl rfl ?_)));clear S;intro w36 hk32 S
           refine Ld (It hk32 (Eo 12 S hsel rfl rfl rfl (by kernel_rfl) (by kernel_rfl) rfl (fun _ hw=>(Gb Sm (S.tm rfl))) fun a S=>Hi 13 (by kernel_rfl) rfl (Ft S (S.tm rfl) (S.tm rfl) (i:=0) (off:=6) rfl sizeOf9 (vs:=[sV Ac.Race]) rfl rfl rfl rfl ?_)));clear S;intro w37 hk33 S
           refine Ld (It hk33 (Eo 14 S hsel rfl rfl rfl (by kernel_rfl) (by kernel_rfl) rfl (fun _ hw=>(Gb Um (S.tm rfl))) fun a S=>Hi 15 (by kernel_rfl) rfl (Ft S (S.tm rfl) (S.tm rfl) (i:=0) (off:=7) rfl sizeOf3 (vs:=[iV Ac.Time]) rfl rfl rfl rfl ?_)));clear S;intro w38 hk34 S
           refine Ld (It hk34 (Xy (by kernel_rfl) ?_))
           clear hsel
           replace S:=(S.nl [.blk b2 (Eg.enc (Eg.mk Ac.Site Ac.No Ac.At Ac.Kind Ac.Who Ac.Club Ac.Race Ac.Time 0 An 0)) 101,.blk b1 (Eg.enc Ac) 101] [true,true] rfl).k2 1 6 rfl
           exact Tn (⟨Ac.Who,Ac.Club,Ac.Race,Ac.Time,0,An,0,h,S.nf [true,true] rfl (subR rfl)⟩)
          ·refine Fr (Vm S rfl rfl fun a S=>Va S rfl rfl fun a S=>Dl ?_)
           obtain ⟨j9,hj9,h⟩:=Fk h
           refine Fa (fun a w'=>∃ x17 : ByteArray,∃ x18 : ByteArray,∃ x19 : Int,∃ x20 : Int,∃ x21 : ByteArray,∃ x22 : Int,j9 x17 x18 x19 x20 x21 x22 = some r ∧ Sx w [] nov [.blk b2 (Eg.enc (Eg.mk Ac.Site Ac.No Ac.At Ac.Kind x17 An x18 x19 x20 x21 x22)) 101,.blk b1 (Eg.enc Ac) 101] [(1,.pointer (some ⟨b1,0,none⟩)),(6,.pointer (some ⟨b2,0,none⟩))] 152 a w') ?_ ?_
           ·refine Fc h (S.tm rfl) (fun hb21 h=>?_) (fun hb21 h=>?_)
            ·refine Hd [] ([b2]) Tryz.mixed S rfl (by kernel_rfl) ?_;clear S;intro w44 hk39 hsel S
             refine Eo 0 S hsel rfl rfl rfl (by kernel_rfl) (by kernel_rfl) rfl (fun _ hw=>(Gb Oq (S.tm rfl))) fun a S=>Eo 1 S hsel rfl rfl rfl (by kernel_rfl) (by kernel_rfl) rfl (fun _ hw=>(Hw isAgg9 (off:=0) (o:=4) (S.tm rfl) ((S.blk_mem (i:=1) (cells:=(Eg.enc Ac)) (b:=b1) (T:=101) rfl (Nf (i:=0) (j:=1) (e:=.blk b2 (Eg.enc (Eg.mk Ac.Site Ac.No Ac.At Ac.Kind An An An 0 0 An 0)) 101) (e':=.blk b1 (Eg.enc Ac) 101) S rfl rfl rfl)).kept hw) rfl)) fun a S=>Eo 2 S hsel rfl rfl rfl (by kernel_rfl) (by kernel_rfl) rfl (fun _ hw=>(Gb Sm (S.tm rfl))) fun a S=>Eo 3 S hsel rfl rfl rfl (by kernel_rfl) (by kernel_rfl) rfl (fun _ hw=>(Hw isAgg9 (off:=0) (o:=6) (S.tm rfl) ((S.blk_mem (i:=1) (cells:=(Eg.enc Ac)) (b:=b1) (T:=101) rfl (Nf (i:=0) (j:=1) (e:=.blk b2 (Eg.enc (Eg.mk Ac.Site Ac.No Ac.At Ac.Kind An An An 0 0 An 0)) 101) (e':=.blk b1 (Eg.enc Ac) 101) S rfl rfl rfl)).kept hw) rfl)) fun a S=>Eo 4 S hsel rfl rfl rfl (by kernel_rfl) (by kernel_rfl) rfl (fun _ hw=>(Gb Um (S.tm rfl))) fun a S=>Eo 5 S hsel rfl rfl rfl (by kernel_rfl) (by kernel_rfl) rfl (fun _ hw=>(Hw isAgg3 (off:=0) (o:=7) (S.tm rfl) ((S.blk_mem (i:=1) (cells:=(Eg.enc Ac)) (b:=b1) (T:=101) rfl (Nf (i:=0) (j:=1) (e:=.blk b2 (Eg.enc (Eg.mk Ac.Site Ac.No Ac.At Ac.Kind An An An 0 0 An 0)) 101) (e':=.blk b1 (Eg.enc Ac) 101) S rfl rfl rfl)).kept hw) rfl)) fun a S=>Eo 6 S hsel rfl rfl rfl (by kernel_rfl) (by kernel_rfl) rfl (fun _ hw=>(Gb Ws (S.tm rfl))) fun a S=>Eo 7 S hsel rfl rfl rfl (by kernel_rfl) (by kernel_rfl) rfl (fun _ hw=>(Hw isAgg3 (off:=0) (o:=8) (S.tm rfl) ((S.blk_mem (i:=1) (cells:=(Eg.enc Ac)) (b:=b1) (T:=101) rfl (Nf (i:=0) (j:=1) (e:=.blk b2 (Eg.enc (Eg.mk Ac.Site Ac.No Ac.At Ac.Kind An An An 0 0 An 0)) 101) (e':=.blk b1 (Eg.enc Ac) 101) S rfl rfl rfl)).kept hw) rfl)) ?_;clear S;intro a S
             refine Eo 8 S hsel rfl rfl rfl (by kernel_rfl) (by kernel_rfl) rfl (fun _ hw=>(Gb Oq (S.tm rfl))) fun a S=>Hi 9 (by kernel_rfl) rfl (Ft S (S.tm rfl) (S.tm rfl) (i:=0) (off:=4) rfl sizeOf9 (vs:=[sV Ac.Who]) rfl rfl rfl rfl ?_);clear S;intro w45 hk40 S
             refine Ld (It hk40 (Eo 10 S hsel rfl rfl rfl (by kernel_rfl) (by kernel_rfl) rfl (fun _ hw=>(Gb Sm (S.tm rfl))) fun a S=>Hi 11 (by kernel_rfl) rfl (Ft S (S.tm rfl) (S.tm rfl) (i:=0) (off:=6) rfl sizeOf9 (vs:=[sV Ac.Race]) rfl rfl rfl rfl ?_)));clear S;intro w46 hk41 S
             refine Ld (It hk41 (Eo 12 S hsel rfl rfl rfl (by kernel_rfl) (by kernel_rfl) rfl (fun _ hw=>(Gb Um (S.tm rfl))) fun a S=>Hi 13 (by kernel_rfl) rfl (Ft S (S.tm rfl) (S.tm rfl) (i:=0) (off:=7) rfl sizeOf3 (vs:=[iV Ac.Time]) rfl rfl rfl rfl ?_)));clear S;intro w47 hk42 S
             refine Ld (It hk42 (Eo 14 S hsel rfl rfl rfl (by kernel_rfl) (by kernel_rfl) rfl (fun _ hw=>(Gb Ws (S.tm rfl))) fun a S=>Hi 15 (by kernel_rfl) rfl (Ft S (S.tm rfl) (S.tm rfl) (i:=0) (off:=8) rfl sizeOf3 (vs:=[iV Ac.Fault]) rfl rfl rfl rfl ?_)));clear S;intro w48 hk43 S
             refine Ld (It hk43 (Xy (by kernel_rfl) ?_))
             clear hsel
             replace S:=(S.nl [.blk b2 (Eg.enc (Eg.mk Ac.Site Ac.No Ac.At Ac.Kind Ac.Who An Ac.Race Ac.Time Ac.Fault An 0)) 101,.blk b1 (Eg.enc Ac) 101] [true,true] rfl).k2 1 6 rfl
             exact Tn (⟨Ac.Who,Ac.Race,Ac.Time,Ac.Fault,An,0,h,S.nf [true,true] rfl (subR rfl)⟩)
            ·refine Fr (Vm S rfl rfl fun a S=>Va S rfl rfl fun a S=>Dl ?_)
             obtain ⟨j10,hj10,h⟩:=Fk h
             refine Fa (fun a w'=>∃ x23 : ByteArray,∃ x24 : ByteArray,∃ x25 : ByteArray,∃ x26 : Int,j10 x23 x24 x25 x26 = some r ∧ Sx w [] nov [.blk b2 (Eg.enc (Eg.mk Ac.Site Ac.No Ac.At Ac.Kind x23 An x24 0 0 x25 x26)) 101,.blk b1 (Eg.enc Ac) 101] [(1,.pointer (some ⟨b1,0,none⟩)),(6,.pointer (some ⟨b2,0,none⟩))] 152 a w') ?_ ?_
             ·refine Fc h (S.tm rfl) (fun hb22 h=>?_) (fun hb22 h=>?_)
              ·refine Hd [] ([b2]) Tryz.mixed S rfl (by kernel_rfl) ?_;clear S;intro w52 hk46 hsel S
               refine Eo 0 S hsel rfl rfl rfl (by kernel_rfl) (by kernel_rfl) rfl (fun _ hw=>(Gb Yr (S.tm rfl))) fun a S=>Eo 1 S hsel rfl rfl rfl (by kernel_rfl) (by kernel_rfl) rfl (fun _ hw=>(Hw isAgg9 (off:=0) (o:=9) (S.tm rfl) ((S.blk_mem (i:=1) (cells:=(Eg.enc Ac)) (b:=b1) (T:=101) rfl (Nf (i:=0) (j:=1) (e:=.blk b2 (Eg.enc (Eg.mk Ac.Site Ac.No Ac.At Ac.Kind An An An 0 0 An 0)) 101) (e':=.blk b1 (Eg.enc Ac) 101) S rfl rfl rfl)).kept hw) rfl)) fun a S=>Eo 2 S hsel rfl rfl rfl (by kernel_rfl) (by kernel_rfl) rfl (fun _ hw=>(Gb Wc (S.tm rfl))) fun a S=>Eo 3 S hsel rfl rfl rfl (by kernel_rfl) (by kernel_rfl) rfl (fun _ hw=>(Hw isAgg3 (off:=0) (o:=10) (S.tm rfl) ((S.blk_mem (i:=1) (cells:=(Eg.enc Ac)) (b:=b1) (T:=101) rfl (Nf (i:=0) (j:=1) (e:=.blk b2 (Eg.enc (Eg.mk Ac.Site Ac.No Ac.At Ac.Kind An An An 0 0 An 0)) 101) (e':=.blk b1 (Eg.enc Ac) 101) S rfl rfl rfl)).kept hw) rfl)) fun a S=>Eo 4 S hsel rfl rfl rfl (by kernel_rfl) (by kernel_rfl) rfl (fun _ hw=>(Gb Yr (S.tm rfl))) fun a S=>Hi 5 (by kernel_rfl) rfl (Ft S (S.tm rfl) (S.tm rfl) (i:=0) (off:=9) rfl sizeOf9 (vs:=[sV Ac.Of]) rfl rfl rfl rfl ?_);clear S;intro w53 hk47 S
               refine Ld (It hk47 (Eo 6 S hsel rfl rfl rfl (by kernel_rfl) (by kernel_rfl) rfl (fun _ hw=>(Gb Wc (S.tm rfl))) fun a S=>Hi 7 (by kernel_rfl) rfl (Ft S (S.tm rfl) (S.tm rfl) (i:=0) (off:=10) rfl sizeOf3 (vs:=[iV Ac.Other]) rfl rfl rfl rfl ?_)));clear S;intro w54 hk48 S
               refine Ld (It hk48 (Xy (by kernel_rfl) ?_))
               clear hsel
               replace S:=(S.nl [.blk b2 (Eg.enc (Eg.mk Ac.Site Ac.No Ac.At Ac.Kind An An An 0 0 Ac.Of Ac.Other)) 101,.blk b1 (Eg.enc Ac) 101] [true,true] rfl).k2 1 6 rfl
               exact Tn (⟨An,An,Ac.Of,Ac.Other,h,S.nf [true,true] rfl (subR rfl)⟩)
              ·refine Hd [] ([b2]) Tryz.mixed S rfl (by kernel_rfl) ?_;clear S;intro w57 hk51 hsel S
               refine Eo 0 S hsel rfl rfl rfl (by kernel_rfl) (by kernel_rfl) rfl (fun _ hw=>(Gb Oq (S.tm rfl))) fun a S=>Eo 1 S hsel rfl rfl rfl (by kernel_rfl) (by kernel_rfl) rfl (fun _ hw=>(Hw isAgg9 (off:=0) (o:=4) (S.tm rfl) ((S.blk_mem (i:=1) (cells:=(Eg.enc Ac)) (b:=b1) (T:=101) rfl (Nf (i:=0) (j:=1) (e:=.blk b2 (Eg.enc (Eg.mk Ac.Site Ac.No Ac.At Ac.Kind An An An 0 0 An 0)) 101) (e':=.blk b1 (Eg.enc Ac) 101) S rfl rfl rfl)).kept hw) rfl)) fun a S=>Eo 2 S hsel rfl rfl rfl (by kernel_rfl) (by kernel_rfl) rfl (fun _ hw=>(Gb Sm (S.tm rfl))) fun a S=>Eo 3 S hsel rfl rfl rfl (by kernel_rfl) (by kernel_rfl) rfl (fun _ hw=>(Hw isAgg9 (off:=0) (o:=6) (S.tm rfl) ((S.blk_mem (i:=1) (cells:=(Eg.enc Ac)) (b:=b1) (T:=101) rfl (Nf (i:=0) (j:=1) (e:=.blk b2 (Eg.enc (Eg.mk Ac.Site Ac.No Ac.At Ac.Kind An An An 0 0 An 0)) 101) (e':=.blk b1 (Eg.enc Ac) 101) S rfl rfl rfl)).kept hw) rfl)) fun a S=>Eo 4 S hsel rfl rfl rfl (by kernel_rfl) (by kernel_rfl) rfl (fun _ hw=>(Gb Oq (S.tm rfl))) fun a S=>Hi 5 (by kernel_rfl) rfl (Ft S (S.tm rfl) (S.tm rfl) (i:=0) (off:=4) rfl sizeOf9 (vs:=[sV Ac.Who]) rfl rfl rfl rfl ?_);clear S;intro w58 hk52 S
               refine Ld (It hk52 (Eo 6 S hsel rfl rfl rfl (by kernel_rfl) (by kernel_rfl) rfl (fun _ hw=>(Gb Sm (S.tm rfl))) fun a S=>Hi 7 (by kernel_rfl) rfl (Ft S (S.tm rfl) (S.tm rfl) (i:=0) (off:=6) rfl sizeOf9 (vs:=[sV Ac.Race]) rfl rfl rfl rfl ?_)));clear S;intro w59 hk53 S
               refine Ld (It hk53 (Xy (by kernel_rfl) ?_))
               clear hsel
               replace S:=(S.nl [.blk b2 (Eg.enc (Eg.mk Ac.Site Ac.No Ac.At Ac.Kind Ac.Who An Ac.Race 0 0 An 0)) 101,.blk b1 (Eg.enc Ac) 101] [true,true] rfl).k2 1 6 rfl
               exact Tn (⟨Ac.Who,Ac.Race,An,0,h,S.nf [true,true] rfl (subR rfl)⟩)
             clear S h;rintro a w49 ⟨x23,x24,x25,x26,h,S⟩;rw [hj10] at h;clear hj10 j10
             exact Tn (⟨x23,x24,0,0,x25,x26,h,S.nf [true,true] rfl (subR rfl)⟩)
           clear S h;rintro a w39 ⟨x17,x18,x19,x20,x21,x22,h,S⟩;rw [hj9] at h;clear hj9 j9
           exact Tn (⟨x17,An,x18,x19,x20,x21,x22,h,S.nf [true,true] rfl (subR rfl)⟩)
         clear S h;rintro a w29 ⟨x10,x11,x12,x13,x14,x15,x16,h,S⟩;rw [hj8] at h;clear hj8 j8
         exact Im (Tn (⟨x10,x11,x12,x13,x14,x15,x16,h,S.nf [true,true] rfl (subR rfl)⟩))
        clear S h;rintro a w28 ⟨x3,x4,x5,x6,x7,x8,x9,h,S⟩;rw [hj7] at h;clear hj7 j7
        refine Tn (Fs (Fr (lv S (Gh isAgg101 sizeOf101 (off:=0) (o:=0) (part:=(Eg.enc Ac)) rfl rfl (S.tm rfl) (S.cellsAt (i:=1) rfl)) rfl fun a S=>lv S (Gh isAgg101 sizeOf101 (off:=0) (o:=0) (part:=(Eg.enc (Eg.mk Ac.Site Ac.No Ac.At Ac.Kind x3 x4 x5 x6 x7 x8 x9))) rfl rfl (S.tm rfl) (S.cellsAt (i:=0) rfl)) rfl fun a S=>lv S (KC (m:=Ac) (n:=(Eg.mk Ac.Site Ac.No Ac.At Ac.Kind x3 x4 x5 x6 x7 x8 x9)) (S.tm rfl) (S.tm rfl)) rfl fun a S=>Dl (Fc h (S.tm rfl) (fun hb23 h=>?_) (fun hb23 h=>?_)))))
        ·refine Fr (Vk S rfl rfl fun a S=>Dl (wp_ret (Ek ?_)))
         obtain rfl:=Option.some.inj h
         exact Fd S results118 rfl rfl
        ·refine wp_skip (Tn (Fr (Vk S rfl rfl fun a S=>Dl (wp_ret ?_))))
         obtain rfl:=Option.some.inj h
         exact Fd S results118 rfl rfl
theorem BB (w : World) (Ac : Int) (r : Bool) (h : Rj Ac = r) :
    Calls prog 164 [iV Ac].toArray w (Ret w [] fun _ v _=>v = bV r):=by
 refine Fe func164 rfl ntmps164 rfl fun a S=>?_
 unfold Rj at h
 replace S:=S.k1 0 rfl
 refine Fr (Vk S rfl rfl fun a S=>Dz (Vm S rfl rfl fun a S=>Vm S rfl rfl fun a S=>Vb S Nt rfl rfl rfl fun a S=>Va S rfl rfl ?_));clear S;intro a S
 refine Dl (wp_ret ?_)
 subst h
 exact Fd S results164 rfl rfl
theorem Uc (w : World) (Ac : Int) (Bn : Int) (r : Int) (h : Hx Ac Bn = r) :
    Calls prog 141 [iV Ac,iV Bn].toArray w (Ret w [] fun _ v _=>v = iV r):=by
 refine Fe func141 rfl ntmps141 rfl fun a S=>?_
 unfold Hx at h
 replace S:=S.k2 0 1 rfl
 refine Fr (Vk S rfl rfl fun a S=>Dz (Vm S rfl rfl fun a S=>Er S (fun _=>Ei (vs:=[iV Ac]) ⟨(S.tm rfl),trivial⟩ call164) (BB _ Ac _ rfl) rfl ?_));clear S;intro v1 a w1 hv1 hk1 hn1 S
 subst hv1
 refine Va S rfl rfl fun a S=>Dz (Vm S rfl rfl fun a S=>Er S (fun _=>Ei (vs:=[iV Bn]) ⟨(S.tm rfl),trivial⟩ call164) (BB _ Bn _ rfl) rfl ?_);clear S;intro v2 a w2 hv2 hk2 hn2 S
 subst hv2
 refine Va S rfl rfl fun a S=>Dl (Fs (Fr (Vm S rfl rfl fun a S=>Dl (Fc h (S.tm rfl) (fun hb1 h=>?_) (fun hb1 h=>?_)))))
 ·refine Fs (Fr (Vm S rfl rfl fun a S=>Dl (Fc h (S.tm rfl) (fun hb2 h=>?_) (fun hb2 h=>?_))))
  ·refine Fr (Vk S rfl rfl fun a S=>Dl (wp_ret (Ek (Ek ?_))))
   subst h
   exact Fd S results141 rfl rfl
  ·refine wp_skip (Tn (Fr (Vk S rfl rfl fun a S=>Dl (wp_ret (Ek ?_)))))
   subst h
   exact Fd S results141 rfl rfl
 ·refine wp_skip (Tn (Fs (Fr (Vm S rfl rfl fun a S=>Dl (Fc h (S.tm rfl) (fun hb3 h=>?_) (fun hb3 h=>?_))))))
  ·refine Fr (Vk S rfl rfl fun a S=>Dl (wp_ret (Ek ?_)))
   subst h
   exact Fd S results141 rfl rfl
  ·refine wp_skip (Tn (Fs (Fr (Vm S rfl rfl fun a S=>Vm S rfl rfl fun a S=>Vb S Fp rfl rfl rfl fun a S=>Dl (Fc h (S.tm rfl) (fun hb4 h=>?_) (fun hb4 h=>?_))))))
   ·refine Fr (Vk S rfl rfl fun a S=>Dl (wp_ret (Ek ?_)))
    subst h
    exact Fd S results141 rfl rfl
   ·refine wp_skip (Tn (Fs (Fr (Vm S rfl rfl fun a S=>Vm S rfl rfl fun a S=>Vb S Jz rfl rfl rfl fun a S=>Ld ?_))))
    replace S:=S.k1 19 rfl
    refine Tn (Fc h (S.tm rfl) (fun hb5 h=>?_) (fun hb5 h=>?_))
    ·refine Fr (Vk S rfl rfl fun a S=>Dl (wp_ret (Ek ?_)))
     subst h
     exact Fd S results141 rfl rfl
    ·refine wp_skip (Tn (Fr (Vk S rfl rfl fun a S=>Dl (wp_ret ?_))))
     subst h
     exact Fd S results141 rfl rfl
theorem AO (w : World) (Do : Value) (Di : List Int) (Dj : Slc (view w []) 1 Do (Di.map eInt)) (r : Int) (h : Rt Di = r) :
    Calls prog 140 [Do].toArray w (Ret w [] fun _ v _=>v = iV r):=by
 refine Fe func140 rfl ntmps140 rfl fun a S=>?_
 unfold Rt at h
 replace S:=S.k1 0 rfl
 refine Fr (Vk S rfl rfl fun a S=>Dz (Vk S rfl rfl fun a S=>Dl (Fs ?_)))
 refine Fr (Vm S rfl rfl fun a S=>lv S (Gn Qh (S.tm rfl) (Gk Dj)) rfl fun a S=>lv S (Rm rfl) rfl fun a S=>Dl ?_)
 replace S:=S.k4 3 6 7 8 rfl
 obtain ⟨j1,hj1,h⟩:=Fk h
 refine Fa (fun a w'=>j1 = r ∧ Sx w [] nov [] [(3,iV 0)] 18 a w') ?_ ?_
 ·refine wp_block (Hs (fun (ys1 : List Int) a w'=>∃ i1 : Nat,(∃ dn,Di = dn ++ ys1 ∧ dn.length = i1) ∧ Mt j1 ys1 i1 = r ∧ Sx w [] nov [] [(3,iV 0),(6,Do),(7,iV (Di.length : Int)),(8,iV (i1 : Int))] 18 a w') List.length Di ⟨0,⟨[],rfl,rfl⟩,h,S.nf [] rfl (subR rfl)⟩ ?_)
  clear S h;rintro ys1 a w1 ⟨i1,⟨dn,hd1,hi1⟩,h,S⟩
  cases ys1 with
  | nil =>
   rw [Mt.eq_1] at h
   refine Fr (Vb S Fp rfl rfl rfl fun a S=>Ld ?_)
   replace S:=S.k5 3 6 7 8 9 rfl
   exact Tn (Fs (wp_cond_false ((S.tm rfl).trans (congrArg Value.bool (Jq hd1 hi1))) (wp_exit (Ew (Ew (Hl (Tn (⟨h,S.nf [] rfl ⟨rfl,trivial⟩⟩))))))))
  | cons y1 ys1 =>
   rw [Mt.eq_2] at h
   refine Fr (Vb S Fp rfl rfl rfl fun a S=>Ld ?_)
   replace S:=S.k5 3 6 7 8 9 rfl
   refine Tn (Fs (wp_cond_true ((S.tm rfl).trans (congrArg Value.bool (Iv hd1 hi1))) (wp_skip (Tn (Fs (wp_block (Fs (Fg ?_))))))))
   obtain ⟨b1,o1,hm1,hr1⟩:=Fv (a:=a) (x:=.tmp 6) (y:=.tmp 8) (ty:=0) Qh Dj (Js hd1 hi1) rfl (S.tm rfl) (S.tm rfl)
   refine lv S (hr1 _) rfl ?_;clear S;intro a S
   clear hr1
   refine lv S (Hw isAgg3 (off:=o1) (o:=0) (S.tm rfl) (hm1.at S.emb0) rfl) rfl fun a S=>Va S rfl rfl fun a S=>Dz (Vm S rfl rfl fun a S=>Vm S rfl rfl fun a S=>Vb S Nt rfl rfl rfl fun a S=>Dl ?_)
   refine Fc h (S.tm rfl) (fun hb1 h=>?_) (fun hb1 h=>?_)
   ·refine Fr (Vm S rfl rfl fun a S=>Va S rfl rfl fun a S=>Dl (wp_ret (Gg (Ek (Ek (Gg ?_))))))
    refine Ek (Ek ?_)
    subst h
    exact Fd S results140 rfl rfl
   ·exact wp_skip (Im (Tn (Fg (Vq S Gw rfl rfl rfl fun a S=>Vm S rfl rfl fun a S=>Dl (⟨ys1,⟨i1 + 1,⟨_,(hd1).trans (List.append_cons _ _ _),by simp [hi1]⟩,h,S.nf [] rfl ⟨rfl,rfl,rfl,(congrArg (fun z=>some (Value.int .i64 z)) (Iw hd1 hi1 (Kh Dj))),trivial⟩⟩,Nat.lt_succ_self _⟩)))))
 clear S h;rintro a w2 ⟨h,S⟩;rw [hj1] at h;clear hj1 j1
 refine Tn (Fr (Vm S rfl rfl fun a S=>Va S rfl rfl fun a S=>Dl (wp_ret ?_)))
 subst h
 exact Fd S results140 rfl rfl
set_option maxRecDepth 20000 in
theorem IT (w : World) (Ah : Eg) (Aj : Eg) (r : Int) (h : Og Ah Aj = r) :
    Calls prog 119 [.agg (Eg.enc Ah).toArray,.agg (Eg.enc Aj).toArray].toArray w (Ret w [] fun _ v _=>v = iV r):=by
 refine Fe func119 rfl ntmps119 rfl fun a S=>?_
 unfold Og at h
 replace S:=S.k2 0 1 rfl
 refine Fr (Mk S (S.tm rfl) (cs:=(Eg.enc Ah)) rfl rfl ?_);clear S;intro a w1 b1 hz1 hk1 S
 refine Mk S (S.tm rfl) (cs:=(Eg.enc Aj)) rfl rfl ?_;clear S;intro a w2 b2 hz2 hk2 S
 refine Vk S rfl rfl fun a S=>Dl (Fs (Hd [] ([]) Tryz.mixed S rfl (by kernel_rfl) ?_));clear S;intro w8 hk8 hsel S
 refine Eo 0 S hsel rfl rfl rfl (by kernel_rfl) (by kernel_rfl) rfl (fun _ hw=>(Gb Ul (S.tm rfl))) fun a S=>Eo 1 S hsel rfl rfl rfl (by kernel_rfl) (by kernel_rfl) rfl (fun _ hw=>(Hw isAgg3 (off:=0) (o:=2) (S.tm rfl) ((S.blk_mem (i:=1) (cells:=(Eg.enc Ah)) (b:=b1) (T:=101) rfl (Ik (e':=.blk b1 (Eg.enc Ah) 101))).kept hw) rfl)) fun a S=>Eo 2 S hsel rfl rfl rfl (by kernel_rfl) (by kernel_rfl) rfl (fun _ hw=>(Gb Ul (S.tm rfl))) fun a S=>Eo 3 S hsel rfl rfl rfl (by kernel_rfl) (by kernel_rfl) rfl (fun _ hw=>(Hw isAgg3 (off:=0) (o:=2) (S.tm rfl) ((S.blk_mem (i:=0) (cells:=(Eg.enc Aj)) (b:=b2) (T:=101) rfl (Ik (e':=.blk b2 (Eg.enc Aj) 101))).kept hw) rfl)) fun a S=>Eo 5 S hsel rfl rfl rfl (by kernel_rfl) (by kernel_rfl) rfl (fun _ hw=>(Gb Rd (S.tm rfl))) fun a S=>Eo 6 S hsel rfl rfl rfl (by kernel_rfl) (by kernel_rfl) rfl (fun _ hw=>(Hw isAgg9 (off:=0) (o:=0) (S.tm rfl) ((S.blk_mem (i:=1) (cells:=(Eg.enc Ah)) (b:=b1) (T:=101) rfl (Ik (e':=.blk b1 (Eg.enc Ah) 101))).kept hw) rfl)) fun a S=>Eo 7 S hsel rfl rfl rfl (by kernel_rfl) (by kernel_rfl) rfl (fun _ hw=>(Gb Rd (S.tm rfl))) fun a S=>Eo 8 S hsel rfl rfl rfl (by kernel_rfl) (by kernel_rfl) rfl (fun _ hw=>(Hw isAgg9 (off:=0) (o:=0) (S.tm rfl) ((S.blk_mem (i:=0) (cells:=(Eg.enc Aj)) (b:=b2) (T:=101) rfl (Ik (e':=.blk b2 (Eg.enc Aj) 101))).kept hw) rfl)) fun a S=>Eo 10 S hsel rfl rfl rfl (by kernel_rfl) (by kernel_rfl) rfl (fun _ hw=>(Gb Tl (S.tm rfl))) fun a S=>Eo 11 S hsel rfl rfl rfl (by kernel_rfl) (by kernel_rfl) rfl (fun _ hw=>(Hw isAgg3 (off:=0) (o:=1) (S.tm rfl) ((S.blk_mem (i:=1) (cells:=(Eg.enc Ah)) (b:=b1) (T:=101) rfl (Ik (e':=.blk b1 (Eg.enc Ah) 101))).kept hw) rfl)) ?_;clear S;intro a S
 refine Eo 12 S hsel rfl rfl rfl (by kernel_rfl) (by kernel_rfl) rfl (fun _ hw=>(Gb Tl (S.tm rfl))) fun a S=>Eo 13 S hsel rfl rfl rfl (by kernel_rfl) (by kernel_rfl) rfl (fun _ hw=>(Hw isAgg3 (off:=0) (o:=1) (S.tm rfl) ((S.blk_mem (i:=0) (cells:=(Eg.enc Aj)) (b:=b2) (T:=101) rfl (Ik (e':=.blk b2 (Eg.enc Aj) 101))).kept hw) rfl)) fun a S=>Hi 4 (by kernel_rfl) rfl (Er S (fun _=>Ei (vs:=[iV Ah.At,iV Aj.At]) ⟨(S.tm rfl),(S.tm rfl),trivial⟩ call141) (Uc _ Ah.At Aj.At _ rfl) rfl ?_);clear S;intro v5 a w9 hv5 hk9 hn5 S
 subst hv5
 refine Ld (It hk9 (Hi 9 (by kernel_rfl) rfl (Er S (fun _=>Ei (vs:=[sV Ah.Site,sV Aj.Site]) ⟨(S.tm rfl),(S.tm rfl),trivial⟩ call48) (Pb _ Ah.Site Aj.Site _ rfl) rfl ?_)));clear S;intro v6 a w10 hv6 hk10 hn6 S
 subst hv6
 refine Ld (It hk10 (Hi 14 (by kernel_rfl) rfl (Er S (fun _=>Ei (vs:=[iV Ah.No,iV Aj.No]) ⟨(S.tm rfl),(S.tm rfl),trivial⟩ call141) (Uc _ Ah.No Aj.No _ rfl) rfl ?_)));clear S;intro v7 a w11 hv7 hk11 hn7 S
 subst hv7
 refine Ld (It hk11 (Hi 15 (by kernel_rfl) rfl (Fq S underlying22 sizeOf3 zeroValue3 rfl rfl (pv:=[(0,iV (Hx Ah.At Aj.At)),(1,iV (Ho Ah.Site Aj.Site)),(2,iV (Hx Ah.No Aj.No))]) ⟨rfl,(S.tm rfl),rfl,(S.tm rfl),rfl,(S.tm rfl),trivial⟩ (cs:=[iV (Hx Ah.At Aj.At),iV (Ho Ah.Site Aj.Site),iV (Hx Ah.No Aj.No)]) (by kernel_rfl) rfl ?_)));clear S;intro a w12 b4 hz4 hk12 S
 refine Ld (It hk12 (Hi 16 (by kernel_rfl) rfl (Er S (fun _=>Ei (vs:=[.slice (some ⟨b4,0,none⟩) 3 3]) ⟨(S.tm rfl),trivial⟩ call140) (AO _ (.slice (some ⟨b4,0,none⟩) 3 3) [(Hx Ah.At Aj.At),(Ho Ah.Site Aj.Site),(Hx Ah.No Aj.No)] (Lg Ju S (i:=0) rfl rfl rfl rfl ((Ik (e':=.blk b4 [iV (Hx Ah.At Aj.At),iV (Ho Ah.Site Aj.Site),iV (Hx Ah.No Aj.No)] 3)) _ rfl)) _ rfl) rfl ?_)));clear S;intro v8 a w13 hv8 hk13 hn8 S
 subst hv8
 refine Ld (It hk13 (Kt [17] hsel (by kernel_rfl) rfl ?_))
 clear hsel
 refine Gv S rfl (Ra (S.tm rfl)) rfl fun a S=>Jb ?_
 replace S:=S.n0.k1 4 rfl
 refine Tn (wp_ret ?_)
 subst h
 exact Fd S results119 rfl rfl
theorem Yy (w : World) (Ac : Eg) (r : Fm) (h : Gc Ac = r) :
    Calls prog 120 [.agg (Eg.enc Ac).toArray].toArray w (Ret w [] fun _ v _=>v = .agg (Fm.enc r).toArray):=by
 refine Fe func120 rfl ntmps120 rfl fun a S=>?_
 unfold Gc at h
 replace S:=S.k1 0 rfl
 refine Fr (Mk S (S.tm rfl) (cs:=(Eg.enc Ac)) rfl rfl ?_);clear S;intro a w1 b1 hz1 hk1 S
 refine Iz S zeroValue214 (cs:=[sV An,iV 0]) rfl rfl ?_;clear S;intro a w2 b2 hz2 hk2 S
 refine Dz (Vf Rd S rfl rfl fun a S=>Vl isAgg9 1 S rfl rfl rfl rfl fun a S=>Vf Tl S rfl rfl fun a S=>Vl isAgg3 1 S rfl rfl rfl rfl fun a S=>lv S (Nc XI (pv:=[(0,sV Ac.Site),(1,iV Ac.No)]) ⟨rfl,(S.tm rfl),rfl,(S.tm rfl),trivial⟩ (cs:=[sV Ac.Site,iV Ac.No]) (by kernel_rfl)) rfl fun a S=>Ft S (S.tm rfl) (S.tm rfl) (i:=0) (off:=0) rfl sizeOf214 (vs:=[sV Ac.Site,iV Ac.No]) rfl rfl rfl rfl ?_);clear S;intro w3 hk3 S
 refine Dl (wp_ret ?_)
 subst h
 exact Wh S (rs:=[.cell 2 214]) (vs:=[.agg #[sV Ac.Site,iV Ac.No]]) results120 ⟨(Qy (off:=0) S rfl isAgg214 sizeOf214 rfl (S.cellsAt (i:=0) rfl)),trivial⟩ rfl rfl
set_option maxRecDepth 20000 in
theorem FM (w : World) (Ab : Value) (Ad : List Eg) (Ae : Slc (view w []) 11 Ab (Ad.map Eg.enc)) (r : Int) (h : Qw Ad = some r) :
    Calls prog 82 [Ab].toArray w (Ret w [] fun _ v _=>v = iV r):=by
 refine Fe func82 rfl ntmps82 rfl fun a S=>?_
 unfold Qw at h
 replace S:=S.k1 0 rfl
 refine Fr (Vk S rfl rfl fun a S=>Dl (Fs (Fr (Vm S rfl rfl fun a S=>lv S (Gn Pn (S.tm rfl) (Gk Ae)) rfl fun a S=>Vq S Jz rfl rfl rfl ?_))));clear S;intro a S
 refine Dl (Fc h (S.tm rfl) (fun hb1 h=>?_) (fun hb1 h=>?_))
 ·refine Fr (Vk S rfl rfl fun a S=>Dl (wp_ret (Ek ?_)))
  obtain rfl:=Option.some.inj h
  exact Fd S results82 rfl rfl
 ·refine wp_skip (Tn (Fr (Sf (κ:=Fm) (ν:=Bool) S rfl (fun x=>Value.agg (Fm.enc x).toArray) Value.bool ?_)));clear S;intro a w1 b1 hz1 hk1 S
  refine Va S rfl rfl fun a S=>Dz (Vk S rfl rfl fun a S=>Dl (Fs (Fs (Fg ?_))))
  refine Vm S rfl rfl fun a S=>lv S (Gn Pn (S.tm rfl) (Gk Ae)) rfl fun a S=>lv S (Rm rfl) rfl fun a S=>Dl ?_
  replace S:=(S.nl [.map b1 (Gx (fun x=>Value.agg (Fm.enc x).toArray) Value.bool ([] : List (Fm × Bool))) ([] : List (Fm × Bool)).length] [true] rfl).k6 0 3 4 12 13 14 rfl
  obtain ⟨j1,hj1,h⟩:=Fk h
  refine Fa (fun a w'=>∃ x1 : List (Fm × Bool),∃ x2 : Bool,j1 x1 x2 = some r ∧ Sx w [] nov [.map b1 (Gx (fun x=>Value.agg (Fm.enc x).toArray) Value.bool x1) x1.length] [(4,bV x2)] 48 a w') ?_ ?_
  ·refine wp_block (Hs (fun (ys1 : List Eg) a w'=>∃ i1 : Nat,∃ x1 : List (Fm × Bool),∃ x2 : Bool,(∃ dn,Ad = dn ++ ys1 ∧ dn.length = i1) ∧ Jj Ad j1 ys1 i1 x1 x2 = some r ∧ Sx w [] nov [.map b1 (Gx (fun x=>Value.agg (Fm.enc x).toArray) Value.bool x1) x1.length] [(0,Ab),(3,.map (some b1)),(4,bV x2),(12,Ab),(13,iV (Ad.length : Int)),(14,iV (i1 : Int))] 48 a w') List.length Ad ⟨0,([] : List (Fm × Bool)),false,⟨[],rfl,rfl⟩,h,S.nf [true] rfl (subR rfl)⟩ ?_)
   clear S h;rintro ys1 a w2 ⟨i1,x1,x2,⟨dn,hd1,hi1⟩,h,S⟩
   cases ys1 with
   | nil =>
    rw [Jj.eq_1] at h
    refine Fr (Vb S Fp rfl rfl rfl fun a S=>Ld ?_)
    replace S:=S.k7 0 3 4 12 13 14 15 rfl
    exact Tn (Fs (wp_cond_false ((S.tm rfl).trans (congrArg Value.bool (Jq hd1 hi1))) (wp_exit (Ew (Ew (Hl (Tn (⟨x1,x2,h,S.nf [true] rfl ⟨rfl,trivial⟩⟩))))))))
   | cons y1 ys1 =>
    rw [Jj.eq_2] at h
    refine Fr (Vb S Fp rfl rfl rfl fun a S=>Ld ?_)
    replace S:=S.k7 0 3 4 12 13 14 15 rfl
    refine Tn (Fs (wp_cond_true ((S.tm rfl).trans (congrArg Value.bool (Iv hd1 hi1))) (wp_skip (Tn (Fs (wp_block (Fr (Vm S rfl rfl ?_))))))));clear S;intro a S
    obtain ⟨b2,o1,hm1,hr1⟩:=Fv (a:=a) (x:=.tmp 12) (y:=.tmp 14) (ty:=0) Pn Ae (Js hd1 hi1) rfl (S.tm rfl) (S.tm rfl)
    refine lv S (hr1 _) rfl ?_;clear S;intro a S
    clear hr1
    refine lv S (Gh isAgg101 sizeOf101 (off:=o1) (o:=0) (part:=(Eg.enc y1)) rfl rfl (S.tm rfl) (hm1.at S.emb0)) rfl fun a S=>Iz S zeroValue101 (cs:=[sV An,iV 0,iV 0,iV 0,sV An,sV An,sV An,iV 0,iV 0,sV An,iV 0]) rfl rfl ?_;clear S;intro a w4 b3 hz2 hk2 S
    refine Va S rfl rfl fun a S=>Ft S (S.tm rfl) (S.tm rfl) (i:=0) (off:=0) rfl sizeOf101 (vs:=(Eg.enc y1)) rfl rfl rfl rfl ?_;clear S;intro w5 hk3 S
    refine Dl (Fs (Fr (lv S (Gh isAgg101 sizeOf101 (off:=0) (o:=0) (part:=(Eg.enc y1)) rfl rfl (S.tm rfl) (S.cellsAt (i:=0) rfl)) rfl ?_)));clear S;intro a S
    obtain ⟨r1,hr2,h⟩:=Ga h
    refine Er S (fun _=>Ei (vs:=[.agg (Eg.enc y1).toArray]) ⟨(S.tm rfl),trivial⟩ call118) (GM _ y1 _ hr2) rfl ?_;clear S;intro v1 a w6 hv1 hk4 hn1 S
    subst hv1
    refine Va S rfl rfl fun a S=>Ld ?_
    replace S:=(S.nl [.blk b3 (Eg.enc y1) 101,.map b1 (Gx (fun x=>Value.agg (Fm.enc x).toArray) Value.bool x1) x1.length] [true,true] rfl).k9 0 3 4 5 6 7 12 13 14 rfl
    refine Tn (Fr (Vm S rfl rfl fun a S=>Vq S Nt rfl rfl rfl fun a S=>Dl (Fc h (S.tm rfl) (fun hb2 h=>?_) (fun hb2 h=>?_))))
    ·refine Fr (Vm S rfl rfl fun a S=>Va S rfl rfl fun a S=>Dl (wp_ret (Ek (Gg (Ek (Ek ?_))))))
     refine Gg (Ek (Ek ?_))
     obtain rfl:=Option.some.inj h
     exact Fd S results82 rfl rfl
    ·refine wp_skip (Tn (Fs (Fs ?_)))
     obtain ⟨j2,hj2,h⟩:=Fk h
     refine Fa (fun a w'=>∃ x3 : Bool,j2 x3 = some r ∧ Sx w [] nov [.blk b3 (Eg.enc y1) 101,.map b1 (Gx (fun x=>Value.agg (Fm.enc x).toArray) Value.bool x1) x1.length] [(0,Ab),(3,.map (some b1)),(4,bV x2),(6,.pointer (some ⟨b3,0,none⟩)),(12,Ab),(13,iV (Ad.length : Int)),(14,iV (i1 : Int)),(35,bV x3)] 48 a w') ?_ ?_
     ·rcases Bool.eq_false_or_eq_true (decide (0 < (i1 : Int))) with hb3 | hb3
      ·replace h:=Rz h hb3
       obtain ⟨hc1,h⟩:=Jc h
       refine Hd [] ([]) Tryz.mixed S rfl (by kernel_rfl) ?_;clear S;intro w9 hk6 hsel S
       refine Eo 0 S hsel rfl rfl rfl (by kernel_rfl) (by kernel_rfl) rfl (fun _ hw=>(Rm (S.tm rfl))) fun a S=>Eo 1 S hsel rfl rfl rfl (by kernel_rfl) (by kernel_rfl) rfl (fun _ hw=>(Jz (S.tm rfl) rfl)) fun a S=>Eo 2 S hsel rfl rfl rfl (by kernel_rfl) (by kernel_rfl) rfl (fun _ hw=>(Rm (S.tm rfl))) fun a S=>Ey 3 S hsel rfl rfl rfl rfl hb3 rfl rfl (by kernel_rfl) (by kernel_rfl) rfl (fun _ hw=>(Rm (S.tm rfl))) fun a S=>Ey 4 S hsel rfl rfl rfl rfl hb3 rfl rfl (by kernel_rfl) (by kernel_rfl) rfl (fun _ hw=>(Rm (S.tm rfl))) fun a S=>Ey 5 S hsel rfl rfl rfl rfl hb3 rfl rfl (by kernel_rfl) (by kernel_rfl) rfl (fun _ hw=>(Jt (S.tm rfl) rfl)) ?_;clear S;intro a S
       obtain ⟨b5,o3,hm3,hr4⟩:=Fv (a:=a) (x:=.tmp 27) (y:=.tmp 29) (ty:=0) Pn (Ae.mono (S.le_arg Ez)) (Es hc1).1 (Es hc1).2 (S.tm rfl) (S.tm rfl)
       refine Ey 6 S hsel rfl rfl rfl rfl hb3 rfl rfl (by kernel_rfl) (by kernel_rfl) rfl (fun _ hw=>hr4 _) ?_;clear S;intro a S
       clear hr4
       refine Ey 7 S hsel rfl rfl rfl rfl hb3 rfl rfl (by kernel_rfl) (by kernel_rfl) rfl (fun _ hw=>(Gh isAgg101 sizeOf101 (off:=o3) (o:=0) (part:=(Eg.enc (nth Ad (W ((i1 : Int) - 1))))) rfl rfl (S.tm rfl) (hm3.kept hw))) fun a S=>Ey 8 S hsel rfl rfl rfl rfl hb3 rfl rfl (by kernel_rfl) (by kernel_rfl) rfl (fun _ hw=>(Gh isAgg101 sizeOf101 (off:=0) (o:=0) (part:=(Eg.enc y1)) rfl rfl (S.tm rfl) ((S.blk_mem (i:=0) (cells:=(Eg.enc y1)) (b:=b3) (T:=101) rfl (Ik (e':=.blk b3 (Eg.enc y1) 101))).kept hw))) fun a S=>Hi 9 (by kernel_rfl) rfl (Em S rfl rfl rfl hb3 (Er S (fun _=>Ei (vs:=[.agg (Eg.enc (nth Ad (W ((i1 : Int) - 1)))).toArray,.agg (Eg.enc y1).toArray]) ⟨(S.tm rfl),(S.tm rfl),trivial⟩ call119) (IT _ (nth Ad (W ((i1 : Int) - 1))) y1 _ rfl) rfl ?_));clear S;intro v3 a w10 hv3 hk7 hn3 S
       subst hv3
       refine Ld (It hk7 (Kt [10,11] hsel (by kernel_rfl) rfl ?_))
       clear hsel
       refine Fx S rfl rfl rfl rfl hb3 (He S (Re (S.tm rfl) rfl) rfl fun a S=>Gv S rfl (Qe hb3 (S.tm rfl) (S.tm rfl)) rfl fun a S=>Jb ?_)
       replace S:=S.k16 0 3 4 6 12 13 14 27 28 29 30 31 32 33 34 35 rfl
       exact Tn (⟨decide (0 ≤ (Og (nth Ad (W ((i1 : Int) - 1))) y1)),h,S.nf [true,true] rfl (subR rfl)⟩)
      ·replace h:=Sa h hb3
       refine Hd [] ([]) Tryz.mixed S rfl (by kernel_rfl) ?_;clear S;intro w11 hk8 hsel S
       refine Kt [0,1,2,3,4,5,6,7,8,9,10,11] hsel (by kernel_rfl) rfl ?_
       clear hsel
       refine Gv S rfl (Rm (S.tm rfl)) rfl fun a S=>Gv S rfl (Jz (S.tm rfl) rfl) rfl fun a S=>Gv S rfl (Rm (S.tm rfl)) rfl ?_;clear S;intro a S
       iterate 8 (refine Qo S rfl rfl rfl rfl (Ka hb3) rfl ?_ rfl;clear S;intro a S)
       refine Gv S rfl (Qf hb3 (S.tm rfl) rfl) rfl fun a S=>Jb ?_
       replace S:=S.k8 0 3 4 6 12 13 14 35 rfl
       exact Tn (⟨false,h,S.nf [true,true] rfl (subR rfl)⟩)
     clear S h;rintro a w7 ⟨x3,h,S⟩;rw [hj2] at h;clear hj2 j2
     refine Tn (Fc h (S.tm rfl) (fun hb4 h=>?_) (fun hb4 h=>?_))
     ·refine Fr (Vk S rfl rfl fun a S=>Dl (wp_ret (Ek (Gg (Ek (Ek (Gg ?_)))))))
      refine Ek (Ek ?_)
      obtain rfl:=Option.some.inj h
      exact Fd S results82 rfl rfl
     ·refine wp_skip (Tn (Fr (Vm S rfl rfl fun a S=>Vm S rfl rfl fun a S=>Io 5 (fun a w'=>Keep [] w7 w' ∧ Sx w [] nov [.blk b3 (Eg.enc y1) 101,.map b1 (Gx (fun x=>Value.agg (Fm.enc x).toArray) Value.bool x1) x1.length] [(0,Ab),(3,.map (some b1)),(6,.pointer (some ⟨b3,0,none⟩)),(12,Ab),(13,iV (Ad.length : Int)),(14,iV (i1 : Int)),(42,bV (x2 || (Et x1 (Gc y1) false)))] 48 a w') ?_ ?_)))
      ·rcases Bool.eq_false_or_eq_true x2 with hb5 | hb5
       ·iterate 4 (refine Hk S rfl rfl rfl (Ng hb5) rfl ?_ rfl;clear S;intro a S)
        exact lv S (Lk (Et x1 (Gc y1) false) hb5 (S.tm rfl) rfl) rfl fun a S=>Dl (⟨Keep.refl _ _,S.nf [true,true] rfl (subR rfl)⟩)
       ·refine Em S rfl rfl rfl hb5 (Vm S rfl rfl fun a S=>Em S rfl rfl rfl hb5 (lv S (Gh isAgg101 sizeOf101 (off:=0) (o:=0) (part:=(Eg.enc y1)) rfl rfl (S.tm rfl) (S.cellsAt (i:=0) rfl)) rfl fun a S=>Em S rfl rfl rfl hb5 (Er S (fun _=>Ei (vs:=[.agg (Eg.enc y1).toArray]) ⟨(S.tm rfl),trivial⟩ call120) (Yy _ y1 _ rfl) rfl ?_)));clear S;intro v4 a w13 hv4 hk9 hn4 S
        subst hv4
        exact Em S rfl rfl rfl hb5 (lv S (Qu (kv:=(fun x=>Value.agg (Fm.enc x).toArray)) (vv:=Value.bool) (m:=x1) (key:=(Gc y1)) (z:=false) (S.map_at (i:=1) rfl) underlying212 GK zeroValue4 (S.tm rfl) (S.tm rfl)) rfl fun a S=>lv S (Ll hb5 (S.tm rfl) (S.tm rfl)) rfl fun a S=>Dl (⟨hk9,S.nf [true,true] rfl (subR rfl)⟩))
      clear S;rintro a w12 ⟨hk10,S⟩
      refine Va S rfl rfl fun a S=>Dl (Fg (Vm S rfl rfl fun a S=>lv S (Gh isAgg101 sizeOf101 (off:=0) (o:=0) (part:=(Eg.enc y1)) rfl rfl (S.tm rfl) (S.cellsAt (i:=0) rfl)) rfl fun a S=>Er S (fun _=>Ei (vs:=[.agg (Eg.enc y1).toArray]) ⟨(S.tm rfl),trivial⟩ call120) (Yy _ y1 _ rfl) rfl ?_));clear S;intro v5 a w14 hv5 hk11 hn5 S
      subst hv5
      refine Qa (kv:=(fun x=>Value.agg (Fm.enc x).toArray)) (vv:=Value.bool) (m:=x1) (key:=(Gc y1)) (val:=true) S (i:=1) rfl underlying212 GK (S.tm rfl) (S.tm rfl) rfl ?_;clear S;intro w15 hk12 S
      exact Ld (Im (Tn (Fg (Vq S Gw rfl rfl rfl fun a S=>Vm S rfl rfl fun a S=>Dl (⟨ys1,⟨i1 + 1,(Hj x1 (Gc y1) true),(x2 || (Et x1 (Gc y1) false)),⟨_,(hd1).trans (List.append_cons _ _ _),by simp [hi1]⟩,h,S.nf [false,true] rfl ⟨rfl,rfl,rfl,rfl,rfl,(congrArg (fun z=>some (Value.int .i64 z)) (Iw hd1 hi1 (Kh Ae))),trivial⟩⟩,Nat.lt_succ_self _⟩)))))
  clear S h;rintro a w3 ⟨x1,x2,h,S⟩;rw [hj1] at h;clear hj1 j1
  refine Tn (Fs (Fr (Vm S rfl rfl fun a S=>Dl (Fc h (S.tm rfl) (fun hb6 h=>?_) (fun hb6 h=>?_)))))
  ·refine Fr (Vk S rfl rfl fun a S=>Dl (wp_ret (Ek ?_)))
   obtain rfl:=Option.some.inj h
   exact Fd S results82 rfl rfl
  ·refine wp_skip (Tn (Fr (Vk S rfl rfl fun a S=>Dl (wp_ret ?_))))
   obtain rfl:=Option.some.inj h
   exact Fd S results82 rfl rfl
theorem CL (w : World) (Au : Value) (Aw : List Int) (Ds : (LEnt.own Au 3 1 Aw.length (Aw.flatMap eInt)).holds w) (r : (List Int)) (h : Qg Aw = some r) :
    Calls prog 143 [Au].toArray w (Ret w (Au.ownBlock.toList) fun _ v w'=>(LEnt.own Au 3 1 r.length (r.flatMap eInt)).holds w' ∧ v = .tuple #[]):=by
 refine Nb (Au.ownBlock.toList) [.own Au 3 1 Aw.length (Aw.flatMap eInt)] func143 rfl ntmps143 rfl (fun e he=>by simp only [List.mem_singleton] at he;subst he;exact Ds) (Kw _) (Mv _) fun a S=>?_
 unfold Qg at h
 replace S:=(S.nl [.own Au 3 1 Aw.length (Aw.flatMap eInt)] [true] rfl).k1 0 rfl
 refine Fr (Vm S rfl rfl fun a S=>lv S (Gn Qh (S.tm rfl) (Qb (S.own_at (i:=0) rfl))) rfl fun a S=>Vq S Jt rfl rfl rfl fun a S=>Vk S rfl rfl fun a S=>Va S rfl rfl fun a S=>Dl ?_)
 replace S:=S.k3 0 2 3 rfl
 obtain ⟨j1,hj1,h⟩:=Fk h
 refine Fa (fun a w'=>∃ x1 : List Int,j1 x1 = some r ∧ Sx w (Au.ownBlock.toList) nov [.own Au 3 1 x1.length (x1.flatMap eInt)] [] 28 a w') ?_ ?_
 ·refine wp_block (Hs (fun (m1 : Nat) a w'=>∃ x1 : List Int,∃ x2 : Int,∃ x3 : Int,Km j1 m1 x1 x2 x3 = some r ∧ Sx w (Au.ownBlock.toList) nov [.own Au 3 1 x1.length (x1.flatMap eInt)] [(0,Au),(2,iV x2),(3,iV x3)] 28 a w') id (((W ((Aw.length : Int) - 1)) - 0).toNat + 2) ⟨Aw,0,W ((Aw.length : Int) - 1),h,S.nf [true] rfl (subR rfl)⟩ ?_)
  clear S h;rintro m1 a w1 ⟨x1,x2,x3,h,S⟩
  cases m1 with
  | zero=>rw [Km.eq_1] at h;cases h
  | succ m1 =>
   rw [Km.eq_2] at h
   refine Fs (Fr (Vm S rfl rfl fun a S=>Vm S rfl rfl fun a S=>Vb S Fp rfl rfl rfl fun a S=>Dl (Fc h (S.tm rfl) (fun hb1 h=>?_) (fun hb1 h=>?_))))
   ·refine wp_skip (Tn (Fs (wp_block ?_)))
    obtain ⟨hc1,h⟩:=Jc h
    obtain ⟨hc2,h⟩:=Jc h
    obtain ⟨hc3,h⟩:=Jc h
    obtain ⟨hc4,h⟩:=Jc h
    refine Hd [13,15] ([]) Tryz.mixed S rfl (by kernel_rfl) ?_;clear S;intro w7 hk5 hsel S
    refine Hb 0 S hsel rfl rfl (by kernel_rfl) (by kernel_rfl) rfl (fun _=>(Rm (S.tm rfl))) fun a S=>Hb 1 S hsel rfl rfl (by kernel_rfl) (by kernel_rfl) rfl (fun _=>(Rm (S.tm rfl))) fun a S=>Hb 2 S hsel rfl rfl (by kernel_rfl) (by kernel_rfl) rfl (fun _=>(Rm (S.tm rfl))) fun a S=>Hb 3 S hsel rfl rfl (by kernel_rfl) (by kernel_rfl) rfl (fun _=>(Rm (S.tm rfl))) fun a S=>Hb 4 S hsel rfl rfl (by kernel_rfl) (by kernel_rfl) rfl (fun _=>(Rm (S.tm rfl))) fun a S=>Hb 5 S hsel rfl rfl (by kernel_rfl) (by kernel_rfl) rfl (fun _=>(Rm (S.tm rfl))) ?_;clear S;intro a S
    obtain ⟨b5,hg5,hr5⟩:=Hy (a:=a) (x:=.tmp 18) (y:=.tmp 19) (ty:=0) Qh Ju S (i:=0) rfl (Es hc1).1 (Es hc1).2 (S.tm rfl) (S.tm rfl)
    refine Hb 6 S hsel rfl rfl (by kernel_rfl) (by kernel_rfl) rfl (fun _=>(hr5 _)) ?_;clear S;intro a S
    clear hr5
    refine Eo 7 S hsel rfl (by kernel_rfl) (by kernel_rfl) (by kernel_rfl) (by kernel_rfl) rfl (fun _ hw=>(Hw isAgg3 (off:=x3.toNat * 1) (o:=0) (S.tm rfl) ((Pm Ju S (i:=0) rfl hg5 (Es hc1).1 (Ik (e':=.own Au 3 1 x1.length (x1.flatMap eInt)))).kept hw) rfl)) fun a S=>Hb 8 S hsel rfl rfl (by kernel_rfl) (by kernel_rfl) rfl (fun _=>(Rm (S.tm rfl))) fun a S=>Hb 9 S hsel rfl rfl (by kernel_rfl) (by kernel_rfl) rfl (fun _=>(Rm (S.tm rfl))) ?_;clear S;intro a S
    obtain ⟨b6,hg6,hr6⟩:=Hy (a:=a) (x:=.tmp 22) (y:=.tmp 23) (ty:=0) Qh Ju S (i:=0) rfl (Es hc2).1 (Es hc2).2 (S.tm rfl) (S.tm rfl)
    refine Hb 10 S hsel rfl rfl (by kernel_rfl) (by kernel_rfl) rfl (fun _=>(hr6 _)) ?_;clear S;intro a S
    clear hr6
    refine Eo 11 S hsel rfl (by kernel_rfl) (by kernel_rfl) (by kernel_rfl) (by kernel_rfl) rfl (fun _ hw=>(Hw isAgg3 (off:=x2.toNat * 1) (o:=0) (S.tm rfl) ((Pm Ju S (i:=0) rfl hg6 (Es hc2).1 (Ik (e':=.own Au 3 1 x1.length (x1.flatMap eInt)))).kept hw) rfl)) ?_;clear S;intro a S
    obtain ⟨b7,hg7,hr7⟩:=Hy (a:=a) (x:=.tmp 14) (y:=.tmp 15) (ty:=0) Qh Ju S (i:=0) rfl (Es hc3).1 (Es hc3).2 (S.tm rfl) (S.tm rfl)
    refine Hb 12 S hsel rfl rfl (by kernel_rfl) (by kernel_rfl) rfl (fun _=>(hr7 _)) ?_;clear S;intro a S
    clear hr7
    refine Zb 13 (Au.ownBlock.toList) rfl (by kernel_rfl) rfl (Qn (c:=0) (j:=x2.toNat) (nth x1 x3) Ju S (S.tm rfl) (S.tm rfl) (i:=0) rfl hg7 (Es hc3).1 sizeOf3 (vs:=[iV (nth x1 x3)]) rfl rfl rfl rfl rfl ?_);clear S;intro w9 hk7 S
    refine Ld (Zc ?_)
    obtain ⟨b8,hg8,hr8⟩:=Hy (a:=a) (x:=.tmp 16) (y:=.tmp 17) (ty:=0) Qh Ju S (i:=0) rfl (Es hc4).1 (Es hc4).2 (S.tm rfl) (S.tm rfl)
    refine Eo 14 S hsel rfl rfl rfl (by kernel_rfl) (by kernel_rfl) rfl (fun _ hw=>(hr8 _)) ?_;clear S;intro a S
    clear hr8
    refine Hi 15 (by kernel_rfl) rfl (Qn (c:=0) (j:=x3.toNat) (nth x1 x2) Ju S (S.tm rfl) (S.tm rfl) (i:=0) rfl hg8 (Es hc4).1 sizeOf3 (vs:=[iV (nth x1 x2)]) rfl rfl rfl rfl rfl ?_);clear S;intro w11 hk9 S
    refine Ld (It hk9 (Xy (by kernel_rfl) ?_))
    clear hsel
    replace S:=(S.nl [.own Au 3 1 ((x1.set x2.toNat (nth x1 x3)).set x3.toNat (nth x1 x2)).length (((x1.set x2.toNat (nth x1 x3)).set x3.toNat (nth x1 x2)).flatMap eInt)] [true] rfl).k3 0 2 3 rfl
    refine Im (Tn (Fg (Vm S rfl rfl fun a S=>Vq S Gw rfl rfl rfl fun a S=>Vm S rfl rfl fun a S=>Vq S Jt rfl rfl rfl fun a S=>Va S rfl rfl fun a S=>Va S rfl rfl fun a S=>Dl ?_)))
    exact ⟨m1,⟨((x1.set x2.toNat (nth x1 x3)).set x3.toNat (nth x1 x2)),W (x2 + 1),W (x3 - 1),h,S.nf [true] rfl ⟨rfl,rfl,rfl,trivial⟩⟩,Nat.lt_succ_self _⟩
   ·exact wp_exit (Ew (Ew (Hl (Tn (⟨x1,h,S.nf [true] rfl trivial⟩)))))
 clear S h;rintro a w2 ⟨x1,h,S⟩;rw [hj1] at h;clear hj1 j1
 obtain rfl:=Option.some.inj h
 exact Vg S results143 ⟨(S.holds _ (List.mem_of_getElem? (i:=0) rfl)),rfl⟩
def PX (xs : List Eg) (j : Nat) : Array Value:=#[iV (j : Int),.agg (Eg.enc (nth xs (j : Int))).toArray]
theorem back_in (φ ξ : View) (n Bs : Nat) (sv : Value) (xs : List Eg) (hB : φ Bs = some (.cells [sv].toArray 34 (0,0))) (hs : Slc ξ 11 sv (xs.map Eg.enc)) (l : Nat) (J : Nat → World → Prop) (w : World) (hJ : ∀ k w,J k w → Emb φ w ∧ Emb ξ w) (h0 : J 0 w)
    (hr : ∀ k x w1,(Zk xs.length)[k]? = some x → J k w1 → YieldAt (WF none) (n - 1) prog l (PX xs x) w1 fun e w'=>e = .returned (.bool true) ∧ J (k + 1) w') :
    CallsIn (WF none) n prog 165 (#[.func (.yield l) #[] #[]] ++ #[.pointer (some ⟨Bs,0,none⟩)]) w fun e w'=>(∃ v,e = .returned v) ∧ J (Zk xs.length).length w':=by
  refine i_enter (vs:=[.func (.yield l) #[] #[],.pointer (some ⟨Bs,0,none⟩)]) func165 rfl ntmps165 rfl fun a S=>?_
  have hlen : (Zk xs.length).length = xs.length:=by simp [Zk]
  have hmx:=Kh hs
  have hQ : ∀ fn a w,¬ bodyPost prog fn (fun e w'=>(∃ v,e = .returned v) ∧ J (Zk xs.length).length w') .outgrown a w:=fun _ _ _ ⟨⟨_,e⟩,_⟩=>by cases e
  have hbox : ∀ {k : Nat} {w : World},J k w → Tc w Bs 0 [sv]:=fun hj=>(Pl hB).at (hJ _ _ hj).1
  have hw : ∀ k : Nat,k ≤ xs.length → W ((xs.length : Int) - 1 - (k : Int)) = (xs.length : Int) - 1 - (k : Int):=fun k hk=>Pa (by omega) (by omega)
  refine Zq (Sn (hQ f165) rfl (lv S (Hw isAgg34 (off:=0) (o:=0) (S.tm rfl) (hbox h0) rfl) rfl fun a S=>lv S (Gn Pn (S.tm rfl) (Gk hs)) rfl fun a S=>lv S (Jt (S.tm rfl) rfl) rfl fun a S=>lv S (Ra (S.tm rfl)) rfl fun a S=>Ld (Tn (wpIn_block (i_loop (fun m a w'=>∃ k : Nat,k ≤ xs.length ∧ m = xs.length - k ∧ J k w' ∧ Sx w' [] nov [] [(0,.func (.yield l) #[] #[]),(1,.pointer (some ⟨Bs,0,none⟩)),(3,iV ((xs.length : Int) - 1 - (k : Int)))] 19 a w') xs.length ⟨0,Nat.zero_le _,rfl,h0,?_⟩ ?_)))))
  · have h1:=(S.rebase (w':=w)).sub (K':=[(0,.func (.yield l) #[] #[]),(1,.pointer (some ⟨Bs,0,none⟩)),(3,iV (W ((xs.length : Int) - 1)))]) (subR rfl)
    have h2:=hw 0 (Nat.zero_le _)
    rw [show (((0 : Nat) : Int)) = 0 from rfl,Int.sub_zero] at h2 ⊢
    rw [h2] at h1
    exact h1
  · clear S;rintro m a w1 ⟨k,hk,rfl,hj,S⟩
    refine Zq (Zq (Sn (hQ f165) rfl (lv S (Rm (S.tm rfl)) rfl fun a S=>lv S (Re (S.tm rfl) rfl) rfl fun a S=>Ld (Tn (OK (S.tm rfl) (fun hb=>?_) (fun hb=>?_))))))
    · have hb' : (0 : Int) ≤ (xs.length : Int) - 1 - (k : Int):=by simpa using hb
      have hlt : k < xs.length:=by omega
      have hx:=revI_at hlt
      have hy:=hr k _ w1 hx hj
      have hidx : ((xs.length - 1 - k : Nat) : Int) = (xs.length : Int) - 1 - (k : Int):=by omega
      refine wpIn_skip (Tn (Zq (wpIn_block (Zq (wpIn_region_lit (RT S (Rm (S.tm rfl)) (fun _ h=>by cases h) rfl fun a S=>RT S (Rm (S.tm rfl)) (fun _ h=>by cases h) rfl fun a S=>RT S (Hw isAgg34 (off:=0) (o:=0) (S.tm rfl) (hbox hj) rfl) (fun _ h=>by cases h) rfl fun a S=>RT S (Rm (S.tm rfl)) (fun _ h=>by cases h) rfl ?_))))));clear S;intro a S
      obtain ⟨b1,o1,hm1,hr1⟩:=Fv (a:=a) (x:=.tmp 13) (y:=.tmp 14) (ty:=0) Pn hs (nth_q (show xs.length - 1 - k < xs.length by omega)) rfl (S.tm rfl) (S.tm (by rw [hidx];rfl))
      refine RT S (hr1 _) (fun _ h=>by cases h) rfl fun a S=>RT S (Gh isAgg101 sizeOf101 (off:=o1) (o:=0) (part:=(Eg.enc (nth xs ((xs.length - 1 - k : Nat) : Int)))) rfl rfl (S.tm rfl) (hm1.at (hJ _ _ hj).2)) (fun _ h=>by cases h) rfl ?_;clear S;intro a S
      have h12 : a.eval (.tmp 12) = iV (((xs.length - 1 - k : Nat)) : Int):=by rw [hidx];exact S.tm rfl
      have h16:=S.tm (t:=16) rfl
      refine n_yield S (S.tm rfl) (vs:=PX xs (xs.length - 1 - k)) (by simp [PX,h12,h16]) rfl hy ?_ (fun e w' h=>⟨_,h.1⟩)
      clear S;rintro v w2 a ⟨hv,hj2⟩ S
      obtain rfl : v = .bool true:=by injection hv
      refine RT S (Ig (S.tm rfl)) (fun _ h=>by cases h) rfl fun a S=>n_done (Tn (OK (S.tm rfl) (fun h=>by cases h) (fun _=>wpIn_skip (Im (Tn ?_)))))
      refine Sn (fun a w h=>hQ f165 a w h) rfl (lv S (Rm (S.tm rfl)) rfl fun a S=>lv S (Jt (S.tm rfl) rfl) rfl fun a S=>lv S (Ra (S.tm rfl)) rfl fun a S=>Ld (Tn ⟨xs.length - (k + 1),a,by omega,rfl,k + 1,hlt,rfl,hj2,?_⟩))
      have h1:=S.sub (K':=[(0,.func (.yield l) #[] #[]),(1,.pointer (some ⟨Bs,0,none⟩)),(3,iV (W ((xs.length : Int) - 1 - (k : Int) - 1)))]) (subR rfl)
      have h2:=hw (k + 1) hlt
      have h3 : (xs.length : Int) - 1 - ((k + 1 : Nat) : Int) = (xs.length : Int) - 1 - (k : Int) - 1:=by omega
      rw [h3] at h2 ⊢
      rw [h2] at h1
      exact h1
    · have hb' : ¬ (0 : Int) ≤ (xs.length : Int) - 1 - (k : Int):=by simpa using hb
      obtain rfl : k = xs.length:=by omega
      refine wpIn_exit (Ew (Ew (Hl ?_)))
      show bodyPost _ _ _ .normal _ _
      rw [DJ]
      refine ⟨S.nodefer,.tuple #[],by rw [results_none results165],⟨_,rfl⟩,?_⟩
      rw [hlen]
      exact hj
theorem back_ok (w : World) (sv : Value) (m : Nat) (hsl : Lo sv m) : Calls prog 142 [sv].toArray w (Ret w [] fun τ v _=>∃ Bs,v = .func (.func 165) #[] #[.pointer (some ⟨Bs,0,none⟩)] ∧ τ Bs = some (.cells [sv].toArray 34 (0,0))):=by
  refine Nb [] [] func142 rfl ntmps142 rfl (by simp) (by simp [fps]) (by simp [fps]) fun a S=>(Fs (Fg (Mk S (S.tm rfl) (cs:=[sv]) (Lo.cells hsl) rfl ?_)));clear S;intro a w1 b1 hz1 hk1 S
  refine lv S (Ra rfl) rfl fun a S=>Ld (Tn (Fs (Fg (lv S (Tr (us:=#[]) (vs:=#[.pointer (some ⟨b1,0,none⟩)]) (by simp) (by simp [S.tm (t:=1) rfl])) rfl fun a S=>lv S (Ra (S.tm rfl)) rfl fun a S=>Ld (Tn (wp_ret ?_))))))
  exact Fd S results142 rfl ⟨b1,rfl,blk_ret S (i:=0) rfl rfl⟩
abbrev kvP : Fm → Value:=fun x=>Value.agg (Fm.enc x).toArray
abbrev KE (b1 b2 b3 b4 : Nat) (at_ : Int) (m : List (Fm × Bool)) (x : List Int) (v : Value) : List LEnt :=
  [.own v 3 1 x.length (x.flatMap eInt),.blk b4 [v] 22,.blk b3 [.map (some b2)] 212,.map b2 (Gx kvP Value.bool m) m.length,.blk b1 [iV at_] 3]
set_option maxRecDepth 20000 in
theorem HJ (w : World) (v_l : Value) (l : List Eg) (hs_l : Slc (view w []) 11 v_l (l.map Eg.enc)) (at_ : Int) (r : List Int) (h : Yh l at_ = some r) :
    Calls prog 121 [v_l,iV at_].toArray w (Ret w [] fun τ v _=>Ve τ 3 1 v r.length (r.flatMap eInt)):=by
  have hcons : ∀ {dn is : List Nat} {i : Nat} {k : Nat},Zk l.length = dn ++ i :: is → dn.length = k → (Zk l.length)[k]? = some i:=fun hd hk=>by rw [hd,← hk];simp
  have hQ : ∀ fn a w',¬ bodyPostM (WF none) 3 prog fn (Ret w [] fun τ v _=>Ve τ 3 1 v r.length (r.flatMap eInt)) .outgrown a w':=fun _ _ _ ⟨_,e,_⟩=>by cases e
  refine XM 3 func121 rfl ntmps121 rfl fun a S=>?_
  replace S:=S.nk [] [(0,v_l),(1,iV at_)] [] rfl (subR rfl)
  refine Zq (Sn (hQ f121) rfl (Mk S (S.tm rfl) (cs:=[iV at_]) rfl rfl ?_));clear S;intro a w1 b1 hz1 hk1 S
  refine lv S (Ra rfl) rfl fun a S=>Ld (Tn (Zq (Sn (hQ f121) rfl (Sf (κ:=Fm) (ν:=Bool) S rfl kvP Value.bool ?_))));clear S;intro a w2 b2 hz2 hk2 S
  refine Iz S zeroValue212 (cs:=[.map none]) rfl rfl ?_;clear S;intro a w3 b3 hz3 hk3 S
  refine Ft S (S.tm rfl) (S.tm rfl) (i:=0) (off:=0) rfl sizeOf212 (vs:=[.map (some b2)]) rfl rfl rfl rfl ?_;clear S;intro w4 hk4 S
  refine Ld (Tn (Zq (Sn (hQ f121) rfl (Iz S zeroValue22 (cs:=[.slice none 0 0]) rfl rfl ?_))));clear S;intro a w5 b4 hz5 hk5 S
  replace S:=S.nil 3 1
  refine Ld (Tn (Zq (Zq (Sn (hQ f121) rfl (lv S (Rm (S.tm rfl)) rfl ?_)))));clear S;intro a S
  have hz6:=S.keep.size
  refine Er S (fun _=>Ei (vs:=[v_l]) ⟨(S.tm rfl),trivial⟩ call142) (back_ok _ v_l _ (Gk hs_l)) rfl ?_;clear S;intro v1 a w6 hv1 hk6 hn1 S
  obtain ⟨φ1,hl1,hm1,S⟩:=S.see' hn1 hz6
  obtain ⟨Bs,rfl,hB⟩:=hv1
  replace hB:=hm1 _ _ hB
  refine Ld (Tn (wpIn_block ?_))
  replace S:=S.nk (KE b1 b2 b3 b4 at_ [] [] (.slice none 0 0)) [(3,.pointer (some ⟨b1,0,none⟩)),(5,.pointer (some ⟨b3,0,none⟩)),(6,.pointer (some ⟨b4,0,none⟩)),(11,.func (.func 165) #[] #[.pointer (some ⟨Bs,0,none⟩)])] [true,true,true,true,true] rfl (subR rfl)
  rw [DJ]
  refine i_range (n:=3) (Zk l.length) (PX l) S (S.tm rfl) (fun args w=>call165 args w) (fun _=>rfl)
    (fun ll J W hJ h0 hr=>back_in φ1 (view w []) (3 - 1) Bs v_l l hB hs_l ll J W hJ h0 hr)
    (fun k L'=>∃ m x v,(∃ dn is,Zk l.length = dn ++ is ∧ dn.length = k ∧ Lv l at_ is m x = some r) ∧ L' = KE b1 b2 b3 b4 at_ m x v)
    ⟨[],[],.slice none 0 0,⟨[],_,rfl,rfl,h⟩,rfl⟩ ?_ ?_
  · clear h
    rintro ll D rec k i L' w7 hst hss hx ⟨m,x,v,⟨dn,is,hd,hk,h⟩,rfl⟩ S0
    have hact:=prms2 a 12 13 (iV (i : Int)) (.agg (Eg.enc (nth l (i : Int))).toArray) S0.nodefer
    obtain ⟨is',rfl⟩ : ∃ is',is = i :: is':=by
      cases is with
      | nil=>rw [hd,List.append_nil,← hk] at hx;simp at hx
      | cons j is' =>
        have:=hcons hd hk
        rw [hx] at this
        exact ⟨is',by rw [Option.some.inj this]⟩
    unfold PX
    rw [hact]
    have S:=(S0.put (d:=12) (v:=iV (i : Int)) (by decide)).put (d:=13) (v:=.agg (Eg.enc (nth l (i : Int))).toArray) (by decide)
    generalize ((a.put (some 12) (iV (i : Int))).put (some 13) (.agg (Eg.enc (nth l (i : Int))).toArray)) = a' at S
    refine Zq (Sn (fun _ _ h=>h) rfl (lv S (Ra (S.tm rfl)) rfl fun a S=>Ld (Tn (Sn (fun _ _ h=>h) rfl (Iz S zeroValue101 (cs:=[sV An,iV 0,iV 0,iV 0,sV An,sV An,sV An,iV 0,iV 0,sV An,iV 0]) rfl rfl ?_)))));clear S;intro a w8 b5 hz8 hk8 S
    refine Ft S (S.tm rfl) (S.tm rfl) (i:=0) (off:=0) rfl sizeOf101 (vs:=(Eg.enc (nth l (i : Int)))) rfl rfl rfl rfl ?_;clear S;intro w9 hk9 S
    refine Ld (Tn (i_begin S (i:=1) rfl (hst _) ?_));clear S;intro w10 S
    rw [hss] at S
    replace S:=S.nk (.blk b5 (Eg.enc (nth l (i : Int))) 101 :: .obj ll (.loop (rec .busy)) :: .obj D (.deferred (some [])) :: KE b1 b2 b3 b4 at_ m x v) [(3,.pointer (some ⟨b1,0,none⟩)),(5,.pointer (some ⟨b3,0,none⟩)),(6,.pointer (some ⟨b4,0,none⟩)),(7,iV (i : Int)),(8,.pointer (some ⟨b5,0,none⟩))] [true,true,true,true,true,true,true,true] rfl (subR rfl)
    rw [Lv] at h
    refine wpIn_block (Zq (i_mid (fun b w'=>∃ a,b = Ql [] a ∧ Sx w [] φ1 (.blk b5 (Eg.enc (nth l (i : Int))) 101 :: .obj ll (.loop (rec .busy)) :: .obj D (.deferred (some [])) :: KE b1 b2 b3 b4 at_ m x v) [(3,.pointer (some ⟨b1,0,none⟩)),(5,.pointer (some ⟨b3,0,none⟩)),(6,.pointer (some ⟨b4,0,none⟩)),(7,iV (i : Int)),(8,.pointer (some ⟨b5,0,none⟩)),(23,bV (Yb l at_ i m))] 40 a w') ?_ ?_))
    · rcases Bool.eq_false_or_eq_true (decide (at_ < ((nth l (i : Int)).At))) with hb1 | hb1
      · refine KD [] [] Tryz.mixed rfl S rfl (by kernel_rfl) ?_;clear S;intro w11 hk11 hsel S
        refine Kt [0,1,2,3,4,5,6,7,8,9] hsel (by kernel_rfl) rfl (Gv S rfl (Gb Ul (S.tm rfl)) rfl fun a S=>Gv S rfl (Mg isAgg3 (S.tm rfl) (S.cell (i:=0) rfl rfl)) rfl fun a S=>Gv S rfl (Mg isAgg3 (S.tm rfl) (S.cell (i:=7) rfl rfl)) rfl fun a S=>Gv S rfl (Jz (S.tm rfl) (S.tm rfl)) rfl fun a S=>Gv S rfl (Rm (S.tm rfl)) rfl ?_);clear S;intro a S
        iterate 4 (refine Qo S rfl rfl rfl rfl (Ng hb1) rfl ?_ rfl;clear S;intro a S)
        refine Gv S rfl (Qe hb1 (S.tm rfl) rfl) rfl fun a S=>Jb ?_
        have hq : Yb l at_ i m = true:=by unfold Yb;rw [hb1];rfl
        refine Tn ⟨a,rfl,?_⟩
        rw [hq]
        exact S.nk (.blk b5 (Eg.enc (nth l (i : Int))) 101 :: .obj ll (.loop (rec .busy)) :: .obj D (.deferred (some [])) :: KE b1 b2 b3 b4 at_ m x v) [(3,.pointer (some ⟨b1,0,none⟩)),(5,.pointer (some ⟨b3,0,none⟩)),(6,.pointer (some ⟨b4,0,none⟩)),(7,iV (i : Int)),(8,.pointer (some ⟨b5,0,none⟩)),(23,bV true)] [true,true,true,true,true,true,true,true] rfl (subR rfl)
      · refine KD [] [] Tryz.mixed rfl S rfl (by kernel_rfl) ?_;clear S;intro w11 hk11 hsel S
        refine Eo 0 S hsel rfl rfl rfl (by kernel_rfl) (by kernel_rfl) rfl (fun _ hw=>(Gb Ul (S.tm rfl))) fun a S=>Eo 1 S hsel rfl rfl rfl (by kernel_rfl) (by kernel_rfl) rfl (fun _ hw=>(Hw isAgg3 (off:=0) (o:=2) (S.tm rfl) ((S.blk_mem (i:=0) (cells:=(Eg.enc (nth l (i : Int)))) (b:=b5) (T:=101) rfl (Ik (e':=.blk b5 (Eg.enc (nth l (i : Int))) 101))).kept hw) rfl)) fun a S=>Eo 2 S hsel rfl rfl rfl (by kernel_rfl) (by kernel_rfl) rfl (fun _ hw=>(Hw isAgg3 (off:=0) (o:=0) (S.tm rfl) ((S.blk_mem (i:=7) (cells:=[iV at_]) (b:=b1) (T:=3) rfl (Ik (e':=.blk b1 [iV at_] 3))).kept hw) rfl)) fun a S=>Eo 3 S hsel rfl rfl rfl (by kernel_rfl) (by kernel_rfl) rfl (fun _ hw=>(Jz (S.tm rfl) (S.tm rfl))) fun a S=>Eo 4 S hsel rfl rfl rfl (by kernel_rfl) (by kernel_rfl) rfl (fun _ hw=>(Rm (S.tm rfl))) fun a S=>Ey 5 S hsel rfl rfl rfl rfl hb1 rfl rfl (by kernel_rfl) (by kernel_rfl) rfl (fun _ hw=>(Hw isAgg212 (off:=0) (o:=0) (S.tm rfl) ((S.blk_mem (i:=5) (cells:=[.map (some b2)]) (b:=b3) (T:=212) rfl (Ik (e':=.blk b3 [.map (some b2)] 212))).kept hw) rfl)) fun a S=>Ey 6 S hsel rfl rfl rfl rfl hb1 rfl rfl (by kernel_rfl) (by kernel_rfl) rfl (fun _ hw=>(Gh isAgg101 sizeOf101 (off:=0) (o:=0) (part:=(Eg.enc (nth l (i : Int)))) rfl rfl (S.tm rfl) ((S.blk_mem (i:=0) (cells:=(Eg.enc (nth l (i : Int)))) (b:=b5) (T:=101) rfl (Ik (e':=.blk b5 (Eg.enc (nth l (i : Int))) 101))).kept hw))) fun a S=>Hi 7 (by kernel_rfl) rfl (Em S rfl rfl rfl hb1 (Er S (fun _=>Ei (vs:=[.agg (Eg.enc (nth l (i : Int))).toArray]) ⟨(S.tm rfl),trivial⟩ call120) (Yy _ (nth l (i : Int)) _ rfl) rfl ?_));clear S;intro v3 a w12 hv2 hk9 hn2 S
        subst hv2
        refine Ld (It hk9 (Kt [8,9] hsel (by kernel_rfl) rfl ?_))
        refine Fx S rfl rfl rfl rfl hb1 (He S (Qu (kv:=kvP) (vv:=Value.bool) (m:=m) (key:=(Gc (nth l (i : Int)))) (z:=false) (S.map_at (i:=6) rfl) underlying212 GK zeroValue4 (S.tm rfl) (S.tm rfl)) rfl fun a S=>Gv S rfl (Qf hb1 (S.tm rfl) (S.tm rfl)) rfl fun a S=>Jb ?_)
        have hq : Yb l at_ i m = Et m (Gc (nth l (i : Int))) false:=by unfold Yb;rw [hb1];rfl
        refine Tn ⟨a,rfl,?_⟩
        rw [hq]
        exact S.nk (.blk b5 (Eg.enc (nth l (i : Int))) 101 :: .obj ll (.loop (rec .busy)) :: .obj D (.deferred (some [])) :: KE b1 b2 b3 b4 at_ m x v) [(3,.pointer (some ⟨b1,0,none⟩)),(5,.pointer (some ⟨b3,0,none⟩)),(6,.pointer (some ⟨b4,0,none⟩)),(7,iV (i : Int)),(8,.pointer (some ⟨b5,0,none⟩)),(23,bV (Et m (Gc (nth l (i : Int))) false))] [true,true,true,true,true,true,true,true] rfl (subR rfl)
    · clear S;rintro _ w11 ⟨a,rfl,S⟩
      refine OK (S.tm rfl) (fun hb2=>?_) (fun hb2=>?_)
      · rw [if_pos hb2] at h
        refine wpIn_exit (Ew (Hl ?_))
        exact ⟨_,⟨m,x,v,⟨dn ++ [i],is',by rw [hd];simp,by simp [hk],h⟩,rfl⟩,S0.back (S.nk (.obj ll (.loop (rec .busy)) :: .obj D (.deferred (some [])) :: KE b1 b2 b3 b4 at_ m x v) [] [false,true,true,true,true,true,true,true] rfl (subR rfl))⟩
      · rw [if_neg (by rw [hb2];simp)] at h
        obtain ⟨hc2,h⟩:=Jc h
        refine wpIn_skip (Tn (i_mid (fun b w'=>∃ a,b = Ql [] a ∧ Sx w [] φ1 (.blk b5 (Eg.enc (nth l (i : Int))) 101 :: .obj ll (.loop (rec .busy)) :: .obj D (.deferred (some [])) :: KE b1 b2 b3 b4 at_ (if decide ((nth l (i : Int)).Kind = 4) = true then Hj m (Fm.mk ((nth l (i : Int)).Of) ((nth l (i : Int)).Other)) true else m) x v) [(6,.pointer (some ⟨b4,0,none⟩)),(7,iV (i : Int)),(8,.pointer (some ⟨b5,0,none⟩))] 40 a w') ?_ ?_))
        · refine Zq (Sn (fun _ _ h=>h) rfl (lv S (Gb Pv (S.tm rfl)) rfl ?_));clear S;intro a S
          refine lv S (Mg isAgg3 (S.tm rfl) (S.cell (i:=0) rfl rfl)) rfl fun a S=>lv S (Jn (S.tm rfl) rfl) rfl fun a S=>Ld (Tn (OK (S.tm rfl) (fun hb3=>?_) (fun hb3=>?_)))
          · rw [if_pos hb3]
            refine Sn (fun _ _ h=>h) rfl (lv S (Mg isAgg212 (S.tm rfl) (S.cell (i:=5) rfl rfl)) rfl fun a S=>lv S (Gb Yr (S.tm rfl)) rfl fun a S=>lv S (Mg isAgg9 (S.tm rfl) (S.cell (i:=0) rfl rfl)) rfl fun a S=>lv S (Gb Wc (S.tm rfl)) rfl fun a S=>lv S (Mg isAgg3 (S.tm rfl) (S.cell (i:=0) rfl rfl)) rfl fun a S=>lv S (Nc XI (pv:=[(0,sV ((nth l (i : Int)).Of)),(1,iV ((nth l (i : Int)).Other))]) ⟨rfl,(S.tm rfl),rfl,(S.tm rfl),trivial⟩ (cs:=[sV ((nth l (i : Int)).Of),iV ((nth l (i : Int)).Other)]) (by kernel_rfl)) rfl fun a S=>Qa (kv:=kvP) (vv:=Value.bool) (m:=m) (key:=(Fm.mk ((nth l (i : Int)).Of) ((nth l (i : Int)).Other))) (val:=true) S (i:=6) rfl underlying212 GK (S.tm rfl) (S.tm rfl) rfl ?_);clear S;intro w13 hk10 S
            refine Ld (Tn ⟨a,rfl,?_⟩)
            exact S.nk (.blk b5 (Eg.enc (nth l (i : Int))) 101 :: .obj ll (.loop (rec .busy)) :: .obj D (.deferred (some [])) :: KE b1 b2 b3 b4 at_ (Hj m (Fm.mk ((nth l (i : Int)).Of) ((nth l (i : Int)).Other)) true) x v) [(6,.pointer (some ⟨b4,0,none⟩)),(7,iV (i : Int)),(8,.pointer (some ⟨b5,0,none⟩))] [true,true,true,true,true,true,true,true] rfl (subR rfl)
          · rw [if_neg (by rw [hb3];simp)]
            refine wpIn_skip (Tn ⟨a,rfl,?_⟩)
            exact S.nk (.blk b5 (Eg.enc (nth l (i : Int))) 101 :: .obj ll (.loop (rec .busy)) :: .obj D (.deferred (some [])) :: KE b1 b2 b3 b4 at_ m x v) [(6,.pointer (some ⟨b4,0,none⟩)),(7,iV (i : Int)),(8,.pointer (some ⟨b5,0,none⟩))] [true,true,true,true,true,true,true,true] rfl (subR rfl)
        · clear S;rintro _ w12 ⟨a,rfl,S⟩
          generalize (if decide ((nth l (i : Int)).Kind = 4) = true then Hj m (Fm.mk ((nth l (i : Int)).Of) ((nth l (i : Int)).Other)) true else m) = m2 at h S
          refine Sn (fun _ _ h=>h) rfl (lv S (Mg isAgg22 (S.tm rfl) (S.cell (i:=4) rfl rfl)) rfl fun a S=>lv S (Rm (S.tm rfl)) rfl fun a S=>Fq S underlying22 sizeOf3 zeroValue3 rfl rfl (pv:=[(0,iV (i : Int))]) ⟨rfl,(S.tm rfl),trivial⟩ (cs:=[iV (i : Int)]) (by kernel_rfl) rfl ?_);clear S;intro a w14 b6 hz5 hk11 S
          refine Np Qh Ju S (S.tm rfl) (i:=4) rfl (S.tm rfl) (j:=0) rfl (ys:=[(i : Int)]) rfl rfl rfl rfl (by have:=Nx hc2;omega) rfl ?_;clear S;intro v4 a w15 hk12 S
          refine Ft S (S.tm rfl) (S.tm rfl) (i:=5) (off:=0) rfl sizeOf22 (vs:=[v4]) (Lo.cells (Qb (S.own_at (i:=4) rfl))) rfl rfl (Rf (Lo.one (Qb (S.own_at (i:=4) rfl))) rfl) ?_;clear S;intro w16 hk13 S
          refine Ld (Im ?_)
          exact ⟨_,⟨m2,x ++ [(i : Int)],v4,⟨dn ++ [i],is',by rw [hd];simp,by simp [hk],h⟩,rfl⟩,S0.back (S.nk (.obj ll (.loop (rec .busy)) :: .obj D (.deferred (some [])) :: KE b1 b2 b3 b4 at_ m2 (x ++ [(i : Int)]) v4) [] [false,false,true,true,true,true,true,true,true] rfl (subR rfl))⟩
  · rintro D ll o L' w7 ⟨m,x,v,⟨dn,is,hd,hk,h⟩,rfl⟩ S
    obtain rfl : is = []:=by
      have h1:=congrArg List.length hd
      rw [List.length_append] at h1
      exact List.length_eq_zero_iff.1 (by omega)
    rw [Lv] at h
    refine Im (Tn (Zq (Sn (hQ f121) rfl (lv S (Mg isAgg22 (S.tm rfl) (S.cell (i:=3) rfl rfl)) rfl fun a S=>Pc 2 S rfl (fun _=>.own v 3 1 r.length (r.flatMap eInt)) (fun _=>Ei (vs:=[v]) ⟨(S.tm rfl),trivial⟩ call143) (CL _ v x (S.holds _ (List.mem_of_getElem? (i:=2) rfl)) _ h) rfl (fun _ _ _ h=>⟨h.1,fun _ hc=>hc⟩) ?_))));clear S;intro v5 a w17 hv3 hk14 hn3 S
    replace hv3:=hv3.2
    subst hv3
    refine Ld (Tn (Zq (Sn (hQ f121) rfl (lv S (Mg isAgg22 (S.tm rfl) (S.cell (i:=3) rfl rfl)) rfl fun a S=>lv S (Ra (S.tm rfl)) rfl fun a S=>Ld (Tn (wpIn_ret ?_))))))
    exact i_ret S (i:=1) rfl results121 rfl (fun w' S=>Uf S (i:=2) rfl rfl)
theorem IU (w : World) (ψ : View) (hψ : View.le ψ (view w [])) (Ag : Ni) (Cm : R32) (Cu : Wm ψ Ag Cm) (Ab : Value) (Ad : List Eg) (Ae : Slc ψ 11 Ab (Ad.map Eg.enc)) (Bd : Int) (r : (Option Lm)) (h : Xp Ag Ad Bd = some r) :
    Calls prog 83 [.agg (R32.enc Cm).toArray,Ab,iV Bd].toArray w (Ret w [] fun τ v _=>EM (join ψ τ) 128 GA.enc BT v r):=by
 obtain ⟨u1,u2,rfl,hs1,⟨u3,rfl,hs2⟩⟩:=Cu
 refine Fe func83 rfl ntmps83 rfl fun a S=>?_
 unfold Xp at h
 replace S:=S.k3 0 1 2 rfl
 refine Fr (Mk S (S.tm rfl) (cs:=[u1.val,u3.val,iV Ag.Table.Relay,iV Ag.Table.Most,iV Ag.Final.Size,iV Ag.Final.Many,iV Ag.Final.Reserves]) rfl rfl ?_);clear S;intro a w1 b1 hz1 hk1 S
 refine Vk S rfl rfl fun a S=>Dz (lv S (Gh isAgg32 sizeOf32 (off:=0) (o:=0) (part:=[u1.val,u3.val,iV Ag.Table.Relay,iV Ag.Table.Most,iV Ag.Final.Size,iV Ag.Final.Many,iV Ag.Final.Reserves]) rfl rfl (S.tm rfl) (S.cellsAt (i:=0) rfl)) rfl ?_);clear S;intro a S
 refine lv S (Nc bt_128 (pv:=[(0,.agg #[u1.val,u3.val,iV Ag.Table.Relay,iV Ag.Table.Most,iV Ag.Final.Size,iV Ag.Final.Many,iV Ag.Final.Reserves])]) ⟨rfl,(S.tm rfl),trivial⟩ (cs:=[u1.val,u3.val,iV Ag.Table.Relay,iV Ag.Table.Most,iV Ag.Final.Size,iV Ag.Final.Many,iV Ag.Final.Reserves,.slice none 0 0]) (by obtain ⟨_,_,hv⟩:=(Gk hs1);rw [hv];clear hv;obtain ⟨_,_,hv⟩:=(Gk hs2);rw [hv];clear hv;kernel_rfl)) rfl ?_;clear S;intro a S
 refine Mk S (S.tm rfl) (cs:=[u1.val,u3.val,iV Ag.Table.Relay,iV Ag.Table.Most,iV Ag.Final.Size,iV Ag.Final.Many,iV Ag.Final.Reserves,.slice none 0 0]) rfl rfl ?_;clear S;intro a w2 b2 hz2 hk2 S
 replace S:=S.nil 101 11
 refine Va S rfl rfl fun a S=>Dl (Fs (Fr (Vm S rfl rfl fun a S=>Vm S rfl rfl ?_)));clear S;intro a S
 obtain ⟨r1,hr1,h⟩:=Ga h
 have hz3:=S.keep.size
 refine Er S (fun _=>Ei (vs:=[Ab,iV Bd]) ⟨(S.tm rfl),(S.tm rfl),trivial⟩ call121) (HJ _ Ab Ad (Ae.mono (View.le_trans hψ (S.le_arg Ez))) Bd _ hr1) rfl ?_;clear S;intro v1 a w3 hv1 hk3 hn1 S
 obtain ⟨φ1,hl1,hm1,S⟩:=S.see' hn1 hz3
 have hs3:=hv1.mono hm1
 refine lv S (Gn Qh (S.tm rfl) (Gk (Hn Ju hs3))) rfl fun a S=>lv S (Rm rfl) rfl fun a S=>Dl ?_
 replace S:=(S.nl [.own (.slice none 0 0) 101 11 ([] : List Eg).length (([] : List Eg).flatMap Eg.enc),.blk b2 [u1.val,u3.val,iV Ag.Table.Relay,iV Ag.Table.Most,iV Ag.Final.Size,iV Ag.Final.Many,iV Ag.Final.Reserves,(.slice none 0 0)] 128] [true,true,false] rfl).k5 1 7 15 16 17 rfl
 obtain ⟨j1,hj1,h⟩:=Fk h
 refine Fa (fun a w'=>∃ x1 : List Eg,∃ v2 : Value,j1 x1 = some r ∧ Sx w [] φ1 [.own v2 101 11 x1.length (x1.flatMap Eg.enc),.blk b2 [u1.val,u3.val,iV Ag.Table.Relay,iV Ag.Table.Most,iV Ag.Final.Size,iV Ag.Final.Many,iV Ag.Final.Reserves,v2] 128] [(7,.pointer (some ⟨b2,0,none⟩))] 36 a w') ?_ ?_
 ·refine wp_block (Hs (fun (ys1 : List Int) a w'=>∃ i1 : Nat,∃ x1 : List Eg,∃ v2 : Value,(∃ dn,r1 = dn ++ ys1 ∧ dn.length = i1) ∧ Nj Ad j1 ys1 i1 x1 = some r ∧ Sx w [] φ1 [.own v2 101 11 x1.length (x1.flatMap Eg.enc),.blk b2 [u1.val,u3.val,iV Ag.Table.Relay,iV Ag.Table.Most,iV Ag.Final.Size,iV Ag.Final.Many,iV Ag.Final.Reserves,v2] 128] [(1,Ab),(7,.pointer (some ⟨b2,0,none⟩)),(15,v1),(16,iV (r1.length : Int)),(17,iV (i1 : Int))] 36 a w') List.length r1 ⟨0,([] : List Eg),(.slice none 0 0),⟨[],rfl,rfl⟩,h,S.nf [true,true] rfl (subR rfl)⟩ ?_)
  clear S h;rintro ys1 a w4 ⟨i1,x1,v2,⟨dn,hd1,hi1⟩,h,S⟩
  cases ys1 with
  | nil =>
   rw [Nj.eq_1] at h
   refine Fr (Vb S Fp rfl rfl rfl fun a S=>Ld ?_)
   replace S:=S.k6 1 7 15 16 17 18 rfl
   exact Tn (Fs (wp_cond_false ((S.tm rfl).trans (congrArg Value.bool (Jq hd1 hi1))) (wp_exit (Ew (Ew (Hl (Tn (⟨x1,v2,h,S.nf [true,true] rfl ⟨rfl,trivial⟩⟩))))))))
  | cons y1 ys1 =>
   rw [Nj.eq_2] at h
   refine Fr (Vb S Fp rfl rfl rfl fun a S=>Ld ?_)
   replace S:=S.k6 1 7 15 16 17 18 rfl
   refine Tn (Fs (wp_cond_true ((S.tm rfl).trans (congrArg Value.bool (Iv hd1 hi1))) (wp_skip (Tn (Fs (wp_block (Fs (Fg ?_))))))))
   obtain ⟨b3,o1,hm2,hr2⟩:=Fv (a:=a) (x:=.tmp 15) (y:=.tmp 17) (ty:=0) Qh (Hn Ju hs3) (Js hd1 hi1) rfl (S.tm rfl) (S.tm rfl)
   refine lv S (hr2 _) rfl ?_;clear S;intro a S
   clear hr2
   refine lv S (Hw isAgg3 (off:=o1) (o:=0) (S.tm rfl) (hm2.at S.emb) rfl) rfl fun a S=>Va S rfl rfl fun a S=>Dl ?_
   obtain ⟨hc1,h⟩:=Jc h
   obtain ⟨hc2,h⟩:=Jc h
   refine Hd [13] (v2.ownBlock.toList) Tryz.mixed S rfl (by kernel_rfl) ?_;clear S;intro w9 hk7 hsel S
   refine Hb 0 S hsel rfl rfl (by kernel_rfl) (by kernel_rfl) rfl (fun _=>(Rm (S.tm rfl))) fun a S=>Hb 1 S hsel rfl rfl (by kernel_rfl) (by kernel_rfl) rfl (fun _=>(Rm (S.tm rfl))) fun a S=>Hb 2 S hsel rfl rfl (by kernel_rfl) (by kernel_rfl) rfl (fun _=>(Jh (S.tm rfl))) fun a S=>Hb 3 S hsel rfl rfl (by kernel_rfl) (by kernel_rfl) rfl (fun _=>(Gb GH (S.tm rfl))) fun a S=>Eo 4 S hsel rfl (by kernel_rfl) (by kernel_rfl) (by kernel_rfl) (by kernel_rfl) rfl (fun _ hw=>(Hw isAgg34 (off:=0) (o:=7) (S.tm rfl) ((S.blk_mem (i:=1) (cells:=[u1.val,u3.val,iV Ag.Table.Relay,iV Ag.Table.Most,iV Ag.Final.Size,iV Ag.Final.Many,iV Ag.Final.Reserves,v2]) (b:=b2) (T:=128) rfl (Nf (i:=0) (j:=1) (e:=.own v2 101 11 x1.length (x1.flatMap Eg.enc)) (e':=.blk b2 [u1.val,u3.val,iV Ag.Table.Relay,iV Ag.Table.Most,iV Ag.Final.Size,iV Ag.Final.Many,iV Ag.Final.Reserves,v2] 128) S rfl rfl rfl)).kept hw) rfl)) fun a S=>Hb 5 S hsel rfl rfl (by kernel_rfl) (by kernel_rfl) rfl (fun _=>(Rm (S.tm rfl))) fun a S=>Hb 6 S hsel rfl rfl (by kernel_rfl) (by kernel_rfl) rfl (fun _=>(Rm (S.tm rfl))) ?_;clear S;intro a S
   obtain ⟨b6,o3,hm4,hr4⟩:=Fv (a:=a) (x:=.tmp 26) (y:=.tmp 27) (ty:=0) Pn (Ae.mono (View.le_trans hψ (S.le_arg (Jr (i:=0) (e:=.own v2 101 11 x1.length (x1.flatMap Eg.enc)) rfl)))) (Es hc1).1 (Es hc1).2 (S.tm rfl) (S.tm rfl)
   refine Hb 7 S hsel rfl rfl (by kernel_rfl) (by kernel_rfl) rfl (fun _=>hr4 _) ?_;clear S;intro a S
   clear hr4
   refine Eo 8 S hsel rfl (by kernel_rfl) (by kernel_rfl) (by kernel_rfl) (by kernel_rfl) rfl (fun _ hw=>(Gh isAgg101 sizeOf101 (off:=o3) (o:=0) (part:=(Eg.enc (nth Ad y1))) rfl rfl (S.tm rfl) (hm4.kept hw))) fun a S=>Hi 9 (by kernel_rfl) rfl (Fq S underlying34 sizeOf101 zeroValue101 rfl rfl (pv:=[(0,.agg (Eg.enc (nth Ad y1)).toArray)]) ⟨rfl,(S.tm rfl),trivial⟩ (cs:=[sV ((nth Ad y1).Site),iV ((nth Ad y1).No),iV ((nth Ad y1).At),iV ((nth Ad y1).Kind),sV ((nth Ad y1).Who),sV ((nth Ad y1).Club),sV ((nth Ad y1).Race),iV ((nth Ad y1).Time),iV ((nth Ad y1).Fault),sV ((nth Ad y1).Of),iV ((nth Ad y1).Other)]) (by kernel_rfl) rfl ?_);clear S;intro a w10 b7 hz5 hk8 S
   refine Ld (It (Keep.none hk8) (Hi 10 (by kernel_rfl) rfl ?_))
   refine Np Pn Eg.enc_ok S (S.tm rfl) (i:=1) rfl (S.tm rfl) (j:=0) rfl (ys:=[(nth Ad y1)]) rfl rfl rfl rfl (by have:=Nx hc2;omega) rfl ?_;clear S;intro v4 a w11 hk9 S
   refine Ld (It hk9 (Hb 11 S hsel rfl rfl (by kernel_rfl) (by kernel_rfl) rfl (fun _=>(Jh (S.tm rfl))) fun a S=>Hb 12 S hsel rfl rfl (by kernel_rfl) (by kernel_rfl) rfl (fun _=>(Gb GH (S.tm rfl))) fun a S=>Zb 13 (v4.ownBlock.toList ++ [b2]) rfl (by kernel_rfl) rfl (Ft S (S.tm rfl) (S.tm rfl) (i:=2) (off:=7) rfl sizeOf34 (vs:=[v4]) (Lo.cells (Qb (S.own_at (i:=1) rfl))) rfl rfl (Rf (Lo.one (Qb (S.own_at (i:=1) rfl))) rfl) ?_)));clear S;intro w12 hk10 S
   refine Ld (Zc (Xy (by kernel_rfl) ?_))
   clear hsel
   replace S:=(S.nl [.own v4 101 11 (x1 ++ [(nth Ad y1)]).length ((x1 ++ [(nth Ad y1)]).flatMap Eg.enc),.blk b2 [u1.val,u3.val,iV Ag.Table.Relay,iV Ag.Table.Most,iV Ag.Final.Size,iV Ag.Final.Many,iV Ag.Final.Reserves,v4] 128] [false,true,true] rfl).k5 1 7 15 16 17 rfl
   exact Im (Tn (Fg (Vq S Gw rfl rfl rfl fun a S=>Vm S rfl rfl fun a S=>Dl (⟨ys1,⟨i1 + 1,(x1 ++ [(nth Ad y1)]),v4,⟨_,(hd1).trans (List.append_cons _ _ _),by simp [hi1]⟩,h,S.nf [true,true] rfl ⟨rfl,rfl,rfl,rfl,(congrArg (fun z=>some (Value.int .i64 z)) (Iw hd1 hi1 (Kh (Hn Ju hs3)))),trivial⟩⟩,Nat.lt_succ_self _⟩))))
 clear S h;rintro a w5 ⟨x1,v2,h,S⟩;rw [hj1] at h;clear hj1 j1
 refine Tn (Fr (Vm S rfl rfl fun a S=>Va S rfl rfl fun a S=>Dl (wp_ret ?_)))
 obtain ⟨φ2,hl2,hs4,S⟩:=S.freezeT (xs:=x1) (enc:=Eg.enc) (i:=0) rfl (fun _ h=>by cases h)
 replace S:=S.nk [.blk b2 [u1.val,u3.val,iV Ag.Table.Relay,iV Ag.Table.Most,iV Ag.Final.Size,iV Ag.Final.Many,iV Ag.Final.Reserves,v2] 128] [(6,.pointer (some ⟨b2,0,none⟩)),(7,.pointer (some ⟨b2,0,none⟩)),(35,.pointer (some ⟨b2,0,none⟩))] [] rfl (subR rfl)
 obtain ⟨φ3,hl3,hb1,S⟩:=S.freezeB (i:=0) rfl (by simp)
 replace S:=S.nk [] [(6,.pointer (some ⟨b2,0,none⟩)),(7,.pointer (some ⟨b2,0,none⟩)),(35,.pointer (some ⟨b2,0,none⟩))] [] rfl (subR rfl)
 obtain rfl:=Option.some.inj h
 exact Fd S results83 rfl (EM.mk (GA.mk (R32.mk u1 (R28.mk u3 Ag.Table.Relay Ag.Table.Most) Ag.Final) ⟨v2,Lo.one (Gk (Hn Eg.enc_ok hs4))⟩) (Ua (Wy hψ S.le_newer) _ _ ⟨(R32.mk u1 (R28.mk u3 Ag.Table.Relay Ag.Table.Most) Ag.Final),⟨v2,Lo.one (Gk (Hn Eg.enc_ok hs4))⟩,rfl,⟨u1,(R28.mk u3 Ag.Table.Relay Ag.Table.Most),rfl,(hs1.mono (le_join_left _ _)),⟨u3,rfl,(hs2.mono (le_join_left _ _))⟩⟩,((Hn Eg.enc_ok hs4).mono (View.le_trans hl3 (S.all_right hψ)))⟩) ((Wy hψ S.le_newer) _ _ ((S.all_right hψ) _ _ hb1)))
set_option maxRecDepth 20000 in
theorem OL (w : World) (ψ : View) (hψ : View.le ψ (view w [])) (Ag : Ni) (Cm : R32) (Cu : Wm ψ Ag Cm) (Ab : Value) (Ad : List Eg) (Ae : Slc ψ 11 Ab (Ad.map Eg.enc)) (Dk : Value) (Bd : List Int) (Dh : Slc ψ 1 Dk (Bd.map eInt)) (r : (Option Lm) × Int) (h : AV Ag Ad Bd = some r) :
    Calls prog 43 [.agg (R32.enc Cm).toArray,Ab,Dk].toArray w (Ret w [] fun τ v _=>∃ u1 : Value,v = .tuple #[u1,iV r.2] ∧ EM (join ψ τ) 128 GA.enc BT u1 r.1):=by
 obtain ⟨u1,u2,rfl,hs1,⟨u3,rfl,hs2⟩⟩:=Cu
 refine Fe func43 rfl ntmps43 rfl fun a S=>?_
 unfold AV at h
 replace S:=S.k3 0 1 2 rfl
 refine Fr (Mk S (S.tm rfl) (cs:=[u1.val,u3.val,iV Ag.Table.Relay,iV Ag.Table.Most,iV Ag.Final.Size,iV Ag.Final.Many,iV Ag.Final.Reserves]) rfl rfl ?_);clear S;intro a w1 b1 hz1 hk1 S
 refine Vk S rfl rfl fun a S=>Vk S rfl rfl fun a S=>Dl (Fs (Fr (lv S (Gh isAgg32 sizeOf32 (off:=0) (o:=0) (part:=[u1.val,u3.val,iV Ag.Table.Relay,iV Ag.Table.Most,iV Ag.Final.Size,iV Ag.Final.Many,iV Ag.Final.Reserves]) rfl rfl (S.tm rfl) (S.cellsAt (i:=0) rfl)) rfl ?_)));clear S;intro a S
 obtain ⟨r1,hr1,h⟩:=Ga h
 refine Er S (fun _=>Ei (vs:=[.agg (R32.enc (R32.mk u1 (R28.mk u3 Ag.Table.Relay Ag.Table.Most) Ag.Final)).toArray]) ⟨(S.tm rfl),trivial⟩ call81) (GL _ Ag (R32.mk u1 (R28.mk u3 Ag.Table.Relay Ag.Table.Most) Ag.Final) ⟨u1,(R28.mk u3 Ag.Table.Relay Ag.Table.Most),rfl,(hs1.mono (View.le_trans hψ (S.le_arg Ez))),⟨u3,rfl,(hs2.mono (View.le_trans hψ (S.le_arg Ez)))⟩⟩ _ hr1) rfl ?_;clear S;intro v1 a w2 hv1 hk2 hn1 S
 subst hv1
 refine Va S rfl rfl fun a S=>Dz (Vm S rfl rfl fun a S=>Vq S Nt rfl rfl rfl fun a S=>Dl (Fc h (S.tm rfl) (fun hb1 h=>?_) (fun hb1 h=>?_)))
 ·refine Fr (Vm S rfl rfl fun a S=>Vk S rfl rfl fun a S=>Va S rfl rfl fun a S=>Dl (wp_ret (Ek ?_)))
  obtain rfl:=Option.some.inj h
  exact Nz S results43 rfl rfl ⟨_,rfl,rfl⟩
 ·refine wp_skip (Tn (Fs (Fr (Vm S rfl rfl ?_))));clear S;intro a S
  obtain ⟨r2,hr2,h⟩:=Ga h
  refine Er S (fun _=>Ei (vs:=[Ab]) ⟨(S.tm rfl),trivial⟩ call82) (FM _ Ab Ad (Ae.mono (View.le_trans hψ (S.le_arg Ez))) _ hr2) rfl ?_;clear S;intro v2 a w3 hv2 hk3 hn2 S
  subst hv2
  refine Va S rfl rfl fun a S=>Dz (Vm S rfl rfl fun a S=>Vq S Nt rfl rfl rfl fun a S=>Ld ?_)
  replace S:=(S.nl [.blk b1 [u1.val,u3.val,iV Ag.Table.Relay,iV Ag.Table.Most,iV Ag.Final.Size,iV Ag.Final.Many,iV Ag.Final.Reserves] 32] [true] rfl).k5 1 2 3 9 20 rfl
  refine Tn (Fc h (S.tm rfl) (fun hb2 h=>?_) (fun hb2 h=>?_))
  ·refine Fr (Vm S rfl rfl fun a S=>Vk S rfl rfl fun a S=>Va S rfl rfl fun a S=>Dl (wp_ret (Ek ?_)))
   obtain rfl:=Option.some.inj h
   exact Nz S results43 rfl rfl ⟨_,rfl,rfl⟩
  ·refine wp_skip (Tn (Fs (Fr (Vm S rfl rfl fun a S=>lv S (Gn Qh (S.tm rfl) (Gk Dh)) rfl fun a S=>lv S (Rm rfl) rfl fun a S=>Dl ?_))))
   replace S:=S.k6 1 2 3 22 23 24 rfl
   obtain ⟨j1,hj1,h⟩:=Fk h
   refine Fa (fun a w'=>j1 = some r ∧ Sx w [] nov [.blk b1 [u1.val,u3.val,iV Ag.Table.Relay,iV Ag.Table.Most,iV Ag.Final.Size,iV Ag.Final.Many,iV Ag.Final.Reserves] 32] [(1,Ab),(2,Dk),(3,.pointer (some ⟨b1,0,none⟩))] 41 a w') ?_ ?_
   ·refine wp_block (Hs (fun (ys1 : List Int) a w'=>∃ i1 : Nat,(∃ dn,Bd = dn ++ ys1 ∧ dn.length = i1) ∧ Qj j1 ys1 i1 = some r ∧ Sx w [] nov [.blk b1 [u1.val,u3.val,iV Ag.Table.Relay,iV Ag.Table.Most,iV Ag.Final.Size,iV Ag.Final.Many,iV Ag.Final.Reserves] 32] [(1,Ab),(2,Dk),(3,.pointer (some ⟨b1,0,none⟩)),(22,Dk),(23,iV (Bd.length : Int)),(24,iV (i1 : Int))] 41 a w') List.length Bd ⟨0,⟨[],rfl,rfl⟩,h,S.nf [true] rfl (subR rfl)⟩ ?_)
    clear S h;rintro ys1 a w4 ⟨i1,⟨dn,hd1,hi1⟩,h,S⟩
    cases ys1 with
    | nil =>
     rw [Qj.eq_1] at h
     refine Fr (Vb S Fp rfl rfl rfl fun a S=>Ld ?_)
     replace S:=S.k7 1 2 3 22 23 24 25 rfl
     exact Tn (Fs (wp_cond_false ((S.tm rfl).trans (congrArg Value.bool (Jq hd1 hi1))) (wp_exit (Ew (Ew (Hl (Tn (⟨h,S.nf [true] rfl (subR rfl)⟩))))))))
    | cons y1 ys1 =>
     rw [Qj.eq_2] at h
     refine Fr (Vb S Fp rfl rfl rfl fun a S=>Ld ?_)
     replace S:=S.k7 1 2 3 22 23 24 25 rfl
     refine Tn (Fs (wp_cond_true ((S.tm rfl).trans (congrArg Value.bool (Iv hd1 hi1))) (wp_skip (Tn (Fs (wp_block (Fs (Fg ?_))))))))
     obtain ⟨b2,o1,hm1,hr3⟩:=Fv (a:=a) (x:=.tmp 22) (y:=.tmp 24) (ty:=0) Qh Dh (Js hd1 hi1) rfl (S.tm rfl) (S.tm rfl)
     refine lv S (hr3 _) rfl ?_;clear S;intro a S
     clear hr3
     refine lv S (Hw isAgg3 (off:=o1) (o:=0) (S.tm rfl) (hm1.at (NR hψ S.emb0)) rfl) rfl fun a S=>Va S rfl rfl fun a S=>Dz (Vm S rfl rfl fun a S=>Er S (fun _=>Ei (vs:=[iV y1]) ⟨(S.tm rfl),trivial⟩ call62) (Sq _ y1 _ rfl) rfl ?_);clear S;intro v3 a w6 hv3 hk4 hn3 S
     subst hv3
     refine Vu S Ig rfl rfl fun a S=>Dl (Fc h (S.tm rfl) (fun hb3 h=>?_) (fun hb3 h=>?_))
     ·refine Fr (Vk S rfl rfl fun a S=>Vk S rfl rfl fun a S=>Ld ?_)
      replace S:=S.n0.k2 6 7 rfl
      refine Tn (wp_ret (Gg (Ek (Ek (Gg (Ek (Ek ?_)))))))
      obtain rfl:=Option.some.inj h
      exact Nz S results43 rfl rfl ⟨_,rfl,rfl⟩
     ·exact wp_skip (Im (Tn (Fg (Vq S Gw rfl rfl rfl fun a S=>Vm S rfl rfl fun a S=>Dl (⟨ys1,⟨i1 + 1,⟨_,(hd1).trans (List.append_cons _ _ _),by simp [hi1]⟩,h,S.nf [true] rfl ⟨rfl,rfl,rfl,rfl,rfl,(congrArg (fun z=>some (Value.int .i64 z)) (Iw hd1 hi1 (Kh Dh))),trivial⟩⟩,Nat.lt_succ_self _⟩)))))
   clear S h;rintro a w5 ⟨h,S⟩;rw [hj1] at h;clear hj1 j1
   refine Tn (Fs ?_)
   obtain ⟨hc1,h⟩:=Jc h
   obtain ⟨r3,hr5,h⟩:=Ga h
   refine Hd [] ([]) Tryz.mixed S rfl (by kernel_rfl) ?_;clear S;intro w8 hk6 hsel S
   refine Eo 0 S hsel rfl rfl rfl (by kernel_rfl) (by kernel_rfl) rfl (fun _ hw=>(Gh isAgg32 sizeOf32 (off:=0) (o:=0) (part:=[u1.val,u3.val,iV Ag.Table.Relay,iV Ag.Table.Most,iV Ag.Final.Size,iV Ag.Final.Many,iV Ag.Final.Reserves]) rfl rfl (S.tm rfl) ((S.blk_mem (i:=0) (cells:=[u1.val,u3.val,iV Ag.Table.Relay,iV Ag.Table.Most,iV Ag.Final.Size,iV Ag.Final.Many,iV Ag.Final.Reserves]) (b:=b1) (T:=32) rfl (Ik (e':=.blk b1 [u1.val,u3.val,iV Ag.Table.Relay,iV Ag.Table.Most,iV Ag.Final.Size,iV Ag.Final.Many,iV Ag.Final.Reserves] 32))).kept hw))) fun a S=>Eo 1 S hsel rfl rfl rfl (by kernel_rfl) (by kernel_rfl) rfl (fun _ hw=>(Rm (S.tm rfl))) fun a S=>Eo 2 S hsel rfl rfl rfl (by kernel_rfl) (by kernel_rfl) rfl (fun _ hw=>(Rm (S.tm rfl))) fun a S=>Eo 3 S hsel rfl rfl rfl (by kernel_rfl) (by kernel_rfl) rfl (fun _ hw=>(Rm (S.tm rfl))) fun a S=>Eo 4 S hsel rfl rfl rfl (by kernel_rfl) (by kernel_rfl) rfl (fun _ hw=>(Gn Qh (S.tm rfl) (Gk Dh))) fun a S=>Eo 5 S hsel rfl rfl rfl (by kernel_rfl) (by kernel_rfl) rfl (fun _ hw=>(Jt (S.tm rfl) rfl)) ?_;clear S;intro a S
   obtain ⟨b4,o3,hm4,hr6⟩:=Fv (a:=a) (x:=.tmp 34) (y:=.tmp 37) (ty:=0) Qh (Dh.mono (View.le_trans hψ (S.le_arg Ez))) (Es hc1).1 (Es hc1).2 (S.tm rfl) (S.tm rfl)
   refine Eo 6 S hsel rfl rfl rfl (by kernel_rfl) (by kernel_rfl) rfl (fun _ hw=>hr6 _) ?_;clear S;intro a S
   clear hr6
   refine Eo 7 S hsel rfl rfl rfl (by kernel_rfl) (by kernel_rfl) rfl (fun _ hw=>(Hw isAgg3 (off:=o3) (o:=0) (S.tm rfl) (hm4.kept hw) rfl)) fun a S=>Hi 8 (by kernel_rfl) rfl ?_
   have hz3:=S.keep.size
   refine Er S (fun _=>Ei (vs:=[.agg (R32.enc (R32.mk u1 (R28.mk u3 Ag.Table.Relay Ag.Table.Most) Ag.Final)).toArray,Ab,iV (nth Bd (W ((Bd.length : Int) - 1)))]) ⟨(S.tm rfl),(S.tm rfl),(S.tm rfl),trivial⟩ call83) (IU _ (join ψ nov) (Ry (View.le_trans hψ (S.le_arg Ez)) (S.le_new Ez)) Ag (R32.mk u1 (R28.mk u3 Ag.Table.Relay Ag.Table.Most) Ag.Final) ⟨u1,(R28.mk u3 Ag.Table.Relay Ag.Table.Most),rfl,(hs1.mono (le_join_left _ _)),⟨u3,rfl,(hs2.mono (le_join_left _ _))⟩⟩ Ab Ad (Ae.mono (le_join_left _ _)) (nth Bd (W ((Bd.length : Int) - 1))) _ hr5) rfl ?_;clear S;intro v5 a w9 hv5 hk7 hn5 S
   obtain ⟨φ2,hl2,hm5,S⟩:=S.see' hn5 hz3
   have hq2:=EM.mono (Ua (Vi hl2 hm5)) (Vi hl2 hm5) hv5
   refine Ld (It hk7 (Kt [9,10] hsel (by kernel_rfl) rfl ?_))
   clear hsel
   refine Gv S rfl (Ra (S.tm rfl)) rfl fun a S=>Gv S rfl (Ra rfl) rfl fun a S=>Jb ?_
   replace S:=S.n0.k2 6 7 rfl
   refine Tn (wp_ret ?_)
   obtain rfl:=Option.some.inj h
   exact Nz S results43 rfl rfl ⟨_,rfl,(EM.mono (Ua (Wy hψ S.le_newer)) (Wy hψ S.le_newer) hq2)⟩
theorem HK (w : World) (Ar : Eu) (Bz : Nat) (Bj : ByteArray) (Ca : (view w []) Bz = some (.cells [sV Bj].toArray 9 (0,0))) (r : Bool) (h : Yi Ar Bj = r) :
    Calls prog 85 [.agg (Eu.enc Ar).toArray,.pointer (some ⟨Bz,0,none⟩)].toArray w (Ret w [] fun _ v _=>v = bV r):=by
 refine Fe func85 rfl ntmps85 rfl fun a S=>?_
 unfold Yi at h
 replace S:=S.k2 0 1 rfl
 refine Fr (Mk S (S.tm rfl) (cs:=(Eu.enc Ar)) rfl rfl ?_);clear S;intro a w1 b1 hz1 hk1 S
 refine Vk S rfl rfl fun a S=>Dz (Vf Yj S rfl rfl fun a S=>Vl isAgg9 0 S rfl rfl rfl rfl fun a S=>lv S (Hw isAgg9 (off:=0) (o:=0) (S.tm rfl) ((Pl Ca).at S.emb0) rfl) rfl fun a S=>Vb S Wv rfl rfl rfl fun a S=>Va S rfl rfl fun a S=>Ld ?_)
 refine Tn (wp_ret ?_)
 subst h
 exact Fd S results85 rfl rfl
theorem Vs (w : World) (Au : Value) (Aw : List Eu) (Be : Slc (view w []) 8 Au (Aw.map Eu.enc)) (Ay : Nat) (Av : ByteArray) (Bg : (view w []) Ay = some (.cells [sV Av].toArray 9 (0,0))) (r : Int) (h : Hg Aw Av = r) :
    Calls prog 84 [Au,.func (.func 85) #[] #[.pointer (some ⟨Ay,0,none⟩)]].toArray w (Ret w [] fun _ v _=>v = iV r):=by
 refine Fe func84 rfl ntmps84 rfl fun a S=>?_
 unfold Hg at h
 replace S:=S.k2 0 1 rfl
 refine Fr (Vk S rfl rfl fun a S=>Dl (Fs (Fr (Vm S rfl rfl fun a S=>lv S (Gn Yq (S.tm rfl) (Gk Be)) rfl fun a S=>lv S (Rm rfl) rfl ?_))));clear S;intro a S
 refine Dl ?_
 replace S:=S.k4 0 1 7 8 rfl
 obtain ⟨j1,hj1,h⟩:=Fk h
 refine Fa (fun a w'=>j1 = r ∧ Sx w [] nov [] [] 19 a w') ?_ ?_
 ·refine wp_block (Hs (fun (ys1 : List Eu) a w'=>∃ i1 : Nat,(∃ dn,Aw = dn ++ ys1 ∧ dn.length = i1) ∧ Hf Av j1 ys1 i1 = r ∧ Sx w [] nov [] [(0,Au),(1,.func (.func 85) #[] #[.pointer (some ⟨Ay,0,none⟩)]),(7,iV (Aw.length : Int)),(8,iV (i1 : Int))] 19 a w') List.length Aw ⟨0,⟨[],rfl,rfl⟩,h,S.nf [] rfl (subR rfl)⟩ ?_)
  clear S h;rintro ys1 a w1 ⟨i1,⟨dn,hd1,hi1⟩,h,S⟩
  cases ys1 with
  | nil =>
   rw [Hf.eq_1] at h
   refine Fr (Vb S Fp rfl rfl rfl fun a S=>Ld ?_)
   replace S:=S.k5 0 1 7 8 9 rfl
   exact Tn (Fs (wp_cond_false ((S.tm rfl).trans (congrArg Value.bool (Jq hd1 hi1))) (wp_exit (Ew (Ew (Hl (Tn (⟨h,S.nf [] rfl trivial⟩))))))))
  | cons y1 ys1 =>
   rw [Hf.eq_2] at h
   refine Fr (Vb S Fp rfl rfl rfl fun a S=>Ld ?_)
   replace S:=S.k5 0 1 7 8 9 rfl
   refine Tn (Fs (wp_cond_true ((S.tm rfl).trans (congrArg Value.bool (Iv hd1 hi1))) (wp_skip (Tn (Fs (wp_block (Fr (Vm S rfl rfl fun a S=>Va S rfl rfl ?_))))))));clear S;intro a S
   refine Dl (Fs (Fg ?_))
   iterate 3 (refine Vm S rfl rfl ?_;clear S;intro a S)
   obtain ⟨b1,o1,hm1,hr1⟩:=Fv (a:=a) (x:=.tmp 12) (y:=.tmp 13) (ty:=0) Yq Be (Js hd1 hi1) rfl (S.tm rfl) (S.tm rfl)
   refine lv S (hr1 _) rfl ?_;clear S;intro a S
   clear hr1
   refine lv S (Gh isAgg38 sizeOf38 (off:=o1) (o:=0) (part:=(Eu.enc y1)) rfl rfl (S.tm rfl) (hm1.at S.emb0)) rfl fun a S=>Er S (fun _=>Te (cap:=[.pointer (some ⟨Ay,0,none⟩)]) (S.tm rfl) (vs:=[.agg (Eu.enc y1).toArray]) ⟨(S.tm rfl),trivial⟩ call85) (HK _ y1 Ay Av ((S.le_arg Ez) _ _ Bg) _ rfl) rfl ?_;clear S;intro v1 a w3 hv1 hk1 hn1 S
   subst hv1
   refine Dl (Fc h (S.tm rfl) (fun hb1 h=>?_) (fun hb1 h=>?_))
   ·refine Fr (Vm S rfl rfl fun a S=>Va S rfl rfl fun a S=>Ld ?_)
    replace S:=S.k1 4 rfl
    refine Tn (wp_ret (Gg (Ek (Ek (Gg (Ek (Ek ?_)))))))
    subst h
    exact Fd S results84 rfl rfl
   ·exact wp_skip (Im (Tn (Fg (Vq S Gw rfl rfl rfl fun a S=>Vm S rfl rfl fun a S=>Dl (⟨ys1,⟨i1 + 1,⟨_,(hd1).trans (List.append_cons _ _ _),by simp [hi1]⟩,h,S.nf [] rfl ⟨rfl,rfl,rfl,(congrArg (fun z=>some (Value.int .i64 z)) (Iw hd1 hi1 (Kh Be))),trivial⟩⟩,Nat.lt_succ_self _⟩)))))
 clear S h;rintro a w2 ⟨h,S⟩;rw [hj1] at h;clear hj1 j1
 refine Tn (Fr (Vk S rfl rfl fun a S=>Dl (wp_ret ?_)))
 subst h
 exact Fd S results84 rfl rfl
set_option maxRecDepth 20000 in
theorem LI (w : World) (Ac : Int) (r : Int) (h : FE Ac = some r) :
    Calls prog 58 [.int .u32 Ac].toArray w (Ret w [] fun _ v _=>v = iV r):=by
 refine Fe func58 rfl ntmps58 rfl fun a S=>?_
 unfold FE at h
 replace S:=S.k1 0 rfl
 refine Fr (Vk S rfl rfl fun a S=>Dl (Fs (Fr (Vm S rfl rfl fun a S=>Vq S Re rfl rfl rfl fun a S=>Ld ?_))))
 refine Tn ?_
 obtain ⟨j1,hj1,h⟩:=Fk h
 refine Fa (fun a w'=>∃ x1 : Int,∃ x2 : Int,j1 x1 x2 = some r ∧ Sx w [] nov [] [(0,.int .u32 x1),(2,iV x2)] 19 a w') ?_ ?_
 ·refine Fc h (S.tm rfl) (fun hb1 h=>?_) (fun hb1 h=>?_)
  ·refine Fr (Vm S rfl rfl fun a S=>lv S (Xh (S.tm rfl) rfl (by decide)) rfl fun a S=>Va S rfl rfl fun a S=>Dl (Fg (Vk S rfl rfl fun a S=>Dl ?_)))
   exact ⟨Hq .u32 Ac 16,16,h,S.nf [] rfl (subR rfl)⟩
  ·exact wp_skip (Tn (⟨Ac,0,h,S.nf [] rfl (subR rfl)⟩))
 clear S h;rintro a w1 ⟨x1,x2,h,S⟩;rw [hj1] at h;clear hj1 j1
 refine Tn (Fs (Fr (Vm S rfl rfl fun a S=>Vq S Re rfl rfl rfl fun a S=>Dl ?_)))
 obtain ⟨j2,hj2,h⟩:=Fk h
 refine Fa (fun a w'=>∃ x3 : Int,∃ x4 : Int,j2 x3 x4 = some r ∧ Sx w [] nov [] [(0,.int .u32 x3),(2,iV x4)] 19 a w') ?_ ?_
 ·refine Fc h (S.tm rfl) (fun hb2 h=>?_) (fun hb2 h=>?_)
  ·refine Fr (Vm S rfl rfl fun a S=>lv S (Xh (S.tm rfl) rfl (by decide)) rfl fun a S=>Va S rfl rfl fun a S=>Dl (Fg (Vm S rfl rfl fun a S=>Vq S Gw rfl rfl rfl fun a S=>Va S rfl rfl ?_)));clear S;intro a S
   exact Dl (⟨Hq .u32 x1 8,W (x2 + 8),h,S.nf [] rfl (subR rfl)⟩)
  ·exact wp_skip (Tn (⟨x1,x2,h,S.nf [] rfl (subR rfl)⟩))
 clear S h;rintro a w2 ⟨x3,x4,h,S⟩;rw [hj2] at h;clear hj2 j2
 refine Tn (Fr (Vm S rfl rfl fun a S=>Vm S rfl rfl fun a S=>Vu S (Xi underlying142 underlying5) rfl rfl ?_));clear S;intro a S
 obtain ⟨hc1,h⟩:=Jc h
 refine lv S (Zl underlying9 rfl (S.tm rfl) hc1) rfl fun a S=>Vu S (Xi underlying5 underlying3) rfl rfl fun a S=>Vb S Gw rfl rfl rfl fun a S=>Va S rfl rfl fun a S=>Dl (wp_ret ?_)
 obtain rfl:=Option.some.inj h
 exact Fd S results58 rfl rfl
set_option maxRecDepth 20000 in
theorem FB (w : World) (Ac : Int) (r : Int) (h : BP Ac = some r) :
    Calls prog 59 [.int .u64 Ac].toArray w (Ret w [] fun _ v _=>v = iV r):=by
 refine Fe func59 rfl ntmps59 rfl fun a S=>?_
 unfold BP at h
 replace S:=S.k1 0 rfl
 refine Fr (Vk S rfl rfl fun a S=>Dl (Fs (Fr (Vm S rfl rfl fun a S=>Vq S Re rfl rfl rfl fun a S=>Ld ?_))))
 refine Tn ?_
 obtain ⟨j1,hj1,h⟩:=Fk h
 refine Fa (fun a w'=>∃ x1 : Int,∃ x2 : Int,j1 x1 x2 = some r ∧ Sx w [] nov [] [(0,.int .u64 x1),(2,iV x2)] 25 a w') ?_ ?_
 ·refine Fc h (S.tm rfl) (fun hb1 h=>?_) (fun hb1 h=>?_)
  ·refine Fr (Vm S rfl rfl fun a S=>lv S (Xh (S.tm rfl) rfl (by decide)) rfl fun a S=>Va S rfl rfl fun a S=>Dl (Fg (Vk S rfl rfl fun a S=>Dl ?_)))
   exact ⟨Hq .u64 Ac 32,32,h,S.nf [] rfl (subR rfl)⟩
  ·exact wp_skip (Tn (⟨Ac,0,h,S.nf [] rfl (subR rfl)⟩))
 clear S h;rintro a w1 ⟨x1,x2,h,S⟩;rw [hj1] at h;clear hj1 j1
 refine Tn (Fs (Fr (Vm S rfl rfl fun a S=>Vq S Re rfl rfl rfl fun a S=>Dl ?_)))
 obtain ⟨j2,hj2,h⟩:=Fk h
 refine Fa (fun a w'=>∃ x3 : Int,∃ x4 : Int,j2 x3 x4 = some r ∧ Sx w [] nov [] [(0,.int .u64 x3),(2,iV x4)] 25 a w') ?_ ?_
 ·refine Fc h (S.tm rfl) (fun hb2 h=>?_) (fun hb2 h=>?_)
  ·refine Fr (Vm S rfl rfl fun a S=>lv S (Xh (S.tm rfl) rfl (by decide)) rfl fun a S=>Va S rfl rfl fun a S=>Dl (Fg (Vm S rfl rfl fun a S=>Vq S Gw rfl rfl rfl fun a S=>Va S rfl rfl ?_)));clear S;intro a S
   exact Dl (⟨Hq .u64 x1 16,W (x2 + 16),h,S.nf [] rfl (subR rfl)⟩)
  ·exact wp_skip (Tn (⟨x1,x2,h,S.nf [] rfl (subR rfl)⟩))
 clear S h;rintro a w2 ⟨x3,x4,h,S⟩;rw [hj2] at h;clear hj2 j2
 refine Tn (Fs (Fr (Vm S rfl rfl fun a S=>Vq S Re rfl rfl rfl fun a S=>Dl ?_)))
 obtain ⟨j3,hj3,h⟩:=Fk h
 refine Fa (fun a w'=>∃ x5 : Int,∃ x6 : Int,j3 x5 x6 = some r ∧ Sx w [] nov [] [(0,.int .u64 x5),(2,iV x6)] 25 a w') ?_ ?_
 ·refine Fc h (S.tm rfl) (fun hb3 h=>?_) (fun hb3 h=>?_)
  ·refine Fr (Vm S rfl rfl fun a S=>lv S (Xh (S.tm rfl) rfl (by decide)) rfl fun a S=>Va S rfl rfl fun a S=>Dl (Fg (Vm S rfl rfl fun a S=>Vq S Gw rfl rfl rfl fun a S=>Va S rfl rfl ?_)));clear S;intro a S
   exact Dl (⟨Hq .u64 x3 8,W (x4 + 8),h,S.nf [] rfl (subR rfl)⟩)
  ·exact wp_skip (Tn (⟨x3,x4,h,S.nf [] rfl (subR rfl)⟩))
 clear S h;rintro a w3 ⟨x5,x6,h,S⟩;rw [hj3] at h;clear hj3 j3
 refine Tn (Fr (Vm S rfl rfl fun a S=>Vm S rfl rfl fun a S=>Vu S (Xi underlying144 underlying5) rfl rfl ?_));clear S;intro a S
 obtain ⟨hc1,h⟩:=Jc h
 refine lv S (Zl underlying9 rfl (S.tm rfl) hc1) rfl fun a S=>Vu S (Xi underlying5 underlying3) rfl rfl fun a S=>Vb S Gw rfl rfl rfl fun a S=>Va S rfl rfl fun a S=>Dl (wp_ret ?_)
 obtain rfl:=Option.some.inj h
 exact Fd S results59 rfl rfl
theorem IG (w : World) (Ac : Int) (r : Int) (h : CW Ac = some r) :
    Calls prog 23 [.int .u64 Ac].toArray w (Ret w [] fun _ v _=>v = iV r):=by
 refine Fe func23 rfl ntmps23 rfl fun a S=>?_
 unfold CW at h
 replace S:=S.k1 0 rfl
 refine Fr (Vk S rfl rfl fun a S=>Dl (Fs (Fc h rfl (fun hb1 h=>?_) (fun hb1 h=>?_))))
 ·refine Fr (Vm S rfl rfl fun a S=>Vu S (Xi underlying76 underlying142) rfl rfl ?_);clear S;intro a S
  obtain ⟨r1,hr1,h⟩:=Ga h
  refine Er S (fun _=>Ei (vs:=[.int .u32 (IntKind.wrap .u32 Ac)]) ⟨(S.tm rfl),trivial⟩ call58) (LI _ (IntKind.wrap .u32 Ac) _ hr1) rfl ?_;clear S;intro v1 a w1 hv1 hk1 hn1 S
  subst hv1
  refine Va S rfl rfl fun a S=>Dl (wp_ret (Ek ?_))
  obtain rfl:=Option.some.inj h
  exact Fd S results23 rfl rfl
 ·refine wp_skip (Tn (Fr (Vm S rfl rfl ?_)));clear S;intro a S
  obtain ⟨r2,hr2,h⟩:=Ga h
  refine Er S (fun _=>Ei (vs:=[.int .u64 Ac]) ⟨(S.tm rfl),trivial⟩ call59) (FB _ Ac _ hr2) rfl ?_;clear S;intro v2 a w2 hv2 hk2 hn2 S
  subst hv2
  refine Va S rfl rfl fun a S=>Dl (wp_ret ?_)
  obtain rfl:=Option.some.inj h
  exact Fd S results23 rfl rfl
theorem EQ (w : World) (Ah : Eg) (Aj : Eg) (r : Int) (h : Pf Ah Aj = r) :
    Calls prog 123 [.agg (Eg.enc Ah).toArray,.agg (Eg.enc Aj).toArray].toArray w (Ret w [] fun _ v _=>v = iV r):=by
 refine Fe func123 rfl ntmps123 rfl fun a S=>?_
 unfold Pf at h
 replace S:=S.k2 0 1 rfl
 refine Fr (Mk S (S.tm rfl) (cs:=(Eg.enc Ah)) rfl rfl ?_);clear S;intro a w1 b1 hz1 hk1 S
 refine Mk S (S.tm rfl) (cs:=(Eg.enc Aj)) rfl rfl ?_;clear S;intro a w2 b2 hz2 hk2 S
 refine Vk S rfl rfl fun a S=>Dz (Vf Oq S rfl rfl fun a S=>Vl isAgg9 1 S rfl rfl rfl rfl fun a S=>Vf Oq S rfl rfl fun a S=>Vl isAgg9 0 S rfl rfl rfl rfl fun a S=>Er S (fun _=>Ei (vs:=[sV Ah.Who,sV Aj.Who]) ⟨(S.tm rfl),(S.tm rfl),trivial⟩ call48) (Pb _ Ah.Who Aj.Who _ rfl) rfl ?_);clear S;intro v1 a w3 hv1 hk3 hn1 S
 subst hv1
 refine Va S rfl rfl fun a S=>Dl (wp_ret ?_)
 subst h
 exact Fd S results123 rfl rfl
set_option maxRecDepth 20000 in
theorem Rh (w : World) (U : Value) (Ak : List Eg) (Bh : (LEnt.own U 101 11 Ak.length (Ak.flatMap Eg.enc)).holds w) (Ah : Int) (Aj : Int) (r : (List Eg)) (h : Jd Ak Ah Aj = some r) :
    Calls prog 110 [U,iV Ah,iV Aj,.func (.func 123) #[] #[]].toArray w (Ret w (U.ownBlock.toList) fun _ v w'=>(LEnt.own U 101 11 r.length (r.flatMap Eg.enc)).holds w' ∧ v = .tuple #[]):=by
 refine Nb (U.ownBlock.toList) [.own U 101 11 Ak.length (Ak.flatMap Eg.enc)] func110 rfl ntmps110 rfl (fun e he=>by simp only [List.mem_singleton] at he;subst he;exact Bh) (Kw _) (Mv _) fun a S=>?_
 unfold Jd at h
 replace S:=(S.nl [.own U 101 11 Ak.length (Ak.flatMap Eg.enc)] [true] rfl).k4 0 1 2 3 rfl
 refine Fr (Vm S rfl rfl fun a S=>Vq S Gw rfl rfl rfl fun a S=>Va S rfl rfl fun a S=>Dl ?_)
 replace S:=S.k5 0 1 2 3 8 rfl
 obtain ⟨j1,hj1,h⟩:=Fk h
 refine Fa (fun a w'=>∃ x1 : List Eg,j1 x1 = some r ∧ Sx w (U.ownBlock.toList) nov [.own U 101 11 x1.length (x1.flatMap Eg.enc)] [] 53 a w') ?_ ?_
 ·refine wp_block (Hs (fun (m1 : Nat) a w'=>∃ x1 : List Eg,∃ x2 : Int,Gd Aj Ah j1 m1 x1 x2 = some r ∧ Sx w (U.ownBlock.toList) nov [.own U 101 11 x1.length (x1.flatMap Eg.enc)] [(0,U),(1,iV Ah),(2,iV Aj),(3,.func (.func 123) #[] #[]),(8,iV x2)] 53 a w') id ((Aj - (W (Ah + 1))).toNat + 2) ⟨Ak,W (Ah + 1),h,S.nf [true] rfl (subR rfl)⟩ ?_)
  clear S h;rintro m1 a w1 ⟨x1,x2,h,S⟩
  cases m1 with
  | zero=>rw [Gd.eq_1] at h;cases h
  | succ m1 =>
   rw [Gd.eq_2] at h
   refine Fs (Fr (Vm S rfl rfl fun a S=>Vm S rfl rfl fun a S=>Vb S Fp rfl rfl rfl fun a S=>Dl (Fc h (S.tm rfl) (fun hb1 h=>?_) (fun hb1 h=>?_))))
   ·refine wp_skip (Tn (Fs (wp_block (Fr (Vm S rfl rfl fun a S=>Va S rfl rfl fun a S=>Dl ?_)))))
    replace S:=S.k6 0 1 2 3 8 9 rfl
    obtain ⟨j2,hj2,h⟩:=Fk h
    refine Fa (fun a w'=>∃ x3 : List Eg,j2 x3 = some r ∧ Sx w (U.ownBlock.toList) nov [.own U 101 11 x3.length (x3.flatMap Eg.enc)] [(0,U),(1,iV Ah),(2,iV Aj),(3,.func (.func 123) #[] #[]),(8,iV x2)] 53 a w') ?_ ?_
    ·refine wp_block (Hs (fun (m2 : Nat) a w'=>∃ x3 : List Eg,∃ x4 : Int,Fj Ah j2 m2 x3 x4 = some r ∧ Sx w (U.ownBlock.toList) nov [.own U 101 11 x3.length (x3.flatMap Eg.enc)] [(0,U),(1,iV Ah),(2,iV Aj),(3,.func (.func 123) #[] #[]),(8,iV x2),(9,iV x4)] 53 a w') id ((x2 - Ah).toNat + 2) ⟨x1,x2,h,S.nf [true] rfl (subR rfl)⟩ ?_)
     clear S h;rintro m2 a w3 ⟨x3,x4,h,S⟩
     cases m2 with
     | zero=>rw [Fj.eq_1] at h;cases h
     | succ m2 =>
      rw [Fj.eq_2] at h
      refine Fs (Fs ?_)
      obtain ⟨j3,hj3,h⟩:=Fk h
      refine Fa (fun a w'=>∃ x5 : Bool,j3 x5 = some r ∧ Sx w (U.ownBlock.toList) nov [.own U 101 11 x3.length (x3.flatMap Eg.enc)] [(0,U),(1,iV Ah),(2,iV Aj),(3,.func (.func 123) #[] #[]),(8,iV x2),(9,iV x4),(34,bV x5)] 53 a w') ?_ ?_
      ·rcases Bool.eq_false_or_eq_true (decide (Ah < x4)) with hb2 | hb2
       ·replace h:=Rz h hb2
        obtain ⟨hc1,h⟩:=Jc h
        obtain ⟨hc2,h⟩:=Jc h
        refine Hd [] ([]) Tryz.mixed S rfl (by kernel_rfl) ?_;clear S;intro w7 hk2 hsel S
        refine Eo 0 S hsel rfl rfl rfl (by kernel_rfl) (by kernel_rfl) rfl (fun _ hw=>(Rm (S.tm rfl))) fun a S=>Eo 1 S hsel rfl rfl rfl (by kernel_rfl) (by kernel_rfl) rfl (fun _ hw=>(Rm (S.tm rfl))) fun a S=>Eo 2 S hsel rfl rfl rfl (by kernel_rfl) (by kernel_rfl) rfl (fun _ hw=>(Jz (S.tm rfl) (S.tm rfl))) fun a S=>Eo 3 S hsel rfl rfl rfl (by kernel_rfl) (by kernel_rfl) rfl (fun _ hw=>(Rm (S.tm rfl))) fun a S=>Ey 4 S hsel rfl rfl rfl rfl hb2 rfl rfl (by kernel_rfl) (by kernel_rfl) rfl (fun _ hw=>(Rm (S.tm rfl))) fun a S=>Ey 5 S hsel rfl rfl rfl rfl hb2 rfl rfl (by kernel_rfl) (by kernel_rfl) rfl (fun _ hw=>(Rm (S.tm rfl))) fun a S=>Ey 6 S hsel rfl rfl rfl rfl hb2 rfl rfl (by kernel_rfl) (by kernel_rfl) rfl (fun _ hw=>(Rm (S.tm rfl))) ?_;clear S;intro a S
        obtain ⟨b3,hg3,hr3⟩:=Hy (a:=a) (x:=.tmp 23) (y:=.tmp 24) (ty:=0) Pn Eg.enc_ok S (i:=0) rfl (Es hc1).1 (Es hc1).2 (S.tm rfl) (S.tm rfl)
        refine Ey 7 S hsel rfl rfl rfl rfl hb2 rfl rfl (by kernel_rfl) (by kernel_rfl) rfl (fun _ hw=>(hr3 _)) ?_;clear S;intro a S
        clear hr3
        refine Ey 8 S hsel rfl rfl rfl rfl hb2 rfl rfl (by kernel_rfl) (by kernel_rfl) rfl (fun _ hw=>(Gh isAgg101 sizeOf101 (off:=x4.toNat * 11) (o:=0) (part:=(Eg.enc (nth x3 x4))) rfl rfl (S.tm rfl) ((Pm Eg.enc_ok S (i:=0) rfl hg3 (Es hc1).1 (Ik (e':=.own U 101 11 x3.length (x3.flatMap Eg.enc)))).kept hw))) fun a S=>Ey 9 S hsel rfl rfl rfl rfl hb2 rfl rfl (by kernel_rfl) (by kernel_rfl) rfl (fun _ hw=>(Rm (S.tm rfl))) fun a S=>Ey 10 S hsel rfl rfl rfl rfl hb2 rfl rfl (by kernel_rfl) (by kernel_rfl) rfl (fun _ hw=>(Rm (S.tm rfl))) fun a S=>Ey 11 S hsel rfl rfl rfl rfl hb2 rfl rfl (by kernel_rfl) (by kernel_rfl) rfl (fun _ hw=>(Jt (S.tm rfl) rfl)) ?_;clear S;intro a S
        obtain ⟨b4,hg4,hr4⟩:=Hy (a:=a) (x:=.tmp 27) (y:=.tmp 29) (ty:=0) Pn Eg.enc_ok S (i:=0) rfl (Es hc2).1 (Es hc2).2 (S.tm rfl) (S.tm rfl)
        refine Ey 12 S hsel rfl rfl rfl rfl hb2 rfl rfl (by kernel_rfl) (by kernel_rfl) rfl (fun _ hw=>(hr4 _)) ?_;clear S;intro a S
        clear hr4
        refine Ey 13 S hsel rfl rfl rfl rfl hb2 rfl rfl (by kernel_rfl) (by kernel_rfl) rfl (fun _ hw=>(Gh isAgg101 sizeOf101 (off:=((W (x4 - 1)).toNat) * 11) (o:=0) (part:=(Eg.enc (nth x3 (W (x4 - 1))))) rfl rfl (S.tm rfl) ((Pm Eg.enc_ok S (i:=0) rfl hg4 (Es hc2).1 (Ik (e':=.own U 101 11 x3.length (x3.flatMap Eg.enc)))).kept hw))) fun a S=>Hi 14 (by kernel_rfl) rfl (Em S rfl rfl rfl hb2 (Er S (fun _=>Te (cap:=[]) (S.tm rfl) (vs:=[.agg (Eg.enc (nth x3 x4)).toArray,.agg (Eg.enc (nth x3 (W (x4 - 1)))).toArray]) ⟨(S.tm rfl),(S.tm rfl),trivial⟩ call123) (EQ _ (nth x3 x4) (nth x3 (W (x4 - 1))) _ rfl) rfl ?_));clear S;intro v2 a w8 hv2 hk3 hn2 S
        subst hv2
        refine Ld (It hk3 (Kt [15,16] hsel (by kernel_rfl) rfl ?_))
        clear hsel
        refine Fx S rfl rfl rfl rfl hb2 (He S (Fp (S.tm rfl) rfl) rfl fun a S=>Gv S rfl (Qe hb2 (S.tm rfl) (S.tm rfl)) rfl fun a S=>Jb ?_)
        replace S:=S.nk [.own U 101 11 x3.length (x3.flatMap Eg.enc)] [(0,U),(1,iV Ah),(2,iV Aj),(3,.func (.func 123) #[] #[]),(8,iV x2),(9,iV x4),(22,.func (.func 123) #[] #[]),(23,U),(24,iV x4),(25,.pointer (some ⟨b3,x4.toNat * 11,none⟩)),(26,.agg (Eg.enc (nth x3 x4)).toArray),(27,U),(28,iV x4),(29,iV (W (x4 - 1))),(30,.pointer (some ⟨b4,((W (x4 - 1)).toNat) * 11,none⟩)),(31,.agg (Eg.enc (nth x3 (W (x4 - 1)))).toArray),(32,iV (Pf (nth x3 x4) (nth x3 (W (x4 - 1))))),(33,bV (decide ((Pf (nth x3 x4) (nth x3 (W (x4 - 1)))) < 0))),(34,bV (decide ((Pf (nth x3 x4) (nth x3 (W (x4 - 1)))) < 0)))] [true] rfl (subR rfl)
        exact Tn (⟨decide ((Pf (nth x3 x4) (nth x3 (W (x4 - 1)))) < 0),h,S.nf [true] rfl (subR rfl)⟩)
       ·replace h:=Sa h hb2
        refine Hd [] ([]) Tryz.mixed S rfl (by kernel_rfl) ?_;clear S;intro w9 hk4 hsel S
        refine Kt [0,1,2,3,4,5,6,7,8,9,10,11,12,13,14,15,16] hsel (by kernel_rfl) rfl ?_
        clear hsel
        refine Gv S rfl (Rm (S.tm rfl)) rfl fun a S=>Gv S rfl (Rm (S.tm rfl)) rfl fun a S=>Gv S rfl (Jz (S.tm rfl) (S.tm rfl)) rfl fun a S=>Gv S rfl (Rm (S.tm rfl)) rfl ?_;clear S;intro a S
        iterate 12 (refine Qo S rfl rfl rfl rfl (Ka hb2) rfl ?_ rfl;clear S;intro a S)
        refine Gv S rfl (Qf hb2 (S.tm rfl) rfl) rfl fun a S=>Jb ?_
        replace S:=S.k7 0 1 2 3 8 9 34 rfl
        exact Tn (⟨false,h,S.nf [true] rfl (subR rfl)⟩)
      clear S h;rintro a w5 ⟨x5,h,S⟩;rw [hj3] at h;clear hj3 j3
      refine Tn (Fc h (S.tm rfl) (fun hb3 h=>?_) (fun hb3 h=>?_))
      ·refine wp_skip (Tn (Fs (wp_block ?_)))
       obtain ⟨hc3,h⟩:=Jc h
       obtain ⟨hc4,h⟩:=Jc h
       obtain ⟨hc5,h⟩:=Jc h
       obtain ⟨hc6,h⟩:=Jc h
       refine Hd [15,17] ([]) Tryz.mixed S rfl (by kernel_rfl) ?_;clear S;intro w14 hk9 hsel S
       refine Hb 0 S hsel rfl rfl (by kernel_rfl) (by kernel_rfl) rfl (fun _=>(Rm (S.tm rfl))) fun a S=>Hb 1 S hsel rfl rfl (by kernel_rfl) (by kernel_rfl) rfl (fun _=>(Rm (S.tm rfl))) fun a S=>Hb 2 S hsel rfl rfl (by kernel_rfl) (by kernel_rfl) rfl (fun _=>(Rm (S.tm rfl))) fun a S=>Hb 3 S hsel rfl rfl (by kernel_rfl) (by kernel_rfl) rfl (fun _=>(Rm (S.tm rfl))) fun a S=>Hb 4 S hsel rfl rfl (by kernel_rfl) (by kernel_rfl) rfl (fun _=>(Jt (S.tm rfl) rfl)) fun a S=>Hb 5 S hsel rfl rfl (by kernel_rfl) (by kernel_rfl) rfl (fun _=>(Rm (S.tm rfl))) fun a S=>Hb 6 S hsel rfl rfl (by kernel_rfl) (by kernel_rfl) rfl (fun _=>(Rm (S.tm rfl))) fun a S=>Hb 7 S hsel rfl rfl (by kernel_rfl) (by kernel_rfl) rfl (fun _=>(Jt (S.tm rfl) rfl)) ?_;clear S;intro a S
       obtain ⟨b9,hg9,hr9⟩:=Hy (a:=a) (x:=.tmp 42) (y:=.tmp 44) (ty:=0) Pn Eg.enc_ok S (i:=0) rfl (Es hc3).1 (Es hc3).2 (S.tm rfl) (S.tm rfl)
       refine Hb 8 S hsel rfl rfl (by kernel_rfl) (by kernel_rfl) rfl (fun _=>(hr9 _)) ?_;clear S;intro a S
       clear hr9
       refine Eo 9 S hsel rfl (by kernel_rfl) (by kernel_rfl) (by kernel_rfl) (by kernel_rfl) rfl (fun _ hw=>(Gh isAgg101 sizeOf101 (off:=((W (x4 - 1)).toNat) * 11) (o:=0) (part:=(Eg.enc (nth x3 (W (x4 - 1))))) rfl rfl (S.tm rfl) ((Pm Eg.enc_ok S (i:=0) rfl hg9 (Es hc3).1 (Ik (e':=.own U 101 11 x3.length (x3.flatMap Eg.enc)))).kept hw))) fun a S=>Hb 10 S hsel rfl rfl (by kernel_rfl) (by kernel_rfl) rfl (fun _=>(Rm (S.tm rfl))) fun a S=>Hb 11 S hsel rfl rfl (by kernel_rfl) (by kernel_rfl) rfl (fun _=>(Rm (S.tm rfl))) ?_;clear S;intro a S
       obtain ⟨b10,hg10,hr10⟩:=Hy (a:=a) (x:=.tmp 47) (y:=.tmp 48) (ty:=0) Pn Eg.enc_ok S (i:=0) rfl (Es hc4).1 (Es hc4).2 (S.tm rfl) (S.tm rfl)
       refine Hb 12 S hsel rfl rfl (by kernel_rfl) (by kernel_rfl) rfl (fun _=>(hr10 _)) ?_;clear S;intro a S
       clear hr10
       refine Eo 13 S hsel rfl (by kernel_rfl) (by kernel_rfl) (by kernel_rfl) (by kernel_rfl) rfl (fun _ hw=>(Gh isAgg101 sizeOf101 (off:=x4.toNat * 11) (o:=0) (part:=(Eg.enc (nth x3 x4))) rfl rfl (S.tm rfl) ((Pm Eg.enc_ok S (i:=0) rfl hg10 (Es hc4).1 (Ik (e':=.own U 101 11 x3.length (x3.flatMap Eg.enc)))).kept hw))) ?_;clear S;intro a S
       obtain ⟨b11,hg11,hr11⟩:=Hy (a:=a) (x:=.tmp 37) (y:=.tmp 38) (ty:=0) Pn Eg.enc_ok S (i:=0) rfl (Es hc5).1 (Es hc5).2 (S.tm rfl) (S.tm rfl)
       refine Hb 14 S hsel rfl rfl (by kernel_rfl) (by kernel_rfl) rfl (fun _=>(hr11 _)) ?_;clear S;intro a S
       clear hr11
       refine Zb 15 (U.ownBlock.toList) rfl (by kernel_rfl) rfl (Qn (c:=0) (j:=x4.toNat) (nth x3 (W (x4 - 1))) Eg.enc_ok S (S.tm rfl) (S.tm rfl) (i:=0) rfl hg11 (Es hc5).1 sizeOf101 (vs:=[sV ((nth x3 (W (x4 - 1))).Site),iV ((nth x3 (W (x4 - 1))).No),iV ((nth x3 (W (x4 - 1))).At),iV ((nth x3 (W (x4 - 1))).Kind),sV ((nth x3 (W (x4 - 1))).Who),sV ((nth x3 (W (x4 - 1))).Club),sV ((nth x3 (W (x4 - 1))).Race),iV ((nth x3 (W (x4 - 1))).Time),iV ((nth x3 (W (x4 - 1))).Fault),sV ((nth x3 (W (x4 - 1))).Of),iV ((nth x3 (W (x4 - 1))).Other)]) rfl rfl rfl rfl rfl ?_);clear S;intro w16 hk11 S
       refine Ld (Zc ?_)
       obtain ⟨b12,hg12,hr12⟩:=Hy (a:=a) (x:=.tmp 39) (y:=.tmp 41) (ty:=0) Pn Eg.enc_ok S (i:=0) rfl (Es hc6).1 (Es hc6).2 (S.tm rfl) (S.tm rfl)
       refine Eo 16 S hsel rfl rfl rfl (by kernel_rfl) (by kernel_rfl) rfl (fun _ hw=>(hr12 _)) ?_;clear S;intro a S
       clear hr12
       refine Hi 17 (by kernel_rfl) rfl (Qn (c:=0) (j:=(W (x4 - 1)).toNat) (nth x3 x4) Eg.enc_ok S (S.tm rfl) (S.tm rfl) (i:=0) rfl hg12 (Es hc6).1 sizeOf101 (vs:=[sV ((nth x3 x4).Site),iV ((nth x3 x4).No),iV ((nth x3 x4).At),iV ((nth x3 x4).Kind),sV ((nth x3 x4).Who),sV ((nth x3 x4).Club),sV ((nth x3 x4).Race),iV ((nth x3 x4).Time),iV ((nth x3 x4).Fault),sV ((nth x3 x4).Of),iV ((nth x3 x4).Other)]) rfl rfl rfl rfl rfl ?_);clear S;intro w18 hk13 S
       refine Ld (It hk13 (Xy (by kernel_rfl) ?_))
       clear hsel
       replace S:=(S.nl [.own U 101 11 ((x3.set x4.toNat (nth x3 (W (x4 - 1)))).set ((W (x4 - 1)).toNat) (nth x3 x4)).length (((x3.set x4.toNat (nth x3 (W (x4 - 1)))).set ((W (x4 - 1)).toNat) (nth x3 x4)).flatMap Eg.enc)] [true] rfl).k6 0 1 2 3 8 9 rfl
       exact Im (Tn (Fg (Vm S rfl rfl fun a S=>Vq S Jt rfl rfl rfl fun a S=>Va S rfl rfl fun a S=>Dl (⟨m2,⟨((x3.set x4.toNat (nth x3 (W (x4 - 1)))).set ((W (x4 - 1)).toNat) (nth x3 x4)),W (x4 - 1),h,S.nf [true] rfl ⟨rfl,rfl,rfl,rfl,rfl,rfl,trivial⟩⟩,Nat.lt_succ_self _⟩))))
      ·exact wp_exit (Ew (Ew (Hl (Tn (⟨x3,h,S.nf [true] rfl (subR rfl)⟩)))))
    clear S h;rintro a w4 ⟨x3,h,S⟩;rw [hj2] at h;clear hj2 j2
    exact Im (Tn (Fg (Vm S rfl rfl fun a S=>Vq S Gw rfl rfl rfl fun a S=>Va S rfl rfl fun a S=>Dl (⟨m1,⟨x3,W (x2 + 1),h,S.nf [true] rfl ⟨rfl,rfl,rfl,rfl,rfl,trivial⟩⟩,Nat.lt_succ_self _⟩))))
   ·exact wp_exit (Ew (Ew (Hl (Tn (⟨x1,h,S.nf [true] rfl trivial⟩)))))
 clear S h;rintro a w2 ⟨x1,h,S⟩;rw [hj1] at h;clear hj1 j1
 obtain rfl:=Option.some.inj h
 exact Vg S results110 ⟨(S.holds _ (List.mem_of_getElem? (i:=0) rfl)),rfl⟩
theorem Su (w : World) (U : Value) (Ak : List Eg) (Bh : (LEnt.own U 101 11 Ak.length (Ak.flatMap Eg.enc)).holds w) (Ah : Int) (Aj : Int) (Cy : Int) (r : (List Eg)) (h : Ks Ak Ah Aj Cy = some r) :
    Calls prog 144 [U,iV Ah,iV Aj,iV Cy,.func (.func 123) #[] #[]].toArray w (Ret w (U.ownBlock.toList) fun _ v w'=>(LEnt.own U 101 11 r.length (r.flatMap Eg.enc)).holds w' ∧ v = .tuple #[]):=by
 refine Nb (U.ownBlock.toList) [.own U 101 11 Ak.length (Ak.flatMap Eg.enc)] func144 rfl ntmps144 rfl (fun e he=>by simp only [List.mem_singleton] at he;subst he;exact Bh) (Kw _) (Mv _) fun a S=>?_
 unfold Ks at h
 replace S:=(S.nl [.own U 101 11 Ak.length (Ak.flatMap Eg.enc)] [true] rfl).k5 0 1 2 3 4 rfl
 refine Fr (Vk S rfl rfl fun a S=>Dz (Vk S rfl rfl fun a S=>Dl ?_))
 replace S:=S.k6 0 1 2 3 4 10 rfl
 refine Fa (fun a w'=>False) ?_ ?_
 ·refine wp_block (Hs (fun (m1 : Nat) a w'=>∃ x1 : Int,∃ x2 : Int,∃ x3 : Int,∃ x4 : Bool,Hh Ak m1 x1 x2 x3 x4 = some r ∧ Sx w (U.ownBlock.toList) nov [.own U 101 11 Ak.length (Ak.flatMap Eg.enc)] [(0,U),(1,iV x1),(2,iV x2),(3,iV x3),(4,.func (.func 123) #[] #[]),(10,bV x4)] 148 a w') id 4611686018427387904 ⟨Ah,Aj,Cy,true,h,S.nf [true] rfl (subR rfl)⟩ ?_)
  clear S h;rintro m1 a w1 ⟨x1,x2,x3,x4,h,S⟩
  cases m1 with
  | zero=>rw [Hh.eq_1] at h;cases h
  | succ m1 =>
   rw [Hh.eq_2] at h
   refine wp_block (Fr (Vm S rfl rfl fun a S=>Vm S rfl rfl fun a S=>Vb S Jt rfl rfl rfl fun a S=>Va S rfl rfl fun a S=>Dl (Fs (Fs ?_))))
   refine Fg (Vm S rfl rfl fun a S=>Vq S Vd rfl rfl rfl fun a S=>Dl (Fc h (S.tm rfl) (fun hb1 h=>?_) (fun hb1 h=>?_)))
   ·refine Fs (Fg ?_)
    iterate 4 (refine Vm S rfl rfl ?_;clear S;intro a S)
    obtain ⟨r1,hr1,h⟩:=Ga h
    refine Pc 0 S rfl (fun _=>.own U 101 11 r1.length (r1.flatMap Eg.enc)) (fun _=>Ei (vs:=[U,iV x1,iV x2,.func (.func 123) #[] #[]]) ⟨(S.tm rfl),(S.tm rfl),(S.tm rfl),(S.tm rfl),trivial⟩ call110) (Rh _ U Ak (S.holds _ (List.mem_of_getElem? (i:=0) rfl)) x1 x2 _ hr1) rfl (fun _ _ _ h=>⟨h.1,fun _ hc=>hc⟩) ?_;clear S;intro v1 a w3 hv1 hk1 hn1 S
    replace hv1:=hv1.2
    subst hv1
    refine Ld ?_
    replace S:=(S.nl [.own U 101 11 r1.length (r1.flatMap Eg.enc)] [true] rfl).k0
    refine Tn (wp_ret (Ek (Gg (Ek (Gg (Ek ?_))))))
    obtain rfl:=Option.some.inj h
    exact Vg S results144 ⟨(S.holds _ (List.mem_of_getElem? (i:=0) rfl)),rfl⟩
   ·refine wp_skip (Tn (Fs (Fr (Vm S rfl rfl fun a S=>Vq S Jn rfl rfl rfl fun a S=>Dl (Fc h (S.tm rfl) (fun hb2 h=>?_) (fun hb2 h=>?_))))))
    ·refine Fs ?_
     cases h
    ·refine wp_skip (Tn (Fs (Fr (Vm S rfl rfl fun a S=>Vu S Ig rfl rfl fun a S=>Ld ?_))))
     replace S:=S.k1 39 rfl
     refine Tn (Fc h (S.tm rfl) (fun hb3 h=>?_) (fun hb3 h=>?_))
     ·refine Fs ?_
      cases h
     ·refine wp_skip (Tn (Fs ?_))
      cases h
 exact fun _ _ h=>h.elim
theorem Uv (w : World) (Bc : Value) (Ac : List Eg) (Cs : (LEnt.own Bc 101 11 Ac.length (Ac.flatMap Eg.enc)).holds w) (r : (List Eg)) (h : Kk Ac = some r) :
    Calls prog 122 [Bc,.func (.func 123) #[] #[]].toArray w (Ret w (Bc.ownBlock.toList) fun _ v w'=>(LEnt.own Bc 101 11 r.length (r.flatMap Eg.enc)).holds w' ∧ v = .tuple #[]):=by
 refine Nb (Bc.ownBlock.toList) [.own Bc 101 11 Ac.length (Ac.flatMap Eg.enc)] func122 rfl ntmps122 rfl (fun e he=>by simp only [List.mem_singleton] at he;subst he;exact Cs) (Kw _) (Mv _) fun a S=>?_
 unfold Kk at h
 replace S:=(S.nl [.own Bc 101 11 Ac.length (Ac.flatMap Eg.enc)] [true] rfl).k2 0 1 rfl
 refine Fr (Vm S rfl rfl fun a S=>lv S (Gn Pn (S.tm rfl) (Qb (S.own_at (i:=0) rfl))) rfl fun a S=>Va S rfl rfl fun a S=>Dl (Fg ?_))
 iterate 3 (refine Vm S rfl rfl ?_;clear S;intro a S)
 refine Vu S (Xi underlying3 underlying76) rfl rfl ?_;clear S;intro a S
 obtain ⟨r1,hr1,h⟩:=Ga h
 refine Er S (fun _=>Ei (vs:=[.int .u64 (IntKind.wrap .u64 (Ac.length : Int))]) ⟨(S.tm rfl),trivial⟩ call23) (IG _ (IntKind.wrap .u64 (Ac.length : Int)) _ hr1) rfl ?_;clear S;intro v1 a w1 hv1 hk1 hn1 S
 subst hv1
 refine Vm S rfl rfl ?_;clear S;intro a S
 obtain ⟨r2,hr2,h⟩:=Ga h
 refine Pc 0 S rfl (fun _=>.own Bc 101 11 r2.length (r2.flatMap Eg.enc)) (fun _=>Ei (vs:=[Bc,iV 0,iV (Ac.length : Int),iV r1,.func (.func 123) #[] #[]]) ⟨(S.tm rfl),rfl,(S.tm rfl),(S.tm rfl),(S.tm rfl),trivial⟩ call144) (Su _ Bc Ac (S.holds _ (List.mem_of_getElem? (i:=0) rfl)) 0 (Ac.length : Int) r1 _ hr2) rfl (fun _ _ _ h=>⟨h.1,fun _ hc=>hc⟩) ?_;clear S;intro v2 a w2 hv2 hk2 hn2 S
 replace hv2:=hv2.2
 subst hv2
 refine Ld ?_
 obtain rfl:=Option.some.inj h
 exact Vg S results122 ⟨(S.holds _ (List.mem_of_getElem? (i:=0) rfl)),rfl⟩
theorem BC (w : World) (O : Nat) (Ao : Ni) (Cb : R32) (Ci : Wm (view w []) Ao Cb) (Ba : Value) (Am : List Eg) (Bi : Slc (view w []) 11 Ba (Am.map Eg.enc)) (Az : (view w []) O = some (.cells (R32.enc Cb ++ [Ba]).toArray 128 (0,0))) (As : ByteArray) (r : (List Eg)) (h : Ss Ao Am As = some r) :
    Calls prog 86 [.pointer (some ⟨O,0,none⟩),sV As].toArray w (Ret w [] fun τ v _=>Ve τ 101 11 v r.length (r.flatMap Eg.enc)):=by
 obtain ⟨u1,u2,rfl,hs1,⟨u3,rfl,hs2⟩⟩:=Ci
 replace Az : (view w []) O = some (.cells [u1.val,u3.val,iV Ao.Table.Relay,iV Ao.Table.Most,iV Ao.Final.Size,iV Ao.Final.Many,iV Ao.Final.Reserves,Ba].toArray 128 (0,0)):=Az
 refine Fe func86 rfl ntmps86 rfl fun a S=>?_
 unfold Ss at h
 replace S:=S.k2 0 1 rfl
 refine Fr (Vk S rfl rfl fun a S=>Dz (RF (κ:=ByteArray) (ν:=Eg) S rfl Value.string (fun x=>Value.agg (Eg.enc x).toArray) ?_));clear S;intro a w1 b1 hz1 hk1 S
 refine Va S rfl rfl fun a S=>Dl (Fs (Fr (Vm S rfl rfl fun a S=>Vu S Jh rfl rfl fun a S=>Vf GH S rfl rfl fun a S=>lv S (Hw isAgg34 (off:=0) (o:=7) (S.tm rfl) ((Pl Az).at S.emb0) rfl) rfl fun a S=>lv S (Gn Pn (S.tm rfl) (Gk Bi)) rfl ?_)));clear S;intro a S
 refine lv S (Rm rfl) rfl fun a S=>Dl ?_
 replace S:=(S.nl [.map b1 (Kf Value.string (fun x=>Value.agg (Eg.enc x).toArray) ([] : List (ByteArray × Eg)) ([] : List Nat)) 0] [true] rfl).k5 1 5 15 16 17 rfl
 obtain ⟨j1,hj1,h⟩:=Fk h
 refine Fa (fun a w'=>∃ x1 : List (ByteArray × Eg),∃ bs1 : List Nat,∃ ck1 : Nat,j1 x1 = some r ∧ Wd x1.length bs1 ck1 ∧ Sx w [] nov [.map b1 (Kf Value.string (fun x=>Value.agg (Eg.enc x).toArray) x1 bs1) ck1] [(5,.map (some b1))] 52 a w') ?_ ?_
 ·refine wp_block (Hs (fun (ys1 : List Eg) a w'=>∃ i1 : Nat,∃ x1 : List (ByteArray × Eg),∃ bs1 : List Nat,∃ ck1 : Nat,(∃ dn,Am = dn ++ ys1 ∧ dn.length = i1) ∧ Mn As j1 ys1 i1 x1 = some r ∧ Wd x1.length bs1 ck1 ∧ Sx w [] nov [.map b1 (Kf Value.string (fun x=>Value.agg (Eg.enc x).toArray) x1 bs1) ck1] [(1,sV As),(5,.map (some b1)),(15,Ba),(16,iV (Am.length : Int)),(17,iV (i1 : Int))] 52 a w') List.length Am ⟨0,([] : List (ByteArray × Eg)),([] : List Nat),0,⟨[],rfl,rfl⟩,h,(UY (κ:=ByteArray) (ν:=Eg)),S.nf [true] rfl (subR rfl)⟩ ?_)
  clear S h;rintro ys1 a w2 ⟨i1,x1,bs1,ck1,⟨dn,hd1,hi1⟩,h,hB1,S⟩
  cases ys1 with
  | nil =>
   rw [Mn.eq_1] at h
   refine Fr (Vb S Fp rfl rfl rfl fun a S=>Ld ?_)
   replace S:=S.k6 1 5 15 16 17 18 rfl
   exact Tn (Fs (wp_cond_false ((S.tm rfl).trans (congrArg Value.bool (Jq hd1 hi1))) (wp_exit (Ew (Ew (Hl (Tn (⟨x1,bs1,ck1,h,hB1,S.nf [true] rfl ⟨rfl,trivial⟩⟩))))))))
  | cons y1 ys1 =>
   rw [Mn.eq_2] at h
   refine Fr (Vb S Fp rfl rfl rfl fun a S=>Ld ?_)
   replace S:=S.k6 1 5 15 16 17 18 rfl
   refine Tn (Fs (wp_cond_true ((S.tm rfl).trans (congrArg Value.bool (Iv hd1 hi1))) (wp_skip (Tn (Fs ?_)))))
   obtain ⟨j2,hj2,h⟩:=Fk h
   refine Fa (fun a w'=>∃ x2 : List (ByteArray × Eg),∃ bs2 : List Nat,∃ ck2 : Nat,j2 x2 = some r ∧ Wd x2.length bs2 ck2 ∧ Sx w [] nov [.map b1 (Kf Value.string (fun x=>Value.agg (Eg.enc x).toArray) x2 bs2) ck2] [(1,sV As),(5,.map (some b1)),(15,Ba),(16,iV (Am.length : Int)),(17,iV (i1 : Int))] 52 a w') ?_ ?_
   ·refine wp_block (Fs (Fg ?_))
    obtain ⟨b2,o1,hm1,hr1⟩:=Fv (a:=a) (x:=.tmp 15) (y:=.tmp 17) (ty:=0) Pn Bi (Js hd1 hi1) rfl (S.tm rfl) (S.tm rfl)
    refine lv S (hr1 _) rfl ?_;clear S;intro a S
    clear hr1
    refine lv S (Gh isAgg101 sizeOf101 (off:=o1) (o:=0) (part:=(Eg.enc y1)) rfl rfl (S.tm rfl) (hm1.at S.emb0)) rfl fun a S=>Iz S zeroValue101 (cs:=[sV An,iV 0,iV 0,iV 0,sV An,sV An,sV An,iV 0,iV 0,sV An,iV 0]) rfl rfl ?_;clear S;intro a w5 b3 hz2 hk2 S
    refine Ft S (S.tm rfl) (S.tm rfl) (i:=0) (off:=0) rfl sizeOf101 (vs:=(Eg.enc y1)) rfl rfl rfl rfl ?_;clear S;intro w6 hk3 S
    refine Dl (Fs (Fr (Vf Sm S rfl rfl fun a S=>Vl isAgg9 0 S rfl rfl rfl rfl fun a S=>Vm S rfl rfl fun a S=>Vb S DZ rfl rfl rfl fun a S=>Dl ?_)))
    refine Fc h (S.tm rfl) (fun hb1 h=>?_) (fun hb1 h=>?_)
    ·exact wp_exit (Ew (Hl (Tn (⟨x1,bs1,ck1,h,hB1,S.nf [false,true] rfl (subR rfl)⟩))))
    ·refine wp_skip (Tn (Fr (Vf Pv S rfl rfl fun a S=>Vl isAgg3 0 S rfl rfl rfl rfl fun a S=>Ld ?_)))
     replace S:=(S.nl [.blk b3 (Eg.enc y1) 101,.map b1 (Kf Value.string (fun x=>Value.agg (Eg.enc x).toArray) x1 bs1) ck1] [true,true] rfl).k7 1 5 7 15 16 17 26 rfl
     refine Tn ?_
     obtain ⟨j3,hj3,h⟩:=Fk h
     refine Fa (fun a w'=>∃ x3 : List (ByteArray × Eg),∃ bs3 : List Nat,∃ ck3 : Nat,j3 x3 = some r ∧ Wd x3.length bs3 ck3 ∧ Sx w [] nov [.blk b3 (Eg.enc y1) 101,.map b1 (Kf Value.string (fun x=>Value.agg (Eg.enc x).toArray) x3 bs3) ck3] [(1,sV As),(5,.map (some b1)),(15,Ba),(16,iV (Am.length : Int)),(17,iV (i1 : Int))] 52 a w') ?_ ?_
     ·refine wp_block (Fr (Vq S Jn rfl rfl rfl fun a S=>Va S rfl rfl fun a S=>Dl ?_))
      obtain ⟨j4,hj4,h⟩:=Fk h
      refine Fa (fun a w'=>∃ x4 : List (ByteArray × Eg),∃ bs4 : List Nat,∃ ck4 : Nat,j4 x4 = some r ∧ Wd x4.length bs4 ck4 ∧ Sx w [] nov [.blk b3 (Eg.enc y1) 101,.map b1 (Kf Value.string (fun x=>Value.agg (Eg.enc x).toArray) x4 bs4) ck4] [(1,sV As),(5,.map (some b1)),(15,Ba),(16,iV (Am.length : Int)),(17,iV (i1 : Int))] 52 a w') ?_ ?_
      ·refine Fc h (S.tm rfl) (fun hb2 h=>?_) (fun hb2 h=>?_)
       ·refine Fg (Vm S rfl rfl fun a S=>Vf Oq S rfl rfl fun a S=>Vl isAgg9 0 S rfl rfl rfl rfl fun a S=>lv S (Gh isAgg101 sizeOf101 (off:=0) (o:=0) (part:=(Eg.enc y1)) rfl rfl (S.tm rfl) (S.cellsAt (i:=0) rfl)) rfl fun a S=>NP (kv:=Value.string) (vv:=(fun x=>Value.agg (Eg.enc x).toArray)) (m:=x1) (key:=y1.Who) (val:=y1) S (i:=1) rfl hB1 underlying164 (Nu underlying9) (S.tm rfl) (S.tm rfl) (S.tm rfl) ?_);clear S;intro w9 bs5 ck5 hB5 hk4 S
        exact Dl (⟨(Hj x1 y1.Who y1),bs5,ck5,h,hB5,S.nf [true,true] rfl (subR rfl)⟩)
       ·refine Fr (Vq S Jn rfl rfl rfl fun a S=>Va S rfl rfl fun a S=>Dl ?_)
        obtain ⟨j5,hj5,h⟩:=Fk h
        refine Fa (fun a w'=>∃ x5 : List (ByteArray × Eg),∃ bs6 : List Nat,∃ ck6 : Nat,j5 x5 = some r ∧ Wd x5.length bs6 ck6 ∧ Sx w [] nov [.blk b3 (Eg.enc y1) 101,.map b1 (Kf Value.string (fun x=>Value.agg (Eg.enc x).toArray) x5 bs6) ck6] [(1,sV As),(5,.map (some b1)),(15,Ba),(16,iV (Am.length : Int)),(17,iV (i1 : Int))] 52 a w') ?_ ?_
        ·refine Fc h (S.tm rfl) (fun hb3 h=>?_) (fun hb3 h=>?_)
         ·refine Fg (Vm S rfl rfl fun a S=>Vf Oq S rfl rfl fun a S=>Vl isAgg9 0 S rfl rfl rfl rfl fun a S=>UZ (kv:=Value.string) (vv:=(fun x=>Value.agg (Eg.enc x).toArray)) (m:=x1) (key:=y1.Who) S (i:=1) rfl hB1 rfl underlying164 (Nu underlying9) (S.tm rfl) (S.tm rfl) ?_);clear S;intro w11 bs7 ck7 hB7 hk5 S
          exact Dl (⟨(CJ x1 y1.Who),bs7,ck7,h,hB7,S.nf [true,true] rfl (subR rfl)⟩)
         ·exact wp_skip (Tn (⟨x1,bs1,ck1,h,hB1,S.nf [true,true] rfl (subR rfl)⟩))
        clear S h;rintro a w10 ⟨x5,bs6,ck6,h,hB6,S⟩;rw [hj5] at h;clear hj5 j5
        exact Tn (⟨x5,bs6,ck6,h,hB6,S.nf [true,true] rfl (subR rfl)⟩)
      clear S h;rintro a w8 ⟨x4,bs4,ck4,h,hB4,S⟩;rw [hj4] at h;clear hj4 j4
      exact Im (Tn (⟨x4,bs4,ck4,h,hB4,S.nf [true,true] rfl (subR rfl)⟩))
     clear S h;rintro a w7 ⟨x3,bs3,ck3,h,hB3,S⟩;rw [hj3] at h;clear hj3 j3
     exact Im (Tn (⟨x3,bs3,ck3,h,hB3,S.nf [false,true] rfl (subR rfl)⟩))
   clear S h;rintro a w4 ⟨x2,bs2,ck2,h,hB2,S⟩;rw [hj2] at h;clear hj2 j2
   exact Tn (Fg (Vq S Gw rfl rfl rfl fun a S=>Vm S rfl rfl fun a S=>Dl (⟨ys1,⟨i1 + 1,x2,bs2,ck2,⟨_,(hd1).trans (List.append_cons _ _ _),by simp [hi1]⟩,h,hB2,S.nf [true] rfl ⟨rfl,rfl,rfl,rfl,(congrArg (fun z=>some (Value.int .i64 z)) (Iw hd1 hi1 (Kh Bi))),trivial⟩⟩,Nat.lt_succ_self _⟩)))
 clear S h;rintro a w3 ⟨x1,bs1,ck1,h,hB1,S⟩;rw [hj1] at h;clear hj1 j1
 refine Tn (Fr (Vk S rfl rfl ?_));clear S;intro a S
 replace S:=S.nil 101 11
 refine Dl (Fs (Fr (Vm S rfl rfl fun a S=>l_range (es:=Kf Value.string (fun x=>Value.agg (Eg.enc x).toArray) x1 bs1) (clk:=ck1) S (S.map_at (i:=1) rfl) underlying164 (S.tm rfl) rfl ?_)));clear S;intro a w12 b4 hz3 hk6 S
 refine Dl ?_
 replace S:=(S.nl [.iter b4 b1 ck1 #[] ck1,.own (.slice none 0 0) 101 11 ([] : List Eg).length (([] : List Eg).flatMap Eg.enc),.map b1 (Kf Value.string (fun x=>Value.agg (Eg.enc x).toArray) x1 bs1) ck1] [true,true,true] rfl).k2 8 40 rfl
 obtain ⟨j6,hj6,h⟩:=Fk h
 replace h:=allE h
 refine Fa (fun a w'=>∃ x6 : List Eg,∃ v1 : Value,j6 x6 = some r ∧ Sx w [] nov [.own v1 101 11 x6.length (x6.flatMap Eg.enc),.map b1 (Kf Value.string (fun x=>Value.agg (Eg.enc x).toArray) x1 bs1) ck1] [(8,v1)] 52 a w') ?_ ?_
 ·refine wp_block (Hs (fun (q : List (ByteArray × Eg)) a w'=>∃ x6 : List Eg,∃ v1 : Value,∃ sn1 : Array Nat,FA x1 bs1 sn1 = q ∧ (∀ p,p.Perm q → Nq j6 p x6 = some r) ∧ Sx w [] nov [.iter b4 b1 ck1 sn1 ck1,.own v1 101 11 x6.length (x6.flatMap Eg.enc),.map b1 (Kf Value.string (fun x=>Value.agg (Eg.enc x).toArray) x1 bs1) ck1] [(8,v1),(40,.pointer (some ⟨b4,0,none⟩))] 52 a w') List.length x1 ⟨([] : List Eg),(.slice none 0 0),#[],(leftB_0 hB1),h,S.nf [true,true,true] rfl (subR rfl)⟩ ?_)
  clear S h;rintro q a w13 ⟨x6,v1,sn1,hq,h,S⟩
  refine Fr (l_nextB (kv:=Value.string) (vv:=(fun x=>Value.agg (Eg.enc x).toArray)) (m:=x1) S (i:=0) rfl (S.map_at (i:=2) rfl) hB1 (S.tm rfl) rfl ?_ ?_)
  ·intro hn1;clear S;intro a S
   replace h:=WH h (hq.symm.trans hn1)
   rw [Nq.eq_1] at h
   refine Vq S Ia rfl rfl rfl fun a S=>Ld ?_
   replace S:=S.k3 8 40 42 rfl
   exact Tn (Fs (wp_cond_false (S.tm rfl) (wp_exit (Ew (Ew (Hl (Tn (⟨x6,v1,h,S.nf [false,true,true] rfl ⟨rfl,trivial⟩⟩))))))))
  ·clear S;intro y2 sn2 a w15 hp1 hl1 hk7 S
   obtain ⟨sq1,h,hn2⟩:=US h (by rw [← hq];exact hp1) (fun _=>rfl)
   refine Vq S Ia rfl rfl rfl fun a S=>Ld ?_
   replace S:=(S.nl [.iter b4 b1 ck1 sn2 ck1,.own v1 101 11 x6.length (x6.flatMap Eg.enc),.map b1 (Kf Value.string (fun x=>Value.agg (Eg.enc x).toArray) x1 bs1) ck1] [true,true,true] rfl).k3 8 40 42 rfl
   refine Tn (Fs (wp_cond_true (S.tm rfl) (wp_skip (Tn (wp_block (Fr (lv S (VA (kv:=Value.string) (vv:=(fun x=>Value.agg (Eg.enc x).toArray)) (m:=x1) (e:=y2) (S.holds _ (List.mem_of_getElem? (i:=0) rfl)) (S.map_at (i:=2) rfl) hB1 hl1 (S.tm rfl)) rfl fun a S=>Vq S Ia rfl rfl rfl fun a S=>Iz S zeroValue101 (cs:=[sV An,iV 0,iV 0,iV 0,sV An,sV An,sV An,iV 0,iV 0,sV An,iV 0]) rfl rfl ?_)))))));clear S;intro a w16 b5 hz4 hk8 S
   refine Ft S (S.tm rfl) (S.tm rfl) (i:=0) (off:=0) rfl sizeOf101 (vs:=(Eg.enc y2.2)) rfl rfl rfl rfl ?_;clear S;intro w17 hk9 S
   refine Dl (Fg (Vm S rfl rfl fun a S=>lv S (Gh isAgg101 sizeOf101 (off:=0) (o:=0) (part:=(Eg.enc y2.2)) rfl rfl (S.tm rfl) (S.cellsAt (i:=0) rfl)) rfl fun a S=>Fq S underlying34 sizeOf101 zeroValue101 rfl rfl (pv:=[(0,.agg (Eg.enc y2.2).toArray)]) ⟨rfl,(S.tm rfl),trivial⟩ (cs:=[sV y2.2.Site,iV y2.2.No,iV y2.2.At,iV y2.2.Kind,sV y2.2.Who,sV y2.2.Club,sV y2.2.Race,iV y2.2.Time,iV y2.2.Fault,sV y2.2.Of,iV y2.2.Other]) (by kernel_rfl) rfl ?_));clear S;intro a w18 b6 hz5 hk10 S
   obtain ⟨hc1,h⟩:=Jc h
   refine Np Pn Eg.enc_ok S (S.tm rfl) (i:=3) rfl (S.tm rfl) (j:=0) rfl (ys:=[y2.2]) rfl rfl rfl rfl (by have:=Nx hc1;omega) rfl ?_;clear S;intro v2 a w19 hk11 S
   refine Va S rfl rfl fun a S=>Ld (Im (Tn ?_))
   obtain rfl:=Option.some.inj h
   exact ⟨FA x1 bs1 sn2,⟨(x6 ++ [y2.2]),v2,sn2,rfl,hn2,S.nf [false,false,true,true,true] rfl (subR rfl)⟩,by have:=hp1.length_eq;rw [hq] at this;simp only [List.length_cons] at this;omega⟩
 clear S h;rintro a w14 ⟨x6,v1,h,S⟩;rw [hj6] at h;clear hj6 j6
 refine Tn (Fr (Vm S rfl rfl ?_));clear S;intro a S
 obtain ⟨r1,hr2,h⟩:=Ga h
 refine Pc 0 S rfl (fun _=>.own v1 101 11 r1.length (r1.flatMap Eg.enc)) (fun _=>Ei (vs:=[v1,.func (.func 123) #[] #[]]) ⟨(S.tm rfl),rfl,trivial⟩ call122) (Uv _ v1 x6 (S.holds _ (List.mem_of_getElem? (i:=0) rfl)) _ hr2) rfl (fun _ _ _ h=>⟨h.1,fun _ hc=>hc⟩) ?_;clear S;intro v3 a w20 hv1 hk12 hn3 S
 replace hv1:=hv1.2
 subst hv1
 refine Dz (Vm S rfl rfl fun a S=>Va S rfl rfl fun a S=>Dl (wp_ret ?_))
 obtain rfl:=Option.some.inj h
 exact Fd S results86 rfl (Uf S (i:=0) rfl rfl)
theorem LJ (w : World) (O : Nat) (Ao : Ni) (Cb : R32) (Ci : Wm (view w []) Ao Cb) (Ba : Value) (Am : List Eg) (Bi : Slc (view w []) 11 Ba (Am.map Eg.enc)) (Az : (view w []) O = some (.cells (R32.enc Cb ++ [Ba]).toArray 128 (0,0))) (Bm : ByteArray) (r : Eu × Int) (h : Zo Ao Am Bm = some r) :
    Calls prog 44 [.pointer (some ⟨O,0,none⟩),sV Bm].toArray w (Ret w [] fun _ v _=>v = .tuple #[.agg (Eu.enc r.1).toArray,iV r.2]):=by
 obtain ⟨u1,u2,rfl,hs1,⟨u3,rfl,hs2⟩⟩:=Ci
 replace Az : (view w []) O = some (.cells [u1.val,u3.val,iV Ao.Table.Relay,iV Ao.Table.Most,iV Ao.Final.Size,iV Ao.Final.Many,iV Ao.Final.Reserves,Ba].toArray 128 (0,0)):=Az
 refine Fe func44 rfl ntmps44 rfl fun a S=>?_
 unfold Zo at h
 replace S:=S.k2 0 1 rfl
 refine Fr (Mk S (S.tm rfl) (cs:=[sV Bm]) rfl rfl ?_);clear S;intro a w1 b1 hz1 hk1 S
 refine Iz S zeroValue38 (cs:=[sV An,iV 0,iV 0,iV 0,iV 0,iV 0,iV 0,iV 0]) rfl rfl ?_;clear S;intro a w2 b2 hz2 hk2 S
 refine Vk S rfl rfl fun a S=>Dz (Vm S rfl rfl fun a S=>Vu S Jh rfl rfl fun a S=>Vf KA S rfl rfl fun a S=>Vf BW S rfl rfl fun a S=>lv S (Hw isAgg26 (off:=0) (o:=0) (S.tm rfl) ((Pl Az).at S.emb0) rfl) rfl fun a S=>lv S (Tr (us:=#[]) (xs:=[].toArray) (ys:=[.tmp 3].toArray) (by simp) (evA ⟨(S.tm rfl),trivial⟩ (vs:=[.pointer (some ⟨b1,0,none⟩)]))) rfl ?_);clear S;intro a S
 refine Er S (fun _=>Ei (vs:=[u1.val,.func (.func 85) #[] #[.pointer (some ⟨b1,0,none⟩)]]) ⟨(S.tm rfl),(S.tm rfl),trivial⟩ call84) (Vs _ u1.val Ao.Races (hs1.mono (S.le_arg Ez)) b1 Bm (S.blk_view (i:=1) rfl ((Ik (e':=.blk b1 [sV Bm] 9)) _ rfl)) _ rfl) rfl ?_;clear S;intro v1 a w3 hv1 hk3 hn1 S
 subst hv1
 refine Va S rfl rfl fun a S=>Dl (Fs (Fr (Vm S rfl rfl fun a S=>Vq S Fp rfl rfl rfl fun a S=>Ld ?_)))
 replace S:=(S.nl [.blk b2 (Eu.enc (Eu.mk An 0 0 0 0 0 0 0)) 38,.blk b1 [sV Bm] 9] [true,true] rfl).k5 0 3 4 6 15 rfl
 refine Tn (Fc h (S.tm rfl) (fun hb1 h=>?_) (fun hb1 h=>?_))
 ·refine Fr (lv S (Nc TK (pv:=[]) trivial (cs:=[sV An,iV 0,iV 0,iV 0,iV 0,iV 0,iV 0,iV 0]) (by kernel_rfl)) rfl fun a S=>Ft S (S.tm rfl) (S.tm rfl) (i:=0) (off:=0) rfl sizeOf38 (vs:=(Eu.enc (Eu.mk An 0 0 0 0 0 0 0))) rfl rfl rfl rfl ?_);clear S;intro w4 hk4 S
  refine Vk S rfl rfl fun a S=>Dl (wp_ret (Ek ?_))
  obtain rfl:=Option.some.inj h
  exact Wh S (rs:=[.cell 4 38,.tmp 5]) (vs:=[.agg (Eu.enc (Eu.mk An 0 0 0 0 0 0 0)).toArray,iV 8]) results44 ⟨(Qy (off:=0) S rfl isAgg38 sizeOf38 rfl (S.cellsAt (i:=0) rfl)),(Tu S rfl),trivial⟩ rfl rfl
 ·refine wp_skip (Tn (Fs (Fr (Vm S rfl rfl fun a S=>Vl isAgg9 1 S rfl rfl rfl rfl ?_))));clear S;intro a S
  obtain ⟨r1,hr1,h⟩:=Ga h
  have hz3:=S.keep.size
  refine Er S (fun _=>Ei (vs:=[.pointer (some ⟨O,0,none⟩),sV Bm]) ⟨(S.tm rfl),(S.tm rfl),trivial⟩ call86) (BC _ O Ao (R32.mk u1 (R28.mk u3 Ao.Table.Relay Ao.Table.Most) Ao.Final) ⟨u1,(R28.mk u3 Ao.Table.Relay Ao.Table.Most),rfl,(hs1.mono (S.le_arg Ez)),⟨u3,rfl,(hs2.mono (S.le_arg Ez))⟩⟩ Ba Am (Bi.mono (S.le_arg Ez)) ((S.le_arg Ez) _ _ Az) Bm _ hr1) rfl ?_;clear S;intro v2 a w5 hv2 hk5 hn2 S
  obtain ⟨φ1,hl1,hm1,S⟩:=S.see' hn2 hz3
  have hs3:=hv2.mono hm1
  refine lv S (Gn Pn (S.tm rfl) (Gk (Hn Eg.enc_ok hs3))) rfl fun a S=>Vq S Jz rfl rfl rfl fun a S=>Dl (Fc h (S.tm rfl) (fun hb2 h=>?_) (fun hb2 h=>?_))
  ·refine Fr (lv S (Nc TK (pv:=[]) trivial (cs:=[sV An,iV 0,iV 0,iV 0,iV 0,iV 0,iV 0,iV 0]) (by kernel_rfl)) rfl fun a S=>Ft S (S.tm rfl) (S.tm rfl) (i:=0) (off:=0) rfl sizeOf38 (vs:=(Eu.enc (Eu.mk An 0 0 0 0 0 0 0))) rfl rfl rfl rfl ?_);clear S;intro w6 hk6 S
   refine Vk S rfl rfl fun a S=>Dl (wp_ret (Ek ?_))
   obtain rfl:=Option.some.inj h
   exact Wh S (rs:=[.cell 4 38,.tmp 5]) (vs:=[.agg (Eu.enc (Eu.mk An 0 0 0 0 0 0 0)).toArray,iV 2]) results44 ⟨(Qy (off:=0) S rfl isAgg38 sizeOf38 rfl (S.cellsAt (i:=0) rfl)),(Tu S rfl),trivial⟩ rfl rfl
  ·refine wp_skip (Tn (Fr (Vm S rfl rfl fun a S=>Vu S Jh rfl rfl fun a S=>Vf KA S rfl rfl fun a S=>Vf BW S rfl rfl fun a S=>lv S (Hw isAgg26 (off:=0) (o:=0) (S.tm rfl) ((Pl Az).at S.emb0) rfl) rfl fun a S=>Vm S rfl rfl ?_)));clear S;intro a S
   obtain ⟨hc1,h⟩:=Jc h
   obtain ⟨b3,o1,hm2,hr2⟩:=Fv (a:=a) (x:=.tmp 27) (y:=.tmp 28) (ty:=0) Yq hs1 (Es hc1).1 (Es hc1).2 (S.tm rfl) (S.tm rfl)
   refine lv S (hr2 _) rfl ?_;clear S;intro a S
   clear hr2
   refine lv S (Gh isAgg38 sizeOf38 (off:=o1) (o:=0) (part:=(Eu.enc (nth Ao.Races (Hg Ao.Races Bm)))) rfl rfl (S.tm rfl) (hm2.at S.emb0)) rfl fun a S=>Ft S (S.tm rfl) (S.tm rfl) (i:=0) (off:=0) rfl sizeOf38 (vs:=(Eu.enc (nth Ao.Races (Hg Ao.Races Bm)))) rfl rfl rfl rfl ?_;clear S;intro w7 hk7 S
   refine Vk S rfl rfl fun a S=>Ld ?_
   replace S:=(S.nl [.blk b2 (Eu.enc (nth Ao.Races (Hg Ao.Races Bm))) 38] [true,false] rfl).k2 4 5 rfl
   refine Tn (wp_ret ?_)
   obtain rfl:=Option.some.inj h
   exact Wh S (rs:=[.cell 4 38,.tmp 5]) (vs:=[.agg (Eu.enc (nth Ao.Races (Hg Ao.Races Bm))).toArray,iV 0]) results44 ⟨(Qy (off:=0) S rfl isAgg38 sizeOf38 rfl (S.cellsAt (i:=0) rfl)),(Tu S rfl),trivial⟩ rfl rfl
set_option maxRecDepth 20000 in
theorem PY (w : World) (ψ : View) (hψ : View.le ψ (view w [])) (Ag : Ni) (Cm : R32) (Cu : Wm ψ Ag Cm) (Ab : Value) (Ad : List Eg) (Ae : Slc ψ 11 Ab (Ad.map Eg.enc)) (As : ByteArray) (Bd : Int) (r : (Option Lm) × Eu × Int) (h : CX Ag Ad As Bd = some r) :
    Calls prog 20 [.agg (R32.enc Cm).toArray,Ab,sV As,iV Bd].toArray w (Ret w [] fun τ v _=>∃ u1 : Value,v = .tuple #[u1,.agg (Eu.enc r.2.1).toArray,iV r.2.2] ∧ EM (join ψ τ) 128 GA.enc BT u1 r.1):=by
 obtain ⟨u1,u2,rfl,hs1,⟨u3,rfl,hs2⟩⟩:=Cu
 refine Fe func20 rfl ntmps20 rfl fun a S=>?_
 unfold CX at h
 replace S:=S.k4 0 1 2 3 rfl
 refine Fr (Mk S (S.tm rfl) (cs:=[u1.val,u3.val,iV Ag.Table.Relay,iV Ag.Table.Most,iV Ag.Final.Size,iV Ag.Final.Many,iV Ag.Final.Reserves]) rfl rfl ?_);clear S;intro a w1 b1 hz1 hk1 S
 refine Vk S rfl rfl fun a S=>Iz S zeroValue38 (cs:=[sV An,iV 0,iV 0,iV 0,iV 0,iV 0,iV 0,iV 0]) rfl rfl ?_;clear S;intro a w2 b2 hz2 hk2 S
 refine Vk S rfl rfl fun a S=>Dz (lv S (Gh isAgg32 sizeOf32 (off:=0) (o:=0) (part:=[u1.val,u3.val,iV Ag.Table.Relay,iV Ag.Table.Most,iV Ag.Final.Size,iV Ag.Final.Many,iV Ag.Final.Reserves]) rfl rfl (S.tm rfl) (S.cellsAt (i:=1) rfl)) rfl fun a S=>Vm S rfl rfl fun a S=>Vm S rfl rfl fun a S=>Fq S underlying22 sizeOf3 zeroValue3 rfl rfl (pv:=[(0,iV Bd)]) ⟨rfl,(S.tm rfl),trivial⟩ (cs:=[iV Bd]) (by kernel_rfl) rfl ?_);clear S;intro a w3 b3 hz3 hk3 S
 replace S:=S.litOwn (i:=0) (xs:=[Bd]) rfl Ju rfl rfl rfl
 replace S:=S.nk [.own (.slice (some ⟨b3,0,none⟩) 1 1) 3 1 ([Bd] : List Int).length (([Bd] : List Int).flatMap eInt),.blk b2 (Eu.enc (Eu.mk An 0 0 0 0 0 0 0)) 38,.blk b1 [u1.val,u3.val,iV Ag.Table.Relay,iV Ag.Table.Most,iV Ag.Final.Size,iV Ag.Final.Many,iV Ag.Final.Reserves] 32] [(0,.agg #[u1.val,u3.val,iV Ag.Table.Relay,iV Ag.Table.Most,iV Ag.Final.Size,iV Ag.Final.Many,iV Ag.Final.Reserves]),(1,Ab),(2,sV As),(3,iV Bd),(4,.pointer (some ⟨b1,0,none⟩)),(8,.pointer none),(9,.pointer (some ⟨b2,0,none⟩)),(10,iV 0),(15,.agg #[u1.val,u3.val,iV Ag.Table.Relay,iV Ag.Table.Most,iV Ag.Final.Size,iV Ag.Final.Many,iV Ag.Final.Reserves]),(16,Ab),(17,iV Bd),(18,(.slice (some ⟨b3,0,none⟩) 1 1))] [] rfl (subR rfl)
 obtain ⟨φ1,hl1,hs3,S⟩:=S.freezeT (xs:=([Bd] : List Int)) (enc:=eInt) (i:=0) rfl (fun _ h=>by cases h)
 replace S:=S.nk [.blk b2 (Eu.enc (Eu.mk An 0 0 0 0 0 0 0)) 38,.blk b1 [u1.val,u3.val,iV Ag.Table.Relay,iV Ag.Table.Most,iV Ag.Final.Size,iV Ag.Final.Many,iV Ag.Final.Reserves] 32] [(0,.agg #[u1.val,u3.val,iV Ag.Table.Relay,iV Ag.Table.Most,iV Ag.Final.Size,iV Ag.Final.Many,iV Ag.Final.Reserves]),(1,Ab),(2,sV As),(3,iV Bd),(4,.pointer (some ⟨b1,0,none⟩)),(8,.pointer none),(9,.pointer (some ⟨b2,0,none⟩)),(10,iV 0),(15,.agg #[u1.val,u3.val,iV Ag.Table.Relay,iV Ag.Table.Most,iV Ag.Final.Size,iV Ag.Final.Many,iV Ag.Final.Reserves]),(16,Ab),(17,iV Bd),(18,(.slice (some ⟨b3,0,none⟩) 1 1))] [] rfl (subR rfl)
 obtain ⟨r1,hr1,h⟩:=Ga h
 have hz4:=S.keep.size
 refine Er S (fun _=>Ei (vs:=[.agg (R32.enc (R32.mk u1 (R28.mk u3 Ag.Table.Relay Ag.Table.Most) Ag.Final)).toArray,Ab,(.slice (some ⟨b3,0,none⟩) 1 1)]) ⟨(S.tm rfl),(S.tm rfl),(S.tm rfl),trivial⟩ call43) (OL _ (join ψ φ1) (Ry (View.le_trans hψ (S.le_arg Ez)) (S.le_new Ez)) Ag (R32.mk u1 (R28.mk u3 Ag.Table.Relay Ag.Table.Most) Ag.Final) ⟨u1,(R28.mk u3 Ag.Table.Relay Ag.Table.Most),rfl,(hs1.mono (le_join_left _ _)),⟨u3,rfl,(hs2.mono (le_join_left _ _))⟩⟩ Ab Ad (Ae.mono (le_join_left _ _)) (.slice (some ⟨b3,0,none⟩) 1 1) ([Bd] : List Int) ((Hn Ju hs3).mono (S.all_right hψ)) _ hr1) rfl ?_;clear S;intro v1 a w4 hv1 hk4 hn1 S
 obtain ⟨u4,rfl,ho1⟩:=hv1
 obtain ⟨φ2,hl2,hm1,S⟩:=S.see' hn1 hz4
 have hq1:=EM.mono (Ua (Vi hl2 hm1)) (Vi hl2 hm1) ho1
 refine Vm S rfl rfl fun a S=>Vq S Ia rfl rfl rfl fun a S=>Vq S Ia rfl rfl rfl fun a S=>Va S rfl rfl fun a S=>Va S rfl rfl fun a S=>Ld ?_
 replace S:=(S.nl [.blk b2 (Eu.enc (Eu.mk An 0 0 0 0 0 0 0)) 38] [true,false] rfl).k4 2 9 11 12 rfl
 refine Tn (Fs (Fr (Vm S rfl rfl fun a S=>Vq S Nt rfl rfl rfl fun a S=>Dl (Fc h (S.tm rfl) (fun hb1 h=>?_) (fun hb1 h=>?_)))))
 ·refine Fr (lv S (Nc TK (pv:=[]) trivial (cs:=[sV An,iV 0,iV 0,iV 0,iV 0,iV 0,iV 0,iV 0]) (by kernel_rfl)) rfl fun a S=>Vm S rfl rfl fun a S=>Vk S rfl rfl fun a S=>Ft S (S.tm rfl) (S.tm rfl) (i:=0) (off:=0) rfl sizeOf38 (vs:=(Eu.enc (Eu.mk An 0 0 0 0 0 0 0))) rfl rfl rfl rfl ?_);clear S;intro w5 hk5 S
  refine Va S rfl rfl fun a S=>Dl (wp_ret (Ek ?_))
  obtain rfl:=Option.some.inj h
  exact Wh S (rs:=[.tmp 8,.cell 9 38,.tmp 10]) (vs:=[.pointer none,.agg (Eu.enc (Eu.mk An 0 0 0 0 0 0 0)).toArray,iV r1.2]) results20 ⟨(Tu S rfl),(Qy (off:=0) S rfl isAgg38 sizeOf38 rfl (S.cellsAt (i:=0) rfl)),(Tu S rfl),trivial⟩ rfl ⟨_,rfl,rfl⟩
 ·refine wp_skip (Tn (Fr (Vm S rfl rfl fun a S=>Vm S rfl rfl ?_)));clear S;intro a S
  obtain ⟨r2,hr2,h⟩:=Ga h
  obtain ⟨b4,q1,rfl,hq2,hb2⟩:=hq1.deref hr2
  obtain ⟨u5,u9,rfl,⟨u6,u7,rfl,hs4,⟨u8,rfl,hs5⟩⟩,hs6⟩:=hq2
  replace hb2 : (join ψ φ2) b4 = some (.cells [u6.val,u8.val,iV r2.p_.Table.Relay,iV r2.p_.Table.Most,iV r2.p_.Final.Size,iV r2.p_.Final.Many,iV r2.p_.Final.Reserves,u9.val].toArray 128 (0,0)):=hb2
  obtain ⟨r3,hr3,h⟩:=Ga h
  refine Er S (fun _=>Ei (vs:=[.pointer (some ⟨b4,0,none⟩),sV As]) ⟨(S.tm rfl),(S.tm rfl),trivial⟩ call44) (LJ _ b4 r2.p_ (R32.mk u6 (R28.mk u8 r2.p_.Table.Relay r2.p_.Table.Most) r2.p_.Final) ⟨u6,(R28.mk u8 r2.p_.Table.Relay r2.p_.Table.Most),rfl,(hs4.mono (Ry (View.le_trans hψ (S.le_arg Ez)) (S.le_new Ez))),⟨u8,rfl,(hs5.mono (Ry (View.le_trans hψ (S.le_arg Ez)) (S.le_new Ez)))⟩⟩ u9.val r2.deeds_ (hs6.mono (Ry (View.le_trans hψ (S.le_arg Ez)) (S.le_new Ez))) ((Ry (View.le_trans hψ (S.le_arg Ez)) (S.le_new Ez)) _ _ hb2) As _ hr3) rfl ?_;clear S;intro v2 a w6 hv2 hk6 hn2 S
  subst hv2
  refine Vm S rfl rfl fun a S=>Vq S Ia rfl rfl rfl fun a S=>Vq S Ia rfl rfl rfl fun a S=>Iz S zeroValue38 (cs:=[sV An,iV 0,iV 0,iV 0,iV 0,iV 0,iV 0,iV 0]) rfl rfl ?_;clear S;intro a w7 b5 hz5 hk7 S
  refine Ft S (S.tm rfl) (S.tm rfl) (i:=0) (off:=0) rfl sizeOf38 (vs:=(Eu.enc r3.1)) rfl rfl rfl rfl ?_;clear S;intro w8 hk8 S
  refine Va S rfl rfl fun a S=>Dl (Fs (Hd [] ([b2]) Tryz.mixed S rfl (by kernel_rfl) ?_));clear S;intro w10 hk10 hsel S
  refine Eo 0 S hsel rfl rfl rfl (by kernel_rfl) (by kernel_rfl) rfl (fun _ hw=>(Rm (S.tm rfl))) fun a S=>Eo 1 S hsel rfl rfl rfl (by kernel_rfl) (by kernel_rfl) rfl (fun _ hw=>(Gh isAgg38 sizeOf38 (off:=0) (o:=0) (part:=(Eu.enc r3.1)) rfl rfl (S.tm rfl) ((S.blk_mem (i:=0) (cells:=(Eu.enc r3.1)) (b:=b5) (T:=38) rfl (Nf (i:=1) (j:=0) (e:=.blk b2 (Eu.enc (Eu.mk An 0 0 0 0 0 0 0)) 38) (e':=.blk b5 (Eu.enc r3.1) 38) S rfl rfl rfl)).kept hw))) fun a S=>Eo 2 S hsel rfl rfl rfl (by kernel_rfl) (by kernel_rfl) rfl (fun _ hw=>(Rm (S.tm rfl))) fun a S=>Eo 3 S hsel rfl rfl rfl (by kernel_rfl) (by kernel_rfl) rfl (fun _ hw=>(Ra (S.tm rfl))) fun a S=>Hi 4 (by kernel_rfl) rfl (Ft S (S.tm rfl) (S.tm rfl) (i:=1) (off:=0) rfl sizeOf38 (vs:=(Eu.enc r3.1)) rfl rfl rfl rfl ?_);clear S;intro w11 hk11 S
  refine Ld (It hk11 (Kt [5] hsel (by kernel_rfl) rfl ?_))
  clear hsel
  refine Gv S rfl (Ra (S.tm rfl)) rfl fun a S=>Jb ?_
  replace S:=(S.nl [.blk b2 (Eu.enc r3.1) 38] [false,true] rfl).k3 8 9 10 rfl
  refine Tn (wp_ret ?_)
  obtain rfl:=Option.some.inj h
  exact Wh S (rs:=[.tmp 8,.cell 9 38,.tmp 10]) (vs:=[.pointer (some ⟨b4,0,none⟩),.agg (Eu.enc r3.1).toArray,iV r3.2]) results20 ⟨(Tu S rfl),(Qy (off:=0) S rfl isAgg38 sizeOf38 rfl (S.cellsAt (i:=0) rfl)),(Tu S rfl),trivial⟩ rfl ⟨_,rfl,(EM.mk (GA.mk (R32.mk u6 (R28.mk u8 r2.p_.Table.Relay r2.p_.Table.Most) r2.p_.Final) u9) (Ua (Wy hψ S.le_newer) _ _ ⟨(R32.mk u6 (R28.mk u8 r2.p_.Table.Relay r2.p_.Table.Most) r2.p_.Final),u9,rfl,⟨u6,(R28.mk u8 r2.p_.Table.Relay r2.p_.Table.Most),rfl,hs4,⟨u8,rfl,hs5⟩⟩,hs6⟩) ((Wy hψ S.le_newer) _ _ hb2))⟩
theorem LK (w : World) (O : Nat) (Ao : Ni) (Cb : R32) (Ci : Wm (view w []) Ao Cb) (Ba : Value) (Am : List Eg) (Bi : Slc (view w []) 11 Ba (Am.map Eg.enc)) (Az : (view w []) O = some (.cells (R32.enc Cb ++ [Ba]).toArray 128 (0,0))) (As : ByteArray) (r : (List (ByteArray × Eg))) (h : Iy Ao Am As = r) :
    Calls prog 87 [.pointer (some ⟨O,0,none⟩),sV As].toArray w (Ret w [] fun τ v _=>∃ b : Nat,v = .map (some b) ∧ τ b = some (.map (Gx Value.string (fun x=>Value.agg (Eg.enc x).toArray) r) r.length)):=by
 obtain ⟨u1,u2,rfl,hs1,⟨u3,rfl,hs2⟩⟩:=Ci
 replace Az : (view w []) O = some (.cells [u1.val,u3.val,iV Ao.Table.Relay,iV Ao.Table.Most,iV Ao.Final.Size,iV Ao.Final.Many,iV Ao.Final.Reserves,Ba].toArray 128 (0,0)):=Az
 refine Fe func87 rfl ntmps87 rfl fun a S=>?_
 unfold Iy at h
 replace S:=S.k2 0 1 rfl
 refine Fr (Vk S rfl rfl fun a S=>Dz (Sf (κ:=ByteArray) (ν:=Eg) S rfl Value.string (fun x=>Value.agg (Eg.enc x).toArray) ?_));clear S;intro a w1 b1 hz1 hk1 S
 refine Va S rfl rfl fun a S=>Dl (Fs (Fr (Vm S rfl rfl fun a S=>Vu S Jh rfl rfl fun a S=>Vf GH S rfl rfl fun a S=>lv S (Hw isAgg34 (off:=0) (o:=7) (S.tm rfl) ((Pl Az).at S.emb0) rfl) rfl fun a S=>lv S (Gn Pn (S.tm rfl) (Gk Bi)) rfl ?_)));clear S;intro a S
 refine lv S (Rm rfl) rfl fun a S=>Dl ?_
 replace S:=(S.nl [.map b1 (Gx Value.string (fun x=>Value.agg (Eg.enc x).toArray) ([] : List (ByteArray × Eg))) ([] : List (ByteArray × Eg)).length] [true] rfl).k5 1 5 12 13 14 rfl
 obtain ⟨j1,hj1,h⟩:=Fk h
 refine Fa (fun a w'=>∃ x1 : List (ByteArray × Eg),j1 x1 = r ∧ Sx w [] nov [.map b1 (Gx Value.string (fun x=>Value.agg (Eg.enc x).toArray) x1) x1.length] [(5,.map (some b1))] 33 a w') ?_ ?_
 ·refine wp_block (Hs (fun (ys1 : List Eg) a w'=>∃ i1 : Nat,∃ x1 : List (ByteArray × Eg),(∃ dn,Am = dn ++ ys1 ∧ dn.length = i1) ∧ Po As j1 ys1 i1 x1 = r ∧ Sx w [] nov [.map b1 (Gx Value.string (fun x=>Value.agg (Eg.enc x).toArray) x1) x1.length] [(1,sV As),(5,.map (some b1)),(12,Ba),(13,iV (Am.length : Int)),(14,iV (i1 : Int))] 33 a w') List.length Am ⟨0,([] : List (ByteArray × Eg)),⟨[],rfl,rfl⟩,h,S.nf [true] rfl (subR rfl)⟩ ?_)
  clear S h;rintro ys1 a w2 ⟨i1,x1,⟨dn,hd1,hi1⟩,h,S⟩
  cases ys1 with
  | nil =>
   rw [Po.eq_1] at h
   refine Fr (Vb S Fp rfl rfl rfl fun a S=>Ld ?_)
   replace S:=S.k6 1 5 12 13 14 15 rfl
   exact Tn (Fs (wp_cond_false ((S.tm rfl).trans (congrArg Value.bool (Jq hd1 hi1))) (wp_exit (Ew (Ew (Hl (Tn (⟨x1,h,S.nf [true] rfl ⟨rfl,trivial⟩⟩))))))))
  | cons y1 ys1 =>
   rw [Po.eq_2] at h
   refine Fr (Vb S Fp rfl rfl rfl fun a S=>Ld ?_)
   replace S:=S.k6 1 5 12 13 14 15 rfl
   refine Tn (Fs (wp_cond_true ((S.tm rfl).trans (congrArg Value.bool (Iv hd1 hi1))) (wp_skip (Tn (Fs ?_)))))
   obtain ⟨j2,hj2,h⟩:=Fk h
   refine Fa (fun a w'=>∃ x2 : List (ByteArray × Eg),j2 x2 = r ∧ Sx w [] nov [.map b1 (Gx Value.string (fun x=>Value.agg (Eg.enc x).toArray) x2) x2.length] [(1,sV As),(5,.map (some b1)),(12,Ba),(13,iV (Am.length : Int)),(14,iV (i1 : Int))] 33 a w') ?_ ?_
   ·refine wp_block (Fs (Fg ?_))
    obtain ⟨b2,o1,hm1,hr1⟩:=Fv (a:=a) (x:=.tmp 12) (y:=.tmp 14) (ty:=0) Pn Bi (Js hd1 hi1) rfl (S.tm rfl) (S.tm rfl)
    refine lv S (hr1 _) rfl ?_;clear S;intro a S
    clear hr1
    refine lv S (Gh isAgg101 sizeOf101 (off:=o1) (o:=0) (part:=(Eg.enc y1)) rfl rfl (S.tm rfl) (hm1.at S.emb0)) rfl fun a S=>Iz S zeroValue101 (cs:=[sV An,iV 0,iV 0,iV 0,sV An,sV An,sV An,iV 0,iV 0,sV An,iV 0]) rfl rfl ?_;clear S;intro a w5 b3 hz2 hk2 S
    refine Ft S (S.tm rfl) (S.tm rfl) (i:=0) (off:=0) rfl sizeOf101 (vs:=(Eg.enc y1)) rfl rfl rfl rfl ?_;clear S;intro w6 hk3 S
    refine Dz (Vf Sm S rfl rfl fun a S=>Vl isAgg9 0 S rfl rfl rfl rfl fun a S=>Vm S rfl rfl fun a S=>Vb S Wv rfl rfl rfl fun a S=>Vm S rfl rfl fun a S=>Io 4 (fun a w'=>Keep [] w6 w' ∧ Sx w [] nov [.blk b3 (Eg.enc y1) 101,.map b1 (Gx Value.string (fun x=>Value.agg (Eg.enc x).toArray) x1) x1.length] [(1,sV As),(5,.map (some b1)),(7,.pointer (some ⟨b3,0,none⟩)),(12,Ba),(13,iV (Am.length : Int)),(14,iV (i1 : Int)),(26,bV ((decide (y1.Race = As)) && (decide (y1.Kind = 3))))] 33 a w') ?_ ?_)
    ·rcases Bool.eq_false_or_eq_true (decide (y1.Race = As)) with hb1 | hb1
     ·exact Em S rfl rfl rfl hb1 (Vf Pv S rfl rfl fun a S=>Em S rfl rfl rfl hb1 (Vl isAgg3 0 S rfl rfl rfl rfl fun a S=>Em S rfl rfl rfl hb1 (Vq S Jn rfl rfl rfl fun a S=>lv S (Ii hb1 (S.tm rfl) (S.tm rfl)) rfl fun a S=>Dl (⟨Keep.refl _ _,S.nf [true,true] rfl (subR rfl)⟩))))
     ·iterate 3 (refine Hk S rfl rfl rfl (Ka hb1) rfl ?_ rfl;clear S;intro a S)
      exact lv S (Ij (decide (y1.Kind = 3)) hb1 (S.tm rfl) rfl) rfl fun a S=>Dl (⟨Keep.refl _ _,S.nf [true,true] rfl (subR rfl)⟩)
    clear S;rintro a w7 ⟨hk4,S⟩
    refine Dl ?_
    obtain ⟨j3,hj3,h⟩:=Fk h
    refine Fa (fun a w'=>∃ x3 : List (ByteArray × Eg),j3 x3 = r ∧ Sx w [] nov [.blk b3 (Eg.enc y1) 101,.map b1 (Gx Value.string (fun x=>Value.agg (Eg.enc x).toArray) x3) x3.length] [(1,sV As),(5,.map (some b1)),(12,Ba),(13,iV (Am.length : Int)),(14,iV (i1 : Int))] 33 a w') ?_ ?_
    ·refine Fc h (S.tm rfl) (fun hb2 h=>?_) (fun hb2 h=>?_)
     ·refine Fg (Vm S rfl rfl fun a S=>Vf Oq S rfl rfl fun a S=>Vl isAgg9 0 S rfl rfl rfl rfl fun a S=>lv S (Gh isAgg101 sizeOf101 (off:=0) (o:=0) (part:=(Eg.enc y1)) rfl rfl (S.tm rfl) (S.cellsAt (i:=0) rfl)) rfl fun a S=>Qa (kv:=Value.string) (vv:=(fun x=>Value.agg (Eg.enc x).toArray)) (m:=x1) (key:=y1.Who) (val:=y1) S (i:=1) rfl underlying164 (Nu underlying9) (S.tm rfl) (S.tm rfl) (S.tm rfl) ?_);clear S;intro w9 hk5 S
      exact Dl (⟨(Hj x1 y1.Who y1),h,S.nf [true,true] rfl (subR rfl)⟩)
     ·exact wp_skip (Tn (⟨x1,h,S.nf [true,true] rfl (subR rfl)⟩))
    clear S h;rintro a w8 ⟨x3,h,S⟩;rw [hj3] at h;clear hj3 j3
    exact Im (Tn (⟨x3,h,S.nf [false,true] rfl (subR rfl)⟩))
   clear S h;rintro a w4 ⟨x2,h,S⟩;rw [hj2] at h;clear hj2 j2
   exact Tn (Fg (Vq S Gw rfl rfl rfl fun a S=>Vm S rfl rfl fun a S=>Dl (⟨ys1,⟨i1 + 1,x2,⟨_,(hd1).trans (List.append_cons _ _ _),by simp [hi1]⟩,h,S.nf [true] rfl ⟨rfl,rfl,rfl,rfl,(congrArg (fun z=>some (Value.int .i64 z)) (Iw hd1 hi1 (Kh Bi))),trivial⟩⟩,Nat.lt_succ_self _⟩)))
 clear S h;rintro a w3 ⟨x1,h,S⟩;rw [hj1] at h;clear hj1 j1
 refine Tn (Fr (Vm S rfl rfl fun a S=>Va S rfl rfl fun a S=>Dl (wp_ret ?_)))
 subst h
 exact Fd S results87 rfl ⟨_,rfl,S.map_ret (i:=0) rfl rfl⟩
theorem FN (w : World) (Ab : Value) (Ad : List Kq) (Ae : Slc (view w []) 2 Ab (Ad.map Kq.enc)) (r : Int) (h : Uj Ad = some r) :
    Calls prog 145 [Ab].toArray w (Ret w [] fun _ v _=>v = iV r):=by
 refine Fe func145 rfl ntmps145 rfl fun a S=>?_
 unfold Uj at h
 replace S:=S.k1 0 rfl
 refine Fr (Vk S rfl rfl fun a S=>Dl (Fs (Fr (Vm S rfl rfl fun a S=>lv S (Gn HI (S.tm rfl) (Gk Ae)) rfl fun a S=>Vq S Jz rfl rfl rfl ?_))));clear S;intro a S
 refine Dl (Fc h (S.tm rfl) (fun hb1 h=>?_) (fun hb1 h=>?_))
 ·refine Fr (Vk S rfl rfl fun a S=>Dl (wp_ret (Ek ?_)))
  obtain rfl:=Option.some.inj h
  exact Fd S results145 rfl rfl
 ·refine wp_skip (Tn (Fr (Sf (κ:=ByteArray) (ν:=Bool) S rfl Value.string Value.bool ?_)));clear S;intro a w1 b1 hz1 hk1 S
  refine Va S rfl rfl fun a S=>Dz (Vk S rfl rfl fun a S=>Dl (Fs (Fs (Fg ?_))))
  refine Vm S rfl rfl fun a S=>lv S (Gn HI (S.tm rfl) (Gk Ae)) rfl fun a S=>lv S (Rm rfl) rfl fun a S=>Dl ?_
  replace S:=(S.nl [.map b1 (Gx Value.string Value.bool ([] : List (ByteArray × Bool))) ([] : List (ByteArray × Bool)).length] [true] rfl).k5 3 4 11 12 13 rfl
  obtain ⟨j1,hj1,h⟩:=Fk h
  refine Fa (fun a w'=>∃ x1 : List (ByteArray × Bool),∃ x2 : Bool,j1 x1 x2 = some r ∧ Sx w [] nov [.map b1 (Gx Value.string Value.bool x1) x1.length] [(4,bV x2)] 37 a w') ?_ ?_
  ·refine wp_block (Hs (fun (ys1 : List Kq) a w'=>∃ i1 : Nat,∃ x1 : List (ByteArray × Bool),∃ x2 : Bool,(∃ dn,Ad = dn ++ ys1 ∧ dn.length = i1) ∧ Mb j1 ys1 i1 x1 x2 = some r ∧ Sx w [] nov [.map b1 (Gx Value.string Value.bool x1) x1.length] [(3,.map (some b1)),(4,bV x2),(11,Ab),(12,iV (Ad.length : Int)),(13,iV (i1 : Int))] 37 a w') List.length Ad ⟨0,([] : List (ByteArray × Bool)),false,⟨[],rfl,rfl⟩,h,S.nf [true] rfl (subR rfl)⟩ ?_)
   clear S h;rintro ys1 a w2 ⟨i1,x1,x2,⟨dn,hd1,hi1⟩,h,S⟩
   cases ys1 with
   | nil =>
    rw [Mb.eq_1] at h
    refine Fr (Vb S Fp rfl rfl rfl fun a S=>Ld ?_)
    replace S:=S.k6 3 4 11 12 13 14 rfl
    exact Tn (Fs (wp_cond_false ((S.tm rfl).trans (congrArg Value.bool (Jq hd1 hi1))) (wp_exit (Ew (Ew (Hl (Tn (⟨x1,x2,h,S.nf [true] rfl ⟨rfl,trivial⟩⟩))))))))
   | cons y1 ys1 =>
    rw [Mb.eq_2] at h
    refine Fr (Vb S Fp rfl rfl rfl fun a S=>Ld ?_)
    replace S:=S.k6 3 4 11 12 13 14 rfl
    refine Tn (Fs (wp_cond_true ((S.tm rfl).trans (congrArg Value.bool (Iv hd1 hi1))) (wp_skip (Tn (Fs (wp_block (Fs (Fg ?_))))))))
    obtain ⟨b2,o1,hm1,hr1⟩:=Fv (a:=a) (x:=.tmp 11) (y:=.tmp 13) (ty:=0) HI Ae (Js hd1 hi1) rfl (S.tm rfl) (S.tm rfl)
    refine lv S (hr1 _) rfl ?_;clear S;intro a S
    clear hr1
    refine lv S (Gh isAgg170 sizeOf170 (off:=o1) (o:=0) (part:=(Kq.enc y1)) rfl rfl (S.tm rfl) (hm1.at S.emb0)) rfl fun a S=>Iz S zeroValue170 (cs:=[sV An,iV 0]) rfl rfl ?_;clear S;intro a w4 b3 hz2 hk2 S
    refine Ft S (S.tm rfl) (S.tm rfl) (i:=0) (off:=0) rfl sizeOf170 (vs:=(Kq.enc y1)) rfl rfl rfl rfl ?_;clear S;intro w5 hk3 S
    refine Dl (Fs (Fr (Vf DH S rfl rfl fun a S=>Vl isAgg9 0 S rfl rfl rfl rfl ?_)));clear S;intro a S
    obtain ⟨r1,hr2,h⟩:=Ga h
    refine Er S (fun _=>Ei (vs:=[sV y1.Who]) ⟨(S.tm rfl),trivial⟩ call107) (Jp _ y1.Who _ hr2) rfl ?_;clear S;intro v1 a w6 hv1 hk4 hn1 S
    subst hv1
    refine Vu S Ig rfl rfl fun a S=>Dl (Fc h (S.tm rfl) (fun hb2 h=>?_) (fun hb2 h=>?_))
    ·refine Fr (Vk S rfl rfl fun a S=>Dl (wp_ret (Ek (Gg (Ek (Ek (Gg ?_)))))))
     refine Ek (Ek ?_)
     obtain rfl:=Option.some.inj h
     exact Fd S results145 rfl rfl
    ·refine wp_skip (Tn (Fs (Fr (Vf PQ S rfl rfl fun a S=>Vl isAgg3 0 S rfl rfl rfl rfl fun a S=>Er S (fun _=>Ei (vs:=[iV y1.Time,iV 0,iV 360000]) ⟨(S.tm rfl),rfl,rfl,trivial⟩ call65) (Gl _ y1.Time 0 360000 _ rfl) rfl ?_))));clear S;intro v2 a w7 hv2 hk5 hn2 S
     subst hv2
     refine Vu S Ig rfl rfl fun a S=>Ld ?_
     replace S:=(S.nl [.blk b3 (Kq.enc y1) 170,.map b1 (Gx Value.string Value.bool x1) x1.length] [true,true] rfl).k7 3 4 6 11 12 13 24 rfl
     refine Tn (Fc h (S.tm rfl) (fun hb3 h=>?_) (fun hb3 h=>?_))
     ·refine Fr (Vk S rfl rfl fun a S=>Dl (wp_ret (Ek (Gg (Ek (Ek (Gg ?_)))))))
      refine Ek (Ek ?_)
      obtain rfl:=Option.some.inj h
      exact Fd S results145 rfl rfl
     ·refine wp_skip (Tn (Fr (Vm S rfl rfl fun a S=>Vm S rfl rfl fun a S=>Io 5 (fun a w'=>Keep [] w7 w' ∧ Sx w [] nov [.blk b3 (Kq.enc y1) 170,.map b1 (Gx Value.string Value.bool x1) x1.length] [(3,.map (some b1)),(6,.pointer (some ⟨b3,0,none⟩)),(11,Ab),(12,iV (Ad.length : Int)),(13,iV (i1 : Int)),(31,bV (x2 || (Et x1 y1.Who false)))] 37 a w') ?_ ?_)))
      ·rcases Bool.eq_false_or_eq_true x2 with hb4 | hb4
       ·iterate 4 (refine Hk S rfl rfl rfl (Ng hb4) rfl ?_ rfl;clear S;intro a S)
        exact lv S (Lk (Et x1 y1.Who false) hb4 (S.tm rfl) rfl) rfl fun a S=>Dl (⟨Keep.refl _ _,S.nf [true,true] rfl (subR rfl)⟩)
       ·refine Em S rfl rfl rfl hb4 (Vm S rfl rfl fun a S=>Em S rfl rfl rfl hb4 (Vf DH S rfl rfl fun a S=>Em S rfl rfl rfl hb4 (Vl isAgg9 0 S rfl rfl rfl rfl fun a S=>Em S rfl rfl rfl hb4 (lv S (Qu (kv:=Value.string) (vv:=Value.bool) (m:=x1) (key:=y1.Who) (z:=false) (S.map_at (i:=1) rfl) underlying228 (Nu underlying9) zeroValue4 (S.tm rfl) (S.tm rfl)) rfl fun a S=>lv S (Ll hb4 (S.tm rfl) (S.tm rfl)) rfl fun a S=>Dl ?_))))
        exact ⟨Keep.refl _ _,S.nf [true,true] rfl (subR rfl)⟩
      clear S;rintro a w8 ⟨hk6,S⟩
      refine Va S rfl rfl fun a S=>Dl (Fg (Vm S rfl rfl fun a S=>Vf DH S rfl rfl fun a S=>Vl isAgg9 0 S rfl rfl rfl rfl fun a S=>Qa (kv:=Value.string) (vv:=Value.bool) (m:=x1) (key:=y1.Who) (val:=true) S (i:=1) rfl underlying228 (Nu underlying9) (S.tm rfl) (S.tm rfl) rfl ?_));clear S;intro w9 hk7 S
      exact Ld (Im (Tn (Fg (Vq S Gw rfl rfl rfl fun a S=>Vm S rfl rfl fun a S=>Dl (⟨ys1,⟨i1 + 1,(Hj x1 y1.Who true),(x2 || (Et x1 y1.Who false)),⟨_,(hd1).trans (List.append_cons _ _ _),by simp [hi1]⟩,h,S.nf [false,true] rfl ⟨rfl,rfl,rfl,rfl,(congrArg (fun z=>some (Value.int .i64 z)) (Iw hd1 hi1 (Kh Ae))),trivial⟩⟩,Nat.lt_succ_self _⟩)))))
  clear S h;rintro a w3 ⟨x1,x2,h,S⟩;rw [hj1] at h;clear hj1 j1
  refine Tn (Fs (Fr (Vm S rfl rfl fun a S=>Dl (Fc h (S.tm rfl) (fun hb5 h=>?_) (fun hb5 h=>?_)))))
  ·refine Fr (Vk S rfl rfl fun a S=>Dl (wp_ret (Ek ?_)))
   obtain rfl:=Option.some.inj h
   exact Fd S results145 rfl rfl
  ·refine wp_skip (Tn (Fr (Vk S rfl rfl fun a S=>Dl (wp_ret ?_))))
   obtain rfl:=Option.some.inj h
   exact Fd S results145 rfl rfl
set_option maxRecDepth 20000 in
theorem BZ (w : World) (Cf : Value) (Cg : List Jm) (Cq : List Uk) (Cj : Slc (view w []) 3 Cf (Cq.map Uk.enc)) (Ck : Lp (Xa (view w [])) Cg Cq) (r : Int) (h : Rc Cg = some r) :
    Calls prog 146 [Cf].toArray w (Ret w [] fun _ v _=>v = iV r):=by
 refine Fe func146 rfl ntmps146 rfl fun a S=>?_
 unfold Rc at h
 replace S:=S.k1 0 rfl
 refine Fr (Vk S rfl rfl fun a S=>Dl (Fs (Fr (Vm S rfl rfl fun a S=>lv S (Gn FH (S.tm rfl) (Vh Cj Ck)) rfl fun a S=>Vq S Jz rfl rfl rfl ?_))));clear S;intro a S
 refine Dl (Fc h (S.tm rfl) (fun hb1 h=>?_) (fun hb1 h=>?_))
 ·refine Fr (Vk S rfl rfl fun a S=>Dl (wp_ret (Ek ?_)))
  obtain rfl:=Option.some.inj h
  exact Fd S results146 rfl rfl
 ·refine wp_skip (Tn (Fs (Fr (Vm S rfl rfl fun a S=>lv S (Gn FH (S.tm rfl) (Vh Cj Ck)) rfl fun a S=>lv S (Rm rfl) rfl fun a S=>Dl ?_))))
  replace S:=S.k4 0 8 9 10 rfl
  obtain ⟨j1,hj1,h⟩:=Fk h
  refine Fa (fun a w'=>j1 = some r ∧ Sx w [] nov [] [] 40 a w') ?_ ?_
  ·refine wp_block (Hs (fun (ys1 : List Jm) a w'=>∃ i1 : Nat,(∃ dn,Cg = dn ++ ys1 ∧ dn.length = i1) ∧ Ke Cg j1 ys1 i1 = some r ∧ Sx w [] nov [] [(0,Cf),(8,Cf),(9,iV (Cg.length : Int)),(10,iV (i1 : Int))] 40 a w') List.length Cg ⟨0,⟨[],rfl,rfl⟩,h,S.nf [] rfl (subR rfl)⟩ ?_)
   clear S h;rintro ys1 a w1 ⟨i1,⟨dn,hd1,hi1⟩,h,S⟩
   cases ys1 with
   | nil =>
    rw [Ke.eq_1] at h
    refine Fr (Vb S Fp rfl rfl rfl fun a S=>Ld ?_)
    replace S:=S.k5 0 8 9 10 11 rfl
    exact Tn (Fs (wp_cond_false ((S.tm rfl).trans (congrArg Value.bool (Jq hd1 hi1))) (wp_exit (Ew (Ew (Hl (Tn (⟨h,S.nf [] rfl trivial⟩))))))))
   | cons y1 ys1 =>
    rw [Ke.eq_2] at h
    refine Fr (Vb S Fp rfl rfl rfl fun a S=>Ld ?_)
    replace S:=S.k5 0 8 9 10 11 rfl
    refine Tn (Fs (wp_cond_true ((S.tm rfl).trans (congrArg Value.bool (Iv hd1 hi1))) (wp_skip (Tn (Fs (wp_block (Fr (Vm S rfl rfl ?_))))))));clear S;intro a S
    obtain ⟨r1,hg1,hl1⟩:=Lp.at Ck (Js hd1 hi1)
    obtain ⟨u1,rfl,hs1⟩:=hl1
    obtain ⟨b1,o1,hm1,hr1⟩:=Fv (a:=a) (x:=.tmp 8) (y:=.tmp 10) (ty:=0) FH Cj hg1 rfl (S.tm rfl) (S.tm rfl)
    refine lv S (hr1 _) rfl ?_;clear S;intro a S
    clear hr1
    refine lv S (Gh isAgg172 sizeOf172 (off:=o1) (o:=0) (part:=[sV y1.Who,iV y1.Fault,u1.val]) rfl rfl (S.tm rfl) (hm1.at S.emb0)) rfl fun a S=>Iz S zeroValue172 (cs:=[sV An,iV 0,.slice none 0 0]) rfl rfl ?_;clear S;intro a w3 b2 hz1 hk1 S
    refine Va S rfl rfl fun a S=>Ft S (S.tm rfl) (S.tm rfl) (i:=0) (off:=0) rfl sizeOf172 (vs:=[sV y1.Who,iV y1.Fault,u1.val]) rfl rfl rfl (Rf rfl (Rf rfl (Rf (Lo.one (Gk hs1)) rfl))) ?_;clear S;intro w4 hk2 S
    refine Dl (wp_block (Fr (Vf GI S rfl rfl fun a S=>Vl isAgg9 0 S rfl rfl rfl rfl ?_)));clear S;intro a S
    obtain ⟨r2,hr2,h⟩:=Ga h
    refine Er S (fun _=>Ei (vs:=[sV y1.Who]) ⟨(S.tm rfl),trivial⟩ call107) (Jp _ y1.Who _ hr2) rfl ?_;clear S;intro v1 a w5 hv1 hk3 hn1 S
    subst hv1
    refine Vu S Ig rfl rfl fun a S=>Va S rfl rfl fun a S=>Ld ?_
    replace S:=(S.nl [.blk b2 [sV y1.Who,iV y1.Fault,u1.val] 172] [true] rfl).k7 0 3 4 8 9 10 15 rfl
    refine Tn (Fc h (S.tm rfl) (fun hb2 h=>?_) (fun hb2 h=>?_))
    ·refine Fr (Vk S rfl rfl fun a S=>Dl (wp_ret (Gg (Gg (Ek (Ek (Gg ?_)))))))
     refine Ek (Ek ?_)
     obtain rfl:=Option.some.inj h
     exact Fd S results146 rfl rfl
    ·refine Fr (Vf PR S rfl rfl fun a S=>Vl isAgg3 0 S rfl rfl rfl rfl fun a S=>Er S (fun _=>Ei (vs:=[iV y1.Fault,iV 0,iV 8]) ⟨(S.tm rfl),rfl,rfl,trivial⟩ call65) (Gl _ y1.Fault 0 8 _ rfl) rfl ?_);clear S;intro v2 a w6 hv2 hk4 hn2 S
     subst hv2
     refine Vu S Ig rfl rfl fun a S=>Va S rfl rfl fun a S=>Dl (Fc h (S.tm rfl) (fun hb3 h=>?_) (fun hb3 h=>?_))
     ·refine Fr (Vk S rfl rfl fun a S=>Dl (wp_ret (Gg (Gg (Ek (Ek (Gg ?_)))))))
      refine Ek (Ek ?_)
      obtain rfl:=Option.some.inj h
      exact Fd S results146 rfl rfl
     ·refine Fs (Hd [] ([]) Tryz.mixed S rfl (by kernel_rfl) ?_);clear S;intro w7 hk5 hsel S
      refine Kt [0,1,2,3,4,5,6,7,8,9,10,11,12,13] hsel (by kernel_rfl) rfl ?_
      clear hsel
      refine Gv S rfl (Rm (S.tm rfl)) rfl fun a S=>Gv S rfl (Jz (S.tm rfl) rfl) rfl fun a S=>Gv S rfl (Rm (S.tm rfl)) rfl ?_;clear S;intro a S
      obtain ⟨j2,hj2,h⟩:=Fk h
      refine Zn 10 (fun a w'=>∃ c1,j2 c1 = some r ∧ Keep [] w7 w' ∧ Sx w [] nov [.blk b2 [sV y1.Who,iV y1.Fault,u1.val] 172] [(0,Cf),(8,Cf),(9,iV (Cg.length : Int)),(10,iV (i1 : Int)),(38,bV c1)] 40 a w') ?_ ?_
      ·rcases Bool.eq_false_or_eq_true (decide (0 < (i1 : Int))) with hb4 | hb4
       ·replace h:=Rz h hb4
        refine Fx S rfl rfl rfl rfl hb4 (He S (Gb GI (S.tm rfl)) rfl fun a S=>Fx S rfl rfl rfl rfl hb4 (He S (Mg isAgg9 (S.tm rfl) (S.cell (i:=0) rfl rfl)) rfl fun a S=>Fx S rfl rfl rfl rfl hb4 (He S (Rm (S.tm rfl)) rfl fun a S=>Fx S rfl rfl rfl rfl hb4 (He S (Rm (S.tm rfl)) rfl fun a S=>Fx S rfl rfl rfl rfl hb4 (He S (Jt (S.tm rfl) rfl) rfl fun a S=>Fx S rfl rfl rfl rfl hb4 ?_)))))
        obtain ⟨hc1,h⟩:=Jc h
        obtain ⟨r3,hg2,hl2⟩:=JS Ck hc1
        obtain ⟨u2,rfl,hs2⟩:=hl2
        obtain ⟨b3,o2,hm2,hr3⟩:=Fv (a:=a) (x:=.tmp 31) (y:=.tmp 33) (ty:=0) FH Cj hg2 (Es hc1).2 (S.tm rfl) (S.tm rfl)
        refine He S (hr3 _) rfl ?_;clear S;intro a S
        clear hr3
        exact Fx S rfl rfl rfl rfl hb4 (He S (Gb GI (S.tm rfl)) rfl fun a S=>Fx S rfl rfl rfl rfl hb4 (He S (Hw isAgg9 (off:=o2) (o:=0) (S.tm rfl) (hm2.at S.emb0) rfl) rfl fun a S=>Fx S rfl rfl rfl rfl hb4 (He S (JA (S.tm rfl) (S.tm rfl)) rfl fun a S=>Gv S rfl (Ii hb4 (S.tm rfl) (S.tm rfl)) rfl fun a S=>Jb (⟨_,h,Keep.refl _ _,S.nf [true] rfl (subR rfl)⟩))))
       ·replace h:=Sa h hb4
        iterate 9 (refine Qo S rfl rfl rfl rfl (Ka hb4) rfl ?_ rfl;clear S;intro a S)
        exact Gv S rfl (Ij true hb4 (S.tm rfl) rfl) rfl fun a S=>Jb (⟨_,h,Keep.refl _ _,S.nf [true] rfl (subR rfl)⟩)
      clear S h;rintro a w8 ⟨c1,h,hk6,S⟩;rw [hj2] at h;clear hj2 j2
      refine Gv S rfl (Ra (S.tm rfl)) rfl fun a S=>Jb ?_
      replace S:=S.n0.k5 0 8 9 10 25 rfl
      refine Tn (Fc h (S.tm rfl) (fun hb5 h=>?_) (fun hb5 h=>?_))
      ·refine Fr (Vk S rfl rfl fun a S=>Dl (wp_ret (Gg (Gg (Ek (Ek (Gg ?_)))))))
       refine Ek (Ek ?_)
       obtain rfl:=Option.some.inj h
       exact Fd S results146 rfl rfl
      ·exact wp_skip (Im (Im (Tn (Fg (Vq S Gw rfl rfl rfl fun a S=>Vm S rfl rfl fun a S=>Dl (⟨ys1,⟨i1 + 1,⟨_,(hd1).trans (List.append_cons _ _ _),by simp [hi1]⟩,h,S.nf [] rfl ⟨rfl,rfl,rfl,(congrArg (fun z=>some (Value.int .i64 z)) (Iw hd1 hi1 (Xk Cj Ck))),trivial⟩⟩,Nat.lt_succ_self _⟩))))))
  clear S h;rintro a w2 ⟨h,S⟩;rw [hj1] at h;clear hj1 j1
  refine Tn (Fr (Vk S rfl rfl fun a S=>Dl (wp_ret ?_)))
  obtain rfl:=Option.some.inj h
  exact Fd S results146 rfl rfl
set_option maxRecDepth 20000 in
theorem HL (w : World) (Ah : Ej) (Aj : Ej) (Dw : Nat) (Ee : Int) (Dq : (view w []) Dw = some (.cells [iV Ee].toArray 3 (0,0))) (r : Int) (h : Wp Ah Aj Ee = some r) :
    Calls prog 148 [.agg (Ej.enc Ah).toArray,.agg (Ej.enc Aj).toArray,.pointer (some ⟨Dw,0,none⟩)].toArray w (Ret w [] fun _ v _=>v = iV r):=by
 refine Fe func148 rfl ntmps148 rfl fun a S=>?_
 unfold Wp at h
 replace S:=S.k3 0 1 2 rfl
 refine Fr (Mk S (S.tm rfl) (cs:=(Ej.enc Ah)) rfl rfl ?_);clear S;intro a w1 b1 hz1 hk1 S
 refine Mk S (S.tm rfl) (cs:=(Ej.enc Aj)) rfl rfl ?_;clear S;intro a w2 b2 hz2 hk2 S
 refine Vk S rfl rfl fun a S=>Dl (Fs (Hd [] ([]) Tryz.mixed S rfl (by kernel_rfl) ?_));clear S;intro w3 hk3 hsel S
 refine Kt [0,1,2,3,4,5,6,7,8,9] hsel (by kernel_rfl) rfl ?_
 clear hsel
 refine Gv S rfl (Gb AX (S.tm rfl)) rfl fun a S=>Gv S rfl (Mg isAgg3 (S.tm rfl) (S.cell (i:=1) rfl rfl)) rfl fun a S=>Gv S rfl (Hw isAgg3 (off:=0) (o:=0) (S.tm rfl) ((Pl Dq).at S.emb0) rfl) rfl ?_;clear S;intro a S
 obtain ⟨hc1,h⟩:=Jc h
 refine Gv S rfl (FD (S.tm rfl) (S.tm rfl) (Wg hc1)) rfl fun a S=>Gv S rfl (Gb AX (S.tm rfl)) rfl fun a S=>Gv S rfl (Mg isAgg3 (S.tm rfl) (S.cell (i:=0) rfl rfl)) rfl fun a S=>Gv S rfl (Hw isAgg3 (off:=0) (o:=0) (S.tm rfl) ((Pl Dq).at S.emb0) rfl) rfl ?_;clear S;intro a S
 obtain ⟨hc2,h⟩:=Jc h
 refine Gv S rfl (FD (S.tm rfl) (S.tm rfl) (Wg hc2)) rfl fun a S=>Gv S rfl (Jt (S.tm rfl) (S.tm rfl)) rfl fun a S=>Gv S rfl (Ra (S.tm rfl)) rfl fun a S=>Jb ?_
 replace S:=S.n0.k1 5 rfl
 refine Tn (wp_ret ?_)
 obtain rfl:=Option.some.inj h
 exact Fd S results148 rfl rfl
set_option maxRecDepth 20000 in
theorem Nw (w : World) (U : Value) (Ak : List Ej) (Bh : (LEnt.own U 118 4 Ak.length (Ak.flatMap Ej.enc)).holds w) (Ah : Int) (Aj : Int) (Bf : Nat) (Bw : Int) (Ch : (view w (U.ownBlock.toList)) Bf = some (.cells [iV Bw].toArray 3 (0,0))) (r : (List Ej)) (h : Il Ak Ah Aj Bw = some r) :
    Calls prog 186 [U,iV Ah,iV Aj,.func (.func 148) #[] #[.pointer (some ⟨Bf,0,none⟩)]].toArray w (Ret w (U.ownBlock.toList) fun _ v w'=>(LEnt.own U 118 4 r.length (r.flatMap Ej.enc)).holds w' ∧ v = .tuple #[]):=by
 refine Nb (U.ownBlock.toList) [.own U 118 4 Ak.length (Ak.flatMap Ej.enc)] func186 rfl ntmps186 rfl (fun e he=>by simp only [List.mem_singleton] at he;subst he;exact Bh) (Kw _) (Mv _) fun a S=>?_
 unfold Il at h
 replace S:=(S.nl [.own U 118 4 Ak.length (Ak.flatMap Ej.enc)] [true] rfl).k4 0 1 2 3 rfl
 refine Fr (Vm S rfl rfl fun a S=>Vq S Gw rfl rfl rfl fun a S=>Va S rfl rfl fun a S=>Dl ?_)
 replace S:=S.k5 0 1 2 3 8 rfl
 obtain ⟨j1,hj1,h⟩:=Fk h
 refine Fa (fun a w'=>∃ x1 : List Ej,j1 x1 = some r ∧ Sx w (U.ownBlock.toList) nov [.own U 118 4 x1.length (x1.flatMap Ej.enc)] [] 53 a w') ?_ ?_
 ·refine wp_block (Hs (fun (m1 : Nat) a w'=>∃ x1 : List Ej,∃ x2 : Int,Gf Aj Ah Bw j1 m1 x1 x2 = some r ∧ Sx w (U.ownBlock.toList) nov [.own U 118 4 x1.length (x1.flatMap Ej.enc)] [(0,U),(1,iV Ah),(2,iV Aj),(3,.func (.func 148) #[] #[.pointer (some ⟨Bf,0,none⟩)]),(8,iV x2)] 53 a w') id ((Aj - (W (Ah + 1))).toNat + 2) ⟨Ak,W (Ah + 1),h,S.nf [true] rfl (subR rfl)⟩ ?_)
  clear S h;rintro m1 a w1 ⟨x1,x2,h,S⟩
  cases m1 with
  | zero=>rw [Gf.eq_1] at h;cases h
  | succ m1 =>
   rw [Gf.eq_2] at h
   refine Fs (Fr (Vm S rfl rfl fun a S=>Vm S rfl rfl fun a S=>Vb S Fp rfl rfl rfl fun a S=>Dl (Fc h (S.tm rfl) (fun hb1 h=>?_) (fun hb1 h=>?_))))
   ·refine wp_skip (Tn (Fs (wp_block (Fr (Vm S rfl rfl fun a S=>Va S rfl rfl fun a S=>Dl ?_)))))
    replace S:=S.k6 0 1 2 3 8 9 rfl
    obtain ⟨j2,hj2,h⟩:=Fk h
    refine Fa (fun a w'=>∃ x3 : List Ej,j2 x3 = some r ∧ Sx w (U.ownBlock.toList) nov [.own U 118 4 x3.length (x3.flatMap Ej.enc)] [(0,U),(1,iV Ah),(2,iV Aj),(3,.func (.func 148) #[] #[.pointer (some ⟨Bf,0,none⟩)]),(8,iV x2)] 53 a w') ?_ ?_
    ·refine wp_block (Hs (fun (m2 : Nat) a w'=>∃ x3 : List Ej,∃ x4 : Int,Fl Ah Bw j2 m2 x3 x4 = some r ∧ Sx w (U.ownBlock.toList) nov [.own U 118 4 x3.length (x3.flatMap Ej.enc)] [(0,U),(1,iV Ah),(2,iV Aj),(3,.func (.func 148) #[] #[.pointer (some ⟨Bf,0,none⟩)]),(8,iV x2),(9,iV x4)] 53 a w') id ((x2 - Ah).toNat + 2) ⟨x1,x2,h,S.nf [true] rfl (subR rfl)⟩ ?_)
     clear S h;rintro m2 a w3 ⟨x3,x4,h,S⟩
     cases m2 with
     | zero=>rw [Fl.eq_1] at h;cases h
     | succ m2 =>
      rw [Fl.eq_2] at h
      refine Fs (Fs ?_)
      obtain ⟨j3,hj3,h⟩:=Fk h
      refine Fa (fun a w'=>∃ x5 : Bool,j3 x5 = some r ∧ Sx w (U.ownBlock.toList) nov [.own U 118 4 x3.length (x3.flatMap Ej.enc)] [(0,U),(1,iV Ah),(2,iV Aj),(3,.func (.func 148) #[] #[.pointer (some ⟨Bf,0,none⟩)]),(8,iV x2),(9,iV x4),(34,bV x5)] 53 a w') ?_ ?_
      ·rcases Bool.eq_false_or_eq_true (decide (Ah < x4)) with hb2 | hb2
       ·replace h:=Rz h hb2
        obtain ⟨hc1,h⟩:=Jc h
        obtain ⟨hc2,h⟩:=Jc h
        obtain ⟨r1,hr3,h⟩:=Ga h
        refine Hd [] ([]) Tryz.mixed S rfl (by kernel_rfl) ?_;clear S;intro w7 hk2 hsel S
        refine Eo 0 S hsel rfl rfl rfl (by kernel_rfl) (by kernel_rfl) rfl (fun _ hw=>(Rm (S.tm rfl))) fun a S=>Eo 1 S hsel rfl rfl rfl (by kernel_rfl) (by kernel_rfl) rfl (fun _ hw=>(Rm (S.tm rfl))) fun a S=>Eo 2 S hsel rfl rfl rfl (by kernel_rfl) (by kernel_rfl) rfl (fun _ hw=>(Jz (S.tm rfl) (S.tm rfl))) fun a S=>Eo 3 S hsel rfl rfl rfl (by kernel_rfl) (by kernel_rfl) rfl (fun _ hw=>(Rm (S.tm rfl))) fun a S=>Ey 4 S hsel rfl rfl rfl rfl hb2 rfl rfl (by kernel_rfl) (by kernel_rfl) rfl (fun _ hw=>(Rm (S.tm rfl))) fun a S=>Ey 5 S hsel rfl rfl rfl rfl hb2 rfl rfl (by kernel_rfl) (by kernel_rfl) rfl (fun _ hw=>(Rm (S.tm rfl))) fun a S=>Ey 6 S hsel rfl rfl rfl rfl hb2 rfl rfl (by kernel_rfl) (by kernel_rfl) rfl (fun _ hw=>(Rm (S.tm rfl))) ?_;clear S;intro a S
        obtain ⟨b3,hg3,hr4⟩:=Hy (a:=a) (x:=.tmp 23) (y:=.tmp 24) (ty:=0) Tk Ej.enc_ok S (i:=0) rfl (Es hc1).1 (Es hc1).2 (S.tm rfl) (S.tm rfl)
        refine Ey 7 S hsel rfl rfl rfl rfl hb2 rfl rfl (by kernel_rfl) (by kernel_rfl) rfl (fun _ hw=>(hr4 _)) ?_;clear S;intro a S
        clear hr4
        refine Ey 8 S hsel rfl rfl rfl rfl hb2 rfl rfl (by kernel_rfl) (by kernel_rfl) rfl (fun _ hw=>(Gh isAgg118 sizeOf118 (off:=x4.toNat * 4) (o:=0) (part:=(Ej.enc (nth x3 x4))) rfl rfl (S.tm rfl) ((Pm Ej.enc_ok S (i:=0) rfl hg3 (Es hc1).1 (Ik (e':=.own U 118 4 x3.length (x3.flatMap Ej.enc)))).kept hw))) fun a S=>Ey 9 S hsel rfl rfl rfl rfl hb2 rfl rfl (by kernel_rfl) (by kernel_rfl) rfl (fun _ hw=>(Rm (S.tm rfl))) fun a S=>Ey 10 S hsel rfl rfl rfl rfl hb2 rfl rfl (by kernel_rfl) (by kernel_rfl) rfl (fun _ hw=>(Rm (S.tm rfl))) fun a S=>Ey 11 S hsel rfl rfl rfl rfl hb2 rfl rfl (by kernel_rfl) (by kernel_rfl) rfl (fun _ hw=>(Jt (S.tm rfl) rfl)) ?_;clear S;intro a S
        obtain ⟨b4,hg4,hr5⟩:=Hy (a:=a) (x:=.tmp 27) (y:=.tmp 29) (ty:=0) Tk Ej.enc_ok S (i:=0) rfl (Es hc2).1 (Es hc2).2 (S.tm rfl) (S.tm rfl)
        refine Ey 12 S hsel rfl rfl rfl rfl hb2 rfl rfl (by kernel_rfl) (by kernel_rfl) rfl (fun _ hw=>(hr5 _)) ?_;clear S;intro a S
        clear hr5
        refine Ey 13 S hsel rfl rfl rfl rfl hb2 rfl rfl (by kernel_rfl) (by kernel_rfl) rfl (fun _ hw=>(Gh isAgg118 sizeOf118 (off:=((W (x4 - 1)).toNat) * 4) (o:=0) (part:=(Ej.enc (nth x3 (W (x4 - 1))))) rfl rfl (S.tm rfl) ((Pm Ej.enc_ok S (i:=0) rfl hg4 (Es hc2).1 (Ik (e':=.own U 118 4 x3.length (x3.flatMap Ej.enc)))).kept hw))) fun a S=>Hi 14 (by kernel_rfl) rfl (Em S rfl rfl rfl hb2 (Er S (fun _=>Te (cap:=[.pointer (some ⟨Bf,0,none⟩)]) (S.tm rfl) (vs:=[.agg (Ej.enc (nth x3 x4)).toArray,.agg (Ej.enc (nth x3 (W (x4 - 1)))).toArray]) ⟨(S.tm rfl),(S.tm rfl),trivial⟩ call148) (HL _ (nth x3 x4) (nth x3 (W (x4 - 1))) Bf Bw ((S.le_arg Ez) _ _ Ch) _ hr3) rfl ?_));clear S;intro v2 a w8 hv2 hk3 hn2 S
        subst hv2
        refine Ld (It hk3 (Kt [15,16] hsel (by kernel_rfl) rfl ?_))
        clear hsel
        refine Fx S rfl rfl rfl rfl hb2 (He S (Fp (S.tm rfl) rfl) rfl fun a S=>Gv S rfl (Qe hb2 (S.tm rfl) (S.tm rfl)) rfl fun a S=>Jb ?_)
        replace S:=S.nk [.own U 118 4 x3.length (x3.flatMap Ej.enc)] [(0,U),(1,iV Ah),(2,iV Aj),(3,.func (.func 148) #[] #[.pointer (some ⟨Bf,0,none⟩)]),(8,iV x2),(9,iV x4),(22,.func (.func 148) #[] #[.pointer (some ⟨Bf,0,none⟩)]),(23,U),(24,iV x4),(25,.pointer (some ⟨b3,x4.toNat * 4,none⟩)),(26,.agg (Ej.enc (nth x3 x4)).toArray),(27,U),(28,iV x4),(29,iV (W (x4 - 1))),(30,.pointer (some ⟨b4,((W (x4 - 1)).toNat) * 4,none⟩)),(31,.agg (Ej.enc (nth x3 (W (x4 - 1)))).toArray),(32,iV r1),(33,bV (decide (r1 < 0))),(34,bV (decide (r1 < 0)))] [true] rfl (subR rfl)
        exact Tn (⟨decide (r1 < 0),h,S.nf [true] rfl (subR rfl)⟩)
       ·replace h:=Sa h hb2
        refine Hd [] ([]) Tryz.mixed S rfl (by kernel_rfl) ?_;clear S;intro w9 hk4 hsel S
        refine Kt [0,1,2,3,4,5,6,7,8,9,10,11,12,13,14,15,16] hsel (by kernel_rfl) rfl ?_
        clear hsel
        refine Gv S rfl (Rm (S.tm rfl)) rfl fun a S=>Gv S rfl (Rm (S.tm rfl)) rfl fun a S=>Gv S rfl (Jz (S.tm rfl) (S.tm rfl)) rfl fun a S=>Gv S rfl (Rm (S.tm rfl)) rfl ?_;clear S;intro a S
        iterate 12 (refine Qo S rfl rfl rfl rfl (Ka hb2) rfl ?_ rfl;clear S;intro a S)
        refine Gv S rfl (Qf hb2 (S.tm rfl) rfl) rfl fun a S=>Jb ?_
        replace S:=S.k7 0 1 2 3 8 9 34 rfl
        exact Tn (⟨false,h,S.nf [true] rfl (subR rfl)⟩)
      clear S h;rintro a w5 ⟨x5,h,S⟩;rw [hj3] at h;clear hj3 j3
      refine Tn (Fc h (S.tm rfl) (fun hb3 h=>?_) (fun hb3 h=>?_))
      ·refine wp_skip (Tn (Fs (wp_block ?_)))
       obtain ⟨hc3,h⟩:=Jc h
       obtain ⟨hc4,h⟩:=Jc h
       obtain ⟨hc5,h⟩:=Jc h
       obtain ⟨hc6,h⟩:=Jc h
       refine Hd [15,17] ([]) Tryz.mixed S rfl (by kernel_rfl) ?_;clear S;intro w14 hk9 hsel S
       refine Hb 0 S hsel rfl rfl (by kernel_rfl) (by kernel_rfl) rfl (fun _=>(Rm (S.tm rfl))) fun a S=>Hb 1 S hsel rfl rfl (by kernel_rfl) (by kernel_rfl) rfl (fun _=>(Rm (S.tm rfl))) fun a S=>Hb 2 S hsel rfl rfl (by kernel_rfl) (by kernel_rfl) rfl (fun _=>(Rm (S.tm rfl))) fun a S=>Hb 3 S hsel rfl rfl (by kernel_rfl) (by kernel_rfl) rfl (fun _=>(Rm (S.tm rfl))) fun a S=>Hb 4 S hsel rfl rfl (by kernel_rfl) (by kernel_rfl) rfl (fun _=>(Jt (S.tm rfl) rfl)) fun a S=>Hb 5 S hsel rfl rfl (by kernel_rfl) (by kernel_rfl) rfl (fun _=>(Rm (S.tm rfl))) fun a S=>Hb 6 S hsel rfl rfl (by kernel_rfl) (by kernel_rfl) rfl (fun _=>(Rm (S.tm rfl))) fun a S=>Hb 7 S hsel rfl rfl (by kernel_rfl) (by kernel_rfl) rfl (fun _=>(Jt (S.tm rfl) rfl)) ?_;clear S;intro a S
       obtain ⟨b9,hg9,hr10⟩:=Hy (a:=a) (x:=.tmp 42) (y:=.tmp 44) (ty:=0) Tk Ej.enc_ok S (i:=0) rfl (Es hc3).1 (Es hc3).2 (S.tm rfl) (S.tm rfl)
       refine Hb 8 S hsel rfl rfl (by kernel_rfl) (by kernel_rfl) rfl (fun _=>(hr10 _)) ?_;clear S;intro a S
       clear hr10
       refine Eo 9 S hsel rfl (by kernel_rfl) (by kernel_rfl) (by kernel_rfl) (by kernel_rfl) rfl (fun _ hw=>(Gh isAgg118 sizeOf118 (off:=((W (x4 - 1)).toNat) * 4) (o:=0) (part:=(Ej.enc (nth x3 (W (x4 - 1))))) rfl rfl (S.tm rfl) ((Pm Ej.enc_ok S (i:=0) rfl hg9 (Es hc3).1 (Ik (e':=.own U 118 4 x3.length (x3.flatMap Ej.enc)))).kept hw))) fun a S=>Hb 10 S hsel rfl rfl (by kernel_rfl) (by kernel_rfl) rfl (fun _=>(Rm (S.tm rfl))) fun a S=>Hb 11 S hsel rfl rfl (by kernel_rfl) (by kernel_rfl) rfl (fun _=>(Rm (S.tm rfl))) ?_;clear S;intro a S
       obtain ⟨b10,hg10,hr11⟩:=Hy (a:=a) (x:=.tmp 47) (y:=.tmp 48) (ty:=0) Tk Ej.enc_ok S (i:=0) rfl (Es hc4).1 (Es hc4).2 (S.tm rfl) (S.tm rfl)
       refine Hb 12 S hsel rfl rfl (by kernel_rfl) (by kernel_rfl) rfl (fun _=>(hr11 _)) ?_;clear S;intro a S
       clear hr11
       refine Eo 13 S hsel rfl (by kernel_rfl) (by kernel_rfl) (by kernel_rfl) (by kernel_rfl) rfl (fun _ hw=>(Gh isAgg118 sizeOf118 (off:=x4.toNat * 4) (o:=0) (part:=(Ej.enc (nth x3 x4))) rfl rfl (S.tm rfl) ((Pm Ej.enc_ok S (i:=0) rfl hg10 (Es hc4).1 (Ik (e':=.own U 118 4 x3.length (x3.flatMap Ej.enc)))).kept hw))) ?_;clear S;intro a S
       obtain ⟨b11,hg11,hr12⟩:=Hy (a:=a) (x:=.tmp 37) (y:=.tmp 38) (ty:=0) Tk Ej.enc_ok S (i:=0) rfl (Es hc5).1 (Es hc5).2 (S.tm rfl) (S.tm rfl)
       refine Hb 14 S hsel rfl rfl (by kernel_rfl) (by kernel_rfl) rfl (fun _=>(hr12 _)) ?_;clear S;intro a S
       clear hr12
       refine Zb 15 (U.ownBlock.toList) rfl (by kernel_rfl) rfl (Qn (c:=0) (j:=x4.toNat) (nth x3 (W (x4 - 1))) Ej.enc_ok S (S.tm rfl) (S.tm rfl) (i:=0) rfl hg11 (Es hc5).1 sizeOf118 (vs:=[sV ((nth x3 (W (x4 - 1))).Who),iV ((nth x3 (W (x4 - 1))).Rank),iV ((nth x3 (W (x4 - 1))).Time),iV ((nth x3 (W (x4 - 1))).Fault)]) rfl rfl rfl rfl rfl ?_);clear S;intro w16 hk11 S
       refine Ld (Zc ?_)
       obtain ⟨b12,hg12,hr13⟩:=Hy (a:=a) (x:=.tmp 39) (y:=.tmp 41) (ty:=0) Tk Ej.enc_ok S (i:=0) rfl (Es hc6).1 (Es hc6).2 (S.tm rfl) (S.tm rfl)
       refine Eo 16 S hsel rfl rfl rfl (by kernel_rfl) (by kernel_rfl) rfl (fun _ hw=>(hr13 _)) ?_;clear S;intro a S
       clear hr13
       refine Hi 17 (by kernel_rfl) rfl (Qn (c:=0) (j:=(W (x4 - 1)).toNat) (nth x3 x4) Ej.enc_ok S (S.tm rfl) (S.tm rfl) (i:=0) rfl hg12 (Es hc6).1 sizeOf118 (vs:=[sV ((nth x3 x4).Who),iV ((nth x3 x4).Rank),iV ((nth x3 x4).Time),iV ((nth x3 x4).Fault)]) rfl rfl rfl rfl rfl ?_);clear S;intro w18 hk13 S
       refine Ld (It hk13 (Xy (by kernel_rfl) ?_))
       clear hsel
       replace S:=(S.nl [.own U 118 4 ((x3.set x4.toNat (nth x3 (W (x4 - 1)))).set ((W (x4 - 1)).toNat) (nth x3 x4)).length (((x3.set x4.toNat (nth x3 (W (x4 - 1)))).set ((W (x4 - 1)).toNat) (nth x3 x4)).flatMap Ej.enc)] [true] rfl).k6 0 1 2 3 8 9 rfl
       exact Im (Tn (Fg (Vm S rfl rfl fun a S=>Vq S Jt rfl rfl rfl fun a S=>Va S rfl rfl fun a S=>Dl (⟨m2,⟨((x3.set x4.toNat (nth x3 (W (x4 - 1)))).set ((W (x4 - 1)).toNat) (nth x3 x4)),W (x4 - 1),h,S.nf [true] rfl ⟨rfl,rfl,rfl,rfl,rfl,rfl,trivial⟩⟩,Nat.lt_succ_self _⟩))))
      ·exact wp_exit (Ew (Ew (Hl (Tn (⟨x3,h,S.nf [true] rfl (subR rfl)⟩)))))
    clear S h;rintro a w4 ⟨x3,h,S⟩;rw [hj2] at h;clear hj2 j2
    exact Im (Tn (Fg (Vm S rfl rfl fun a S=>Vq S Gw rfl rfl rfl fun a S=>Va S rfl rfl fun a S=>Dl (⟨m1,⟨x3,W (x2 + 1),h,S.nf [true] rfl ⟨rfl,rfl,rfl,rfl,rfl,trivial⟩⟩,Nat.lt_succ_self _⟩))))
   ·exact wp_exit (Ew (Ew (Hl (Tn (⟨x1,h,S.nf [true] rfl trivial⟩)))))
 clear S h;rintro a w2 ⟨x1,h,S⟩;rw [hj1] at h;clear hj1 j1
 obtain rfl:=Option.some.inj h
 exact Vg S results186 ⟨(S.holds _ (List.mem_of_getElem? (i:=0) rfl)),rfl⟩
theorem Tm (w : World) (U : Value) (Ak : List Ej) (Bh : (LEnt.own U 118 4 Ak.length (Ak.flatMap Ej.enc)).holds w) (Bb : Int) (Bf : Nat) (Bw : Int) (Ch : (view w (U.ownBlock.toList)) Bf = some (.cells [iV Bw].toArray 3 (0,0))) (r : (List Ej)) (h : Le Ak Bb Bw = some r) :
    Calls prog 173 [U,iV Bb,.func (.func 148) #[] #[.pointer (some ⟨Bf,0,none⟩)]].toArray w (Ret w (U.ownBlock.toList) fun _ v w'=>(LEnt.own U 118 4 r.length (r.flatMap Ej.enc)).holds w' ∧ v = .tuple #[]):=by
 refine Nb (U.ownBlock.toList) [.own U 118 4 Ak.length (Ak.flatMap Ej.enc)] func173 rfl ntmps173 rfl (fun e he=>by simp only [List.mem_singleton] at he;subst he;exact Bh) (Kw _) (Mv _) fun a S=>?_
 unfold Le at h
 replace S:=(S.nl [.own U 118 4 Ak.length (Ak.flatMap Ej.enc)] [true] rfl).k3 0 1 2 rfl
 refine Fr (Vk S rfl rfl fun a S=>Dz (Vm S rfl rfl fun a S=>Vk S rfl rfl fun a S=>Va S rfl rfl fun a S=>Ld ?_))
 refine Tn (Fs ?_)
 replace S:=S.k6 0 1 2 6 7 8 rfl
 obtain ⟨j1,hj1,h⟩:=Fk h
 refine Fa (fun a w'=>∃ x1 : List Ej,∃ x2 : Int,j1 x1 x2 = some r ∧ Sx w (U.ownBlock.toList) nov [.own U 118 4 x1.length (x1.flatMap Ej.enc)] [(0,U),(1,iV Bb),(2,.func (.func 148) #[] #[.pointer (some ⟨Bf,0,none⟩)]),(6,iV 20),(7,iV x2)] 63 a w') ?_ ?_
 ·refine wp_block (Hs (fun (m1 : Nat) a w'=>∃ x1 : List Ej,∃ x2 : Int,∃ x3 : Int,Gz Bb Bw j1 m1 x1 x2 x3 = some r ∧ Sx w (U.ownBlock.toList) nov [.own U 118 4 x1.length (x1.flatMap Ej.enc)] [(0,U),(1,iV Bb),(2,.func (.func 148) #[] #[.pointer (some ⟨Bf,0,none⟩)]),(6,iV 20),(7,iV x2),(8,iV x3)] 63 a w') id ((Bb - 20).toNat + 2) ⟨Ak,0,20,h,S.nf [true] rfl (subR rfl)⟩ ?_)
  clear S h;rintro m1 a w1 ⟨x1,x2,x3,h,S⟩
  cases m1 with
  | zero=>rw [Gz.eq_1] at h;cases h
  | succ m1 =>
   rw [Gz.eq_2] at h
   refine Fs (Fr (Vm S rfl rfl fun a S=>Vm S rfl rfl fun a S=>Vb S Vd rfl rfl rfl fun a S=>Dl (Fc h (S.tm rfl) (fun hb1 h=>?_) (fun hb1 h=>?_))))
   ·refine wp_skip (Tn (wp_block (Fs (Fg ?_))))
    iterate 4 (refine Vm S rfl rfl ?_;clear S;intro a S)
    obtain ⟨r1,hr1,h⟩:=Ga h
    refine Pc 0 S rfl (fun _=>.own U 118 4 r1.length (r1.flatMap Ej.enc)) (fun _=>Ei (vs:=[U,iV x2,iV x3,.func (.func 148) #[] #[.pointer (some ⟨Bf,0,none⟩)]]) ⟨(S.tm rfl),(S.tm rfl),(S.tm rfl),(S.tm rfl),trivial⟩ call186) (Nw _ U x1 (S.holds _ (List.mem_of_getElem? (i:=0) rfl)) x2 x3 Bf Bw ((S.le_arg (Jr (i:=0) (e:=.own U 118 4 x1.length (x1.flatMap Ej.enc)) rfl)) _ _ Ch) _ hr1) rfl (fun _ _ _ h=>⟨h.1,fun _ hc=>hc⟩) ?_;clear S;intro v1 a w3 hv1 hk1 hn1 S
    replace hv1:=hv1.2
    subst hv1
    refine Dz (Vm S rfl rfl fun a S=>Va S rfl rfl fun a S=>Ld ?_)
    replace S:=(S.nl [.own U 118 4 r1.length (r1.flatMap Ej.enc)] [true] rfl).k6 0 1 2 6 7 8 rfl
    exact Tn (Fg (Vm S rfl rfl fun a S=>Vm S rfl rfl fun a S=>Vb S Gw rfl rfl rfl fun a S=>Va S rfl rfl fun a S=>Ld (Im (Tn (⟨m1,⟨r1,x3,W (x3 + 20),h,S.nf [true] rfl ⟨rfl,rfl,rfl,rfl,rfl,rfl,trivial⟩⟩,Nat.lt_succ_self _⟩)))))
   ·exact wp_exit (Ew (Ew (Hl (Tn (⟨x1,x2,h,S.nf [true] rfl (subR rfl)⟩)))))
 clear S h;rintro a w2 ⟨x1,x2,h,S⟩;rw [hj1] at h;clear hj1 j1
 refine Tn (Fs (Fg ?_))
 iterate 4 (refine Vm S rfl rfl ?_;clear S;intro a S)
 obtain ⟨r2,hr2,h⟩:=Ga h
 refine Pc 0 S rfl (fun _=>.own U 118 4 r2.length (r2.flatMap Ej.enc)) (fun _=>Ei (vs:=[U,iV x2,iV Bb,.func (.func 148) #[] #[.pointer (some ⟨Bf,0,none⟩)]]) ⟨(S.tm rfl),(S.tm rfl),(S.tm rfl),(S.tm rfl),trivial⟩ call186) (Nw _ U x1 (S.holds _ (List.mem_of_getElem? (i:=0) rfl)) x2 Bb Bf Bw ((S.le_arg (Jr (i:=0) (e:=.own U 118 4 x1.length (x1.flatMap Ej.enc)) rfl)) _ _ Ch) _ hr2) rfl (fun _ _ _ h=>⟨h.1,fun _ hc=>hc⟩) ?_;clear S;intro v2 a w4 hv2 hk2 hn2 S
 replace hv2:=hv2.2
 subst hv2
 refine Dl ?_
 replace S:=(S.nl [.own U 118 4 r2.length (r2.flatMap Ej.enc)] [true] rfl).k2 1 6 rfl
 obtain ⟨j2,hj2,h⟩:=Fk h
 refine Fa (fun a w'=>j2 = some r ∧ Sx w (U.ownBlock.toList) nov [.own U 118 4 r2.length (r2.flatMap Ej.enc)] [] 63 a w') ?_ ?_
 ·refine wp_block (Hs (fun (m2 : Nat) a w'=>∃ x4 : Int,Ha Bb j2 m2 x4 = some r ∧ Sx w (U.ownBlock.toList) nov [.own U 118 4 r2.length (r2.flatMap Ej.enc)] [(1,iV Bb),(6,iV x4)] 63 a w') id ((Bb - 20).toNat + 2) ⟨20,h,S.nf [true] rfl (subR rfl)⟩ ?_)
  clear S h;rintro m2 a w5 ⟨x4,h,S⟩
  cases m2 with
  | zero=>rw [Ha.eq_1] at h;cases h
  | succ m2 =>
   rw [Ha.eq_2] at h
   refine Fs (Fr (Vm S rfl rfl fun a S=>Vm S rfl rfl fun a S=>Vb S Fp rfl rfl rfl fun a S=>Dl (Fc h (S.tm rfl) (fun hb2 h=>?_) (fun hb2 h=>?_))))
   ·refine wp_skip (Tn (wp_block (Fr (Vm S rfl rfl fun a S=>Vu S (AI rfl) rfl rfl fun a S=>Vk S rfl rfl fun a S=>Va S rfl rfl fun a S=>Dl ?_))))
    refine Fs ?_
    replace S:=S.k4 1 6 7 8 rfl
    obtain ⟨j3,hj3,h⟩:=Fk h
    refine Fa (fun a w'=>∃ x5 : Int,j3 x5 = some r ∧ Sx w (U.ownBlock.toList) nov [.own U 118 4 r2.length (r2.flatMap Ej.enc)] [(1,iV Bb),(6,iV x4),(7,iV x5)] 63 a w') ?_ ?_
    ·refine wp_block (Hs (fun (m3 : Nat) a w'=>∃ x5 : Int,∃ x6 : Int,Ih Bb j3 m3 x5 x6 = some r ∧ Sx w (U.ownBlock.toList) nov [.own U 118 4 r2.length (r2.flatMap Ej.enc)] [(1,iV Bb),(6,iV x4),(7,iV x5),(8,iV x6)] 63 a w') id ((Bb - (W (2 * x4))).toNat + 2) ⟨0,W (2 * x4),h,S.nf [true] rfl (subR rfl)⟩ ?_)
     clear S h;rintro m3 a w7 ⟨x5,x6,h,S⟩
     cases m3 with
     | zero=>rw [Ih.eq_1] at h;cases h
     | succ m3 =>
      rw [Ih.eq_2] at h
      refine Fs (Fr (Vm S rfl rfl fun a S=>Vm S rfl rfl fun a S=>Vb S Vd rfl rfl rfl fun a S=>Dl (Fc h (S.tm rfl) (fun hb3 h=>?_) (fun hb3 h=>?_))))
      ·refine wp_skip (Tn (wp_block (Fs ?_)))
       cases h
      ·exact wp_exit (Ew (Ew (Hl (Tn (⟨x5,h,S.nf [true] rfl (subR rfl)⟩)))))
    clear S h;rintro a w8 ⟨x5,h,S⟩;rw [hj3] at h;clear hj3 j3
    refine Tn (Fs (Fr (Vm S rfl rfl fun a S=>Vm S rfl rfl fun a S=>Vb S Gw rfl rfl rfl fun a S=>Va S rfl rfl fun a S=>Dl (Fs ?_))))
    refine Fg (Vm S rfl rfl fun a S=>Vm S rfl rfl fun a S=>Vb S Fp rfl rfl rfl fun a S=>Dl (Fc h (S.tm rfl) (fun hb4 h=>?_) (fun hb4 h=>?_)))
    ·cases h
    ·exact wp_skip (Tn (Fg (Vm S rfl rfl fun a S=>Vq S AI rfl rfl rfl fun a S=>Va S rfl rfl fun a S=>Ld (Im (Tn (⟨m2,⟨W (x4 * 2),h,S.nf [true] rfl ⟨rfl,rfl,trivial⟩⟩,Nat.lt_succ_self _⟩))))))
   ·exact wp_exit (Ew (Ew (Hl (Tn (⟨h,S.nf [true] rfl trivial⟩)))))
 clear S h;rintro a w6 ⟨h,S⟩;rw [hj2] at h;clear hj2 j2
 obtain rfl:=Option.some.inj h
 exact Vg S results173 ⟨(S.holds _ (List.mem_of_getElem? (i:=0) rfl)),rfl⟩
theorem Sz (w : World) (Bc : Value) (Ac : List Ej) (Cs : (LEnt.own Bc 118 4 Ac.length (Ac.flatMap Ej.enc)).holds w) (Bf : Nat) (Bw : Int) (Ch : (view w (Bc.ownBlock.toList)) Bf = some (.cells [iV Bw].toArray 3 (0,0))) (r : (List Ej)) (h : Jx Ac Bw = some r) :
    Calls prog 147 [Bc,.func (.func 148) #[] #[.pointer (some ⟨Bf,0,none⟩)]].toArray w (Ret w (Bc.ownBlock.toList) fun _ v w'=>(LEnt.own Bc 118 4 r.length (r.flatMap Ej.enc)).holds w' ∧ v = .tuple #[]):=by
 refine Nb (Bc.ownBlock.toList) [.own Bc 118 4 Ac.length (Ac.flatMap Ej.enc)] func147 rfl ntmps147 rfl (fun e he=>by simp only [List.mem_singleton] at he;subst he;exact Cs) (Kw _) (Mv _) fun a S=>?_
 unfold Jx at h
 replace S:=(S.nl [.own Bc 118 4 Ac.length (Ac.flatMap Ej.enc)] [true] rfl).k2 0 1 rfl
 refine Fg (Vm S rfl rfl fun a S=>Vm S rfl rfl fun a S=>lv S (Gn Tk (S.tm rfl) (Qb (S.own_at (i:=0) rfl))) rfl fun a S=>Vm S rfl rfl ?_);clear S;intro a S
 obtain ⟨r1,hr1,h⟩:=Ga h
 refine Pc 0 S rfl (fun _=>.own Bc 118 4 r1.length (r1.flatMap Ej.enc)) (fun _=>Ei (vs:=[Bc,iV (Ac.length : Int),.func (.func 148) #[] #[.pointer (some ⟨Bf,0,none⟩)]]) ⟨(S.tm rfl),(S.tm rfl),(S.tm rfl),trivial⟩ call173) (Tm _ Bc Ac (S.holds _ (List.mem_of_getElem? (i:=0) rfl)) (Ac.length : Int) Bf Bw ((S.le_arg (Jr (i:=0) (e:=.own Bc 118 4 Ac.length (Ac.flatMap Ej.enc)) rfl)) _ _ Ch) _ hr1) rfl (fun _ _ _ h=>⟨h.1,fun _ hc=>hc⟩) ?_;clear S;intro v1 a w1 hv1 hk1 hn1 S
 replace hv1:=hv1.2
 subst hv1
 refine Ld ?_
 obtain rfl:=Option.some.inj h
 exact Vg S results147 ⟨(S.holds _ (List.mem_of_getElem? (i:=0) rfl)),rfl⟩
set_option maxRecDepth 20000 in
theorem LL (w : World) (Ab : Value) (Ad : List Kq) (Ae : Slc (view w []) 2 Ab (Ad.map Kq.enc)) (Cf : Value) (Cg : List Jm) (Cq : List Uk) (Cj : Slc (view w []) 3 Cf (Cq.map Uk.enc)) (Ck : Lp (Xa (view w [])) Cg Cq) (Bx : Int) (r : (List Ej) × Int) (h : BQ Ad Cg Bx = some r) :
    Calls prog 124 [Ab,Cf,iV Bx].toArray w (Ret w [] fun τ v _=>∃ u1 : Value,v = .tuple #[u1,iV r.2] ∧ Ve τ 118 4 u1 r.1.length (r.1.flatMap Ej.enc)):=by
 refine Fe func124 rfl ntmps124 rfl fun a S=>?_
 unfold BQ at h
 replace S:=S.k3 0 1 2 rfl
 refine Fr (Mk S (S.tm rfl) (cs:=[iV Bx]) rfl rfl ?_);clear S;intro a w1 b1 hz1 hk1 S
 refine Vk S rfl rfl fun a S=>Vk S rfl rfl fun a S=>Dl (Fs (Fr (Vm S rfl rfl ?_)));clear S;intro a S
 obtain ⟨r1,hr1,h⟩:=Ga h
 refine Er S (fun _=>Ei (vs:=[Ab]) ⟨(S.tm rfl),trivial⟩ call145) (FN _ Ab Ad (Ae.mono (S.le_arg Ez)) _ hr1) rfl ?_;clear S;intro v1 a w2 hv1 hk2 hn1 S
 subst hv1
 refine Va S rfl rfl fun a S=>Dz (Vm S rfl rfl fun a S=>Vq S Nt rfl rfl rfl fun a S=>Dl (Fc h (S.tm rfl) (fun hb1 h=>?_) (fun hb1 h=>?_)))
 ·refine Fr (Vm S rfl rfl fun a S=>Vk S rfl rfl fun a S=>Va S rfl rfl fun a S=>Dl (wp_ret (Ek ?_)))
  obtain rfl:=Option.some.inj h
  exact Nz S results124 rfl rfl ⟨_,rfl,(Ug _ _ _)⟩
 ·refine wp_skip (Tn (Fs (Fr (Vm S rfl rfl ?_))));clear S;intro a S
  obtain ⟨r2,hr2,h⟩:=Ga h
  refine Er S (fun _=>Ei (vs:=[Cf]) ⟨(S.tm rfl),trivial⟩ call146) (BZ _ Cf Cg Cq (Cj.mono (S.le_arg Ez)) (JX (S.le_arg Ez) Ck) _ hr2) rfl ?_;clear S;intro v2 a w3 hv2 hk3 hn2 S
  subst hv2
  refine Va S rfl rfl fun a S=>Dz (Vm S rfl rfl fun a S=>Vq S Nt rfl rfl rfl fun a S=>Ld ?_)
  replace S:=(S.nl [.blk b1 [iV Bx] 3] [true] rfl).k5 0 1 5 9 27 rfl
  refine Tn (Fc h (S.tm rfl) (fun hb2 h=>?_) (fun hb2 h=>?_))
  ·refine Fr (Vm S rfl rfl fun a S=>Vk S rfl rfl fun a S=>Va S rfl rfl fun a S=>Dl (wp_ret (Ek ?_)))
   obtain rfl:=Option.some.inj h
   exact Nz S results124 rfl rfl ⟨_,rfl,(Ug _ _ _)⟩
  ·refine wp_skip (Tn (Fr (Sf (κ:=ByteArray) (ν:=Int) S rfl Value.string (Value.int .i64) ?_)));clear S;intro a w4 b2 hz2 hk4 S
   refine Va S rfl rfl fun a S=>Dl (Fs (Fr (Vm S rfl rfl fun a S=>lv S (Gn FH (S.tm rfl) (Vh Cj Ck)) rfl fun a S=>lv S (Rm rfl) rfl fun a S=>Dl ?_)))
   replace S:=(S.nl [.map b2 (Gx Value.string (Value.int .i64) ([] : List (ByteArray × Int))) ([] : List (ByteArray × Int)).length,.blk b1 [iV Bx] 3] [true,true] rfl).k6 0 5 10 30 31 32 rfl
   obtain ⟨j1,hj1,h⟩:=Fk h
   refine Fa (fun a w'=>∃ x1 : List (ByteArray × Int),j1 x1 = some r ∧ Sx w [] nov [.map b2 (Gx Value.string (Value.int .i64) x1) x1.length,.blk b1 [iV Bx] 3] [(0,Ab),(5,.pointer (some ⟨b1,0,none⟩)),(10,.map (some b2))] 122 a w') ?_ ?_
   ·refine wp_block (Hs (fun (ys1 : List Jm) a w'=>∃ i1 : Nat,∃ x1 : List (ByteArray × Int),(∃ dn,Cg = dn ++ ys1 ∧ dn.length = i1) ∧ Pp j1 ys1 i1 x1 = some r ∧ Sx w [] nov [.map b2 (Gx Value.string (Value.int .i64) x1) x1.length,.blk b1 [iV Bx] 3] [(0,Ab),(5,.pointer (some ⟨b1,0,none⟩)),(10,.map (some b2)),(30,Cf),(31,iV (Cg.length : Int)),(32,iV (i1 : Int))] 122 a w') List.length Cg ⟨0,([] : List (ByteArray × Int)),⟨[],rfl,rfl⟩,h,S.nf [true,true] rfl (subR rfl)⟩ ?_)
    clear S h;rintro ys1 a w5 ⟨i1,x1,⟨dn,hd1,hi1⟩,h,S⟩
    cases ys1 with
    | nil =>
     rw [Pp.eq_1] at h
     refine Fr (Vb S Fp rfl rfl rfl fun a S=>Ld ?_)
     replace S:=S.k7 0 5 10 30 31 32 33 rfl
     exact Tn (Fs (wp_cond_false ((S.tm rfl).trans (congrArg Value.bool (Jq hd1 hi1))) (wp_exit (Ew (Ew (Hl (Tn (⟨x1,h,S.nf [true,true] rfl (subR rfl)⟩))))))))
    | cons y1 ys1 =>
     rw [Pp.eq_2] at h
     refine Fr (Vb S Fp rfl rfl rfl fun a S=>Ld ?_)
     replace S:=S.k7 0 5 10 30 31 32 33 rfl
     refine Tn (Fs (wp_cond_true ((S.tm rfl).trans (congrArg Value.bool (Iv hd1 hi1))) (wp_skip (Tn (Fs (wp_block (Fs (Fg ?_))))))))
     obtain ⟨r3,hg1,hl1⟩:=Lp.at Ck (Js hd1 hi1)
     obtain ⟨u1,rfl,hs1⟩:=hl1
     obtain ⟨b3,o1,hm1,hr3⟩:=Fv (a:=a) (x:=.tmp 30) (y:=.tmp 32) (ty:=0) FH Cj hg1 rfl (S.tm rfl) (S.tm rfl)
     refine lv S (hr3 _) rfl ?_;clear S;intro a S
     clear hr3
     refine lv S (Gh isAgg172 sizeOf172 (off:=o1) (o:=0) (part:=[sV y1.Who,iV y1.Fault,u1.val]) rfl rfl (S.tm rfl) (hm1.at S.emb0)) rfl fun a S=>Iz S zeroValue172 (cs:=[sV An,iV 0,.slice none 0 0]) rfl rfl ?_;clear S;intro a w7 b4 hz3 hk5 S
     refine Ft S (S.tm rfl) (S.tm rfl) (i:=0) (off:=0) rfl sizeOf172 (vs:=[sV y1.Who,iV y1.Fault,u1.val]) rfl rfl rfl (Rf rfl (Rf rfl (Rf (Lo.one (Gk hs1)) rfl))) ?_;clear S;intro w8 hk6 S
     refine Dl (Fg (Vm S rfl rfl fun a S=>Vf GI S rfl rfl fun a S=>Vl isAgg9 0 S rfl rfl rfl rfl fun a S=>Vf PR S rfl rfl fun a S=>Vl isAgg3 0 S rfl rfl rfl rfl fun a S=>Qa (kv:=Value.string) (vv:=(Value.int .i64)) (m:=x1) (key:=y1.Who) (val:=y1.Fault) S (i:=1) rfl underlying98 (Nu underlying9) (S.tm rfl) (S.tm rfl) (S.tm rfl) ?_));clear S;intro w9 hk7 S
     refine Ld ?_
     replace S:=(S.nl [.map b2 (Gx Value.string (Value.int .i64) (Hj x1 y1.Who y1.Fault)) (Hj x1 y1.Who y1.Fault).length,.blk b1 [iV Bx] 3] [false,true,true] rfl).k6 0 5 10 30 31 32 rfl
     exact Im (Tn (Fg (Vq S Gw rfl rfl rfl fun a S=>Vm S rfl rfl fun a S=>Dl (⟨ys1,⟨i1 + 1,(Hj x1 y1.Who y1.Fault),⟨_,(hd1).trans (List.append_cons _ _ _),by simp [hi1]⟩,h,S.nf [true,true] rfl ⟨rfl,rfl,rfl,rfl,rfl,(congrArg (fun z=>some (Value.int .i64 z)) (Iw hd1 hi1 (Xk Cj Ck))),trivial⟩⟩,Nat.lt_succ_self _⟩))))
   clear S h;rintro a w6 ⟨x1,h,S⟩;rw [hj1] at h;clear hj1 j1
   refine Tn (Fr (Vk S rfl rfl ?_));clear S;intro a S
   replace S:=S.nil 118 4
   refine Vk S rfl rfl ?_;clear S;intro a S
   replace S:=S.nil 118 4
   refine Dl (Fs (Fr (Vm S rfl rfl fun a S=>lv S (Gn HI (S.tm rfl) (Gk Ae)) rfl fun a S=>lv S (Rm rfl) rfl fun a S=>Dl ?_)))
   replace S:=(S.nl [.own (.slice none 0 0) 118 4 ([] : List Ej).length (([] : List Ej).flatMap Ej.enc),.own (.slice none 0 0) 118 4 ([] : List Ej).length (([] : List Ej).flatMap Ej.enc),.map b2 (Gx Value.string (Value.int .i64) x1) x1.length,.blk b1 [iV Bx] 3] [true,true,true,true] rfl).k7 5 10 13 14 42 43 44 rfl
   obtain ⟨j2,hj2,h⟩:=Fk h
   refine Fa (fun a w'=>∃ x2 : List Ej,∃ x3 : List Ej,∃ v3 : Value,∃ v4 : Value,j2 x2 x3 = some r ∧ Sx w [] nov [.own v3 118 4 x2.length (x2.flatMap Ej.enc),.own v4 118 4 x3.length (x3.flatMap Ej.enc),.map b2 (Gx Value.string (Value.int .i64) x1) x1.length,.blk b1 [iV Bx] 3] [(5,.pointer (some ⟨b1,0,none⟩)),(13,v4),(14,v3)] 122 a w') ?_ ?_
   ·refine wp_block (Hs (fun (ys2 : List Kq) a w'=>∃ i2 : Nat,∃ x2 : List Ej,∃ x3 : List Ej,∃ v3 : Value,∃ v4 : Value,(∃ dn,Ad = dn ++ ys2 ∧ dn.length = i2) ∧ Ol x1 j2 ys2 i2 x2 x3 = some r ∧ Sx w [] nov [.own v3 118 4 x2.length (x2.flatMap Ej.enc),.own v4 118 4 x3.length (x3.flatMap Ej.enc),.map b2 (Gx Value.string (Value.int .i64) x1) x1.length,.blk b1 [iV Bx] 3] [(5,.pointer (some ⟨b1,0,none⟩)),(10,.map (some b2)),(13,v4),(14,v3),(42,Ab),(43,iV (Ad.length : Int)),(44,iV (i2 : Int))] 122 a w') List.length Ad ⟨0,([] : List Ej),([] : List Ej),(.slice none 0 0),(.slice none 0 0),⟨[],rfl,rfl⟩,h,S.nf [true,true,true,true] rfl (subR rfl)⟩ ?_)
    clear S h;rintro ys2 a w10 ⟨i2,x2,x3,v3,v4,⟨dn,hd2,hi2⟩,h,S⟩
    cases ys2 with
    | nil =>
     rw [Ol.eq_1] at h
     refine Fr (Vb S Fp rfl rfl rfl fun a S=>Ld ?_)
     replace S:=S.k8 5 10 13 14 42 43 44 45 rfl
     exact Tn (Fs (wp_cond_false ((S.tm rfl).trans (congrArg Value.bool (Jq hd2 hi2))) (wp_exit (Ew (Ew (Hl (Tn (⟨x2,x3,v3,v4,h,S.nf [true,true,true,true] rfl (subR rfl)⟩))))))))
    | cons y2 ys2 =>
     rw [Ol.eq_2] at h
     refine Fr (Vb S Fp rfl rfl rfl fun a S=>Ld ?_)
     replace S:=S.k8 5 10 13 14 42 43 44 45 rfl
     refine Tn (Fs (wp_cond_true ((S.tm rfl).trans (congrArg Value.bool (Iv hd2 hi2))) (wp_skip (Tn (Fs ?_)))))
     obtain ⟨j3,hj3,h⟩:=Fk h
     refine Fa (fun a w'=>∃ x4 : List Ej,∃ x5 : List Ej,∃ v5 : Value,∃ v6 : Value,j3 x4 x5 = some r ∧ Sx w [] nov [.own v5 118 4 x4.length (x4.flatMap Ej.enc),.own v6 118 4 x5.length (x5.flatMap Ej.enc),.map b2 (Gx Value.string (Value.int .i64) x1) x1.length,.blk b1 [iV Bx] 3] [(5,.pointer (some ⟨b1,0,none⟩)),(10,.map (some b2)),(13,v6),(14,v5),(42,Ab),(43,iV (Ad.length : Int)),(44,iV (i2 : Int))] 122 a w') ?_ ?_
     ·refine wp_block (Fs (Fg ?_))
      obtain ⟨b5,o2,hm2,hr4⟩:=Fv (a:=a) (x:=.tmp 42) (y:=.tmp 44) (ty:=0) HI Ae (Js hd2 hi2) rfl (S.tm rfl) (S.tm rfl)
      refine lv S (hr4 _) rfl ?_;clear S;intro a S
      clear hr4
      refine lv S (Gh isAgg170 sizeOf170 (off:=o2) (o:=0) (part:=(Kq.enc y2)) rfl rfl (S.tm rfl) (hm2.at S.emb0)) rfl fun a S=>Iz S zeroValue170 (cs:=[sV An,iV 0]) rfl rfl ?_;clear S;intro a w13 b6 hz4 hk8 S
      refine Ft S (S.tm rfl) (S.tm rfl) (i:=0) (off:=0) rfl sizeOf170 (vs:=(Kq.enc y2)) rfl rfl rfl rfl ?_;clear S;intro w14 hk9 S
      refine Dz (Vf DH S rfl rfl fun a S=>Vl isAgg9 0 S rfl rfl rfl rfl fun a S=>Vf PQ S rfl rfl fun a S=>Vl isAgg3 0 S rfl rfl rfl rfl fun a S=>Vm S rfl rfl fun a S=>Vf DH S rfl rfl fun a S=>Vl isAgg9 0 S rfl rfl rfl rfl ?_);clear S;intro a S
      refine lv S (Qu (kv:=Value.string) (vv:=(Value.int .i64)) (m:=x1) (key:=y2.Who) (z:=0) (S.map_at (i:=3) rfl) underlying98 (Nu underlying9) zeroValue3 (S.tm rfl) (S.tm rfl)) rfl fun a S=>lv S (Nc bt_118 (pv:=[(0,sV y2.Who),(2,iV y2.Time),(3,iV (Et x1 y2.Who 0))]) ⟨rfl,(S.tm rfl),rfl,(S.tm rfl),rfl,(S.tm rfl),trivial⟩ (cs:=[sV y2.Who,iV 0,iV y2.Time,iV (Et x1 y2.Who 0)]) (by kernel_rfl)) rfl fun a S=>Iz S zeroValue118 (cs:=[sV An,iV 0,iV 0,iV 0]) rfl rfl ?_;clear S;intro a w15 b7 hz5 hk10 S
      refine Ft S (S.tm rfl) (S.tm rfl) (i:=0) (off:=0) rfl sizeOf118 (vs:=[sV y2.Who,iV 0,iV y2.Time,iV (Et x1 y2.Who 0)]) rfl rfl rfl rfl ?_;clear S;intro w16 hk11 S
      refine Ld ?_
      replace S:=(S.nl [.blk b7 [sV y2.Who,iV 0,iV y2.Time,iV (Et x1 y2.Who 0)] 118,.own v3 118 4 x2.length (x2.flatMap Ej.enc),.own v4 118 4 x3.length (x3.flatMap Ej.enc),.map b2 (Gx Value.string (Value.int .i64) x1) x1.length,.blk b1 [iV Bx] 3] [true,false,true,true,true,true] rfl).k8 5 10 13 14 17 42 43 44 rfl
      refine Tn (Fr (Vf PP S rfl rfl fun a S=>Vl isAgg3 0 S rfl rfl rfl rfl fun a S=>Vq S Jn rfl rfl rfl fun a S=>Vm S rfl rfl fun a S=>Io 4 (fun a w'=>Keep [] w16 w' ∧ Sx w [] nov [.blk b7 [sV y2.Who,iV 0,iV y2.Time,iV (Et x1 y2.Who 0)] 118,.own v3 118 4 x2.length (x2.flatMap Ej.enc),.own v4 118 4 x3.length (x3.flatMap Ej.enc),.map b2 (Gx Value.string (Value.int .i64) x1) x1.length,.blk b1 [iV Bx] 3] [(5,.pointer (some ⟨b1,0,none⟩)),(10,.map (some b2)),(13,v4),(14,v3),(17,.pointer (some ⟨b7,0,none⟩)),(42,Ab),(43,iV (Ad.length : Int)),(44,iV (i2 : Int)),(64,bV ((decide ((Et x1 y2.Who 0) = 0)) && (decide (0 < y2.Time))))] 122 a w') ?_ ?_))
      ·rcases Bool.eq_false_or_eq_true (decide ((Et x1 y2.Who 0) = 0)) with hb3 | hb3
       ·exact Em S rfl rfl rfl hb3 (Vf AX S rfl rfl fun a S=>Em S rfl rfl rfl hb3 (Vl isAgg3 0 S rfl rfl rfl rfl fun a S=>Em S rfl rfl rfl hb3 (Vq S Jz rfl rfl rfl fun a S=>lv S (Ii hb3 (S.tm rfl) (S.tm rfl)) rfl fun a S=>Dl (⟨Keep.refl _ _,S.nf [true,true,true,true,true] rfl (subR rfl)⟩))))
       ·iterate 3 (refine Hk S rfl rfl rfl (Ka hb3) rfl ?_ rfl;clear S;intro a S)
        exact lv S (Ij (decide (0 < y2.Time)) hb3 (S.tm rfl) rfl) rfl fun a S=>Dl (⟨Keep.refl _ _,S.nf [true,true,true,true,true] rfl (subR rfl)⟩)
      clear S;rintro a w17 ⟨hk12,S⟩
      refine Dl ?_
      obtain ⟨j4,hj4,h⟩:=Fk h
      refine Fa (fun a w'=>∃ x6 : List Ej,∃ x7 : List Ej,∃ v7 : Value,∃ v8 : Value,j4 x6 x7 = some r ∧ Sx w [] nov [.own v7 118 4 x6.length (x6.flatMap Ej.enc),.own v8 118 4 x7.length (x7.flatMap Ej.enc),.map b2 (Gx Value.string (Value.int .i64) x1) x1.length,.blk b1 [iV Bx] 3] [(5,.pointer (some ⟨b1,0,none⟩)),(10,.map (some b2)),(13,v8),(14,v7),(42,Ab),(43,iV (Ad.length : Int)),(44,iV (i2 : Int))] 122 a w') ?_ ?_
      ·refine Fc h (S.tm rfl) (fun hb4 h=>?_) (fun hb4 h=>?_)
       ·refine Fg (Vm S rfl rfl fun a S=>lv S (Gh isAgg118 sizeOf118 (off:=0) (o:=0) (part:=[sV y2.Who,iV 0,iV y2.Time,iV (Et x1 y2.Who 0)]) rfl rfl (S.tm rfl) (S.cellsAt (i:=0) rfl)) rfl fun a S=>Fq S underlying112 sizeOf118 zeroValue118 rfl rfl (pv:=[(0,.agg #[sV y2.Who,iV 0,iV y2.Time,iV (Et x1 y2.Who 0)])]) ⟨rfl,(S.tm rfl),trivial⟩ (cs:=[sV y2.Who,iV 0,iV y2.Time,iV (Et x1 y2.Who 0)]) (by kernel_rfl) rfl ?_);clear S;intro a w19 b8 hz6 hk13 S
        obtain ⟨hc1,h⟩:=Jc h
        refine Np Tk Ej.enc_ok S (S.tm rfl) (i:=3) rfl (S.tm rfl) (j:=0) rfl (ys:=[(Ej.mk y2.Who 0 y2.Time (Et x1 y2.Who 0))]) rfl rfl rfl rfl (by have:=Nx hc1;omega) rfl ?_;clear S;intro v9 a w20 hk14 S
        refine Va S rfl rfl fun a S=>Ld ?_
        replace S:=(S.nl [.own v3 118 4 x2.length (x2.flatMap Ej.enc),.own v9 118 4 (x3 ++ [(Ej.mk y2.Who 0 y2.Time (Et x1 y2.Who 0))]).length ((x3 ++ [(Ej.mk y2.Who 0 y2.Time (Et x1 y2.Who 0))]).flatMap Ej.enc),.map b2 (Gx Value.string (Value.int .i64) x1) x1.length,.blk b1 [iV Bx] 3] [false,false,true,true,true,true] rfl).k7 5 10 13 14 42 43 44 rfl
        exact Tn (⟨x2,(x3 ++ [(Ej.mk y2.Who 0 y2.Time (Et x1 y2.Who 0))]),v3,v9,h,S.nf [true,true,true,true] rfl (subR rfl)⟩)
       ·refine Fg (Vm S rfl rfl fun a S=>lv S (Gh isAgg118 sizeOf118 (off:=0) (o:=0) (part:=[sV y2.Who,iV 0,iV y2.Time,iV (Et x1 y2.Who 0)]) rfl rfl (S.tm rfl) (S.cellsAt (i:=0) rfl)) rfl fun a S=>Fq S underlying112 sizeOf118 zeroValue118 rfl rfl (pv:=[(0,.agg #[sV y2.Who,iV 0,iV y2.Time,iV (Et x1 y2.Who 0)])]) ⟨rfl,(S.tm rfl),trivial⟩ (cs:=[sV y2.Who,iV 0,iV y2.Time,iV (Et x1 y2.Who 0)]) (by kernel_rfl) rfl ?_);clear S;intro a w21 b9 hz7 hk15 S
        obtain ⟨hc2,h⟩:=Jc h
        refine Np Tk Ej.enc_ok S (S.tm rfl) (i:=2) rfl (S.tm rfl) (j:=0) rfl (ys:=[(Ej.mk y2.Who 0 y2.Time (Et x1 y2.Who 0))]) rfl rfl rfl rfl (by have:=Nx hc2;omega) rfl ?_;clear S;intro v10 a w22 hk16 S
        refine Va S rfl rfl fun a S=>Ld ?_
        replace S:=(S.nl [.own v10 118 4 (x2 ++ [(Ej.mk y2.Who 0 y2.Time (Et x1 y2.Who 0))]).length ((x2 ++ [(Ej.mk y2.Who 0 y2.Time (Et x1 y2.Who 0))]).flatMap Ej.enc),.own v4 118 4 x3.length (x3.flatMap Ej.enc),.map b2 (Gx Value.string (Value.int .i64) x1) x1.length,.blk b1 [iV Bx] 3] [false,false,true,true,true,true] rfl).k7 5 10 13 14 42 43 44 rfl
        exact Tn (⟨(x2 ++ [(Ej.mk y2.Who 0 y2.Time (Et x1 y2.Who 0))]),x3,v10,v4,h,S.nf [true,true,true,true] rfl (subR rfl)⟩)
      clear S h;rintro a w18 ⟨x6,x7,v7,v8,h,S⟩;rw [hj4] at h;clear hj4 j4
      exact Im (Tn (⟨x6,x7,v7,v8,h,S.nf [true,true,true,true] rfl (subR rfl)⟩))
     clear S h;rintro a w12 ⟨x4,x5,v5,v6,h,S⟩;rw [hj3] at h;clear hj3 j3
     exact Tn (Fg (Vq S Gw rfl rfl rfl fun a S=>Vm S rfl rfl fun a S=>Dl (⟨ys2,⟨i2 + 1,x4,x5,v5,v6,⟨_,(hd2).trans (List.append_cons _ _ _),by simp [hi2]⟩,h,S.nf [true,true,true,true] rfl ⟨rfl,rfl,rfl,rfl,rfl,rfl,(congrArg (fun z=>some (Value.int .i64 z)) (Iw hd2 hi2 (Kh Ae))),trivial⟩⟩,Nat.lt_succ_self _⟩)))
   clear S h;rintro a w11 ⟨x2,x3,v3,v4,h,S⟩;rw [hj2] at h;clear hj2 j2
   refine Tn (Fr (Vm S rfl rfl fun a S=>lv S (Tr (us:=#[]) (xs:=[].toArray) (ys:=[.tmp 5].toArray) (by simp) (evA ⟨(S.tm rfl),trivial⟩ (vs:=[.pointer (some ⟨b1,0,none⟩)]))) rfl ?_));clear S;intro a S
   obtain ⟨r4,hr5,h⟩:=Ga h
   refine Pc 1 S rfl (fun _=>.own v4 118 4 r4.length (r4.flatMap Ej.enc)) (fun _=>Ei (vs:=[v4,.func (.func 148) #[] #[.pointer (some ⟨b1,0,none⟩)]]) ⟨(S.tm rfl),(S.tm rfl),trivial⟩ call147) (Sz _ v4 x3 (S.holds _ (List.mem_of_getElem? (i:=1) rfl)) b1 Bx (S.blk_view (i:=3) rfl ((Nf (i:=1) (j:=3) (e:=.own v4 118 4 x3.length (x3.flatMap Ej.enc)) (e':=.blk b1 [iV Bx] 3) S rfl rfl rfl) _ rfl)) _ hr5) rfl (fun _ _ _ h=>⟨h.1,fun _ hc=>hc⟩) ?_;clear S;intro v11 a w23 hv3 hk17 hn3 S
   replace hv3:=hv3.2
   subst hv3
   refine Dl (Fs (Fr (Vm S rfl rfl fun a S=>lv S (Gn Tk (S.tm rfl) (Qb (S.own_at (i:=1) rfl))) rfl fun a S=>lv S (Rm rfl) rfl fun a S=>Dl ?_)))
   replace S:=(S.nl [.own v3 118 4 x2.length (x2.flatMap Ej.enc),.own v4 118 4 r4.length (r4.flatMap Ej.enc),.blk b1 [iV Bx] 3] [true,true,false,true] rfl).k5 5 13 14 78 79 rfl
   have hm3:=own_max (S.own_at (i:=1) rfl)
   obtain ⟨j5,hj5,h⟩:=Fk h
   refine Fa (fun a w'=>∃ x8 : List Ej,∃ v12 : Value,j5 x8 = some r ∧ Sx w [] nov [.own v3 118 4 x2.length (x2.flatMap Ej.enc),.own v12 118 4 x8.length (x8.flatMap Ej.enc),.blk b1 [iV Bx] 3] [(13,v12),(14,v3)] 122 a w') ?_ ?_
   ·refine wp_block (Hs (fun (ys3 : List Ej) a w'=>∃ i3 : Nat,∃ x8 : List Ej,∃ v12 : Value,(∃ dn,r4 = dn ++ ys3 ∧ dn.length = i3) ∧ Om Bx j5 ys3 i3 x8 = some r ∧ Sx w [] nov [.own v3 118 4 x2.length (x2.flatMap Ej.enc),.own v12 118 4 x8.length (x8.flatMap Ej.enc),.blk b1 [iV Bx] 3] [(5,.pointer (some ⟨b1,0,none⟩)),(13,v12),(14,v3),(78,iV (r4.length : Int)),(79,iV (i3 : Int))] 122 a w') List.length r4 ⟨0,r4,v4,⟨[],rfl,rfl⟩,h,S.nf [true,true,true] rfl (subR rfl)⟩ ?_)
    clear S h;rintro ys3 a w24 ⟨i3,x8,v12,⟨dn,hd3,hi3⟩,h,S⟩
    cases ys3 with
    | nil =>
     rw [Om.eq_1] at h
     refine Fr (Vb S Fp rfl rfl rfl fun a S=>Ld ?_)
     replace S:=S.k6 5 13 14 78 79 80 rfl
     exact Tn (Fs (wp_cond_false ((S.tm rfl).trans (congrArg Value.bool (Jq hd3 hi3))) (wp_exit (Ew (Ew (Hl (Tn (⟨x8,v12,h,S.nf [true,true,true] rfl (subR rfl)⟩))))))))
    | cons y3 ys3 =>
     rw [Om.eq_2] at h
     refine Fr (Vb S Fp rfl rfl rfl fun a S=>Ld ?_)
     replace S:=S.k6 5 13 14 78 79 80 rfl
     refine Tn (Fs (wp_cond_true ((S.tm rfl).trans (congrArg Value.bool (Iv hd3 hi3))) (wp_skip (Tn (Fs ?_)))))
     obtain ⟨j6,hj6,h⟩:=Fk h
     refine Fa (fun a w'=>∃ x9 : List Ej,j6 x9 = some r ∧ Sx w [] nov [.own v3 118 4 x2.length (x2.flatMap Ej.enc),.own v12 118 4 x9.length (x9.flatMap Ej.enc),.blk b1 [iV Bx] 3] [(5,.pointer (some ⟨b1,0,none⟩)),(13,v12),(14,v3),(78,iV (r4.length : Int)),(79,iV (i3 : Int))] 122 a w') ?_ ?_
     ·refine wp_block (Fr (Vm S rfl rfl fun a S=>Va S rfl rfl fun a S=>Dl (Fs (Hd [] ([]) Tryz.mixed S rfl (by kernel_rfl) ?_))));clear S;intro w27 hk18 hsel S
      refine Kt [0,1,2,3,4,5,6,7,8,9,10,11,12,13,14,15,16,17,18,19] hsel (by kernel_rfl) rfl ?_
      clear hsel
      refine Gv S rfl (Rm (S.tm rfl)) rfl fun a S=>Gv S rfl (Jz (S.tm rfl) rfl) rfl fun a S=>Gv S rfl (Rm (S.tm rfl)) rfl ?_;clear S;intro a S
      obtain ⟨j7,hj7,h⟩:=Fk h
      refine Zn 17 (fun a w'=>∃ c1,j7 c1 = some r ∧ Keep [] w27 w' ∧ Sx w [] nov [.own v3 118 4 x2.length (x2.flatMap Ej.enc),.own v12 118 4 x8.length (x8.flatMap Ej.enc),.blk b1 [iV Bx] 3] [(5,.pointer (some ⟨b1,0,none⟩)),(13,v12),(14,v3),(18,iV (i3 : Int)),(78,iV (r4.length : Int)),(79,iV (i3 : Int)),(101,bV c1)] 122 a w') ?_ ?_
      ·rcases Bool.eq_false_or_eq_true (decide (0 < (i3 : Int))) with hb5 | hb5
       ·replace h:=Rz h hb5
        refine Fx S rfl rfl rfl rfl hb5 (He S (Rm (S.tm rfl)) rfl fun a S=>Fx S rfl rfl rfl rfl hb5 (He S (Rm (S.tm rfl)) rfl fun a S=>Fx S rfl rfl rfl rfl hb5 ?_))
        obtain ⟨hc3,h⟩:=Jc h
        obtain ⟨b10,hg2,hr6⟩:=Hy (a:=a) (x:=.tmp 85) (y:=.tmp 86) (ty:=0) Tk Ej.enc_ok S (i:=1) rfl (Es hc3).1 (Es hc3).2 (S.tm rfl) (S.tm rfl)
        refine He S (hr6 _) rfl ?_;clear S;intro a S
        clear hr6
        refine Fx S rfl rfl rfl rfl hb5 (He S (Gb AX (S.tm rfl)) rfl fun a S=>Fx S rfl rfl rfl rfl hb5 (He S (Hw isAgg3 (off:=((i3 : Int).toNat) * 4) (o:=2) (S.tm rfl) (Up Ej.enc_ok S (i:=1) rfl hg2 (Es hc3).1) rfl) rfl fun a S=>Fx S rfl rfl rfl rfl hb5 (He S (Mg isAgg3 (S.tm rfl) (S.cell (i:=2) rfl rfl)) rfl fun a S=>Fx S rfl rfl rfl rfl hb5 ?_)))
        obtain ⟨hc4,h⟩:=Jc h
        refine He S (FD (S.tm rfl) (S.tm rfl) (Wg hc4)) rfl fun a S=>Fx S rfl rfl rfl rfl hb5 (He S (Rm (S.tm rfl)) rfl fun a S=>Fx S rfl rfl rfl rfl hb5 (He S (Rm (S.tm rfl)) rfl fun a S=>Fx S rfl rfl rfl rfl hb5 (He S (Jt (S.tm rfl) rfl) rfl fun a S=>Fx S rfl rfl rfl rfl hb5 ?_)))
        obtain ⟨hc5,h⟩:=Jc h
        obtain ⟨b11,hg3,hr7⟩:=Hy (a:=a) (x:=.tmp 92) (y:=.tmp 94) (ty:=0) Tk Ej.enc_ok S (i:=1) rfl (Es hc5).1 (Es hc5).2 (S.tm rfl) (S.tm rfl)
        refine He S (hr7 _) rfl ?_;clear S;intro a S
        clear hr7
        refine Fx S rfl rfl rfl rfl hb5 (He S (Gb AX (S.tm rfl)) rfl fun a S=>Fx S rfl rfl rfl rfl hb5 (He S (Hw isAgg3 (off:=((W ((i3 : Int) - 1)).toNat) * 4) (o:=2) (S.tm rfl) (Up Ej.enc_ok S (i:=1) rfl hg3 (Es hc5).1) rfl) rfl fun a S=>Fx S rfl rfl rfl rfl hb5 (He S (Mg isAgg3 (S.tm rfl) (S.cell (i:=2) rfl rfl)) rfl fun a S=>Fx S rfl rfl rfl rfl hb5 ?_)))
        obtain ⟨hc6,h⟩:=Jc h
        exact He S (FD (S.tm rfl) (S.tm rfl) (Wg hc6)) rfl fun a S=>Fx S rfl rfl rfl rfl hb5 (He S (Jn (S.tm rfl) (S.tm rfl)) rfl fun a S=>Gv S rfl (Ii hb5 (S.tm rfl) (S.tm rfl)) rfl fun a S=>Jb (⟨_,h,Keep.refl _ _,S.nf [true,true,true] rfl (subR rfl)⟩))
       ·replace h:=Sa h hb5
        iterate 16 (refine Qo S rfl rfl rfl rfl (Ka hb5) rfl ?_ rfl;clear S;intro a S)
        exact Gv S rfl (Ij true hb5 (S.tm rfl) rfl) rfl fun a S=>Jb (⟨_,h,Keep.refl _ _,S.nf [true,true,true] rfl (subR rfl)⟩)
      clear S h;rintro a w28 ⟨c1,h,hk19,S⟩;rw [hj7] at h;clear hj7 j7
      refine Jb ?_
      replace S:=S.k7 5 13 14 18 78 79 101 rfl
      refine Tn ?_
      obtain ⟨j8,hj8,h⟩:=Fk h
      refine Fa (fun a w'=>∃ x10 : List Ej,j8 x10 = some r ∧ Sx w [] nov [.own v3 118 4 x2.length (x2.flatMap Ej.enc),.own v12 118 4 x10.length (x10.flatMap Ej.enc),.blk b1 [iV Bx] 3] [(5,.pointer (some ⟨b1,0,none⟩)),(13,v12),(14,v3),(78,iV (r4.length : Int)),(79,iV (i3 : Int))] 122 a w') ?_ ?_
      ·refine Fc h (S.tm rfl) (fun hb6 h=>?_) (fun hb6 h=>?_)
       ·refine Fg ?_
        iterate 4 (refine Vm S rfl rfl ?_;clear S;intro a S)
        refine Vq S Jt rfl rfl rfl ?_;clear S;intro a S
        obtain ⟨hc7,h⟩:=Jc h
        obtain ⟨b12,hg4,hr8⟩:=Hy (a:=a) (x:=.tmp 104) (y:=.tmp 106) (ty:=0) Tk Ej.enc_ok S (i:=1) rfl (Es hc7).1 (Es hc7).2 (S.tm rfl) (S.tm rfl)
        refine lv S (hr8 _) rfl ?_;clear S;intro a S
        clear hr8
        refine Vf DE S rfl rfl fun a S=>lv S (Hw isAgg3 (off:=((W ((i3 : Int) - 1)).toNat) * 4) (o:=1) (S.tm rfl) (Up Ej.enc_ok S (i:=1) rfl hg4 (Es hc7).1) rfl) rfl ?_;clear S;intro a S
        obtain ⟨hc8,h⟩:=Jc h
        obtain ⟨b13,hg5,hr9⟩:=Hy (a:=a) (x:=.tmp 102) (y:=.tmp 103) (ty:=0) Tk Ej.enc_ok S (i:=1) rfl (Es hc8).1 (Es hc8).2 (S.tm rfl) (S.tm rfl)
        refine lv S (hr9 _) rfl ?_;clear S;intro a S
        clear hr9
        refine Vf DE S rfl rfl fun a S=>Qn (c:=1) (j:=(i3 : Int).toNat) (Ej.mk ((nth x8 (i3 : Int)).Who) ((nth x8 (W ((i3 : Int) - 1))).Rank) ((nth x8 (i3 : Int)).Time) ((nth x8 (i3 : Int)).Fault)) Ej.enc_ok S (S.tm rfl) (S.tm rfl) (i:=1) rfl hg5 (Es hc8).1 sizeOf3 (vs:=[iV ((nth x8 (W ((i3 : Int) - 1))).Rank)]) rfl rfl rfl rfl rfl ?_;clear S;intro w31 hk21 S
        refine Ld ?_
        replace S:=(S.nl [.own v3 118 4 x2.length (x2.flatMap Ej.enc),.own v12 118 4 (x8.set ((i3 : Int).toNat) (Ej.mk ((nth x8 (i3 : Int)).Who) ((nth x8 (W ((i3 : Int) - 1))).Rank) ((nth x8 (i3 : Int)).Time) ((nth x8 (i3 : Int)).Fault))).length ((x8.set ((i3 : Int).toNat) (Ej.mk ((nth x8 (i3 : Int)).Who) ((nth x8 (W ((i3 : Int) - 1))).Rank) ((nth x8 (i3 : Int)).Time) ((nth x8 (i3 : Int)).Fault))).flatMap Ej.enc),.blk b1 [iV Bx] 3] [true,true,true] rfl).k5 5 13 14 78 79 rfl
        exact Tn (⟨(x8.set ((i3 : Int).toNat) (Ej.mk ((nth x8 (i3 : Int)).Who) ((nth x8 (W ((i3 : Int) - 1))).Rank) ((nth x8 (i3 : Int)).Time) ((nth x8 (i3 : Int)).Fault))),h,S.nf [true,true,true] rfl (subR rfl)⟩)
       ·refine Fg ?_
        iterate 3 (refine Vm S rfl rfl ?_;clear S;intro a S)
        refine Vq S Gw rfl rfl rfl ?_;clear S;intro a S
        obtain ⟨hc9,h⟩:=Jc h
        obtain ⟨b14,hg6,hr10⟩:=Hy (a:=a) (x:=.tmp 112) (y:=.tmp 113) (ty:=0) Tk Ej.enc_ok S (i:=1) rfl (Es hc9).1 (Es hc9).2 (S.tm rfl) (S.tm rfl)
        refine lv S (hr10 _) rfl ?_;clear S;intro a S
        clear hr10
        refine Vf DE S rfl rfl fun a S=>Qn (c:=1) (j:=(i3 : Int).toNat) (Ej.mk ((nth x8 (i3 : Int)).Who) (W ((i3 : Int) + 1)) ((nth x8 (i3 : Int)).Time) ((nth x8 (i3 : Int)).Fault)) Ej.enc_ok S (S.tm rfl) (S.tm rfl) (i:=1) rfl hg6 (Es hc9).1 sizeOf3 (vs:=[iV (W ((i3 : Int) + 1))]) rfl rfl rfl rfl rfl ?_;clear S;intro w33 hk23 S
        exact Dl (⟨(x8.set ((i3 : Int).toNat) (Ej.mk ((nth x8 (i3 : Int)).Who) (W ((i3 : Int) + 1)) ((nth x8 (i3 : Int)).Time) ((nth x8 (i3 : Int)).Fault))),h,S.nf [true,true,true] rfl (subR rfl)⟩)
      clear S h;rintro a w29 ⟨x10,h,S⟩;rw [hj8] at h;clear hj8 j8
      exact Im (Tn (⟨x10,h,S.nf [true,true,true] rfl (subR rfl)⟩))
     clear S h;rintro a w26 ⟨x9,h,S⟩;rw [hj6] at h;clear hj6 j6
     exact Tn (Fg (Vq S Gw rfl rfl rfl fun a S=>Vm S rfl rfl fun a S=>Dl (⟨ys3,⟨i3 + 1,x9,v12,⟨_,(hd3).trans (List.append_cons _ _ _),by simp [hi3]⟩,h,S.nf [true,true,true] rfl ⟨rfl,rfl,rfl,rfl,(congrArg (fun z=>some (Value.int .i64 z)) (Iw hd3 hi3 hm3)),trivial⟩⟩,Nat.lt_succ_self _⟩)))
   clear S h;rintro a w25 ⟨x8,v12,h,S⟩;rw [hj5] at h;clear hj5 j5
   refine Tn (Fr (Vm S rfl rfl fun a S=>Vm S rfl rfl ?_));clear S;intro a S
   obtain ⟨hc10,h⟩:=Jc h
   refine HE (Y:=[]) Tk Ej.enc_ok S (S.tm rfl) (i:=1) rfl (S.tm rfl) (AP Ej.enc_ok S (i:=0) rfl (fun _ _ h=>by cases h)) rfl rfl (by have:=Nx hc10;omega) rfl ?_;clear S;intro v13 a w34 hk24 S
   refine Va S rfl rfl fun a S=>Vk S rfl rfl fun a S=>Dl (wp_ret ?_)
   obtain rfl:=Option.some.inj h
   exact Nz S results124 rfl rfl ⟨_,rfl,(Uf S (i:=1) rfl rfl)⟩
theorem LM (w : World) (Ab : Value) (Ad : List Kq) (Ae : Slc (view w []) 2 Ab (Ad.map Kq.enc)) (Cf : Value) (Cg : List Jm) (Cq : List Uk) (Cj : Slc (view w []) 3 Cf (Cq.map Uk.enc)) (Ck : Lp (Xa (view w [])) Cg Cq) (r : (List Ej) × Int) (h : Yc Ad Cg = some r) :
    Calls prog 88 [Ab,Cf].toArray w (Ret w [] fun τ v _=>∃ u1 : Value,v = .tuple #[u1,iV r.2] ∧ Ve τ 118 4 u1 r.1.length (r.1.flatMap Ej.enc)):=by
 refine Fe func88 rfl ntmps88 rfl fun a S=>?_
 unfold Yc at h
 replace S:=S.k2 0 1 rfl
 refine Fr (Vk S rfl rfl fun a S=>Vk S rfl rfl fun a S=>Dz (Vm S rfl rfl fun a S=>Vm S rfl rfl ?_));clear S;intro a S
 obtain ⟨r1,hr1,h⟩:=Ga h
 have hz1:=S.keep.size
 refine Er S (fun _=>Ei (vs:=[Ab,Cf,iV 1]) ⟨(S.tm rfl),(S.tm rfl),rfl,trivial⟩ call124) (LL _ Ab Ad (Ae.mono (S.le_arg Ez)) Cf Cg Cq (Cj.mono (S.le_arg Ez)) (JX (S.le_arg Ez) Ck) 1 _ hr1) rfl ?_;clear S;intro v1 a w1 hv1 hk1 hn1 S
 obtain ⟨u1,rfl,ho1⟩:=hv1
 obtain ⟨φ1,hl1,hm1,S⟩:=S.see' hn1 hz1
 have hs1:=ho1.mono hm1
 refine Vq S Ia rfl rfl rfl fun a S=>Vq S Ia rfl rfl rfl fun a S=>Va S rfl rfl fun a S=>Va S rfl rfl fun a S=>Dl (wp_ret ?_)
 obtain rfl:=Option.some.inj h
 exact Nz S results88 rfl rfl ⟨_,rfl,((hs1).mono S.le_newer)⟩
end Go.Proofs.YtjofndbcioknfaaGreatDoor
