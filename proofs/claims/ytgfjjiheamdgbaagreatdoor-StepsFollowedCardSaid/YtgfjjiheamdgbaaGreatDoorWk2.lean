/- Each Go function computes its plain twin,by program. -/
import Derived.Test.YtgfjjiheamdgbaaGreatDoorWk1
namespace Go.Proofs.YtgfjjiheamdgbaaGreatDoor
open Go
open Go.Proofs.Tryz
theorem Ku (w : World) (Ae : ByteArray) (r : Bool) (h : Jt Ae = some r) :
    Calls prog 51 [sV Ae].toArray w (Ret w [] fun _ v _=>v = bV r):=by
 refine Fe func51 rfl ntmps51 rfl fun a S=>?_
 unfold Jt at h
 replace S:=S.k1 0 rfl
 refine Fr (Vk S rfl rfl fun a S=>Dz (Vm S rfl rfl fun a S=>Vu S (Qx underlying9) rfl rfl fun a S=>Vq S Td rfl rfl rfl fun a S=>Vm S rfl rfl ?_));clear S;intro a S
 refine Gi 4 (fun a w'=>Keep [] w w' ∧ Sx w [] nov [] [(0,sV Ae),(10,bV ((decide (1 ≤ (Ae.size : Int))) && (decide ((Ae.size : Int) ≤ 40))))] 26 a w') ?_ ?_
 ·rcases Bool.eq_false_or_eq_true (decide (1 ≤ (Ae.size : Int))) with hb1 | hb1
  ·exact Cq S rfl rfl rfl hb1 (Vm S rfl rfl fun a S=>Cq S rfl rfl rfl hb1 (Vu S (Qx underlying9) rfl rfl fun a S=>Cq S rfl rfl rfl hb1 (Vq S Sb rfl rfl rfl fun a S=>lv S (Gb hb1 (S.tm rfl) (S.tm rfl)) rfl fun a S=>Dl (⟨Keep.refl _ _,S.nf [] rfl (subR rfl)⟩))))
  ·iterate 3 (refine Fl S rfl rfl rfl (Hq hb1) rfl ?_ rfl;clear S;intro a S)
   exact lv S (Gc (decide ((Ae.size : Int) ≤ 40)) hb1 (S.tm rfl) rfl) rfl fun a S=>Dl (⟨Keep.refl _ _,S.nf [] rfl (subR rfl)⟩)
 clear S;rintro a w1 ⟨hk1,S⟩
 refine Vm S rfl rfl ?_;clear S;intro a S
 obtain ⟨j1,hj1,h⟩:=Dt h
 refine Gi 4 (fun a w'=>∃ c1,j1 c1 = some r ∧ Keep [] w1 w' ∧ Sx w [] nov [] [(0,sV Ae),(15,bV c1)] 26 a w') ?_ ?_
 ·rcases Bool.eq_false_or_eq_true ((decide (1 ≤ (Ae.size : Int))) && (decide ((Ae.size : Int) ≤ 40))) with hb2 | hb2
  ·replace h:=Mu h hb2
   refine Cq S rfl rfl rfl hb2 (Vm S rfl rfl fun a S=>Cq S rfl rfl rfl hb2 ?_)
   obtain ⟨hc1,h⟩:=Gz h
   exact lv S (Te underlying9 (S.tm rfl) rfl hc1) rfl fun a S=>Cq S rfl rfl rfl hb2 (Vq S Td rfl rfl rfl fun a S=>lv S (Gb hb2 (S.tm rfl) (S.tm rfl)) rfl fun a S=>Dl (⟨_,h,Keep.refl _ _,S.nf [] rfl (subR rfl)⟩))
  ·replace h:=Mv h hb2
   iterate 3 (refine Fl S rfl rfl rfl (Hq hb2) rfl ?_ rfl;clear S;intro a S)
   exact Vq S (Gc true hb2) rfl rfl rfl fun a S=>Dl (⟨_,h,Keep.refl _ _,S.nf [] rfl (subR rfl)⟩)
 clear S h;rintro a w2 ⟨c1,h,hk2,S⟩;rw [hj1] at h;clear hj1 j1
 refine Vm S rfl rfl ?_;clear S;intro a S
 obtain ⟨j2,hj2,h⟩:=Dt h
 refine Gi 4 (fun a w'=>∃ c2,j2 c2 = some r ∧ Keep [] w2 w' ∧ Sx w [] nov [] [(0,sV Ae),(20,bV c2)] 26 a w') ?_ ?_
 ·rcases Bool.eq_false_or_eq_true c1 with hb3 | hb3
  ·replace h:=Mu h hb3
   refine Cq S rfl rfl rfl hb3 (Vm S rfl rfl fun a S=>Cq S rfl rfl rfl hb3 ?_)
   obtain ⟨hc2,h⟩:=Gz h
   exact lv S (Te underlying9 (S.tm rfl) rfl hc2) rfl fun a S=>Cq S rfl rfl rfl hb3 (Vq S Sb rfl rfl rfl fun a S=>lv S (Gb hb3 (S.tm rfl) (S.tm rfl)) rfl fun a S=>Dl (⟨_,h,Keep.refl _ _,S.nf [] rfl (subR rfl)⟩))
  ·replace h:=Mv h hb3
   iterate 3 (refine Fl S rfl rfl rfl (Hq hb3) rfl ?_ rfl;clear S;intro a S)
   exact Vq S (Gc true hb3) rfl rfl rfl fun a S=>Dl (⟨_,h,Keep.refl _ _,S.nf [] rfl (subR rfl)⟩)
 clear S h;rintro a w3 ⟨c2,h,hk3,S⟩;rw [hj2] at h;clear hj2 j2
 refine Vm S rfl rfl ?_;clear S;intro a S
 obtain ⟨j3,hj3,h⟩:=Dt h
 refine Gi 4 (fun a w'=>∃ c3,j3 c3 = some r ∧ Keep [] w3 w' ∧ Sx w [] nov [] [(25,bV c3)] 26 a w') ?_ ?_
 ·rcases Bool.eq_false_or_eq_true c2 with hb4 | hb4
  ·replace h:=Mu h hb4
   refine Cq S rfl rfl rfl hb4 (Vm S rfl rfl fun a S=>Cq S rfl rfl rfl hb4 ?_)
   obtain ⟨r1,hr1,h⟩:=Eh h
   refine Cy S (fun _=>Ck (vs:=[sV Ae,sV Ez]) ⟨(S.tm rfl),rfl,trivial⟩ call64) (Vr _ Ae Ez _ hr1) rfl ?_;clear S;intro v1 a w5 hv1 hk4 hn1 S
   subst hv1
   exact Cq S rfl rfl rfl hb4 (Vq S Vw rfl rfl rfl fun a S=>lv S (Gb hb4 (S.tm rfl) (S.tm rfl)) rfl fun a S=>Dl (⟨_,h,hk4,S.nf [] rfl ⟨rfl,trivial⟩⟩))
  ·replace h:=Mv h hb4
   iterate 3 (refine Fl S rfl rfl rfl (Hq hb4) rfl ?_ rfl;clear S;intro a S)
   exact Vq S (Gc true hb4) rfl rfl rfl fun a S=>Dl (⟨_,h,Keep.refl _ _,S.nf [] rfl ⟨rfl,trivial⟩⟩)
 clear S h;rintro a w4 ⟨c3,h,hk5,S⟩;rw [hj3] at h;clear hj3 j3
 refine Va S rfl rfl fun a S=>Dl (wp_ret ?_)
 obtain rfl:=Option.some.inj h
 exact Dx S results51 rfl rfl
theorem Uv (w : World) (Ar : Int) (r : Bool) (h : Lz Ar = r) :
    Calls prog 67 [iV Ar].toArray w (Ret w [] fun _ v _=>v = bV r):=by
 refine Fe func67 rfl ntmps67 rfl fun a S=>?_
 unfold Lz at h
 replace S:=S.k1 0 rfl
 refine Fr (Vk S rfl rfl fun a S=>Dz (Vm S rfl rfl fun a S=>Cy S (fun _=>Ck (vs:=[iV Ar,iV 1,iV 360000]) ⟨(S.tm rfl),rfl,rfl,trivial⟩ call66) (Nc _ Ar 1 360000 _ rfl) rfl ?_));clear S;intro v1 a w1 hv1 hk1 hn1 S
 subst hv1
 refine Va S rfl rfl fun a S=>Dl (wp_ret ?_)
 subst h
 exact Dx S results67 rfl rfl
theorem Pd (w : World) (Aq : An) (r : Int) (h : Hl Aq = some r) :
    Calls prog 54 [.agg (An.enc Aq).toArray].toArray w (Ret w [] fun _ v _=>v = iV r):=by
 refine Fe func54 rfl ntmps54 rfl fun a S=>?_
 unfold Hl at h
 replace S:=S.k1 0 rfl
 refine Fr (Oh S (S.tm rfl) (cs:=(An.enc Aq)) rfl rfl ?_);clear S;intro a w1 b1 hz1 hk1 S
 refine Vk S rfl rfl fun a S=>Dl (Fs ?_)
 obtain ⟨j1,hj1,h⟩:=Dt h
 refine Dj (fun a w'=>j1 = some r ∧ Sx w [] nov [] [] 64 a w') ?_ ?_
 ·refine wp_block (Fr (Vf Lj S rfl rfl fun a S=>Vl isAgg3 0 S rfl rfl rfl rfl fun a S=>Cy S (fun _=>Ck (vs:=[iV Aq.At]) ⟨(S.tm rfl),trivial⟩ call41) (Pz _ Aq.At _ rfl) rfl ?_));clear S;intro v1 a w3 hv1 hk2 hn1 S
  subst hv1
  refine Vu S Ih rfl rfl fun a S=>Va S rfl rfl fun a S=>Dl (Fc h (S.tm rfl) (fun hb1 h=>?_) (fun hb1 h=>?_))
  ·refine Fr (Vk S rfl rfl fun a S=>Dl (wp_ret (Fa (Cn (Cn ?_)))))
   obtain rfl:=Option.some.inj h
   exact Dx S results54 rfl rfl
  ·refine Fr (Vf Jq S rfl rfl fun a S=>Vl isAgg3 0 S rfl rfl rfl rfl fun a S=>Cy S (fun _=>Ck (vs:=[iV Aq.Kind,iV 1,iV 3]) ⟨(S.tm rfl),rfl,rfl,trivial⟩ call66) (Nc _ Aq.Kind 1 3 _ rfl) rfl ?_);clear S;intro v2 a w4 hv2 hk3 hn2 S
   subst hv2
   refine Vu S Ih rfl rfl fun a S=>Va S rfl rfl fun a S=>Dl (Fc h (S.tm rfl) (fun hb2 h=>?_) (fun hb2 h=>?_))
   ·refine Fr (Vk S rfl rfl fun a S=>Dl (wp_ret (Fa (Cn (Cn ?_)))))
    obtain rfl:=Option.some.inj h
    exact Dx S results54 rfl rfl
   ·refine Fr (Vf Iw S rfl rfl fun a S=>Vl isAgg9 0 S rfl rfl rfl rfl ?_);clear S;intro a S
    obtain ⟨r1,hr1,h⟩:=Eh h
    refine Cy S (fun _=>Ck (vs:=[sV Aq.Id]) ⟨(S.tm rfl),trivial⟩ call51) (Ku _ Aq.Id _ hr1) rfl ?_;clear S;intro v3 a w5 hv3 hk4 hn3 S
    subst hv3
    refine Vu S Ih rfl rfl fun a S=>Va S rfl rfl fun a S=>Ld ?_
    replace S:=(S.nl [.blk b1 (An.enc Aq) 35] [true] rfl).k2 1 13 rfl
    refine Tn (Fc h (S.tm rfl) (fun hb3 h=>?_) (fun hb3 h=>?_))
    ·refine Fr (Vk S rfl rfl fun a S=>Dl (wp_ret (Fa (Cn (Cn ?_)))))
     obtain rfl:=Option.some.inj h
     exact Dx S results54 rfl rfl
    ·refine Fr (Vf Jq S rfl rfl fun a S=>Vl isAgg3 0 S rfl rfl rfl rfl fun a S=>Vq S Kg rfl rfl rfl fun a S=>Va S rfl rfl fun a S=>Dl ?_)
     obtain ⟨j2,hj2,h⟩:=Dt h
     refine Dj (fun a w'=>j2 = some r ∧ Sx w [] nov [] [] 64 a w') ?_ ?_
     ·refine Fc h (S.tm rfl) (fun hb4 h=>?_) (fun hb4 h=>?_)
      ·refine Fr (lv S (Ey isAgg35 sizeOf35 (off:=0) (o:=0) (part:=(An.enc Aq)) rfl rfl (S.tm rfl) (S.cellsAt (i:=0) rfl)) rfl fun a S=>Vf Lj S rfl rfl fun a S=>Vl isAgg3 0 S rfl rfl rfl rfl fun a S=>Vf Jq S rfl rfl fun a S=>Vl isAgg3 0 S rfl rfl rfl rfl fun a S=>Vf Iw S rfl rfl fun a S=>Vl isAgg9 0 S rfl rfl rfl rfl fun a S=>lv S (Rb Zy (pv:=[(0,iV Aq.At),(1,iV Aq.Kind),(2,sV Aq.Id)]) ⟨rfl,(S.tm rfl),rfl,(S.tm rfl),rfl,(S.tm rfl),trivial⟩ (cs:=[iV Aq.At,iV Aq.Kind,sV Aq.Id,sV Cj,sV Cj,sV Cj,iV 0,iV 0]) (by kernel_rfl)) rfl fun a S=>lv S (Ql (m:=Aq) (n:=(An.mk Aq.At Aq.Kind Aq.Id Cj Cj Cj 0 0)) (S.tm rfl) (S.tm rfl)) rfl ?_);clear S;intro a S
       refine Ld ?_
       replace S:=S.n0.k1 30 rfl
       refine Tn (Fc h (S.tm rfl) (fun hb5 h=>?_) (fun hb5 h=>?_))
       ·refine Fr (Vk S rfl rfl fun a S=>Dl (wp_ret (Cn (Fa (Cn (Cn ?_))))))
        obtain rfl:=Option.some.inj h
        exact Dx S results54 rfl rfl
       ·exact wp_skip (Tn (⟨h,S.nf [] rfl trivial⟩))
      ·refine Fr (Vf St S rfl rfl fun a S=>Vl isAgg9 0 S rfl rfl rfl rfl ?_);clear S;intro a S
       obtain ⟨r2,hr2,h⟩:=Eh h
       refine Cy S (fun _=>Ck (vs:=[sV Aq.Who]) ⟨(S.tm rfl),trivial⟩ call51) (Ku _ Aq.Who _ hr2) rfl ?_;clear S;intro v4 a w7 hv4 hk5 hn4 S
       subst hv4
       refine Vu S Ih rfl rfl fun a S=>Vm S rfl rfl ?_;clear S;intro a S
       obtain ⟨j3,hj3,h⟩:=Dt h
       refine Gi 5 (fun a w'=>∃ c1,j3 c1 = some r ∧ Keep [] w7 w' ∧ Sx w [] nov [.blk b1 (An.enc Aq) 35] [(1,.pointer (some ⟨b1,0,none⟩)),(41,bV c1)] 64 a w') ?_ ?_
       ·rcases Bool.eq_false_or_eq_true (!r2) with hb6 | hb6
        ·replace h:=Mu h hb6
         iterate 4 (refine Fl S rfl rfl rfl (Pc hb6) rfl ?_ rfl;clear S;intro a S)
         exact Vq S (Ml true hb6) rfl rfl rfl fun a S=>Dl (⟨_,h,Keep.refl _ _,S.nf [true] rfl (subR rfl)⟩)
        ·replace h:=Mv h hb6
         refine Cq S rfl rfl rfl hb6 (Vf Rd S rfl rfl fun a S=>Cq S rfl rfl rfl hb6 (Vl isAgg9 0 S rfl rfl rfl rfl fun a S=>Cq S rfl rfl rfl hb6 ?_))
         obtain ⟨r3,hr3,h⟩:=Eh h
         refine Cy S (fun _=>Ck (vs:=[sV Aq.Race]) ⟨(S.tm rfl),trivial⟩ call51) (Ku _ Aq.Race _ hr3) rfl ?_;clear S;intro v5 a w9 hv5 hk6 hn5 S
         subst hv5
         exact Cq S rfl rfl rfl hb6 (Vu S Ih rfl rfl fun a S=>lv S (Mm hb6 (S.tm rfl) (S.tm rfl)) rfl fun a S=>Dl (⟨_,h,hk6,S.nf [true] rfl (subR rfl)⟩))
       clear S h;rintro a w8 ⟨c1,h,hk7,S⟩;rw [hj3] at h;clear hj3 j3
       refine Vm S rfl rfl ?_;clear S;intro a S
       obtain ⟨j4,hj4,h⟩:=Dt h
       refine Gi 10 (fun a w'=>∃ c2,j4 c2 = some r ∧ Keep [] w8 w' ∧ Sx w [] nov [.blk b1 (An.enc Aq) 35] [(1,.pointer (some ⟨b1,0,none⟩)),(52,bV c2)] 64 a w') ?_ ?_
       ·rcases Bool.eq_false_or_eq_true c1 with hb7 | hb7
        ·replace h:=Mu h hb7
         iterate 4 (refine Fl S rfl rfl rfl (Pc hb7) rfl ?_ rfl;clear S;intro a S)
         iterate 4 (refine Yr S rfl rfl rfl rfl ?_;clear S;intro a S)
         exact Fl S rfl rfl rfl (Pc hb7) rfl (fun a S=>Vq S (Ml true hb7) rfl rfl rfl fun a S=>Dl (⟨_,h,Keep.refl _ _,S.nf [true] rfl (subR rfl)⟩)) rfl
        ·replace h:=Mv h hb7
         refine Cq S rfl rfl rfl hb7 (Vf Ph S rfl rfl fun a S=>Cq S rfl rfl rfl hb7 (Vl isAgg9 0 S rfl rfl rfl rfl fun a S=>Cq S rfl rfl rfl hb7 (Vq S Vx rfl rfl rfl fun a S=>Cq S rfl rfl rfl hb7 (Vm S rfl rfl ?_))));clear S;intro a S
         obtain ⟨j5,hj5,h⟩:=Dt h
         refine Gi 5 (fun a w'=>∃ c3,j5 c3 = some r ∧ Keep [] w8 w' ∧ Sx w [] nov [.blk b1 (An.enc Aq) 35] [(1,.pointer (some ⟨b1,0,none⟩)),(42,bV c1),(51,bV c3)] 64 a w') ?_ ?_
         ·rcases Bool.eq_false_or_eq_true (!decide (Aq.Club = Cj)) with hb8 | hb8
          ·replace h:=Mu h hb8
           refine Cq S rfl rfl rfl hb8 (Vf Ph S rfl rfl fun a S=>Cq S rfl rfl rfl hb8 (Vl isAgg9 0 S rfl rfl rfl rfl fun a S=>Cq S rfl rfl rfl hb8 ?_))
           obtain ⟨r4,hr4,h⟩:=Eh h
           refine Cy S (fun _=>Ck (vs:=[sV Aq.Club]) ⟨(S.tm rfl),trivial⟩ call51) (Ku _ Aq.Club _ hr4) rfl ?_;clear S;intro v6 a w12 hv6 hk8 hn6 S
           subst hv6
           exact Cq S rfl rfl rfl hb8 (Vu S Ih rfl rfl fun a S=>Cq S rfl rfl rfl hb7 (lv S (Gb hb8 (S.tm rfl) (S.tm rfl)) rfl fun a S=>Dl (⟨_,h,hk8,S.nf [true] rfl (subR rfl)⟩)))
          ·replace h:=Mv h hb8
           iterate 4 (refine Fl S rfl rfl rfl (Hq hb8) rfl ?_ rfl;clear S;intro a S)
           exact Cq S rfl rfl rfl hb7 (Vq S (Gc true hb8) rfl rfl rfl fun a S=>Dl (⟨_,h,Keep.refl _ _,S.nf [true] rfl (subR rfl)⟩))
         clear S h;rintro a w11 ⟨c3,h,hk9,S⟩;rw [hj5] at h;clear hj5 j5
         exact lv S (Mm hb7 (S.tm rfl) (S.tm rfl)) rfl fun a S=>Dl (⟨_,h,hk9,S.nf [true] rfl (subR rfl)⟩)
       clear S h;rintro a w10 ⟨c2,h,hk10,S⟩;rw [hj4] at h;clear hj4 j4
       refine Va S rfl rfl fun a S=>Dl (Fc h (S.tm rfl) (fun hb9 h=>?_) (fun hb9 h=>?_))
       ·refine Fr (Vk S rfl rfl fun a S=>Dl (wp_ret (Cn (Fa (Cn (Cn ?_))))))
        obtain rfl:=Option.some.inj h
        exact Dx S results54 rfl rfl
       ·refine Fr (Vf Wc S rfl rfl fun a S=>Vl isAgg3 0 S rfl rfl rfl rfl fun a S=>Cy S (fun _=>Ck (vs:=[iV Aq.Age,iV 0,iV 150]) ⟨(S.tm rfl),rfl,rfl,trivial⟩ call66) (Nc _ Aq.Age 0 150 _ rfl) rfl ?_);clear S;intro v7 a w13 hv7 hk11 hn7 S
        subst hv7
        refine Vu S Ih rfl rfl fun a S=>Vm S rfl rfl fun a S=>Gi 5 (fun a w'=>Keep [] w13 w' ∧ Sx w [] nov [.blk b1 (An.enc Aq) 35] [(63,bV ((!(Jm Aq.Age 0 150)) || (!(Lz Aq.Time))))] 64 a w') ?_ ?_
        ·rcases Bool.eq_false_or_eq_true (!(Jm Aq.Age 0 150)) with hb10 | hb10
         ·iterate 4 (refine Fl S rfl rfl rfl (Pc hb10) rfl ?_ rfl;clear S;intro a S)
          exact lv S (Ml (!(Lz Aq.Time)) hb10 (S.tm rfl) rfl) rfl fun a S=>Dl (⟨Keep.refl _ _,S.nf [true] rfl ⟨rfl,trivial⟩⟩)
         ·refine Cq S rfl rfl rfl hb10 (Vf Uc S rfl rfl fun a S=>Cq S rfl rfl rfl hb10 (Vl isAgg3 0 S rfl rfl rfl rfl fun a S=>Cq S rfl rfl rfl hb10 (Cy S (fun _=>Ck (vs:=[iV Aq.Time]) ⟨(S.tm rfl),trivial⟩ call67) (Uv _ Aq.Time _ rfl) rfl ?_)));clear S;intro v8 a w15 hv8 hk12 hn8 S
          subst hv8
          exact Cq S rfl rfl rfl hb10 (Vu S Ih rfl rfl fun a S=>lv S (Mm hb10 (S.tm rfl) (S.tm rfl)) rfl fun a S=>Dl (⟨hk12,S.nf [true] rfl ⟨rfl,trivial⟩⟩))
        clear S;rintro a w14 ⟨hk13,S⟩
        refine Va S rfl rfl fun a S=>Dl (Fc h (S.tm rfl) (fun hb11 h=>?_) (fun hb11 h=>?_))
        ·refine Fr (Vk S rfl rfl fun a S=>Dl (wp_ret (Cn (Fa (Cn (Cn ?_))))))
         obtain rfl:=Option.some.inj h
         exact Dx S results54 rfl rfl
        ·exact wp_skip (Tn (⟨h,S.nf [false] rfl trivial⟩))
     clear S h;rintro a w6 ⟨h,S⟩;rw [hj2] at h;clear hj2 j2
     exact Hj (Tn (⟨h,S.nf [] rfl trivial⟩))
 clear S h;rintro a w2 ⟨h,S⟩;rw [hj1] at h;clear hj1 j1
 refine Tn (Fr (Vk S rfl rfl fun a S=>Dl (wp_ret ?_)))
 obtain rfl:=Option.some.inj h
 exact Dx S results54 rfl rfl
theorem Ln (w : World) (Aq : Int) (r : Bool) (h : Kk Aq = r) :
    Calls prog 73 [iV Aq].toArray w (Ret w [] fun _ v _=>v = bV r):=by
 refine Fe func73 rfl ntmps73 rfl fun a S=>?_
 unfold Kk at h
 replace S:=S.k1 0 rfl
 refine Fr (Vk S rfl rfl fun a S=>Dz (Vm S rfl rfl fun a S=>Vm S rfl rfl fun a S=>Vb S Kg rfl rfl rfl fun a S=>Va S rfl rfl ?_));clear S;intro a S
 refine Dl (wp_ret ?_)
 subst h
 exact Dx S results73 rfl rfl
theorem Ks (w : World) (Aq : Int) (Ce : Int) (r : Int) (h : El Aq Ce = r) :
    Calls prog 60 [iV Aq,iV Ce].toArray w (Ret w [] fun _ v _=>v = iV r):=by
 refine Fe func60 rfl ntmps60 rfl fun a S=>?_
 unfold El at h
 replace S:=S.k2 0 1 rfl
 refine Fr (Vk S rfl rfl fun a S=>Dz (Vm S rfl rfl fun a S=>Cy S (fun _=>Ck (vs:=[iV Aq]) ⟨(S.tm rfl),trivial⟩ call73) (Ln _ Aq _ rfl) rfl ?_));clear S;intro v1 a w1 hv1 hk1 hn1 S
 subst hv1
 refine Va S rfl rfl fun a S=>Dz (Vm S rfl rfl fun a S=>Cy S (fun _=>Ck (vs:=[iV Ce]) ⟨(S.tm rfl),trivial⟩ call73) (Ln _ Ce _ rfl) rfl ?_);clear S;intro v2 a w2 hv2 hk2 hn2 S
 subst hv2
 refine Va S rfl rfl fun a S=>Dl (Fs (Fr (Vm S rfl rfl fun a S=>Dl (Fc h (S.tm rfl) (fun hb1 h=>?_) (fun hb1 h=>?_)))))
 ·refine Fs (Fr (Vm S rfl rfl fun a S=>Dl (Fc h (S.tm rfl) (fun hb2 h=>?_) (fun hb2 h=>?_))))
  ·refine Fr (Vk S rfl rfl fun a S=>Dl (wp_ret (Cn (Cn ?_))))
   subst h
   exact Dx S results60 rfl rfl
  ·refine wp_skip (Tn (Fr (Vk S rfl rfl fun a S=>Dl (wp_ret (Cn ?_)))))
   subst h
   exact Dx S results60 rfl rfl
 ·refine wp_skip (Tn (Fs (Fr (Vm S rfl rfl fun a S=>Dl (Fc h (S.tm rfl) (fun hb3 h=>?_) (fun hb3 h=>?_))))))
  ·refine Fr (Vk S rfl rfl fun a S=>Dl (wp_ret (Cn ?_)))
   subst h
   exact Dx S results60 rfl rfl
  ·refine wp_skip (Tn (Fs (Fr (Vm S rfl rfl fun a S=>Vm S rfl rfl fun a S=>Vb S Ee rfl rfl rfl fun a S=>Dl (Fc h (S.tm rfl) (fun hb4 h=>?_) (fun hb4 h=>?_))))))
   ·refine Fr (Vk S rfl rfl fun a S=>Dl (wp_ret (Cn ?_)))
    subst h
    exact Dx S results60 rfl rfl
   ·refine wp_skip (Tn (Fs (Fr (Vm S rfl rfl fun a S=>Vm S rfl rfl fun a S=>Vb S Ix rfl rfl rfl fun a S=>Ld ?_))))
    replace S:=S.k1 19 rfl
    refine Tn (Fc h (S.tm rfl) (fun hb5 h=>?_) (fun hb5 h=>?_))
    ·refine Fr (Vk S rfl rfl fun a S=>Dl (wp_ret (Cn ?_)))
     subst h
     exact Dx S results60 rfl rfl
    ·refine wp_skip (Tn (Fr (Vk S rfl rfl fun a S=>Dl (wp_ret ?_))))
     subst h
     exact Dx S results60 rfl rfl
theorem Qa (w : World) (By : Value) (Bv : List Int) (Bw : Slc (view w []) 1 By (Bv.map eInt)) (r : Int) (h : Nh Bv = r) :
    Calls prog 59 [By].toArray w (Ret w [] fun _ v _=>v = iV r):=by
 refine Fe func59 rfl ntmps59 rfl fun a S=>?_
 unfold Nh at h
 replace S:=S.k1 0 rfl
 refine Fr (Vk S rfl rfl fun a S=>Dz (Vk S rfl rfl fun a S=>Dl (Fs ?_)))
 refine Fr (Vm S rfl rfl fun a S=>lv S (En Oj (S.tm rfl) (Eg Bw)) rfl fun a S=>lv S (Rm rfl) rfl fun a S=>Dl ?_)
 replace S:=S.k4 3 6 7 8 rfl
 obtain ⟨j1,hj1,h⟩:=Dt h
 refine Dj (fun a w'=>j1 = r ∧ Sx w [] nov [] [(3,iV 0)] 18 a w') ?_ ?_
 ·refine wp_block (Gt (fun (ys1 : List Int) a w'=>∃ i1 : Nat,(∃ dn,Bv = dn ++ ys1 ∧ dn.length = i1) ∧ Ii j1 ys1 i1 = r ∧ Sx w [] nov [] [(3,iV 0),(6,By),(7,iV (Bv.length : Int)),(8,iV (i1 : Int))] 18 a w') List.length Bv ⟨0,⟨[],rfl,rfl⟩,h,S.nf [] rfl (subR rfl)⟩ ?_)
  clear S h;rintro ys1 a w1 ⟨i1,⟨dn,hd1,hi1⟩,h,S⟩
  cases ys1 with
  | nil =>
   rw [Ii.eq_1] at h
   refine Fr (Vb S Ee rfl rfl rfl fun a S=>Ld ?_)
   replace S:=S.k5 3 6 7 8 9 rfl
   exact Tn (Fs (wp_cond_false ((S.tm rfl).trans (congrArg Value.bool (Ig hd1 hi1))) (wp_exit (Eb (Eb (Gj (Tn (⟨h,S.nf [] rfl ⟨rfl,trivial⟩⟩))))))))
  | cons y1 ys1 =>
   rw [Ii.eq_2] at h
   refine Fr (Vb S Ee rfl rfl rfl fun a S=>Ld ?_)
   replace S:=S.k5 3 6 7 8 9 rfl
   refine Tn (Fs (wp_cond_true ((S.tm rfl).trans (congrArg Value.bool (Hh hd1 hi1))) (wp_skip (Tn (Fs (wp_block (Fs (Fg ?_))))))))
   obtain ⟨b1,o1,hm1,hr1⟩:=Ev (a:=a) (x:=.tmp 6) (y:=.tmp 8) (ty:=0) Oj Bw (Ie hd1 hi1) rfl (S.tm rfl) (S.tm rfl)
   refine lv S (hr1 _) rfl ?_;clear S;intro a S
   clear hr1
   refine lv S (Hr isAgg3 (off:=o1) (o:=0) (S.tm rfl) (hm1.at S.emb0) rfl) rfl fun a S=>Va S rfl rfl fun a S=>Dz (Vm S rfl rfl fun a S=>Vm S rfl rfl fun a S=>Vb S Kg rfl rfl rfl fun a S=>Dl ?_)
   refine Fc h (S.tm rfl) (fun hb1 h=>?_) (fun hb1 h=>?_)
   ·refine Fr (Vm S rfl rfl fun a S=>Va S rfl rfl fun a S=>Dl (wp_ret (Fa (Cn (Cn (Fa ?_))))))
    refine Cn (Cn ?_)
    subst h
    exact Dx S results59 rfl rfl
   ·exact wp_skip (Hj (Tn (Fg (Vq S Ew rfl rfl rfl fun a S=>Vm S rfl rfl fun a S=>Dl (⟨ys1,⟨i1 + 1,⟨_,(hd1).trans (List.append_cons _ _ _),by simp [hi1]⟩,h,S.nf [] rfl ⟨rfl,rfl,rfl,(congrArg (fun z=>some (Value.int .i64 z)) (Hi hd1 hi1 (Jk Bw))),trivial⟩⟩,Nat.lt_succ_self _⟩)))))
 clear S h;rintro a w2 ⟨h,S⟩;rw [hj1] at h;clear hj1 j1
 refine Tn (Fr (Vm S rfl rfl fun a S=>Va S rfl rfl fun a S=>Dl (wp_ret ?_)))
 subst h
 exact Dx S results59 rfl rfl
set_option maxRecDepth 20000 in
theorem record_compare_ok (w : World) (Ag : An) (Ah : An) (r : Int) (h : Cs Ag Ah = r) :
    Calls prog 38 [.agg (An.enc Ag).toArray,.agg (An.enc Ah).toArray].toArray w (Ret w [] fun _ v _=>v = iV r):=by
 refine Fe func38 rfl ntmps38 rfl fun a S=>?_
 unfold Cs at h
 replace S:=S.k2 0 1 rfl
 refine Fr (Oh S (S.tm rfl) (cs:=(An.enc Ag)) rfl rfl ?_);clear S;intro a w1 b1 hz1 hk1 S
 refine Oh S (S.tm rfl) (cs:=(An.enc Ah)) rfl rfl ?_;clear S;intro a w2 b2 hz2 hk2 S
 refine Vk S rfl rfl fun a S=>Dl (Fs (Fi [] ([]) Tryz.mixed S rfl (by kernel_rfl) ?_));clear S;intro w8 hk8 hsel S
 refine Co 0 S hsel rfl rfl rfl (by kernel_rfl) (by kernel_rfl) rfl (fun _ hw=>(Fx Lj (S.tm rfl))) fun a S=>Co 1 S hsel rfl rfl rfl (by kernel_rfl) (by kernel_rfl) rfl (fun _ hw=>(Hr isAgg3 (off:=0) (o:=0) (S.tm rfl) ((S.blk_mem (i:=1) (cells:=(An.enc Ag)) (b:=b1) (T:=35) rfl (Ge (e':=.blk b1 (An.enc Ag) 35))).kept hw) rfl)) fun a S=>Co 2 S hsel rfl rfl rfl (by kernel_rfl) (by kernel_rfl) rfl (fun _ hw=>(Fx Lj (S.tm rfl))) fun a S=>Co 3 S hsel rfl rfl rfl (by kernel_rfl) (by kernel_rfl) rfl (fun _ hw=>(Hr isAgg3 (off:=0) (o:=0) (S.tm rfl) ((S.blk_mem (i:=0) (cells:=(An.enc Ah)) (b:=b2) (T:=35) rfl (Ge (e':=.blk b2 (An.enc Ah) 35))).kept hw) rfl)) fun a S=>Co 5 S hsel rfl rfl rfl (by kernel_rfl) (by kernel_rfl) rfl (fun _ hw=>(Fx Iw (S.tm rfl))) fun a S=>Co 6 S hsel rfl rfl rfl (by kernel_rfl) (by kernel_rfl) rfl (fun _ hw=>(Hr isAgg9 (off:=0) (o:=2) (S.tm rfl) ((S.blk_mem (i:=1) (cells:=(An.enc Ag)) (b:=b1) (T:=35) rfl (Ge (e':=.blk b1 (An.enc Ag) 35))).kept hw) rfl)) fun a S=>Co 7 S hsel rfl rfl rfl (by kernel_rfl) (by kernel_rfl) rfl (fun _ hw=>(Fx Iw (S.tm rfl))) fun a S=>Co 8 S hsel rfl rfl rfl (by kernel_rfl) (by kernel_rfl) rfl (fun _ hw=>(Hr isAgg9 (off:=0) (o:=2) (S.tm rfl) ((S.blk_mem (i:=0) (cells:=(An.enc Ah)) (b:=b2) (T:=35) rfl (Ge (e':=.blk b2 (An.enc Ah) 35))).kept hw) rfl)) fun a S=>Co 10 S hsel rfl rfl rfl (by kernel_rfl) (by kernel_rfl) rfl (fun _ hw=>(Fx Jq (S.tm rfl))) fun a S=>Co 11 S hsel rfl rfl rfl (by kernel_rfl) (by kernel_rfl) rfl (fun _ hw=>(Hr isAgg3 (off:=0) (o:=1) (S.tm rfl) ((S.blk_mem (i:=1) (cells:=(An.enc Ag)) (b:=b1) (T:=35) rfl (Ge (e':=.blk b1 (An.enc Ag) 35))).kept hw) rfl)) fun a S=>Co 12 S hsel rfl rfl rfl (by kernel_rfl) (by kernel_rfl) rfl (fun _ hw=>(Fx Jq (S.tm rfl))) ?_;clear S;intro a S
 refine Co 13 S hsel rfl rfl rfl (by kernel_rfl) (by kernel_rfl) rfl (fun _ hw=>(Hr isAgg3 (off:=0) (o:=1) (S.tm rfl) ((S.blk_mem (i:=0) (cells:=(An.enc Ah)) (b:=b2) (T:=35) rfl (Ge (e':=.blk b2 (An.enc Ah) 35))).kept hw) rfl)) fun a S=>Ea 4 (by kernel_rfl) rfl (Cy S (fun _=>Ck (vs:=[iV Ag.At,iV Ah.At]) ⟨(S.tm rfl),(S.tm rfl),trivial⟩ call60) (Ks _ Ag.At Ah.At _ rfl) rfl ?_);clear S;intro v5 a w9 hv5 hk9 hn5 S
 subst hv5
 refine Ld (Ej hk9 (Ea 9 (by kernel_rfl) rfl (Cy S (fun _=>Ck (vs:=[sV Ag.Id,sV Ah.Id]) ⟨(S.tm rfl),(S.tm rfl),trivial⟩ call58) (Lt _ Ag.Id Ah.Id _ rfl) rfl ?_)));clear S;intro v6 a w10 hv6 hk10 hn6 S
 subst hv6
 refine Ld (Ej hk10 (Ea 14 (by kernel_rfl) rfl (Cy S (fun _=>Ck (vs:=[iV Ag.Kind,iV Ah.Kind]) ⟨(S.tm rfl),(S.tm rfl),trivial⟩ call60) (Ks _ Ag.Kind Ah.Kind _ rfl) rfl ?_)));clear S;intro v7 a w11 hv7 hk11 hn7 S
 subst hv7
 refine Ld (Ej hk11 (Ea 15 (by kernel_rfl) rfl (De S underlying22 sizeOf3 zeroValue3 rfl rfl (pv:=[(0,iV (El Ag.At Ah.At)),(1,iV (Gr Ag.Id Ah.Id)),(2,iV (El Ag.Kind Ah.Kind))]) ⟨rfl,(S.tm rfl),rfl,(S.tm rfl),rfl,(S.tm rfl),trivial⟩ (cs:=[iV (El Ag.At Ah.At),iV (Gr Ag.Id Ah.Id),iV (El Ag.Kind Ah.Kind)]) (by kernel_rfl) rfl ?_)));clear S;intro a w12 b4 hz4 hk12 S
 refine Ld (Ej hk12 (Ea 16 (by kernel_rfl) rfl (Cy S (fun _=>Ck (vs:=[.slice (some ⟨b4,0,none⟩) 3 3]) ⟨(S.tm rfl),trivial⟩ call59) (Qa _ (.slice (some ⟨b4,0,none⟩) 3 3) [(El Ag.At Ah.At),(Gr Ag.Id Ah.Id),(El Ag.Kind Ah.Kind)] (Fy Kx S (i:=0) rfl rfl rfl rfl ((Ge (e':=.blk b4 [iV (El Ag.At Ah.At),iV (Gr Ag.Id Ah.Id),iV (El Ag.Kind Ah.Kind)] 3)) _ rfl)) _ rfl) rfl ?_)));clear S;intro v8 a w13 hv8 hk13 hn8 S
 subst hv8
 refine Ld (Ej hk13 (Iy [17] hsel (by kernel_rfl) rfl ?_))
 clear hsel
 refine Fb S rfl (Ra (S.tm rfl)) rfl fun a S=>Ik ?_
 replace S:=S.n0.k1 4 rfl
 refine Tn (wp_ret ?_)
 subst h
 exact Dx S results38 rfl rfl
set_option maxRecDepth 20000 in
theorem Ka (w : World) (Ac : Value) (Al : List An) (Ak : Slc (view w []) 8 Ac (Al.map An.enc)) (r : Int) (h : Ec Al = some r) :
    Calls prog 22 [Ac].toArray w (Ret w [] fun _ v _=>v = iV r):=by
 refine Fe func22 rfl ntmps22 rfl fun a S=>?_
 unfold Ec at h
 replace S:=S.k1 0 rfl
 refine Fr (Vk S rfl rfl fun a S=>Dl (Fs (Fr (Vm S rfl rfl fun a S=>lv S (En Eo (S.tm rfl) (Eg Ak)) rfl fun a S=>Vq S Ix rfl rfl rfl ?_))));clear S;intro a S
 refine Dl (Fc h (S.tm rfl) (fun hb1 h=>?_) (fun hb1 h=>?_))
 ·refine Fr (Vk S rfl rfl fun a S=>Dl (wp_ret (Cn ?_)))
  obtain rfl:=Option.some.inj h
  exact Dx S results22 rfl rfl
 ·refine wp_skip (Tn (Fs (Fr (Vm S rfl rfl fun a S=>lv S (En Eo (S.tm rfl) (Eg Ak)) rfl fun a S=>lv S (Rm rfl) rfl fun a S=>Dl ?_))))
  replace S:=S.k4 0 9 10 11 rfl
  obtain ⟨j1,hj1,h⟩:=Dt h
  refine Dj (fun a w'=>j1 = some r ∧ Sx w [] nov [] [] 34 a w') ?_ ?_
  ·refine wp_block (Gt (fun (ys1 : List An) a w'=>∃ i1 : Nat,(∃ dn,Al = dn ++ ys1 ∧ dn.length = i1) ∧ Er Al j1 ys1 i1 = some r ∧ Sx w [] nov [] [(0,Ac),(9,Ac),(10,iV (Al.length : Int)),(11,iV (i1 : Int))] 34 a w') List.length Al ⟨0,⟨[],rfl,rfl⟩,h,S.nf [] rfl (subR rfl)⟩ ?_)
   clear S h;rintro ys1 a w1 ⟨i1,⟨dn,hd1,hi1⟩,h,S⟩
   cases ys1 with
   | nil =>
    rw [Er.eq_1] at h
    refine Fr (Vb S Ee rfl rfl rfl fun a S=>Ld ?_)
    replace S:=S.k5 0 9 10 11 12 rfl
    exact Tn (Fs (wp_cond_false ((S.tm rfl).trans (congrArg Value.bool (Ig hd1 hi1))) (wp_exit (Eb (Eb (Gj (Tn (⟨h,S.nf [] rfl trivial⟩))))))))
   | cons y1 ys1 =>
    rw [Er.eq_2] at h
    refine Fr (Vb S Ee rfl rfl rfl fun a S=>Ld ?_)
    replace S:=S.k5 0 9 10 11 12 rfl
    refine Tn (Fs (wp_cond_true ((S.tm rfl).trans (congrArg Value.bool (Hh hd1 hi1))) (wp_skip (Tn (Fs (wp_block (Fr (Vm S rfl rfl ?_))))))));clear S;intro a S
    obtain ⟨b1,o1,hm1,hr1⟩:=Ev (a:=a) (x:=.tmp 9) (y:=.tmp 11) (ty:=0) Eo Ak (Ie hd1 hi1) rfl (S.tm rfl) (S.tm rfl)
    refine lv S (hr1 _) rfl ?_;clear S;intro a S
    clear hr1
    refine lv S (Ey isAgg35 sizeOf35 (off:=o1) (o:=0) (part:=(An.enc y1)) rfl rfl (S.tm rfl) (hm1.at S.emb0)) rfl fun a S=>Lq S zeroValue35 (cs:=[iV 0,iV 0,sV Cj,sV Cj,sV Cj,sV Cj,iV 0,iV 0]) rfl rfl ?_;clear S;intro a w3 b2 hz1 hk1 S
    refine Va S rfl rfl fun a S=>Gy S (S.tm rfl) (S.tm rfl) (i:=0) (off:=0) rfl sizeOf35 (vs:=(An.enc y1)) rfl rfl rfl rfl ?_;clear S;intro w4 hk2 S
    refine Dl (Fs (Fr (lv S (Ey isAgg35 sizeOf35 (off:=0) (o:=0) (part:=(An.enc y1)) rfl rfl (S.tm rfl) (S.cellsAt (i:=0) rfl)) rfl ?_)));clear S;intro a S
    obtain ⟨r1,hr2,h⟩:=Eh h
    refine Cy S (fun _=>Ck (vs:=[.agg (An.enc y1).toArray]) ⟨(S.tm rfl),trivial⟩ call54) (Pd _ y1 _ hr2) rfl ?_;clear S;intro v1 a w5 hv1 hk3 hn1 S
    subst hv1
    refine Va S rfl rfl fun a S=>Dz (Vm S rfl rfl fun a S=>Vq S Kg rfl rfl rfl fun a S=>Ld ?_)
    replace S:=(S.nl [.blk b2 (An.enc y1) 35] [true] rfl).k8 0 3 4 5 9 10 11 19 rfl
    refine Tn (Fc h (S.tm rfl) (fun hb2 h=>?_) (fun hb2 h=>?_))
    ·refine Fr (Vm S rfl rfl fun a S=>Va S rfl rfl fun a S=>Dl (wp_ret (Cn (Fa (Cn (Cn ?_))))))
     refine Fa (Cn (Cn ?_))
     obtain rfl:=Option.some.inj h
     exact Dx S results22 rfl rfl
    ·refine wp_skip (Tn (Fs ?_))
     obtain ⟨j2,hj2,h⟩:=Dt h
     refine Dj (fun a w'=>∃ x1 : Bool,j2 x1 = some r ∧ Sx w [] nov [] [(0,Ac),(9,Ac),(10,iV (Al.length : Int)),(11,iV (i1 : Int)),(32,bV x1)] 34 a w') ?_ ?_
     ·rcases Bool.eq_false_or_eq_true (decide (0 < (i1 : Int))) with hb3 | hb3
      ·replace h:=Mu h hb3
       obtain ⟨hc1,h⟩:=Gz h
       refine Fi [] ([]) Tryz.mixed S rfl (by kernel_rfl) ?_;clear S;intro w8 hk5 hsel S
       refine Co 0 S hsel rfl rfl rfl (by kernel_rfl) (by kernel_rfl) rfl (fun _ hw=>(Rm (S.tm rfl))) fun a S=>Co 1 S hsel rfl rfl rfl (by kernel_rfl) (by kernel_rfl) rfl (fun _ hw=>(Ix (S.tm rfl) rfl)) fun a S=>Co 2 S hsel rfl rfl rfl (by kernel_rfl) (by kernel_rfl) rfl (fun _ hw=>(Rm (S.tm rfl))) fun a S=>Et 3 S hsel rfl rfl rfl rfl hb3 rfl rfl (by kernel_rfl) (by kernel_rfl) rfl (fun _ hw=>(Rm (S.tm rfl))) fun a S=>Et 4 S hsel rfl rfl rfl rfl hb3 rfl rfl (by kernel_rfl) (by kernel_rfl) rfl (fun _ hw=>(Rm (S.tm rfl))) fun a S=>Et 5 S hsel rfl rfl rfl rfl hb3 rfl rfl (by kernel_rfl) (by kernel_rfl) rfl (fun _ hw=>(Hs (S.tm rfl) rfl)) ?_;clear S;intro a S
       obtain ⟨b4,o3,hm3,hr4⟩:=Ev (a:=a) (x:=.tmp 24) (y:=.tmp 26) (ty:=0) Eo (Ak.mono (S.le_arg Fp)) (Ct hc1).1 (Ct hc1).2 (S.tm rfl) (S.tm rfl)
       refine Et 6 S hsel rfl rfl rfl rfl hb3 rfl rfl (by kernel_rfl) (by kernel_rfl) rfl (fun _ hw=>hr4 _) ?_;clear S;intro a S
       clear hr4
       refine Et 7 S hsel rfl rfl rfl rfl hb3 rfl rfl (by kernel_rfl) (by kernel_rfl) rfl (fun _ hw=>(Ey isAgg35 sizeOf35 (off:=o3) (o:=0) (part:=(An.enc (nth Al (W ((i1 : Int) - 1))))) rfl rfl (S.tm rfl) (hm3.kept hw))) fun a S=>Et 8 S hsel rfl rfl rfl rfl hb3 rfl rfl (by kernel_rfl) (by kernel_rfl) rfl (fun _ hw=>(Ey isAgg35 sizeOf35 (off:=0) (o:=0) (part:=(An.enc y1)) rfl rfl (S.tm rfl) ((S.blk_mem (i:=0) (cells:=(An.enc y1)) (b:=b2) (T:=35) rfl (Ge (e':=.blk b2 (An.enc y1) 35))).kept hw))) fun a S=>Ea 9 (by kernel_rfl) rfl (Cq S rfl rfl rfl hb3 (Cy S (fun _=>Ck (vs:=[.agg (An.enc (nth Al (W ((i1 : Int) - 1)))).toArray,.agg (An.enc y1).toArray]) ⟨(S.tm rfl),(S.tm rfl),trivial⟩ call38) (record_compare_ok _ (nth Al (W ((i1 : Int) - 1))) y1 _ rfl) rfl ?_));clear S;intro v3 a w9 hv3 hk6 hn3 S
       subst hv3
       refine Ld (Ej hk6 (Iy [10,11] hsel (by kernel_rfl) rfl ?_))
       clear hsel
       refine Ng S rfl rfl rfl rfl hb3 (Oi S (Td (S.tm rfl) rfl) rfl fun a S=>Fb S rfl (Nm hb3 (S.tm rfl) (S.tm rfl)) rfl fun a S=>Ik ?_)
       replace S:=S.n0.k13 0 9 10 11 24 25 26 27 28 29 30 31 32 rfl
       exact Tn (⟨decide (0 ≤ (Cs (nth Al (W ((i1 : Int) - 1))) y1)),h,S.nf [] rfl (subR rfl)⟩)
      ·replace h:=Mv h hb3
       refine Fi [] ([]) Tryz.mixed S rfl (by kernel_rfl) ?_;clear S;intro w10 hk7 hsel S
       refine Iy [0,1,2,3,4,5,6,7,8,9,10,11] hsel (by kernel_rfl) rfl ?_
       clear hsel
       refine Fb S rfl (Rm (S.tm rfl)) rfl fun a S=>Fb S rfl (Ix (S.tm rfl) rfl) rfl fun a S=>Fb S rfl (Rm (S.tm rfl)) rfl ?_;clear S;intro a S
       iterate 8 (refine Tf S rfl rfl rfl rfl (Hq hb3) rfl ?_ rfl;clear S;intro a S)
       refine Fb S rfl (Nn hb3 (S.tm rfl) rfl) rfl fun a S=>Ik ?_
       replace S:=S.n0.k5 0 9 10 11 32 rfl
       exact Tn (⟨false,h,S.nf [] rfl (subR rfl)⟩)
     clear S h;rintro a w6 ⟨x1,h,S⟩;rw [hj2] at h;clear hj2 j2
     refine Tn (Fc h (S.tm rfl) (fun hb4 h=>?_) (fun hb4 h=>?_))
     ·refine Fr (Vk S rfl rfl fun a S=>Dl (wp_ret (Fa (Cn (Cn (Fa (Cn ?_)))))))
      refine Cn ?_
      obtain rfl:=Option.some.inj h
      exact Dx S results22 rfl rfl
     ·exact wp_skip (Hj (Tn (Fg (Vq S Ew rfl rfl rfl fun a S=>Vm S rfl rfl fun a S=>Dl (⟨ys1,⟨i1 + 1,⟨_,(hd1).trans (List.append_cons _ _ _),by simp [hi1]⟩,h,S.nf [] rfl ⟨rfl,rfl,rfl,(congrArg (fun z=>some (Value.int .i64 z)) (Hi hd1 hi1 (Jk Ak))),trivial⟩⟩,Nat.lt_succ_self _⟩)))))
  clear S h;rintro a w2 ⟨h,S⟩;rw [hj1] at h;clear hj1 j1
  refine Tn (Fr (Vk S rfl rfl fun a S=>Dl (wp_ret ?_)))
  obtain rfl:=Option.some.inj h
  exact Dx S results22 rfl rfl
set_option maxRecDepth 20000 in
theorem Lf (w : World) (Az : Value) (Aq : List An) (Cc : Slc (view w []) 8 Az (Aq.map An.enc)) (Au : An) (r : Int × Bool) (h : Fm Aq Au = some r) :
    Calls prog 37 [Az,.agg (An.enc Au).toArray,.func (.func 38) #[] #[]].toArray w (Ret w [] fun _ v _=>v = .tuple #[iV r.1,bV r.2]):=by
 refine Fe func37 rfl ntmps37 rfl fun a S=>?_
 unfold Fm at h
 replace S:=S.k3 0 1 2 rfl
 refine Fr (Oh S (S.tm rfl) (cs:=(An.enc Au)) rfl rfl ?_);clear S;intro a w1 b1 hz1 hk1 S
 refine Vk S rfl rfl fun a S=>Vk S rfl rfl fun a S=>Dz (Vm S rfl rfl fun a S=>lv S (En Eo (S.tm rfl) (Eg Cc)) rfl fun a S=>Va S rfl rfl fun a S=>Dl ?_)
 refine Fr (Vm S rfl rfl fun a S=>Vk S rfl rfl fun a S=>Va S rfl rfl fun a S=>Dl (Fs ?_))
 replace S:=(S.nl [.blk b1 (An.enc Au) 35] [true] rfl).k6 0 2 4 8 9 10 rfl
 obtain ⟨j1,hj1,h⟩:=Dt h
 refine Dj (fun a w'=>∃ x1 : Int,j1 x1 = some r ∧ Sx w [] nov [.blk b1 (An.enc Au) 35] [(0,Az),(2,.func (.func 38) #[] #[]),(4,.pointer (some ⟨b1,0,none⟩)),(8,iV (Aq.length : Int)),(9,iV x1)] 49 a w') ?_ ?_
 ·refine wp_block (Gt (fun (m1 : Nat) a w'=>∃ x1 : Int,∃ x2 : Int,Dh Aq Au j1 m1 x1 x2 = some r ∧ Sx w [] nov [.blk b1 (An.enc Au) 35] [(0,Az),(2,.func (.func 38) #[] #[]),(4,.pointer (some ⟨b1,0,none⟩)),(8,iV (Aq.length : Int)),(9,iV x1),(10,iV x2)] 49 a w') id (((Aq.length : Int) - 0).toNat + 2) ⟨0,(Aq.length : Int),h,S.nf [true] rfl (subR rfl)⟩ ?_)
  clear S h;rintro m1 a w2 ⟨x1,x2,h,S⟩
  cases m1 with
  | zero=>rw [Dh.eq_1] at h;cases h
  | succ m1 =>
   rw [Dh.eq_2] at h
   refine Fs (Fr (Vm S rfl rfl fun a S=>Vm S rfl rfl fun a S=>Vb S Ee rfl rfl rfl fun a S=>Dl (Fc h (S.tm rfl) (fun hb1 h=>?_) (fun hb1 h=>?_))))
   ·refine wp_skip (Tn ?_)
    obtain ⟨j2,hj2,h⟩:=Dt h
    refine Dj (fun a w'=>∃ x3 : Int,∃ x4 : Int,j2 x3 x4 = some r ∧ Sx w [] nov [.blk b1 (An.enc Au) 35] [(0,Az),(2,.func (.func 38) #[] #[]),(4,.pointer (some ⟨b1,0,none⟩)),(8,iV (Aq.length : Int)),(9,iV x3),(10,iV x4)] 49 a w') ?_ ?_
    ·refine wp_block (Fr (Vm S rfl rfl fun a S=>Vm S rfl rfl fun a S=>Vb S Ew rfl rfl rfl fun a S=>Vu S (Ol underlying3 underlying86) rfl rfl fun a S=>lv S (Wh (S.tm rfl) rfl (by decide)) rfl fun a S=>Vu S (Ol underlying86 underlying3) rfl rfl fun a S=>Va S rfl rfl fun a S=>Ld ?_))
     replace S:=S.k7 0 2 4 8 9 10 11 rfl
     refine Tn (Fs ?_)
     obtain ⟨hc1,h⟩:=Gz h
     refine Fi [] ([]) Tryz.mixed S rfl (by kernel_rfl) ?_;clear S;intro w6 hk3 hsel S
     refine Co 0 S hsel rfl rfl rfl (by kernel_rfl) (by kernel_rfl) rfl (fun _ hw=>(Rm (S.tm rfl))) fun a S=>Co 1 S hsel rfl rfl rfl (by kernel_rfl) (by kernel_rfl) rfl (fun _ hw=>(Rm (S.tm rfl))) fun a S=>Co 2 S hsel rfl rfl rfl (by kernel_rfl) (by kernel_rfl) rfl (fun _ hw=>(Rm (S.tm rfl))) ?_;clear S;intro a S
     obtain ⟨b3,o2,hm2,hr2⟩:=Ev (a:=a) (x:=.tmp 25) (y:=.tmp 26) (ty:=0) Eo (Cc.mono (S.le_arg Fp)) (Ct hc1).1 (Ct hc1).2 (S.tm rfl) (S.tm rfl)
     refine Co 3 S hsel rfl rfl rfl (by kernel_rfl) (by kernel_rfl) rfl (fun _ hw=>hr2 _) ?_;clear S;intro a S
     clear hr2
     refine Co 4 S hsel rfl rfl rfl (by kernel_rfl) (by kernel_rfl) rfl (fun _ hw=>(Ey isAgg35 sizeOf35 (off:=o2) (o:=0) (part:=(An.enc (nth Aq (W (Di .u64 (IntKind.wrap .u64 (W (x1 + x2))) 1))))) rfl rfl (S.tm rfl) (hm2.kept hw))) fun a S=>Co 5 S hsel rfl rfl rfl (by kernel_rfl) (by kernel_rfl) rfl (fun _ hw=>(Ey isAgg35 sizeOf35 (off:=0) (o:=0) (part:=(An.enc Au)) rfl rfl (S.tm rfl) ((S.blk_mem (i:=0) (cells:=(An.enc Au)) (b:=b1) (T:=35) rfl (Ge (e':=.blk b1 (An.enc Au) 35))).kept hw))) fun a S=>Ea 6 (by kernel_rfl) rfl (Cy S (fun _=>Nj (cap:=[]) (S.tm rfl) (vs:=[.agg (An.enc (nth Aq (W (Di .u64 (IntKind.wrap .u64 (W (x1 + x2))) 1)))).toArray,.agg (An.enc Au).toArray]) ⟨(S.tm rfl),(S.tm rfl),trivial⟩ call38) (record_compare_ok _ (nth Aq (W (Di .u64 (IntKind.wrap .u64 (W (x1 + x2))) 1))) Au _ rfl) rfl ?_);clear S;intro v2 a w7 hv2 hk4 hn2 S
     subst hv2
     refine Ld (Ej hk4 (Iy [7] hsel (by kernel_rfl) rfl ?_))
     clear hsel
     refine Fb S rfl (Ee (S.tm rfl) rfl) rfl fun a S=>Ik ?_
     replace S:=S.k8 0 2 4 8 9 10 11 31 rfl
     refine Tn ?_
     obtain ⟨j3,hj3,h⟩:=Dt h
     refine Dj (fun a w'=>∃ x5 : Int,∃ x6 : Int,j3 x5 x6 = some r ∧ Sx w [] nov [.blk b1 (An.enc Au) 35] [(0,Az),(2,.func (.func 38) #[] #[]),(4,.pointer (some ⟨b1,0,none⟩)),(8,iV (Aq.length : Int)),(9,iV x5),(10,iV x6)] 49 a w') ?_ ?_
     ·refine Fc h (S.tm rfl) (fun hb2 h=>?_) (fun hb2 h=>?_)
      ·exact Fg (Vm S rfl rfl fun a S=>Vq S Ew rfl rfl rfl fun a S=>Va S rfl rfl fun a S=>Dl (⟨W ((W (Di .u64 (IntKind.wrap .u64 (W (x1 + x2))) 1)) + 1),x2,h,S.nf [true] rfl (subR rfl)⟩))
      ·exact Fg (Vm S rfl rfl fun a S=>Va S rfl rfl fun a S=>Dl (⟨x1,W (Di .u64 (IntKind.wrap .u64 (W (x1 + x2))) 1),h,S.nf [true] rfl (subR rfl)⟩))
     clear S h;rintro a w8 ⟨x5,x6,h,S⟩;rw [hj3] at h;clear hj3 j3
     exact Hj (Tn (⟨x5,x6,h,S.nf [true] rfl (subR rfl)⟩))
    clear S h;rintro a w4 ⟨x3,x4,h,S⟩;rw [hj2] at h;clear hj2 j2
    exact Tn (⟨m1,⟨x3,x4,h,S.nf [true] rfl ⟨rfl,rfl,rfl,rfl,rfl,rfl,trivial⟩⟩,Nat.lt_succ_self _⟩)
   ·exact wp_exit (Eb (Eb (Gj (Tn (⟨x1,h,S.nf [true] rfl (subR rfl)⟩)))))
 clear S h;rintro a w3 ⟨x1,h,S⟩;rw [hj1] at h;clear hj1 j1
 refine Tn (Fs ?_)
 obtain ⟨j4,hj4,h⟩:=Dt h
 refine Dj (fun a w'=>∃ x7 : Bool,j4 x7 = some r ∧ Sx w [] nov [] [(6,iV x1),(7,bV x7)] 49 a w') ?_ ?_
 ·rcases Bool.eq_false_or_eq_true (decide (x1 < (Aq.length : Int))) with hb3 | hb3
  ·replace h:=Mu h hb3
   obtain ⟨hc2,h⟩:=Gz h
   refine Fi [] ([]) Tryz.mixed S rfl (by kernel_rfl) ?_;clear S;intro w11 hk6 hsel S
   refine Co 0 S hsel rfl rfl rfl (by kernel_rfl) (by kernel_rfl) rfl (fun _ hw=>(Rm (S.tm rfl))) fun a S=>Co 1 S hsel rfl rfl rfl (by kernel_rfl) (by kernel_rfl) rfl (fun _ hw=>(Rm (S.tm rfl))) fun a S=>Co 2 S hsel rfl rfl rfl (by kernel_rfl) (by kernel_rfl) rfl (fun _ hw=>(Rm (S.tm rfl))) fun a S=>Co 3 S hsel rfl rfl rfl (by kernel_rfl) (by kernel_rfl) rfl (fun _ hw=>(Ee (S.tm rfl) (S.tm rfl))) fun a S=>Co 4 S hsel rfl rfl rfl (by kernel_rfl) (by kernel_rfl) rfl (fun _ hw=>(Rm (S.tm rfl))) fun a S=>Et 5 S hsel rfl rfl rfl rfl hb3 rfl rfl (by kernel_rfl) (by kernel_rfl) rfl (fun _ hw=>(Rm (S.tm rfl))) fun a S=>Et 6 S hsel rfl rfl rfl rfl hb3 rfl rfl (by kernel_rfl) (by kernel_rfl) rfl (fun _ hw=>(Rm (S.tm rfl))) fun a S=>Et 7 S hsel rfl rfl rfl rfl hb3 rfl rfl (by kernel_rfl) (by kernel_rfl) rfl (fun _ hw=>(Rm (S.tm rfl))) ?_;clear S;intro a S
   obtain ⟨b5,o4,hm4,hr4⟩:=Ev (a:=a) (x:=.tmp 41) (y:=.tmp 42) (ty:=0) Eo (Cc.mono (S.le_arg Fp)) (Ct hc2).1 (Ct hc2).2 (S.tm rfl) (S.tm rfl)
   refine Et 8 S hsel rfl rfl rfl rfl hb3 rfl rfl (by kernel_rfl) (by kernel_rfl) rfl (fun _ hw=>hr4 _) ?_;clear S;intro a S
   clear hr4
   refine Et 9 S hsel rfl rfl rfl rfl hb3 rfl rfl (by kernel_rfl) (by kernel_rfl) rfl (fun _ hw=>(Ey isAgg35 sizeOf35 (off:=o4) (o:=0) (part:=(An.enc (nth Aq x1))) rfl rfl (S.tm rfl) (hm4.kept hw))) fun a S=>Et 10 S hsel rfl rfl rfl rfl hb3 rfl rfl (by kernel_rfl) (by kernel_rfl) rfl (fun _ hw=>(Ey isAgg35 sizeOf35 (off:=0) (o:=0) (part:=(An.enc Au)) rfl rfl (S.tm rfl) ((S.blk_mem (i:=0) (cells:=(An.enc Au)) (b:=b1) (T:=35) rfl (Ge (e':=.blk b1 (An.enc Au) 35))).kept hw))) fun a S=>Ea 11 (by kernel_rfl) rfl (Cq S rfl rfl rfl hb3 (Cy S (fun _=>Nj (cap:=[]) (S.tm rfl) (vs:=[.agg (An.enc (nth Aq x1)).toArray,.agg (An.enc Au).toArray]) ⟨(S.tm rfl),(S.tm rfl),trivial⟩ call38) (record_compare_ok _ (nth Aq x1) Au _ rfl) rfl ?_));clear S;intro v4 a w12 hv4 hk7 hn4 S
   subst hv4
   refine Ld (Ej hk7 (Iy [12,13,14,15] hsel (by kernel_rfl) rfl ?_))
   clear hsel
   refine Ng S rfl rfl rfl rfl hb3 (Oi S (Ip (S.tm rfl) rfl) rfl fun a S=>Fb S rfl (Nm hb3 (S.tm rfl) (S.tm rfl)) rfl fun a S=>Fb S rfl (Ra (S.tm rfl)) rfl fun a S=>Fb S rfl (Ra (S.tm rfl)) rfl fun a S=>Ik ?_)
   replace S:=S.n0.k2 6 7 rfl
   exact Tn (⟨decide ((Cs (nth Aq x1) Au) = 0),h,S.nf [] rfl (subR rfl)⟩)
  ·replace h:=Mv h hb3
   refine Fi [] ([]) Tryz.mixed S rfl (by kernel_rfl) ?_;clear S;intro w13 hk8 hsel S
   refine Iy [0,1,2,3,4,5,6,7,8,9,10,11,12,13,14,15] hsel (by kernel_rfl) rfl ?_
   clear hsel
   iterate 3 (refine Fb S rfl (Rm (S.tm rfl)) rfl ?_;clear S;intro a S)
   refine Fb S rfl (Ee (S.tm rfl) (S.tm rfl)) rfl fun a S=>Fb S rfl (Rm (S.tm rfl)) rfl ?_;clear S;intro a S
   iterate 8 (refine Tf S rfl rfl rfl rfl (Hq hb3) rfl ?_ rfl;clear S;intro a S)
   refine Fb S rfl (Nn hb3 (S.tm rfl) rfl) rfl fun a S=>Fb S rfl (Ra (S.tm rfl)) rfl fun a S=>Fb S rfl (Ra (S.tm rfl)) rfl fun a S=>Ik ?_
   replace S:=S.n0.k2 6 7 rfl
   exact Tn (⟨false,h,S.nf [] rfl (subR rfl)⟩)
 clear S h;rintro a w9 ⟨x7,h,S⟩;rw [hj4] at h;clear hj4 j4
 refine Tn (wp_ret ?_)
 obtain rfl:=Option.some.inj h
 exact Md S results37 rfl rfl rfl
theorem Mk (w : World) (Az : Value) (Aq : List An) (Ca : (LEnt.own Az 35 8 Aq.length (Aq.flatMap An.enc)).holds w) (r : (List An)) (h : Hp Aq = some r) :
    Calls prog 39 [Az,.func (.func 38) #[] #[]].toArray w (Ret w (Az.ownBlock.toList) fun _ v w'=>(LEnt.own Az 35 8 r.length (r.flatMap An.enc)).holds w' ∧ v = .tuple #[]):=by
  unfold Hp at h
  split at h
  · rename_i hc
    obtain rfl:=Option.some.inj h
    exact ED (enc:=An.enc) Tryz.laysg39 isAgg35 sizeOf35 An.enc_ok (enters_of func38 (by kernel_rfl) rfl) (fun w x y=>D.record_compare_ok w x y _ rfl) hc.1 hc.2 Ca
  · cases h
set_option maxRecDepth 20000 in
theorem Vs (w : World) (Ay : Value) (Ag : List An) (Be : Slc (view w []) 8 Ay (Ag.map An.enc)) (Ba : Value) (Ah : List An) (Bf : Slc (view w []) 8 Ba (Ah.map An.enc)) (r : (List An) × Int) (h : Jn Ag Ah = some r) :
    Calls prog 11 [Ay,Ba].toArray w (Ret w [] fun τ v _=>∃ u1 : Value,v = .tuple #[u1,iV r.2] ∧ Le τ 35 8 u1 r.1.length (r.1.flatMap An.enc)):=by
 refine Fe func11 rfl ntmps11 rfl fun a S=>?_
 unfold Jn at h
 replace S:=S.k2 0 1 rfl
 refine Fr (Vk S rfl rfl fun a S=>Vk S rfl rfl fun a S=>Dl (Fs (Fr (Vm S rfl rfl ?_))));clear S;intro a S
 obtain ⟨r1,hr1,h⟩:=Eh h
 refine Cy S (fun _=>Ck (vs:=[Ay]) ⟨(S.tm rfl),trivial⟩ call22) (Ka _ Ay Ag (Be.mono (S.le_arg Fp)) _ hr1) rfl ?_;clear S;intro v1 a w1 hv1 hk1 hn1 S
 subst hv1
 refine Va S rfl rfl fun a S=>Dz (Vm S rfl rfl fun a S=>Vq S Kg rfl rfl rfl fun a S=>Dl (Fc h (S.tm rfl) (fun hb1 h=>?_) (fun hb1 h=>?_)))
 ·refine Fr (Vm S rfl rfl fun a S=>Vk S rfl rfl fun a S=>Va S rfl rfl fun a S=>Dl (wp_ret (Cn ?_)))
  obtain rfl:=Option.some.inj h
  exact Md S results11 rfl rfl ⟨_,rfl,(Jv _ _ _)⟩
 ·refine wp_skip (Tn (Fs (Fr (Vm S rfl rfl ?_))));clear S;intro a S
  obtain ⟨r2,hr2,h⟩:=Eh h
  refine Cy S (fun _=>Ck (vs:=[Ba]) ⟨(S.tm rfl),trivial⟩ call22) (Ka _ Ba Ah (Bf.mono (S.le_arg Fp)) _ hr2) rfl ?_;clear S;intro v2 a w2 hv2 hk2 hn2 S
  subst hv2
  refine Va S rfl rfl fun a S=>Dz (Vm S rfl rfl fun a S=>Vq S Kg rfl rfl rfl fun a S=>Dl (Fc h (S.tm rfl) (fun hb2 h=>?_) (fun hb2 h=>?_)))
  ·refine Fr (Vm S rfl rfl fun a S=>Vk S rfl rfl fun a S=>Va S rfl rfl fun a S=>Ld ?_)
   replace S:=S.k2 4 5 rfl
   refine Tn (wp_ret (Cn ?_))
   obtain rfl:=Option.some.inj h
   exact Md S results11 rfl rfl ⟨_,rfl,(Jv _ _ _)⟩
  ·refine wp_skip (Tn (Fr (Vm S rfl rfl ?_)));clear S;intro a S
   obtain ⟨r3,hr3,h⟩:=Eh h
   have hz1:=S.keep.size
   refine Cy S (fun _=>Ck (vs:=[Ay]) ⟨(S.tm rfl),trivial⟩ call9) (Ou _ Ay Ag (Be.mono (S.le_arg Fp)) _ hr3) rfl ?_;clear S;intro v3 a w3 hv3 hk3 hn3 S
   replace S:=S.take hn3 hz1 hv3
   refine Va S rfl rfl fun a S=>Ld ?_
   replace S:=(S.nl [.own v3 35 8 r3.length (r3.flatMap An.enc)] [true] rfl).k3 0 1 8 rfl
   refine Tn (Fs (Fr (Vm S rfl rfl fun a S=>lv S (En Eo (S.tm rfl) (Eg Bf)) rfl fun a S=>lv S (Rm rfl) rfl fun a S=>Dl ?_)))
   replace S:=S.k5 0 8 25 26 27 rfl
   obtain ⟨j1,hj1,h⟩:=Dt h
   refine Dj (fun a w'=>∃ x1 : List An,∃ v4 : Value,j1 x1 = some r ∧ Sx w [] nov [.own v4 35 8 x1.length (x1.flatMap An.enc)] [(8,v4)] 56 a w') ?_ ?_
   ·refine wp_block (Gt (fun (ys1 : List An) a w'=>∃ i1 : Nat,∃ x1 : List An,∃ v4 : Value,(∃ dn,Ah = dn ++ ys1 ∧ dn.length = i1) ∧ Hb Ag j1 ys1 i1 x1 = some r ∧ Sx w [] nov [.own v4 35 8 x1.length (x1.flatMap An.enc)] [(0,Ay),(8,v4),(25,Ba),(26,iV (Ah.length : Int)),(27,iV (i1 : Int))] 56 a w') List.length Ah ⟨0,r3,v3,⟨[],rfl,rfl⟩,h,S.nf [true] rfl (subR rfl)⟩ ?_)
    clear S h;rintro ys1 a w4 ⟨i1,x1,v4,⟨dn,hd1,hi1⟩,h,S⟩
    cases ys1 with
    | nil =>
     rw [Hb.eq_1] at h
     refine Fr (Vb S Ee rfl rfl rfl fun a S=>Ld ?_)
     replace S:=S.k6 0 8 25 26 27 28 rfl
     exact Tn (Fs (wp_cond_false ((S.tm rfl).trans (congrArg Value.bool (Ig hd1 hi1))) (wp_exit (Eb (Eb (Gj (Tn (⟨x1,v4,h,S.nf [true] rfl ⟨rfl,trivial⟩⟩))))))))
    | cons y1 ys1 =>
     rw [Hb.eq_2] at h
     refine Fr (Vb S Ee rfl rfl rfl fun a S=>Ld ?_)
     replace S:=S.k6 0 8 25 26 27 28 rfl
     refine Tn (Fs (wp_cond_true ((S.tm rfl).trans (congrArg Value.bool (Hh hd1 hi1))) (wp_skip (Tn (Fs ?_)))))
     obtain ⟨j2,hj2,h⟩:=Dt h
     refine Dj (fun a w'=>∃ x2 : List An,∃ v5 : Value,j2 x2 = some r ∧ Sx w [] nov [.own v5 35 8 x2.length (x2.flatMap An.enc)] [(0,Ay),(8,v5),(25,Ba),(26,iV (Ah.length : Int)),(27,iV (i1 : Int))] 56 a w') ?_ ?_
     ·refine wp_block (Fs (Fg ?_))
      obtain ⟨b1,o1,hm1,hr4⟩:=Ev (a:=a) (x:=.tmp 25) (y:=.tmp 27) (ty:=0) Eo Bf (Ie hd1 hi1) rfl (S.tm rfl) (S.tm rfl)
      refine lv S (hr4 _) rfl ?_;clear S;intro a S
      clear hr4
      refine lv S (Ey isAgg35 sizeOf35 (off:=o1) (o:=0) (part:=(An.enc y1)) rfl rfl (S.tm rfl) (hm1.at S.emb0)) rfl fun a S=>Lq S zeroValue35 (cs:=[iV 0,iV 0,sV Cj,sV Cj,sV Cj,sV Cj,iV 0,iV 0]) rfl rfl ?_;clear S;intro a w7 b2 hz2 hk4 S
      refine Gy S (S.tm rfl) (S.tm rfl) (i:=0) (off:=0) rfl sizeOf35 (vs:=(An.enc y1)) rfl rfl rfl rfl ?_;clear S;intro w8 hk5 S
      refine Dz (Vm S rfl rfl fun a S=>lv S (Ey isAgg35 sizeOf35 (off:=0) (o:=0) (part:=(An.enc y1)) rfl rfl (S.tm rfl) (S.cellsAt (i:=0) rfl)) rfl ?_);clear S;intro a S
      obtain ⟨r4,hr5,h⟩:=Eh h
      refine Cy S (fun _=>Ck (vs:=[Ay,.agg (An.enc y1).toArray,.func (.func 38) #[] #[]]) ⟨(S.tm rfl),(S.tm rfl),rfl,trivial⟩ call37) (Lf _ Ay Ag (Be.mono (S.le_arg Fp)) y1 _ hr5) rfl ?_;clear S;intro v6 a w9 hv4 hk6 hn4 S
      subst hv4
      refine Vm S rfl rfl fun a S=>Vq S Iq rfl rfl rfl fun a S=>Vq S Iq rfl rfl rfl fun a S=>Va S rfl rfl fun a S=>Va S rfl rfl fun a S=>Ld ?_
      replace S:=(S.nl [.blk b2 (An.enc y1) 35,.own v4 35 8 x1.length (x1.flatMap An.enc)] [true,true] rfl).k8 0 8 10 11 12 25 26 27 rfl
      refine Tn (Fr (Vm S rfl rfl fun a S=>Vu S Ih rfl rfl fun a S=>Dl ?_))
      obtain ⟨j3,hj3,h⟩:=Dt h
      refine Dj (fun a w'=>∃ x3 : List An,∃ v7 : Value,j3 x3 = some r ∧ Sx w [] nov [.own v7 35 8 x3.length (x3.flatMap An.enc)] [(0,Ay),(8,v7),(25,Ba),(26,iV (Ah.length : Int)),(27,iV (i1 : Int))] 56 a w') ?_ ?_
      ·refine Fc h (S.tm rfl) (fun hb3 h=>?_) (fun hb3 h=>?_)
       ·refine Fg (Vm S rfl rfl fun a S=>lv S (Ey isAgg35 sizeOf35 (off:=0) (o:=0) (part:=(An.enc y1)) rfl rfl (S.tm rfl) (S.cellsAt (i:=0) rfl)) rfl fun a S=>De S underlying28 sizeOf35 zeroValue35 rfl rfl (pv:=[(0,.agg (An.enc y1).toArray)]) ⟨rfl,(S.tm rfl),trivial⟩ (cs:=[iV y1.At,iV y1.Kind,sV y1.Id,sV y1.Who,sV y1.Club,sV y1.Race,iV y1.Age,iV y1.Time]) (by kernel_rfl) rfl ?_);clear S;intro a w11 b3 hz3 hk7 S
        obtain ⟨hc1,h⟩:=Gz h
        refine Kw Eo An.enc_ok S (S.tm rfl) (i:=2) rfl (S.tm rfl) (j:=0) rfl (ys:=[y1]) rfl rfl rfl rfl (by have:=Lh hc1;omega) rfl ?_;clear S;intro v8 a w12 hk8 S
        exact Va S rfl rfl fun a S=>Dl (⟨(x1 ++ [y1]),v8,h,S.nf [false,false,true] rfl (subR rfl)⟩)
       ·refine Fs (Fi [] ([]) Tryz.mixed S rfl (by kernel_rfl) ?_);clear S;intro w13 hk9 hsel S
        refine Iy [0,1,2,3,4,5] hsel (by kernel_rfl) rfl ?_
        clear hsel
        refine Fb S rfl (Rm (S.tm rfl)) rfl fun a S=>Fb S rfl (Rm (S.tm rfl)) rfl ?_;clear S;intro a S
        obtain ⟨hc2,h⟩:=Gz h
        obtain ⟨b4,o2,hm2,hr6⟩:=Ev (a:=a) (x:=.tmp 43) (y:=.tmp 44) (ty:=0) Eo Be (Ct hc2).1 (Ct hc2).2 (S.tm rfl) (S.tm rfl)
        refine Fb S rfl (hr6 _) rfl ?_;clear S;intro a S
        clear hr6
        refine Fb S rfl (Ey isAgg35 sizeOf35 (off:=o2) (o:=0) (part:=(An.enc (nth Ag r4.1))) rfl rfl (S.tm rfl) (hm2.at S.emb0)) rfl fun a S=>Fb S rfl (Ey isAgg35 sizeOf35 (off:=0) (o:=0) (part:=(An.enc y1)) rfl rfl (S.tm rfl) (S.cellsAt (i:=0) rfl)) rfl fun a S=>Fb S rfl (Ql (m:=(nth Ag r4.1)) (n:=y1) (S.tm rfl) (S.tm rfl)) rfl fun a S=>Ik ?_
        replace S:=S.d0.k6 0 8 25 26 27 48 rfl
        refine Tn (Fc h (S.tm rfl) (fun hb4 h=>?_) (fun hb4 h=>?_))
        ·refine Fr (Vk S rfl rfl fun a S=>Vk S rfl rfl fun a S=>Dl (wp_ret (Cn (Fa ?_))))
         iterate 3 (refine Cn ?_)
         refine Fa (Cn (Cn ?_))
         obtain rfl:=Option.some.inj h
         exact Md S results11 rfl rfl ⟨_,rfl,(Jv _ _ _)⟩
        ·exact wp_skip (Tn (⟨x1,v4,h,S.nf [true] rfl (subR rfl)⟩))
      clear S h;rintro a w10 ⟨x3,v7,h,S⟩;rw [hj3] at h;clear hj3 j3
      exact Hj (Tn (⟨x3,v7,h,S.nf [true] rfl (subR rfl)⟩))
     clear S h;rintro a w6 ⟨x2,v5,h,S⟩;rw [hj2] at h;clear hj2 j2
     exact Tn (Fg (Vq S Ew rfl rfl rfl fun a S=>Vm S rfl rfl fun a S=>Dl (⟨ys1,⟨i1 + 1,x2,v5,⟨_,(hd1).trans (List.append_cons _ _ _),by simp [hi1]⟩,h,S.nf [true] rfl ⟨rfl,rfl,rfl,rfl,(congrArg (fun z=>some (Value.int .i64 z)) (Hi hd1 hi1 (Jk Bf))),trivial⟩⟩,Nat.lt_succ_self _⟩)))
   clear S h;rintro a w5 ⟨x1,v4,h,S⟩;rw [hj1] at h;clear hj1 j1
   refine Tn (Fs (Fr (Vm S rfl rfl fun a S=>lv S (En Eo (S.tm rfl) (Ns (S.own_at (i:=0) rfl))) rfl fun a S=>Vq S Ix rfl rfl rfl fun a S=>Dl (Fc h (S.tm rfl) (fun hb5 h=>?_) (fun hb5 h=>?_)))))
   ·refine Fr (Vk S rfl rfl fun a S=>Vk S rfl rfl fun a S=>Dl (wp_ret (Cn ?_)))
    obtain rfl:=Option.some.inj h
    exact Md S results11 rfl rfl ⟨_,rfl,(Jv _ _ _)⟩
   ·refine wp_skip (Tn (Fr (Vm S rfl rfl ?_)));clear S;intro a S
    obtain ⟨r5,hr7,h⟩:=Eh h
    refine Ke 0 S rfl (fun _=>.own v4 35 8 r5.length (r5.flatMap An.enc)) (fun _=>Ck (vs:=[v4,.func (.func 38) #[] #[]]) ⟨(S.tm rfl),rfl,trivial⟩ call39) (Mk _ v4 x1 (S.holds _ (List.mem_of_getElem? (i:=0) rfl)) _ hr7) rfl (fun _ _ _ h=>⟨h.1,fun _ hc=>hc⟩) ?_;clear S;intro v9 a w14 hv5 hk10 hn5 S
    replace hv5:=hv5.2
    subst hv5
    refine Dz (Vm S rfl rfl fun a S=>Va S rfl rfl fun a S=>Vk S rfl rfl fun a S=>Dl (wp_ret ?_))
    obtain rfl:=Option.some.inj h
    exact Md S results11 rfl rfl ⟨_,rfl,(Ll S (i:=0) rfl rfl)⟩
set_option maxRecDepth 20000 in
theorem Qn (w : World) (Ac : Value) (Al : List An) (Ak : Slc (view w []) 8 Ac (Al.map An.enc)) (Ap : Int) (r : (List Cl) × (List Int)) (h : Mz Al Ap = some r) :
    Calls prog 40 [Ac,iV Ap].toArray w (Ret w [] fun τ v _=>∃ u1 : Value,∃ u2 : Value,v = .tuple #[u1,u2] ∧ Zr τ 1 RP.enc Wx u1 r.1 ∧ Le τ 3 1 u2 r.2.length (r.2.flatMap eInt)):=by
 refine Fe func40 rfl ntmps40 rfl fun a S=>?_
 unfold Mz at h
 replace S:=S.k2 0 1 rfl
 refine Fr (Vk S rfl rfl fun a S=>Vk S rfl rfl fun a S=>Ld ?_)
 replace S:=S.k2 0 1 rfl
 refine Tn (Fr (Vk S rfl rfl ?_));clear S;intro a S
 replace S:=S.nil 71 1
 refine Ld ?_
 replace S:=(S.nl [.own (.slice none 0 0) 71 1 ([] : List Nat).length (([] : List Nat).flatMap RP.enc)] [true] rfl).k3 0 1 6 rfl
 refine Tn (Fr (Vk S rfl rfl ?_));clear S;intro a S
 replace S:=S.nil 3 1
 refine Ld ?_
 replace S:=(S.nl [.own (.slice none 0 0) 3 1 ([] : List Int).length (([] : List Int).flatMap eInt),.own (.slice none 0 0) 71 1 ([] : List Nat).length (([] : List Nat).flatMap RP.enc)] [true,true] rfl).k4 0 1 6 7 rfl
 refine Tn (Fr (CO (κ:=ByteArray) (ν:=Option Nat) S rfl Value.string PV ?_));clear S;intro a w1 b1 hz1 hk1 S
 refine Va S rfl rfl fun a S=>Ld ?_
 replace S:=(S.nl ([.map b1 (Je Value.string PV (idm (([] : List Cl).map fun x=>x.s_.Id) ([] : List Nat))) (idm (([] : List Cl).map fun x=>x.s_.Id) ([] : List Nat)).length,.own (.slice none 0 0) 3 1 ([] : List Int).length (([] : List Int).flatMap eInt),.own (.slice none 0 0) 71 1 ([] : List Nat).length (([] : List Nat).flatMap RP.enc)] ++ Iu 73 Cl.enc ([] : List Nat) ([] : List Cl)) [true,true,true] rfl).k5 0 1 6 7 8 rfl
 refine Tn (Fs (Fr (Vm S rfl rfl fun a S=>lv S (En Eo (S.tm rfl) (Eg Ak)) rfl fun a S=>lv S (Rm rfl) rfl fun a S=>Ld ?_)))
 replace S:=S.k7 1 6 7 8 13 14 15 rfl
 refine Tn ?_
 obtain ⟨j1,hj1,h⟩:=Dt h
 refine Dj (fun a w'=>∃ x1 : List Cl,∃ x2 : List Int,∃ bs1 : List Nat,∃ v1 : Value,∃ v2 : Value,j1 x1 x2 = some r ∧ bs1.length = x1.length ∧ Sx w [] nov ([.map b1 (Je Value.string PV (idm (x1.map fun x=>x.s_.Id) bs1)) (idm (x1.map fun x=>x.s_.Id) bs1).length,.own v1 3 1 x2.length (x2.flatMap eInt),.own v2 71 1 bs1.length (bs1.flatMap RP.enc)] ++ Iu 73 Cl.enc bs1 x1) [(6,v2),(7,v1)] 97 a w') ?_ ?_
 ·refine wp_block (Gt (fun (ys1 : List An) a w'=>∃ i1 : Nat,∃ x1 : List Cl,∃ x2 : List Int,∃ bs1 : List Nat,∃ v1 : Value,∃ v2 : Value,(∃ dn,Al = dn ++ ys1 ∧ dn.length = i1) ∧ Hm Ap j1 ys1 i1 x1 x2 = some r ∧ bs1.length = x1.length ∧ Sx w [] nov ([.map b1 (Je Value.string PV (idm (x1.map fun x=>x.s_.Id) bs1)) (idm (x1.map fun x=>x.s_.Id) bs1).length,.own v1 3 1 x2.length (x2.flatMap eInt),.own v2 71 1 bs1.length (bs1.flatMap RP.enc)] ++ Iu 73 Cl.enc bs1 x1) [(1,iV Ap),(6,v2),(7,v1),(8,.map (some b1)),(13,Ac),(14,iV (Al.length : Int)),(15,iV (i1 : Int))] 97 a w') List.length Al ⟨0,([] : List Cl),([] : List Int),([] : List Nat),(.slice none 0 0),(.slice none 0 0),⟨[],rfl,rfl⟩,h,(rfl : ([] : List Nat).length = ([] : List Cl).length),S.nf [true,true,true] rfl (subR rfl)⟩ ?_)
  clear S h;rintro ys1 a w2 ⟨i1,x1,x2,bs1,v1,v2,⟨dn,hd1,hi1⟩,h,hl1,S⟩
  cases ys1 with
  | nil =>
   rw [Hm.eq_1] at h
   refine Fr (Vb S Ee rfl rfl rfl fun a S=>Ld ?_)
   replace S:=S.k8 1 6 7 8 13 14 15 16 rfl
   exact Tn (Fs (wp_cond_false ((S.tm rfl).trans (congrArg Value.bool (Ig hd1 hi1))) (wp_exit (Eb (Eb (Gj (Tn (⟨x1,x2,bs1,v1,v2,h,hl1,S.nf [true,true,true] rfl (subR rfl)⟩))))))))
  | cons y1 ys1 =>
   rw [Hm.eq_2] at h
   refine Fr (Vb S Ee rfl rfl rfl fun a S=>Ld ?_)
   replace S:=S.k8 1 6 7 8 13 14 15 16 rfl
   refine Tn (Fs (wp_cond_true ((S.tm rfl).trans (congrArg Value.bool (Hh hd1 hi1))) (wp_skip (Tn (Fs (wp_block (Fr (Vm S rfl rfl ?_))))))));clear S;intro a S
   obtain ⟨b2,o1,hm1,hr1⟩:=Ev (a:=a) (x:=.tmp 13) (y:=.tmp 15) (ty:=0) Eo Ak (Ie hd1 hi1) rfl (S.tm rfl) (S.tm rfl)
   refine lv S (hr1 _) rfl ?_;clear S;intro a S
   clear hr1
   refine lv S (Ey isAgg35 sizeOf35 (off:=o1) (o:=0) (part:=(An.enc y1)) rfl rfl (S.tm rfl) (hm1.at S.emb0)) rfl fun a S=>Lq S zeroValue35 (cs:=[iV 0,iV 0,sV Cj,sV Cj,sV Cj,sV Cj,iV 0,iV 0]) rfl rfl ?_;clear S;intro a w4 b3 hz2 hk2 S
   refine Va S rfl rfl fun a S=>Gy S (S.tm rfl) (S.tm rfl) (i:=0) (off:=0) rfl sizeOf35 (vs:=(An.enc y1)) rfl rfl rfl rfl ?_;clear S;intro w5 hk3 S
   refine Ld ?_
   replace S:=(S.nl ([.blk b3 (An.enc y1) 35,.map b1 (Je Value.string PV (idm (x1.map fun x=>x.s_.Id) bs1)) (idm (x1.map fun x=>x.s_.Id) bs1).length,.own v1 3 1 x2.length (x2.flatMap eInt),.own v2 71 1 bs1.length (bs1.flatMap RP.enc)] ++ Iu 73 Cl.enc bs1 x1) [true,true,true,true] rfl).k9 1 6 7 8 9 10 13 14 15 rfl
   refine Tn (Fs (Fr (Vf Lj S rfl rfl fun a S=>Vl isAgg3 0 S rfl rfl rfl rfl fun a S=>Vm S rfl rfl fun a S=>Vb S Ix rfl rfl rfl fun a S=>Ld ?_)))
   replace S:=S.k10 1 6 7 8 9 10 13 14 15 23 rfl
   refine Tn (Fc h (S.tm rfl) (fun hb1 h=>?_) (fun hb1 h=>?_))
   ·exact wp_exit (Eb (x_other rfl (Eb (Eb (Gj (Tn (⟨x1,x2,bs1,v1,v2,h,hl1,S.nf [false,true,true,true] rfl (subR rfl)⟩)))))))
   ·refine wp_skip (Tn (Fr (Vm S rfl rfl fun a S=>Vf Iw S rfl rfl fun a S=>Vl isAgg9 0 S rfl rfl rfl rfl fun a S=>lv S (CP (kv:=Value.string) (vv:=PV) (m:=idm (x1.map fun x=>x.s_.Id) bs1) (key:=y1.Id) (z:=none) (S.map_at (i:=1) rfl) underlying89 (Zn underlying9) zeroValue71 (S.tm rfl) (S.tm rfl)) rfl ?_)));clear S;intro a S
    generalize ho : Tu (idm (x1.map fun x=>x.s_.Id) bs1) y1.Id none = o2 at S
    obtain ⟨hN,hS⟩ : (Jw x1 y1.Id).isNone = o2.isNone ∧ (Jw x1 y1.Id).isSome = o2.isSome:=DZ hl1 ho
    simp only [hN,hS] at h
    refine Va S rfl rfl fun a S=>Ld ?_
    replace S:=S.k10 1 6 7 8 9 10 11 13 14 15 rfl
    refine Tn ?_
    obtain ⟨j2,hj2,h⟩:=Dt h
    refine Dj (fun a w'=>∃ x3 : List Cl,∃ x4 : List Int,∃ bs2 : List Nat,∃ v3 : Value,∃ v4 : Value,j2 x3 x4 = some r ∧ bs2.length = x3.length ∧ Sx w [] nov ([.map b1 (Je Value.string PV (idm (x3.map fun x=>x.s_.Id) bs2)) (idm (x3.map fun x=>x.s_.Id) bs2).length,.own v3 3 1 x4.length (x4.flatMap eInt),.own v4 71 1 bs2.length (bs2.flatMap RP.enc)] ++ Iu 73 Cl.enc bs2 x3) [(1,iV Ap),(6,v4),(7,v3),(8,.map (some b1)),(13,Ac),(14,iV (Al.length : Int)),(15,iV (i1 : Int))] 97 a w') ?_ ?_
    ·refine wp_block (Fr (Vf Jq S rfl rfl fun a S=>Vl isAgg3 0 S rfl rfl rfl rfl fun a S=>Vq S Ip rfl rfl rfl fun a S=>Vm S rfl rfl fun a S=>Gi 3 (fun a w'=>Keep [] w5 w' ∧ Sx w [] nov ([.blk b3 (An.enc y1) 35,.map b1 (Je Value.string PV (idm (x1.map fun x=>x.s_.Id) bs1)) (idm (x1.map fun x=>x.s_.Id) bs1).length,.own v1 3 1 x2.length (x2.flatMap eInt),.own v2 71 1 bs1.length (bs1.flatMap RP.enc)] ++ Iu 73 Cl.enc bs1 x1) [(1,iV Ap),(6,v2),(7,v1),(8,.map (some b1)),(9,iV (i1 : Int)),(10,.pointer (some ⟨b3,0,none⟩)),(11,PV o2),(13,Ac),(14,iV (Al.length : Int)),(15,iV (i1 : Int)),(39,bV ((decide (y1.Kind = 1)) && o2.isNone))] 97 a w') ?_ ?_))
     ·rcases Bool.eq_false_or_eq_true (decide (y1.Kind = 1)) with hb2 | hb2
      ·exact Cq S rfl rfl rfl hb2 (Vm S rfl rfl fun a S=>Cq S rfl rfl rfl hb2 (Vq S (rn_peql underlying71) rfl rfl rfl fun a S=>lv S (Gb hb2 (S.tm rfl) (S.tm rfl)) rfl fun a S=>Dl (⟨Keep.refl _ _,S.nf [true,true,true,true] rfl (subR rfl)⟩)))
      ·exact Fl S rfl rfl rfl (Hq hb2) rfl (fun a S=>Fl S rfl rfl rfl (Hq hb2) rfl (fun a S=>Vq S (Gc o2.isNone hb2) rfl rfl rfl fun a S=>Dl (⟨Keep.refl _ _,S.nf [true,true,true,true] rfl (subR rfl)⟩)) rfl) rfl
     clear S;rintro a w7 ⟨hk4,S⟩
     refine Va S rfl rfl fun a S=>Ld ?_
     replace S:=S.k11 1 6 7 8 9 10 11 13 14 15 32 rfl
     refine Tn ?_
     obtain ⟨j3,hj3,h⟩:=Dt h
     refine Dj (fun a w'=>∃ x5 : List Cl,∃ x6 : List Int,∃ bs3 : List Nat,∃ v5 : Value,∃ v6 : Value,j3 x5 x6 = some r ∧ bs3.length = x5.length ∧ Sx w [] nov ([.map b1 (Je Value.string PV (idm (x5.map fun x=>x.s_.Id) bs3)) (idm (x5.map fun x=>x.s_.Id) bs3).length,.own v5 3 1 x6.length (x6.flatMap eInt),.own v6 71 1 bs3.length (bs3.flatMap RP.enc)] ++ Iu 73 Cl.enc bs3 x5) [(1,iV Ap),(6,v6),(7,v5),(8,.map (some b1)),(13,Ac),(14,iV (Al.length : Int)),(15,iV (i1 : Int))] 97 a w') ?_ ?_
     ·refine Fc h (S.tm rfl) (fun hb3 h=>?_) (fun hb3 h=>?_)
      ·refine Fr (lv S (Ey isAgg35 sizeOf35 (off:=0) (o:=0) (part:=(An.enc y1)) rfl rfl (S.tm rfl) (S.cellsAt (i:=0) rfl)) rfl fun a S=>lv S (Rb bt_73 (pv:=[(0,.agg (An.enc y1).toArray)]) ⟨rfl,(S.tm rfl),trivial⟩ (cs:=[iV y1.At,iV y1.Kind,sV y1.Id,sV y1.Who,sV y1.Club,sV y1.Race,iV y1.Age,iV y1.Time,bV false,bV false]) (by kernel_rfl)) rfl fun a S=>Oh S (S.tm rfl) (cs:=[iV y1.At,iV y1.Kind,sV y1.Id,sV y1.Who,sV y1.Club,sV y1.Race,iV y1.Age,iV y1.Time,bV false,bV false]) rfl rfl ?_);clear S;intro a w9 b4 hz3 hk5 S
       refine Va S rfl rfl fun a S=>Ld ?_
       replace S:=(S.nl ([.blk b4 (Cl.enc (Cl.mk y1 false false)) 73,.blk b3 (An.enc y1) 35,.map b1 (Je Value.string PV (idm (x1.map fun x=>x.s_.Id) bs1)) (idm (x1.map fun x=>x.s_.Id) bs1).length,.own v1 3 1 x2.length (x2.flatMap eInt),.own v2 71 1 bs1.length (bs1.flatMap RP.enc)] ++ Iu 73 Cl.enc bs1 x1) [true,true,true,true,true] rfl).k9 1 6 7 8 10 11 13 14 15 rfl
       refine Tn ?_
       obtain ⟨hc1,h⟩:=Gz h
       refine Fi [] (v2.ownBlock.toList ++ [b1]) Tryz.mixed S rfl (by kernel_rfl) ?_;clear S;intro w13 hk9 hsel S
       refine Co 0 S hsel rfl rfl rfl (by kernel_rfl) (by kernel_rfl) rfl (fun _ hw=>(Rm (S.tm rfl))) fun a S=>Co 1 S hsel rfl rfl rfl (by kernel_rfl) (by kernel_rfl) rfl (fun _ hw=>(Fx Iw (S.tm rfl))) fun a S=>Co 2 S hsel rfl rfl rfl (by kernel_rfl) (by kernel_rfl) rfl (fun _ hw=>(Hr isAgg9 (off:=0) (o:=2) (S.tm rfl) ((S.blk_mem (i:=1) (cells:=(An.enc y1)) (b:=b3) (T:=35) rfl (ne_app (Jd (i:=4) (j:=1) (e:=.own v2 71 1 bs1.length (bs1.flatMap RP.enc)) (e':=.blk b3 (An.enc y1) 35) S rfl rfl rfl) (Jd (i:=2) (j:=1) (e:=(_)) (e':=.blk b3 (An.enc y1) 35) S rfl rfl rfl))).kept hw) rfl)) fun a S=>Co 3 S hsel rfl rfl rfl (by kernel_rfl) (by kernel_rfl) rfl (fun _ hw=>(Rm (S.tm rfl))) fun a S=>Co 4 S hsel rfl rfl rfl (by kernel_rfl) (by kernel_rfl) rfl (fun _ hw=>(Rm (S.tm rfl))) fun a S=>Co 5 S hsel rfl rfl rfl (by kernel_rfl) (by kernel_rfl) rfl (fun _ hw=>(Rm (S.tm rfl))) fun a S=>Ea 6 (by kernel_rfl) rfl (De S underlying68 sizeOf71 zeroValue71 rfl rfl (pv:=[(0,.pointer (some ⟨b4,0,none⟩))]) ⟨rfl,(S.tm rfl),trivial⟩ (cs:=[.pointer (some ⟨b4,0,none⟩)]) (by kernel_rfl) rfl ?_);clear S;intro a w14 b6 hz5 hk10 S
       refine Ld (Ej (Keep.none hk10) (Ea 7 (by kernel_rfl) rfl ?_))
       refine Wk EB RP.enc_ok S (S.tm rfl) (i:=5) rfl (S.tm rfl) (j:=0) rfl (ys:=[b4]) rfl rfl rfl rfl (by have:=Lh hc1;omega) rfl ?_;clear S;intro v8 a w15 hk11 hf1 S
       refine Ld ?_
       refine d_nextN (v8.ownBlock.toList ++ [b1]) (hk11.sub (by intro y hy;simp at hy ⊢;simp [hy])) (by intro y hy;simp at hy ⊢;exact (hy.elim (fun hy=>(by rcases hf1 y hy with hy | hy <;> simp [hy])) (fun hy=>(by simp [hy])))) ?_
       refine Ea 8 (by kernel_rfl) rfl (Zo (kv:=Value.string) (vv:=PV) (m:=idm (x1.map fun x=>x.s_.Id) bs1) (key:=y1.Id) (val:=some b4) S (i:=3) rfl underlying89 (Zn underlying9) (S.tm rfl) (S.tm rfl) (S.tm rfl) ?_);clear S;intro w16 hk12 S
       refine Ld ?_
       refine Ej (hk12.sub (by intro y hy;simp at hy ⊢;simp [hy])) ?_
       refine Iy [9] hsel (by kernel_rfl) rfl ?_
       clear hsel
       refine Fb S rfl (Ra (S.tm rfl)) rfl fun a S=>Ik ?_
       replace S:=S.nk ([.blk b4 (Cl.enc (Cl.mk y1 false false)) 73,.map b1 (Je Value.string PV (Pq (idm (x1.map fun x=>x.s_.Id) bs1) y1.Id (some b4))) (Pq (idm (x1.map fun x=>x.s_.Id) bs1) y1.Id (some b4)).length,.own v1 3 1 x2.length (x2.flatMap eInt),.own v8 71 1 (bs1 ++ [b4]).length ((bs1 ++ [b4]).flatMap RP.enc)] ++ Iu 73 Cl.enc bs1 x1) [(1,iV Ap),(6,v8),(7,v1),(8,.map (some b1)),(13,Ac),(14,iV (Al.length : Int)),(15,iV (i1 : Int))] [false,true,false,true,true,true] rfl (subR rfl)
       replace S:=S.join_arena (enc:=Cl.enc) (x:=(Cl.mk y1 false false)) hl1
       rw [idm_add (key:=fun x : Cl=>x.s_.Id) ((Cl.mk y1 false false)) hl1 (CS hl1 ho (by simp only [Bool.and_eq_true] at hb3;simp [hb3])) rfl] at S
       replace S:=(S.nl ([.map b1 (Je Value.string PV (idm ((x1 ++ [(Cl.mk y1 false false)]).map fun x=>x.s_.Id) (bs1 ++ [b4]))) (idm ((x1 ++ [(Cl.mk y1 false false)]).map fun x=>x.s_.Id) (bs1 ++ [b4])).length,.own v1 3 1 x2.length (x2.flatMap eInt),.own v8 71 1 (bs1 ++ [b4]).length ((bs1 ++ [b4]).flatMap RP.enc)] ++ Iu 73 Cl.enc (bs1 ++ [b4]) (x1 ++ [(Cl.mk y1 false false)])) [true,true,true] rfl).k7 1 6 7 8 13 14 15 rfl
       refine Tn ?_
       exact ⟨(x1 ++ [(Cl.mk y1 false false)]),x2,(bs1 ++ [b4]),v1,v8,h,(by rw [List.length_append,List.length_append,hl1];rfl),S.nf [true,true,true] rfl (subR rfl)⟩
      ·refine Fr (Vf Jq S rfl rfl fun a S=>Vl isAgg3 0 S rfl rfl rfl rfl fun a S=>Vq S Ip rfl rfl rfl fun a S=>Vm S rfl rfl fun a S=>Gi 3 (fun a w'=>Keep [] w7 w' ∧ Sx w [] nov ([.blk b3 (An.enc y1) 35,.map b1 (Je Value.string PV (idm (x1.map fun x=>x.s_.Id) bs1)) (idm (x1.map fun x=>x.s_.Id) bs1).length,.own v1 3 1 x2.length (x2.flatMap eInt),.own v2 71 1 bs1.length (bs1.flatMap RP.enc)] ++ Iu 73 Cl.enc bs1 x1) [(1,iV Ap),(6,v2),(7,v1),(8,.map (some b1)),(9,iV (i1 : Int)),(10,.pointer (some ⟨b3,0,none⟩)),(11,PV o2),(13,Ac),(14,iV (Al.length : Int)),(15,iV (i1 : Int)),(58,bV ((decide (y1.Kind = 2)) && o2.isSome))] 97 a w') ?_ ?_)
       ·rcases Bool.eq_false_or_eq_true (decide (y1.Kind = 2)) with hb4 | hb4
        ·exact Cq S rfl rfl rfl hb4 (Vm S rfl rfl fun a S=>Cq S rfl rfl rfl hb4 (Vq S (BR underlying71) rfl rfl rfl fun a S=>lv S (Gb hb4 (S.tm rfl) (S.tm rfl)) rfl fun a S=>Dl (⟨Keep.refl _ _,S.nf [true,true,true,true] rfl (subR rfl)⟩)))
        ·exact Fl S rfl rfl rfl (Hq hb4) rfl (fun a S=>Fl S rfl rfl rfl (Hq hb4) rfl (fun a S=>Vq S (Gc o2.isSome hb4) rfl rfl rfl fun a S=>Dl (⟨Keep.refl _ _,S.nf [true,true,true,true] rfl (subR rfl)⟩)) rfl) rfl
       clear S;rintro a w17 ⟨hk13,S⟩
       refine Vm S rfl rfl fun a S=>Gi 6 (fun a w'=>Keep [] w17 w' ∧ Sx w [] nov ([.blk b3 (An.enc y1) 35,.map b1 (Je Value.string PV (idm (x1.map fun x=>x.s_.Id) bs1)) (idm (x1.map fun x=>x.s_.Id) bs1).length,.own v1 3 1 x2.length (x2.flatMap eInt),.own v2 71 1 bs1.length (bs1.flatMap RP.enc)] ++ Iu 73 Cl.enc bs1 x1) [(1,iV Ap),(6,v2),(7,v1),(8,.map (some b1)),(9,iV (i1 : Int)),(10,.pointer (some ⟨b3,0,none⟩)),(11,PV o2),(13,Ac),(14,iV (Al.length : Int)),(15,iV (i1 : Int)),(65,bV (((decide (y1.Kind = 2)) && o2.isSome) && (!((Kb x1 y1.Id).sure_))))] 97 a w') ?_ ?_
       ·rcases Bool.eq_false_or_eq_true ((decide (y1.Kind = 2)) && o2.isSome) with hb5 | hb5
        ·refine Cq S rfl rfl rfl hb5 (Vm S rfl rfl fun a S=>Cq S rfl rfl rfl hb5 ?_)
         obtain ⟨bo,ho',hbj,hxj⟩:=Tz hl1 ho (by simp only [Bool.and_eq_true] at hb5;simp [hb5])
         have hpv : PV o2 = .pointer (some ⟨bo,0,none⟩):=by rw [ho'];rfl
         exact lv S (Ep ((S.tm rfl).trans hpv)) rfl fun a S=>Cq S rfl rfl rfl hb5 (Vf Yx S rfl rfl fun a S=>Cq S rfl rfl rfl hb5 (lv S (Mn isAgg4 (S.tm rfl) (S.cell (Sh hbj hxj) rfl)) rfl fun a S=>Cq S rfl rfl rfl hb5 (Vu S Ih rfl rfl fun a S=>lv S (Gb hb5 (S.tm rfl) (S.tm rfl)) rfl fun a S=>Dl (⟨Keep.refl _ _,S.nf [true,true,true,true] rfl (subR rfl)⟩))))
        ·iterate 5 (refine Fl S rfl rfl rfl (Hq hb5) rfl ?_ rfl;clear S;intro a S)
         exact lv S (Gc (!((Kb x1 y1.Id).sure_)) hb5 (S.tm rfl) rfl) rfl fun a S=>Dl (⟨Keep.refl _ _,S.nf [true,true,true,true] rfl (subR rfl)⟩)
       clear S;rintro a w18 ⟨hk14,S⟩
       refine Vm S rfl rfl fun a S=>Gi 6 (fun a w'=>Keep [] w18 w' ∧ Sx w [] nov ([.blk b3 (An.enc y1) 35,.map b1 (Je Value.string PV (idm (x1.map fun x=>x.s_.Id) bs1)) (idm (x1.map fun x=>x.s_.Id) bs1).length,.own v1 3 1 x2.length (x2.flatMap eInt),.own v2 71 1 bs1.length (bs1.flatMap RP.enc)] ++ Iu 73 Cl.enc bs1 x1) [(1,iV Ap),(6,v2),(7,v1),(8,.map (some b1)),(9,iV (i1 : Int)),(10,.pointer (some ⟨b3,0,none⟩)),(11,PV o2),(13,Ac),(14,iV (Al.length : Int)),(15,iV (i1 : Int)),(72,bV ((((decide (y1.Kind = 2)) && o2.isSome) && (!((Kb x1 y1.Id).sure_))) && (!((Kb x1 y1.Id).void_))))] 97 a w') ?_ ?_
       ·rcases Bool.eq_false_or_eq_true (((decide (y1.Kind = 2)) && o2.isSome) && (!((Kb x1 y1.Id).sure_))) with hb6 | hb6
        ·refine Cq S rfl rfl rfl hb6 (Vm S rfl rfl fun a S=>Cq S rfl rfl rfl hb6 ?_)
         obtain ⟨bo,ho',hbj,hxj⟩:=Tz hl1 ho (by simp only [Bool.and_eq_true] at hb6;simp [hb6])
         have hpv : PV o2 = .pointer (some ⟨bo,0,none⟩):=by rw [ho'];rfl
         exact lv S (Ep ((S.tm rfl).trans hpv)) rfl fun a S=>Cq S rfl rfl rfl hb6 (Vf Wd S rfl rfl fun a S=>Cq S rfl rfl rfl hb6 (lv S (Mn isAgg4 (S.tm rfl) (S.cell (Sh hbj hxj) rfl)) rfl fun a S=>Cq S rfl rfl rfl hb6 (Vu S Ih rfl rfl fun a S=>lv S (Gb hb6 (S.tm rfl) (S.tm rfl)) rfl fun a S=>Dl (⟨Keep.refl _ _,S.nf [true,true,true,true] rfl (subR rfl)⟩))))
        ·iterate 5 (refine Fl S rfl rfl rfl (Hq hb6) rfl ?_ rfl;clear S;intro a S)
         exact lv S (Gc (!((Kb x1 y1.Id).void_)) hb6 (S.tm rfl) rfl) rfl fun a S=>Dl (⟨Keep.refl _ _,S.nf [true,true,true,true] rfl (subR rfl)⟩)
       clear S;rintro a w19 ⟨hk15,S⟩
       refine Va S rfl rfl fun a S=>Ld ?_
       replace S:=S.k11 1 6 7 8 9 10 11 13 14 15 51 rfl
       refine Tn ?_
       obtain ⟨j4,hj4,h⟩:=Dt h
       refine Dj (fun a w'=>∃ x7 : List Cl,∃ x8 : List Int,∃ v9 : Value,j4 x7 x8 = some r ∧ bs1.length = x7.length ∧ Sx w [] nov ([.map b1 (Je Value.string PV (idm (x7.map fun x=>x.s_.Id) bs1)) (idm (x7.map fun x=>x.s_.Id) bs1).length,.own v9 3 1 x8.length (x8.flatMap eInt),.own v2 71 1 bs1.length (bs1.flatMap RP.enc)] ++ Iu 73 Cl.enc bs1 x7) [(1,iV Ap),(6,v2),(7,v9),(8,.map (some b1)),(13,Ac),(14,iV (Al.length : Int)),(15,iV (i1 : Int))] 97 a w') ?_ ?_
       ·refine Fc h (S.tm rfl) (fun hb7 h=>?_) (fun hb7 h=>?_)
        ·refine Fg (Vm S rfl rfl ?_);clear S;intro a S
         obtain ⟨bo,ho',hbj,hxj⟩:=Tz hl1 ho (by simp only [Bool.and_eq_true] at hb7;simp [hb7])
         have hpv : PV o2 = .pointer (some ⟨bo,0,none⟩):=by rw [ho'];rfl
         refine lv S (Ep ((S.tm rfl).trans hpv)) rfl fun a S=>Vf Yx S rfl rfl fun a S=>Gy S (S.tm rfl) rfl (off:=8) (Sh hbj hxj) sizeOf4 (vs:=[.bool true]) rfl rfl rfl rfl ?_;clear S;intro w21 hk16 S
         replace S:=S.arena_store (y:=(Cl.mk (Kb x1 y1.Id).s_ true (Kb x1 y1.Id).void_)) hbj rfl
         rw [Zv (key:=fun x : Cl=>x.s_.Id) (y:=(Cl.mk (Kb x1 y1.Id).s_ true (Kb x1 y1.Id).void_)) hxj rfl] at S
         refine Ld ?_
         replace S:=(S.nl ([.map b1 (Je Value.string PV (idm ((x1.set (My x1 y1.Id) (Cl.mk (Kb x1 y1.Id).s_ true (Kb x1 y1.Id).void_)).map fun x=>x.s_.Id) bs1)) (idm ((x1.set (My x1 y1.Id) (Cl.mk (Kb x1 y1.Id).s_ true (Kb x1 y1.Id).void_)).map fun x=>x.s_.Id) bs1).length,.own v1 3 1 x2.length (x2.flatMap eInt),.own v2 71 1 bs1.length (bs1.flatMap RP.enc)] ++ Iu 73 Cl.enc bs1 (x1.set (My x1 y1.Id) (Cl.mk (Kb x1 y1.Id).s_ true (Kb x1 y1.Id).void_))) [false,true,true,true] rfl).k7 1 6 7 8 13 14 15 rfl
         refine Tn ?_
         exact ⟨(x1.set (My x1 y1.Id) (Cl.mk (Kb x1 y1.Id).s_ true (Kb x1 y1.Id).void_)),x2,v1,h,(by rw [List.length_set];exact hl1),S.nf [true,true,true] rfl (subR rfl)⟩
        ·refine Fr (Vf Jq S rfl rfl fun a S=>Vl isAgg3 0 S rfl rfl rfl rfl fun a S=>Vq S Ip rfl rfl rfl fun a S=>Vm S rfl rfl fun a S=>Gi 3 (fun a w'=>Keep [] w19 w' ∧ Sx w [] nov ([.blk b3 (An.enc y1) 35,.map b1 (Je Value.string PV (idm (x1.map fun x=>x.s_.Id) bs1)) (idm (x1.map fun x=>x.s_.Id) bs1).length,.own v1 3 1 x2.length (x2.flatMap eInt),.own v2 71 1 bs1.length (bs1.flatMap RP.enc)] ++ Iu 73 Cl.enc bs1 x1) [(1,iV Ap),(6,v2),(7,v1),(8,.map (some b1)),(9,iV (i1 : Int)),(11,PV o2),(13,Ac),(14,iV (Al.length : Int)),(15,iV (i1 : Int)),(83,bV ((decide (y1.Kind = 3)) && o2.isSome))] 97 a w') ?_ ?_)
         ·rcases Bool.eq_false_or_eq_true (decide (y1.Kind = 3)) with hb8 | hb8
          ·exact Cq S rfl rfl rfl hb8 (Vm S rfl rfl fun a S=>Cq S rfl rfl rfl hb8 (Vq S (BR underlying71) rfl rfl rfl fun a S=>lv S (Gb hb8 (S.tm rfl) (S.tm rfl)) rfl fun a S=>Dl (⟨Keep.refl _ _,S.nf [true,true,true,true] rfl (subR rfl)⟩)))
          ·exact Fl S rfl rfl rfl (Hq hb8) rfl (fun a S=>Fl S rfl rfl rfl (Hq hb8) rfl (fun a S=>Vq S (Gc o2.isSome hb8) rfl rfl rfl fun a S=>Dl (⟨Keep.refl _ _,S.nf [true,true,true,true] rfl (subR rfl)⟩)) rfl) rfl
         clear S;rintro a w22 ⟨hk17,S⟩
         refine Vm S rfl rfl fun a S=>Gi 6 (fun a w'=>Keep [] w22 w' ∧ Sx w [] nov ([.blk b3 (An.enc y1) 35,.map b1 (Je Value.string PV (idm (x1.map fun x=>x.s_.Id) bs1)) (idm (x1.map fun x=>x.s_.Id) bs1).length,.own v1 3 1 x2.length (x2.flatMap eInt),.own v2 71 1 bs1.length (bs1.flatMap RP.enc)] ++ Iu 73 Cl.enc bs1 x1) [(1,iV Ap),(6,v2),(7,v1),(8,.map (some b1)),(9,iV (i1 : Int)),(11,PV o2),(13,Ac),(14,iV (Al.length : Int)),(15,iV (i1 : Int)),(90,bV (((decide (y1.Kind = 3)) && o2.isSome) && (!((Kb x1 y1.Id).void_))))] 97 a w') ?_ ?_
         ·rcases Bool.eq_false_or_eq_true ((decide (y1.Kind = 3)) && o2.isSome) with hb9 | hb9
          ·refine Cq S rfl rfl rfl hb9 (Vm S rfl rfl fun a S=>Cq S rfl rfl rfl hb9 ?_)
           obtain ⟨bo,ho',hbj,hxj⟩:=Tz hl1 ho (by simp only [Bool.and_eq_true] at hb9;simp [hb9])
           have hpv : PV o2 = .pointer (some ⟨bo,0,none⟩):=by rw [ho'];rfl
           exact lv S (Ep ((S.tm rfl).trans hpv)) rfl fun a S=>Cq S rfl rfl rfl hb9 (Vf Wd S rfl rfl fun a S=>Cq S rfl rfl rfl hb9 (lv S (Mn isAgg4 (S.tm rfl) (S.cell (Sh hbj hxj) rfl)) rfl fun a S=>Cq S rfl rfl rfl hb9 (Vu S Ih rfl rfl fun a S=>lv S (Gb hb9 (S.tm rfl) (S.tm rfl)) rfl fun a S=>Dl (⟨Keep.refl _ _,S.nf [true,true,true,true] rfl (subR rfl)⟩))))
          ·iterate 5 (refine Fl S rfl rfl rfl (Hq hb9) rfl ?_ rfl;clear S;intro a S)
           exact lv S (Gc (!((Kb x1 y1.Id).void_)) hb9 (S.tm rfl) rfl) rfl fun a S=>Dl (⟨Keep.refl _ _,S.nf [true,true,true,true] rfl (subR rfl)⟩)
         clear S;rintro a w23 ⟨hk18,S⟩
         refine Va S rfl rfl fun a S=>Ld ?_
         replace S:=S.d0.k10 1 6 7 8 9 11 13 14 15 76 rfl
         refine Tn ?_
         obtain ⟨j5,hj5,h⟩:=Dt h
         refine Dj (fun a w'=>∃ x9 : List Cl,∃ x10 : List Int,∃ v10 : Value,j5 x9 x10 = some r ∧ bs1.length = x9.length ∧ Sx w [] nov ([.map b1 (Je Value.string PV (idm (x9.map fun x=>x.s_.Id) bs1)) (idm (x9.map fun x=>x.s_.Id) bs1).length,.own v10 3 1 x10.length (x10.flatMap eInt),.own v2 71 1 bs1.length (bs1.flatMap RP.enc)] ++ Iu 73 Cl.enc bs1 x9) [(1,iV Ap),(6,v2),(7,v10),(8,.map (some b1)),(13,Ac),(14,iV (Al.length : Int)),(15,iV (i1 : Int))] 97 a w') ?_ ?_
         ·refine Fc h (S.tm rfl) (fun hb10 h=>?_) (fun hb10 h=>?_)
          ·refine Fg (Vm S rfl rfl ?_);clear S;intro a S
           obtain ⟨bo,ho',hbj,hxj⟩:=Tz hl1 ho (by simp only [Bool.and_eq_true] at hb10;simp [hb10])
           have hpv : PV o2 = .pointer (some ⟨bo,0,none⟩):=by rw [ho'];rfl
           refine lv S (Ep ((S.tm rfl).trans hpv)) rfl fun a S=>Vf Wd S rfl rfl fun a S=>Gy S (S.tm rfl) rfl (off:=9) (Sh hbj hxj) sizeOf4 (vs:=[.bool true]) rfl rfl rfl rfl ?_;clear S;intro w25 hk19 S
           replace S:=S.arena_store (y:=(Cl.mk (Kb x1 y1.Id).s_ (Kb x1 y1.Id).sure_ true)) hbj rfl
           rw [Zv (key:=fun x : Cl=>x.s_.Id) (y:=(Cl.mk (Kb x1 y1.Id).s_ (Kb x1 y1.Id).sure_ true)) hxj rfl] at S
           refine Ld ?_
           replace S:=(S.nl ([.map b1 (Je Value.string PV (idm ((x1.set (My x1 y1.Id) (Cl.mk (Kb x1 y1.Id).s_ (Kb x1 y1.Id).sure_ true)).map fun x=>x.s_.Id) bs1)) (idm ((x1.set (My x1 y1.Id) (Cl.mk (Kb x1 y1.Id).s_ (Kb x1 y1.Id).sure_ true)).map fun x=>x.s_.Id) bs1).length,.own v1 3 1 x2.length (x2.flatMap eInt),.own v2 71 1 bs1.length (bs1.flatMap RP.enc)] ++ Iu 73 Cl.enc bs1 (x1.set (My x1 y1.Id) (Cl.mk (Kb x1 y1.Id).s_ (Kb x1 y1.Id).sure_ true))) [true,true,true] rfl).k7 1 6 7 8 13 14 15 rfl
           refine Tn ?_
           exact ⟨(x1.set (My x1 y1.Id) (Cl.mk (Kb x1 y1.Id).s_ (Kb x1 y1.Id).sure_ true)),x2,v1,h,(by rw [List.length_set];exact hl1),S.nf [true,true,true] rfl (subR rfl)⟩
          ·refine Fg (Vm S rfl rfl fun a S=>Vm S rfl rfl fun a S=>De S underlying22 sizeOf3 zeroValue3 rfl rfl (pv:=[(0,iV (i1 : Int))]) ⟨rfl,(S.tm rfl),trivial⟩ (cs:=[iV (i1 : Int)]) (by kernel_rfl) rfl ?_);clear S;intro a w26 b7 hz6 hk20 S
           obtain ⟨hc2,h⟩:=Gz h
           refine Kw Oj Kx S (S.tm rfl) (i:=2) rfl (S.tm rfl) (j:=0) rfl (ys:=[(i1 : Int)]) rfl rfl rfl rfl (by have:=Lh hc2;omega) rfl ?_;clear S;intro v11 a w27 hk21 S
           refine Va S rfl rfl fun a S=>Ld ?_
           replace S:=(S.nl ([.map b1 (Je Value.string PV (idm (x1.map fun x=>x.s_.Id) bs1)) (idm (x1.map fun x=>x.s_.Id) bs1).length,.own v11 3 1 (x2 ++ [(i1 : Int)]).length ((x2 ++ [(i1 : Int)]).flatMap eInt),.own v2 71 1 bs1.length (bs1.flatMap RP.enc)] ++ Iu 73 Cl.enc bs1 x1) [false,true,true,true] rfl).k7 1 6 7 8 13 14 15 rfl
           exact Tn (⟨x1,(x2 ++ [(i1 : Int)]),v11,h,hl1,S.nf [true,true,true] rfl (subR rfl)⟩)
         clear S h;rintro a w24 ⟨x9,x10,v10,h,hl5,S⟩;rw [hj5] at h;clear hj5 j5
         exact Tn (⟨x9,x10,v10,h,hl5,S.nf [true,true,true] rfl (subR rfl)⟩)
       clear S h;rintro a w20 ⟨x7,x8,v9,h,hl4,S⟩;rw [hj4] at h;clear hj4 j4
       exact Tn (⟨x7,x8,bs1,v9,v2,h,hl4,S.nf [true,true,true] rfl (subR rfl)⟩)
     clear S h;rintro a w8 ⟨x5,x6,bs3,v5,v6,h,hl3,S⟩;rw [hj3] at h;clear hj3 j3
     exact Hj (Tn (⟨x5,x6,bs3,v5,v6,h,hl3,S.nf [true,true,true] rfl (subR rfl)⟩))
    clear S h;rintro a w6 ⟨x3,x4,bs2,v3,v4,h,hl2,S⟩;rw [hj2] at h;clear hj2 j2
    refine Hj (Tn (Fg (Vq S Ew rfl rfl rfl fun a S=>Vm S rfl rfl fun a S=>Ld ?_)))
    replace S:=S.k7 1 6 7 8 13 14 15 rfl
    exact Tn (⟨ys1,⟨i1 + 1,x3,x4,bs2,v3,v4,⟨_,(hd1).trans (List.append_cons _ _ _),by simp [hi1]⟩,h,hl2,S.nf [true,true,true] rfl ⟨rfl,rfl,rfl,rfl,rfl,rfl,(congrArg (fun z=>some (Value.int .i64 z)) (Hi hd1 hi1 (Jk Ak))),trivial⟩⟩,Nat.lt_succ_self _⟩)
 clear S h;rintro a w3 ⟨x1,x2,bs1,v1,v2,h,hl1,S⟩;rw [hj1] at h;clear hj1 j1
 refine Tn (Fr (Vm S rfl rfl fun a S=>Vm S rfl rfl fun a S=>Va S rfl rfl fun a S=>Va S rfl rfl fun a S=>Ld ?_))
 replace S:=S.k2 4 5 rfl
 refine Tn (wp_ret ?_)
 obtain rfl:=Option.some.inj h
 obtain ⟨φA,lA,hA,S⟩:=S.seeArena rfl hl1
 exact Md S results40 rfl rfl ⟨_,_,rfl,⟨_,Ei RP.enc_ok (Ll S (i:=2) rfl rfl),Yw S.le_newer hA⟩,(Ll S (i:=1) rfl rfl)⟩
theorem Ud (w : World) (Ac : Value) (Al : List An) (Ak : Slc (view w []) 8 Ac (Al.map An.enc)) (r : (List Int) × Int) (h : Jx Al = some r) :
    Calls prog 12 [Ac].toArray w (Ret w [] fun τ v _=>∃ u1 : Value,v = .tuple #[u1,iV r.2] ∧ Le τ 3 1 u1 r.1.length (r.1.flatMap eInt)):=by
 refine Fe func12 rfl ntmps12 rfl fun a S=>?_
 unfold Jx at h
 replace S:=S.k1 0 rfl
 refine Fr (Vk S rfl rfl fun a S=>Vk S rfl rfl fun a S=>Dl (Fs (Fr (Vm S rfl rfl ?_))));clear S;intro a S
 obtain ⟨r1,hr1,h⟩:=Eh h
 refine Cy S (fun _=>Ck (vs:=[Ac]) ⟨(S.tm rfl),trivial⟩ call22) (Ka _ Ac Al (Ak.mono (S.le_arg Fp)) _ hr1) rfl ?_;clear S;intro v1 a w1 hv1 hk1 hn1 S
 subst hv1
 refine Va S rfl rfl fun a S=>Dz (Vm S rfl rfl fun a S=>Vq S Kg rfl rfl rfl fun a S=>Dl (Fc h (S.tm rfl) (fun hb1 h=>?_) (fun hb1 h=>?_)))
 ·refine Fr (Vm S rfl rfl fun a S=>Vk S rfl rfl fun a S=>Va S rfl rfl fun a S=>Dl (wp_ret (Cn ?_)))
  obtain rfl:=Option.some.inj h
  exact Md S results12 rfl rfl ⟨_,rfl,(Jv _ _ _)⟩
 ·refine wp_skip (Tn (Fr (Vm S rfl rfl ?_)));clear S;intro a S
  obtain ⟨r2,hr2,h⟩:=Eh h
  have hz1:=S.keep.size
  refine Cy S (fun _=>Ck (vs:=[Ac,iV 345686400000]) ⟨(S.tm rfl),rfl,trivial⟩ call40) (Qn _ Ac Al (Ak.mono (S.le_arg Fp)) 345686400000 _ hr2) rfl ?_;clear S;intro v2 a w2 hv2 hk2 hn2 S
  obtain ⟨u1,u2,rfl,ho1,ho2⟩:=hv2
  obtain ⟨rs1,ho3,hr3⟩:=ho1
  obtain ⟨φ1,hl1,hm1,S⟩:=S.see' hn2 hz1
  have hs1:=ho3.mono hm1
  have hr4:=Yw hm1 hr3
  have hs2:=ho2.mono hm1
  refine Vm S rfl rfl fun a S=>Vq S Iq rfl rfl rfl fun a S=>Vq S Iq rfl rfl rfl fun a S=>Va S rfl rfl fun a S=>Va S rfl rfl fun a S=>Ld ?_
  replace S:=S.k1 6 rfl
  refine Tn (Fr (Vm S rfl rfl fun a S=>Va S rfl rfl fun a S=>Vk S rfl rfl fun a S=>Dl (wp_ret ?_)))
  obtain rfl:=Option.some.inj h
  exact Md S results12 rfl rfl ⟨_,rfl,((hs2).mono S.le_newer)⟩
theorem Wy (w : World) (Ac : Value) (Al : List An) (Ak : Slc (view w []) 8 Ac (Al.map An.enc)) (Ap : Int) (r : (List ByteArray) × Int) (h : Nq Al Ap = some r) :
    Calls prog 13 [Ac,iV Ap].toArray w (Ret w [] fun τ v _=>∃ u1 : Value,v = .tuple #[u1,iV r.2] ∧ Le τ 9 1 u1 r.1.length (r.1.flatMap Kh)):=by
 refine Fe func13 rfl ntmps13 rfl fun a S=>?_
 unfold Nq at h
 replace S:=S.k2 0 1 rfl
 refine Fr (Vk S rfl rfl fun a S=>Vk S rfl rfl fun a S=>Dl (Fs (Fr (Vm S rfl rfl ?_))));clear S;intro a S
 obtain ⟨r1,hr1,h⟩:=Eh h
 refine Cy S (fun _=>Ck (vs:=[Ac]) ⟨(S.tm rfl),trivial⟩ call22) (Ka _ Ac Al (Ak.mono (S.le_arg Fp)) _ hr1) rfl ?_;clear S;intro v1 a w1 hv1 hk1 hn1 S
 subst hv1
 refine Va S rfl rfl fun a S=>Dz (Vm S rfl rfl fun a S=>Vq S Kg rfl rfl rfl fun a S=>Dl (Fc h (S.tm rfl) (fun hb1 h=>?_) (fun hb1 h=>?_)))
 ·refine Fr (Vm S rfl rfl fun a S=>Vk S rfl rfl fun a S=>Va S rfl rfl fun a S=>Dl (wp_ret (Cn ?_)))
  obtain rfl:=Option.some.inj h
  exact Md S results13 rfl rfl ⟨_,rfl,(Jv _ _ _)⟩
 ·refine wp_skip (Tn (Fs (Fr (Vm S rfl rfl fun a S=>Cy S (fun _=>Ck (vs:=[iV Ap]) ⟨(S.tm rfl),trivial⟩ call41) (Pz _ Ap _ rfl) rfl ?_))));clear S;intro v2 a w2 hv2 hk2 hn2 S
  subst hv2
  refine Vu S Ih rfl rfl fun a S=>Dl (Fc h (S.tm rfl) (fun hb2 h=>?_) (fun hb2 h=>?_))
  ·refine Fr (Vk S rfl rfl fun a S=>Vk S rfl rfl fun a S=>Dl (wp_ret (Cn ?_)))
   obtain rfl:=Option.some.inj h
   exact Md S results13 rfl rfl ⟨_,rfl,(Jv _ _ _)⟩
  ·refine wp_skip (Tn (Fr (Vm S rfl rfl fun a S=>Vm S rfl rfl ?_)));clear S;intro a S
   obtain ⟨r2,hr2,h⟩:=Eh h
   have hz1:=S.keep.size
   refine Cy S (fun _=>Ck (vs:=[Ac,iV Ap]) ⟨(S.tm rfl),(S.tm rfl),trivial⟩ call40) (Qn _ Ac Al (Ak.mono (S.le_arg Fp)) Ap _ hr2) rfl ?_;clear S;intro v3 a w3 hv3 hk3 hn3 S
   obtain ⟨u1,u2,rfl,ho1,ho2⟩:=hv3
   obtain ⟨rs1,ho3,hr3⟩:=ho1
   obtain ⟨φ1,hl1,hm1,S⟩:=S.see' hn3 hz1
   have hs1:=ho3.mono hm1
   have hr4:=Yw hm1 hr3
   have hs2:=ho2.mono hm1
   refine Vm S rfl rfl fun a S=>Vq S Iq rfl rfl rfl fun a S=>Vq S Iq rfl rfl rfl fun a S=>Va S rfl rfl fun a S=>Va S rfl rfl fun a S=>Ld ?_
   replace S:=S.k1 7 rfl
   refine Tn (Fr (Vk S rfl rfl ?_));clear S;intro a S
   replace S:=S.nil 9 1
   refine Dl (Fs (Fr (Vm S rfl rfl fun a S=>lv S (En EB (S.tm rfl) (Ot hs1 hr4)) rfl fun a S=>lv S (Rm rfl) rfl fun a S=>Dl ?_)))
   replace S:=(S.nl [.own (.slice none 0 0) 9 1 ([] : List ByteArray).length (([] : List ByteArray).flatMap Kh)] [true] rfl).k4 9 26 27 28 rfl
   obtain ⟨j1,hj1,h⟩:=Dt h
   refine Dj (fun a w'=>∃ x1 : List ByteArray,∃ v4 : Value,j1 x1 = some r ∧ Sx w [] φ1 [.own v4 9 1 x1.length (x1.flatMap Kh)] [(9,v4)] 54 a w') ?_ ?_
   ·refine wp_block (Gt (fun (ys1 : List Cl) a w'=>∃ i1 : Nat,∃ x1 : List ByteArray,∃ v4 : Value,(∃ dn,r2.1 = dn ++ ys1 ∧ dn.length = i1) ∧ Jo j1 ys1 i1 x1 = some r ∧ Sx w [] φ1 [.own v4 9 1 x1.length (x1.flatMap Kh)] [(9,v4),(26,u1),(27,iV (r2.1.length : Int)),(28,iV (i1 : Int))] 54 a w') List.length r2.1 ⟨0,([] : List ByteArray),(.slice none 0 0),⟨[],rfl,rfl⟩,h,S.nf [true] rfl (subR rfl)⟩ ?_)
    clear S h;rintro ys1 a w4 ⟨i1,x1,v4,⟨dn,hd1,hi1⟩,h,S⟩
    cases ys1 with
    | nil =>
     rw [Jo.eq_1] at h
     refine Fr (Vb S Ee rfl rfl rfl fun a S=>Ld ?_)
     replace S:=S.k5 9 26 27 28 29 rfl
     exact Tn (Fs (wp_cond_false ((S.tm rfl).trans (congrArg Value.bool (Ig hd1 hi1))) (wp_exit (Eb (Eb (Gj (Tn (⟨x1,v4,h,S.nf [true] rfl ⟨rfl,trivial⟩⟩))))))))
    | cons y1 ys1 =>
     rw [Jo.eq_2] at h
     refine Fr (Vb S Ee rfl rfl rfl fun a S=>Ld ?_)
     replace S:=S.k5 9 26 27 28 29 rfl
     refine Tn (Fs (wp_cond_true ((S.tm rfl).trans (congrArg Value.bool (Hh hd1 hi1))) (wp_skip (Tn (Fs ?_)))))
     obtain ⟨j2,hj2,h⟩:=Dt h
     refine Dj (fun a w'=>∃ x2 : List ByteArray,∃ v5 : Value,j2 x2 = some r ∧ Sx w [] φ1 [.own v5 9 1 x2.length (x2.flatMap Kh)] [(9,v5),(26,u1),(27,iV (r2.1.length : Int)),(28,iV (i1 : Int))] 54 a w') ?_ ?_
     ·refine wp_block (Fs (Fg ?_))
      obtain ⟨r3,hg1,hl2⟩:=Fn.at hr4 (Ie hd1 hi1)
      have hb3:=hl2
      obtain ⟨b1,o1,hm2,hr5⟩:=Ev (a:=a) (x:=.tmp 26) (y:=.tmp 28) (ty:=0) EB hs1 hg1 rfl (S.tm rfl) (S.tm rfl)
      refine lv S (hr5 _) rfl ?_;clear S;intro a S
      clear hr5
      refine lv S (Hr isAgg71 (off:=o1) (o:=0) (S.tm rfl) (hm2.at S.emb) rfl) rfl fun a S=>Va S rfl rfl fun a S=>Dz (Vm S rfl rfl fun a S=>Vu S Ep rfl rfl fun a S=>Vf Yx S rfl rfl fun a S=>lv S (Hr isAgg4 (off:=0) (o:=8) (S.tm rfl) ((Sq hb3).at S.emb) rfl) rfl fun a S=>Vu S Ih rfl rfl ?_);clear S;intro a S
      refine Vm S rfl rfl fun a S=>Gi 6 (fun a w'=>Keep [] w4 w' ∧ Sx w [] φ1 [.own v4 9 1 x1.length (x1.flatMap Kh)] [(9,v4),(11,.pointer (some ⟨r3,0,none⟩)),(26,u1),(27,iV (r2.1.length : Int)),(28,iV (i1 : Int)),(43,bV ((!y1.sure_) && (!y1.void_)))] 54 a w') ?_ ?_
      ·rcases Bool.eq_false_or_eq_true (!y1.sure_) with hb4 | hb4
       ·refine Cq S rfl rfl rfl hb4 (Vm S rfl rfl fun a S=>Cq S rfl rfl rfl hb4 (Vu S Ep rfl rfl fun a S=>Cq S rfl rfl rfl hb4 (Vf Wd S rfl rfl fun a S=>Cq S rfl rfl rfl hb4 (lv S (Hr isAgg4 (off:=0) (o:=9) (S.tm rfl) ((Sq hb3).at S.emb) rfl) rfl fun a S=>Cq S rfl rfl rfl hb4 (Vu S Ih rfl rfl fun a S=>lv S (Gb hb4 (S.tm rfl) (S.tm rfl)) rfl ?_)))));clear S;intro a S
        exact Dl (⟨Keep.refl _ _,S.nf [true] rfl (subR rfl)⟩)
       ·iterate 5 (refine Fl S rfl rfl rfl (Hq hb4) rfl ?_ rfl;clear S;intro a S)
        exact lv S (Gc (!y1.void_) hb4 (S.tm rfl) rfl) rfl fun a S=>Dl (⟨Keep.refl _ _,S.nf [true] rfl (subR rfl)⟩)
      clear S;rintro a w7 ⟨hk4,S⟩
      refine Dl ?_
      obtain ⟨j3,hj3,h⟩:=Dt h
      refine Dj (fun a w'=>∃ x3 : List ByteArray,∃ v6 : Value,j3 x3 = some r ∧ Sx w [] φ1 [.own v6 9 1 x3.length (x3.flatMap Kh)] [(9,v6),(26,u1),(27,iV (r2.1.length : Int)),(28,iV (i1 : Int))] 54 a w') ?_ ?_
      ·refine Fc h (S.tm rfl) (fun hb5 h=>?_) (fun hb5 h=>?_)
       ·refine Fg (Vm S rfl rfl fun a S=>Vm S rfl rfl fun a S=>Vu S Ep rfl rfl fun a S=>Vf fa_73_0 S rfl rfl fun a S=>Vf Iw S rfl rfl fun a S=>lv S (Hr isAgg9 (off:=0) (o:=2) (S.tm rfl) ((Sq hb3).at S.emb) rfl) rfl fun a S=>De S underlying42 sizeOf9 zeroValue9 rfl rfl (pv:=[(0,sV y1.s_.Id)]) ⟨rfl,(S.tm rfl),trivial⟩ (cs:=[sV y1.s_.Id]) (by kernel_rfl) rfl ?_);clear S;intro a w9 b2 hz2 hk5 S
        obtain ⟨hc1,h⟩:=Gz h
        refine Kw Lg Ex S (S.tm rfl) (i:=1) rfl (S.tm rfl) (j:=0) rfl (ys:=[y1.s_.Id]) rfl rfl rfl rfl (by have:=Lh hc1;omega) rfl ?_;clear S;intro v7 a w10 hk6 S
        exact Va S rfl rfl fun a S=>Dl (⟨(x1 ++ [y1.s_.Id]),v7,h,S.nf [false,true] rfl (subR rfl)⟩)
       ·exact wp_skip (Tn (⟨x1,v4,h,S.nf [true] rfl (subR rfl)⟩))
      clear S h;rintro a w8 ⟨x3,v6,h,S⟩;rw [hj3] at h;clear hj3 j3
      exact Hj (Tn (⟨x3,v6,h,S.nf [true] rfl (subR rfl)⟩))
     clear S h;rintro a w6 ⟨x2,v5,h,S⟩;rw [hj2] at h;clear hj2 j2
     exact Tn (Fg (Vq S Ew rfl rfl rfl fun a S=>Vm S rfl rfl fun a S=>Dl (⟨ys1,⟨i1 + 1,x2,v5,⟨_,(hd1).trans (List.append_cons _ _ _),by simp [hi1]⟩,h,S.nf [true] rfl ⟨rfl,rfl,rfl,(congrArg (fun z=>some (Value.int .i64 z)) (Hi hd1 hi1 (Qj hs1 hr4))),trivial⟩⟩,Nat.lt_succ_self _⟩)))
   clear S h;rintro a w5 ⟨x1,v4,h,S⟩;rw [hj1] at h;clear hj1 j1
   refine Tn (Fr (Vm S rfl rfl fun a S=>Va S rfl rfl fun a S=>Vk S rfl rfl fun a S=>Dl (wp_ret ?_)))
   obtain rfl:=Option.some.inj h
   exact Md S results13 rfl rfl ⟨_,rfl,(Ll S (i:=0) rfl rfl)⟩
theorem Lo (w : World) (Ar : Int) (Aw : Int) (As : Int) (r : Bool) (h : Em Ar Aw As = r) :
    Calls prog 53 [iV Ar,iV Aw,iV As].toArray w (Ret w [] fun _ v _=>v = bV r):=by
 refine Fe func53 rfl ntmps53 rfl fun a S=>?_
 unfold Em at h
 replace S:=S.k3 0 1 2 rfl
 refine Fr (Vk S rfl rfl fun a S=>Dz (Vm S rfl rfl fun a S=>Vm S rfl rfl fun a S=>Vb S Sb rfl rfl rfl fun a S=>Vm S rfl rfl ?_));clear S;intro a S
 refine Gi 4 (fun a w'=>Keep [] w w' ∧ Sx w [] nov [] [(14,bV ((decide (Aw ≤ Ar)) && (decide (Ar ≤ As))))] 15 a w') ?_ ?_
 ·rcases Bool.eq_false_or_eq_true (decide (Aw ≤ Ar)) with hb1 | hb1
  ·exact Cq S rfl rfl rfl hb1 (Vm S rfl rfl fun a S=>Cq S rfl rfl rfl hb1 (Vm S rfl rfl fun a S=>Cq S rfl rfl rfl hb1 (Vb S Sb rfl rfl rfl fun a S=>lv S (Gb hb1 (S.tm rfl) (S.tm rfl)) rfl fun a S=>Dl (⟨Keep.refl _ _,S.nf [] rfl ⟨rfl,trivial⟩⟩))))
  ·iterate 3 (refine Fl S rfl rfl rfl (Hq hb1) rfl ?_ rfl;clear S;intro a S)
   exact lv S (Gc (decide (Ar ≤ As)) hb1 (S.tm rfl) rfl) rfl fun a S=>Dl (⟨Keep.refl _ _,S.nf [] rfl ⟨rfl,trivial⟩⟩)
 clear S;rintro a w1 ⟨hk1,S⟩
 refine Va S rfl rfl fun a S=>Dl (wp_ret ?_)
 subst h
 exact Dx S results53 rfl rfl
theorem Po (w : World) (Ap : Int) (r : Bool) (h : Ht Ap = r) :
    Calls prog 44 [iV Ap].toArray w (Ret w [] fun _ v _=>v = bV r):=by
 refine Fe func44 rfl ntmps44 rfl fun a S=>?_
 unfold Ht at h
 replace S:=S.k1 0 rfl
 refine Fr (Vk S rfl rfl fun a S=>Dz (Vm S rfl rfl fun a S=>Cy S (fun _=>Ck (vs:=[iV Ap,iV 0,iV 345686399999]) ⟨(S.tm rfl),rfl,rfl,trivial⟩ call53) (Lo _ Ap 0 345686399999 _ rfl) rfl ?_));clear S;intro v1 a w1 hv1 hk1 hn1 S
 subst hv1
 refine Va S rfl rfl fun a S=>Dl (wp_ret ?_)
 subst h
 exact Dx S results44 rfl rfl
theorem Sj (w : World) (s : ByteArray) (c : Int) (r : Int) (h : Mh s c = r) : Calls prog 90 [.string s,.int .u8 c].toArray w (Ret w [] fun _ v _=>v = .int .i64 r):=by
  subst h
  exact Pu (Any.strings_IndexByte Tryz.lays137 s c w)
theorem Qo (w : World) (Ae : ByteArray) (Bt : ByteArray) (r : Bool) (h : Ma Ae Bt = some r) :
    Calls prog 65 [sV Ae,sV Bt].toArray w (Ret w [] fun _ v _=>v = bV r):=by
 refine Fe func65 rfl ntmps65 rfl fun a S=>?_
 unfold Ma at h
 replace S:=S.k2 0 1 rfl
 refine Fr (Vk S rfl rfl fun a S=>Dl (Fs (Fr (Vm S rfl rfl fun a S=>Vu S (Qx underlying9) rfl rfl fun a S=>lv S (Rm rfl) rfl ?_))));clear S;intro a S
 refine Dl ?_
 replace S:=S.k4 0 1 7 8 rfl
 obtain ⟨j1,hj1,h⟩:=Dt h
 refine Dj (fun a w'=>j1 = some r ∧ Sx w [] nov [] [] 18 a w') ?_ ?_
 ·refine wp_block (Gt (fun (m1 : Nat) a w'=>∃ x1 : Int,Hn Ae Bt j1 m1 x1 = some r ∧ Sx w [] nov [] [(0,sV Ae),(1,sV Bt),(7,iV (Ae.size : Int)),(8,iV x1)] 18 a w') id (((Ae.size : Int) - 0).toNat + 2) ⟨0,h,S.nf [] rfl (subR rfl)⟩ ?_)
  clear S h;rintro m1 a w1 ⟨x1,h,S⟩
  cases m1 with
  | zero=>rw [Hn.eq_1] at h;cases h
  | succ m1 =>
   rw [Hn.eq_2] at h
   refine Fr (Vb S Ee rfl rfl rfl fun a S=>Dl (Fs (Fc h (S.tm rfl) (fun hb1 h=>?_) (fun hb1 h=>?_))))
   ·refine wp_skip (Tn (Fs (wp_block (Fr (Vm S rfl rfl fun a S=>Va S rfl rfl fun a S=>Dl (Fs ?_))))))
    refine Fg ?_
    iterate 3 (refine Vm S rfl rfl ?_;clear S;intro a S)
    obtain ⟨hc1,h⟩:=Gz h
    refine lv S (Te underlying9 (S.tm rfl) (S.tm rfl) hc1) rfl fun a S=>Cy S (fun _=>Ck (vs:=[sV Bt,.int .u8 (Rv Ae x1)]) ⟨(S.tm rfl),(S.tm rfl),trivial⟩ call90) (Sj _ Bt (Rv Ae x1) _ rfl) rfl ?_;clear S;intro v1 a w3 hv1 hk1 hn1 S
    subst hv1
    refine Vq S Ee rfl rfl rfl fun a S=>Dl (Fc h (S.tm rfl) (fun hb2 h=>?_) (fun hb2 h=>?_))
    ·refine Fr (Vk S rfl rfl fun a S=>Dl (wp_ret (Fa (Cn (Cn (Fa (Cn ?_)))))))
     refine Cn ?_
     obtain rfl:=Option.some.inj h
     exact Dx S results65 rfl rfl
    ·exact wp_skip (Hj (Tn (Fg (Vq S Ew rfl rfl rfl fun a S=>Vm S rfl rfl fun a S=>Dl (⟨m1,⟨W (x1 + 1),h,S.nf [] rfl ⟨rfl,rfl,rfl,rfl,trivial⟩⟩,Nat.lt_succ_self _⟩)))))
   ·exact wp_exit (Eb (Eb (Gj (Tn (⟨h,S.nf [] rfl trivial⟩)))))
 clear S h;rintro a w2 ⟨h,S⟩;rw [hj1] at h;clear hj1 j1
 refine Tn (Fr (Vk S rfl rfl fun a S=>Dl (wp_ret ?_)))
 obtain rfl:=Option.some.inj h
 exact Dx S results65 rfl rfl
theorem Kd (w : World) (Ae : ByteArray) (r : Bool) (h : Ic Ae = some r) :
    Calls prog 52 [sV Ae].toArray w (Ret w [] fun _ v _=>v = bV r):=by
 refine Fe func52 rfl ntmps52 rfl fun a S=>?_
 unfold Ic at h
 replace S:=S.k1 0 rfl
 refine Fr (Vk S rfl rfl fun a S=>Dz (Vm S rfl rfl fun a S=>Vu S (Qx underlying9) rfl rfl fun a S=>Cy S (fun _=>Ck (vs:=[iV (Ae.size : Int),iV 1,iV 40]) ⟨(S.tm rfl),rfl,rfl,trivial⟩ call53) (Lo _ (Ae.size : Int) 1 40 _ rfl) rfl ?_));clear S;intro v1 a w1 hv1 hk1 hn1 S
 subst hv1
 refine Vm S rfl rfl ?_;clear S;intro a S
 obtain ⟨j1,hj1,h⟩:=Dt h
 refine Gi 4 (fun a w'=>∃ c1,j1 c1 = some r ∧ Keep [] w1 w' ∧ Sx w [] nov [] [(0,sV Ae),(10,bV c1)] 15 a w') ?_ ?_
 ·rcases Bool.eq_false_or_eq_true (Em (Ae.size : Int) 1 40) with hb1 | hb1
  ·replace h:=Mu h hb1
   refine Cq S rfl rfl rfl hb1 (Vm S rfl rfl fun a S=>Cq S rfl rfl rfl hb1 ?_)
   obtain ⟨hc1,h⟩:=Gz h
   refine lv S (CN underlying9 (S.tm rfl) rfl hc1) rfl fun a S=>Cq S rfl rfl rfl hb1 ?_
   obtain ⟨r1,hr1,h⟩:=Eh h
   refine Cy S (fun _=>Ck (vs:=[sV (Zk Ae 0 1),sV Ha]) ⟨(S.tm rfl),rfl,trivial⟩ call65) (Qo _ (Zk Ae 0 1) Ha _ hr1) rfl ?_;clear S;intro v2 a w3 hv2 hk2 hn2 S
   subst hv2
   exact lv S (Gb hb1 (S.tm rfl) (S.tm rfl)) rfl fun a S=>Dl (⟨_,h,hk2,S.nf [] rfl (subR rfl)⟩)
  ·replace h:=Mv h hb1
   iterate 3 (refine Fl S rfl rfl rfl (Hq hb1) rfl ?_ rfl;clear S;intro a S)
   exact Vq S (Gc true hb1) rfl rfl rfl fun a S=>Dl (⟨_,h,Keep.refl _ _,S.nf [] rfl (subR rfl)⟩)
 clear S h;rintro a w2 ⟨c1,h,hk3,S⟩;rw [hj1] at h;clear hj1 j1
 refine Vm S rfl rfl ?_;clear S;intro a S
 obtain ⟨j2,hj2,h⟩:=Dt h
 refine Gi 3 (fun a w'=>∃ c2,j2 c2 = some r ∧ Keep [] w2 w' ∧ Sx w [] nov [] [(14,bV c2)] 15 a w') ?_ ?_
 ·rcases Bool.eq_false_or_eq_true c1 with hb2 | hb2
  ·replace h:=Mu h hb2
   refine Cq S rfl rfl rfl hb2 (Vm S rfl rfl fun a S=>Cq S rfl rfl rfl hb2 ?_)
   obtain ⟨r2,hr2,h⟩:=Eh h
   refine Cy S (fun _=>Ck (vs:=[sV Ae,sV Ez]) ⟨(S.tm rfl),rfl,trivial⟩ call65) (Qo _ Ae Ez _ hr2) rfl ?_;clear S;intro v3 a w5 hv3 hk4 hn3 S
   subst hv3
   exact lv S (Gb hb2 (S.tm rfl) (S.tm rfl)) rfl fun a S=>Dl (⟨_,h,hk4,S.nf [] rfl ⟨rfl,trivial⟩⟩)
  ·replace h:=Mv h hb2
   exact Fl S rfl rfl rfl (Hq hb2) rfl (fun a S=>Fl S rfl rfl rfl (Hq hb2) rfl (fun a S=>Vq S (Gc true hb2) rfl rfl rfl fun a S=>Dl (⟨_,h,Keep.refl _ _,S.nf [] rfl ⟨rfl,trivial⟩⟩)) rfl) rfl
 clear S h;rintro a w4 ⟨c2,h,hk5,S⟩;rw [hj2] at h;clear hj2 j2
 refine Va S rfl rfl fun a S=>Dl (wp_ret ?_)
 obtain rfl:=Option.some.inj h
 exact Dx S results52 rfl rfl
theorem Rz (w : World) (Ae : An) (r : Int) (h : Kq Ae = some r) :
    Calls prog 42 [.agg (An.enc Ae).toArray].toArray w (Ret w [] fun _ v _=>v = iV r):=by
 refine Fe func42 rfl ntmps42 rfl fun a S=>?_
 unfold Kq at h
 replace S:=S.k1 0 rfl
 refine Fr (Oh S (S.tm rfl) (cs:=(An.enc Ae)) rfl rfl ?_);clear S;intro a w1 b1 hz1 hk1 S
 refine Vk S rfl rfl fun a S=>Dl (Fs (wp_block (Fr (Vf Lj S rfl rfl fun a S=>Vl isAgg3 0 S rfl rfl rfl rfl fun a S=>Cy S (fun _=>Ck (vs:=[iV Ae.At]) ⟨(S.tm rfl),trivial⟩ call44) (Po _ Ae.At _ rfl) rfl ?_))));clear S;intro v1 a w2 hv1 hk2 hn1 S
 subst hv1
 refine Vu S Ih rfl rfl fun a S=>Va S rfl rfl fun a S=>Dl (Fc h (S.tm rfl) (fun hb1 h=>?_) (fun hb1 h=>?_))
 ·refine Fr (Vk S rfl rfl fun a S=>Dl (wp_ret (Fa (Cn ?_))))
  obtain rfl:=Option.some.inj h
  exact Dx S results42 rfl rfl
 ·refine Fr (Vf Jq S rfl rfl fun a S=>Vl isAgg3 0 S rfl rfl rfl rfl fun a S=>Cy S (fun _=>Ck (vs:=[iV Ae.Kind,iV 1,iV 3]) ⟨(S.tm rfl),rfl,rfl,trivial⟩ call53) (Lo _ Ae.Kind 1 3 _ rfl) rfl ?_);clear S;intro v2 a w3 hv2 hk3 hn2 S
  subst hv2
  refine Vu S Ih rfl rfl fun a S=>Va S rfl rfl fun a S=>Dl (Fc h (S.tm rfl) (fun hb2 h=>?_) (fun hb2 h=>?_))
  ·refine Fr (Vk S rfl rfl fun a S=>Dl (wp_ret (Fa (Cn ?_))))
   obtain rfl:=Option.some.inj h
   exact Dx S results42 rfl rfl
  ·refine Fr (Vf Iw S rfl rfl fun a S=>Vl isAgg9 0 S rfl rfl rfl rfl ?_);clear S;intro a S
   obtain ⟨r1,hr1,h⟩:=Eh h
   refine Cy S (fun _=>Ck (vs:=[sV Ae.Id]) ⟨(S.tm rfl),trivial⟩ call52) (Kd _ Ae.Id _ hr1) rfl ?_;clear S;intro v3 a w4 hv3 hk4 hn3 S
   subst hv3
   refine Vu S Ih rfl rfl fun a S=>Va S rfl rfl fun a S=>Ld ?_
   replace S:=(S.nl [.blk b1 (An.enc Ae) 35] [true] rfl).k2 1 13 rfl
   refine Tn (Fc h (S.tm rfl) (fun hb3 h=>?_) (fun hb3 h=>?_))
   ·refine Fr (Vk S rfl rfl fun a S=>Dl (wp_ret (Fa (Cn ?_))))
    obtain rfl:=Option.some.inj h
    exact Dx S results42 rfl rfl
   ·refine wp_skip (Hj (Tn (Fs (Fr (Vf Jq S rfl rfl fun a S=>Vl isAgg3 0 S rfl rfl rfl rfl fun a S=>Vq S Kg rfl rfl rfl fun a S=>Dl ?_)))))
    refine Fc h (S.tm rfl) (fun hb4 h=>?_) (fun hb4 h=>?_)
    ·refine Fs (Fr (lv S (Ey isAgg35 sizeOf35 (off:=0) (o:=0) (part:=(An.enc Ae)) rfl rfl (S.tm rfl) (S.cellsAt (i:=0) rfl)) rfl fun a S=>Vf Lj S rfl rfl fun a S=>Vl isAgg3 0 S rfl rfl rfl rfl fun a S=>Vf Jq S rfl rfl fun a S=>Vl isAgg3 0 S rfl rfl rfl rfl fun a S=>Vf Iw S rfl rfl fun a S=>Vl isAgg9 0 S rfl rfl rfl rfl fun a S=>lv S (Rb Zy (pv:=[(0,iV Ae.At),(1,iV Ae.Kind),(2,sV Ae.Id)]) ⟨rfl,(S.tm rfl),rfl,(S.tm rfl),rfl,(S.tm rfl),trivial⟩ (cs:=[iV Ae.At,iV Ae.Kind,sV Ae.Id,sV Cj,sV Cj,sV Cj,iV 0,iV 0]) (by kernel_rfl)) rfl ?_));clear S;intro a S
     refine lv S (Ql (m:=Ae) (n:=(An.mk Ae.At Ae.Kind Ae.Id Cj Cj Cj 0 0)) (S.tm rfl) (S.tm rfl)) rfl fun a S=>Dl (Fc h (S.tm rfl) (fun hb5 h=>?_) (fun hb5 h=>?_))
     ·refine Fr (Vk S rfl rfl fun a S=>Ld ?_)
      replace S:=S.n0.k1 2 rfl
      refine Tn (wp_ret (Cn (Cn ?_)))
      obtain rfl:=Option.some.inj h
      exact Dx S results42 rfl rfl
     ·refine wp_skip (Tn (Fr (Vk S rfl rfl fun a S=>Ld ?_)))
      replace S:=S.n0.k1 2 rfl
      refine Tn (wp_ret (Cn ?_))
      obtain rfl:=Option.some.inj h
      exact Dx S results42 rfl rfl
    ·refine wp_skip (Tn (Fs (wp_block (Fr (Vf St S rfl rfl fun a S=>Vl isAgg9 0 S rfl rfl rfl rfl ?_)))));clear S;intro a S
     obtain ⟨r2,hr2,h⟩:=Eh h
     refine Cy S (fun _=>Ck (vs:=[sV Ae.Who]) ⟨(S.tm rfl),trivial⟩ call52) (Kd _ Ae.Who _ hr2) rfl ?_;clear S;intro v4 a w5 hv4 hk5 hn4 S
     subst hv4
     refine Vu S Ih rfl rfl fun a S=>Vm S rfl rfl ?_;clear S;intro a S
     obtain ⟨j1,hj1,h⟩:=Dt h
     refine Gi 5 (fun a w'=>∃ c1,j1 c1 = some r ∧ Keep [] w5 w' ∧ Sx w [] nov [.blk b1 (An.enc Ae) 35] [(1,.pointer (some ⟨b1,0,none⟩)),(40,bV c1)] 63 a w') ?_ ?_
     ·rcases Bool.eq_false_or_eq_true (!r2) with hb6 | hb6
      ·replace h:=Mu h hb6
       iterate 4 (refine Fl S rfl rfl rfl (Pc hb6) rfl ?_ rfl;clear S;intro a S)
       exact Vq S (Ml true hb6) rfl rfl rfl fun a S=>Dl (⟨_,h,Keep.refl _ _,S.nf [true] rfl (subR rfl)⟩)
      ·replace h:=Mv h hb6
       refine Cq S rfl rfl rfl hb6 (Vf Rd S rfl rfl fun a S=>Cq S rfl rfl rfl hb6 (Vl isAgg9 0 S rfl rfl rfl rfl fun a S=>Cq S rfl rfl rfl hb6 ?_))
       obtain ⟨r3,hr3,h⟩:=Eh h
       refine Cy S (fun _=>Ck (vs:=[sV Ae.Race]) ⟨(S.tm rfl),trivial⟩ call52) (Kd _ Ae.Race _ hr3) rfl ?_;clear S;intro v5 a w7 hv5 hk6 hn5 S
       subst hv5
       exact Cq S rfl rfl rfl hb6 (Vu S Ih rfl rfl fun a S=>lv S (Mm hb6 (S.tm rfl) (S.tm rfl)) rfl fun a S=>Dl (⟨_,h,hk6,S.nf [true] rfl (subR rfl)⟩))
     clear S h;rintro a w6 ⟨c1,h,hk7,S⟩;rw [hj1] at h;clear hj1 j1
     refine Vm S rfl rfl ?_;clear S;intro a S
     obtain ⟨j2,hj2,h⟩:=Dt h
     refine Gi 10 (fun a w'=>∃ c2,j2 c2 = some r ∧ Keep [] w6 w' ∧ Sx w [] nov [.blk b1 (An.enc Ae) 35] [(1,.pointer (some ⟨b1,0,none⟩)),(51,bV c2)] 63 a w') ?_ ?_
     ·rcases Bool.eq_false_or_eq_true c1 with hb7 | hb7
      ·replace h:=Mu h hb7
       iterate 4 (refine Fl S rfl rfl rfl (Pc hb7) rfl ?_ rfl;clear S;intro a S)
       iterate 4 (refine Yr S rfl rfl rfl rfl ?_;clear S;intro a S)
       exact Fl S rfl rfl rfl (Pc hb7) rfl (fun a S=>Vq S (Ml true hb7) rfl rfl rfl fun a S=>Dl (⟨_,h,Keep.refl _ _,S.nf [true] rfl (subR rfl)⟩)) rfl
      ·replace h:=Mv h hb7
       refine Cq S rfl rfl rfl hb7 (Vf Ph S rfl rfl fun a S=>Cq S rfl rfl rfl hb7 (Vl isAgg9 0 S rfl rfl rfl rfl fun a S=>Cq S rfl rfl rfl hb7 (Vq S Vx rfl rfl rfl fun a S=>Cq S rfl rfl rfl hb7 (Vm S rfl rfl ?_))));clear S;intro a S
       obtain ⟨j3,hj3,h⟩:=Dt h
       refine Gi 5 (fun a w'=>∃ c3,j3 c3 = some r ∧ Keep [] w6 w' ∧ Sx w [] nov [.blk b1 (An.enc Ae) 35] [(1,.pointer (some ⟨b1,0,none⟩)),(41,bV c1),(50,bV c3)] 63 a w') ?_ ?_
       ·rcases Bool.eq_false_or_eq_true (!decide (Ae.Club = Cj)) with hb8 | hb8
        ·replace h:=Mu h hb8
         refine Cq S rfl rfl rfl hb8 (Vf Ph S rfl rfl fun a S=>Cq S rfl rfl rfl hb8 (Vl isAgg9 0 S rfl rfl rfl rfl fun a S=>Cq S rfl rfl rfl hb8 ?_))
         obtain ⟨r4,hr4,h⟩:=Eh h
         refine Cy S (fun _=>Ck (vs:=[sV Ae.Club]) ⟨(S.tm rfl),trivial⟩ call52) (Kd _ Ae.Club _ hr4) rfl ?_;clear S;intro v6 a w10 hv6 hk8 hn6 S
         subst hv6
         exact Cq S rfl rfl rfl hb8 (Vu S Ih rfl rfl fun a S=>Cq S rfl rfl rfl hb7 (lv S (Gb hb8 (S.tm rfl) (S.tm rfl)) rfl fun a S=>Dl (⟨_,h,hk8,S.nf [true] rfl (subR rfl)⟩)))
        ·replace h:=Mv h hb8
         iterate 4 (refine Fl S rfl rfl rfl (Hq hb8) rfl ?_ rfl;clear S;intro a S)
         exact Cq S rfl rfl rfl hb7 (Vq S (Gc true hb8) rfl rfl rfl fun a S=>Dl (⟨_,h,Keep.refl _ _,S.nf [true] rfl (subR rfl)⟩))
       clear S h;rintro a w9 ⟨c3,h,hk9,S⟩;rw [hj3] at h;clear hj3 j3
       exact lv S (Mm hb7 (S.tm rfl) (S.tm rfl)) rfl fun a S=>Dl (⟨_,h,hk9,S.nf [true] rfl (subR rfl)⟩)
     clear S h;rintro a w8 ⟨c2,h,hk10,S⟩;rw [hj2] at h;clear hj2 j2
     refine Va S rfl rfl fun a S=>Dl (Fc h (S.tm rfl) (fun hb9 h=>?_) (fun hb9 h=>?_))
     ·refine Fr (Vk S rfl rfl fun a S=>Dl (wp_ret (Fa (Cn ?_))))
      obtain rfl:=Option.some.inj h
      exact Dx S results42 rfl rfl
     ·refine Fr (Vf Wc S rfl rfl fun a S=>Vl isAgg3 0 S rfl rfl rfl rfl fun a S=>Cy S (fun _=>Ck (vs:=[iV Ae.Age,iV 0,iV 150]) ⟨(S.tm rfl),rfl,rfl,trivial⟩ call53) (Lo _ Ae.Age 0 150 _ rfl) rfl ?_);clear S;intro v7 a w11 hv7 hk11 hn7 S
      subst hv7
      refine Vu S Ih rfl rfl fun a S=>Vm S rfl rfl fun a S=>Gi 5 (fun a w'=>Keep [] w11 w' ∧ Sx w [] nov [.blk b1 (An.enc Ae) 35] [(62,bV ((!(Em Ae.Age 0 150)) || (!(Em Ae.Time 1 360000))))] 63 a w') ?_ ?_
      ·rcases Bool.eq_false_or_eq_true (!(Em Ae.Age 0 150)) with hb10 | hb10
       ·iterate 4 (refine Fl S rfl rfl rfl (Pc hb10) rfl ?_ rfl;clear S;intro a S)
        exact lv S (Ml (!(Em Ae.Time 1 360000)) hb10 (S.tm rfl) rfl) rfl fun a S=>Dl (⟨Keep.refl _ _,S.nf [true] rfl ⟨rfl,trivial⟩⟩)
       ·refine Cq S rfl rfl rfl hb10 (Vf Uc S rfl rfl fun a S=>Cq S rfl rfl rfl hb10 (Vl isAgg3 0 S rfl rfl rfl rfl fun a S=>Cq S rfl rfl rfl hb10 (Cy S (fun _=>Ck (vs:=[iV Ae.Time,iV 1,iV 360000]) ⟨(S.tm rfl),rfl,rfl,trivial⟩ call53) (Lo _ Ae.Time 1 360000 _ rfl) rfl ?_)));clear S;intro v8 a w13 hv8 hk12 hn8 S
        subst hv8
        exact Cq S rfl rfl rfl hb10 (Vu S Ih rfl rfl fun a S=>lv S (Mm hb10 (S.tm rfl) (S.tm rfl)) rfl fun a S=>Dl (⟨hk12,S.nf [true] rfl ⟨rfl,trivial⟩⟩))
      clear S;rintro a w12 ⟨hk13,S⟩
      refine Va S rfl rfl fun a S=>Dl (Fc h (S.tm rfl) (fun hb11 h=>?_) (fun hb11 h=>?_))
      ·refine Fr (Vk S rfl rfl fun a S=>Dl (wp_ret (Fa (Cn ?_))))
       obtain rfl:=Option.some.inj h
       exact Dx S results42 rfl rfl
      ·refine wp_skip (Hj (Tn (Fr (Vk S rfl rfl fun a S=>Dl (wp_ret ?_)))))
       obtain rfl:=Option.some.inj h
       exact Dx S results42 rfl rfl
set_option maxRecDepth 20000 in
theorem Oa (w : World) (Ac : Value) (Al : List An) (Ak : Slc (view w []) 8 Ac (Al.map An.enc)) (r : Int) (h : Hy Al = some r) :
    Calls prog 14 [Ac].toArray w (Ret w [] fun _ v _=>v = iV r):=by
 refine Fe func14 rfl ntmps14 rfl fun a S=>?_
 unfold Hy at h
 replace S:=S.k1 0 rfl
 refine Fr (Vk S rfl rfl fun a S=>Dl (Fs (Fr (Vm S rfl rfl fun a S=>lv S (En Eo (S.tm rfl) (Eg Ak)) rfl fun a S=>Vq S Ix rfl rfl rfl ?_))));clear S;intro a S
 refine Dl (Fc h (S.tm rfl) (fun hb1 h=>?_) (fun hb1 h=>?_))
 ·refine Fr (Vk S rfl rfl fun a S=>Dl (wp_ret (Cn ?_)))
  obtain rfl:=Option.some.inj h
  exact Dx S results14 rfl rfl
 ·refine wp_skip (Tn (Fs (Fr (Vm S rfl rfl fun a S=>lv S (En Eo (S.tm rfl) (Eg Ak)) rfl fun a S=>lv S (Rm rfl) rfl fun a S=>Dl ?_))))
  replace S:=S.k4 0 9 10 11 rfl
  obtain ⟨j1,hj1,h⟩:=Dt h
  refine Dj (fun a w'=>j1 = some r ∧ Sx w [] nov [] [] 34 a w') ?_ ?_
  ·refine wp_block (Gt (fun (ys1 : List An) a w'=>∃ i1 : Nat,(∃ dn,Al = dn ++ ys1 ∧ dn.length = i1) ∧ Fq Al j1 ys1 i1 = some r ∧ Sx w [] nov [] [(0,Ac),(9,Ac),(10,iV (Al.length : Int)),(11,iV (i1 : Int))] 34 a w') List.length Al ⟨0,⟨[],rfl,rfl⟩,h,S.nf [] rfl (subR rfl)⟩ ?_)
   clear S h;rintro ys1 a w1 ⟨i1,⟨dn,hd1,hi1⟩,h,S⟩
   cases ys1 with
   | nil =>
    rw [Fq.eq_1] at h
    refine Fr (Vb S Ee rfl rfl rfl fun a S=>Ld ?_)
    replace S:=S.k5 0 9 10 11 12 rfl
    exact Tn (Fs (wp_cond_false ((S.tm rfl).trans (congrArg Value.bool (Ig hd1 hi1))) (wp_exit (Eb (Eb (Gj (Tn (⟨h,S.nf [] rfl trivial⟩))))))))
   | cons y1 ys1 =>
    rw [Fq.eq_2] at h
    refine Fr (Vb S Ee rfl rfl rfl fun a S=>Ld ?_)
    replace S:=S.k5 0 9 10 11 12 rfl
    refine Tn (Fs (wp_cond_true ((S.tm rfl).trans (congrArg Value.bool (Hh hd1 hi1))) (wp_skip (Tn (Fs (wp_block (Fr (Vm S rfl rfl ?_))))))));clear S;intro a S
    obtain ⟨b1,o1,hm1,hr1⟩:=Ev (a:=a) (x:=.tmp 9) (y:=.tmp 11) (ty:=0) Eo Ak (Ie hd1 hi1) rfl (S.tm rfl) (S.tm rfl)
    refine lv S (hr1 _) rfl ?_;clear S;intro a S
    clear hr1
    refine lv S (Ey isAgg35 sizeOf35 (off:=o1) (o:=0) (part:=(An.enc y1)) rfl rfl (S.tm rfl) (hm1.at S.emb0)) rfl fun a S=>Lq S zeroValue35 (cs:=[iV 0,iV 0,sV Cj,sV Cj,sV Cj,sV Cj,iV 0,iV 0]) rfl rfl ?_;clear S;intro a w3 b2 hz1 hk1 S
    refine Va S rfl rfl fun a S=>Gy S (S.tm rfl) (S.tm rfl) (i:=0) (off:=0) rfl sizeOf35 (vs:=(An.enc y1)) rfl rfl rfl rfl ?_;clear S;intro w4 hk2 S
    refine Dl (Fs (Fr (lv S (Ey isAgg35 sizeOf35 (off:=0) (o:=0) (part:=(An.enc y1)) rfl rfl (S.tm rfl) (S.cellsAt (i:=0) rfl)) rfl ?_)));clear S;intro a S
    obtain ⟨r1,hr2,h⟩:=Eh h
    refine Cy S (fun _=>Ck (vs:=[.agg (An.enc y1).toArray]) ⟨(S.tm rfl),trivial⟩ call42) (Rz _ y1 _ hr2) rfl ?_;clear S;intro v1 a w5 hv1 hk3 hn1 S
    subst hv1
    refine Va S rfl rfl fun a S=>Dz (Vm S rfl rfl fun a S=>Vq S Kg rfl rfl rfl fun a S=>Ld ?_)
    replace S:=(S.nl [.blk b2 (An.enc y1) 35] [true] rfl).k8 0 3 4 5 9 10 11 19 rfl
    refine Tn (Fc h (S.tm rfl) (fun hb2 h=>?_) (fun hb2 h=>?_))
    ·refine Fr (Vm S rfl rfl fun a S=>Va S rfl rfl fun a S=>Dl (wp_ret (Cn (Fa (Cn (Cn ?_))))))
     refine Fa (Cn (Cn ?_))
     obtain rfl:=Option.some.inj h
     exact Dx S results14 rfl rfl
    ·refine wp_skip (Tn (Fs ?_))
     obtain ⟨j2,hj2,h⟩:=Dt h
     refine Dj (fun a w'=>∃ x1 : Bool,j2 x1 = some r ∧ Sx w [] nov [] [(0,Ac),(9,Ac),(10,iV (Al.length : Int)),(11,iV (i1 : Int)),(32,bV x1)] 34 a w') ?_ ?_
     ·rcases Bool.eq_false_or_eq_true (decide (0 < (i1 : Int))) with hb3 | hb3
      ·replace h:=Mu h hb3
       obtain ⟨hc1,h⟩:=Gz h
       refine Fi [] ([]) Tryz.mixed S rfl (by kernel_rfl) ?_;clear S;intro w8 hk5 hsel S
       refine Co 0 S hsel rfl rfl rfl (by kernel_rfl) (by kernel_rfl) rfl (fun _ hw=>(Rm (S.tm rfl))) fun a S=>Co 1 S hsel rfl rfl rfl (by kernel_rfl) (by kernel_rfl) rfl (fun _ hw=>(Ix (S.tm rfl) rfl)) fun a S=>Co 2 S hsel rfl rfl rfl (by kernel_rfl) (by kernel_rfl) rfl (fun _ hw=>(Rm (S.tm rfl))) fun a S=>Et 3 S hsel rfl rfl rfl rfl hb3 rfl rfl (by kernel_rfl) (by kernel_rfl) rfl (fun _ hw=>(Rm (S.tm rfl))) fun a S=>Et 4 S hsel rfl rfl rfl rfl hb3 rfl rfl (by kernel_rfl) (by kernel_rfl) rfl (fun _ hw=>(Rm (S.tm rfl))) fun a S=>Et 5 S hsel rfl rfl rfl rfl hb3 rfl rfl (by kernel_rfl) (by kernel_rfl) rfl (fun _ hw=>(Hs (S.tm rfl) rfl)) ?_;clear S;intro a S
       obtain ⟨b4,o3,hm3,hr4⟩:=Ev (a:=a) (x:=.tmp 24) (y:=.tmp 26) (ty:=0) Eo (Ak.mono (S.le_arg Fp)) (Ct hc1).1 (Ct hc1).2 (S.tm rfl) (S.tm rfl)
       refine Et 6 S hsel rfl rfl rfl rfl hb3 rfl rfl (by kernel_rfl) (by kernel_rfl) rfl (fun _ hw=>hr4 _) ?_;clear S;intro a S
       clear hr4
       refine Et 7 S hsel rfl rfl rfl rfl hb3 rfl rfl (by kernel_rfl) (by kernel_rfl) rfl (fun _ hw=>(Ey isAgg35 sizeOf35 (off:=o3) (o:=0) (part:=(An.enc (nth Al (W ((i1 : Int) - 1))))) rfl rfl (S.tm rfl) (hm3.kept hw))) fun a S=>Et 8 S hsel rfl rfl rfl rfl hb3 rfl rfl (by kernel_rfl) (by kernel_rfl) rfl (fun _ hw=>(Ey isAgg35 sizeOf35 (off:=0) (o:=0) (part:=(An.enc y1)) rfl rfl (S.tm rfl) ((S.blk_mem (i:=0) (cells:=(An.enc y1)) (b:=b2) (T:=35) rfl (Ge (e':=.blk b2 (An.enc y1) 35))).kept hw))) fun a S=>Ea 9 (by kernel_rfl) rfl (Cq S rfl rfl rfl hb3 (Cy S (fun _=>Ck (vs:=[.agg (An.enc (nth Al (W ((i1 : Int) - 1)))).toArray,.agg (An.enc y1).toArray]) ⟨(S.tm rfl),(S.tm rfl),trivial⟩ call33) (Hz _ (nth Al (W ((i1 : Int) - 1))) y1 _ rfl) rfl ?_));clear S;intro v3 a w9 hv3 hk6 hn3 S
       subst hv3
       refine Ld (Ej hk6 (Iy [10,11] hsel (by kernel_rfl) rfl ?_))
       clear hsel
       refine Ng S rfl rfl rfl rfl hb3 (Oi S (Td (S.tm rfl) rfl) rfl fun a S=>Fb S rfl (Nm hb3 (S.tm rfl) (S.tm rfl)) rfl fun a S=>Ik ?_)
       replace S:=S.n0.k13 0 9 10 11 24 25 26 27 28 29 30 31 32 rfl
       exact Tn (⟨decide (0 ≤ (Df (nth Al (W ((i1 : Int) - 1))) y1)),h,S.nf [] rfl (subR rfl)⟩)
      ·replace h:=Mv h hb3
       refine Fi [] ([]) Tryz.mixed S rfl (by kernel_rfl) ?_;clear S;intro w10 hk7 hsel S
       refine Iy [0,1,2,3,4,5,6,7,8,9,10,11] hsel (by kernel_rfl) rfl ?_
       clear hsel
       refine Fb S rfl (Rm (S.tm rfl)) rfl fun a S=>Fb S rfl (Ix (S.tm rfl) rfl) rfl fun a S=>Fb S rfl (Rm (S.tm rfl)) rfl ?_;clear S;intro a S
       iterate 8 (refine Tf S rfl rfl rfl rfl (Hq hb3) rfl ?_ rfl;clear S;intro a S)
       refine Fb S rfl (Nn hb3 (S.tm rfl) rfl) rfl fun a S=>Ik ?_
       replace S:=S.n0.k5 0 9 10 11 32 rfl
       exact Tn (⟨false,h,S.nf [] rfl (subR rfl)⟩)
     clear S h;rintro a w6 ⟨x1,h,S⟩;rw [hj2] at h;clear hj2 j2
     refine Tn (Fc h (S.tm rfl) (fun hb4 h=>?_) (fun hb4 h=>?_))
     ·refine Fr (Vk S rfl rfl fun a S=>Dl (wp_ret (Fa (Cn (Cn (Fa (Cn ?_)))))))
      refine Cn ?_
      obtain rfl:=Option.some.inj h
      exact Dx S results14 rfl rfl
     ·exact wp_skip (Hj (Tn (Fg (Vq S Ew rfl rfl rfl fun a S=>Vm S rfl rfl fun a S=>Dl (⟨ys1,⟨i1 + 1,⟨_,(hd1).trans (List.append_cons _ _ _),by simp [hi1]⟩,h,S.nf [] rfl ⟨rfl,rfl,rfl,(congrArg (fun z=>some (Value.int .i64 z)) (Hi hd1 hi1 (Jk Ak))),trivial⟩⟩,Nat.lt_succ_self _⟩)))))
  clear S h;rintro a w2 ⟨h,S⟩;rw [hj1] at h;clear hj1 j1
  refine Tn (Fr (Vk S rfl rfl fun a S=>Dl (wp_ret ?_)))
  obtain rfl:=Option.some.inj h
  exact Dx S results14 rfl rfl
theorem Qp (w : World) (Ac : Value) (Al : List Int) (Ak : Slc (view w []) 1 Ac (Al.map eInt)) (r : Int) (h : Du Al = r) :
    Calls prog 15 [Ac].toArray w (Ret w [] fun _ v _=>v = iV r):=by
 refine Fe func15 rfl ntmps15 rfl fun a S=>?_
 unfold Du at h
 replace S:=S.k1 0 rfl
 refine Fr (Vk S rfl rfl fun a S=>Dl (Fs (Fr (Vm S rfl rfl fun a S=>lv S (En sl_75 (S.tm rfl) (Eg Ak)) rfl fun a S=>lv S (Rm rfl) rfl ?_))));clear S;intro a S
 refine Dl ?_
 replace S:=S.k3 5 6 7 rfl
 obtain ⟨j1,hj1,h⟩:=Dt h
 refine Dj (fun a w'=>j1 = r ∧ Sx w [] nov [] [] 15 a w') ?_ ?_
 ·refine wp_block (Gt (fun (ys1 : List Int) a w'=>∃ i1 : Nat,(∃ dn,Al = dn ++ ys1 ∧ dn.length = i1) ∧ Gq j1 ys1 i1 = r ∧ Sx w [] nov [] [(5,Ac),(6,iV (Al.length : Int)),(7,iV (i1 : Int))] 15 a w') List.length Al ⟨0,⟨[],rfl,rfl⟩,h,S.nf [] rfl (subR rfl)⟩ ?_)
  clear S h;rintro ys1 a w1 ⟨i1,⟨dn,hd1,hi1⟩,h,S⟩
  cases ys1 with
  | nil =>
   rw [Gq.eq_1] at h
   refine Fr (Vb S Ee rfl rfl rfl fun a S=>Ld ?_)
   replace S:=S.k4 5 6 7 8 rfl
   exact Tn (Fs (wp_cond_false ((S.tm rfl).trans (congrArg Value.bool (Ig hd1 hi1))) (wp_exit (Eb (Eb (Gj (Tn (⟨h,S.nf [] rfl trivial⟩))))))))
  | cons y1 ys1 =>
   rw [Gq.eq_2] at h
   refine Fr (Vb S Ee rfl rfl rfl fun a S=>Ld ?_)
   replace S:=S.k4 5 6 7 8 rfl
   refine Tn (Fs (wp_cond_true ((S.tm rfl).trans (congrArg Value.bool (Hh hd1 hi1))) (wp_skip (Tn (Fs (wp_block (Fs (Fg ?_))))))))
   obtain ⟨b1,o1,hm1,hr1⟩:=Ev (a:=a) (x:=.tmp 5) (y:=.tmp 7) (ty:=0) sl_75 Ak (Ie hd1 hi1) rfl (S.tm rfl) (S.tm rfl)
   refine lv S (hr1 _) rfl ?_;clear S;intro a S
   clear hr1
   refine lv S (Hr isAgg37 (off:=o1) (o:=0) (S.tm rfl) (hm1.at S.emb0) rfl) rfl fun a S=>Va S rfl rfl fun a S=>Dz (Vm S rfl rfl fun a S=>Vq S Kg rfl rfl rfl fun a S=>Dl (Fc h (S.tm rfl) (fun hb1 h=>?_) (fun hb1 h=>?_)))
   ·refine Fr (Vm S rfl rfl fun a S=>Va S rfl rfl fun a S=>Dl (wp_ret (Fa (Cn (Cn (Fa ?_))))))
    refine Cn (Cn ?_)
    subst h
    exact Dx S results15 rfl rfl
   ·exact wp_skip (Hj (Tn (Fg (Vq S Ew rfl rfl rfl fun a S=>Vm S rfl rfl fun a S=>Dl (⟨ys1,⟨i1 + 1,⟨_,(hd1).trans (List.append_cons _ _ _),by simp [hi1]⟩,h,S.nf [] rfl ⟨rfl,rfl,(congrArg (fun z=>some (Value.int .i64 z)) (Hi hd1 hi1 (Jk Ak))),trivial⟩⟩,Nat.lt_succ_self _⟩)))))
 clear S h;rintro a w2 ⟨h,S⟩;rw [hj1] at h;clear hj1 j1
 refine Tn (Fr (Vk S rfl rfl fun a S=>Dl (wp_ret ?_)))
 subst h
 exact Dx S results15 rfl rfl
theorem Uw (w : World) (Cg : Bool) (Ci : Int) (r : Int) (h : Om Cg Ci = r) :
    Calls prog 43 [bV Cg,iV Ci].toArray w (Ret w [] fun _ v _=>v = iV r):=by
 refine Fe func43 rfl ntmps43 rfl fun a S=>?_
 unfold Om at h
 replace S:=S.k2 0 1 rfl
 refine Fr (Vk S rfl rfl fun a S=>Dl (Fs (Fr (Vm S rfl rfl fun a S=>Dl ?_))))
 refine Fc h (S.tm rfl) (fun hb1 h=>?_) (fun hb1 h=>?_)
 ·refine Fr (Vm S rfl rfl fun a S=>Va S rfl rfl fun a S=>Dl (wp_ret (Cn ?_)))
  subst h
  exact Dx S results43 rfl rfl
 ·refine wp_skip (Tn (Fr (Vk S rfl rfl fun a S=>Dl (wp_ret ?_))))
  subst h
  exact Dx S results43 rfl rfl
theorem Qq (w : World) (Ap : Int) (r : Int) (h : Dd Ap = r) :
    Calls prog 16 [iV Ap].toArray w (Ret w [] fun _ v _=>v = iV r):=by
 refine Fe func16 rfl ntmps16 rfl fun a S=>?_
 unfold Dd at h
 replace S:=S.k1 0 rfl
 refine Fr (Vk S rfl rfl fun a S=>Dz (Vm S rfl rfl fun a S=>Cy S (fun _=>Ck (vs:=[iV Ap]) ⟨(S.tm rfl),trivial⟩ call44) (Po _ Ap _ rfl) rfl ?_));clear S;intro v1 a w1 hv1 hk1 hn1 S
 subst hv1
 refine Vu S Ih rfl rfl fun a S=>Cy S (fun _=>Ck (vs:=[bV (!(Ht Ap)),iV 1]) ⟨(S.tm rfl),rfl,trivial⟩ call43) (Uw _ (!(Ht Ap)) 1 _ rfl) rfl ?_;clear S;intro v2 a w2 hv2 hk2 hn2 S
 subst hv2
 refine Va S rfl rfl fun a S=>Dl (wp_ret ?_)
 subst h
 exact Dx S results16 rfl rfl
theorem Sy (w : World) (Ar : Int) (r : List An) (h : Mq Ar = some r) : Calls prog 63 [(.slice none 0 0),iV Ar].toArray w (Ret w [] fun τ v _=>Le τ 35 8 v r.length (r.flatMap An.enc)):=by
  unfold Mq at h
  obtain ⟨hc,h⟩:=Gz h
  obtain rfl:=Option.some.inj h
  simp only [Bool.and_eq_true,decide_eq_true_eq] at hc
  exact EE (enc:=An.enc) Tryz.laysg63 Eo rfl rfl hc.1 hc.2 w
theorem Sa (w : World) (Bo : Value) (Bk : List (List An)) (Bx : List RS) (Bi : Slc (view w []) 1 Bo (Bx.map RS.enc)) (Bj : Fn (Uu (view w [])) Bk Bx) (r : (List An)) (h : Kr Bk = some r) :
    Calls prog 45 [Bo].toArray w (Ret w [] fun τ v _=>Le τ 35 8 v r.length (r.flatMap An.enc)):=by
 refine Fe func45 rfl ntmps45 rfl fun a S=>?_
 unfold Kr at h
 replace S:=S.k1 0 rfl
 refine Fr (Vk S rfl rfl fun a S=>Dz (Vk S rfl rfl fun a S=>Dl (Fs ?_)))
 refine Fr (Vm S rfl rfl fun a S=>lv S (En BT (S.tm rfl) (Ot Bi Bj)) rfl fun a S=>lv S (Rm rfl) rfl fun a S=>Dl ?_)
 replace S:=S.k5 0 3 9 10 11 rfl
 obtain ⟨j1,hj1,h⟩:=Dt h
 refine Dj (fun a w'=>∃ x1 : Int,j1 x1 = some r ∧ Sx w [] nov [] [(0,Bo),(3,iV x1)] 36 a w') ?_ ?_
 ·refine wp_block (Gt (fun (ys1 : List (List An)) a w'=>∃ i1 : Nat,∃ x1 : Int,(∃ dn,Bk = dn ++ ys1 ∧ dn.length = i1) ∧ Fz j1 ys1 i1 x1 = some r ∧ Sx w [] nov [] [(0,Bo),(3,iV x1),(9,Bo),(10,iV (Bk.length : Int)),(11,iV (i1 : Int))] 36 a w') List.length Bk ⟨0,0,⟨[],rfl,rfl⟩,h,S.nf [] rfl (subR rfl)⟩ ?_)
  clear S h;rintro ys1 a w1 ⟨i1,x1,⟨dn,hd1,hi1⟩,h,S⟩
  cases ys1 with
  | nil =>
   rw [Fz.eq_1] at h
   refine Fr (Vb S Ee rfl rfl rfl fun a S=>Ld ?_)
   replace S:=S.k6 0 3 9 10 11 12 rfl
   exact Tn (Fs (wp_cond_false ((S.tm rfl).trans (congrArg Value.bool (Ig hd1 hi1))) (wp_exit (Eb (Eb (Gj (Tn (⟨x1,h,S.nf [] rfl (subR rfl)⟩))))))))
  | cons y1 ys1 =>
   rw [Fz.eq_2] at h
   refine Fr (Vb S Ee rfl rfl rfl fun a S=>Ld ?_)
   replace S:=S.k6 0 3 9 10 11 12 rfl
   refine Tn (Fs (wp_cond_true ((S.tm rfl).trans (congrArg Value.bool (Hh hd1 hi1))) (wp_skip (Tn (Fs (wp_block (Fs (Fg ?_))))))))
   obtain ⟨r1,hg1,hl1⟩:=Fn.at Bj (Ie hd1 hi1)
   have hs1:=hl1
   obtain ⟨b1,o1,hm1,hr1⟩:=Ev (a:=a) (x:=.tmp 9) (y:=.tmp 11) (ty:=0) BT Bi hg1 rfl (S.tm rfl) (S.tm rfl)
   refine lv S (hr1 _) rfl ?_;clear S;intro a S
   clear hr1
   refine lv S (Hr isAgg28 (off:=o1) (o:=0) (S.tm rfl) (hm1.at S.emb0) rfl) rfl fun a S=>Va S rfl rfl fun a S=>Dz (Vm S rfl rfl fun a S=>Vm S rfl rfl fun a S=>lv S (En Eo (S.tm rfl) (Eg hs1)) rfl fun a S=>Vb S Ew rfl rfl rfl fun a S=>Va S rfl rfl ?_);clear S;intro a S
   refine Dz (Vm S rfl rfl fun a S=>Vq S Ee rfl rfl rfl fun a S=>Ld ?_)
   replace S:=S.k6 0 3 9 10 11 20 rfl
   refine Tn (Fc h (S.tm rfl) (fun hb1 h=>?_) (fun hb1 h=>?_))
   ·cases h
   ·exact wp_skip (Hj (Tn (Fg (Vq S Ew rfl rfl rfl fun a S=>Vm S rfl rfl fun a S=>Dl (⟨ys1,⟨i1 + 1,W (x1 + (y1.length : Int)),⟨_,(hd1).trans (List.append_cons _ _ _),by simp [hi1]⟩,h,S.nf [] rfl ⟨rfl,rfl,rfl,rfl,(congrArg (fun z=>some (Value.int .i64 z)) (Hi hd1 hi1 (Qj Bi Bj))),trivial⟩⟩,Nat.lt_succ_self _⟩)))))
 clear S h;rintro a w2 ⟨x1,h,S⟩;rw [hj1] at h;clear hj1 j1
 refine Tn (Fr (Vm S rfl rfl ?_));clear S;intro a S
 obtain ⟨r2,hr2,h⟩:=Eh h
 have hz1:=S.keep.size
 refine Cy S (fun _=>Ck (vs:=[.slice none 0 0,iV x1]) ⟨rfl,(S.tm rfl),trivial⟩ call63) (Sy _ x1 _ hr2) rfl ?_;clear S;intro v1 a w3 hv1 hk1 hn1 S
 replace S:=S.take hn1 hz1 hv1
 refine Va S rfl rfl fun a S=>Dl (Fs (Fr (Vm S rfl rfl fun a S=>lv S (En BT (S.tm rfl) (Ot Bi Bj)) rfl fun a S=>lv S (Rm rfl) rfl fun a S=>Dl ?_)))
 replace S:=(S.nl [.own v1 35 8 r2.length (r2.flatMap An.enc)] [true] rfl).k4 6 25 26 27 rfl
 obtain ⟨j2,hj2,h⟩:=Dt h
 refine Dj (fun a w'=>∃ x2 : List An,∃ v2 : Value,j2 x2 = some r ∧ Sx w [] nov [.own v2 35 8 x2.length (x2.flatMap An.enc)] [(6,v2)] 36 a w') ?_ ?_
 ·refine wp_block (Gt (fun (ys2 : List (List An)) a w'=>∃ i2 : Nat,∃ x2 : List An,∃ v2 : Value,(∃ dn,Bk = dn ++ ys2 ∧ dn.length = i2) ∧ Ga j2 ys2 i2 x2 = some r ∧ Sx w [] nov [.own v2 35 8 x2.length (x2.flatMap An.enc)] [(6,v2),(25,Bo),(26,iV (Bk.length : Int)),(27,iV (i2 : Int))] 36 a w') List.length Bk ⟨0,r2,v1,⟨[],rfl,rfl⟩,h,S.nf [true] rfl (subR rfl)⟩ ?_)
  clear S h;rintro ys2 a w4 ⟨i2,x2,v2,⟨dn,hd2,hi2⟩,h,S⟩
  cases ys2 with
  | nil =>
   rw [Ga.eq_1] at h
   refine Fr (Vb S Ee rfl rfl rfl fun a S=>Ld ?_)
   replace S:=S.k5 6 25 26 27 28 rfl
   exact Tn (Fs (wp_cond_false ((S.tm rfl).trans (congrArg Value.bool (Ig hd2 hi2))) (wp_exit (Eb (Eb (Gj (Tn (⟨x2,v2,h,S.nf [true] rfl ⟨rfl,trivial⟩⟩))))))))
  | cons y2 ys2 =>
   rw [Ga.eq_2] at h
   refine Fr (Vb S Ee rfl rfl rfl fun a S=>Ld ?_)
   replace S:=S.k5 6 25 26 27 28 rfl
   refine Tn (Fs (wp_cond_true ((S.tm rfl).trans (congrArg Value.bool (Hh hd2 hi2))) (wp_skip (Tn (Fs (wp_block (Fs (Fg ?_))))))))
   obtain ⟨r3,hg2,hl2⟩:=Fn.at Bj (Ie hd2 hi2)
   have hs2:=hl2
   obtain ⟨b2,o2,hm2,hr3⟩:=Ev (a:=a) (x:=.tmp 25) (y:=.tmp 27) (ty:=0) BT Bi hg2 rfl (S.tm rfl) (S.tm rfl)
   refine lv S (hr3 _) rfl ?_;clear S;intro a S
   clear hr3
   refine lv S (Hr isAgg28 (off:=o2) (o:=0) (S.tm rfl) (hm2.at S.emb0) rfl) rfl fun a S=>Va S rfl rfl fun a S=>Dl (Fg (Vm S rfl rfl fun a S=>Vm S rfl rfl ?_));clear S;intro a S
   obtain ⟨hc1,h⟩:=Gz h
   refine Ur (Y:=[]) Eo An.enc_ok S (S.tm rfl) (i:=0) rfl (S.tm rfl) (hs2.mono (S.le_arg (fun _ h=>by cases h))) rfl rfl (by have:=Lh hc1;omega) rfl ?_;clear S;intro v3 a w6 hk2 S
   exact Va S rfl rfl fun a S=>Ld (Hj (Tn (Fg (Vq S Ew rfl rfl rfl fun a S=>Vm S rfl rfl fun a S=>Dl (⟨ys2,⟨i2 + 1,(x2 ++ y2),v3,⟨_,(hd2).trans (List.append_cons _ _ _),by simp [hi2]⟩,h,S.nf [true] rfl ⟨rfl,rfl,rfl,(congrArg (fun z=>some (Value.int .i64 z)) (Hi hd2 hi2 (Qj Bi Bj))),trivial⟩⟩,Nat.lt_succ_self _⟩)))))
 clear S h;rintro a w5 ⟨x2,v2,h,S⟩;rw [hj2] at h;clear hj2 j2
 refine Tn (Fr (Vm S rfl rfl fun a S=>Va S rfl rfl fun a S=>Dl (wp_ret ?_)))
 obtain rfl:=Option.some.inj h
 exact Dx S results45 rfl (Ll S (i:=0) rfl rfl)
set_option maxRecDepth 20000 in
theorem Rh (w : World) (Am : Value) (Ae : List An) (Cb : (LEnt.own Am 35 8 Ae.length (Ae.flatMap An.enc)).holds w) (r : (List An)) (h : Kf Ae = some r) :
    Calls prog 46 [Am].toArray w (Ret w (Am.ownBlock.toList) fun _ v w'=>(LEnt.own v 35 8 r.length (r.flatMap An.enc)).holds w' ∧ v.ownBlock = Am.ownBlock):=by
 refine Ju (Am.ownBlock.toList) [.own Am 35 8 Ae.length (Ae.flatMap An.enc)] func46 rfl ntmps46 rfl (fun e he=>by simp only [List.mem_singleton] at he;subst he;exact Cb) (Kj _) (Lp _) fun a S=>?_
 unfold Kf at h
 replace S:=(S.nl [.own Am 35 8 Ae.length (Ae.flatMap An.enc)] [true] rfl).k1 0 rfl
 refine Fr (Vk S rfl rfl fun a S=>Dl (Fs (Fr (Vm S rfl rfl fun a S=>lv S (En Eo (S.tm rfl) (Ns (S.own_at (i:=0) rfl))) rfl fun a S=>Vq S Ee rfl rfl rfl ?_))));clear S;intro a S
 refine Dl (Fc h (S.tm rfl) (fun hb1 h=>?_) (fun hb1 h=>?_))
 ·refine Fr (Vm S rfl rfl fun a S=>Va S rfl rfl fun a S=>Dl (wp_ret (Cn ?_)))
  obtain rfl:=Option.some.inj h
  exact Dx S results46 rfl ⟨(S.holds _ (List.mem_of_getElem? (i:=0) rfl)),rfl⟩
 ·refine wp_skip (Tn (Fs (Fr (Vk S rfl rfl fun a S=>Dl ?_))))
  replace S:=S.k2 0 3 rfl
  obtain ⟨j1,hj1,h⟩:=Dt h
  refine Dj (fun a w'=>j1 = some r ∧ Sx w (Am.ownBlock.toList) nov [.own Am 35 8 Ae.length (Ae.flatMap An.enc)] [(0,Am)] 61 a w') ?_ ?_
  ·refine wp_block (Gt (fun (m1 : Nat) a w'=>∃ x1 : Int,Ft Ae j1 m1 x1 = some r ∧ Sx w (Am.ownBlock.toList) nov [.own Am 35 8 Ae.length (Ae.flatMap An.enc)] [(0,Am),(3,iV x1)] 61 a w') id (((Ae.length : Int) - 1).toNat + 2) ⟨1,h,S.nf [true] rfl (subR rfl)⟩ ?_)
   clear S h;rintro m1 a w1 ⟨x1,h,S⟩
   cases m1 with
   | zero=>rw [Ft.eq_1] at h;cases h
   | succ m1 =>
    rw [Ft.eq_2] at h
    refine Fs (Fr (Vm S rfl rfl fun a S=>Vm S rfl rfl fun a S=>lv S (En Eo (S.tm rfl) (Ns (S.own_at (i:=0) rfl))) rfl fun a S=>Vb S Ee rfl rfl rfl fun a S=>Dl (Fc h (S.tm rfl) (fun hb2 h=>?_) (fun hb2 h=>?_))))
    ·refine wp_skip (Tn (Fs (wp_block (Fs (Fi [] ([]) Tryz.mixed S rfl (by kernel_rfl) ?_)))));clear S;intro w3 hk1 hsel S
     refine Iy [0,1,2,3,4,5,6,7,8,9] hsel (by kernel_rfl) rfl ?_
     clear hsel
     refine Fb S rfl (Rm (S.tm rfl)) rfl fun a S=>Fb S rfl (Rm (S.tm rfl)) rfl ?_;clear S;intro a S
     obtain ⟨hc1,h⟩:=Gz h
     obtain ⟨b1,hg1,hr1⟩:=Fj (a:=a) (x:=.tmp 16) (y:=.tmp 17) (ty:=0) Eo An.enc_ok S (i:=0) rfl (Ct hc1).1 (Ct hc1).2 (S.tm rfl) (S.tm rfl)
     refine Fb S rfl (hr1 _) rfl ?_;clear S;intro a S
     clear hr1
     refine Fb S rfl (Ey isAgg35 sizeOf35 (off:=x1.toNat * 8) (o:=0) (part:=(An.enc (nth Ae x1))) rfl rfl (S.tm rfl) (Mo An.enc_ok S (i:=0) rfl hg1 (Ct hc1).1)) rfl fun a S=>Fb S rfl (Rm (S.tm rfl)) rfl fun a S=>Fb S rfl (Rm (S.tm rfl)) rfl fun a S=>Fb S rfl (Hs (S.tm rfl) rfl) rfl ?_;clear S;intro a S
     obtain ⟨hc2,h⟩:=Gz h
     obtain ⟨b2,hg2,hr2⟩:=Fj (a:=a) (x:=.tmp 20) (y:=.tmp 22) (ty:=0) Eo An.enc_ok S (i:=0) rfl (Ct hc2).1 (Ct hc2).2 (S.tm rfl) (S.tm rfl)
     refine Fb S rfl (hr2 _) rfl ?_;clear S;intro a S
     clear hr2
     refine Fb S rfl (Ey isAgg35 sizeOf35 (off:=((W (x1 - 1)).toNat) * 8) (o:=0) (part:=(An.enc (nth Ae (W (x1 - 1))))) rfl rfl (S.tm rfl) (Mo An.enc_ok S (i:=0) rfl hg2 (Ct hc2).1)) rfl fun a S=>Fb S rfl (CV (m:=(nth Ae x1)) (n:=(nth Ae (W (x1 - 1)))) (S.tm rfl) (S.tm rfl)) rfl fun a S=>Ik ?_
     replace S:=S.k3 0 3 25 rfl
     refine Tn (Fc h (S.tm rfl) (fun hb3 h=>?_) (fun hb3 h=>?_))
     ·refine Fr (Vm S rfl rfl fun a S=>Vm S rfl rfl ?_);clear S;intro a S
      obtain ⟨hc3,h⟩:=Gz h
      obtain ⟨u1,hu1,hr3⟩:=Wa (a:=a) (x:=.tmp 26) (y:=.tmp 27) (ty:=28) Eo S (i:=0) rfl (S.tm rfl) (S.tm rfl) hc3
      refine lv S (hr3 _) rfl ?_;clear S;intro a S
      clear hr3
      refine Va S rfl rfl fun a S=>Dl (Fs (Fr (Vk S rfl rfl fun a S=>Dl ?_)))
      replace S:=S.k4 0 3 4 5 rfl
      obtain ⟨j2,hj2,h⟩:=Dt h
      refine Dj (fun a w'=>∃ x2 : List An,∃ x3 : Int,j2 x2 x3 = some r ∧ Sx w (Am.ownBlock.toList) nov [.own Am 35 8 x2.length (x2.flatMap An.enc)] [(0,Am),(3,iV x3)] 61 a w') ?_ ?_
      ·refine wp_block (Gt (fun (m2 : Nat) a w'=>∃ x2 : List An,∃ x3 : Int,∃ x4 : Int,Gk Ae x1 j2 m2 x2 x3 x4 = some r ∧ Sx w (Am.ownBlock.toList) nov [.own Am 35 8 x2.length (x2.flatMap An.enc)] [(0,Am),(3,iV x3),(4,u1),(5,iV x4)] 61 a w') id (((((Ae.length : Int).toNat - x1.toNat : Nat) : Int) - 1).toNat + 2) ⟨Ae,x1,1,h,S.nf [true] rfl (subR rfl)⟩ ?_)
       clear S h;rintro m2 a w4 ⟨x2,x3,x4,h,S⟩
       cases m2 with
       | zero=>rw [Gk.eq_1] at h;cases h
       | succ m2 =>
        rw [Gk.eq_2] at h
        refine Fs (Fr (Vm S rfl rfl fun a S=>Vm S rfl rfl fun a S=>lv S (En Eo (S.tm rfl) (DX hu1)) rfl fun a S=>Vb S Ee rfl rfl rfl fun a S=>Dl (Fc h (S.tm rfl) (fun hb4 h=>?_) (fun hb4 h=>?_))))
        ·refine wp_skip (Tn (Fs ?_))
         obtain ⟨j3,hj3,h⟩:=Dt h
         refine Dj (fun a w'=>∃ x5 : List An,∃ x6 : Int,j3 x5 x6 = some r ∧ Sx w (Am.ownBlock.toList) nov [.own Am 35 8 x5.length (x5.flatMap An.enc)] [(0,Am),(3,iV x6),(4,u1),(5,iV x4)] 61 a w') ?_ ?_
         ·refine wp_block (Fs (Fi [] ([]) Tryz.mixed S rfl (by kernel_rfl) ?_));clear S;intro w7 hk2 hsel S
          refine Iy [0,1,2,3,4,5,6,7,8,9] hsel (by kernel_rfl) rfl ?_
          clear hsel
          refine Fb S rfl (Rm (S.tm rfl)) rfl fun a S=>Fb S rfl (Rm (S.tm rfl)) rfl ?_;clear S;intro a S
          obtain ⟨hc4,h⟩:=Gz h
          have hj4:=(Ss (Tg S (i:=0) rfl hu1) hc4).1
          obtain ⟨b3,hg3,hr4⟩:=Np (a:=a) (x:=.tmp 35) (y:=.tmp 36) (ty:=0) Eo An.enc_ok S (i:=0) rfl hu1 hc4 (S.tm rfl) (S.tm rfl)
          refine Fb S rfl (hr4 _) rfl ?_;clear S;intro a S
          clear hr4
          refine Fb S rfl (Ey isAgg35 sizeOf35 (off:=(x1.toNat + x4.toNat) * 8) (o:=0) (part:=(An.enc (nth (cut x2 x1 (Ae.length : Int)) x4))) rfl rfl (S.tm rfl) (Mo An.enc_ok S (i:=0) rfl hg3 hj4)) rfl fun a S=>Fb S rfl (Rm (S.tm rfl)) rfl fun a S=>Fb S rfl (Rm (S.tm rfl)) rfl fun a S=>Fb S rfl (Hs (S.tm rfl) rfl) rfl ?_;clear S;intro a S
          obtain ⟨hc5,h⟩:=Gz h
          have hj5:=(Ss (Tg S (i:=0) rfl hu1) hc5).1
          obtain ⟨b4,hg4,hr5⟩:=Np (a:=a) (x:=.tmp 39) (y:=.tmp 41) (ty:=0) Eo An.enc_ok S (i:=0) rfl hu1 hc5 (S.tm rfl) (S.tm rfl)
          refine Fb S rfl (hr5 _) rfl ?_;clear S;intro a S
          clear hr5
          refine Fb S rfl (Ey isAgg35 sizeOf35 (off:=(x1.toNat + (W (x4 - 1)).toNat) * 8) (o:=0) (part:=(An.enc (nth (cut x2 x1 (Ae.length : Int)) (W (x4 - 1))))) rfl rfl (S.tm rfl) (Mo An.enc_ok S (i:=0) rfl hg4 hj5)) rfl fun a S=>Fb S rfl (Ql (m:=(nth (cut x2 x1 (Ae.length : Int)) x4)) (n:=(nth (cut x2 x1 (Ae.length : Int)) (W (x4 - 1)))) (S.tm rfl) (S.tm rfl)) rfl fun a S=>Ik ?_
          replace S:=S.k5 0 3 4 5 44 rfl
          refine Tn ?_
          obtain ⟨j4,hj6,h⟩:=Dt h
          refine Dj (fun a w'=>∃ x7 : List An,∃ x8 : Int,j4 x7 x8 = some r ∧ Sx w (Am.ownBlock.toList) nov [.own Am 35 8 x7.length (x7.flatMap An.enc)] [(0,Am),(3,iV x8),(4,u1),(5,iV x4)] 61 a w') ?_ ?_
          ·refine Fc h (S.tm rfl) (fun hb5 h=>?_) (fun hb5 h=>?_)
           ·refine Fs (Fg ?_)
            iterate 4 (refine Vm S rfl rfl ?_;clear S;intro a S)
            obtain ⟨hc6,h⟩:=Gz h
            have hj7:=(Ss (Tg S (i:=0) rfl hu1) hc6).1
            obtain ⟨b5,hg5,hr6⟩:=Np (a:=a) (x:=.tmp 47) (y:=.tmp 48) (ty:=0) Eo An.enc_ok S (i:=0) rfl hu1 hc6 (S.tm rfl) (S.tm rfl)
            refine lv S (hr6 _) rfl ?_;clear S;intro a S
            clear hr6
            refine lv S (Ey isAgg35 sizeOf35 (off:=(x1.toNat + x4.toNat) * 8) (o:=0) (part:=(An.enc (nth (cut x2 x1 (Ae.length : Int)) x4))) rfl rfl (S.tm rfl) (Mo An.enc_ok S (i:=0) rfl hg5 hj7)) rfl ?_;clear S;intro a S
            obtain ⟨hc7,h⟩:=Gz h
            obtain ⟨b6,hg6,hr7⟩:=Fj (a:=a) (x:=.tmp 45) (y:=.tmp 46) (ty:=0) Eo An.enc_ok S (i:=0) rfl (Ct hc7).1 (Ct hc7).2 (S.tm rfl) (S.tm rfl)
            refine lv S (hr7 _) rfl ?_;clear S;intro a S
            clear hr7
            refine Ia (c:=0) (j:=x3.toNat) (nth (cut x2 x1 (Ae.length : Int)) x4) An.enc_ok S (S.tm rfl) (S.tm rfl) (i:=0) rfl hg6 (Ct hc7).1 sizeOf35 (vs:=[iV ((nth (cut x2 x1 (Ae.length : Int)) x4).At),iV ((nth (cut x2 x1 (Ae.length : Int)) x4).Kind),sV ((nth (cut x2 x1 (Ae.length : Int)) x4).Id),sV ((nth (cut x2 x1 (Ae.length : Int)) x4).Who),sV ((nth (cut x2 x1 (Ae.length : Int)) x4).Club),sV ((nth (cut x2 x1 (Ae.length : Int)) x4).Race),iV ((nth (cut x2 x1 (Ae.length : Int)) x4).Age),iV ((nth (cut x2 x1 (Ae.length : Int)) x4).Time)]) rfl rfl rfl rfl rfl ?_;clear S;intro w10 hk4 S
            exact Dl (Fg (Vm S rfl rfl fun a S=>Vq S Ew rfl rfl rfl fun a S=>Va S rfl rfl fun a S=>Dl (⟨(x2.set x3.toNat (nth (cut x2 x1 (Ae.length : Int)) x4)),W (x3 + 1),h,S.nf [true] rfl (subR rfl)⟩)))
           ·exact wp_skip (Tn (⟨x2,x3,h,S.nf [true] rfl (subR rfl)⟩))
          clear S h;rintro a w8 ⟨x7,x8,h,S⟩;rw [hj6] at h;clear hj6 j4
          exact Hj (Tn (⟨x7,x8,h,S.nf [true] rfl (subR rfl)⟩))
         clear S h;rintro a w6 ⟨x5,x6,h,S⟩;rw [hj3] at h;clear hj3 j3
         exact Tn (Fg (Vm S rfl rfl fun a S=>Vq S Ew rfl rfl rfl fun a S=>Va S rfl rfl fun a S=>Dl (⟨m2,⟨x5,x6,W (x4 + 1),h,S.nf [true] rfl ⟨rfl,rfl,rfl,rfl,trivial⟩⟩,Nat.lt_succ_self _⟩)))
        ·exact wp_exit (Eb (Eb (Gj (Tn (⟨x2,x3,h,S.nf [true] rfl (subR rfl)⟩)))))
      clear S h;rintro a w5 ⟨x2,x3,h,S⟩;rw [hj2] at h;clear hj2 j2
      refine Tn (Fr (Vm S rfl rfl fun a S=>Vm S rfl rfl ?_));clear S;intro a S
      obtain ⟨hc8,h⟩:=Gz h
      obtain ⟨u2,hu2,hr8⟩:=Wa (a:=a) (x:=.tmp 54) (y:=.tmp 55) (ty:=28) Eo S (i:=0) rfl (S.tm rfl) (S.tm rfl) hc8
      refine lv S (hr8 _) rfl ?_;clear S;intro a S
      clear hr8
      refine BO (zl:=x3) (zh:=(x2.length : Int)) (z:=(An.mk 0 0 Cj Cj Cj Cj 0 0)) Eo rfl An.enc_ok S (i:=0) rfl hu2 (S.tm rfl) zeroValue35 rfl ?_;clear S;intro w11 hk5 S
      refine Dz (Vm S rfl rfl fun a S=>Vm S rfl rfl ?_);clear S;intro a S
      obtain ⟨hc9,h⟩:=Gz h
      obtain ⟨u3,hu3,hr9⟩:=BM (a:=a) (x:=.tmp 57) (y':=.tmp 58) (ty:=28) Eo S (i:=0) rfl (S.tm rfl) (S.tm rfl) hc9
      refine lv S (hr9 _) rfl ?_;clear S;intro a S
      clear hr9
      refine Va S rfl rfl fun a S=>Dl (wp_ret (Fa (Cn (Cn (Fa (Cn (Cn ?_)))))))
      obtain ⟨S,hz1⟩:=S.ownCut (zh:=x3) An.enc_ok (i:=0) rfl hu3
      obtain rfl:=Option.some.inj h
      exact Dx S results46 rfl ⟨(S.holds _ (List.mem_of_getElem? (i:=0) rfl)),(Ry.block hu3)⟩
     ·exact wp_skip (Hj (Tn (Fg (Vm S rfl rfl fun a S=>Vq S Ew rfl rfl rfl fun a S=>Va S rfl rfl fun a S=>Dl (⟨m1,⟨W (x1 + 1),h,S.nf [true] rfl ⟨rfl,rfl,trivial⟩⟩,Nat.lt_succ_self _⟩)))))
    ·exact wp_exit (Eb (Eb (Gj (Tn (⟨h,S.nf [true] rfl ⟨rfl,trivial⟩⟩)))))
  clear S h;rintro a w2 ⟨h,S⟩;rw [hj1] at h;clear hj1 j1
  refine Tn (Fr (Vm S rfl rfl fun a S=>Va S rfl rfl fun a S=>Dl (wp_ret ?_)))
  obtain rfl:=Option.some.inj h
  exact Dx S results46 rfl ⟨(S.holds _ (List.mem_of_getElem? (i:=0) rfl)),rfl⟩
set_option maxRecDepth 20000 in
theorem Sz (w : World) (Ay : Value) (Ag : List An) (Be : Slc (view w []) 8 Ay (Ag.map An.enc)) (Ba : Value) (Ah : List An) (Bf : Slc (view w []) 8 Ba (Ah.map An.enc)) (r : (List An) × Int) (h : Hx Ag Ah = some r) :
    Calls prog 17 [Ay,Ba].toArray w (Ret w [] fun τ v _=>∃ u1 : Value,v = .tuple #[u1,iV r.2] ∧ Le τ 35 8 u1 r.1.length (r.1.flatMap An.enc)):=by
 refine Fe func17 rfl ntmps17 rfl fun a S=>?_
 unfold Hx at h
 replace S:=S.k2 0 1 rfl
 refine Fr (Vk S rfl rfl fun a S=>Vk S rfl rfl fun a S=>Dz (Vm S rfl rfl fun a S=>Vm S rfl rfl fun a S=>De S underlying90 sizeOf28 zeroValue28 rfl rfl (pv:=[(0,Ay),(1,Ba)]) ⟨rfl,(S.tm rfl),rfl,(S.tm rfl),trivial⟩ (cs:=[Ay,Ba]) (CM (Eg Be) (Eg Bf)) rfl ?_));clear S;intro a w1 b1 hz1 hk1 S
 have hr1 : Fn (Uu (join (view w []) nov)) ([Ag,Ah] : List (List An)) ([⟨Ay,Fw.one (Eg Be)⟩,⟨Ba,Fw.one (Eg Bf)⟩] : List RS):=(Fn.cons (Be.mono (le_join_left _ _)) (Fn.cons (Bf.mono (le_join_left _ _)) Fn.nil))
 replace S:=S.litOwn (i:=0) (xs:=([⟨Ay,Fw.one (Eg Be)⟩,⟨Ba,Fw.one (Eg Bf)⟩] : List RS)) rfl RS.enc_ok rfl rfl rfl
 replace S:=S.nk [.own (.slice (some ⟨b1,0,none⟩) 2 2) 28 1 ([⟨Ay,Fw.one (Eg Be)⟩,⟨Ba,Fw.one (Eg Bf)⟩] : List RS).length (([⟨Ay,Fw.one (Eg Be)⟩,⟨Ba,Fw.one (Eg Bf)⟩] : List RS).flatMap RS.enc)] [(0,Ay),(1,Ba),(4,.slice none 0 0),(5,iV 0),(8,Ay),(9,Ba),(10,(.slice (some ⟨b1,0,none⟩) 2 2))] [] rfl (subR rfl)
 obtain ⟨r1,hr2,h⟩:=Eh h
 have hz2:=S.keep.size
 refine Cy S (fun _=>Ck (vs:=[(.slice (some ⟨b1,0,none⟩) 2 2)]) ⟨(S.tm rfl),trivial⟩ call45) (Sa _ (.slice (some ⟨b1,0,none⟩) 2 2) ([Ag,Ah] : List (List An)) ([⟨Ay,Fw.one (Eg Be)⟩,⟨Ba,Fw.one (Eg Bf)⟩] : List RS) (Sd RS.enc_ok S (i:=0) rfl (Ge (e':=.own (.slice (some ⟨b1,0,none⟩) 2 2) 28 1 ([⟨Ay,Fw.one (Eg Be)⟩,⟨Ba,Fw.one (Eg Bf)⟩] : List RS).length (([⟨Ay,Fw.one (Eg Be)⟩,⟨Ba,Fw.one (Eg Bf)⟩] : List RS).flatMap RS.enc)))) (rels_28 (join_le (S.le_arg Fp) (S.le_new Fp)) hr1) _ hr2) rfl ?_;clear S;intro v1 a w2 hv1 hk2 hn1 S
 replace S:=S.take hn1 hz2 hv1
 refine Va S rfl rfl fun a S=>Dz (Vm S rfl rfl ?_);clear S;intro a S
 obtain ⟨r2,hr3,h⟩:=Eh h
 refine Ke 0 S rfl (fun _=>.own v1 35 8 r2.length (r2.flatMap An.enc)) (fun _=>Ck (vs:=[v1,.func (.func 33) #[] #[]]) ⟨(S.tm rfl),rfl,trivial⟩ call32) (Io _ v1 r1 (S.holds _ (List.mem_of_getElem? (i:=0) rfl)) _ hr3) rfl (fun _ _ _ h=>⟨h.1,fun _ hc=>hc⟩) ?_;clear S;intro v2 a w3 hv2 hk3 hn2 S
 replace hv2:=hv2.2
 subst hv2
 refine Dz (Vm S rfl rfl ?_);clear S;intro a S
 obtain ⟨r3,hr4,h⟩:=Eh h
 have hz3:=S.keep.size
 refine Ke 0 S rfl (fun v3=>.own v3 35 8 r3.length (r3.flatMap An.enc)) (fun _=>Ck (vs:=[v1]) ⟨(S.tm rfl),trivial⟩ call46) (Rh _ v1 r2 (S.holds _ (List.mem_of_getElem? (i:=0) rfl)) _ hr4) rfl (fun _ _ _ h=>⟨h.1,fun _ hc=>h.2.symm.trans hc⟩) ?_;clear S;intro v3 a w4 hv3 hk4 hn3 S
 clear hv3
 refine Va S rfl rfl fun a S=>Dl (Fs (Fr (Vm S rfl rfl fun a S=>lv S (En Eo (S.tm rfl) (Ns (S.own_at (i:=0) rfl))) rfl fun a S=>lv S (Rm rfl) rfl fun a S=>Dl ?_)))
 replace S:=(S.nl [.own v3 35 8 r3.length (r3.flatMap An.enc)] [true,false] rfl).k3 6 17 18 rfl
 have hm1:=own_max (S.own_at (i:=0) rfl)
 obtain ⟨j1,hj1,h⟩:=Dt h
 refine Dj (fun a w'=>j1 = some r ∧ Sx w [] nov [.own v3 35 8 r3.length (r3.flatMap An.enc)] [(6,v3)] 41 a w') ?_ ?_
 ·refine wp_block (Gt (fun (ys1 : List An) a w'=>∃ i1 : Nat,(∃ dn,r3 = dn ++ ys1 ∧ dn.length = i1) ∧ Fv r3 j1 ys1 i1 = some r ∧ Sx w [] nov [.own v3 35 8 r3.length (r3.flatMap An.enc)] [(6,v3),(17,iV (r3.length : Int)),(18,iV (i1 : Int))] 41 a w') List.length r3 ⟨0,⟨[],rfl,rfl⟩,h,S.nf [true] rfl (subR rfl)⟩ ?_)
  clear S h;rintro ys1 a w5 ⟨i1,⟨dn,hd1,hi1⟩,h,S⟩
  cases ys1 with
  | nil =>
   rw [Fv.eq_1] at h
   refine Fr (Vb S Ee rfl rfl rfl fun a S=>Ld ?_)
   replace S:=S.k4 6 17 18 19 rfl
   exact Tn (Fs (wp_cond_false ((S.tm rfl).trans (congrArg Value.bool (Ig hd1 hi1))) (wp_exit (Eb (Eb (Gj (Tn (⟨h,S.nf [true] rfl ⟨rfl,trivial⟩⟩))))))))
  | cons y1 ys1 =>
   rw [Fv.eq_2] at h
   refine Fr (Vb S Ee rfl rfl rfl fun a S=>Ld ?_)
   replace S:=S.k4 6 17 18 19 rfl
   refine Tn (Fs (wp_cond_true ((S.tm rfl).trans (congrArg Value.bool (Hh hd1 hi1))) (wp_skip (Tn (Fs (wp_block (Fr (Vm S rfl rfl fun a S=>Va S rfl rfl ?_))))))));clear S;intro a S
   refine Dl (Fs ?_)
   obtain ⟨j2,hj2,h⟩:=Dt h
   refine Dj (fun a w'=>∃ x1 : Bool,j2 x1 = some r ∧ Sx w [] nov [.own v3 35 8 r3.length (r3.flatMap An.enc)] [(6,v3),(17,iV (r3.length : Int)),(18,iV (i1 : Int)),(35,bV x1)] 41 a w') ?_ ?_
   ·rcases Bool.eq_false_or_eq_true (decide (0 < (i1 : Int))) with hb1 | hb1
    ·replace h:=Mu h hb1
     obtain ⟨hc1,h⟩:=Gz h
     refine Fi [] ([]) Tryz.mixed S rfl (by kernel_rfl) ?_;clear S;intro w9 hk6 hsel S
     refine Co 0 S hsel rfl rfl rfl (by kernel_rfl) (by kernel_rfl) rfl (fun _ hw=>(Rm (S.tm rfl))) fun a S=>Co 1 S hsel rfl rfl rfl (by kernel_rfl) (by kernel_rfl) rfl (fun _ hw=>(Ix (S.tm rfl) rfl)) fun a S=>Co 2 S hsel rfl rfl rfl (by kernel_rfl) (by kernel_rfl) rfl (fun _ hw=>(Rm (S.tm rfl))) fun a S=>Et 3 S hsel rfl rfl rfl rfl hb1 rfl rfl (by kernel_rfl) (by kernel_rfl) rfl (fun _ hw=>(Rm (S.tm rfl))) fun a S=>Et 4 S hsel rfl rfl rfl rfl hb1 rfl rfl (by kernel_rfl) (by kernel_rfl) rfl (fun _ hw=>(Rm (S.tm rfl))) fun a S=>Et 5 S hsel rfl rfl rfl rfl hb1 rfl rfl (by kernel_rfl) (by kernel_rfl) rfl (fun _ hw=>(Hs (S.tm rfl) rfl)) ?_;clear S;intro a S
     obtain ⟨b4,hg3,hr7⟩:=Fj (a:=a) (x:=.tmp 24) (y:=.tmp 26) (ty:=0) Eo An.enc_ok S (i:=0) rfl (Ct hc1).1 (Ct hc1).2 (S.tm rfl) (S.tm rfl)
     refine Et 6 S hsel rfl rfl rfl rfl hb1 rfl rfl (by kernel_rfl) (by kernel_rfl) rfl (fun _ hw=>(hr7 _)) ?_;clear S;intro a S
     clear hr7
     refine Et 7 S hsel rfl rfl rfl rfl hb1 rfl rfl (by kernel_rfl) (by kernel_rfl) rfl (fun _ hw=>(Ey isAgg35 sizeOf35 (off:=((W ((i1 : Int) - 1)).toNat) * 8) (o:=0) (part:=(An.enc (nth r3 (W ((i1 : Int) - 1))))) rfl rfl (S.tm rfl) ((Jh An.enc_ok S (i:=0) rfl hg3 (Ct hc1).1 (Ge (e':=.own v3 35 8 r3.length (r3.flatMap An.enc)))).kept hw))) fun a S=>Et 8 S hsel rfl rfl rfl rfl hb1 rfl rfl (by kernel_rfl) (by kernel_rfl) rfl (fun _ hw=>(Rm (S.tm rfl))) fun a S=>Et 9 S hsel rfl rfl rfl rfl hb1 rfl rfl (by kernel_rfl) (by kernel_rfl) rfl (fun _ hw=>(Rm (S.tm rfl))) ?_;clear S;intro a S
     obtain ⟨b5,hg4,hr8⟩:=Fj (a:=a) (x:=.tmp 29) (y:=.tmp 30) (ty:=0) Eo An.enc_ok S (i:=0) rfl (Ie hd1 hi1) rfl (S.tm rfl) (S.tm rfl)
     refine Et 10 S hsel rfl rfl rfl rfl hb1 rfl rfl (by kernel_rfl) (by kernel_rfl) rfl (fun _ hw=>(hr8 _)) ?_;clear S;intro a S
     clear hr8
     refine Et 11 S hsel rfl rfl rfl rfl hb1 rfl rfl (by kernel_rfl) (by kernel_rfl) rfl (fun _ hw=>(Ey isAgg35 sizeOf35 (off:=i1 * 8) (o:=0) (part:=(An.enc y1)) rfl rfl (S.tm rfl) ((Jh An.enc_ok S (i:=0) rfl hg4 (Ie hd1 hi1) (Ge (e':=.own v3 35 8 r3.length (r3.flatMap An.enc)))).kept hw))) fun a S=>Ea 12 (by kernel_rfl) rfl (Cq S rfl rfl rfl hb1 (Cy S (fun _=>Ck (vs:=[.agg (An.enc (nth r3 (W ((i1 : Int) - 1)))).toArray,.agg (An.enc y1).toArray]) ⟨(S.tm rfl),(S.tm rfl),trivial⟩ call33) (Hz _ (nth r3 (W ((i1 : Int) - 1))) y1 _ rfl) rfl ?_));clear S;intro v5 a w10 hv5 hk7 hn5 S
     subst hv5
     refine Ld (Ej hk7 (Iy [13,14] hsel (by kernel_rfl) rfl ?_))
     clear hsel
     refine Ng S rfl rfl rfl rfl hb1 (Oi S (Ip (S.tm rfl) rfl) rfl fun a S=>Fb S rfl (Nm hb1 (S.tm rfl) (S.tm rfl)) rfl fun a S=>Ik ?_)
     replace S:=S.k15 6 17 18 24 25 26 27 28 29 30 31 32 33 34 35 rfl
     exact Tn (⟨decide ((Df (nth r3 (W ((i1 : Int) - 1))) y1) = 0),h,S.nf [true] rfl (subR rfl)⟩)
    ·replace h:=Mv h hb1
     refine Fi [] ([]) Tryz.mixed S rfl (by kernel_rfl) ?_;clear S;intro w11 hk8 hsel S
     refine Iy [0,1,2,3,4,5,6,7,8,9,10,11,12,13,14] hsel (by kernel_rfl) rfl ?_
     clear hsel
     refine Fb S rfl (Rm (S.tm rfl)) rfl fun a S=>Fb S rfl (Ix (S.tm rfl) rfl) rfl fun a S=>Fb S rfl (Rm (S.tm rfl)) rfl ?_;clear S;intro a S
     iterate 11 (refine Tf S rfl rfl rfl rfl (Hq hb1) rfl ?_ rfl;clear S;intro a S)
     refine Fb S rfl (Nn hb1 (S.tm rfl) rfl) rfl fun a S=>Ik ?_
     replace S:=S.k4 6 17 18 35 rfl
     exact Tn (⟨false,h,S.nf [true] rfl (subR rfl)⟩)
   clear S h;rintro a w7 ⟨x1,h,S⟩;rw [hj2] at h;clear hj2 j2
   refine Tn (Fc h (S.tm rfl) (fun hb2 h=>?_) (fun hb2 h=>?_))
   ·refine Fr (Vk S rfl rfl fun a S=>Vk S rfl rfl fun a S=>Dl (wp_ret (Fa (Cn (Cn (Fa ?_))))))
    refine Cn (Cn ?_)
    obtain rfl:=Option.some.inj h
    exact Md S results17 rfl rfl ⟨_,rfl,(Jv _ _ _)⟩
   ·exact wp_skip (Hj (Tn (Fg (Vq S Ew rfl rfl rfl fun a S=>Vm S rfl rfl fun a S=>Dl (⟨ys1,⟨i1 + 1,⟨_,(hd1).trans (List.append_cons _ _ _),by simp [hi1]⟩,h,S.nf [true] rfl ⟨rfl,rfl,(congrArg (fun z=>some (Value.int .i64 z)) (Hi hd1 hi1 hm1)),trivial⟩⟩,Nat.lt_succ_self _⟩)))))
 clear S h;rintro a w6 ⟨h,S⟩;rw [hj1] at h;clear hj1 j1
 refine Tn (Fs (Fr (Vm S rfl rfl fun a S=>lv S (En Eo (S.tm rfl) (Ns (S.own_at (i:=0) rfl))) rfl fun a S=>Vq S Ix rfl rfl rfl fun a S=>Dl (Fc h (S.tm rfl) (fun hb3 h=>?_) (fun hb3 h=>?_)))))
 ·refine Fr (Vk S rfl rfl fun a S=>Vk S rfl rfl fun a S=>Dl (wp_ret (Cn ?_)))
  obtain rfl:=Option.some.inj h
  exact Md S results17 rfl rfl ⟨_,rfl,(Jv _ _ _)⟩
 ·refine wp_skip (Tn (Fr (Vm S rfl rfl fun a S=>Va S rfl rfl fun a S=>Vk S rfl rfl fun a S=>Dl (wp_ret ?_))))
  obtain rfl:=Option.some.inj h
  exact Md S results17 rfl rfl ⟨_,rfl,(Ll S (i:=0) rfl rfl)⟩
theorem Pe (w : World) (Bs : Int) (Cd : Int) (r : Bool) (h : Dp Bs Cd = r) :
    Calls prog 47 [iV Bs,iV Cd].toArray w (Ret w [] fun _ v _=>v = bV r):=by
 refine Fe func47 rfl ntmps47 rfl fun a S=>?_
 unfold Dp at h
 replace S:=S.k2 0 1 rfl
 refine Fr (Vk S rfl rfl fun a S=>Dl (Fs (Fr (Vm S rfl rfl fun a S=>Dl ?_))))
 refine wp_block (Fr (Vq S Ip rfl rfl rfl fun a S=>Va S rfl rfl fun a S=>Dl (Fc h (S.tm rfl) (fun hb1 h=>?_) (fun hb1 h=>?_))))
 ·refine Fr (Vm S rfl rfl fun a S=>Vq S Ip rfl rfl rfl fun a S=>Va S rfl rfl fun a S=>Dl (wp_ret (Fa (Cn ?_))))
  subst h
  exact Dx S results47 rfl rfl
 ·refine Fr (Vq S Ip rfl rfl rfl fun a S=>Va S rfl rfl fun a S=>Dl (Fc h (S.tm rfl) (fun hb2 h=>?_) (fun hb2 h=>?_)))
  ·refine Fr (Vm S rfl rfl fun a S=>Vq S Ip rfl rfl rfl fun a S=>Va S rfl rfl fun a S=>Dl (wp_ret (Fa (Cn ?_))))
   subst h
   exact Dx S results47 rfl rfl
  ·refine wp_skip (Hj (Tn (Fr (Vm S rfl rfl fun a S=>Vq S Ip rfl rfl rfl fun a S=>Vm S rfl rfl fun a S=>Gi 3 (fun a w'=>Keep [] w w' ∧ Sx w [] nov [] [(19,bV ((decide (Bs = 1)) || (decide (Bs = 2))))] 20 a w') ?_ ?_))))
   ·rcases Bool.eq_false_or_eq_true (decide (Bs = 1)) with hb3 | hb3
    ·exact Fl S rfl rfl rfl (Pc hb3) rfl (fun a S=>Fl S rfl rfl rfl (Pc hb3) rfl (fun a S=>lv S (Ml (decide (Bs = 2)) hb3 (S.tm rfl) rfl) rfl fun a S=>Dl (⟨Keep.refl _ _,S.nf [] rfl ⟨rfl,trivial⟩⟩)) rfl) rfl
    ·exact Cq S rfl rfl rfl hb3 (Vm S rfl rfl fun a S=>Cq S rfl rfl rfl hb3 (Vq S Ip rfl rfl rfl fun a S=>lv S (Mm hb3 (S.tm rfl) (S.tm rfl)) rfl fun a S=>Dl (⟨Keep.refl _ _,S.nf [] rfl ⟨rfl,trivial⟩⟩)))
   clear S;rintro a w1 ⟨hk1,S⟩
   refine Va S rfl rfl fun a S=>Dl (wp_ret ?_)
   subst h
   exact Dx S results47 rfl rfl
theorem Mt (w : World) (Ac : Value) (Al : List An) (Ak : Slc (view w []) 8 Ac (Al.map An.enc)) (Bu : ByteArray) (r : Int) (h : Il Al Bu = r) :
    Calls prog 48 [Ac,sV Bu].toArray w (Ret w [] fun _ v _=>v = iV r):=by
 refine Fe func48 rfl ntmps48 rfl fun a S=>?_
 unfold Il at h
 replace S:=S.k2 0 1 rfl
 refine Fr (Vk S rfl rfl fun a S=>Dz (Vk S rfl rfl fun a S=>Dl (Fs ?_)))
 refine Fr (Vm S rfl rfl fun a S=>lv S (En Eo (S.tm rfl) (Eg Ak)) rfl fun a S=>lv S (Rm rfl) rfl fun a S=>Dl ?_)
 replace S:=S.k5 1 5 8 9 10 rfl
 obtain ⟨j1,hj1,h⟩:=Dt h
 refine Dj (fun a w'=>∃ x1 : Int,j1 x1 = r ∧ Sx w [] nov [] [(5,iV x1)] 28 a w') ?_ ?_
 ·refine wp_block (Gt (fun (ys1 : List An) a w'=>∃ i1 : Nat,∃ x1 : Int,(∃ dn,Al = dn ++ ys1 ∧ dn.length = i1) ∧ Gx Bu j1 ys1 i1 x1 = r ∧ Sx w [] nov [] [(1,sV Bu),(5,iV x1),(8,Ac),(9,iV (Al.length : Int)),(10,iV (i1 : Int))] 28 a w') List.length Al ⟨0,0,⟨[],rfl,rfl⟩,h,S.nf [] rfl (subR rfl)⟩ ?_)
  clear S h;rintro ys1 a w1 ⟨i1,x1,⟨dn,hd1,hi1⟩,h,S⟩
  cases ys1 with
  | nil =>
   rw [Gx.eq_1] at h
   refine Fr (Vb S Ee rfl rfl rfl fun a S=>Ld ?_)
   replace S:=S.k6 1 5 8 9 10 11 rfl
   exact Tn (Fs (wp_cond_false ((S.tm rfl).trans (congrArg Value.bool (Ig hd1 hi1))) (wp_exit (Eb (Eb (Gj (Tn (⟨x1,h,S.nf [] rfl ⟨rfl,trivial⟩⟩))))))))
  | cons y1 ys1 =>
   rw [Gx.eq_2] at h
   refine Fr (Vb S Ee rfl rfl rfl fun a S=>Ld ?_)
   replace S:=S.k6 1 5 8 9 10 11 rfl
   refine Tn (Fs (wp_cond_true ((S.tm rfl).trans (congrArg Value.bool (Hh hd1 hi1))) (wp_skip (Tn (Fs ?_)))))
   obtain ⟨j2,hj2,h⟩:=Dt h
   refine Dj (fun a w'=>∃ x2 : Int,j2 x2 = r ∧ Sx w [] nov [] [(1,sV Bu),(5,iV x2),(8,Ac),(9,iV (Al.length : Int)),(10,iV (i1 : Int))] 28 a w') ?_ ?_
   ·refine wp_block (Fs (Fg ?_))
    obtain ⟨b1,o1,hm1,hr1⟩:=Ev (a:=a) (x:=.tmp 8) (y:=.tmp 10) (ty:=0) Eo Ak (Ie hd1 hi1) rfl (S.tm rfl) (S.tm rfl)
    refine lv S (hr1 _) rfl ?_;clear S;intro a S
    clear hr1
    refine lv S (Ey isAgg35 sizeOf35 (off:=o1) (o:=0) (part:=(An.enc y1)) rfl rfl (S.tm rfl) (hm1.at S.emb0)) rfl fun a S=>Lq S zeroValue35 (cs:=[iV 0,iV 0,sV Cj,sV Cj,sV Cj,sV Cj,iV 0,iV 0]) rfl rfl ?_;clear S;intro a w4 b2 hz1 hk1 S
    refine Gy S (S.tm rfl) (S.tm rfl) (i:=0) (off:=0) rfl sizeOf35 (vs:=(An.enc y1)) rfl rfl rfl rfl ?_;clear S;intro w5 hk2 S
    refine Dz (Vf Iw S rfl rfl fun a S=>Vl isAgg9 0 S rfl rfl rfl rfl fun a S=>Vm S rfl rfl fun a S=>Vb S Vw rfl rfl rfl fun a S=>Vm S rfl rfl fun a S=>Gi 5 (fun a w'=>Keep [] w5 w' ∧ Sx w [] nov [.blk b2 (An.enc y1) 35] [(1,sV Bu),(5,iV x1),(7,.pointer (some ⟨b2,0,none⟩)),(8,Ac),(9,iV (Al.length : Int)),(10,iV (i1 : Int)),(23,bV ((decide (y1.Id = Bu)) && (Dp x1 y1.Kind)))] 28 a w') ?_ ?_)
    ·rcases Bool.eq_false_or_eq_true (decide (y1.Id = Bu)) with hb1 | hb1
     ·refine Cq S rfl rfl rfl hb1 (Vm S rfl rfl fun a S=>Cq S rfl rfl rfl hb1 (Vf Jq S rfl rfl fun a S=>Cq S rfl rfl rfl hb1 (Vl isAgg3 0 S rfl rfl rfl rfl fun a S=>Cq S rfl rfl rfl hb1 (Cy S (fun _=>Ck (vs:=[iV x1,iV y1.Kind]) ⟨(S.tm rfl),(S.tm rfl),trivial⟩ call47) (Pe _ x1 y1.Kind _ rfl) rfl ?_))));clear S;intro v1 a w7 hv1 hk3 hn1 S
      subst hv1
      exact lv S (Gb hb1 (S.tm rfl) (S.tm rfl)) rfl fun a S=>Dl (⟨hk3,S.nf [true] rfl (subR rfl)⟩)
     ·iterate 4 (refine Fl S rfl rfl rfl (Hq hb1) rfl ?_ rfl;clear S;intro a S)
      exact lv S (Gc (Dp x1 y1.Kind) hb1 (S.tm rfl) rfl) rfl fun a S=>Dl (⟨Keep.refl _ _,S.nf [true] rfl (subR rfl)⟩)
    clear S;rintro a w6 ⟨hk4,S⟩
    refine Dl ?_
    obtain ⟨j3,hj3,h⟩:=Dt h
    refine Dj (fun a w'=>∃ x3 : Int,j3 x3 = r ∧ Sx w [] nov [.blk b2 (An.enc y1) 35] [(1,sV Bu),(5,iV x3),(8,Ac),(9,iV (Al.length : Int)),(10,iV (i1 : Int))] 28 a w') ?_ ?_
    ·refine Fc h (S.tm rfl) (fun hb2 h=>?_) (fun hb2 h=>?_)
     ·exact Fg (Vf Jq S rfl rfl fun a S=>Vl isAgg3 0 S rfl rfl rfl rfl fun a S=>Va S rfl rfl fun a S=>Dl (⟨y1.Kind,h,S.nf [true] rfl (subR rfl)⟩))
     ·exact wp_skip (Tn (⟨x1,h,S.nf [true] rfl (subR rfl)⟩))
    clear S h;rintro a w8 ⟨x3,h,S⟩;rw [hj3] at h;clear hj3 j3
    exact Hj (Tn (⟨x3,h,S.nf [false] rfl (subR rfl)⟩))
   clear S h;rintro a w3 ⟨x2,h,S⟩;rw [hj2] at h;clear hj2 j2
   exact Tn (Fg (Vq S Ew rfl rfl rfl fun a S=>Vm S rfl rfl fun a S=>Dl (⟨ys1,⟨i1 + 1,x2,⟨_,(hd1).trans (List.append_cons _ _ _),by simp [hi1]⟩,h,S.nf [] rfl ⟨rfl,rfl,rfl,rfl,(congrArg (fun z=>some (Value.int .i64 z)) (Hi hd1 hi1 (Jk Ak))),trivial⟩⟩,Nat.lt_succ_self _⟩)))
 clear S h;rintro a w2 ⟨x1,h,S⟩;rw [hj1] at h;clear hj1 j1
 refine Tn (Fr (Vm S rfl rfl fun a S=>Va S rfl rfl fun a S=>Dl (wp_ret ?_)))
 subst h
 exact Dx S results48 rfl rfl
set_option maxRecDepth 20000 in
theorem Qb (w : World) (Ac : Value) (Al : List An) (Ak : Slc (view w []) 8 Ac (Al.map An.enc)) (r : (List Int)) (h : Gv Al = some r) :
    Calls prog 18 [Ac].toArray w (Ret w [] fun τ v _=>Le τ 3 1 v r.length (r.flatMap eInt)):=by
 refine Fe func18 rfl ntmps18 rfl fun a S=>?_
 unfold Gv at h
 replace S:=S.k1 0 rfl
 refine Fr (Vk S rfl rfl fun a S=>Dz (Vk S rfl rfl ?_));clear S;intro a S
 replace S:=S.nil 3 1
 refine Dl (Fs (Fr (Vm S rfl rfl fun a S=>lv S (En Eo (S.tm rfl) (Eg Ak)) rfl fun a S=>lv S (Rm rfl) rfl fun a S=>Dl ?_)))
 replace S:=(S.nl [.own (.slice none 0 0) 3 1 ([] : List Int).length (([] : List Int).flatMap eInt)] [true] rfl).k5 0 3 6 7 8 rfl
 obtain ⟨j1,hj1,h⟩:=Dt h
 refine Dj (fun a w'=>∃ x1 : List Int,∃ v1 : Value,j1 x1 = some r ∧ Sx w [] nov [.own v1 3 1 x1.length (x1.flatMap eInt)] [(3,v1)] 29 a w') ?_ ?_
 ·refine wp_block (Gt (fun (ys1 : List An) a w'=>∃ i1 : Nat,∃ x1 : List Int,∃ v1 : Value,(∃ dn,Al = dn ++ ys1 ∧ dn.length = i1) ∧ Fo Al j1 ys1 i1 x1 = some r ∧ Sx w [] nov [.own v1 3 1 x1.length (x1.flatMap eInt)] [(0,Ac),(3,v1),(6,Ac),(7,iV (Al.length : Int)),(8,iV (i1 : Int))] 29 a w') List.length Al ⟨0,([] : List Int),(.slice none 0 0),⟨[],rfl,rfl⟩,h,S.nf [true] rfl (subR rfl)⟩ ?_)
  clear S h;rintro ys1 a w1 ⟨i1,x1,v1,⟨dn,hd1,hi1⟩,h,S⟩
  cases ys1 with
  | nil =>
   rw [Fo.eq_1] at h
   refine Fr (Vb S Ee rfl rfl rfl fun a S=>Ld ?_)
   replace S:=S.k6 0 3 6 7 8 9 rfl
   exact Tn (Fs (wp_cond_false ((S.tm rfl).trans (congrArg Value.bool (Ig hd1 hi1))) (wp_exit (Eb (Eb (Gj (Tn (⟨x1,v1,h,S.nf [true] rfl ⟨rfl,trivial⟩⟩))))))))
  | cons y1 ys1 =>
   rw [Fo.eq_2] at h
   refine Fr (Vb S Ee rfl rfl rfl fun a S=>Ld ?_)
   replace S:=S.k6 0 3 6 7 8 9 rfl
   refine Tn (Fs (wp_cond_true ((S.tm rfl).trans (congrArg Value.bool (Hh hd1 hi1))) (wp_skip (Tn (Fs ?_)))))
   obtain ⟨j2,hj2,h⟩:=Dt h
   refine Dj (fun a w'=>∃ x2 : List Int,∃ v2 : Value,j2 x2 = some r ∧ Sx w [] nov [.own v2 3 1 x2.length (x2.flatMap eInt)] [(0,Ac),(3,v2),(6,Ac),(7,iV (Al.length : Int)),(8,iV (i1 : Int))] 29 a w') ?_ ?_
   ·refine wp_block (Fr (Vm S rfl rfl ?_));clear S;intro a S
    obtain ⟨b1,o1,hm1,hr1⟩:=Ev (a:=a) (x:=.tmp 6) (y:=.tmp 8) (ty:=0) Eo Ak (Ie hd1 hi1) rfl (S.tm rfl) (S.tm rfl)
    refine lv S (hr1 _) rfl ?_;clear S;intro a S
    clear hr1
    refine lv S (Ey isAgg35 sizeOf35 (off:=o1) (o:=0) (part:=(An.enc y1)) rfl rfl (S.tm rfl) (hm1.at S.emb0)) rfl fun a S=>Lq S zeroValue35 (cs:=[iV 0,iV 0,sV Cj,sV Cj,sV Cj,sV Cj,iV 0,iV 0]) rfl rfl ?_;clear S;intro a w4 b2 hz1 hk1 S
    refine Va S rfl rfl fun a S=>Gy S (S.tm rfl) (S.tm rfl) (i:=0) (off:=0) rfl sizeOf35 (vs:=(An.enc y1)) rfl rfl rfl rfl ?_;clear S;intro w5 hk2 S
    refine Dl (Fs ?_)
    obtain ⟨hc1,h⟩:=Gz h
    refine Fi [] ([]) Tryz.mixed S rfl (by kernel_rfl) ?_;clear S;intro w8 hk5 hsel S
    refine Co 0 S hsel rfl rfl rfl (by kernel_rfl) (by kernel_rfl) rfl (fun _ hw=>(Rm (S.tm rfl))) fun a S=>Co 1 S hsel rfl rfl rfl (by kernel_rfl) (by kernel_rfl) rfl (fun _ hw=>(Rm (S.tm rfl))) ?_;clear S;intro a S
    obtain ⟨v6,hs2,hr3⟩:=Zl (a:=a) (x:=.tmp 13) (y':=.tmp 14) (ty:=28) Eo Ak (S.tm rfl) (S.tm rfl) hc1
    refine Co 2 S hsel rfl rfl rfl (by kernel_rfl) (by kernel_rfl) rfl (fun _ hw=>(hr3 _)) ?_;clear S;intro a S
    clear hr3
    refine Co 3 S hsel rfl rfl rfl (by kernel_rfl) (by kernel_rfl) rfl (fun _ hw=>(Fx Iw (S.tm rfl))) fun a S=>Co 4 S hsel rfl rfl rfl (by kernel_rfl) (by kernel_rfl) rfl (fun _ hw=>(Hr isAgg9 (off:=0) (o:=2) (S.tm rfl) ((S.blk_mem (i:=0) (cells:=(An.enc y1)) (b:=b2) (T:=35) rfl (Ge (e':=.blk b2 (An.enc y1) 35))).kept hw) rfl)) fun a S=>Co 6 S hsel rfl rfl rfl (by kernel_rfl) (by kernel_rfl) rfl (fun _ hw=>(Fx Jq (S.tm rfl))) fun a S=>Co 7 S hsel rfl rfl rfl (by kernel_rfl) (by kernel_rfl) rfl (fun _ hw=>(Hr isAgg3 (off:=0) (o:=1) (S.tm rfl) ((S.blk_mem (i:=0) (cells:=(An.enc y1)) (b:=b2) (T:=35) rfl (Ge (e':=.blk b2 (An.enc y1) 35))).kept hw) rfl)) fun a S=>Ea 5 (by kernel_rfl) rfl (Cy S (fun _=>Ck (vs:=[v6,sV y1.Id]) ⟨(S.tm rfl),(S.tm rfl),trivial⟩ call48) (Mt _ v6 (cut Al 0 (i1 : Int)) (hs2.mono (S.le_arg Fp)) y1.Id _ rfl) rfl ?_);clear S;intro v7 a w9 hv3 hk6 hn3 S
    subst hv3
    refine Ld (Ej hk6 (Ea 8 (by kernel_rfl) rfl (Cy S (fun _=>Ck (vs:=[iV (Il (cut Al 0 (i1 : Int)) y1.Id),iV y1.Kind]) ⟨(S.tm rfl),(S.tm rfl),trivial⟩ call47) (Pe _ (Il (cut Al 0 (i1 : Int)) y1.Id) y1.Kind _ rfl) rfl ?_)));clear S;intro v8 a w10 hv4 hk7 hn4 S
    subst hv4
    refine Ld (Ej hk7 (Iy [9] hsel (by kernel_rfl) rfl ?_))
    clear hsel
    refine Fb S rfl (Ih (S.tm rfl)) rfl fun a S=>Ik ?_
    replace S:=(S.nl [.own v1 3 1 x1.length (x1.flatMap eInt)] [false,true] rfl).k7 0 3 4 6 7 8 22 rfl
    refine Tn ?_
    obtain ⟨j3,hj3,h⟩:=Dt h
    refine Dj (fun a w'=>∃ x3 : List Int,∃ v9 : Value,j3 x3 = some r ∧ Sx w [] nov [.own v9 3 1 x3.length (x3.flatMap eInt)] [(0,Ac),(3,v9),(6,Ac),(7,iV (Al.length : Int)),(8,iV (i1 : Int))] 29 a w') ?_ ?_
    ·refine Fc h (S.tm rfl) (fun hb1 h=>?_) (fun hb1 h=>?_)
     ·refine Fg (Vm S rfl rfl fun a S=>Vm S rfl rfl fun a S=>De S underlying22 sizeOf3 zeroValue3 rfl rfl (pv:=[(0,iV (i1 : Int))]) ⟨rfl,(S.tm rfl),trivial⟩ (cs:=[iV (i1 : Int)]) (by kernel_rfl) rfl ?_);clear S;intro a w12 b3 hz2 hk8 S
      obtain ⟨hc2,h⟩:=Gz h
      refine Kw Oj Kx S (S.tm rfl) (i:=1) rfl (S.tm rfl) (j:=0) rfl (ys:=[(i1 : Int)]) rfl rfl rfl rfl (by have:=Lh hc2;omega) rfl ?_;clear S;intro v10 a w13 hk9 S
      exact Va S rfl rfl fun a S=>Dl (⟨(x1 ++ [(i1 : Int)]),v10,h,S.nf [false,true] rfl (subR rfl)⟩)
     ·exact wp_skip (Tn (⟨x1,v1,h,S.nf [true] rfl (subR rfl)⟩))
    clear S h;rintro a w11 ⟨x3,v9,h,S⟩;rw [hj3] at h;clear hj3 j3
    exact Hj (Tn (⟨x3,v9,h,S.nf [true] rfl (subR rfl)⟩))
   clear S h;rintro a w3 ⟨x2,v2,h,S⟩;rw [hj2] at h;clear hj2 j2
   exact Tn (Fg (Vq S Ew rfl rfl rfl fun a S=>Vm S rfl rfl fun a S=>Dl (⟨ys1,⟨i1 + 1,x2,v2,⟨_,(hd1).trans (List.append_cons _ _ _),by simp [hi1]⟩,h,S.nf [true] rfl ⟨rfl,rfl,rfl,rfl,(congrArg (fun z=>some (Value.int .i64 z)) (Hi hd1 hi1 (Jk Ak))),trivial⟩⟩,Nat.lt_succ_self _⟩)))
 clear S h;rintro a w2 ⟨x1,v1,h,S⟩;rw [hj1] at h;clear hj1 j1
 refine Tn (Fr (Vm S rfl rfl fun a S=>Va S rfl rfl fun a S=>Dl (wp_ret ?_)))
 obtain rfl:=Option.some.inj h
 exact Dx S results18 rfl (Ll S (i:=0) rfl rfl)
theorem Qr (w : World) (Ac : Value) (Al : List An) (Ak : Slc (view w []) 8 Ac (Al.map An.enc)) (Ap : Int) (r : (List An)) (h : Mb Al Ap = some r) :
    Calls prog 50 [Ac,iV Ap].toArray w (Ret w [] fun τ v _=>Le τ 35 8 v r.length (r.flatMap An.enc)):=by
 refine Fe func50 rfl ntmps50 rfl fun a S=>?_
 unfold Mb at h
 replace S:=S.k2 0 1 rfl
 refine Fr (Vk S rfl rfl fun a S=>Dz (Vk S rfl rfl ?_));clear S;intro a S
 replace S:=S.nil 35 8
 refine Dl (Fs (Fr (Vm S rfl rfl fun a S=>lv S (En Eo (S.tm rfl) (Eg Ak)) rfl fun a S=>lv S (Rm rfl) rfl fun a S=>Dl ?_)))
 replace S:=(S.nl [.own (.slice none 0 0) 35 8 ([] : List An).length (([] : List An).flatMap An.enc)] [true] rfl).k5 1 5 8 9 10 rfl
 obtain ⟨j1,hj1,h⟩:=Dt h
 refine Dj (fun a w'=>∃ x1 : List An,∃ v1 : Value,j1 x1 = some r ∧ Sx w [] nov [.own v1 35 8 x1.length (x1.flatMap An.enc)] [(5,v1)] 24 a w') ?_ ?_
 ·refine wp_block (Gt (fun (ys1 : List An) a w'=>∃ i1 : Nat,∃ x1 : List An,∃ v1 : Value,(∃ dn,Al = dn ++ ys1 ∧ dn.length = i1) ∧ Im Ap j1 ys1 i1 x1 = some r ∧ Sx w [] nov [.own v1 35 8 x1.length (x1.flatMap An.enc)] [(1,iV Ap),(5,v1),(8,Ac),(9,iV (Al.length : Int)),(10,iV (i1 : Int))] 24 a w') List.length Al ⟨0,([] : List An),(.slice none 0 0),⟨[],rfl,rfl⟩,h,S.nf [true] rfl (subR rfl)⟩ ?_)
  clear S h;rintro ys1 a w1 ⟨i1,x1,v1,⟨dn,hd1,hi1⟩,h,S⟩
  cases ys1 with
  | nil =>
   rw [Im.eq_1] at h
   refine Fr (Vb S Ee rfl rfl rfl fun a S=>Ld ?_)
   replace S:=S.k6 1 5 8 9 10 11 rfl
   exact Tn (Fs (wp_cond_false ((S.tm rfl).trans (congrArg Value.bool (Ig hd1 hi1))) (wp_exit (Eb (Eb (Gj (Tn (⟨x1,v1,h,S.nf [true] rfl ⟨rfl,trivial⟩⟩))))))))
  | cons y1 ys1 =>
   rw [Im.eq_2] at h
   refine Fr (Vb S Ee rfl rfl rfl fun a S=>Ld ?_)
   replace S:=S.k6 1 5 8 9 10 11 rfl
   refine Tn (Fs (wp_cond_true ((S.tm rfl).trans (congrArg Value.bool (Hh hd1 hi1))) (wp_skip (Tn (Fs ?_)))))
   obtain ⟨j2,hj2,h⟩:=Dt h
   refine Dj (fun a w'=>∃ x2 : List An,∃ v2 : Value,j2 x2 = some r ∧ Sx w [] nov [.own v2 35 8 x2.length (x2.flatMap An.enc)] [(1,iV Ap),(5,v2),(8,Ac),(9,iV (Al.length : Int)),(10,iV (i1 : Int))] 24 a w') ?_ ?_
   ·refine wp_block (Fs (Fg ?_))
    obtain ⟨b1,o1,hm1,hr1⟩:=Ev (a:=a) (x:=.tmp 8) (y:=.tmp 10) (ty:=0) Eo Ak (Ie hd1 hi1) rfl (S.tm rfl) (S.tm rfl)
    refine lv S (hr1 _) rfl ?_;clear S;intro a S
    clear hr1
    refine lv S (Ey isAgg35 sizeOf35 (off:=o1) (o:=0) (part:=(An.enc y1)) rfl rfl (S.tm rfl) (hm1.at S.emb0)) rfl fun a S=>Lq S zeroValue35 (cs:=[iV 0,iV 0,sV Cj,sV Cj,sV Cj,sV Cj,iV 0,iV 0]) rfl rfl ?_;clear S;intro a w4 b2 hz1 hk1 S
    refine Gy S (S.tm rfl) (S.tm rfl) (i:=0) (off:=0) rfl sizeOf35 (vs:=(An.enc y1)) rfl rfl rfl rfl ?_;clear S;intro w5 hk2 S
    refine Dz (Vf Lj S rfl rfl fun a S=>Vl isAgg3 0 S rfl rfl rfl rfl fun a S=>Vm S rfl rfl fun a S=>Vb S Sb rfl rfl rfl fun a S=>Dl ?_)
    obtain ⟨j3,hj3,h⟩:=Dt h
    refine Dj (fun a w'=>∃ x3 : List An,∃ v3 : Value,j3 x3 = some r ∧ Sx w [] nov [.own v3 35 8 x3.length (x3.flatMap An.enc)] [(1,iV Ap),(5,v3),(8,Ac),(9,iV (Al.length : Int)),(10,iV (i1 : Int))] 24 a w') ?_ ?_
    ·refine Fc h (S.tm rfl) (fun hb1 h=>?_) (fun hb1 h=>?_)
     ·refine Fg (Vm S rfl rfl fun a S=>lv S (Ey isAgg35 sizeOf35 (off:=0) (o:=0) (part:=(An.enc y1)) rfl rfl (S.tm rfl) (S.cellsAt (i:=0) rfl)) rfl fun a S=>De S underlying28 sizeOf35 zeroValue35 rfl rfl (pv:=[(0,.agg (An.enc y1).toArray)]) ⟨rfl,(S.tm rfl),trivial⟩ (cs:=[iV y1.At,iV y1.Kind,sV y1.Id,sV y1.Who,sV y1.Club,sV y1.Race,iV y1.Age,iV y1.Time]) (by kernel_rfl) rfl ?_);clear S;intro a w7 b3 hz2 hk3 S
      obtain ⟨hc1,h⟩:=Gz h
      refine Kw Eo An.enc_ok S (S.tm rfl) (i:=2) rfl (S.tm rfl) (j:=0) rfl (ys:=[y1]) rfl rfl rfl rfl (by have:=Lh hc1;omega) rfl ?_;clear S;intro v4 a w8 hk4 S
      refine Va S rfl rfl fun a S=>Ld ?_
      replace S:=(S.nl [.own v4 35 8 (x1 ++ [y1]).length ((x1 ++ [y1]).flatMap An.enc)] [false,false,true] rfl).k5 1 5 8 9 10 rfl
      exact Tn (⟨(x1 ++ [y1]),v4,h,S.nf [true] rfl (subR rfl)⟩)
     ·exact wp_skip (Tn (⟨x1,v1,h,S.nf [false,true] rfl (subR rfl)⟩))
    clear S h;rintro a w6 ⟨x3,v3,h,S⟩;rw [hj3] at h;clear hj3 j3
    exact Hj (Tn (⟨x3,v3,h,S.nf [true] rfl (subR rfl)⟩))
   clear S h;rintro a w3 ⟨x2,v2,h,S⟩;rw [hj2] at h;clear hj2 j2
   exact Tn (Fg (Vq S Ew rfl rfl rfl fun a S=>Vm S rfl rfl fun a S=>Dl (⟨ys1,⟨i1 + 1,x2,v2,⟨_,(hd1).trans (List.append_cons _ _ _),by simp [hi1]⟩,h,S.nf [true] rfl ⟨rfl,rfl,rfl,rfl,(congrArg (fun z=>some (Value.int .i64 z)) (Hi hd1 hi1 (Jk Ak))),trivial⟩⟩,Nat.lt_succ_self _⟩)))
 clear S h;rintro a w2 ⟨x1,v1,h,S⟩;rw [hj1] at h;clear hj1 j1
 refine Tn (Fr (Vm S rfl rfl fun a S=>Va S rfl rfl fun a S=>Dl (wp_ret ?_)))
 obtain rfl:=Option.some.inj h
 exact Dx S results50 rfl (Ll S (i:=0) rfl rfl)
set_option maxRecDepth 20000 in
theorem Tk (w : World) (Ac : Value) (Al : List An) (Ak : Slc (view w []) 8 Ac (Al.map An.enc)) (Ap : Int) (r : (List An)) (h : Ly Al Ap = some r) :
    Calls prog 49 [Ac,iV Ap].toArray w (Ret w [] fun τ v _=>Le τ 35 8 v r.length (r.flatMap An.enc)):=by
 refine Fe func49 rfl ntmps49 rfl fun a S=>?_
 unfold Ly at h
 replace S:=S.k2 0 1 rfl
 refine Fr (Vk S rfl rfl fun a S=>Dz (Vm S rfl rfl fun a S=>Vm S rfl rfl ?_));clear S;intro a S
 obtain ⟨r1,hr1,h⟩:=Eh h
 have hz1:=S.keep.size
 refine Cy S (fun _=>Ck (vs:=[Ac,iV Ap]) ⟨(S.tm rfl),(S.tm rfl),trivial⟩ call50) (Qr _ Ac Al (Ak.mono (S.le_arg Fp)) Ap _ hr1) rfl ?_;clear S;intro v1 a w1 hv1 hk1 hn1 S
 obtain ⟨φ1,hl1,hm1,S⟩:=S.see' hn1 hz1
 have hs1:=hv1.mono hm1
 refine Va S rfl rfl fun a S=>Dz (Vk S rfl rfl ?_);clear S;intro a S
 replace S:=S.nil 35 8
 refine Dl (Fs (Fr (Vm S rfl rfl fun a S=>lv S (En Eo (S.tm rfl) (Eg (Ei An.enc_ok hs1))) rfl fun a S=>lv S (Rm rfl) rfl fun a S=>Dl ?_)))
 replace S:=(S.nl [.own (.slice none 0 0) 35 8 ([] : List An).length (([] : List An).flatMap An.enc)] [true] rfl).k5 0 5 11 12 13 rfl
 obtain ⟨j1,hj1,h⟩:=Dt h
 refine Dj (fun a w'=>∃ x1 : List An,∃ v2 : Value,j1 x1 = some r ∧ Sx w [] φ1 [.own v2 35 8 x1.length (x1.flatMap An.enc)] [(5,v2)] 36 a w') ?_ ?_
 ·refine wp_block (Gt (fun (ys1 : List An) a w'=>∃ i1 : Nat,∃ x1 : List An,∃ v2 : Value,(∃ dn,r1 = dn ++ ys1 ∧ dn.length = i1) ∧ He r1 j1 ys1 i1 x1 = some r ∧ Sx w [] φ1 [.own v2 35 8 x1.length (x1.flatMap An.enc)] [(0,v1),(5,v2),(11,v1),(12,iV (r1.length : Int)),(13,iV (i1 : Int))] 36 a w') List.length r1 ⟨0,([] : List An),(.slice none 0 0),⟨[],rfl,rfl⟩,h,S.nf [true] rfl (subR rfl)⟩ ?_)
  clear S h;rintro ys1 a w2 ⟨i1,x1,v2,⟨dn,hd1,hi1⟩,h,S⟩
  cases ys1 with
  | nil =>
   rw [He.eq_1] at h
   refine Fr (Vb S Ee rfl rfl rfl fun a S=>Ld ?_)
   replace S:=S.k6 0 5 11 12 13 14 rfl
   exact Tn (Fs (wp_cond_false ((S.tm rfl).trans (congrArg Value.bool (Ig hd1 hi1))) (wp_exit (Eb (Eb (Gj (Tn (⟨x1,v2,h,S.nf [true] rfl ⟨rfl,trivial⟩⟩))))))))
  | cons y1 ys1 =>
   rw [He.eq_2] at h
   refine Fr (Vb S Ee rfl rfl rfl fun a S=>Ld ?_)
   replace S:=S.k6 0 5 11 12 13 14 rfl
   refine Tn (Fs (wp_cond_true ((S.tm rfl).trans (congrArg Value.bool (Hh hd1 hi1))) (wp_skip (Tn (Fs ?_)))))
   obtain ⟨j2,hj2,h⟩:=Dt h
   refine Dj (fun a w'=>∃ x2 : List An,∃ v3 : Value,j2 x2 = some r ∧ Sx w [] φ1 [.own v3 35 8 x2.length (x2.flatMap An.enc)] [(0,v1),(5,v3),(11,v1),(12,iV (r1.length : Int)),(13,iV (i1 : Int))] 36 a w') ?_ ?_
   ·refine wp_block (Fr (Vm S rfl rfl ?_));clear S;intro a S
    obtain ⟨b1,o1,hm2,hr2⟩:=Ev (a:=a) (x:=.tmp 11) (y:=.tmp 13) (ty:=0) Eo (Ei An.enc_ok hs1) (Ie hd1 hi1) rfl (S.tm rfl) (S.tm rfl)
    refine lv S (hr2 _) rfl ?_;clear S;intro a S
    clear hr2
    refine lv S (Ey isAgg35 sizeOf35 (off:=o1) (o:=0) (part:=(An.enc y1)) rfl rfl (S.tm rfl) (hm2.at S.emb)) rfl fun a S=>Lq S zeroValue35 (cs:=[iV 0,iV 0,sV Cj,sV Cj,sV Cj,sV Cj,iV 0,iV 0]) rfl rfl ?_;clear S;intro a w5 b2 hz2 hk2 S
    refine Va S rfl rfl fun a S=>Gy S (S.tm rfl) (S.tm rfl) (i:=0) (off:=0) rfl sizeOf35 (vs:=(An.enc y1)) rfl rfl rfl rfl ?_;clear S;intro w6 hk3 S
    refine Dl (Fs ?_)
    obtain ⟨j3,hj3,h⟩:=Dt h
    refine Dj (fun a w'=>∃ x3 : Bool,j3 x3 = some r ∧ Sx w [] φ1 [.blk b2 (An.enc y1) 35,.own v2 35 8 x1.length (x1.flatMap An.enc)] [(0,v1),(5,v2),(7,.pointer (some ⟨b2,0,none⟩)),(11,v1),(12,iV (r1.length : Int)),(13,iV (i1 : Int)),(29,bV x3)] 36 a w') ?_ ?_
    ·rcases Bool.eq_false_or_eq_true (decide (y1.Kind = 1)) with hb1 | hb1
     ·replace h:=Mu h hb1
      obtain ⟨hc1,h⟩:=Gz h
      refine Fi [] ([]) Tryz.mixed S rfl (by kernel_rfl) ?_;clear S;intro w9 hk5 hsel S
      refine Co 0 S hsel rfl rfl rfl (by kernel_rfl) (by kernel_rfl) rfl (fun _ hw=>(Fx Jq (S.tm rfl))) fun a S=>Co 1 S hsel rfl rfl rfl (by kernel_rfl) (by kernel_rfl) rfl (fun _ hw=>(Hr isAgg3 (off:=0) (o:=1) (S.tm rfl) ((S.blk_mem (i:=0) (cells:=(An.enc y1)) (b:=b2) (T:=35) rfl (Ge (e':=.blk b2 (An.enc y1) 35))).kept hw) rfl)) fun a S=>Co 2 S hsel rfl rfl rfl (by kernel_rfl) (by kernel_rfl) rfl (fun _ hw=>(Ip (S.tm rfl) rfl)) fun a S=>Co 3 S hsel rfl rfl rfl (by kernel_rfl) (by kernel_rfl) rfl (fun _ hw=>(Rm (S.tm rfl))) fun a S=>Et 4 S hsel rfl rfl rfl rfl hb1 rfl rfl (by kernel_rfl) (by kernel_rfl) rfl (fun _ hw=>(Rm (S.tm rfl))) fun a S=>Et 5 S hsel rfl rfl rfl rfl hb1 rfl rfl (by kernel_rfl) (by kernel_rfl) rfl (fun _ hw=>(Rm (S.tm rfl))) ?_;clear S;intro a S
      obtain ⟨v6,hs3,hr4⟩:=Zl (a:=a) (x:=.tmp 22) (y':=.tmp 23) (ty:=28) Eo (Ei An.enc_ok hs1) (S.tm rfl) (S.tm rfl) hc1
      refine Et 6 S hsel rfl rfl rfl rfl hb1 rfl rfl (by kernel_rfl) (by kernel_rfl) rfl (fun _ hw=>(hr4 _)) ?_;clear S;intro a S
      clear hr4
      refine Et 7 S hsel rfl rfl rfl rfl hb1 rfl rfl (by kernel_rfl) (by kernel_rfl) rfl (fun _ hw=>(Fx Iw (S.tm rfl))) fun a S=>Et 8 S hsel rfl rfl rfl rfl hb1 rfl rfl (by kernel_rfl) (by kernel_rfl) rfl (fun _ hw=>(Hr isAgg9 (off:=0) (o:=2) (S.tm rfl) ((S.blk_mem (i:=0) (cells:=(An.enc y1)) (b:=b2) (T:=35) rfl (Ge (e':=.blk b2 (An.enc y1) 35))).kept hw) rfl)) fun a S=>Ea 9 (by kernel_rfl) rfl (Cq S rfl rfl rfl hb1 (Cy S (fun _=>Ck (vs:=[v6,sV y1.Id]) ⟨(S.tm rfl),(S.tm rfl),trivial⟩ call48) (Mt _ v6 (cut r1 0 (i1 : Int)) (hs3.mono (S.le_new Fp)) y1.Id _ rfl) rfl ?_));clear S;intro v7 a w10 hv3 hk6 hn3 S
      subst hv3
      refine Ld (Ej hk6 (Iy [10,11] hsel (by kernel_rfl) rfl ?_))
      clear hsel
      refine Ng S rfl rfl rfl rfl hb1 (Oi S (Ip (S.tm rfl) rfl) rfl fun a S=>Fb S rfl (Nm hb1 (S.tm rfl) (S.tm rfl)) rfl fun a S=>Ik ?_)
      replace S:=(S.nl [.blk b2 (An.enc y1) 35,.own v2 35 8 x1.length (x1.flatMap An.enc)] [true,true] rfl).k14 0 5 7 11 12 13 22 23 24 25 26 27 28 29 rfl
      exact Tn (⟨decide ((Il (cut r1 0 (i1 : Int)) y1.Id) = 0),h,S.nf [true,true] rfl (subR rfl)⟩)
     ·replace h:=Mv h hb1
      refine Fi [] ([]) Tryz.mixed S rfl (by kernel_rfl) ?_;clear S;intro w11 hk7 hsel S
      refine Iy [0,1,2,3,4,5,6,7,8,9,10,11] hsel (by kernel_rfl) rfl ?_
      clear hsel
      refine Fb S rfl (Fx Jq (S.tm rfl)) rfl fun a S=>Fb S rfl (Mn isAgg3 (S.tm rfl) (S.cell (i:=0) rfl rfl)) rfl fun a S=>Fb S rfl (Ip (S.tm rfl) rfl) rfl fun a S=>Fb S rfl (Rm (S.tm rfl)) rfl ?_;clear S;intro a S
      iterate 7 (refine Tf S rfl rfl rfl rfl (Hq hb1) rfl ?_ rfl;clear S;intro a S)
      refine Fb S rfl (Nn hb1 (S.tm rfl) rfl) rfl fun a S=>Ik ?_
      replace S:=(S.nl [.blk b2 (An.enc y1) 35,.own v2 35 8 x1.length (x1.flatMap An.enc)] [true,true] rfl).k7 0 5 7 11 12 13 29 rfl
      exact Tn (⟨false,h,S.nf [true,true] rfl (subR rfl)⟩)
    clear S h;rintro a w7 ⟨x3,h,S⟩;rw [hj3] at h;clear hj3 j3
    refine Tn ?_
    obtain ⟨j4,hj4,h⟩:=Dt h
    refine Dj (fun a w'=>∃ x4 : List An,∃ v8 : Value,j4 x4 = some r ∧ Sx w [] φ1 [.blk b2 (An.enc y1) 35,.own v8 35 8 x4.length (x4.flatMap An.enc)] [(0,v1),(5,v8),(11,v1),(12,iV (r1.length : Int)),(13,iV (i1 : Int))] 36 a w') ?_ ?_
    ·refine Fc h (S.tm rfl) (fun hb2 h=>?_) (fun hb2 h=>?_)
     ·refine Fg (Vm S rfl rfl fun a S=>lv S (Ey isAgg35 sizeOf35 (off:=0) (o:=0) (part:=(An.enc y1)) rfl rfl (S.tm rfl) (S.cellsAt (i:=0) rfl)) rfl fun a S=>De S underlying28 sizeOf35 zeroValue35 rfl rfl (pv:=[(0,.agg (An.enc y1).toArray)]) ⟨rfl,(S.tm rfl),trivial⟩ (cs:=[iV y1.At,iV y1.Kind,sV y1.Id,sV y1.Who,sV y1.Club,sV y1.Race,iV y1.Age,iV y1.Time]) (by kernel_rfl) rfl ?_);clear S;intro a w13 b3 hz3 hk8 S
      obtain ⟨hc2,h⟩:=Gz h
      refine Kw Eo An.enc_ok S (S.tm rfl) (i:=2) rfl (S.tm rfl) (j:=0) rfl (ys:=[y1]) rfl rfl rfl rfl (by have:=Lh hc2;omega) rfl ?_;clear S;intro v9 a w14 hk9 S
      exact Va S rfl rfl fun a S=>Dl (⟨(x1 ++ [y1]),v9,h,S.nf [false,true,true] rfl (subR rfl)⟩)
     ·exact wp_skip (Tn (⟨x1,v2,h,S.nf [true,true] rfl (subR rfl)⟩))
    clear S h;rintro a w12 ⟨x4,v8,h,S⟩;rw [hj4] at h;clear hj4 j4
    exact Hj (Tn (⟨x4,v8,h,S.nf [false,true] rfl (subR rfl)⟩))
   clear S h;rintro a w4 ⟨x2,v3,h,S⟩;rw [hj2] at h;clear hj2 j2
   exact Tn (Fg (Vq S Ew rfl rfl rfl fun a S=>Vm S rfl rfl fun a S=>Dl (⟨ys1,⟨i1 + 1,x2,v3,⟨_,(hd1).trans (List.append_cons _ _ _),by simp [hi1]⟩,h,S.nf [true] rfl ⟨rfl,rfl,rfl,rfl,(congrArg (fun z=>some (Value.int .i64 z)) (Hi hd1 hi1 (Jk (Ei An.enc_ok hs1)))),trivial⟩⟩,Nat.lt_succ_self _⟩)))
 clear S h;rintro a w3 ⟨x1,v2,h,S⟩;rw [hj1] at h;clear hj1 j1
 refine Tn (Fr (Vm S rfl rfl fun a S=>Va S rfl rfl fun a S=>Dl (wp_ret ?_)))
 obtain rfl:=Option.some.inj h
 exact Dx S results49 rfl (Ll S (i:=0) rfl rfl)
set_option maxRecDepth 20000 in
theorem Tl (w : World) (Ac : Value) (Al : List An) (Ak : Slc (view w []) 8 Ac (Al.map An.enc)) (Ap : Int) (r : (List ByteArray)) (h : Ja Al Ap = some r) :
    Calls prog 19 [Ac,iV Ap].toArray w (Ret w [] fun τ v _=>Le τ 9 1 v r.length (r.flatMap Kh)):=by
 refine Fe func19 rfl ntmps19 rfl fun a S=>?_
 unfold Ja at h
 replace S:=S.k2 0 1 rfl
 refine Fr (Vk S rfl rfl fun a S=>Dz (Vk S rfl rfl ?_));clear S;intro a S
 replace S:=S.nil 9 1
 refine Dl (Fs (Fr (Vm S rfl rfl fun a S=>Vm S rfl rfl ?_)));clear S;intro a S
 obtain ⟨r1,hr1,h⟩:=Eh h
 have hz1:=S.keep.size
 refine Cy S (fun _=>Ck (vs:=[Ac,iV Ap]) ⟨(S.tm rfl),(S.tm rfl),trivial⟩ call49) (Tk _ Ac Al (Ak.mono (S.le_arg Fp)) Ap _ hr1) rfl ?_;clear S;intro v1 a w1 hv1 hk1 hn1 S
 obtain ⟨φ1,hl1,hm1,S⟩:=S.see' hn1 hz1
 have hs1:=hv1.mono hm1
 refine lv S (En Eo (S.tm rfl) (Eg (Ei An.enc_ok hs1))) rfl fun a S=>lv S (Rm rfl) rfl fun a S=>Dl ?_
 replace S:=(S.nl [.own (.slice none 0 0) 9 1 ([] : List ByteArray).length (([] : List ByteArray).flatMap Kh)] [true] rfl).k6 0 1 5 10 11 12 rfl
 obtain ⟨j1,hj1,h⟩:=Dt h
 refine Dj (fun a w'=>∃ x1 : List ByteArray,∃ φ2 : View,∃ v2 : Value,j1 x1 = some r ∧ View.le φ1 φ2 ∧ Sx w [] φ2 [.own v2 9 1 x1.length (x1.flatMap Kh)] [(5,v2)] 30 a w') ?_ ?_
 ·refine wp_block (Gt (fun (ys1 : List An) a w'=>∃ i1 : Nat,∃ x1 : List ByteArray,∃ φ2 : View,∃ v2 : Value,(∃ dn,r1 = dn ++ ys1 ∧ dn.length = i1) ∧ Hf Al Ap j1 ys1 i1 x1 = some r ∧ View.le φ1 φ2 ∧ Sx w [] φ2 [.own v2 9 1 x1.length (x1.flatMap Kh)] [(0,Ac),(1,iV Ap),(5,v2),(10,v1),(11,iV (r1.length : Int)),(12,iV (i1 : Int))] 30 a w') List.length r1 ⟨0,([] : List ByteArray),φ1,(.slice none 0 0),⟨[],rfl,rfl⟩,h,View.le_refl _,S.nf [true] rfl (subR rfl)⟩ ?_)
  clear S h;rintro ys1 a w2 ⟨i1,x1,φ2,v2,⟨dn,hd1,hi1⟩,h,hl2,S⟩
  cases ys1 with
  | nil =>
   rw [Hf.eq_1] at h
   refine Fr (Vb S Ee rfl rfl rfl fun a S=>Ld ?_)
   replace S:=S.k7 0 1 5 10 11 12 13 rfl
   exact Tn (Fs (wp_cond_false ((S.tm rfl).trans (congrArg Value.bool (Ig hd1 hi1))) (wp_exit (Eb (Eb (Gj (Tn (⟨x1,φ2,v2,h,hl2,S.nf [true] rfl ⟨rfl,trivial⟩⟩))))))))
  | cons y1 ys1 =>
   rw [Hf.eq_2] at h
   refine Fr (Vb S Ee rfl rfl rfl fun a S=>Ld ?_)
   replace S:=S.k7 0 1 5 10 11 12 13 rfl
   refine Tn (Fs (wp_cond_true ((S.tm rfl).trans (congrArg Value.bool (Hh hd1 hi1))) (wp_skip (Tn (Fs ?_)))))
   obtain ⟨j2,hj2,h⟩:=Dt h
   refine Dj (fun a w'=>∃ x2 : List ByteArray,∃ φ3 : View,∃ v3 : Value,j2 x2 = some r ∧ View.le φ2 φ3 ∧ Sx w [] φ3 [.own v3 9 1 x2.length (x2.flatMap Kh)] [(0,Ac),(1,iV Ap),(5,v3),(10,v1),(11,iV (r1.length : Int)),(12,iV (i1 : Int))] 30 a w') ?_ ?_
   ·refine wp_block (Fs (Fg ?_))
    obtain ⟨b1,o1,hm2,hr2⟩:=Ev (a:=a) (x:=.tmp 10) (y:=.tmp 12) (ty:=0) Eo (Ei An.enc_ok hs1) (Ie hd1 hi1) rfl (S.tm rfl) (S.tm rfl)
    refine lv S (hr2 _) rfl ?_;clear S;intro a S
    clear hr2
    refine lv S (Ey isAgg35 sizeOf35 (off:=o1) (o:=0) (part:=(An.enc y1)) rfl rfl (S.tm rfl) ((hm2.mono hl2).at S.emb)) rfl fun a S=>Lq S zeroValue35 (cs:=[iV 0,iV 0,sV Cj,sV Cj,sV Cj,sV Cj,iV 0,iV 0]) rfl rfl ?_;clear S;intro a w5 b2 hz2 hk2 S
    refine Gy S (S.tm rfl) (S.tm rfl) (i:=0) (off:=0) rfl sizeOf35 (vs:=(An.enc y1)) rfl rfl rfl rfl ?_;clear S;intro w6 hk3 S
    refine Dl (Fs ?_)
    obtain ⟨r2,hr3,h⟩:=Eh h
    refine Fi [] ([]) Tryz.mixed S rfl (by kernel_rfl) ?_;clear S;intro w9 hk6 hsel S
    refine Co 0 S hsel rfl rfl rfl (by kernel_rfl) (by kernel_rfl) rfl (fun _ hw=>(Rm (S.tm rfl))) fun a S=>Co 1 S hsel rfl rfl rfl (by kernel_rfl) (by kernel_rfl) rfl (fun _ hw=>(Rm (S.tm rfl))) fun a S=>Co 3 S hsel rfl rfl rfl (by kernel_rfl) (by kernel_rfl) rfl (fun _ hw=>(Fx Iw (S.tm rfl))) fun a S=>Co 4 S hsel rfl rfl rfl (by kernel_rfl) (by kernel_rfl) rfl (fun _ hw=>(Hr isAgg9 (off:=0) (o:=2) (S.tm rfl) ((S.blk_mem (i:=0) (cells:=(An.enc y1)) (b:=b2) (T:=35) rfl (Ge (e':=.blk b2 (An.enc y1) 35))).kept hw) rfl)) fun a S=>Ea 2 (by kernel_rfl) rfl ?_
    have hz4:=S.keep.size
    refine Cy S (fun _=>Ck (vs:=[Ac,iV Ap]) ⟨(S.tm rfl),(S.tm rfl),trivial⟩ call50) (Qr _ Ac Al (Ak.mono (S.le_arg Fp)) Ap _ hr3) rfl ?_;clear S;intro v6 a w10 hv4 hk7 hn4 S
    obtain ⟨φ5,hl5,hm4,S⟩:=S.see' hn4 hz4
    have hs3:=hv4.mono hm4
    refine Ld (Ej hk7 (Ea 5 (by kernel_rfl) rfl (Cy S (fun _=>Ck (vs:=[v6,sV y1.Id]) ⟨(S.tm rfl),(S.tm rfl),trivial⟩ call48) (Mt _ v6 r2 ((Ei An.enc_ok hs3).mono (S.le_new Fp)) y1.Id _ rfl) rfl ?_)));clear S;intro v7 a w11 hv5 hk8 hn5 S
    subst hv5
    refine Ld (Ej hk8 (Iy [6] hsel (by kernel_rfl) rfl ?_))
    clear hsel
    refine Fb S rfl (Ip (S.tm rfl) rfl) rfl fun a S=>Ik ?_
    replace S:=(S.nl [.blk b2 (An.enc y1) 35,.own v2 9 1 x1.length (x1.flatMap Kh)] [true,true] rfl).k8 0 1 5 7 10 11 12 22 rfl
    refine Tn ?_
    obtain ⟨j3,hj3,h⟩:=Dt h
    refine Dj (fun a w'=>∃ x3 : List ByteArray,∃ v8 : Value,j3 x3 = some r ∧ Sx w [] φ5 [.blk b2 (An.enc y1) 35,.own v8 9 1 x3.length (x3.flatMap Kh)] [(0,Ac),(1,iV Ap),(5,v8),(10,v1),(11,iV (r1.length : Int)),(12,iV (i1 : Int))] 30 a w') ?_ ?_
    ·refine Fc h (S.tm rfl) (fun hb1 h=>?_) (fun hb1 h=>?_)
     ·refine Fg (Vm S rfl rfl fun a S=>Vf Iw S rfl rfl fun a S=>Vl isAgg9 0 S rfl rfl rfl rfl fun a S=>De S underlying42 sizeOf9 zeroValue9 rfl rfl (pv:=[(0,sV y1.Id)]) ⟨rfl,(S.tm rfl),trivial⟩ (cs:=[sV y1.Id]) (by kernel_rfl) rfl ?_);clear S;intro a w13 b3 hz5 hk9 S
      obtain ⟨hc1,h⟩:=Gz h
      refine Kw Lg Ex S (S.tm rfl) (i:=2) rfl (S.tm rfl) (j:=0) rfl (ys:=[y1.Id]) rfl rfl rfl rfl (by have:=Lh hc1;omega) rfl ?_;clear S;intro v9 a w14 hk10 S
      exact Va S rfl rfl fun a S=>Dl (⟨(x1 ++ [y1.Id]),v9,h,S.nf [false,true,true] rfl (subR rfl)⟩)
     ·exact wp_skip (Tn (⟨x1,v2,h,S.nf [true,true] rfl (subR rfl)⟩))
    clear S h;rintro a w12 ⟨x3,v8,h,S⟩;rw [hj3] at h;clear hj3 j3
    exact Hj (Tn (⟨x3,φ5,v8,h,hl5,S.nf [false,true] rfl (subR rfl)⟩))
   clear S h;rintro a w4 ⟨x2,φ3,v3,h,hl3,S⟩;rw [hj2] at h;clear hj2 j2
   exact Tn (Fg (Vq S Ew rfl rfl rfl fun a S=>Vm S rfl rfl fun a S=>Dl (⟨ys1,⟨i1 + 1,x2,φ3,v3,⟨_,(hd1).trans (List.append_cons _ _ _),by simp [hi1]⟩,h,(View.le_trans hl2 hl3),S.nf [true] rfl ⟨rfl,rfl,rfl,rfl,rfl,(congrArg (fun z=>some (Value.int .i64 z)) (Hi hd1 hi1 (Jk (Ei An.enc_ok hs1)))),trivial⟩⟩,Nat.lt_succ_self _⟩)))
 clear S h;rintro a w3 ⟨x1,φ2,v2,h,hl2,S⟩;rw [hj1] at h;clear hj1 j1
 refine Tn (Fr (Vm S rfl rfl fun a S=>Va S rfl rfl fun a S=>Dl (wp_ret ?_)))
 obtain rfl:=Option.some.inj h
 exact Dx S results19 rfl (Ll S (i:=0) rfl rfl)
set_option maxRecDepth 20000 in
theorem Ov (w : World) (Ac : Value) (Al : List Ef) (Bq : List R58) (Ak : Slc (view w []) 5 Ac (Bq.map R58.enc)) (Bd : Fn (Hg (view w [])) Al Bq) (r : Int) (h : Jp Al = some r) :
    Calls prog 20 [Ac].toArray w (Ret w [] fun _ v _=>v = iV r):=by
 refine Fe func20 rfl ntmps20 rfl fun a S=>?_
 unfold Jp at h
 replace S:=S.k1 0 rfl
 refine Fr (Vk S rfl rfl fun a S=>Dl (Fs (Fr (Vm S rfl rfl fun a S=>lv S (En Qk (S.tm rfl) (Ot Ak Bd)) rfl fun a S=>Vq S Ix rfl rfl rfl ?_))));clear S;intro a S
 refine Dl (Fc h (S.tm rfl) (fun hb1 h=>?_) (fun hb1 h=>?_))
 ·refine Fr (Vk S rfl rfl fun a S=>Dl (wp_ret (Cn ?_)))
  obtain rfl:=Option.some.inj h
  exact Dx S results20 rfl rfl
 ·refine wp_skip (Tn (Fs (Fr (Vm S rfl rfl fun a S=>lv S (En Qk (S.tm rfl) (Ot Ak Bd)) rfl fun a S=>lv S (Rm rfl) rfl fun a S=>Dl ?_))))
  replace S:=S.k4 0 10 11 12 rfl
  obtain ⟨j1,hj1,h⟩:=Dt h
  refine Dj (fun a w'=>j1 = some r ∧ Sx w [] nov [] [] 87 a w') ?_ ?_
  ·refine wp_block (Gt (fun (ys1 : List Ef) a w'=>∃ i1 : Nat,(∃ dn,Al = dn ++ ys1 ∧ dn.length = i1) ∧ Gp Al j1 ys1 i1 = some r ∧ Sx w [] nov [] [(0,Ac),(10,Ac),(11,iV (Al.length : Int)),(12,iV (i1 : Int))] 87 a w') List.length Al ⟨0,⟨[],rfl,rfl⟩,h,S.nf [] rfl (subR rfl)⟩ ?_)
   clear S h;rintro ys1 a w1 ⟨i1,⟨dn,hd1,hi1⟩,h,S⟩
   cases ys1 with
   | nil =>
    rw [Gp.eq_1] at h
    refine Fr (Vb S Ee rfl rfl rfl fun a S=>Ld ?_)
    replace S:=S.k5 0 10 11 12 13 rfl
    exact Tn (Fs (wp_cond_false ((S.tm rfl).trans (congrArg Value.bool (Ig hd1 hi1))) (wp_exit (Eb (Eb (Gj (Tn (⟨h,S.nf [] rfl trivial⟩))))))))
   | cons y1 ys1 =>
    rw [Gp.eq_2] at h
    refine Fr (Vb S Ee rfl rfl rfl fun a S=>Ld ?_)
    replace S:=S.k5 0 10 11 12 13 rfl
    refine Tn (Fs (wp_cond_true ((S.tm rfl).trans (congrArg Value.bool (Hh hd1 hi1))) (wp_skip (Tn (Fs (wp_block (Fr (Vm S rfl rfl ?_))))))));clear S;intro a S
    obtain ⟨r1,hg1,hl1⟩:=Fn.at Bd (Ie hd1 hi1)
    obtain ⟨u1,rfl,hs1⟩:=hl1
    obtain ⟨b1,o1,hm1,hr1⟩:=Ev (a:=a) (x:=.tmp 10) (y:=.tmp 12) (ty:=0) Qk Ak hg1 rfl (S.tm rfl) (S.tm rfl)
    refine lv S (hr1 _) rfl ?_;clear S;intro a S
    clear hr1
    refine lv S (Ey isAgg58 sizeOf58 (off:=o1) (o:=0) (part:=[sV y1.Key,sV y1.Race,u1.val,iV y1.Young,iV y1.Old]) rfl rfl (S.tm rfl) (hm1.at S.emb0)) rfl fun a S=>Lq S zeroValue58 (cs:=[sV Cj,sV Cj,.slice none 0 0,iV 0,iV 0]) rfl rfl ?_;clear S;intro a w3 b2 hz1 hk1 S
    refine Va S rfl rfl fun a S=>Gy S (S.tm rfl) (S.tm rfl) (i:=0) (off:=0) rfl sizeOf58 (vs:=[sV y1.Key,sV y1.Race,u1.val,iV y1.Young,iV y1.Old]) rfl rfl rfl (Nv rfl (Nv rfl (Nv (Fw.one (Eg hs1)) (Nv rfl (Nv rfl rfl))))) ?_;clear S;intro w4 hk2 S
    refine Dl (Fs (wp_block (Fr (Vf Ny S rfl rfl fun a S=>Vl isAgg9 0 S rfl rfl rfl rfl ?_))));clear S;intro a S
    obtain ⟨r2,hr2,h⟩:=Eh h
    refine Cy S (fun _=>Ck (vs:=[sV y1.Key]) ⟨(S.tm rfl),trivial⟩ call51) (Ku _ y1.Key _ hr2) rfl ?_;clear S;intro v1 a w5 hv1 hk3 hn1 S
    subst hv1
    refine Vu S Ih rfl rfl fun a S=>Vm S rfl rfl ?_;clear S;intro a S
    obtain ⟨j2,hj2,h⟩:=Dt h
    refine Gi 5 (fun a w'=>∃ c1,j2 c1 = some r ∧ Keep [] w5 w' ∧ Sx w [] nov [.blk b2 [sV y1.Key,sV y1.Race,u1.val,iV y1.Young,iV y1.Old] 58] [(0,Ac),(3,iV (i1 : Int)),(4,.pointer (some ⟨b2,0,none⟩)),(10,Ac),(11,iV (Al.length : Int)),(12,iV (i1 : Int)),(27,bV c1)] 87 a w') ?_ ?_
    ·rcases Bool.eq_false_or_eq_true (!r2) with hb2 | hb2
     ·replace h:=Mu h hb2
      iterate 4 (refine Fl S rfl rfl rfl (Pc hb2) rfl ?_ rfl;clear S;intro a S)
      exact Vq S (Ml true hb2) rfl rfl rfl fun a S=>Dl (⟨_,h,Keep.refl _ _,S.nf [true] rfl (subR rfl)⟩)
     ·replace h:=Mv h hb2
      refine Cq S rfl rfl rfl hb2 (Vf Re S rfl rfl fun a S=>Cq S rfl rfl rfl hb2 (Vl isAgg9 0 S rfl rfl rfl rfl fun a S=>Cq S rfl rfl rfl hb2 ?_))
      obtain ⟨r3,hr3,h⟩:=Eh h
      refine Cy S (fun _=>Ck (vs:=[sV y1.Race]) ⟨(S.tm rfl),trivial⟩ call51) (Ku _ y1.Race _ hr3) rfl ?_;clear S;intro v2 a w7 hv2 hk4 hn2 S
      subst hv2
      exact Cq S rfl rfl rfl hb2 (Vu S Ih rfl rfl fun a S=>lv S (Mm hb2 (S.tm rfl) (S.tm rfl)) rfl fun a S=>Dl (⟨_,h,hk4,S.nf [true] rfl (subR rfl)⟩))
    clear S h;rintro a w6 ⟨c1,h,hk5,S⟩;rw [hj2] at h;clear hj2 j2
    refine Va S rfl rfl fun a S=>Dl (Fc h (S.tm rfl) (fun hb3 h=>?_) (fun hb3 h=>?_))
    ·refine Fr (Vk S rfl rfl fun a S=>Dl (wp_ret (Fa (Cn (Fa (Cn (Cn ?_)))))))
     refine Fa (Cn (Cn ?_))
     obtain rfl:=Option.some.inj h
     exact Dx S results20 rfl rfl
    ·refine Fs (Fi [] ([]) Tryz.mixed S rfl (by kernel_rfl) ?_);clear S;intro w8 hk6 hsel S
     refine Iy [0,1,2,3,4,5,6,7,8,9,10,11,12,13] hsel (by kernel_rfl) rfl ?_
     clear hsel
     refine Fb S rfl (Rm (S.tm rfl)) rfl fun a S=>Fb S rfl (Ix (S.tm rfl) rfl) rfl fun a S=>Fb S rfl (Rm (S.tm rfl)) rfl ?_;clear S;intro a S
     obtain ⟨j3,hj3,h⟩:=Dt h
     refine s_cutm 10 (fun a w'=>∃ c2,j3 c2 = some r ∧ Keep [] w8 w' ∧ Sx w [] nov [.blk b2 [sV y1.Key,sV y1.Race,u1.val,iV y1.Young,iV y1.Old] 58] [(0,Ac),(4,.pointer (some ⟨b2,0,none⟩)),(10,Ac),(11,iV (Al.length : Int)),(12,iV (i1 : Int)),(41,bV c2)] 87 a w') ?_ ?_
     ·rcases Bool.eq_false_or_eq_true (decide (0 < (i1 : Int))) with hb4 | hb4
      ·replace h:=Mu h hb4
       refine Ng S rfl rfl rfl rfl hb4 (Oi S (Fx Ny (S.tm rfl)) rfl fun a S=>Ng S rfl rfl rfl rfl hb4 (Oi S (Mn isAgg9 (S.tm rfl) (S.cell (i:=0) rfl rfl)) rfl fun a S=>Ng S rfl rfl rfl rfl hb4 (Oi S (Rm (S.tm rfl)) rfl fun a S=>Ng S rfl rfl rfl rfl hb4 (Oi S (Rm (S.tm rfl)) rfl fun a S=>Ng S rfl rfl rfl rfl hb4 (Oi S (Hs (S.tm rfl) rfl) rfl fun a S=>Ng S rfl rfl rfl rfl hb4 ?_)))))
       obtain ⟨hc1,h⟩:=Gz h
       obtain ⟨r4,hg2,hl2⟩:=Wp Bd hc1
       obtain ⟨u2,rfl,hs2⟩:=hl2
       obtain ⟨b3,o2,hm2,hr4⟩:=Ev (a:=a) (x:=.tmp 34) (y:=.tmp 36) (ty:=0) Qk Ak hg2 (Ct hc1).2 (S.tm rfl) (S.tm rfl)
       refine Oi S (hr4 _) rfl ?_;clear S;intro a S
       clear hr4
       exact Ng S rfl rfl rfl rfl hb4 (Oi S (Fx Ny (S.tm rfl)) rfl fun a S=>Ng S rfl rfl rfl rfl hb4 (Oi S (Hr isAgg9 (off:=o2) (o:=0) (S.tm rfl) (hm2.at S.emb0) rfl) rfl fun a S=>Ng S rfl rfl rfl rfl hb4 (Oi S (Vy (S.tm rfl) (S.tm rfl)) rfl fun a S=>Fb S rfl (Gb hb4 (S.tm rfl) (S.tm rfl)) rfl fun a S=>Ik (⟨_,h,Keep.refl _ _,S.nf [true] rfl (subR rfl)⟩))))
      ·replace h:=Mv h hb4
       iterate 9 (refine Tf S rfl rfl rfl rfl (Hq hb4) rfl ?_ rfl;clear S;intro a S)
       exact Fb S rfl (Gc true hb4 (S.tm rfl) rfl) rfl fun a S=>Ik (⟨_,h,Keep.refl _ _,S.nf [true] rfl (subR rfl)⟩)
     clear S h;rintro a w9 ⟨c2,h,hk7,S⟩;rw [hj3] at h;clear hj3 j3
     refine Fb S rfl (Ra (S.tm rfl)) rfl fun a S=>Ik ?_
     replace S:=(S.nl [.blk b2 [sV y1.Key,sV y1.Race,u1.val,iV y1.Young,iV y1.Old] 58] [true] rfl).k6 0 4 10 11 12 28 rfl
     refine Tn (Fc h (S.tm rfl) (fun hb5 h=>?_) (fun hb5 h=>?_))
     ·refine Fr (Vk S rfl rfl fun a S=>Dl (wp_ret (Fa (Cn (Fa (Cn (Cn ?_)))))))
      refine Fa (Cn (Cn ?_))
      obtain rfl:=Option.some.inj h
      exact Dx S results20 rfl rfl
     ·refine Fr (Vf Nb S rfl rfl fun a S=>Vl isAgg42 0 S rfl rfl rfl rfl fun a S=>lv S (En Lg (S.tm rfl) (Eg hs1)) rfl fun a S=>Vq S Ix rfl rfl rfl fun a S=>Va S rfl rfl fun a S=>Dl (Fc h (S.tm rfl) (fun hb6 h=>?_) (fun hb6 h=>?_)))
      ·refine Fr (Vk S rfl rfl fun a S=>Dl (wp_ret (Fa (Cn (Fa (Cn (Cn ?_)))))))
       refine Fa (Cn (Cn ?_))
       obtain rfl:=Option.some.inj h
       exact Dx S results20 rfl rfl
      ·refine wp_skip (Hj (Tn (Fs (Fr (Vf Nb S rfl rfl fun a S=>Vl isAgg42 0 S rfl rfl rfl rfl fun a S=>lv S (En Lg (S.tm rfl) (Eg hs1)) rfl fun a S=>lv S (Rm rfl) rfl fun a S=>Ld ?_)))))
       replace S:=S.k8 0 4 10 11 12 48 49 50 rfl
       refine Tn ?_
       obtain ⟨j4,hj4,h⟩:=Dt h
       refine Dj (fun a w'=>j4 = some r ∧ Sx w [] nov [.blk b2 [sV y1.Key,sV y1.Race,u1.val,iV y1.Young,iV y1.Old] 58] [(0,Ac),(4,.pointer (some ⟨b2,0,none⟩)),(10,Ac),(11,iV (Al.length : Int)),(12,iV (i1 : Int))] 87 a w') ?_ ?_
       ·refine wp_block (Gt (fun (ys2 : List ByteArray) a w'=>∃ i2 : Nat,(∃ dn,y1.Clubs = dn ++ ys2 ∧ dn.length = i2) ∧ Gh y1 j4 ys2 i2 = some r ∧ Sx w [] nov [.blk b2 [sV y1.Key,sV y1.Race,u1.val,iV y1.Young,iV y1.Old] 58] [(0,Ac),(4,.pointer (some ⟨b2,0,none⟩)),(10,Ac),(11,iV (Al.length : Int)),(12,iV (i1 : Int)),(48,u1.val),(49,iV (y1.Clubs.length : Int)),(50,iV (i2 : Int))] 87 a w') List.length y1.Clubs ⟨0,⟨[],rfl,rfl⟩,h,S.nf [true] rfl (subR rfl)⟩ ?_)
        clear S h;rintro ys2 a w10 ⟨i2,⟨dn,hd2,hi2⟩,h,S⟩
        cases ys2 with
        | nil =>
         rw [Gh.eq_1] at h
         refine Fr (Vb S Ee rfl rfl rfl fun a S=>Ld ?_)
         replace S:=S.k9 0 4 10 11 12 48 49 50 51 rfl
         exact Tn (Fs (wp_cond_false ((S.tm rfl).trans (congrArg Value.bool (Ig hd2 hi2))) (wp_exit (Eb (Eb (Gj (Tn (⟨h,S.nf [true] rfl (subR rfl)⟩))))))))
        | cons y2 ys2 =>
         rw [Gh.eq_2] at h
         refine Fr (Vb S Ee rfl rfl rfl fun a S=>Ld ?_)
         replace S:=S.k9 0 4 10 11 12 48 49 50 51 rfl
         refine Tn (Fs (wp_cond_true ((S.tm rfl).trans (congrArg Value.bool (Hh hd2 hi2))) (wp_skip (Tn (Fs (wp_block (Fr (Vm S rfl rfl ?_))))))));clear S;intro a S
         obtain ⟨b4,o3,hm3,hr5⟩:=Ev (a:=a) (x:=.tmp 48) (y:=.tmp 50) (ty:=0) Lg hs1 (Ie hd2 hi2) rfl (S.tm rfl) (S.tm rfl)
         refine lv S (hr5 _) rfl ?_;clear S;intro a S
         clear hr5
         refine lv S (Hr isAgg9 (off:=o3) (o:=0) (S.tm rfl) (hm3.at S.emb0) rfl) rfl fun a S=>Va S rfl rfl fun a S=>Va S rfl rfl fun a S=>Dl (Fs (Fr (Vm S rfl rfl ?_)));clear S;intro a S
         obtain ⟨r5,hr6,h⟩:=Eh h
         refine Cy S (fun _=>Ck (vs:=[sV y2]) ⟨(S.tm rfl),trivial⟩ call51) (Ku _ y2 _ hr6) rfl ?_;clear S;intro v3 a w12 hv3 hk8 hn3 S
         subst hv3
         refine Vu S Ih rfl rfl fun a S=>Ld ?_
         replace S:=S.k11 0 4 5 6 10 11 12 48 49 50 57 rfl
         refine Tn (Fc h (S.tm rfl) (fun hb7 h=>?_) (fun hb7 h=>?_))
         ·refine Fr (Vk S rfl rfl fun a S=>Dl (wp_ret (Cn (Fa (Cn (Cn (Fa ?_)))))))
          refine Cn (Cn (Fa (Cn (Cn (Fa (Cn (Cn ?_)))))))
          obtain rfl:=Option.some.inj h
          exact Dx S results20 rfl rfl
         ·refine wp_skip (Tn (Fr (Vm S rfl rfl fun a S=>Vq S Ix rfl rfl rfl fun a S=>Vm S rfl rfl ?_)));clear S;intro a S
          obtain ⟨j5,hj5,h⟩:=Dt h
          refine Gi 9 (fun a w'=>∃ c3,j5 c3 = some r ∧ Keep [] w12 w' ∧ Sx w [] nov [.blk b2 [sV y1.Key,sV y1.Race,u1.val,iV y1.Young,iV y1.Old] 58] [(0,Ac),(4,.pointer (some ⟨b2,0,none⟩)),(10,Ac),(11,iV (Al.length : Int)),(12,iV (i1 : Int)),(48,u1.val),(49,iV (y1.Clubs.length : Int)),(50,iV (i2 : Int)),(69,bV c3)] 87 a w') ?_ ?_
          ·rcases Bool.eq_false_or_eq_true (decide (0 < (i2 : Int))) with hb8 | hb8
           ·replace h:=Mu h hb8
            refine Cq S rfl rfl rfl hb8 (Vm S rfl rfl fun a S=>Cq S rfl rfl rfl hb8 (Vf Nb S rfl rfl fun a S=>Cq S rfl rfl rfl hb8 (Vl isAgg42 0 S rfl rfl rfl rfl fun a S=>Cq S rfl rfl rfl hb8 (Vm S rfl rfl fun a S=>Cq S rfl rfl rfl hb8 (Vq S Hs rfl rfl rfl fun a S=>Cq S rfl rfl rfl hb8 ?_)))))
            obtain ⟨hc2,h⟩:=Gz h
            obtain ⟨b5,o4,hm4,hr7⟩:=Ev (a:=a) (x:=.tmp 63) (y:=.tmp 65) (ty:=0) Lg hs1 (Ct hc2).1 (Ct hc2).2 (S.tm rfl) (S.tm rfl)
            refine lv S (hr7 _) rfl ?_;clear S;intro a S
            clear hr7
            exact Cq S rfl rfl rfl hb8 (lv S (Hr isAgg9 (off:=o4) (o:=0) (S.tm rfl) (hm4.at S.emb0) rfl) rfl fun a S=>Cq S rfl rfl rfl hb8 (Vb S Vy rfl rfl rfl fun a S=>lv S (Gb hb8 (S.tm rfl) (S.tm rfl)) rfl fun a S=>Dl (⟨_,h,Keep.refl _ _,S.nf [true] rfl (subR rfl)⟩)))
           ·replace h:=Mv h hb8
            iterate 8 (refine Fl S rfl rfl rfl (Hq hb8) rfl ?_ rfl;clear S;intro a S)
            exact Vq S (Gc true hb8) rfl rfl rfl fun a S=>Dl (⟨_,h,Keep.refl _ _,S.nf [true] rfl (subR rfl)⟩)
          clear S h;rintro a w13 ⟨c3,h,hk9,S⟩;rw [hj5] at h;clear hj5 j5
          refine Dl (Fc h (S.tm rfl) (fun hb9 h=>?_) (fun hb9 h=>?_))
          ·refine Fr (Vk S rfl rfl fun a S=>Dl (wp_ret (Fa (Cn (Cn (Fa (Cn ?_)))))))
           refine Cn (Fa (Cn (Cn (Fa (Cn (Cn ?_))))))
           obtain rfl:=Option.some.inj h
           exact Dx S results20 rfl rfl
          ·exact wp_skip (Hj (Tn (Fg (Vq S Ew rfl rfl rfl fun a S=>Vm S rfl rfl fun a S=>Dl (⟨ys2,⟨i2 + 1,⟨_,(hd2).trans (List.append_cons _ _ _),by simp [hi2]⟩,h,S.nf [true] rfl ⟨rfl,rfl,rfl,rfl,rfl,rfl,rfl,(congrArg (fun z=>some (Value.int .i64 z)) (Hi hd2 hi2 (Jk hs1))),trivial⟩⟩,Nat.lt_succ_self _⟩)))))
       clear S h;rintro a w11 ⟨h,S⟩;rw [hj4] at h;clear hj4 j4
       refine Tn (Fr (Vf Rf S rfl rfl fun a S=>Vl isAgg3 0 S rfl rfl rfl rfl fun a S=>Vq S Ee rfl rfl rfl fun a S=>Vm S rfl rfl fun a S=>Gi 6 (fun a w'=>Keep [] w11 w' ∧ Sx w [] nov [.blk b2 [sV y1.Key,sV y1.Race,u1.val,iV y1.Young,iV y1.Old] 58] [(0,Ac),(4,.pointer (some ⟨b2,0,none⟩)),(10,Ac),(11,iV (Al.length : Int)),(12,iV (i1 : Int)),(80,bV ((decide (y1.Young < 0)) || (decide (y1.Old < y1.Young))))] 87 a w') ?_ ?_))
       ·rcases Bool.eq_false_or_eq_true (decide (y1.Young < 0)) with hb10 | hb10
        ·iterate 5 (refine Fl S rfl rfl rfl (Pc hb10) rfl ?_ rfl;clear S;intro a S)
         exact lv S (Ml (decide (y1.Old < y1.Young)) hb10 (S.tm rfl) rfl) rfl fun a S=>Dl (⟨Keep.refl _ _,S.nf [true] rfl (subR rfl)⟩)
        ·refine Cq S rfl rfl rfl hb10 (Vf Rf S rfl rfl fun a S=>Cq S rfl rfl rfl hb10 (Vl isAgg3 0 S rfl rfl rfl rfl fun a S=>Cq S rfl rfl rfl hb10 (Vf Py S rfl rfl fun a S=>Cq S rfl rfl rfl hb10 (Vl isAgg3 0 S rfl rfl rfl rfl fun a S=>Cq S rfl rfl rfl hb10 (Vb S Ix rfl rfl rfl fun a S=>lv S (Mm hb10 (S.tm rfl) (S.tm rfl)) rfl ?_)))));clear S;intro a S
         exact Dl (⟨Keep.refl _ _,S.nf [true] rfl (subR rfl)⟩)
       clear S;rintro a w14 ⟨hk10,S⟩
       refine Vm S rfl rfl fun a S=>Gi 4 (fun a w'=>Keep [] w14 w' ∧ Sx w [] nov [.blk b2 [sV y1.Key,sV y1.Race,u1.val,iV y1.Young,iV y1.Old] 58] [(0,Ac),(10,Ac),(11,iV (Al.length : Int)),(12,iV (i1 : Int)),(85,bV (((decide (y1.Young < 0)) || (decide (y1.Old < y1.Young))) || (decide (150 < y1.Old))))] 87 a w') ?_ ?_
       ·rcases Bool.eq_false_or_eq_true ((decide (y1.Young < 0)) || (decide (y1.Old < y1.Young))) with hb11 | hb11
        ·iterate 3 (refine Fl S rfl rfl rfl (Pc hb11) rfl ?_ rfl;clear S;intro a S)
         exact lv S (Ml (decide (150 < y1.Old)) hb11 (S.tm rfl) rfl) rfl fun a S=>Dl (⟨Keep.refl _ _,S.nf [true] rfl (subR rfl)⟩)
        ·exact Cq S rfl rfl rfl hb11 (Vf Py S rfl rfl fun a S=>Cq S rfl rfl rfl hb11 (Vl isAgg3 0 S rfl rfl rfl rfl fun a S=>Cq S rfl rfl rfl hb11 (Vq S Ix rfl rfl rfl fun a S=>lv S (Mm hb11 (S.tm rfl) (S.tm rfl)) rfl fun a S=>Dl (⟨Keep.refl _ _,S.nf [true] rfl (subR rfl)⟩))))
       clear S;rintro a w15 ⟨hk11,S⟩
       refine Dl (Fc h (S.tm rfl) (fun hb12 h=>?_) (fun hb12 h=>?_))
       ·refine Fr (Vk S rfl rfl fun a S=>Dl (wp_ret (Fa (Cn (Cn (Fa (Cn ?_)))))))
        refine Cn ?_
        obtain rfl:=Option.some.inj h
        exact Dx S results20 rfl rfl
       ·exact wp_skip (Hj (Tn (Fg (Vq S Ew rfl rfl rfl fun a S=>Vm S rfl rfl fun a S=>Dl (⟨ys1,⟨i1 + 1,⟨_,(hd1).trans (List.append_cons _ _ _),by simp [hi1]⟩,h,S.nf [false] rfl ⟨rfl,rfl,rfl,(congrArg (fun z=>some (Value.int .i64 z)) (Hi hd1 hi1 (Qj Ak Bd))),trivial⟩⟩,Nat.lt_succ_self _⟩)))))
  clear S h;rintro a w2 ⟨h,S⟩;rw [hj1] at h;clear hj1 j1
  refine Tn (Fr (Vk S rfl rfl fun a S=>Dl (wp_ret ?_)))
  obtain rfl:=Option.some.inj h
  exact Dx S results20 rfl rfl
theorem Ri (w : World) (Ac : Value) (Al : List Ef) (Bq : List R58) (Ak : Slc (view w []) 5 Ac (Bq.map R58.enc)) (Bd : Fn (Hg (view w [])) Al Bq) (r : Int) (h : Js Al = some r) :
    Calls prog 21 [Ac].toArray w (Ret w [] fun _ v _=>v = iV r):=by
 refine Fe func21 rfl ntmps21 rfl fun a S=>?_
 unfold Js at h
 replace S:=S.k1 0 rfl
 refine Fr (Vk S rfl rfl fun a S=>Dl (Fs (Fr (Vm S rfl rfl fun a S=>lv S (En Qk (S.tm rfl) (Ot Ak Bd)) rfl fun a S=>Vq S Ix rfl rfl rfl ?_))));clear S;intro a S
 refine Dl (Fc h (S.tm rfl) (fun hb1 h=>?_) (fun hb1 h=>?_))
 ·refine Fr (Vk S rfl rfl fun a S=>Dl (wp_ret (Cn ?_)))
  obtain rfl:=Option.some.inj h
  exact Dx S results21 rfl rfl
 ·refine wp_skip (Tn (Fr (Vk S rfl rfl fun a S=>Dl (Fs (Fr (Vm S rfl rfl ?_))))));clear S;intro a S
  refine lv S (En Qk (S.tm rfl) (Ot Ak Bd)) rfl fun a S=>lv S (Rm rfl) rfl fun a S=>Dl ?_
  replace S:=S.k4 3 11 12 13 rfl
  obtain ⟨j1,hj1,h⟩:=Dt h
  refine Dj (fun a w'=>j1 = some r ∧ Sx w [] nov [] [] 76 a w') ?_ ?_
  ·refine wp_block (Gt (fun (ys1 : List Ef) a w'=>∃ i1 : Nat,∃ x1 : ByteArray,(∃ dn,Al = dn ++ ys1 ∧ dn.length = i1) ∧ Gf j1 ys1 i1 x1 = some r ∧ Sx w [] nov [] [(3,sV x1),(11,Ac),(12,iV (Al.length : Int)),(13,iV (i1 : Int))] 76 a w') List.length Al ⟨0,Cj,⟨[],rfl,rfl⟩,h,S.nf [] rfl (subR rfl)⟩ ?_)
   clear S h;rintro ys1 a w1 ⟨i1,x1,⟨dn,hd1,hi1⟩,h,S⟩
   cases ys1 with
   | nil =>
    rw [Gf.eq_1] at h
    refine Fr (Vb S Ee rfl rfl rfl fun a S=>Ld ?_)
    replace S:=S.k5 3 11 12 13 14 rfl
    exact Tn (Fs (wp_cond_false ((S.tm rfl).trans (congrArg Value.bool (Ig hd1 hi1))) (wp_exit (Eb (Eb (Gj (Tn (⟨h,S.nf [] rfl trivial⟩))))))))
   | cons y1 ys1 =>
    rw [Gf.eq_2] at h
    refine Fr (Vb S Ee rfl rfl rfl fun a S=>Ld ?_)
    replace S:=S.k5 3 11 12 13 14 rfl
    refine Tn (Fs (wp_cond_true ((S.tm rfl).trans (congrArg Value.bool (Hh hd1 hi1))) (wp_skip (Tn (Fs (wp_block (Fs (Fg ?_))))))))
    obtain ⟨r1,hg1,hl1⟩:=Fn.at Bd (Ie hd1 hi1)
    obtain ⟨u1,rfl,hs1⟩:=hl1
    obtain ⟨b1,o1,hm1,hr1⟩:=Ev (a:=a) (x:=.tmp 11) (y:=.tmp 13) (ty:=0) Qk Ak hg1 rfl (S.tm rfl) (S.tm rfl)
    refine lv S (hr1 _) rfl ?_;clear S;intro a S
    clear hr1
    refine lv S (Ey isAgg58 sizeOf58 (off:=o1) (o:=0) (part:=[sV y1.Key,sV y1.Race,u1.val,iV y1.Young,iV y1.Old]) rfl rfl (S.tm rfl) (hm1.at S.emb0)) rfl fun a S=>Lq S zeroValue58 (cs:=[sV Cj,sV Cj,.slice none 0 0,iV 0,iV 0]) rfl rfl ?_;clear S;intro a w3 b2 hz1 hk1 S
    refine Gy S (S.tm rfl) (S.tm rfl) (i:=0) (off:=0) rfl sizeOf58 (vs:=[sV y1.Key,sV y1.Race,u1.val,iV y1.Young,iV y1.Old]) rfl rfl rfl (Nv rfl (Nv rfl (Nv (Fw.one (Eg hs1)) (Nv rfl (Nv rfl rfl))))) ?_;clear S;intro w4 hk2 S
    refine Dl (Fs (wp_block (Fr (Vf Ny S rfl rfl fun a S=>Vl isAgg9 0 S rfl rfl rfl rfl ?_))));clear S;intro a S
    obtain ⟨r2,hr2,h⟩:=Eh h
    refine Cy S (fun _=>Ck (vs:=[sV y1.Key]) ⟨(S.tm rfl),trivial⟩ call52) (Kd _ y1.Key _ hr2) rfl ?_;clear S;intro v1 a w5 hv1 hk3 hn1 S
    subst hv1
    refine Vu S Ih rfl rfl fun a S=>Vm S rfl rfl ?_;clear S;intro a S
    obtain ⟨j2,hj2,h⟩:=Dt h
    refine Gi 5 (fun a w'=>∃ c1,j2 c1 = some r ∧ Keep [] w5 w' ∧ Sx w [] nov [.blk b2 [sV y1.Key,sV y1.Race,u1.val,iV y1.Young,iV y1.Old] 58] [(3,sV x1),(5,.pointer (some ⟨b2,0,none⟩)),(11,Ac),(12,iV (Al.length : Int)),(13,iV (i1 : Int)),(27,bV c1)] 76 a w') ?_ ?_
    ·rcases Bool.eq_false_or_eq_true (!r2) with hb2 | hb2
     ·replace h:=Mu h hb2
      iterate 4 (refine Fl S rfl rfl rfl (Pc hb2) rfl ?_ rfl;clear S;intro a S)
      exact Vq S (Ml true hb2) rfl rfl rfl fun a S=>Dl (⟨_,h,Keep.refl _ _,S.nf [true] rfl (subR rfl)⟩)
     ·replace h:=Mv h hb2
      refine Cq S rfl rfl rfl hb2 (Vf Re S rfl rfl fun a S=>Cq S rfl rfl rfl hb2 (Vl isAgg9 0 S rfl rfl rfl rfl fun a S=>Cq S rfl rfl rfl hb2 ?_))
      obtain ⟨r3,hr3,h⟩:=Eh h
      refine Cy S (fun _=>Ck (vs:=[sV y1.Race]) ⟨(S.tm rfl),trivial⟩ call52) (Kd _ y1.Race _ hr3) rfl ?_;clear S;intro v2 a w7 hv2 hk4 hn2 S
      subst hv2
      exact Cq S rfl rfl rfl hb2 (Vu S Ih rfl rfl fun a S=>lv S (Mm hb2 (S.tm rfl) (S.tm rfl)) rfl fun a S=>Dl (⟨_,h,hk4,S.nf [true] rfl (subR rfl)⟩))
    clear S h;rintro a w6 ⟨c1,h,hk5,S⟩;rw [hj2] at h;clear hj2 j2
    refine Va S rfl rfl fun a S=>Dl (Fc h (S.tm rfl) (fun hb3 h=>?_) (fun hb3 h=>?_))
    ·refine Fr (Vk S rfl rfl fun a S=>Dl (wp_ret (Fa (Cn (Fa (Cn (Cn ?_)))))))
     refine Fa (Cn (Cn ?_))
     obtain rfl:=Option.some.inj h
     exact Dx S results21 rfl rfl
    ·refine Fr (Vf Ny S rfl rfl fun a S=>Vl isAgg9 0 S rfl rfl rfl rfl fun a S=>Vm S rfl rfl fun a S=>Vb S Vy rfl rfl rfl fun a S=>Va S rfl rfl fun a S=>Dl (Fc h (S.tm rfl) (fun hb4 h=>?_) (fun hb4 h=>?_)))
     ·refine Fr (Vk S rfl rfl fun a S=>Dl (wp_ret (Fa (Cn (Fa (Cn (Cn ?_)))))))
      refine Fa (Cn (Cn ?_))
      obtain rfl:=Option.some.inj h
      exact Dx S results21 rfl rfl
     ·refine Fr (Vf Nb S rfl rfl fun a S=>Vl isAgg42 0 S rfl rfl rfl rfl fun a S=>lv S (En Lg (S.tm rfl) (Eg hs1)) rfl fun a S=>Vq S Ix rfl rfl rfl fun a S=>Va S rfl rfl fun a S=>Ld ?_)
      replace S:=(S.nl [.blk b2 [sV y1.Key,sV y1.Race,u1.val,iV y1.Young,iV y1.Old] 58] [true] rfl).k5 5 11 12 13 33 rfl
      refine Tn (Fc h (S.tm rfl) (fun hb5 h=>?_) (fun hb5 h=>?_))
      ·refine Fr (Vk S rfl rfl fun a S=>Dl (wp_ret (Fa (Cn (Fa (Cn (Cn ?_)))))))
       refine Fa (Cn (Cn ?_))
       obtain rfl:=Option.some.inj h
       exact Dx S results21 rfl rfl
      ·refine wp_skip (Hj (Tn (Fr (Vf Ny S rfl rfl fun a S=>Vl isAgg9 0 S rfl rfl rfl rfl fun a S=>Va S rfl rfl fun a S=>Dl (Fs ?_)))))
       refine Fr (Vf Nb S rfl rfl fun a S=>Vl isAgg42 0 S rfl rfl rfl rfl fun a S=>lv S (En Lg (S.tm rfl) (Eg hs1)) rfl fun a S=>lv S (Rm rfl) rfl fun a S=>Dl ?_)
       replace S:=S.k8 3 5 11 12 13 41 42 43 rfl
       obtain ⟨j3,hj3,h⟩:=Dt h
       refine Dj (fun a w'=>j3 = some r ∧ Sx w [] nov [.blk b2 [sV y1.Key,sV y1.Race,u1.val,iV y1.Young,iV y1.Old] 58] [(3,sV y1.Key),(5,.pointer (some ⟨b2,0,none⟩)),(11,Ac),(12,iV (Al.length : Int)),(13,iV (i1 : Int))] 76 a w') ?_ ?_
       ·refine wp_block (Gt (fun (ys2 : List ByteArray) a w'=>∃ i2 : Nat,(∃ dn,y1.Clubs = dn ++ ys2 ∧ dn.length = i2) ∧ Fu y1 j3 ys2 i2 = some r ∧ Sx w [] nov [.blk b2 [sV y1.Key,sV y1.Race,u1.val,iV y1.Young,iV y1.Old] 58] [(3,sV y1.Key),(5,.pointer (some ⟨b2,0,none⟩)),(11,Ac),(12,iV (Al.length : Int)),(13,iV (i1 : Int)),(41,u1.val),(42,iV (y1.Clubs.length : Int)),(43,iV (i2 : Int))] 76 a w') List.length y1.Clubs ⟨0,⟨[],rfl,rfl⟩,h,S.nf [true] rfl (subR rfl)⟩ ?_)
        clear S h;rintro ys2 a w8 ⟨i2,⟨dn,hd2,hi2⟩,h,S⟩
        cases ys2 with
        | nil =>
         rw [Fu.eq_1] at h
         refine Fr (Vb S Ee rfl rfl rfl fun a S=>Ld ?_)
         replace S:=S.k9 3 5 11 12 13 41 42 43 44 rfl
         exact Tn (Fs (wp_cond_false ((S.tm rfl).trans (congrArg Value.bool (Ig hd2 hi2))) (wp_exit (Eb (Eb (Gj (Tn (⟨h,S.nf [true] rfl (subR rfl)⟩))))))))
        | cons y2 ys2 =>
         rw [Fu.eq_2] at h
         refine Fr (Vb S Ee rfl rfl rfl fun a S=>Ld ?_)
         replace S:=S.k9 3 5 11 12 13 41 42 43 44 rfl
         refine Tn (Fs (wp_cond_true ((S.tm rfl).trans (congrArg Value.bool (Hh hd2 hi2))) (wp_skip (Tn (Fs (wp_block (Fr (Vm S rfl rfl ?_))))))));clear S;intro a S
         obtain ⟨b3,o2,hm2,hr4⟩:=Ev (a:=a) (x:=.tmp 41) (y:=.tmp 43) (ty:=0) Lg hs1 (Ie hd2 hi2) rfl (S.tm rfl) (S.tm rfl)
         refine lv S (hr4 _) rfl ?_;clear S;intro a S
         clear hr4
         refine lv S (Hr isAgg9 (off:=o2) (o:=0) (S.tm rfl) (hm2.at S.emb0) rfl) rfl fun a S=>Va S rfl rfl fun a S=>Va S rfl rfl fun a S=>Dl (Fs (Fr (Vm S rfl rfl ?_)));clear S;intro a S
         obtain ⟨r4,hr5,h⟩:=Eh h
         refine Cy S (fun _=>Ck (vs:=[sV y2]) ⟨(S.tm rfl),trivial⟩ call52) (Kd _ y2 _ hr5) rfl ?_;clear S;intro v3 a w10 hv3 hk6 hn3 S
         subst hv3
         refine Vu S Ih rfl rfl fun a S=>Ld ?_
         replace S:=S.k11 3 5 6 7 11 12 13 41 42 43 50 rfl
         refine Tn (Fc h (S.tm rfl) (fun hb6 h=>?_) (fun hb6 h=>?_))
         ·refine Fr (Vk S rfl rfl fun a S=>Dl (wp_ret (Cn (Fa (Cn (Cn (Fa ?_)))))))
          refine Cn (Cn (Fa (Cn (Cn (Fa (Cn (Cn ?_)))))))
          obtain rfl:=Option.some.inj h
          exact Dx S results21 rfl rfl
         ·refine wp_skip (Tn (Fr (Vm S rfl rfl fun a S=>Vq S Ix rfl rfl rfl fun a S=>Vm S rfl rfl ?_)));clear S;intro a S
          obtain ⟨j4,hj4,h⟩:=Dt h
          refine Gi 9 (fun a w'=>∃ c2,j4 c2 = some r ∧ Keep [] w10 w' ∧ Sx w [] nov [.blk b2 [sV y1.Key,sV y1.Race,u1.val,iV y1.Young,iV y1.Old] 58] [(3,sV y1.Key),(5,.pointer (some ⟨b2,0,none⟩)),(11,Ac),(12,iV (Al.length : Int)),(13,iV (i1 : Int)),(41,u1.val),(42,iV (y1.Clubs.length : Int)),(43,iV (i2 : Int)),(62,bV c2)] 76 a w') ?_ ?_
          ·rcases Bool.eq_false_or_eq_true (decide (0 < (i2 : Int))) with hb7 | hb7
           ·replace h:=Mu h hb7
            refine Cq S rfl rfl rfl hb7 (Vm S rfl rfl fun a S=>Cq S rfl rfl rfl hb7 (Vf Nb S rfl rfl fun a S=>Cq S rfl rfl rfl hb7 (Vl isAgg42 0 S rfl rfl rfl rfl fun a S=>Cq S rfl rfl rfl hb7 (Vm S rfl rfl fun a S=>Cq S rfl rfl rfl hb7 (Vq S Hs rfl rfl rfl fun a S=>Cq S rfl rfl rfl hb7 ?_)))))
            obtain ⟨hc1,h⟩:=Gz h
            obtain ⟨b4,o3,hm3,hr6⟩:=Ev (a:=a) (x:=.tmp 56) (y:=.tmp 58) (ty:=0) Lg hs1 (Ct hc1).1 (Ct hc1).2 (S.tm rfl) (S.tm rfl)
            refine lv S (hr6 _) rfl ?_;clear S;intro a S
            clear hr6
            exact Cq S rfl rfl rfl hb7 (lv S (Hr isAgg9 (off:=o3) (o:=0) (S.tm rfl) (hm3.at S.emb0) rfl) rfl fun a S=>Cq S rfl rfl rfl hb7 (Vb S Vy rfl rfl rfl fun a S=>lv S (Gb hb7 (S.tm rfl) (S.tm rfl)) rfl fun a S=>Dl (⟨_,h,Keep.refl _ _,S.nf [true] rfl (subR rfl)⟩)))
           ·replace h:=Mv h hb7
            iterate 8 (refine Fl S rfl rfl rfl (Hq hb7) rfl ?_ rfl;clear S;intro a S)
            exact Vq S (Gc true hb7) rfl rfl rfl fun a S=>Dl (⟨_,h,Keep.refl _ _,S.nf [true] rfl (subR rfl)⟩)
          clear S h;rintro a w11 ⟨c2,h,hk7,S⟩;rw [hj4] at h;clear hj4 j4
          refine Dl (Fc h (S.tm rfl) (fun hb8 h=>?_) (fun hb8 h=>?_))
          ·refine Fr (Vk S rfl rfl fun a S=>Dl (wp_ret (Fa (Cn (Cn (Fa (Cn ?_)))))))
           refine Cn (Fa (Cn (Cn (Fa (Cn (Cn ?_))))))
           obtain rfl:=Option.some.inj h
           exact Dx S results21 rfl rfl
          ·exact wp_skip (Hj (Tn (Fg (Vq S Ew rfl rfl rfl fun a S=>Vm S rfl rfl fun a S=>Dl (⟨ys2,⟨i2 + 1,⟨_,(hd2).trans (List.append_cons _ _ _),by simp [hi2]⟩,h,S.nf [true] rfl ⟨rfl,rfl,rfl,rfl,rfl,rfl,rfl,(congrArg (fun z=>some (Value.int .i64 z)) (Hi hd2 hi2 (Jk hs1))),trivial⟩⟩,Nat.lt_succ_self _⟩)))))
       clear S h;rintro a w9 ⟨h,S⟩;rw [hj3] at h;clear hj3 j3
       refine Tn (Fr (Vf Rf S rfl rfl fun a S=>Vl isAgg3 0 S rfl rfl rfl rfl fun a S=>Vf Py S rfl rfl fun a S=>Vl isAgg3 0 S rfl rfl rfl rfl fun a S=>Cy S (fun _=>Ck (vs:=[iV y1.Young,iV 0,iV y1.Old]) ⟨(S.tm rfl),rfl,(S.tm rfl),trivial⟩ call53) (Lo _ y1.Young 0 y1.Old _ rfl) rfl ?_));clear S;intro v4 a w12 hv4 hk8 hn4 S
       subst hv4
       refine Vu S Ih rfl rfl fun a S=>Vm S rfl rfl fun a S=>Gi 4 (fun a w'=>Keep [] w12 w' ∧ Sx w [] nov [.blk b2 [sV y1.Key,sV y1.Race,u1.val,iV y1.Young,iV y1.Old] 58] [(3,sV y1.Key),(11,Ac),(12,iV (Al.length : Int)),(13,iV (i1 : Int)),(74,bV ((!(Em y1.Young 0 y1.Old)) || (decide (150 < y1.Old))))] 76 a w') ?_ ?_
       ·rcases Bool.eq_false_or_eq_true (!(Em y1.Young 0 y1.Old)) with hb9 | hb9
        ·iterate 3 (refine Fl S rfl rfl rfl (Pc hb9) rfl ?_ rfl;clear S;intro a S)
         exact lv S (Ml (decide (150 < y1.Old)) hb9 (S.tm rfl) rfl) rfl fun a S=>Dl (⟨Keep.refl _ _,S.nf [true] rfl (subR rfl)⟩)
        ·exact Cq S rfl rfl rfl hb9 (Vf Py S rfl rfl fun a S=>Cq S rfl rfl rfl hb9 (Vl isAgg3 0 S rfl rfl rfl rfl fun a S=>Cq S rfl rfl rfl hb9 (Vq S Ix rfl rfl rfl fun a S=>lv S (Mm hb9 (S.tm rfl) (S.tm rfl)) rfl fun a S=>Dl (⟨Keep.refl _ _,S.nf [true] rfl (subR rfl)⟩))))
       clear S;rintro a w13 ⟨hk9,S⟩
       refine Dl (Fc h (S.tm rfl) (fun hb10 h=>?_) (fun hb10 h=>?_))
       ·refine Fr (Vk S rfl rfl fun a S=>Dl (wp_ret (Fa (Cn (Cn (Fa (Cn ?_)))))))
        refine Cn ?_
        obtain rfl:=Option.some.inj h
        exact Dx S results21 rfl rfl
       ·exact wp_skip (Hj (Tn (Fg (Vq S Ew rfl rfl rfl fun a S=>Vm S rfl rfl fun a S=>Dl (⟨ys1,⟨i1 + 1,y1.Key,⟨_,(hd1).trans (List.append_cons _ _ _),by simp [hi1]⟩,h,S.nf [false] rfl ⟨rfl,rfl,rfl,(congrArg (fun z=>some (Value.int .i64 z)) (Hi hd1 hi1 (Qj Ak Bd))),trivial⟩⟩,Nat.lt_succ_self _⟩)))))
  clear S h;rintro a w2 ⟨h,S⟩;rw [hj1] at h;clear hj1 j1
  refine Tn (Fr (Vk S rfl rfl fun a S=>Dl (wp_ret ?_)))
  obtain rfl:=Option.some.inj h
  exact Dx S results21 rfl rfl
set_option maxRecDepth 20000 in
theorem Sk (w : World) (Bl : Value) (Bm : List An) (Bc : Slc (view w []) 8 Bl (Bm.map An.enc)) (Bn : Value) (Br : List An) (Bp : Slc (view w []) 8 Bn (Br.map An.enc)) (r : Bool) (h : Kc Bm Br = some r) :
    Calls prog 23 [Bl,Bn].toArray w (Ret w [] fun _ v _=>v = bV r):=by
 refine Fe func23 rfl ntmps23 rfl fun a S=>?_
 unfold Kc at h
 replace S:=S.k2 0 1 rfl
 refine Fr (Vk S rfl rfl fun a S=>Dl (Fs (Fr (Vm S rfl rfl fun a S=>lv S (En Eo (S.tm rfl) (Eg Bc)) rfl fun a S=>Vm S rfl rfl ?_))));clear S;intro a S
 refine lv S (En Eo (S.tm rfl) (Eg Bp)) rfl fun a S=>Vb S Kg rfl rfl rfl fun a S=>Dl (Fc h (S.tm rfl) (fun hb1 h=>?_) (fun hb1 h=>?_))
 ·refine Fr (Vk S rfl rfl fun a S=>Dl (wp_ret (Cn ?_)))
  obtain rfl:=Option.some.inj h
  exact Dx S results23 rfl rfl
 ·refine wp_skip (Tn (Fs (Fr (Vm S rfl rfl fun a S=>lv S (En Eo (S.tm rfl) (Eg Bc)) rfl fun a S=>lv S (Rm rfl) rfl fun a S=>Dl ?_))))
  replace S:=S.k4 0 1 12 13 rfl
  obtain ⟨j1,hj1,h⟩:=Dt h
  refine Dj (fun a w'=>j1 = some r ∧ Sx w [] nov [] [] 26 a w') ?_ ?_
  ·refine wp_block (Gt (fun (ys1 : List An) a w'=>∃ i1 : Nat,(∃ dn,Bm = dn ++ ys1 ∧ dn.length = i1) ∧ Hc Br j1 ys1 i1 = some r ∧ Sx w [] nov [] [(0,Bl),(1,Bn),(12,iV (Bm.length : Int)),(13,iV (i1 : Int))] 26 a w') List.length Bm ⟨0,⟨[],rfl,rfl⟩,h,S.nf [] rfl (subR rfl)⟩ ?_)
   clear S h;rintro ys1 a w1 ⟨i1,⟨dn,hd1,hi1⟩,h,S⟩
   cases ys1 with
   | nil =>
    rw [Hc.eq_1] at h
    refine Fr (Vb S Ee rfl rfl rfl fun a S=>Ld ?_)
    replace S:=S.k5 0 1 12 13 14 rfl
    exact Tn (Fs (wp_cond_false ((S.tm rfl).trans (congrArg Value.bool (Ig hd1 hi1))) (wp_exit (Eb (Eb (Gj (Tn (⟨h,S.nf [] rfl trivial⟩))))))))
   | cons y1 ys1 =>
    rw [Hc.eq_2] at h
    refine Fr (Vb S Ee rfl rfl rfl fun a S=>Ld ?_)
    replace S:=S.k5 0 1 12 13 14 rfl
    refine Tn (Fs (wp_cond_true ((S.tm rfl).trans (congrArg Value.bool (Hh hd1 hi1))) (wp_skip (Tn (Fs (wp_block (Fr (Vm S rfl rfl fun a S=>Va S rfl rfl ?_))))))));clear S;intro a S
    refine Dl (Fs (Fi [] ([]) Tryz.mixed S rfl (by kernel_rfl) ?_));clear S;intro w3 hk1 hsel S
    refine Iy [0,1,2,3,4,5,6,7,8] hsel (by kernel_rfl) rfl ?_
    clear hsel
    refine Fb S rfl (Rm (S.tm rfl)) rfl fun a S=>Fb S rfl (Rm (S.tm rfl)) rfl ?_;clear S;intro a S
    obtain ⟨b1,o1,hm1,hr1⟩:=Ev (a:=a) (x:=.tmp 16) (y:=.tmp 17) (ty:=0) Eo Bc (Ie hd1 hi1) rfl (S.tm rfl) (S.tm rfl)
    refine Fb S rfl (hr1 _) rfl ?_;clear S;intro a S
    clear hr1
    refine Fb S rfl (Ey isAgg35 sizeOf35 (off:=o1) (o:=0) (part:=(An.enc y1)) rfl rfl (S.tm rfl) (hm1.at S.emb0)) rfl fun a S=>Fb S rfl (Rm (S.tm rfl)) rfl fun a S=>Fb S rfl (Rm (S.tm rfl)) rfl ?_;clear S;intro a S
    obtain ⟨hc1,h⟩:=Gz h
    obtain ⟨b2,o2,hm2,hr2⟩:=Ev (a:=a) (x:=.tmp 20) (y:=.tmp 21) (ty:=0) Eo Bp (Ct hc1).1 (Ct hc1).2 (S.tm rfl) (S.tm rfl)
    refine Fb S rfl (hr2 _) rfl ?_;clear S;intro a S
    clear hr2
    refine Fb S rfl (Ey isAgg35 sizeOf35 (off:=o2) (o:=0) (part:=(An.enc (nth Br (i1 : Int)))) rfl rfl (S.tm rfl) (hm2.at S.emb0)) rfl fun a S=>Fb S rfl (Ql (m:=y1) (n:=(nth Br (i1 : Int))) (S.tm rfl) (S.tm rfl)) rfl fun a S=>Ik ?_
    replace S:=S.k5 0 1 12 13 24 rfl
    refine Tn (Fc h (S.tm rfl) (fun hb2 h=>?_) (fun hb2 h=>?_))
    ·refine Fr (Vk S rfl rfl fun a S=>Dl (wp_ret (Fa (Cn (Cn (Fa (Cn ?_)))))))
     refine Cn ?_
     obtain rfl:=Option.some.inj h
     exact Dx S results23 rfl rfl
    ·exact wp_skip (Hj (Tn (Fg (Vq S Ew rfl rfl rfl fun a S=>Vm S rfl rfl fun a S=>Dl (⟨ys1,⟨i1 + 1,⟨_,(hd1).trans (List.append_cons _ _ _),by simp [hi1]⟩,h,S.nf [] rfl ⟨rfl,rfl,rfl,(congrArg (fun z=>some (Value.int .i64 z)) (Hi hd1 hi1 (Jk Bc))),trivial⟩⟩,Nat.lt_succ_self _⟩)))))
  clear S h;rintro a w2 ⟨h,S⟩;rw [hj1] at h;clear hj1 j1
  refine Tn (Fr (Vk S rfl rfl fun a S=>Dl (wp_ret ?_)))
  obtain rfl:=Option.some.inj h
  exact Dx S results23 rfl rfl
set_option maxRecDepth 20000 in
theorem Ta (w : World) (Bl : Value) (Bm : List Int) (Bc : Slc (view w []) 1 Bl (Bm.map eInt)) (Bn : Value) (Br : List Int) (Bp : Slc (view w []) 1 Bn (Br.map eInt)) (r : Bool) (h : Km Bm Br = some r) :
    Calls prog 24 [Bl,Bn].toArray w (Ret w [] fun _ v _=>v = bV r):=by
 refine Fe func24 rfl ntmps24 rfl fun a S=>?_
 unfold Km at h
 replace S:=S.k2 0 1 rfl
 refine Fr (Vk S rfl rfl fun a S=>Dl (Fs (Fr (Vm S rfl rfl fun a S=>lv S (En Oj (S.tm rfl) (Eg Bc)) rfl fun a S=>Vm S rfl rfl ?_))));clear S;intro a S
 refine lv S (En Oj (S.tm rfl) (Eg Bp)) rfl fun a S=>Vb S Kg rfl rfl rfl fun a S=>Dl (Fc h (S.tm rfl) (fun hb1 h=>?_) (fun hb1 h=>?_))
 ·refine Fr (Vk S rfl rfl fun a S=>Dl (wp_ret (Cn ?_)))
  obtain rfl:=Option.some.inj h
  exact Dx S results24 rfl rfl
 ·refine wp_skip (Tn (Fs (Fr (Vm S rfl rfl fun a S=>lv S (En Oj (S.tm rfl) (Eg Bc)) rfl fun a S=>lv S (Rm rfl) rfl fun a S=>Dl ?_))))
  replace S:=S.k4 0 1 12 13 rfl
  obtain ⟨j1,hj1,h⟩:=Dt h
  refine Dj (fun a w'=>j1 = some r ∧ Sx w [] nov [] [] 26 a w') ?_ ?_
  ·refine wp_block (Gt (fun (ys1 : List Int) a w'=>∃ i1 : Nat,(∃ dn,Bm = dn ++ ys1 ∧ dn.length = i1) ∧ Hk Br j1 ys1 i1 = some r ∧ Sx w [] nov [] [(0,Bl),(1,Bn),(12,iV (Bm.length : Int)),(13,iV (i1 : Int))] 26 a w') List.length Bm ⟨0,⟨[],rfl,rfl⟩,h,S.nf [] rfl (subR rfl)⟩ ?_)
   clear S h;rintro ys1 a w1 ⟨i1,⟨dn,hd1,hi1⟩,h,S⟩
   cases ys1 with
   | nil =>
    rw [Hk.eq_1] at h
    refine Fr (Vb S Ee rfl rfl rfl fun a S=>Ld ?_)
    replace S:=S.k5 0 1 12 13 14 rfl
    exact Tn (Fs (wp_cond_false ((S.tm rfl).trans (congrArg Value.bool (Ig hd1 hi1))) (wp_exit (Eb (Eb (Gj (Tn (⟨h,S.nf [] rfl trivial⟩))))))))
   | cons y1 ys1 =>
    rw [Hk.eq_2] at h
    refine Fr (Vb S Ee rfl rfl rfl fun a S=>Ld ?_)
    replace S:=S.k5 0 1 12 13 14 rfl
    refine Tn (Fs (wp_cond_true ((S.tm rfl).trans (congrArg Value.bool (Hh hd1 hi1))) (wp_skip (Tn (Fs (wp_block (Fr (Vm S rfl rfl fun a S=>Va S rfl rfl ?_))))))));clear S;intro a S
    refine Dl (Fs (Fi [] ([]) Tryz.mixed S rfl (by kernel_rfl) ?_));clear S;intro w3 hk1 hsel S
    refine Iy [0,1,2,3,4,5,6,7,8] hsel (by kernel_rfl) rfl ?_
    clear hsel
    refine Fb S rfl (Rm (S.tm rfl)) rfl fun a S=>Fb S rfl (Rm (S.tm rfl)) rfl ?_;clear S;intro a S
    obtain ⟨b1,o1,hm1,hr1⟩:=Ev (a:=a) (x:=.tmp 16) (y:=.tmp 17) (ty:=0) Oj Bc (Ie hd1 hi1) rfl (S.tm rfl) (S.tm rfl)
    refine Fb S rfl (hr1 _) rfl ?_;clear S;intro a S
    clear hr1
    refine Fb S rfl (Hr isAgg3 (off:=o1) (o:=0) (S.tm rfl) (hm1.at S.emb0) rfl) rfl fun a S=>Fb S rfl (Rm (S.tm rfl)) rfl fun a S=>Fb S rfl (Rm (S.tm rfl)) rfl ?_;clear S;intro a S
    obtain ⟨hc1,h⟩:=Gz h
    obtain ⟨b2,o2,hm2,hr2⟩:=Ev (a:=a) (x:=.tmp 20) (y:=.tmp 21) (ty:=0) Oj Bp (Ct hc1).1 (Ct hc1).2 (S.tm rfl) (S.tm rfl)
    refine Fb S rfl (hr2 _) rfl ?_;clear S;intro a S
    clear hr2
    refine Fb S rfl (Hr isAgg3 (off:=o2) (o:=0) (S.tm rfl) (hm2.at S.emb0) rfl) rfl fun a S=>Fb S rfl (Kg (S.tm rfl) (S.tm rfl)) rfl fun a S=>Ik ?_
    replace S:=S.k5 0 1 12 13 24 rfl
    refine Tn (Fc h (S.tm rfl) (fun hb2 h=>?_) (fun hb2 h=>?_))
    ·refine Fr (Vk S rfl rfl fun a S=>Dl (wp_ret (Fa (Cn (Cn (Fa (Cn ?_)))))))
     refine Cn ?_
     obtain rfl:=Option.some.inj h
     exact Dx S results24 rfl rfl
    ·exact wp_skip (Hj (Tn (Fg (Vq S Ew rfl rfl rfl fun a S=>Vm S rfl rfl fun a S=>Dl (⟨ys1,⟨i1 + 1,⟨_,(hd1).trans (List.append_cons _ _ _),by simp [hi1]⟩,h,S.nf [] rfl ⟨rfl,rfl,rfl,(congrArg (fun z=>some (Value.int .i64 z)) (Hi hd1 hi1 (Jk Bc))),trivial⟩⟩,Nat.lt_succ_self _⟩)))))
  clear S h;rintro a w2 ⟨h,S⟩;rw [hj1] at h;clear hj1 j1
  refine Tn (Fr (Vk S rfl rfl fun a S=>Dl (wp_ret ?_)))
  obtain rfl:=Option.some.inj h
  exact Dx S results24 rfl rfl
set_option maxRecDepth 20000 in
theorem Ob (w : World) (Bl : Value) (Bm : List ByteArray) (Bc : Slc (view w []) 1 Bl (Bm.map Kh)) (Bn : Value) (Br : List ByteArray) (Bp : Slc (view w []) 1 Bn (Br.map Kh)) (r : Bool) (h : Ir Bm Br = some r) :
    Calls prog 25 [Bl,Bn].toArray w (Ret w [] fun _ v _=>v = bV r):=by
 refine Fe func25 rfl ntmps25 rfl fun a S=>?_
 unfold Ir at h
 replace S:=S.k2 0 1 rfl
 refine Fr (Vk S rfl rfl fun a S=>Dl (Fs (Fr (Vm S rfl rfl fun a S=>lv S (En Lg (S.tm rfl) (Eg Bc)) rfl fun a S=>Vm S rfl rfl ?_))));clear S;intro a S
 refine lv S (En Lg (S.tm rfl) (Eg Bp)) rfl fun a S=>Vb S Kg rfl rfl rfl fun a S=>Dl (Fc h (S.tm rfl) (fun hb1 h=>?_) (fun hb1 h=>?_))
 ·refine Fr (Vk S rfl rfl fun a S=>Dl (wp_ret (Cn ?_)))
  obtain rfl:=Option.some.inj h
  exact Dx S results25 rfl rfl
 ·refine wp_skip (Tn (Fs (Fr (Vm S rfl rfl fun a S=>lv S (En Lg (S.tm rfl) (Eg Bc)) rfl fun a S=>lv S (Rm rfl) rfl fun a S=>Dl ?_))))
  replace S:=S.k4 0 1 12 13 rfl
  obtain ⟨j1,hj1,h⟩:=Dt h
  refine Dj (fun a w'=>j1 = some r ∧ Sx w [] nov [] [] 26 a w') ?_ ?_
  ·refine wp_block (Gt (fun (ys1 : List ByteArray) a w'=>∃ i1 : Nat,(∃ dn,Bm = dn ++ ys1 ∧ dn.length = i1) ∧ Gl Br j1 ys1 i1 = some r ∧ Sx w [] nov [] [(0,Bl),(1,Bn),(12,iV (Bm.length : Int)),(13,iV (i1 : Int))] 26 a w') List.length Bm ⟨0,⟨[],rfl,rfl⟩,h,S.nf [] rfl (subR rfl)⟩ ?_)
   clear S h;rintro ys1 a w1 ⟨i1,⟨dn,hd1,hi1⟩,h,S⟩
   cases ys1 with
   | nil =>
    rw [Gl.eq_1] at h
    refine Fr (Vb S Ee rfl rfl rfl fun a S=>Ld ?_)
    replace S:=S.k5 0 1 12 13 14 rfl
    exact Tn (Fs (wp_cond_false ((S.tm rfl).trans (congrArg Value.bool (Ig hd1 hi1))) (wp_exit (Eb (Eb (Gj (Tn (⟨h,S.nf [] rfl trivial⟩))))))))
   | cons y1 ys1 =>
    rw [Gl.eq_2] at h
    refine Fr (Vb S Ee rfl rfl rfl fun a S=>Ld ?_)
    replace S:=S.k5 0 1 12 13 14 rfl
    refine Tn (Fs (wp_cond_true ((S.tm rfl).trans (congrArg Value.bool (Hh hd1 hi1))) (wp_skip (Tn (Fs (wp_block (Fr (Vm S rfl rfl fun a S=>Va S rfl rfl ?_))))))));clear S;intro a S
    refine Dl (Fs (Fi [] ([]) Tryz.mixed S rfl (by kernel_rfl) ?_));clear S;intro w3 hk1 hsel S
    refine Iy [0,1,2,3,4,5,6,7,8] hsel (by kernel_rfl) rfl ?_
    clear hsel
    refine Fb S rfl (Rm (S.tm rfl)) rfl fun a S=>Fb S rfl (Rm (S.tm rfl)) rfl ?_;clear S;intro a S
    obtain ⟨b1,o1,hm1,hr1⟩:=Ev (a:=a) (x:=.tmp 16) (y:=.tmp 17) (ty:=0) Lg Bc (Ie hd1 hi1) rfl (S.tm rfl) (S.tm rfl)
    refine Fb S rfl (hr1 _) rfl ?_;clear S;intro a S
    clear hr1
    refine Fb S rfl (Hr isAgg9 (off:=o1) (o:=0) (S.tm rfl) (hm1.at S.emb0) rfl) rfl fun a S=>Fb S rfl (Rm (S.tm rfl)) rfl fun a S=>Fb S rfl (Rm (S.tm rfl)) rfl ?_;clear S;intro a S
    obtain ⟨hc1,h⟩:=Gz h
    obtain ⟨b2,o2,hm2,hr2⟩:=Ev (a:=a) (x:=.tmp 20) (y:=.tmp 21) (ty:=0) Lg Bp (Ct hc1).1 (Ct hc1).2 (S.tm rfl) (S.tm rfl)
    refine Fb S rfl (hr2 _) rfl ?_;clear S;intro a S
    clear hr2
    refine Fb S rfl (Hr isAgg9 (off:=o2) (o:=0) (S.tm rfl) (hm2.at S.emb0) rfl) rfl fun a S=>Fb S rfl (Vx (S.tm rfl) (S.tm rfl)) rfl fun a S=>Ik ?_
    replace S:=S.k5 0 1 12 13 24 rfl
    refine Tn (Fc h (S.tm rfl) (fun hb2 h=>?_) (fun hb2 h=>?_))
    ·refine Fr (Vk S rfl rfl fun a S=>Dl (wp_ret (Fa (Cn (Cn (Fa (Cn ?_)))))))
     refine Cn ?_
     obtain rfl:=Option.some.inj h
     exact Dx S results25 rfl rfl
    ·exact wp_skip (Hj (Tn (Fg (Vq S Ew rfl rfl rfl fun a S=>Vm S rfl rfl fun a S=>Dl (⟨ys1,⟨i1 + 1,⟨_,(hd1).trans (List.append_cons _ _ _),by simp [hi1]⟩,h,S.nf [] rfl ⟨rfl,rfl,rfl,(congrArg (fun z=>some (Value.int .i64 z)) (Hi hd1 hi1 (Jk Bc))),trivial⟩⟩,Nat.lt_succ_self _⟩)))))
  clear S h;rintro a w2 ⟨h,S⟩;rw [hj1] at h;clear hj1 j1
  refine Tn (Fr (Vk S rfl rfl fun a S=>Dl (wp_ret ?_)))
  obtain rfl:=Option.some.inj h
  exact Dx S results25 rfl rfl
theorem Tb (w : World) (Ae : An) (r : Int) (h : Ok Ae = some r) :
    Calls prog 68 [.agg (An.enc Ae).toArray].toArray w (Ret w [] fun _ v _=>v = iV r):=by
 refine Fe func68 rfl ntmps68 rfl fun a S=>?_
 unfold Ok at h
 replace S:=S.k1 0 rfl
 refine Fr (Oh S (S.tm rfl) (cs:=(An.enc Ae)) rfl rfl ?_);clear S;intro a w1 b1 hz1 hk1 S
 refine Vk S rfl rfl fun a S=>Dl (Fs (Fr (lv S (Ey isAgg35 sizeOf35 (off:=0) (o:=0) (part:=(An.enc Ae)) rfl rfl (S.tm rfl) (S.cellsAt (i:=0) rfl)) rfl ?_)));clear S;intro a S
 obtain ⟨r1,hr1,h⟩:=Eh h
 refine Cy S (fun _=>Ck (vs:=[.agg (An.enc Ae).toArray]) ⟨(S.tm rfl),trivial⟩ call54) (Pd _ Ae _ hr1) rfl ?_;clear S;intro v1 a w2 hv1 hk2 hn1 S
 subst hv1
 refine Va S rfl rfl fun a S=>Dz (Vm S rfl rfl fun a S=>Vq S Kg rfl rfl rfl fun a S=>Dl (Fc h (S.tm rfl) (fun hb1 h=>?_) (fun hb1 h=>?_)))
 ·refine Fr (Vm S rfl rfl fun a S=>Va S rfl rfl fun a S=>Dl (wp_ret (Cn ?_)))
  obtain rfl:=Option.some.inj h
  exact Dx S results68 rfl rfl
 ·refine wp_skip (Tn (Fs (Fr (Vf Jq S rfl rfl fun a S=>Vl isAgg3 0 S rfl rfl rfl rfl fun a S=>Vq S Kg rfl rfl rfl fun a S=>Dl (Fc h (S.tm rfl) (fun hb2 h=>?_) (fun hb2 h=>?_))))))
  ·refine Fr (Vk S rfl rfl fun a S=>Dl (wp_ret (Cn ?_)))
   obtain rfl:=Option.some.inj h
   exact Dx S results68 rfl rfl
  ·refine wp_skip (Tn (Fr (Vk S rfl rfl fun a S=>Dl (wp_ret ?_))))
   obtain rfl:=Option.some.inj h
   exact Dx S results68 rfl rfl
theorem Rj (w : World) (Am : Value) (Ae : List ByteArray) (Bg : Slc (view w []) 1 Am (Ae.map Kh)) (Bz : ByteArray) (r : Int) (h : Ms Ae Bz = r) :
    Calls prog 104 [Am,sV Bz].toArray w (Ret w [] fun _ v _=>v = iV r):=by
 refine Fe func104 rfl ntmps104 rfl fun a S=>?_
 unfold Ms at h
 replace S:=S.k2 0 1 rfl
 refine Fr (Vk S rfl rfl fun a S=>Dl (Fs (Fr (Vm S rfl rfl fun a S=>lv S (En Lg (S.tm rfl) (Eg Bg)) rfl fun a S=>lv S (Rm rfl) rfl ?_))));clear S;intro a S
 refine Dl ?_
 replace S:=S.k4 0 1 7 8 rfl
 obtain ⟨j1,hj1,h⟩:=Dt h
 refine Dj (fun a w'=>j1 = r ∧ Sx w [] nov [] [] 19 a w') ?_ ?_
 ·refine wp_block (Gt (fun (ys1 : List ByteArray) a w'=>∃ i1 : Nat,(∃ dn,Ae = dn ++ ys1 ∧ dn.length = i1) ∧ Hd Bz j1 ys1 i1 = r ∧ Sx w [] nov [] [(0,Am),(1,sV Bz),(7,iV (Ae.length : Int)),(8,iV (i1 : Int))] 19 a w') List.length Ae ⟨0,⟨[],rfl,rfl⟩,h,S.nf [] rfl (subR rfl)⟩ ?_)
  clear S h;rintro ys1 a w1 ⟨i1,⟨dn,hd1,hi1⟩,h,S⟩
  cases ys1 with
  | nil =>
   rw [Hd.eq_1] at h
   refine Fr (Vb S Ee rfl rfl rfl fun a S=>Ld ?_)
   replace S:=S.k5 0 1 7 8 9 rfl
   exact Tn (Fs (wp_cond_false ((S.tm rfl).trans (congrArg Value.bool (Ig hd1 hi1))) (wp_exit (Eb (Eb (Gj (Tn (⟨h,S.nf [] rfl trivial⟩))))))))
  | cons y1 ys1 =>
   rw [Hd.eq_2] at h
   refine Fr (Vb S Ee rfl rfl rfl fun a S=>Ld ?_)
   replace S:=S.k5 0 1 7 8 9 rfl
   refine Tn (Fs (wp_cond_true ((S.tm rfl).trans (congrArg Value.bool (Hh hd1 hi1))) (wp_skip (Tn (Fs (wp_block (Fr (Vm S rfl rfl fun a S=>Va S rfl rfl ?_))))))));clear S;intro a S
   refine Dl (Fs (Fg ?_))
   iterate 3 (refine Vm S rfl rfl ?_;clear S;intro a S)
   obtain ⟨b1,o1,hm1,hr1⟩:=Ev (a:=a) (x:=.tmp 12) (y:=.tmp 13) (ty:=0) Lg Bg (Ie hd1 hi1) rfl (S.tm rfl) (S.tm rfl)
   refine lv S (hr1 _) rfl ?_;clear S;intro a S
   clear hr1
   refine lv S (Hr isAgg9 (off:=o1) (o:=0) (S.tm rfl) (hm1.at S.emb0) rfl) rfl fun a S=>Vb S Vw rfl rfl rfl fun a S=>Dl (Fc h (S.tm rfl) (fun hb1 h=>?_) (fun hb1 h=>?_))
   ·refine Fr (Vm S rfl rfl fun a S=>Va S rfl rfl fun a S=>Ld ?_)
    replace S:=S.k1 4 rfl
    refine Tn (wp_ret (Fa (Cn (Cn (Fa (Cn (Cn ?_)))))))
    subst h
    exact Dx S results104 rfl rfl
   ·exact wp_skip (Hj (Tn (Fg (Vq S Ew rfl rfl rfl fun a S=>Vm S rfl rfl fun a S=>Dl (⟨ys1,⟨i1 + 1,⟨_,(hd1).trans (List.append_cons _ _ _),by simp [hi1]⟩,h,S.nf [] rfl ⟨rfl,rfl,rfl,(congrArg (fun z=>some (Value.int .i64 z)) (Hi hd1 hi1 (Jk Bg))),trivial⟩⟩,Nat.lt_succ_self _⟩)))))
 clear S h;rintro a w2 ⟨h,S⟩;rw [hj1] at h;clear hj1 j1
 refine Tn (Fr (Vk S rfl rfl fun a S=>Dl (wp_ret ?_)))
 subst h
 exact Dx S results104 rfl rfl
theorem Pr (w : World) (Am : Value) (Ae : List ByteArray) (Bg : Slc (view w []) 1 Am (Ae.map Kh)) (Bz : ByteArray) (r : Bool) (h : Gm Ae Bz = r) :
    Calls prog 91 [Am,sV Bz].toArray w (Ret w [] fun _ v _=>v = bV r):=by
 refine Fe func91 rfl ntmps91 rfl fun a S=>?_
 unfold Gm at h
 replace S:=S.k2 0 1 rfl
 refine Fr (Vk S rfl rfl fun a S=>Dz (Vm S rfl rfl fun a S=>Vm S rfl rfl fun a S=>Cy S (fun _=>Ck (vs:=[Am,sV Bz]) ⟨(S.tm rfl),(S.tm rfl),trivial⟩ call104) (Rj _ Am Ae (Bg.mono (S.le_arg Fp)) Bz _ rfl) rfl ?_));clear S;intro v1 a w1 hv1 hk1 hn1 S
 subst hv1
 refine Vq S Td rfl rfl rfl fun a S=>Va S rfl rfl fun a S=>Dl (wp_ret ?_)
 subst h
 exact Dx S results91 rfl rfl
theorem Vt (w : World) (Ax : Ef) (Cf : R58) (Ch : Hg (view w []) Ax Cf) (Ae : An) (r : Bool) (h : Rc Ax Ae = r) :
    Calls prog 69 [.agg (R58.enc Cf).toArray,.agg (An.enc Ae).toArray].toArray w (Ret w [] fun _ v _=>v = bV r):=by
 obtain ⟨u1,rfl,hs1⟩:=Ch
 refine Fe func69 rfl ntmps69 rfl fun a S=>?_
 unfold Rc at h
 replace S:=S.k2 0 1 rfl
 refine Fr (Oh S (S.tm rfl) (cs:=[sV Ax.Key,sV Ax.Race,u1.val,iV Ax.Young,iV Ax.Old]) rfl rfl ?_);clear S;intro a w1 b1 hz1 hk1 S
 refine Oh S (S.tm rfl) (cs:=(An.enc Ae)) rfl rfl ?_;clear S;intro a w2 b2 hz2 hk2 S
 refine Vk S rfl rfl fun a S=>Dz (Vf Rd S rfl rfl fun a S=>Vl isAgg9 0 S rfl rfl rfl rfl fun a S=>Vf Re S rfl rfl fun a S=>Vl isAgg9 1 S rfl rfl rfl rfl fun a S=>Vb S Vw rfl rfl rfl fun a S=>Vm S rfl rfl ?_);clear S;intro a S
 refine Gi 12 (fun a w'=>Keep [] w2 w' ∧ Sx w [] nov [.blk b2 (An.enc Ae) 35,.blk b1 [sV Ax.Key,sV Ax.Race,u1.val,iV Ax.Young,iV Ax.Old] 58] [(2,.pointer (some ⟨b1,0,none⟩)),(3,.pointer (some ⟨b2,0,none⟩)),(22,bV ((decide (Ae.Race = Ax.Race)) && ((decide ((Ax.Clubs.length : Int) = 0)) || (Gm Ax.Clubs Ae.Club))))] 32 a w') ?_ ?_
 ·rcases Bool.eq_false_or_eq_true (decide (Ae.Race = Ax.Race)) with hb1 | hb1
  ·refine Cq S rfl rfl rfl hb1 (Vf Nb S rfl rfl fun a S=>Cq S rfl rfl rfl hb1 (Vl isAgg42 1 S rfl rfl rfl rfl fun a S=>Cq S rfl rfl rfl hb1 (lv S (En Lg (S.tm rfl) (Eg hs1)) rfl fun a S=>Cq S rfl rfl rfl hb1 (Vq S Ip rfl rfl rfl fun a S=>Cq S rfl rfl rfl hb1 (Vm S rfl rfl fun a S=>Gi 6 (fun a w'=>Keep [] w2 w' ∧ Sx w [] nov [.blk b2 (An.enc Ae) 35,.blk b1 [sV Ax.Key,sV Ax.Race,u1.val,iV Ax.Young,iV Ax.Old] 58] [(2,.pointer (some ⟨b1,0,none⟩)),(3,.pointer (some ⟨b2,0,none⟩)),(10,bV (decide (Ae.Race = Ax.Race))),(21,bV ((decide ((Ax.Clubs.length : Int) = 0)) || (Gm Ax.Clubs Ae.Club)))] 32 a w') ?_ ?_)))))
   ·rcases Bool.eq_false_or_eq_true (decide ((Ax.Clubs.length : Int) = 0)) with hb2 | hb2
    ·iterate 5 (refine Fl S rfl rfl rfl (Pc hb2) rfl ?_ rfl;clear S;intro a S)
     exact Cq S rfl rfl rfl hb1 (lv S (Ml (Gm Ax.Clubs Ae.Club) hb2 (S.tm rfl) rfl) rfl fun a S=>Dl (⟨Keep.refl _ _,S.nf [true,true] rfl (subR rfl)⟩))
    ·refine Cq S rfl rfl rfl hb2 (Vf Nb S rfl rfl fun a S=>Cq S rfl rfl rfl hb2 (Vl isAgg42 1 S rfl rfl rfl rfl fun a S=>Cq S rfl rfl rfl hb2 (Vf Ph S rfl rfl fun a S=>Cq S rfl rfl rfl hb2 (Vl isAgg9 0 S rfl rfl rfl rfl fun a S=>Cq S rfl rfl rfl hb2 (Cy S (fun _=>Ck (vs:=[u1.val,sV Ae.Club]) ⟨(S.tm rfl),(S.tm rfl),trivial⟩ call91) (Pr _ u1.val Ax.Clubs (hs1.mono (S.le_arg Fp)) Ae.Club _ rfl) rfl ?_)))));clear S;intro v1 a w5 hv1 hk3 hn1 S
     subst hv1
     exact Cq S rfl rfl rfl hb1 (lv S (Mm hb2 (S.tm rfl) (S.tm rfl)) rfl fun a S=>Dl (⟨hk3,S.nf [true,true] rfl (subR rfl)⟩))
   clear S;rintro a w4 ⟨hk4,S⟩
   exact lv S (Gb hb1 (S.tm rfl) (S.tm rfl)) rfl fun a S=>Dl (⟨hk4,S.nf [true,true] rfl (subR rfl)⟩)
  ·iterate 5 (refine Fl S rfl rfl rfl (Hq hb1) rfl ?_ rfl;clear S;intro a S)
   iterate 5 (refine Yr S rfl rfl rfl rfl ?_;clear S;intro a S)
   exact Fl S rfl rfl rfl (Hq hb1) rfl (fun a S=>lv S (Gc ((decide ((Ax.Clubs.length : Int) = 0)) || (Gm Ax.Clubs Ae.Club)) hb1 (S.tm rfl) rfl) rfl fun a S=>Dl (⟨Keep.refl _ _,S.nf [true,true] rfl (subR rfl)⟩)) rfl
 clear S;rintro a w3 ⟨hk5,S⟩
 refine Vm S rfl rfl fun a S=>Gi 8 (fun a w'=>Keep [] w3 w' ∧ Sx w [] nov [.blk b2 (An.enc Ae) 35,.blk b1 [sV Ax.Key,sV Ax.Race,u1.val,iV Ax.Young,iV Ax.Old] 58] [(31,bV (((decide (Ae.Race = Ax.Race)) && ((decide ((Ax.Clubs.length : Int) = 0)) || (Gm Ax.Clubs Ae.Club))) && (Jm Ae.Age Ax.Young Ax.Old)))] 32 a w') ?_ ?_
 ·rcases Bool.eq_false_or_eq_true ((decide (Ae.Race = Ax.Race)) && ((decide ((Ax.Clubs.length : Int) = 0)) || (Gm Ax.Clubs Ae.Club))) with hb3 | hb3
  ·refine Cq S rfl rfl rfl hb3 (Vf Wc S rfl rfl fun a S=>Cq S rfl rfl rfl hb3 (Vl isAgg3 0 S rfl rfl rfl rfl fun a S=>Cq S rfl rfl rfl hb3 (Vf Rf S rfl rfl fun a S=>Cq S rfl rfl rfl hb3 (Vl isAgg3 1 S rfl rfl rfl rfl fun a S=>Cq S rfl rfl rfl hb3 (Vf Py S rfl rfl fun a S=>Cq S rfl rfl rfl hb3 ?_)))))
   refine Vl isAgg3 1 S rfl rfl rfl rfl fun a S=>Cq S rfl rfl rfl hb3 (Cy S (fun _=>Ck (vs:=[iV Ae.Age,iV Ax.Young,iV Ax.Old]) ⟨(S.tm rfl),(S.tm rfl),(S.tm rfl),trivial⟩ call66) (Nc _ Ae.Age Ax.Young Ax.Old _ rfl) rfl ?_);clear S;intro v2 a w7 hv2 hk6 hn2 S
   subst hv2
   exact lv S (Gb hb3 (S.tm rfl) (S.tm rfl)) rfl fun a S=>Dl (⟨hk6,S.nf [true,true] rfl ⟨rfl,trivial⟩⟩)
  ·iterate 7 (refine Fl S rfl rfl rfl (Hq hb3) rfl ?_ rfl;clear S;intro a S)
   exact lv S (Gc (Jm Ae.Age Ax.Young Ax.Old) hb3 (S.tm rfl) rfl) rfl fun a S=>Dl (⟨Keep.refl _ _,S.nf [true,true] rfl ⟨rfl,trivial⟩⟩)
 clear S;rintro a w6 ⟨hk7,S⟩
 refine Va S rfl rfl fun a S=>Dl (wp_ret ?_)
 subst h
 exact Dx S results69 rfl rfl
theorem Xo (w : World) (Ac : Value) (Al : List Ef) (Bq : List R58) (Ak : Slc (view w []) 5 Ac (Bq.map R58.enc)) (Bd : Fn (Hg (view w [])) Al Bq) (Ae : An) (r : (List ByteArray) × Int) (h : Th Al Ae = some r) :
    Calls prog 55 [Ac,.agg (An.enc Ae).toArray].toArray w (Ret w [] fun τ v _=>∃ u1 : Value,v = .tuple #[u1,iV r.2] ∧ Le τ 9 1 u1 r.1.length (r.1.flatMap Kh)):=by
 refine Fe func55 rfl ntmps55 rfl fun a S=>?_
 unfold Th at h
 replace S:=S.k2 0 1 rfl
 refine Fr (Oh S (S.tm rfl) (cs:=(An.enc Ae)) rfl rfl ?_);clear S;intro a w1 b1 hz1 hk1 S
 refine Vk S rfl rfl fun a S=>Vk S rfl rfl fun a S=>Dl (Fs (Fr (Vm S rfl rfl ?_)));clear S;intro a S
 obtain ⟨r1,hr1,h⟩:=Eh h
 refine Cy S (fun _=>Ck (vs:=[Ac]) ⟨(S.tm rfl),trivial⟩ call20) (Ov _ Ac Al Bq (Ak.mono (S.le_arg Fp)) (On (S.le_arg Fp) Bd) _ hr1) rfl ?_;clear S;intro v1 a w2 hv1 hk2 hn1 S
 subst hv1
 refine Va S rfl rfl fun a S=>Dz (Vm S rfl rfl fun a S=>Vq S Kg rfl rfl rfl fun a S=>Dl (Fc h (S.tm rfl) (fun hb1 h=>?_) (fun hb1 h=>?_)))
 ·refine Fr (Vm S rfl rfl fun a S=>Vk S rfl rfl fun a S=>Va S rfl rfl fun a S=>Dl (wp_ret (Cn ?_)))
  obtain rfl:=Option.some.inj h
  exact Md S results55 rfl rfl ⟨_,rfl,(Jv _ _ _)⟩
 ·refine wp_skip (Tn (Fs (Fr (lv S (Ey isAgg35 sizeOf35 (off:=0) (o:=0) (part:=(An.enc Ae)) rfl rfl (S.tm rfl) (S.cellsAt (i:=0) rfl)) rfl ?_))));clear S;intro a S
  obtain ⟨r2,hr2,h⟩:=Eh h
  refine Cy S (fun _=>Ck (vs:=[.agg (An.enc Ae).toArray]) ⟨(S.tm rfl),trivial⟩ call68) (Tb _ Ae _ hr2) rfl ?_;clear S;intro v2 a w3 hv2 hk3 hn2 S
  subst hv2
  refine Va S rfl rfl fun a S=>Dz (Vm S rfl rfl fun a S=>Vq S Kg rfl rfl rfl fun a S=>Ld ?_)
  replace S:=(S.nl [.blk b1 (An.enc Ae) 35] [true] rfl).k4 0 3 7 19 rfl
  refine Tn (Fc h (S.tm rfl) (fun hb2 h=>?_) (fun hb2 h=>?_))
  ·refine Fr (Vm S rfl rfl fun a S=>Vk S rfl rfl fun a S=>Va S rfl rfl fun a S=>Dl (wp_ret (Cn ?_)))
   obtain rfl:=Option.some.inj h
   exact Md S results55 rfl rfl ⟨_,rfl,(Jv _ _ _)⟩
  ·refine wp_skip (Tn (Fr (Vk S rfl rfl ?_)));clear S;intro a S
   replace S:=S.nil 9 1
   refine Dl (Fs (Fr (Vm S rfl rfl fun a S=>lv S (En Qk (S.tm rfl) (Ot Ak Bd)) rfl fun a S=>lv S (Rm rfl) rfl fun a S=>Dl ?_)))
   replace S:=(S.nl [.own (.slice none 0 0) 9 1 ([] : List ByteArray).length (([] : List ByteArray).flatMap Kh),.blk b1 (An.enc Ae) 35] [true,true] rfl).k5 3 8 21 22 23 rfl
   obtain ⟨j1,hj1,h⟩:=Dt h
   refine Dj (fun a w'=>∃ x1 : List ByteArray,∃ v3 : Value,j1 x1 = some r ∧ Sx w [] nov [.own v3 9 1 x1.length (x1.flatMap Kh),.blk b1 (An.enc Ae) 35] [(8,v3)] 37 a w') ?_ ?_
   ·refine wp_block (Gt (fun (ys1 : List Ef) a w'=>∃ i1 : Nat,∃ x1 : List ByteArray,∃ v3 : Value,(∃ dn,Al = dn ++ ys1 ∧ dn.length = i1) ∧ Kl Ae j1 ys1 i1 x1 = some r ∧ Sx w [] nov [.own v3 9 1 x1.length (x1.flatMap Kh),.blk b1 (An.enc Ae) 35] [(3,.pointer (some ⟨b1,0,none⟩)),(8,v3),(21,Ac),(22,iV (Al.length : Int)),(23,iV (i1 : Int))] 37 a w') List.length Al ⟨0,([] : List ByteArray),(.slice none 0 0),⟨[],rfl,rfl⟩,h,S.nf [true,true] rfl (subR rfl)⟩ ?_)
    clear S h;rintro ys1 a w4 ⟨i1,x1,v3,⟨dn,hd1,hi1⟩,h,S⟩
    cases ys1 with
    | nil =>
     rw [Kl.eq_1] at h
     refine Fr (Vb S Ee rfl rfl rfl fun a S=>Ld ?_)
     replace S:=S.k6 3 8 21 22 23 24 rfl
     exact Tn (Fs (wp_cond_false ((S.tm rfl).trans (congrArg Value.bool (Ig hd1 hi1))) (wp_exit (Eb (Eb (Gj (Tn (⟨x1,v3,h,S.nf [true,true] rfl ⟨rfl,trivial⟩⟩))))))))
    | cons y1 ys1 =>
     rw [Kl.eq_2] at h
     refine Fr (Vb S Ee rfl rfl rfl fun a S=>Ld ?_)
     replace S:=S.k6 3 8 21 22 23 24 rfl
     refine Tn (Fs (wp_cond_true ((S.tm rfl).trans (congrArg Value.bool (Hh hd1 hi1))) (wp_skip (Tn (Fs ?_)))))
     obtain ⟨j2,hj2,h⟩:=Dt h
     refine Dj (fun a w'=>∃ x2 : List ByteArray,∃ v4 : Value,j2 x2 = some r ∧ Sx w [] nov [.own v4 9 1 x2.length (x2.flatMap Kh),.blk b1 (An.enc Ae) 35] [(3,.pointer (some ⟨b1,0,none⟩)),(8,v4),(21,Ac),(22,iV (Al.length : Int)),(23,iV (i1 : Int))] 37 a w') ?_ ?_
     ·refine wp_block (Fs (Fg ?_))
      obtain ⟨r3,hg1,hl1⟩:=Fn.at Bd (Ie hd1 hi1)
      obtain ⟨u1,rfl,hs1⟩:=hl1
      obtain ⟨b2,o1,hm1,hr3⟩:=Ev (a:=a) (x:=.tmp 21) (y:=.tmp 23) (ty:=0) Qk Ak hg1 rfl (S.tm rfl) (S.tm rfl)
      refine lv S (hr3 _) rfl ?_;clear S;intro a S
      clear hr3
      refine lv S (Ey isAgg58 sizeOf58 (off:=o1) (o:=0) (part:=[sV y1.Key,sV y1.Race,u1.val,iV y1.Young,iV y1.Old]) rfl rfl (S.tm rfl) (hm1.at S.emb0)) rfl fun a S=>Lq S zeroValue58 (cs:=[sV Cj,sV Cj,.slice none 0 0,iV 0,iV 0]) rfl rfl ?_;clear S;intro a w7 b3 hz2 hk4 S
      refine Gy S (S.tm rfl) (S.tm rfl) (i:=0) (off:=0) rfl sizeOf58 (vs:=[sV y1.Key,sV y1.Race,u1.val,iV y1.Young,iV y1.Old]) rfl rfl rfl (Nv rfl (Nv rfl (Nv (Fw.one (Eg hs1)) (Nv rfl (Nv rfl rfl))))) ?_;clear S;intro w8 hk5 S
      refine Dz (lv S (Ey isAgg58 sizeOf58 (off:=0) (o:=0) (part:=[sV y1.Key,sV y1.Race,u1.val,iV y1.Young,iV y1.Old]) rfl rfl (S.tm rfl) (S.cellsAt (i:=0) rfl)) rfl fun a S=>lv S (Ey isAgg35 sizeOf35 (off:=0) (o:=0) (part:=(An.enc Ae)) rfl rfl (S.tm rfl) (S.cellsAt (i:=2) rfl)) rfl fun a S=>Cy S (fun _=>Ck (vs:=[.agg (R58.enc (R58.mk y1.Key y1.Race u1 y1.Young y1.Old)).toArray,.agg (An.enc Ae).toArray]) ⟨(S.tm rfl),(S.tm rfl),trivial⟩ call69) (Vt _ y1 (R58.mk y1.Key y1.Race u1 y1.Young y1.Old) ⟨u1,rfl,(hs1.mono (S.le_arg Fp))⟩ Ae _ rfl) rfl ?_);clear S;intro v5 a w9 hv3 hk6 hn3 S
      subst hv3
      refine Dl ?_
      obtain ⟨j3,hj3,h⟩:=Dt h
      refine Dj (fun a w'=>∃ x3 : List ByteArray,∃ v6 : Value,j3 x3 = some r ∧ Sx w [] nov [.own v6 9 1 x3.length (x3.flatMap Kh),.blk b1 (An.enc Ae) 35] [(3,.pointer (some ⟨b1,0,none⟩)),(8,v6),(21,Ac),(22,iV (Al.length : Int)),(23,iV (i1 : Int))] 37 a w') ?_ ?_
      ·refine Fc h (S.tm rfl) (fun hb3 h=>?_) (fun hb3 h=>?_)
       ·refine Fg (Vm S rfl rfl fun a S=>Vf Ny S rfl rfl fun a S=>Vl isAgg9 0 S rfl rfl rfl rfl fun a S=>De S underlying42 sizeOf9 zeroValue9 rfl rfl (pv:=[(0,sV y1.Key)]) ⟨rfl,(S.tm rfl),trivial⟩ (cs:=[sV y1.Key]) (by kernel_rfl) rfl ?_);clear S;intro a w11 b4 hz3 hk7 S
        obtain ⟨hc1,h⟩:=Gz h
        refine Kw Lg Ex S (S.tm rfl) (i:=2) rfl (S.tm rfl) (j:=0) rfl (ys:=[y1.Key]) rfl rfl rfl rfl (by have:=Lh hc1;omega) rfl ?_;clear S;intro v7 a w12 hk8 S
        refine Va S rfl rfl fun a S=>Ld ?_
        replace S:=(S.nl [.own v7 9 1 (x1 ++ [y1.Key]).length ((x1 ++ [y1.Key]).flatMap Kh),.blk b1 (An.enc Ae) 35] [false,false,true,true] rfl).k5 3 8 21 22 23 rfl
        exact Tn (⟨(x1 ++ [y1.Key]),v7,h,S.nf [true,true] rfl (subR rfl)⟩)
       ·exact wp_skip (Tn (⟨x1,v3,h,S.nf [false,true,true] rfl (subR rfl)⟩))
      clear S h;rintro a w10 ⟨x3,v6,h,S⟩;rw [hj3] at h;clear hj3 j3
      exact Hj (Tn (⟨x3,v6,h,S.nf [true,true] rfl (subR rfl)⟩))
     clear S h;rintro a w6 ⟨x2,v4,h,S⟩;rw [hj2] at h;clear hj2 j2
     exact Tn (Fg (Vq S Ew rfl rfl rfl fun a S=>Vm S rfl rfl fun a S=>Dl (⟨ys1,⟨i1 + 1,x2,v4,⟨_,(hd1).trans (List.append_cons _ _ _),by simp [hi1]⟩,h,S.nf [true,true] rfl ⟨rfl,rfl,rfl,rfl,(congrArg (fun z=>some (Value.int .i64 z)) (Hi hd1 hi1 (Qj Ak Bd))),trivial⟩⟩,Nat.lt_succ_self _⟩)))
   clear S h;rintro a w5 ⟨x1,v3,h,S⟩;rw [hj1] at h;clear hj1 j1
   refine Tn (Fr (Vm S rfl rfl fun a S=>Va S rfl rfl fun a S=>Vk S rfl rfl fun a S=>Dl (wp_ret ?_)))
   obtain rfl:=Option.some.inj h
   exact Md S results55 rfl rfl ⟨_,rfl,(Ll S (i:=0) rfl rfl)⟩
end Go.Proofs.YtgfjjiheamdgbaaGreatDoor
