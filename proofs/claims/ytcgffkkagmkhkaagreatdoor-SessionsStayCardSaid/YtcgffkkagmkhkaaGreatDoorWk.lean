/- Each Go function computes its plain twin,by program. -/
import Derived.Test.YtcgffkkagmkhkaaGreatDoorWk2
namespace Go.Proofs.YtcgffkkagmkhkaaGreatDoor
open Go
open Go.Proofs.Tryz
set_option maxRecDepth 20000 in
theorem Yj (w : World) (Bh : Jw) (r : Int × Int) (h : Su Bh = some r) :
    Calls prog 42 [.agg (Jw.enc Bh).toArray].toArray w (Ret w [] fun _ v _=>v = .tuple #[iV r.1,iV r.2]):=by
 refine Fe func42 rfl ntmps42 rfl fun a S=>?_
 unfold Su at h
 replace S:=S.k1 0 rfl
 refine Fr (Qp S (S.tm rfl) (cs:=(Jw.enc Bh)) rfl rfl ?_);clear S;intro a w1 b1 hz1 hk1 S
 refine Vk S rfl rfl fun a S=>Vk S rfl rfl fun a S=>Dl (Fs (Fs ?_))
 obtain ⟨j1,hj1,h⟩:=Ge h
 refine Ft (fun a w'=>∃ x1 : Bool,j1 x1 = some r ∧ Sx w [] nov [.blk b1 (Jw.enc Bh) 94] [(1,.pointer (some ⟨b1,0,none⟩)),(28,bV x1)] 68 a w') ?_ ?_
 ·rcases Bool.eq_false_or_eq_true (!(Ev Bh.Year 1900 2100)) with hb1 | hb1
  ·replace h:=Py h hb1
   rcases Bool.eq_false_or_eq_true true with hb2 | hb2
   ·replace h:=Py h hb2
    refine Gq [] ([]) Tryz.mixed S rfl (by kernel_rfl) ?_;clear S;intro w6 hk5 hsel S
    refine Ej 0 S hsel rfl rfl rfl (by kernel_rfl) (by kernel_rfl) rfl (fun _ hw=>(Fz Sf (S.tm rfl))) fun a S=>Ej 1 S hsel rfl rfl rfl (by kernel_rfl) (by kernel_rfl) rfl (fun _ hw=>(Gt isAgg3 (off:=0) (o:=0) (S.tm rfl) ((S.blk_mem (i:=0) (cells:=(Jw.enc Bh)) (b:=b1) (T:=94) rfl (Gr (e':=.blk b1 (Jw.enc Bh) 94))).kept hw) rfl)) fun a S=>Ga 2 (by kernel_rfl) rfl (Em S (fun _=>Eg (vs:=[iV Bh.Year,iV 1900,iV 2100]) ⟨(S.tm rfl),rfl,rfl,trivial⟩ call32) (Gk _ Bh.Year 1900 2100 _ rfl) rfl ?_);clear S;intro v4 a w7 hv4 hk6 hn4 S
    subst hv4
    refine Ld (Gn hk6 (Jn [3,4,5,6,7,8,9,10,11,12,13,14,15,16,17,18,19,20] hsel (by kernel_rfl) rfl ?_))
    clear hsel
    refine Fk S rfl (Jd (S.tm rfl)) rfl fun a S=>Fk S rfl (Rm (S.tm rfl)) rfl ?_;clear S;intro a S
    iterate 4 (refine Pv S rfl rfl rfl rfl (Nu hb1) rfl ?_ rfl;clear S;intro a S)
    refine Fk S rfl (Mz hb1 (S.tm rfl) rfl) rfl fun a S=>Fk S rfl (Rm (S.tm rfl)) rfl ?_;clear S;intro a S
    iterate 9 (refine Pv S rfl rfl rfl rfl (Nu hb2) rfl ?_ rfl;clear S;intro a S)
    refine Fk S rfl (Mz hb2 (S.tm rfl) rfl) rfl fun a S=>Hx ?_
    replace S:=(S.nl [.blk b1 (Jw.enc Bh) 94] [true] rfl).k2 1 28 rfl
    exact Tn (⟨true,h,S.nf [true] rfl (subR rfl)⟩)
   ·replace h:=Pz h hb2
    refine Gq [] ([]) Tryz.mixed S rfl (by kernel_rfl) ?_;clear S;intro w11 hk10 hsel S
    refine Ej 0 S hsel rfl rfl rfl (by kernel_rfl) (by kernel_rfl) rfl (fun _ hw=>(Fz Sf (S.tm rfl))) fun a S=>Ej 1 S hsel rfl rfl rfl (by kernel_rfl) (by kernel_rfl) rfl (fun _ hw=>(Gt isAgg3 (off:=0) (o:=0) (S.tm rfl) ((S.blk_mem (i:=0) (cells:=(Jw.enc Bh)) (b:=b1) (T:=94) rfl (Gr (e':=.blk b1 (Jw.enc Bh) 94))).kept hw) rfl)) fun a S=>Ga 2 (by kernel_rfl) rfl (Em S (fun _=>Eg (vs:=[iV Bh.Year,iV 1900,iV 2100]) ⟨(S.tm rfl),rfl,rfl,trivial⟩ call32) (Gk _ Bh.Year 1900 2100 _ rfl) rfl ?_);clear S;intro v8 a w12 hv8 hk11 hn8 S
    subst hv8
    refine Ld (Gn hk11 (Ej 3 S hsel rfl rfl rfl (by kernel_rfl) (by kernel_rfl) rfl (fun _ hw=>(Jd (S.tm rfl))) fun a S=>Ej 4 S hsel rfl rfl rfl (by kernel_rfl) (by kernel_rfl) rfl (fun _ hw=>(Rm (S.tm rfl))) fun a S=>CA 5 S hsel rfl rfl rfl rfl (Nu hb1) rfl (by kernel_rfl) (by kernel_rfl) rfl fun a S=>CA 6 S hsel rfl rfl rfl rfl (Nu hb1) rfl (by kernel_rfl) (by kernel_rfl) rfl fun a S=>CA 7 S hsel rfl rfl rfl rfl (Nu hb1) rfl (by kernel_rfl) (by kernel_rfl) rfl fun a S=>CA 8 S hsel rfl rfl rfl rfl (Nu hb1) rfl (by kernel_rfl) (by kernel_rfl) rfl fun a S=>Ej 9 S hsel rfl rfl rfl (by kernel_rfl) (by kernel_rfl) rfl (fun _ hw=>(Mz hb1 (S.tm rfl) rfl)) fun a S=>Ej 10 S hsel rfl rfl rfl (by kernel_rfl) (by kernel_rfl) rfl (fun _ hw=>(Rm (S.tm rfl))) fun a S=>Fb 11 S hsel rfl rfl rfl rfl hb2 rfl rfl (by kernel_rfl) (by kernel_rfl) rfl (fun _ hw=>(Fz CL (S.tm rfl))) ?_));clear S;intro a S
    refine Fb 12 S hsel rfl rfl rfl rfl hb2 rfl rfl (by kernel_rfl) (by kernel_rfl) rfl (fun _ hw=>(Gt isAgg3 (off:=0) (o:=2) (S.tm rfl) ((S.blk_mem (i:=0) (cells:=(Jw.enc Bh)) (b:=b1) (T:=94) rfl (Gr (e':=.blk b1 (Jw.enc Bh) 94))).kept hw) rfl)) fun a S=>Fb 13 S hsel rfl rfl rfl rfl hb2 rfl rfl (by kernel_rfl) (by kernel_rfl) rfl (fun _ hw=>(Fz Sf (S.tm rfl))) fun a S=>Fb 14 S hsel rfl rfl rfl rfl hb2 rfl rfl (by kernel_rfl) (by kernel_rfl) rfl (fun _ hw=>(Gt isAgg3 (off:=0) (o:=0) (S.tm rfl) ((S.blk_mem (i:=0) (cells:=(Jw.enc Bh)) (b:=b1) (T:=94) rfl (Gr (e':=.blk b1 (Jw.enc Bh) 94))).kept hw) rfl)) fun a S=>Fb 15 S hsel rfl rfl rfl rfl hb2 rfl rfl (by kernel_rfl) (by kernel_rfl) rfl (fun _ hw=>(Fz Xj (S.tm rfl))) fun a S=>Fb 16 S hsel rfl rfl rfl rfl hb2 rfl rfl (by kernel_rfl) (by kernel_rfl) rfl (fun _ hw=>(Gt isAgg3 (off:=0) (o:=1) (S.tm rfl) ((S.blk_mem (i:=0) (cells:=(Jw.enc Bh)) (b:=b1) (T:=94) rfl (Gr (e':=.blk b1 (Jw.enc Bh) 94))).kept hw) rfl)) fun a S=>Ga 17 (by kernel_rfl) rfl (Er S rfl rfl rfl hb2 (Em S (fun _=>Eg (vs:=[iV Bh.Year,iV Bh.Month]) ⟨(S.tm rfl),(S.tm rfl),trivial⟩ call66) (Rz _ Bh.Year Bh.Month _ rfl) rfl ?_));clear S;intro v9 a w13 hv9 hk12 hn9 S
    subst hv9
    refine Ld (Gn hk12 (Ga 18 (by kernel_rfl) rfl (Er S rfl rfl rfl hb2 (Em S (fun _=>Eg (vs:=[iV Bh.Day,iV 1,iV (Km Bh.Year Bh.Month)]) ⟨(S.tm rfl),rfl,(S.tm rfl),trivial⟩ call32) (Gk _ Bh.Day 1 (Km Bh.Year Bh.Month) _ rfl) rfl ?_))));clear S;intro v10 a w14 hv10 hk13 hn10 S
    subst hv10
    refine Ld (Gn hk13 (Jn [19,20] hsel (by kernel_rfl) rfl ?_))
    clear hsel
    refine Gx S rfl rfl rfl rfl hb2 (Io S (Jd (S.tm rfl)) rfl fun a S=>Fk S rfl (Na hb2 (S.tm rfl) (S.tm rfl)) rfl fun a S=>Hx ?_)
    replace S:=(S.nl [.blk b1 (Jw.enc Bh) 94] [true] rfl).k2 1 28 rfl
    exact Tn (⟨!(Ev Bh.Day 1 (Km Bh.Year Bh.Month)),h,S.nf [true] rfl (subR rfl)⟩)
  ·replace h:=Pz h hb1
   rcases Bool.eq_false_or_eq_true (!(Ev Bh.Month 1 12)) with hb3 | hb3
   ·replace h:=Py h hb3
    refine Gq [] ([]) Tryz.mixed S rfl (by kernel_rfl) ?_;clear S;intro w19 hk18 hsel S
    refine Ej 0 S hsel rfl rfl rfl (by kernel_rfl) (by kernel_rfl) rfl (fun _ hw=>(Fz Sf (S.tm rfl))) fun a S=>Ej 1 S hsel rfl rfl rfl (by kernel_rfl) (by kernel_rfl) rfl (fun _ hw=>(Gt isAgg3 (off:=0) (o:=0) (S.tm rfl) ((S.blk_mem (i:=0) (cells:=(Jw.enc Bh)) (b:=b1) (T:=94) rfl (Gr (e':=.blk b1 (Jw.enc Bh) 94))).kept hw) rfl)) fun a S=>Ga 2 (by kernel_rfl) rfl (Em S (fun _=>Eg (vs:=[iV Bh.Year,iV 1900,iV 2100]) ⟨(S.tm rfl),rfl,rfl,trivial⟩ call32) (Gk _ Bh.Year 1900 2100 _ rfl) rfl ?_);clear S;intro v15 a w20 hv15 hk19 hn15 S
    subst hv15
    refine Ld (Gn hk19 (Ej 3 S hsel rfl rfl rfl (by kernel_rfl) (by kernel_rfl) rfl (fun _ hw=>(Jd (S.tm rfl))) fun a S=>Ej 4 S hsel rfl rfl rfl (by kernel_rfl) (by kernel_rfl) rfl (fun _ hw=>(Rm (S.tm rfl))) fun a S=>Fb 5 S hsel rfl rfl rfl rfl hb1 rfl rfl (by kernel_rfl) (by kernel_rfl) rfl (fun _ hw=>(Fz Xj (S.tm rfl))) fun a S=>Fb 6 S hsel rfl rfl rfl rfl hb1 rfl rfl (by kernel_rfl) (by kernel_rfl) rfl (fun _ hw=>(Gt isAgg3 (off:=0) (o:=1) (S.tm rfl) ((S.blk_mem (i:=0) (cells:=(Jw.enc Bh)) (b:=b1) (T:=94) rfl (Gr (e':=.blk b1 (Jw.enc Bh) 94))).kept hw) rfl)) fun a S=>Ga 7 (by kernel_rfl) rfl (Er S rfl rfl rfl hb1 (Em S (fun _=>Eg (vs:=[iV Bh.Month,iV 1,iV 12]) ⟨(S.tm rfl),rfl,rfl,trivial⟩ call32) (Gk _ Bh.Month 1 12 _ rfl) rfl ?_))));clear S;intro v16 a w21 hv16 hk20 hn16 S
    subst hv16
    refine Ld (Gn hk20 (Jn [8,9,10,11,12,13,14,15,16,17,18,19,20] hsel (by kernel_rfl) rfl ?_))
    clear hsel
    refine Gx S rfl rfl rfl rfl hb1 (Io S (Jd (S.tm rfl)) rfl fun a S=>Fk S rfl (Na hb1 (S.tm rfl) (S.tm rfl)) rfl fun a S=>Fk S rfl (Rm (S.tm rfl)) rfl ?_);clear S;intro a S
    iterate 9 (refine Pv S rfl rfl rfl rfl (Nu hb3) rfl ?_ rfl;clear S;intro a S)
    refine Fk S rfl (Mz hb3 (S.tm rfl) rfl) rfl fun a S=>Hx ?_
    replace S:=(S.nl [.blk b1 (Jw.enc Bh) 94] [true] rfl).k2 1 28 rfl
    exact Tn (⟨true,h,S.nf [true] rfl (subR rfl)⟩)
   ·replace h:=Pz h hb3
    refine Gq [] ([]) Tryz.mixed S rfl (by kernel_rfl) ?_;clear S;intro w26 hk25 hsel S
    refine Ej 0 S hsel rfl rfl rfl (by kernel_rfl) (by kernel_rfl) rfl (fun _ hw=>(Fz Sf (S.tm rfl))) fun a S=>Ej 1 S hsel rfl rfl rfl (by kernel_rfl) (by kernel_rfl) rfl (fun _ hw=>(Gt isAgg3 (off:=0) (o:=0) (S.tm rfl) ((S.blk_mem (i:=0) (cells:=(Jw.enc Bh)) (b:=b1) (T:=94) rfl (Gr (e':=.blk b1 (Jw.enc Bh) 94))).kept hw) rfl)) fun a S=>Ga 2 (by kernel_rfl) rfl (Em S (fun _=>Eg (vs:=[iV Bh.Year,iV 1900,iV 2100]) ⟨(S.tm rfl),rfl,rfl,trivial⟩ call32) (Gk _ Bh.Year 1900 2100 _ rfl) rfl ?_);clear S;intro v21 a w27 hv21 hk26 hn21 S
    subst hv21
    refine Ld (Gn hk26 (Ej 3 S hsel rfl rfl rfl (by kernel_rfl) (by kernel_rfl) rfl (fun _ hw=>(Jd (S.tm rfl))) fun a S=>Ej 4 S hsel rfl rfl rfl (by kernel_rfl) (by kernel_rfl) rfl (fun _ hw=>(Rm (S.tm rfl))) fun a S=>Fb 5 S hsel rfl rfl rfl rfl hb1 rfl rfl (by kernel_rfl) (by kernel_rfl) rfl (fun _ hw=>(Fz Xj (S.tm rfl))) fun a S=>Fb 6 S hsel rfl rfl rfl rfl hb1 rfl rfl (by kernel_rfl) (by kernel_rfl) rfl (fun _ hw=>(Gt isAgg3 (off:=0) (o:=1) (S.tm rfl) ((S.blk_mem (i:=0) (cells:=(Jw.enc Bh)) (b:=b1) (T:=94) rfl (Gr (e':=.blk b1 (Jw.enc Bh) 94))).kept hw) rfl)) fun a S=>Ga 7 (by kernel_rfl) rfl (Er S rfl rfl rfl hb1 (Em S (fun _=>Eg (vs:=[iV Bh.Month,iV 1,iV 12]) ⟨(S.tm rfl),rfl,rfl,trivial⟩ call32) (Gk _ Bh.Month 1 12 _ rfl) rfl ?_))));clear S;intro v22 a w28 hv22 hk27 hn22 S
    subst hv22
    refine Ld (Gn hk27 (Fb 8 S hsel rfl rfl rfl rfl hb1 rfl rfl (by kernel_rfl) (by kernel_rfl) rfl (fun _ hw=>(Jd (S.tm rfl))) fun a S=>Ej 9 S hsel rfl rfl rfl (by kernel_rfl) (by kernel_rfl) rfl (fun _ hw=>(Na hb1 (S.tm rfl) (S.tm rfl))) fun a S=>Ej 10 S hsel rfl rfl rfl (by kernel_rfl) (by kernel_rfl) rfl (fun _ hw=>(Rm (S.tm rfl))) fun a S=>Fb 11 S hsel rfl rfl rfl rfl hb3 rfl rfl (by kernel_rfl) (by kernel_rfl) rfl (fun _ hw=>(Fz CL (S.tm rfl))) fun a S=>Fb 12 S hsel rfl rfl rfl rfl hb3 rfl rfl (by kernel_rfl) (by kernel_rfl) rfl (fun _ hw=>(Gt isAgg3 (off:=0) (o:=2) (S.tm rfl) ((S.blk_mem (i:=0) (cells:=(Jw.enc Bh)) (b:=b1) (T:=94) rfl (Gr (e':=.blk b1 (Jw.enc Bh) 94))).kept hw) rfl)) fun a S=>Fb 13 S hsel rfl rfl rfl rfl hb3 rfl rfl (by kernel_rfl) (by kernel_rfl) rfl (fun _ hw=>(Fz Sf (S.tm rfl))) fun a S=>Fb 14 S hsel rfl rfl rfl rfl hb3 rfl rfl (by kernel_rfl) (by kernel_rfl) rfl (fun _ hw=>(Gt isAgg3 (off:=0) (o:=0) (S.tm rfl) ((S.blk_mem (i:=0) (cells:=(Jw.enc Bh)) (b:=b1) (T:=94) rfl (Gr (e':=.blk b1 (Jw.enc Bh) 94))).kept hw) rfl)) fun a S=>Fb 15 S hsel rfl rfl rfl rfl hb3 rfl rfl (by kernel_rfl) (by kernel_rfl) rfl (fun _ hw=>(Fz Xj (S.tm rfl))) fun a S=>Fb 16 S hsel rfl rfl rfl rfl hb3 rfl rfl (by kernel_rfl) (by kernel_rfl) rfl (fun _ hw=>(Gt isAgg3 (off:=0) (o:=1) (S.tm rfl) ((S.blk_mem (i:=0) (cells:=(Jw.enc Bh)) (b:=b1) (T:=94) rfl (Gr (e':=.blk b1 (Jw.enc Bh) 94))).kept hw) rfl)) ?_));clear S;intro a S
    refine Ga 17 (by kernel_rfl) rfl (Er S rfl rfl rfl hb3 (Em S (fun _=>Eg (vs:=[iV Bh.Year,iV Bh.Month]) ⟨(S.tm rfl),(S.tm rfl),trivial⟩ call66) (Rz _ Bh.Year Bh.Month _ rfl) rfl ?_));clear S;intro v23 a w29 hv23 hk28 hn23 S
    subst hv23
    refine Ld (Gn hk28 (Ga 18 (by kernel_rfl) rfl (Er S rfl rfl rfl hb3 (Em S (fun _=>Eg (vs:=[iV Bh.Day,iV 1,iV (Km Bh.Year Bh.Month)]) ⟨(S.tm rfl),rfl,(S.tm rfl),trivial⟩ call32) (Gk _ Bh.Day 1 (Km Bh.Year Bh.Month) _ rfl) rfl ?_))));clear S;intro v24 a w30 hv24 hk29 hn24 S
    subst hv24
    refine Ld (Gn hk29 (Jn [19,20] hsel (by kernel_rfl) rfl ?_))
    clear hsel
    refine Gx S rfl rfl rfl rfl hb3 (Io S (Jd (S.tm rfl)) rfl fun a S=>Fk S rfl (Na hb3 (S.tm rfl) (S.tm rfl)) rfl fun a S=>Hx ?_)
    replace S:=(S.nl [.blk b1 (Jw.enc Bh) 94] [true] rfl).k2 1 28 rfl
    exact Tn (⟨!(Ev Bh.Day 1 (Km Bh.Year Bh.Month)),h,S.nf [true] rfl (subR rfl)⟩)
 clear S h;rintro a w2 ⟨x1,h,S⟩;rw [hj1] at h;clear hj1 j1
 refine Tn (Fc h (S.tm rfl) (fun hb4 h=>?_) (fun hb4 h=>?_))
 ·refine Fr (Vk S rfl rfl fun a S=>Vk S rfl rfl fun a S=>Dl (wp_ret (Ek ?_)))
  obtain rfl:=Option.some.inj h
  exact Kx S results42 rfl rfl rfl
 ·refine wp_skip (Tn (Fr (Vf CL S rfl rfl fun a S=>Vl isAgg3 0 S rfl rfl rfl rfl fun a S=>Vq S Iq rfl rfl rfl fun a S=>Va S rfl rfl fun a S=>Dl (Fs ?_))))
  refine Fr (Vk S rfl rfl fun a S=>Dl ?_)
  replace S:=S.k3 1 4 5 rfl
  obtain ⟨j2,hj2,h⟩:=Ge h
  refine Ft (fun a w'=>∃ x2 : Int,j2 x2 = some r ∧ Sx w [] nov [.blk b1 (Jw.enc Bh) 94] [(1,.pointer (some ⟨b1,0,none⟩)),(4,iV x2)] 68 a w') ?_ ?_
  ·refine wp_block (Hh (fun (m1 : Nat) a w'=>∃ x2 : Int,∃ x3 : Int,Ks Bh j2 m1 x2 x3 = some r ∧ Sx w [] nov [.blk b1 (Jw.enc Bh) 94] [(1,.pointer (some ⟨b1,0,none⟩)),(4,iV x2),(5,iV x3)] 68 a w') id ((Bh.Month - 1).toNat + 2) ⟨W (Bh.Day - 1),1,h,S.nf [true] rfl (subR rfl)⟩ ?_)
   clear S h;rintro m1 a w31 ⟨x2,x3,h,S⟩
   cases m1 with
   | zero=>rw [Ks.eq_1] at h;cases h
   | succ m1 =>
    rw [Ks.eq_2] at h
    refine Fs (Fr (Vm S rfl rfl fun a S=>Vf Xj S rfl rfl fun a S=>Vl isAgg3 0 S rfl rfl rfl rfl fun a S=>Vb S Fm rfl rfl rfl fun a S=>Dl (Fc h (S.tm rfl) (fun hb5 h=>?_) (fun hb5 h=>?_))))
    ·refine wp_skip (Tn (Fs (wp_block (Fg (Vm S rfl rfl fun a S=>Vf Sf S rfl rfl fun a S=>Vl isAgg3 0 S rfl rfl rfl rfl fun a S=>Vm S rfl rfl fun a S=>Em S (fun _=>Eg (vs:=[iV Bh.Year,iV x3]) ⟨(S.tm rfl),(S.tm rfl),trivial⟩ call66) (Rz _ Bh.Year x3 _ rfl) rfl ?_)))));clear S;intro v25 a w33 hv25 hk30 hn25 S
     subst hv25
     refine Vb S Gd rfl rfl rfl fun a S=>Va S rfl rfl fun a S=>Ld (Jc (Tn (Fg (Vm S rfl rfl fun a S=>Vq S Gd rfl rfl rfl fun a S=>Va S rfl rfl fun a S=>Ld ?_))))
     replace S:=S.k3 1 4 5 rfl
     exact Tn (⟨m1,⟨W (x2 + (Km Bh.Year x3)),W (x3 + 1),h,S.nf [true] rfl ⟨rfl,rfl,rfl,trivial⟩⟩,Nat.lt_succ_self _⟩)
    ·exact wp_exit (Fj (Fj (He (Tn (⟨x2,h,S.nf [true] rfl (subR rfl)⟩)))))
  clear S h;rintro a w32 ⟨x2,h,S⟩;rw [hj2] at h;clear hj2 j2
  refine Tn (Fs (Fr (Vk S rfl rfl fun a S=>Dl ?_)))
  replace S:=S.k3 1 4 6 rfl
  obtain ⟨j3,hj3,h⟩:=Ge h
  refine Ft (fun a w'=>∃ x4 : Int,j3 x4 = some r ∧ Sx w [] nov [.blk b1 (Jw.enc Bh) 94] [(1,.pointer (some ⟨b1,0,none⟩)),(4,iV x4)] 68 a w') ?_ ?_
  ·refine wp_block (Hh (fun (m2 : Nat) a w'=>∃ x4 : Int,∃ x5 : Int,Kt Bh j3 m2 x4 x5 = some r ∧ Sx w [] nov [.blk b1 (Jw.enc Bh) 94] [(1,.pointer (some ⟨b1,0,none⟩)),(4,iV x4),(6,iV x5)] 68 a w') id ((Bh.Year - 2024).toNat + 2) ⟨x2,2024,h,S.nf [true] rfl (subR rfl)⟩ ?_)
   clear S h;rintro m2 a w34 ⟨x4,x5,h,S⟩
   cases m2 with
   | zero=>rw [Kt.eq_1] at h;cases h
   | succ m2 =>
    rw [Kt.eq_2] at h
    refine Fs (Fr (Vm S rfl rfl fun a S=>Vf Sf S rfl rfl fun a S=>Vl isAgg3 0 S rfl rfl rfl rfl fun a S=>Vb S Fm rfl rfl rfl fun a S=>Dl (Fc h (S.tm rfl) (fun hb6 h=>?_) (fun hb6 h=>?_))))
    ·refine wp_skip (Tn (Fs (wp_block (Fg (Vm S rfl rfl fun a S=>Vm S rfl rfl fun a S=>Em S (fun _=>Eg (vs:=[iV x5]) ⟨(S.tm rfl),trivial⟩ call67) (Sb _ x5 _ rfl) rfl ?_)))));clear S;intro v26 a w36 hv26 hk31 hn26 S
     subst hv26
     refine Vb S Gd rfl rfl rfl fun a S=>Va S rfl rfl fun a S=>Ld (Jc (Tn (Fg (Vm S rfl rfl fun a S=>Vq S Gd rfl rfl rfl fun a S=>Va S rfl rfl fun a S=>Dl ?_))))
     exact ⟨m2,⟨W (x4 + (Mp x5)),W (x5 + 1),h,S.nf [true] rfl ⟨rfl,rfl,rfl,trivial⟩⟩,Nat.lt_succ_self _⟩
    ·exact wp_exit (Fj (Fj (He (Tn (⟨x4,h,S.nf [true] rfl (subR rfl)⟩)))))
  clear S h;rintro a w35 ⟨x4,h,S⟩;rw [hj3] at h;clear hj3 j3
  refine Tn (Fs (Fr (Vf Sf S rfl rfl fun a S=>Vl isAgg3 0 S rfl rfl rfl rfl fun a S=>Va S rfl rfl fun a S=>Dl ?_)))
  replace S:=S.n0.k2 4 7 rfl
  obtain ⟨j4,hj4,h⟩:=Ge h
  refine Ft (fun a w'=>∃ x6 : Int,j4 x6 = some r ∧ Sx w [] nov [] [(4,iV x6)] 68 a w') ?_ ?_
  ·refine wp_block (Hh (fun (m3 : Nat) a w'=>∃ x6 : Int,∃ x7 : Int,Ku j4 m3 x6 x7 = some r ∧ Sx w [] nov [] [(4,iV x6),(7,iV x7)] 68 a w') id ((2024 - Bh.Year).toNat + 2) ⟨x4,Bh.Year,h,S.nf [] rfl (subR rfl)⟩ ?_)
   clear S h;rintro m3 a w37 ⟨x6,x7,h,S⟩
   cases m3 with
   | zero=>rw [Ku.eq_1] at h;cases h
   | succ m3 =>
    rw [Ku.eq_2] at h
    refine Fs (Fr (Vm S rfl rfl fun a S=>Vq S Fm rfl rfl rfl fun a S=>Dl (Fc h (S.tm rfl) (fun hb7 h=>?_) (fun hb7 h=>?_))))
    ·refine wp_skip (Tn (Fs (wp_block (Fg (Vm S rfl rfl fun a S=>Vm S rfl rfl fun a S=>Em S (fun _=>Eg (vs:=[iV x7]) ⟨(S.tm rfl),trivial⟩ call67) (Sb _ x7 _ rfl) rfl ?_)))));clear S;intro v27 a w39 hv27 hk32 hn27 S
     subst hv27
     refine Vb S Iq rfl rfl rfl fun a S=>Va S rfl rfl fun a S=>Ld (Jc (Tn (Fg (Vm S rfl rfl fun a S=>Vq S Gd rfl rfl rfl fun a S=>Va S rfl rfl fun a S=>Dl ?_))))
     exact ⟨m3,⟨W (x6 - (Mp x7)),W (x7 + 1),h,S.nf [] rfl ⟨rfl,rfl,trivial⟩⟩,Nat.lt_succ_self _⟩
    ·exact wp_exit (Fj (Fj (He (Tn (⟨x6,h,S.nf [] rfl ⟨rfl,trivial⟩⟩)))))
  clear S h;rintro a w38 ⟨x6,h,S⟩;rw [hj4] at h;clear hj4 j4
  refine Tn (Fs (Fr (Vm S rfl rfl fun a S=>Em S (fun _=>Eg (vs:=[iV x6]) ⟨(S.tm rfl),trivial⟩ call68) (Yi _ x6 _ rfl) rfl ?_)));clear S;intro v28 a w40 hv28 hk33 hn28 S
  subst hv28
  refine Vu S Jd rfl rfl fun a S=>Dl (Fc h (S.tm rfl) (fun hb8 h=>?_) (fun hb8 h=>?_))
  ·refine Fr (Vk S rfl rfl fun a S=>Vk S rfl rfl fun a S=>Dl (wp_ret (Ek ?_)))
   obtain rfl:=Option.some.inj h
   exact Kx S results42 rfl rfl rfl
  ·refine wp_skip (Tn (Fr (Vm S rfl rfl fun a S=>Va S rfl rfl fun a S=>Vk S rfl rfl fun a S=>Dl (wp_ret ?_))))
   obtain rfl:=Option.some.inj h
   exact Kx S results42 rfl rfl rfl
theorem Yx (w : World) (Ab : Value) (Al : List Ed) (Ao : Slc (view w []) 5 Ab (Al.map Ed.enc)) (Bd : Int) (r : Int × Int) (h : Ty Al Bd = some r) :
    Calls prog 43 [Ab,iV Bd].toArray w (Ret w [] fun _ v _=>v = .tuple #[iV r.1,iV r.2]):=by
 refine Fe func43 rfl ntmps43 rfl fun a S=>?_
 unfold Ty at h
 replace S:=S.k2 0 1 rfl
 refine Fr (Vk S rfl rfl fun a S=>Vk S rfl rfl fun a S=>Dz (Vm S rfl rfl fun a S=>Vm S rfl rfl ?_));clear S;intro a S
 obtain ⟨r1,hr1,h⟩:=Gf h
 have hz1:=S.keep.size
 refine Em S (fun _=>Eg (vs:=[Ab,iV Bd]) ⟨(S.tm rfl),(S.tm rfl),trivial⟩ call7) (Ry _ Ab Al (Ao.mono (S.le_arg Fh)) Bd _ hr1) rfl ?_;clear S;intro v1 a w1 hv1 hk1 hn1 S
 obtain ⟨u1,rfl,ho1⟩:=hv1
 obtain ⟨φ1,hl1,hm1,S⟩:=S.see' hn1 hz1
 have hs1:=ho1.mono hm1
 refine Vm S rfl rfl fun a S=>Vq S Gv rfl rfl rfl fun a S=>Vq S Gv rfl rfl rfl fun a S=>Va S rfl rfl fun a S=>Va S rfl rfl fun a S=>Dl (Fs (Fr (Vm S rfl rfl ?_)));clear S;intro a S
 refine Vq S Mq rfl rfl rfl fun a S=>Dl (Fc h (S.tm rfl) (fun hb1 h=>?_) (fun hb1 h=>?_))
 ·refine Fr (Vm S rfl rfl fun a S=>Vk S rfl rfl fun a S=>Va S rfl rfl fun a S=>Ld ?_)
  replace S:=S.k2 4 5 rfl
  refine Tn (wp_ret (Ek ?_))
  obtain rfl:=Option.some.inj h
  exact Kx S results43 rfl rfl rfl
 ·refine wp_skip (Tn (Fr (Vm S rfl rfl fun a S=>Vm S rfl rfl ?_)));clear S;intro a S
  obtain ⟨r2,hr2,h⟩:=Gf h
  refine Em S (fun _=>Eg (vs:=[u1,iV Bd]) ⟨(S.tm rfl),(S.tm rfl),trivial⟩ call33) (Rc _ u1 r1.1 ((Fv Ee.enc_ok hs1).mono (S.le_new Fh)) Bd _ hr2) rfl ?_;clear S;intro v2 a w2 hv2 hk2 hn2 S
  subst hv2
  refine Va S rfl rfl fun a S=>Vk S rfl rfl fun a S=>Ld ?_
  replace S:=S.k2 4 5 rfl
  refine Tn (wp_ret ?_)
  obtain rfl:=Option.some.inj h
  exact Kx S results43 rfl rfl rfl
theorem Rq (w : World) (Bv : Int) (r : Bool) (h : Nn Bv = r) :
    Calls prog 71 [iV Bv].toArray w (Ret w [] fun _ v _=>v = bV r):=by
 refine Fe func71 rfl ntmps71 rfl fun a S=>?_
 unfold Nn at h
 replace S:=S.k1 0 rfl
 refine Fr (Vk S rfl rfl fun a S=>Dz (Vm S rfl rfl fun a S=>Em S (fun _=>Eg (vs:=[iV Bv,iV 1,iV 360000]) ⟨(S.tm rfl),rfl,rfl,trivial⟩ call32) (Gk _ Bv 1 360000 _ rfl) rfl ?_));clear S;intro v1 a w1 hv1 hk1 hn1 S
 subst hv1
 refine Va S rfl rfl fun a S=>Dl (wp_ret ?_)
 subst h
 exact Fw S results71 rfl rfl
set_option maxRecDepth 20000 in
theorem Wb (w : World) (Ab : Value) (Al : List Ns) (Ao : Slc (view w []) 2 Ab (Al.map Ns.enc)) (r : Int) (h : Rk Al = some r) :
    Calls prog 69 [Ab].toArray w (Ret w [] fun _ v _=>v = iV r):=by
 refine Fe func69 rfl ntmps69 rfl fun a S=>?_
 unfold Rk at h
 replace S:=S.k1 0 rfl
 refine Fr (Vk S rfl rfl fun a S=>Dl (Fs (Fr (Vm S rfl rfl fun a S=>lv S (Fy BK (S.tm rfl) (Eh Ao)) rfl fun a S=>Vq S Kh rfl rfl rfl ?_))));clear S;intro a S
 refine Dl (Fc h (S.tm rfl) (fun hb1 h=>?_) (fun hb1 h=>?_))
 ·refine Fr (Vk S rfl rfl fun a S=>Dl (wp_ret (Ek ?_)))
  obtain rfl:=Option.some.inj h
  exact Fw S results69 rfl rfl
 ·refine wp_skip (Tn (Fs (Fr (Vm S rfl rfl fun a S=>lv S (Fy BK (S.tm rfl) (Eh Ao)) rfl fun a S=>lv S (Rm rfl) rfl fun a S=>Dl ?_))))
  replace S:=S.k4 0 8 9 10 rfl
  obtain ⟨j1,hj1,h⟩:=Ge h
  refine Ft (fun a w'=>j1 = some r ∧ Sx w [] nov [] [] 40 a w') ?_ ?_
  ·refine wp_block (Hh (fun (ys1 : List Ns) a w'=>∃ i1 : Nat,(∃ dn,Al = dn ++ ys1 ∧ dn.length = i1) ∧ Jt Al j1 ys1 i1 = some r ∧ Sx w [] nov [] [(0,Ab),(8,Ab),(9,iV (Al.length : Int)),(10,iV (i1 : Int))] 40 a w') List.length Al ⟨0,⟨[],rfl,rfl⟩,h,S.nf [] rfl (subR rfl)⟩ ?_)
   clear S h;rintro ys1 a w1 ⟨i1,⟨dn,hd1,hi1⟩,h,S⟩
   cases ys1 with
   | nil =>
    rw [Jt.eq_1] at h
    refine Fr (Vb S Fm rfl rfl rfl fun a S=>Ld ?_)
    replace S:=S.k5 0 8 9 10 11 rfl
    exact Tn (Fs (wp_cond_false ((S.tm rfl).trans (congrArg Value.bool (Ih hd1 hi1))) (wp_exit (Fj (Fj (He (Tn (⟨h,S.nf [] rfl trivial⟩))))))))
   | cons y1 ys1 =>
    rw [Jt.eq_2] at h
    refine Fr (Vb S Fm rfl rfl rfl fun a S=>Ld ?_)
    replace S:=S.k5 0 8 9 10 11 rfl
    refine Tn (Fs (wp_cond_true ((S.tm rfl).trans (congrArg Value.bool (Hb hd1 hi1))) (wp_skip (Tn (Fs (wp_block (Fr (Vm S rfl rfl ?_))))))));clear S;intro a S
    obtain ⟨b1,o1,hm1,hr1⟩:=Ff (a:=a) (x:=.tmp 8) (y:=.tmp 10) (ty:=0) BK Ao (Ig hd1 hi1) rfl (S.tm rfl) (S.tm rfl)
    refine lv S (hr1 _) rfl ?_;clear S;intro a S
    clear hr1
    refine lv S (Hf isAgg98 sizeOf98 (off:=o1) (o:=0) (part:=(Ns.enc y1)) rfl rfl (S.tm rfl) (hm1.at S.emb0)) rfl fun a S=>Lm S zeroValue98 (cs:=[sV En,iV 0]) rfl rfl ?_;clear S;intro a w3 b2 hz1 hk1 S
    refine Va S rfl rfl fun a S=>Ki S (S.tm rfl) (S.tm rfl) (i:=0) (off:=0) rfl sizeOf98 (vs:=(Ns.enc y1)) rfl rfl rfl rfl ?_;clear S;intro w4 hk2 S
    refine Dl (wp_block (Fr (Vf Zg S rfl rfl fun a S=>Vl isAgg9 0 S rfl rfl rfl rfl ?_)));clear S;intro a S
    obtain ⟨r1,hr2,h⟩:=Gf h
    refine Em S (fun _=>Eg (vs:=[sV y1.Race]) ⟨(S.tm rfl),trivial⟩ call50) (Kl _ y1.Race _ hr2) rfl ?_;clear S;intro v1 a w5 hv1 hk3 hn1 S
    subst hv1
    refine Vu S Jd rfl rfl fun a S=>Va S rfl rfl fun a S=>Ld ?_
    replace S:=(S.nl [.blk b2 (Ns.enc y1) 98] [true] rfl).k7 0 3 4 8 9 10 15 rfl
    refine Tn (Fc h (S.tm rfl) (fun hb2 h=>?_) (fun hb2 h=>?_))
    ·refine Fr (Vk S rfl rfl fun a S=>Dl (wp_ret (Gu (Gu (Ek (Ek (Gu ?_)))))))
     refine Ek (Ek ?_)
     obtain rfl:=Option.some.inj h
     exact Fw S results69 rfl rfl
    ·refine Fs (Gq [] ([]) Tryz.mixed S rfl (by kernel_rfl) ?_);clear S;intro w6 hk4 hsel S
     refine Jn [0,1,2,3,4,5,6,7,8,9,10,11,12,13] hsel (by kernel_rfl) rfl ?_
     clear hsel
     refine Fk S rfl (Rm (S.tm rfl)) rfl fun a S=>Fk S rfl (Kh (S.tm rfl) rfl) rfl fun a S=>Fk S rfl (Rm (S.tm rfl)) rfl ?_;clear S;intro a S
     obtain ⟨j2,hj2,h⟩:=Ge h
     refine Ya 10 (fun a w'=>∃ c1,j2 c1 = some r ∧ Keep [] w6 w' ∧ Sx w [] nov [.blk b2 (Ns.enc y1) 98] [(0,Ab),(4,.pointer (some ⟨b2,0,none⟩)),(8,Ab),(9,iV (Al.length : Int)),(10,iV (i1 : Int)),(33,bV c1)] 40 a w') ?_ ?_
     ·rcases Bool.eq_false_or_eq_true (decide (0 < (i1 : Int))) with hb3 | hb3
      ·replace h:=Py h hb3
       refine Gx S rfl rfl rfl rfl hb3 (Io S (Fz Zg (S.tm rfl)) rfl fun a S=>Gx S rfl rfl rfl rfl hb3 (Io S (Lj isAgg9 (S.tm rfl) (S.cell (i:=0) rfl rfl)) rfl fun a S=>Gx S rfl rfl rfl rfl hb3 (Io S (Rm (S.tm rfl)) rfl fun a S=>Gx S rfl rfl rfl rfl hb3 (Io S (Rm (S.tm rfl)) rfl fun a S=>Gx S rfl rfl rfl rfl hb3 (Io S (Iq (S.tm rfl) rfl) rfl fun a S=>Gx S rfl rfl rfl rfl hb3 ?_)))))
       obtain ⟨hc1,h⟩:=Hu h
       obtain ⟨b3,o2,hm2,hr3⟩:=Ff (a:=a) (x:=.tmp 26) (y:=.tmp 28) (ty:=0) BK Ao (El hc1).1 (El hc1).2 (S.tm rfl) (S.tm rfl)
       refine Io S (hr3 _) rfl ?_;clear S;intro a S
       clear hr3
       exact Gx S rfl rfl rfl rfl hb3 (Io S (Fz Zg (S.tm rfl)) rfl fun a S=>Gx S rfl rfl rfl rfl hb3 (Io S (Gt isAgg9 (off:=o2) (o:=0) (S.tm rfl) (hm2.at S.emb0) rfl) rfl fun a S=>Gx S rfl rfl rfl rfl hb3 (Io S (BV (S.tm rfl) (S.tm rfl)) rfl fun a S=>Fk S rfl (Ju hb3 (S.tm rfl) (S.tm rfl)) rfl fun a S=>Hx (⟨_,h,Keep.refl _ _,S.nf [true] rfl (subR rfl)⟩))))
      ·replace h:=Pz h hb3
       iterate 9 (refine Pv S rfl rfl rfl rfl (Lk hb3) rfl ?_ rfl;clear S;intro a S)
       exact Fk S rfl (Jv true hb3 (S.tm rfl) rfl) rfl fun a S=>Hx (⟨_,h,Keep.refl _ _,S.nf [true] rfl (subR rfl)⟩)
     clear S h;rintro a w7 ⟨c1,h,hk5,S⟩;rw [hj2] at h;clear hj2 j2
     refine Fk S rfl (Ra (S.tm rfl)) rfl fun a S=>Hx ?_
     replace S:=S.k6 0 4 8 9 10 20 rfl
     refine Tn (Fc h (S.tm rfl) (fun hb4 h=>?_) (fun hb4 h=>?_))
     ·refine Fr (Vk S rfl rfl fun a S=>Dl (wp_ret (Gu (Gu (Ek (Ek (Gu ?_)))))))
      refine Ek (Ek ?_)
      obtain rfl:=Option.some.inj h
      exact Fw S results69 rfl rfl
     ·refine Fr (Vf FM S rfl rfl fun a S=>Vl isAgg3 0 S rfl rfl rfl rfl fun a S=>Em S (fun _=>Eg (vs:=[iV y1.Time]) ⟨(S.tm rfl),trivial⟩ call71) (Rq _ y1.Time _ rfl) rfl ?_);clear S;intro v2 a w8 hv2 hk6 hn2 S
      subst hv2
      refine Vu S Jd rfl rfl fun a S=>Va S rfl rfl fun a S=>Dl (Fc h (S.tm rfl) (fun hb5 h=>?_) (fun hb5 h=>?_))
      ·refine Fr (Vk S rfl rfl fun a S=>Dl (wp_ret (Gu (Gu (Ek (Ek (Gu ?_)))))))
       refine Ek (Ek ?_)
       obtain rfl:=Option.some.inj h
       exact Fw S results69 rfl rfl
      ·exact wp_skip (Jc (Jc (Tn (Fg (Vq S Gd rfl rfl rfl fun a S=>Vm S rfl rfl fun a S=>Dl (⟨ys1,⟨i1 + 1,⟨_,(hd1).trans (List.append_cons _ _ _),by simp [hi1]⟩,h,S.nf [false] rfl ⟨rfl,rfl,rfl,(congrArg (fun z=>some (Value.int .i64 z)) (Hc hd1 hi1 (Jx Ao))),trivial⟩⟩,Nat.lt_succ_self _⟩))))))
  clear S h;rintro a w2 ⟨h,S⟩;rw [hj1] at h;clear hj1 j1
  refine Tn (Fr (Vk S rfl rfl fun a S=>Dl (wp_ret ?_)))
  obtain rfl:=Option.some.inj h
  exact Fw S results69 rfl rfl
theorem Yk (w : World) (Ab : Value) (Al : List Ns) (Ao : Slc (view w []) 2 Ab (Al.map Ns.enc)) (Cq : ByteArray) (r : Int) (h : Oy Al Cq = r) :
    Calls prog 70 [Ab,sV Cq].toArray w (Ret w [] fun _ v _=>v = iV r):=by
 refine Fe func70 rfl ntmps70 rfl fun a S=>?_
 unfold Oy at h
 replace S:=S.k2 0 1 rfl
 refine Fr (Vk S rfl rfl fun a S=>Dl (Fs (Fr (Vm S rfl rfl fun a S=>lv S (Fy BK (S.tm rfl) (Eh Ao)) rfl fun a S=>lv S (Rm rfl) rfl ?_))));clear S;intro a S
 refine Dl ?_
 replace S:=S.k4 1 7 8 9 rfl
 obtain ⟨j1,hj1,h⟩:=Ge h
 refine Ft (fun a w'=>j1 = r ∧ Sx w [] nov [] [] 20 a w') ?_ ?_
 ·refine wp_block (Hh (fun (ys1 : List Ns) a w'=>∃ i1 : Nat,(∃ dn,Al = dn ++ ys1 ∧ dn.length = i1) ∧ Kv Cq j1 ys1 i1 = r ∧ Sx w [] nov [] [(1,sV Cq),(7,Ab),(8,iV (Al.length : Int)),(9,iV (i1 : Int))] 20 a w') List.length Al ⟨0,⟨[],rfl,rfl⟩,h,S.nf [] rfl (subR rfl)⟩ ?_)
  clear S h;rintro ys1 a w1 ⟨i1,⟨dn,hd1,hi1⟩,h,S⟩
  cases ys1 with
  | nil =>
   rw [Kv.eq_1] at h
   refine Fr (Vb S Fm rfl rfl rfl fun a S=>Ld ?_)
   replace S:=S.k5 1 7 8 9 10 rfl
   exact Tn (Fs (wp_cond_false ((S.tm rfl).trans (congrArg Value.bool (Ih hd1 hi1))) (wp_exit (Fj (Fj (He (Tn (⟨h,S.nf [] rfl trivial⟩))))))))
  | cons y1 ys1 =>
   rw [Kv.eq_2] at h
   refine Fr (Vb S Fm rfl rfl rfl fun a S=>Ld ?_)
   replace S:=S.k5 1 7 8 9 10 rfl
   refine Tn (Fs (wp_cond_true ((S.tm rfl).trans (congrArg Value.bool (Hb hd1 hi1))) (wp_skip (Tn (Fs (wp_block (Fs (Fg ?_))))))))
   obtain ⟨b1,o1,hm1,hr1⟩:=Ff (a:=a) (x:=.tmp 7) (y:=.tmp 9) (ty:=0) BK Ao (Ig hd1 hi1) rfl (S.tm rfl) (S.tm rfl)
   refine lv S (hr1 _) rfl ?_;clear S;intro a S
   clear hr1
   refine lv S (Hf isAgg98 sizeOf98 (off:=o1) (o:=0) (part:=(Ns.enc y1)) rfl rfl (S.tm rfl) (hm1.at S.emb0)) rfl fun a S=>Lm S zeroValue98 (cs:=[sV En,iV 0]) rfl rfl ?_;clear S;intro a w3 b2 hz1 hk1 S
   refine Ki S (S.tm rfl) (S.tm rfl) (i:=0) (off:=0) rfl sizeOf98 (vs:=(Ns.enc y1)) rfl rfl rfl rfl ?_;clear S;intro w4 hk2 S
   refine Dz (Vf Zg S rfl rfl fun a S=>Vl isAgg9 0 S rfl rfl rfl rfl fun a S=>Vm S rfl rfl fun a S=>Vb S Tp rfl rfl rfl fun a S=>Dl (Fc h (S.tm rfl) (fun hb1 h=>?_) (fun hb1 h=>?_)))
   ·refine Fr (Vf FM S rfl rfl fun a S=>Vl isAgg3 0 S rfl rfl rfl rfl fun a S=>Va S rfl rfl fun a S=>Ld ?_)
    replace S:=S.n0.k1 4 rfl
    refine Tn (wp_ret (Gu (Ek (Ek (Gu (Ek (Ek ?_)))))))
    subst h
    exact Fw S results70 rfl rfl
   ·exact wp_skip (Jc (Tn (Fg (Vq S Gd rfl rfl rfl fun a S=>Vm S rfl rfl fun a S=>Dl (⟨ys1,⟨i1 + 1,⟨_,(hd1).trans (List.append_cons _ _ _),by simp [hi1]⟩,h,S.nf [false] rfl ⟨rfl,rfl,rfl,(congrArg (fun z=>some (Value.int .i64 z)) (Hc hd1 hi1 (Jx Ao))),trivial⟩⟩,Nat.lt_succ_self _⟩)))))
 clear S h;rintro a w2 ⟨h,S⟩;rw [hj1] at h;clear hj1 j1
 refine Tn (Fr (Vk S rfl rfl fun a S=>Dl (wp_ret ?_)))
 subst h
 exact Fw S results70 rfl rfl
theorem AQ (w : World) (Az : Int) (Bq : Int) (r : Int × Int) (h : Oj Az Bq = r) :
    Calls prog 93 [.int .u64 Az,.int .u64 Bq].toArray w (Ret w [] fun _ v _=>v = .tuple #[.int .u64 r.1,.int .u64 r.2]):=by
 refine Fe func93 rfl ntmps93 rfl fun a S=>?_
 unfold Oj at h
 replace S:=S.k2 0 1 rfl
 refine Fr (Vk S rfl rfl fun a S=>Vk S rfl rfl fun a S=>Dz (Vm S rfl rfl fun a S=>Vq S Ws rfl rfl rfl fun a S=>Va S rfl rfl ?_));clear S;intro a S
 refine Dz (Vm S rfl rfl fun a S=>lv S (Qt (S.tm rfl) rfl (by decide)) rfl fun a S=>Va S rfl rfl fun a S=>Dl (Fs (Fg ?_)))
 refine Vm S rfl rfl fun a S=>Vq S Ws rfl rfl rfl fun a S=>Va S rfl rfl fun a S=>Dz (Vm S rfl rfl fun a S=>lv S (Qt (S.tm rfl) rfl (by decide)) rfl fun a S=>Va S rfl rfl fun a S=>Ld ?_)
 replace S:=S.k6 0 1 6 7 8 9 rfl
 refine Tn (Fr (Vm S rfl rfl fun a S=>Vm S rfl rfl fun a S=>Vb S Lx rfl rfl rfl fun a S=>Va S rfl rfl fun a S=>Dl (Fs (Fg ?_))))
 refine Vm S rfl rfl fun a S=>Vm S rfl rfl fun a S=>Vb S Lx rfl rfl rfl fun a S=>Vm S rfl rfl fun a S=>lv S (Qt (S.tm rfl) rfl (by decide)) rfl fun a S=>Vb S Qs rfl rfl rfl fun a S=>Va S rfl rfl fun a S=>Ld ?_
 replace S:=S.k6 0 1 6 7 9 11 rfl
 refine Tn (Fr (Vm S rfl rfl fun a S=>Vq S Ws rfl rfl rfl fun a S=>Va S rfl rfl fun a S=>Dz (Vm S rfl rfl ?_)));clear S;intro a S
 refine lv S (Qt (S.tm rfl) rfl (by decide)) rfl fun a S=>Va S rfl rfl fun a S=>Dl (Fs (Fg ?_))
 iterate 3 (refine Vm S rfl rfl ?_;clear S;intro a S)
 refine Vb S Lx rfl rfl rfl fun a S=>Vb S Qs rfl rfl rfl fun a S=>Va S rfl rfl fun a S=>Ld ?_
 replace S:=S.k6 0 1 7 9 12 13 rfl
 refine Tn (Fr (Vm S rfl rfl fun a S=>Vm S rfl rfl fun a S=>Vb S Lx rfl rfl rfl fun a S=>Vm S rfl rfl fun a S=>Vb S Qs rfl rfl rfl fun a S=>Vm S rfl rfl fun a S=>lv S (Qt (S.tm rfl) rfl (by decide)) rfl fun a S=>Vb S Qs rfl rfl rfl ?_));clear S;intro a S
 refine Va S rfl rfl fun a S=>Ld ?_
 replace S:=S.k3 0 1 4 rfl
 refine Tn (Fr (Vm S rfl rfl fun a S=>Vm S rfl rfl fun a S=>Vb S Lx rfl rfl rfl fun a S=>Va S rfl rfl fun a S=>Dl (wp_ret ?_)))
 subst h
 exact Kx S results93 rfl rfl rfl
theorem Uc (w : World) (Az : Int) (r : Int) (h : Px Az = some r) :
    Calls prog 109 [.int .u64 Az].toArray w (Ret w [] fun _ v _=>v = iV r):=by
 refine Fe func109 rfl ntmps109 rfl fun a S=>?_
 unfold Px at h
 replace S:=S.k1 0 rfl
 refine Fr (Vk S rfl rfl fun a S=>Dz (Vm S rfl rfl ?_));clear S;intro a S
 obtain ⟨r1,hr1,h⟩:=Gf h
 refine Em S (fun _=>Eg (vs:=[.int .u64 Az]) ⟨(S.tm rfl),trivial⟩ call85) (Wh _ Az _ hr1) rfl ?_;clear S;intro v1 a w1 hv1 hk1 hn1 S
 subst hv1
 refine Vu S (Iq rfl) rfl rfl fun a S=>Va S rfl rfl fun a S=>Dl (wp_ret ?_)
 obtain rfl:=Option.some.inj h
 exact Fw S results109 rfl rfl
set_option maxRecDepth 20000 in
theorem AR (w : World) (Cs : Int) (Br : Int) (Bq : Int) (r : Int × Int) (h : Wn Cs Br Bq = some r) :
    Calls prog 94 [.int .u64 Cs,.int .u64 Br,.int .u64 Bq].toArray w (Ret w [] fun _ v _=>v = .tuple #[.int .u64 r.1,.int .u64 r.2]):=by
 refine Fe func94 rfl ntmps94 rfl fun a S=>?_
 unfold Wn at h
 replace S:=S.k3 0 1 2 rfl
 refine Fr (Vk S rfl rfl fun a S=>Vk S rfl rfl fun a S=>Dl (Fs (Fr (Vm S rfl rfl fun a S=>Vq S Mc rfl rfl rfl ?_))));clear S;intro a S
 refine Dl (Fc h (S.tm rfl) (fun hb1 h=>?_) (fun hb1 h=>?_))
 ·cases h
 ·refine wp_skip (Tn (Fs (Fr (Vm S rfl rfl fun a S=>Vm S rfl rfl fun a S=>Vb S Ss rfl rfl rfl fun a S=>Dl (Fc h (S.tm rfl) (fun hb2 h=>?_) (fun hb2 h=>?_))))))
  ·cases h
  ·refine wp_skip (Tn (Fs (Fr (Vm S rfl rfl fun a S=>Vq S Mc rfl rfl rfl fun a S=>Dl (Fc h (S.tm rfl) (fun hb3 h=>?_) (fun hb3 h=>?_))))))
   ·refine Fs (Gq [] ([]) Tryz.mixed S rfl (by kernel_rfl) ?_);clear S;intro w1 hk1 hsel S
    refine Jn [0,1,2,3,4,5,6,7] hsel (by kernel_rfl) rfl ?_
    clear hsel
    refine Fk S rfl (Rm (S.tm rfl)) rfl fun a S=>Fk S rfl (Rm (S.tm rfl)) rfl ?_;clear S;intro a S
    obtain ⟨hc1,h⟩:=Hu h
    refine Fk S rfl (BU (S.tm rfl) (S.tm rfl) (Wk hc1)) rfl fun a S=>Fk S rfl (Rm (S.tm rfl)) rfl fun a S=>Fk S rfl (Rm (S.tm rfl)) rfl ?_;clear S;intro a S
    obtain ⟨hc2,h⟩:=Hu h
    refine Fk S rfl (rn_remk (S.tm rfl) (S.tm rfl) (Wk hc2)) rfl fun a S=>Fk S rfl (Ra (S.tm rfl)) rfl fun a S=>Fk S rfl (Ra (S.tm rfl)) rfl fun a S=>Hx ?_
    replace S:=S.k2 6 7 rfl
    refine Tn (wp_ret (Ek ?_))
    obtain rfl:=Option.some.inj h
    exact Kx S results94 rfl rfl rfl
   ·refine wp_skip (Tn (Fr (Vm S rfl rfl ?_)));clear S;intro a S
    obtain ⟨r1,hr1,h⟩:=Gf h
    refine Em S (fun _=>Eg (vs:=[.int .u64 Bq]) ⟨(S.tm rfl),trivial⟩ call109) (Uc _ Bq _ hr1) rfl ?_;clear S;intro v1 a w2 hv1 hk2 hn1 S
    subst hv1
    refine Vu S (Qj underlying3 underlying110) rfl rfl fun a S=>Va S rfl rfl fun a S=>Ld ?_
    replace S:=S.k4 0 1 2 8 rfl
    refine Tn (Fr (Vm S rfl rfl fun a S=>Vm S rfl rfl ?_));clear S;intro a S
    obtain ⟨hc3,h⟩:=Hu h
    refine lv S (EK (S.tm rfl) (S.tm rfl) (of_decide_eq_true hc3)) rfl fun a S=>Va S rfl rfl fun a S=>Dz (Vm S rfl rfl fun a S=>lv S (Qt (S.tm rfl) rfl (by decide)) rfl fun a S=>Va S rfl rfl fun a S=>Dl ?_)
    refine Fr (Vm S rfl rfl fun a S=>Vq S Ws rfl rfl rfl fun a S=>Va S rfl rfl fun a S=>Dz (Vm S rfl rfl fun a S=>Vm S rfl rfl ?_));clear S;intro a S
    obtain ⟨hc4,h⟩:=Hu h
    refine lv S (EK (S.tm rfl) (S.tm rfl) (of_decide_eq_true hc4)) rfl fun a S=>Vm S rfl rfl fun a S=>Vm S rfl rfl fun a S=>Vu S (Tm rfl) rfl rfl ?_;clear S;intro a S
    obtain ⟨hc5,h⟩:=Hu h
    refine lv S (Qt (S.tm rfl) (S.tm rfl) (of_decide_eq_true hc5)) rfl fun a S=>Vb S rn_or_ rfl rfl rfl fun a S=>Va S rfl rfl fun a S=>Ld ?_
    replace S:=S.k6 1 2 8 9 10 11 rfl
    refine Tn (Fr (Vm S rfl rfl fun a S=>Vm S rfl rfl ?_));clear S;intro a S
    obtain ⟨hc6,h⟩:=Hu h
    refine lv S (EK (S.tm rfl) (S.tm rfl) (of_decide_eq_true hc6)) rfl fun a S=>Va S rfl rfl fun a S=>Dz (Vm S rfl rfl fun a S=>lv S (Qt (S.tm rfl) rfl (by decide)) rfl fun a S=>Va S rfl rfl fun a S=>Dl ?_)
    refine Fr (Vm S rfl rfl fun a S=>Vq S Ws rfl rfl rfl fun a S=>Va S rfl rfl fun a S=>Ld ?_)
    replace S:=S.k7 2 8 9 10 11 13 14 rfl
    refine Tn (Fr (Vm S rfl rfl fun a S=>Vm S rfl rfl ?_));clear S;intro a S
    obtain ⟨hc7,h⟩:=Hu h
    refine lv S (BU (S.tm rfl) (S.tm rfl) (Wk hc7)) rfl fun a S=>Va S rfl rfl fun a S=>Dl (Fs (Fg ?_))
    iterate 3 (refine Vm S rfl rfl ?_;clear S;intro a S)
    refine Vb S Lx rfl rfl rfl fun a S=>Vb S Tm rfl rfl rfl fun a S=>Va S rfl rfl fun a S=>Ld ?_
    replace S:=S.k9 2 8 9 10 11 13 14 15 16 rfl
    refine Tn (Fs ?_)
    obtain ⟨j1,hj1,h⟩:=Ge h
    refine Ft (fun a w'=>∃ x1 : Int,j1 x1 = some r ∧ Sx w [] nov [] [(2,.int .u64 (Fd .u64 Bq (IntKind.wrap .u64 r1))),(8,.int .u64 (IntKind.wrap .u64 r1)),(9,.int .u64 (Fx .u64 (Fd .u64 Bq (IntKind.wrap .u64 r1)) 32)),(10,.int .u64 (Kn .u64 (Fd .u64 Bq (IntKind.wrap .u64 r1)) 4294967295)),(11,.int .u64 (Oo .u64 (Fd .u64 Cs (IntKind.wrap .u64 r1)) (Fx .u64 Br (IntKind.wrap .u64 (64 - (IntKind.wrap .u64 r1)))))),(13,.int .u64 (Fx .u64 (Fd .u64 Br (IntKind.wrap .u64 r1)) 32)),(14,.int .u64 (Kn .u64 (Fd .u64 Br (IntKind.wrap .u64 r1)) 4294967295)),(15,.int .u64 x1)] 135 a w') ?_ ?_
    ·refine wp_block (Hh (fun (m1 : Nat) a w'=>∃ x1 : Int,∃ x2 : Int,Ml Br r1 Bq j1 m1 x1 x2 = some r ∧ Sx w [] nov [] [(2,.int .u64 (Fd .u64 Bq (IntKind.wrap .u64 r1))),(8,.int .u64 (IntKind.wrap .u64 r1)),(9,.int .u64 (Fx .u64 (Fd .u64 Bq (IntKind.wrap .u64 r1)) 32)),(10,.int .u64 (Kn .u64 (Fd .u64 Bq (IntKind.wrap .u64 r1)) 4294967295)),(11,.int .u64 (Oo .u64 (Fd .u64 Cs (IntKind.wrap .u64 r1)) (Fx .u64 Br (IntKind.wrap .u64 (64 - (IntKind.wrap .u64 r1)))))),(13,.int .u64 (Fx .u64 (Fd .u64 Br (IntKind.wrap .u64 r1)) 32)),(14,.int .u64 (Kn .u64 (Fd .u64 Br (IntKind.wrap .u64 r1)) 4294967295)),(15,.int .u64 x1),(16,.int .u64 x2)] 135 a w') id (((IntKind.wrap .u64 (Int.tdiv (Oo .u64 (Fd .u64 Cs (IntKind.wrap .u64 r1)) (Fx .u64 Br (IntKind.wrap .u64 (64 - (IntKind.wrap .u64 r1))))) (Fx .u64 (Fd .u64 Bq (IntKind.wrap .u64 r1)) 32))) - 4294967296).toNat + 2) ⟨IntKind.wrap .u64 (Int.tdiv (Oo .u64 (Fd .u64 Cs (IntKind.wrap .u64 r1)) (Fx .u64 Br (IntKind.wrap .u64 (64 - (IntKind.wrap .u64 r1))))) (Fx .u64 (Fd .u64 Bq (IntKind.wrap .u64 r1)) 32)),IntKind.wrap .u64 ((Oo .u64 (Fd .u64 Cs (IntKind.wrap .u64 r1)) (Fx .u64 Br (IntKind.wrap .u64 (64 - (IntKind.wrap .u64 r1))))) - (IntKind.wrap .u64 ((IntKind.wrap .u64 (Int.tdiv (Oo .u64 (Fd .u64 Cs (IntKind.wrap .u64 r1)) (Fx .u64 Br (IntKind.wrap .u64 (64 - (IntKind.wrap .u64 r1))))) (Fx .u64 (Fd .u64 Bq (IntKind.wrap .u64 r1)) 32))) * (Fx .u64 (Fd .u64 Bq (IntKind.wrap .u64 r1)) 32)))),h,S.nf [] rfl (subR rfl)⟩ ?_)
     clear S h;rintro m1 a w3 ⟨x1,x2,h,S⟩
     cases m1 with
     | zero=>rw [Ml.eq_1] at h;cases h
     | succ m1 =>
      rw [Ml.eq_2] at h
      refine Fs (Fr (Vm S rfl rfl fun a S=>Vq S Ph rfl rfl rfl fun a S=>Vm S rfl rfl fun a S=>Jy 9 (fun a w'=>Keep [] w3 w' ∧ Sx w [] nov [] [(2,.int .u64 (Fd .u64 Bq (IntKind.wrap .u64 r1))),(8,.int .u64 (IntKind.wrap .u64 r1)),(9,.int .u64 (Fx .u64 (Fd .u64 Bq (IntKind.wrap .u64 r1)) 32)),(10,.int .u64 (Kn .u64 (Fd .u64 Bq (IntKind.wrap .u64 r1)) 4294967295)),(11,.int .u64 (Oo .u64 (Fd .u64 Cs (IntKind.wrap .u64 r1)) (Fx .u64 Br (IntKind.wrap .u64 (64 - (IntKind.wrap .u64 r1)))))),(13,.int .u64 (Fx .u64 (Fd .u64 Br (IntKind.wrap .u64 r1)) 32)),(14,.int .u64 (Kn .u64 (Fd .u64 Br (IntKind.wrap .u64 r1)) 4294967295)),(15,.int .u64 x1),(16,.int .u64 x2),(78,bV ((decide (4294967296 ≤ x1)) || (decide ((IntKind.wrap .u64 ((IntKind.wrap .u64 (4294967296 * x2)) + (Fx .u64 (Fd .u64 Br (IntKind.wrap .u64 r1)) 32))) < (IntKind.wrap .u64 (x1 * (Kn .u64 (Fd .u64 Bq (IntKind.wrap .u64 r1)) 4294967295)))))))] 135 a w') ?_ ?_))
      ·rcases Bool.eq_false_or_eq_true (decide (4294967296 ≤ x1)) with hb4 | hb4
       ·iterate 8 (refine Iy S rfl rfl rfl (Nu hb4) rfl ?_ rfl;clear S;intro a S)
        exact lv S (Od (decide ((IntKind.wrap .u64 ((IntKind.wrap .u64 (4294967296 * x2)) + (Fx .u64 (Fd .u64 Br (IntKind.wrap .u64 r1)) 32))) < (IntKind.wrap .u64 (x1 * (Kn .u64 (Fd .u64 Bq (IntKind.wrap .u64 r1)) 4294967295))))) hb4 (S.tm rfl) rfl) rfl fun a S=>Dl (⟨Keep.refl _ _,S.nf [] rfl (subR rfl)⟩)
       ·refine Er S rfl rfl rfl hb4 (Vm S rfl rfl fun a S=>Er S rfl rfl rfl hb4 (Vm S rfl rfl fun a S=>Er S rfl rfl rfl hb4 (Vb S Lx rfl rfl rfl fun a S=>Er S rfl rfl rfl hb4 (Vm S rfl rfl fun a S=>Er S rfl rfl rfl hb4 (Vu S (Lx rfl) rfl rfl fun a S=>Er S rfl rfl rfl hb4 ?_)))))
        exact Vm S rfl rfl fun a S=>Er S rfl rfl rfl hb4 (Vb S Qs rfl rfl rfl fun a S=>Er S rfl rfl rfl hb4 (Vb S Kh rfl rfl rfl fun a S=>lv S (Oe hb4 (S.tm rfl) (S.tm rfl)) rfl fun a S=>Dl (⟨Keep.refl _ _,S.nf [] rfl (subR rfl)⟩)))
      clear S;rintro a w5 ⟨hk3,S⟩
      refine Dl (Fc h (S.tm rfl) (fun hb5 h=>?_) (fun hb5 h=>?_))
      ·refine wp_skip (Tn (wp_block (Fr (Vm S rfl rfl fun a S=>Vq S Tm rfl rfl rfl fun a S=>Va S rfl rfl fun a S=>Dl (Fs ?_)))))
       refine Fg (Vm S rfl rfl fun a S=>Vm S rfl rfl fun a S=>Vb S Qs rfl rfl rfl fun a S=>Va S rfl rfl fun a S=>Ld ?_)
       replace S:=S.k9 2 8 9 10 11 13 14 15 16 rfl
       refine Tn (Fr (Vm S rfl rfl fun a S=>Vq S Ph rfl rfl rfl fun a S=>Dl (Fc h (S.tm rfl) (fun hb6 h=>?_) (fun hb6 h=>?_))))
       ·exact wp_exit (FB rfl (Fj (He (Tn (⟨IntKind.wrap .u64 (x1 - 1),h,S.nf [] rfl (subR rfl)⟩)))))
       ·exact wp_skip (Jc (Tn (⟨m1,⟨IntKind.wrap .u64 (x1 - 1),IntKind.wrap .u64 (x2 + (Fx .u64 (Fd .u64 Bq (IntKind.wrap .u64 r1)) 32)),h,S.nf [] rfl ⟨rfl,rfl,rfl,rfl,rfl,rfl,rfl,rfl,rfl,trivial⟩⟩,Nat.lt_succ_self _⟩)))
      ·exact wp_exit (Fj (Fj (He (Tn (⟨x1,h,S.nf [] rfl (subR rfl)⟩)))))
    clear S h;rintro a w4 ⟨x1,h,S⟩;rw [hj1] at h;clear hj1 j1
    refine Tn (Fr (Vm S rfl rfl fun a S=>Vq S Lx rfl rfl rfl fun a S=>Vm S rfl rfl fun a S=>Vb S Qs rfl rfl rfl fun a S=>Vm S rfl rfl fun a S=>Vm S rfl rfl fun a S=>Vb S Lx rfl rfl rfl fun a S=>Vb S Tm rfl rfl rfl ?_));clear S;intro a S
    refine Va S rfl rfl fun a S=>Ld ?_
    replace S:=S.k7 2 8 9 10 14 15 17 rfl
    refine Tn (Fr (Vm S rfl rfl fun a S=>Vm S rfl rfl ?_));clear S;intro a S
    obtain ⟨hc8,h⟩:=Hu h
    refine lv S (BU (S.tm rfl) (S.tm rfl) (Wk hc8)) rfl fun a S=>Va S rfl rfl fun a S=>Dl (Fs (Fg ?_))
    iterate 3 (refine Vm S rfl rfl ?_;clear S;intro a S)
    refine Vb S Lx rfl rfl rfl fun a S=>Vb S Tm rfl rfl rfl fun a S=>Va S rfl rfl fun a S=>Ld ?_
    replace S:=S.k9 2 8 9 10 14 15 16 17 18 rfl
    refine Tn (Fs ?_)
    obtain ⟨j2,hj2,h⟩:=Ge h
    refine Ft (fun a w'=>∃ x4 : Int,j2 x4 = some r ∧ Sx w [] nov [] [(2,.int .u64 (Fd .u64 Bq (IntKind.wrap .u64 r1))),(8,.int .u64 (IntKind.wrap .u64 r1)),(14,.int .u64 (Kn .u64 (Fd .u64 Br (IntKind.wrap .u64 r1)) 4294967295)),(15,.int .u64 x1),(17,.int .u64 (IntKind.wrap .u64 ((IntKind.wrap .u64 ((IntKind.wrap .u64 ((Oo .u64 (Fd .u64 Cs (IntKind.wrap .u64 r1)) (Fx .u64 Br (IntKind.wrap .u64 (64 - (IntKind.wrap .u64 r1))))) * 4294967296)) + (Fx .u64 (Fd .u64 Br (IntKind.wrap .u64 r1)) 32))) - (IntKind.wrap .u64 (x1 * (Fd .u64 Bq (IntKind.wrap .u64 r1))))))),(18,.int .u64 x4)] 135 a w') ?_ ?_
    ·refine wp_block (Hh (fun (m2 : Nat) a w'=>∃ x3 : Int,∃ x4 : Int,Mm Br r1 Bq j2 m2 x3 x4 = some r ∧ Sx w [] nov [] [(2,.int .u64 (Fd .u64 Bq (IntKind.wrap .u64 r1))),(8,.int .u64 (IntKind.wrap .u64 r1)),(9,.int .u64 (Fx .u64 (Fd .u64 Bq (IntKind.wrap .u64 r1)) 32)),(10,.int .u64 (Kn .u64 (Fd .u64 Bq (IntKind.wrap .u64 r1)) 4294967295)),(14,.int .u64 (Kn .u64 (Fd .u64 Br (IntKind.wrap .u64 r1)) 4294967295)),(15,.int .u64 x1),(16,.int .u64 x3),(17,.int .u64 (IntKind.wrap .u64 ((IntKind.wrap .u64 ((IntKind.wrap .u64 ((Oo .u64 (Fd .u64 Cs (IntKind.wrap .u64 r1)) (Fx .u64 Br (IntKind.wrap .u64 (64 - (IntKind.wrap .u64 r1))))) * 4294967296)) + (Fx .u64 (Fd .u64 Br (IntKind.wrap .u64 r1)) 32))) - (IntKind.wrap .u64 (x1 * (Fd .u64 Bq (IntKind.wrap .u64 r1))))))),(18,.int .u64 x4)] 135 a w') id (((IntKind.wrap .u64 (Int.tdiv (IntKind.wrap .u64 ((IntKind.wrap .u64 ((IntKind.wrap .u64 ((Oo .u64 (Fd .u64 Cs (IntKind.wrap .u64 r1)) (Fx .u64 Br (IntKind.wrap .u64 (64 - (IntKind.wrap .u64 r1))))) * 4294967296)) + (Fx .u64 (Fd .u64 Br (IntKind.wrap .u64 r1)) 32))) - (IntKind.wrap .u64 (x1 * (Fd .u64 Bq (IntKind.wrap .u64 r1)))))) (Fx .u64 (Fd .u64 Bq (IntKind.wrap .u64 r1)) 32))) - 4294967296).toNat + 2) ⟨IntKind.wrap .u64 ((IntKind.wrap .u64 ((IntKind.wrap .u64 ((IntKind.wrap .u64 ((Oo .u64 (Fd .u64 Cs (IntKind.wrap .u64 r1)) (Fx .u64 Br (IntKind.wrap .u64 (64 - (IntKind.wrap .u64 r1))))) * 4294967296)) + (Fx .u64 (Fd .u64 Br (IntKind.wrap .u64 r1)) 32))) - (IntKind.wrap .u64 (x1 * (Fd .u64 Bq (IntKind.wrap .u64 r1)))))) - (IntKind.wrap .u64 ((IntKind.wrap .u64 (Int.tdiv (IntKind.wrap .u64 ((IntKind.wrap .u64 ((IntKind.wrap .u64 ((Oo .u64 (Fd .u64 Cs (IntKind.wrap .u64 r1)) (Fx .u64 Br (IntKind.wrap .u64 (64 - (IntKind.wrap .u64 r1))))) * 4294967296)) + (Fx .u64 (Fd .u64 Br (IntKind.wrap .u64 r1)) 32))) - (IntKind.wrap .u64 (x1 * (Fd .u64 Bq (IntKind.wrap .u64 r1)))))) (Fx .u64 (Fd .u64 Bq (IntKind.wrap .u64 r1)) 32))) * (Fx .u64 (Fd .u64 Bq (IntKind.wrap .u64 r1)) 32)))),IntKind.wrap .u64 (Int.tdiv (IntKind.wrap .u64 ((IntKind.wrap .u64 ((IntKind.wrap .u64 ((Oo .u64 (Fd .u64 Cs (IntKind.wrap .u64 r1)) (Fx .u64 Br (IntKind.wrap .u64 (64 - (IntKind.wrap .u64 r1))))) * 4294967296)) + (Fx .u64 (Fd .u64 Br (IntKind.wrap .u64 r1)) 32))) - (IntKind.wrap .u64 (x1 * (Fd .u64 Bq (IntKind.wrap .u64 r1)))))) (Fx .u64 (Fd .u64 Bq (IntKind.wrap .u64 r1)) 32)),h,S.nf [] rfl (subR rfl)⟩ ?_)
     clear S h;rintro m2 a w6 ⟨x3,x4,h,S⟩
     cases m2 with
     | zero=>rw [Mm.eq_1] at h;cases h
     | succ m2 =>
      rw [Mm.eq_2] at h
      refine Fs (Fr (Vm S rfl rfl fun a S=>Vq S Ph rfl rfl rfl fun a S=>Vm S rfl rfl fun a S=>Jy 9 (fun a w'=>Keep [] w6 w' ∧ Sx w [] nov [] [(2,.int .u64 (Fd .u64 Bq (IntKind.wrap .u64 r1))),(8,.int .u64 (IntKind.wrap .u64 r1)),(9,.int .u64 (Fx .u64 (Fd .u64 Bq (IntKind.wrap .u64 r1)) 32)),(10,.int .u64 (Kn .u64 (Fd .u64 Bq (IntKind.wrap .u64 r1)) 4294967295)),(14,.int .u64 (Kn .u64 (Fd .u64 Br (IntKind.wrap .u64 r1)) 4294967295)),(15,.int .u64 x1),(16,.int .u64 x3),(17,.int .u64 (IntKind.wrap .u64 ((IntKind.wrap .u64 ((IntKind.wrap .u64 ((Oo .u64 (Fd .u64 Cs (IntKind.wrap .u64 r1)) (Fx .u64 Br (IntKind.wrap .u64 (64 - (IntKind.wrap .u64 r1))))) * 4294967296)) + (Fx .u64 (Fd .u64 Br (IntKind.wrap .u64 r1)) 32))) - (IntKind.wrap .u64 (x1 * (Fd .u64 Bq (IntKind.wrap .u64 r1))))))),(18,.int .u64 x4),(113,bV ((decide (4294967296 ≤ x4)) || (decide ((IntKind.wrap .u64 ((IntKind.wrap .u64 (4294967296 * x3)) + (Kn .u64 (Fd .u64 Br (IntKind.wrap .u64 r1)) 4294967295))) < (IntKind.wrap .u64 (x4 * (Kn .u64 (Fd .u64 Bq (IntKind.wrap .u64 r1)) 4294967295)))))))] 135 a w') ?_ ?_))
      ·rcases Bool.eq_false_or_eq_true (decide (4294967296 ≤ x4)) with hb7 | hb7
       ·iterate 8 (refine Iy S rfl rfl rfl (Nu hb7) rfl ?_ rfl;clear S;intro a S)
        exact lv S (Od (decide ((IntKind.wrap .u64 ((IntKind.wrap .u64 (4294967296 * x3)) + (Kn .u64 (Fd .u64 Br (IntKind.wrap .u64 r1)) 4294967295))) < (IntKind.wrap .u64 (x4 * (Kn .u64 (Fd .u64 Bq (IntKind.wrap .u64 r1)) 4294967295))))) hb7 (S.tm rfl) rfl) rfl fun a S=>Dl (⟨Keep.refl _ _,S.nf [] rfl (subR rfl)⟩)
       ·refine Er S rfl rfl rfl hb7 (Vm S rfl rfl fun a S=>Er S rfl rfl rfl hb7 (Vm S rfl rfl fun a S=>Er S rfl rfl rfl hb7 (Vb S Lx rfl rfl rfl fun a S=>Er S rfl rfl rfl hb7 (Vm S rfl rfl fun a S=>Er S rfl rfl rfl hb7 (Vu S (Lx rfl) rfl rfl fun a S=>Er S rfl rfl rfl hb7 ?_)))))
        exact Vm S rfl rfl fun a S=>Er S rfl rfl rfl hb7 (Vb S Qs rfl rfl rfl fun a S=>Er S rfl rfl rfl hb7 (Vb S Kh rfl rfl rfl fun a S=>lv S (Oe hb7 (S.tm rfl) (S.tm rfl)) rfl fun a S=>Dl (⟨Keep.refl _ _,S.nf [] rfl (subR rfl)⟩)))
      clear S;rintro a w8 ⟨hk4,S⟩
      refine Dl (Fc h (S.tm rfl) (fun hb8 h=>?_) (fun hb8 h=>?_))
      ·refine wp_skip (Tn (wp_block (Fr (Vm S rfl rfl fun a S=>Vq S Tm rfl rfl rfl fun a S=>Va S rfl rfl fun a S=>Dl (Fs ?_)))))
       refine Fg (Vm S rfl rfl fun a S=>Vm S rfl rfl fun a S=>Vb S Qs rfl rfl rfl fun a S=>Va S rfl rfl fun a S=>Ld ?_)
       replace S:=S.k9 2 8 9 10 14 15 16 17 18 rfl
       refine Tn (Fr (Vm S rfl rfl fun a S=>Vq S Ph rfl rfl rfl fun a S=>Dl (Fc h (S.tm rfl) (fun hb9 h=>?_) (fun hb9 h=>?_))))
       ·exact wp_exit (FB rfl (Fj (He (Tn (⟨IntKind.wrap .u64 (x4 - 1),h,S.nf [] rfl (subR rfl)⟩)))))
       ·exact wp_skip (Jc (Tn (⟨m2,⟨IntKind.wrap .u64 (x3 + (Fx .u64 (Fd .u64 Bq (IntKind.wrap .u64 r1)) 32)),IntKind.wrap .u64 (x4 - 1),h,S.nf [] rfl ⟨rfl,rfl,rfl,rfl,rfl,rfl,rfl,rfl,rfl,trivial⟩⟩,Nat.lt_succ_self _⟩)))
      ·exact wp_exit (Fj (Fj (He (Tn (⟨x4,h,S.nf [] rfl (subR rfl)⟩)))))
    clear S h;rintro a w7 ⟨x4,h,S⟩;rw [hj2] at h;clear hj2 j2
    refine Tn (Fr (Vm S rfl rfl fun a S=>Vq S Lx rfl rfl rfl fun a S=>Vm S rfl rfl fun a S=>Vb S Qs rfl rfl rfl fun a S=>Vm S rfl rfl fun a S=>Vq S Lx rfl rfl rfl fun a S=>Vm S rfl rfl fun a S=>Vb S Qs rfl rfl rfl ?_));clear S;intro a S
    refine Vm S rfl rfl fun a S=>Vm S rfl rfl fun a S=>Vb S Lx rfl rfl rfl fun a S=>Vb S Tm rfl rfl rfl fun a S=>Vm S rfl rfl ?_;clear S;intro a S
    obtain ⟨hc9,h⟩:=Hu h
    refine lv S (Qt (S.tm rfl) (S.tm rfl) (of_decide_eq_true hc9)) rfl fun a S=>Va S rfl rfl fun a S=>Va S rfl rfl fun a S=>Ld ?_
    replace S:=S.k2 6 7 rfl
    refine Tn (wp_ret ?_)
    obtain rfl:=Option.some.inj h
    exact Kx S results94 rfl rfl rfl
theorem Yl (w : World) (By : Int) (Cd : Int) (r : Int) (h : Sv By Cd = some r) :
    Calls prog 72 [iV By,iV Cd].toArray w (Ret w [] fun _ v _=>v = iV r):=by
 refine Fe func72 rfl ntmps72 rfl fun a S=>?_
 unfold Sv at h
 replace S:=S.k2 0 1 rfl
 refine Fr (Vk S rfl rfl fun a S=>Dz (Vm S rfl rfl fun a S=>Vu S (Qj underlying3 underlying147) rfl rfl fun a S=>Vm S rfl rfl fun a S=>Vu S (Qj underlying3 underlying147) rfl rfl ?_));clear S;intro a S
 refine Va S rfl rfl fun a S=>Va S rfl rfl fun a S=>Dz (Vm S rfl rfl fun a S=>Vm S rfl rfl fun a S=>Vb S Lx rfl rfl rfl fun a S=>Vm S rfl rfl fun a S=>Vb S Lx rfl rfl rfl ?_);clear S;intro a S
 refine Em S (fun _=>Eg (vs:=[.int .u64 (IntKind.wrap .u64 ((IntKind.wrap .u64 ((IntKind.wrap .u64 By) * (IntKind.wrap .u64 By))) * (IntKind.wrap .u64 By))),.int .u64 1000]) ⟨(S.tm rfl),rfl,trivial⟩ call93) (AQ _ (IntKind.wrap .u64 ((IntKind.wrap .u64 ((IntKind.wrap .u64 By) * (IntKind.wrap .u64 By))) * (IntKind.wrap .u64 By))) 1000 _ rfl) rfl ?_;clear S;intro v1 a w1 hv1 hk1 hn1 S
 subst hv1
 refine Vm S rfl rfl fun a S=>Vq S Gv rfl rfl rfl fun a S=>Vq S Gv rfl rfl rfl fun a S=>Va S rfl rfl fun a S=>Va S rfl rfl fun a S=>Ld ?_
 replace S:=S.k3 6 7 8 rfl
 refine Tn (Fr (Vm S rfl rfl fun a S=>Vm S rfl rfl fun a S=>Vb S Lx rfl rfl rfl fun a S=>Vm S rfl rfl fun a S=>Vb S Lx rfl rfl rfl fun a S=>Va S rfl rfl fun a S=>Dl ?_))
 refine Fs (Fr (Vm S rfl rfl fun a S=>Vm S rfl rfl fun a S=>Vb S Ph rfl rfl rfl fun a S=>Dl (Fc h (S.tm rfl) (fun hb1 h=>?_) (fun hb1 h=>?_))))
 ·refine Fr (Vk S rfl rfl fun a S=>Dl (wp_ret (Ek ?_)))
  obtain rfl:=Option.some.inj h
  exact Fw S results72 rfl rfl
 ·refine wp_skip (Tn (Fs (Fg ?_)))
  iterate 3 (refine Vm S rfl rfl ?_;clear S;intro a S)
  obtain ⟨r1,hr1,h⟩:=Gf h
  refine Em S (fun _=>Eg (vs:=[.int .u64 ((Oj (IntKind.wrap .u64 ((IntKind.wrap .u64 ((IntKind.wrap .u64 By) * (IntKind.wrap .u64 By))) * (IntKind.wrap .u64 By))) 1000).1),.int .u64 ((Oj (IntKind.wrap .u64 ((IntKind.wrap .u64 ((IntKind.wrap .u64 By) * (IntKind.wrap .u64 By))) * (IntKind.wrap .u64 By))) 1000).2),.int .u64 (IntKind.wrap .u64 ((IntKind.wrap .u64 ((IntKind.wrap .u64 Cd) * (IntKind.wrap .u64 Cd))) * (IntKind.wrap .u64 Cd)))]) ⟨(S.tm rfl),(S.tm rfl),(S.tm rfl),trivial⟩ call94) (AR _ ((Oj (IntKind.wrap .u64 ((IntKind.wrap .u64 ((IntKind.wrap .u64 By) * (IntKind.wrap .u64 By))) * (IntKind.wrap .u64 By))) 1000).1) ((Oj (IntKind.wrap .u64 ((IntKind.wrap .u64 ((IntKind.wrap .u64 By) * (IntKind.wrap .u64 By))) * (IntKind.wrap .u64 By))) 1000).2) (IntKind.wrap .u64 ((IntKind.wrap .u64 ((IntKind.wrap .u64 Cd) * (IntKind.wrap .u64 Cd))) * (IntKind.wrap .u64 Cd))) _ hr1) rfl ?_;clear S;intro v2 a w2 hv2 hk2 hn2 S
  subst hv2
  refine Vm S rfl rfl fun a S=>Vq S Gv rfl rfl rfl fun a S=>Vq S Gv rfl rfl rfl fun a S=>Va S rfl rfl fun a S=>Va S rfl rfl fun a S=>Ld ?_
  replace S:=S.k1 9 rfl
  refine Tn (Fr (Vm S rfl rfl fun a S=>Vq S BY rfl rfl rfl fun a S=>Vu S (Qj underlying147 underlying3) rfl rfl fun a S=>Va S rfl rfl fun a S=>Dl (wp_ret ?_)))
  obtain rfl:=Option.some.inj h
  exact Fw S results72 rfl rfl
theorem Ym (w : World) (Ab : Value) (Al : List Ns) (Ao : Slc (view w []) 2 Ab (Al.map Ns.enc)) (Cq : ByteArray) (Cd : Int) (r : Int × Int) (h : Sw Al Cq Cd = some r) :
    Calls prog 44 [Ab,sV Cq,iV Cd].toArray w (Ret w [] fun _ v _=>v = .tuple #[iV r.1,iV r.2]):=by
 refine Fe func44 rfl ntmps44 rfl fun a S=>?_
 unfold Sw at h
 replace S:=S.k3 0 1 2 rfl
 refine Fr (Vk S rfl rfl fun a S=>Vk S rfl rfl fun a S=>Dl (Fs (Fr (Vm S rfl rfl ?_))));clear S;intro a S
 obtain ⟨r1,hr1,h⟩:=Gf h
 refine Em S (fun _=>Eg (vs:=[Ab]) ⟨(S.tm rfl),trivial⟩ call69) (Wb _ Ab Al (Ao.mono (S.le_arg Fh)) _ hr1) rfl ?_;clear S;intro v1 a w1 hv1 hk1 hn1 S
 subst hv1
 refine Va S rfl rfl fun a S=>Dz (Vm S rfl rfl fun a S=>Vq S Mq rfl rfl rfl fun a S=>Dl (Fc h (S.tm rfl) (fun hb1 h=>?_) (fun hb1 h=>?_)))
 ·refine Fr (Vm S rfl rfl fun a S=>Vk S rfl rfl fun a S=>Va S rfl rfl fun a S=>Dl (wp_ret (Ek ?_)))
  obtain rfl:=Option.some.inj h
  exact Kx S results44 rfl rfl rfl
 ·refine wp_skip (Tn (Fr (Vm S rfl rfl fun a S=>Vm S rfl rfl fun a S=>Em S (fun _=>Eg (vs:=[Ab,sV Cq]) ⟨(S.tm rfl),(S.tm rfl),trivial⟩ call70) (Yk _ Ab Al (Ao.mono (S.le_arg Fh)) Cq _ rfl) rfl ?_)));clear S;intro v2 a w2 hv2 hk2 hn2 S
  subst hv2
  refine Va S rfl rfl fun a S=>Dl (Fs (Fr (Vm S rfl rfl fun a S=>Vq S Mc rfl rfl rfl fun a S=>Ld ?_)))
  replace S:=S.k3 2 9 19 rfl
  refine Tn (Fc h (S.tm rfl) (fun hb2 h=>?_) (fun hb2 h=>?_))
  ·refine Fr (Vk S rfl rfl fun a S=>Vk S rfl rfl fun a S=>Dl (wp_ret (Ek ?_)))
   obtain rfl:=Option.some.inj h
   exact Kx S results44 rfl rfl rfl
  ·refine wp_skip (Tn (Fs (Fr (Vm S rfl rfl fun a S=>Em S (fun _=>Eg (vs:=[iV Cd]) ⟨(S.tm rfl),trivial⟩ call71) (Rq _ Cd _ rfl) rfl ?_))));clear S;intro v3 a w3 hv3 hk3 hn3 S
   subst hv3
   refine Vu S Jd rfl rfl fun a S=>Dl (Fc h (S.tm rfl) (fun hb3 h=>?_) (fun hb3 h=>?_))
   ·refine Fr (Vk S rfl rfl fun a S=>Vk S rfl rfl fun a S=>Dl (wp_ret (Ek ?_)))
    obtain rfl:=Option.some.inj h
    exact Kx S results44 rfl rfl rfl
   ·refine wp_skip (Tn (Fr (Vm S rfl rfl fun a S=>Vm S rfl rfl ?_)));clear S;intro a S
    obtain ⟨r2,hr2,h⟩:=Gf h
    refine Em S (fun _=>Eg (vs:=[iV (Oy Al Cq),iV Cd]) ⟨(S.tm rfl),(S.tm rfl),trivial⟩ call72) (Yl _ (Oy Al Cq) Cd _ hr2) rfl ?_;clear S;intro v4 a w4 hv4 hk4 hn4 S
    subst hv4
    refine Va S rfl rfl fun a S=>Vk S rfl rfl fun a S=>Dl (wp_ret ?_)
    obtain rfl:=Option.some.inj h
    exact Kx S results44 rfl rfl rfl
set_option maxRecDepth 20000 in
theorem Vd (w : World) (Ab : Value) (Al : List Qd) (Db : List Pn) (Ao : Slc (view w []) 5 Ab (Db.map Pn.enc)) (Ct : Iz (Sq (view w [])) Al Db) (r : Int) (h : Qz Al = some r) :
    Calls prog 73 [Ab].toArray w (Ret w [] fun _ v _=>v = iV r):=by
 refine Fe func73 rfl ntmps73 rfl fun a S=>?_
 unfold Qz at h
 replace S:=S.k1 0 rfl
 refine Fr (Vk S rfl rfl fun a S=>Dl (Fs (Fr (Vm S rfl rfl fun a S=>lv S (Fy Yb (S.tm rfl) (Tb Ao Ct)) rfl fun a S=>Vq S Kh rfl rfl rfl ?_))));clear S;intro a S
 refine Dl (Fc h (S.tm rfl) (fun hb1 h=>?_) (fun hb1 h=>?_))
 ·refine Fr (Vk S rfl rfl fun a S=>Dl (wp_ret (Ek ?_)))
  obtain rfl:=Option.some.inj h
  exact Fw S results73 rfl rfl
 ·refine wp_skip (Tn (Fs (Fr (Vm S rfl rfl fun a S=>lv S (Fy Yb (S.tm rfl) (Tb Ao Ct)) rfl fun a S=>lv S (Rm rfl) rfl fun a S=>Dl ?_))))
  replace S:=S.k4 0 10 11 12 rfl
  obtain ⟨j1,hj1,h⟩:=Ge h
  refine Ft (fun a w'=>j1 = some r ∧ Sx w [] nov [] [] 87 a w') ?_ ?_
  ·refine wp_block (Hh (fun (ys1 : List Qd) a w'=>∃ i1 : Nat,(∃ dn,Al = dn ++ ys1 ∧ dn.length = i1) ∧ Jl Al j1 ys1 i1 = some r ∧ Sx w [] nov [] [(0,Ab),(10,Ab),(11,iV (Al.length : Int)),(12,iV (i1 : Int))] 87 a w') List.length Al ⟨0,⟨[],rfl,rfl⟩,h,S.nf [] rfl (subR rfl)⟩ ?_)
   clear S h;rintro ys1 a w1 ⟨i1,⟨dn,hd1,hi1⟩,h,S⟩
   cases ys1 with
   | nil =>
    rw [Jl.eq_1] at h
    refine Fr (Vb S Fm rfl rfl rfl fun a S=>Ld ?_)
    replace S:=S.k5 0 10 11 12 13 rfl
    exact Tn (Fs (wp_cond_false ((S.tm rfl).trans (congrArg Value.bool (Ih hd1 hi1))) (wp_exit (Fj (Fj (He (Tn (⟨h,S.nf [] rfl trivial⟩))))))))
   | cons y1 ys1 =>
    rw [Jl.eq_2] at h
    refine Fr (Vb S Fm rfl rfl rfl fun a S=>Ld ?_)
    replace S:=S.k5 0 10 11 12 13 rfl
    refine Tn (Fs (wp_cond_true ((S.tm rfl).trans (congrArg Value.bool (Hb hd1 hi1))) (wp_skip (Tn (Fs (wp_block (Fr (Vm S rfl rfl ?_))))))));clear S;intro a S
    obtain ⟨r1,hg1,hl1⟩:=Iz.at Ct (Ig hd1 hi1)
    obtain ⟨u1,rfl,hs1⟩:=hl1
    obtain ⟨b1,o1,hm1,hr1⟩:=Ff (a:=a) (x:=.tmp 10) (y:=.tmp 12) (ty:=0) Yb Ao hg1 rfl (S.tm rfl) (S.tm rfl)
    refine lv S (hr1 _) rfl ?_;clear S;intro a S
    clear hr1
    refine lv S (Hf isAgg103 sizeOf103 (off:=o1) (o:=0) (part:=[sV y1.Key,sV y1.Race,u1.val,iV y1.Young,iV y1.Old]) rfl rfl (S.tm rfl) (hm1.at S.emb0)) rfl fun a S=>Lm S zeroValue103 (cs:=[sV En,sV En,.slice none 0 0,iV 0,iV 0]) rfl rfl ?_;clear S;intro a w3 b2 hz1 hk1 S
    refine Va S rfl rfl fun a S=>Ki S (S.tm rfl) (S.tm rfl) (i:=0) (off:=0) rfl sizeOf103 (vs:=[sV y1.Key,sV y1.Race,u1.val,iV y1.Young,iV y1.Old]) rfl rfl rfl (Ys rfl (Ys rfl (Ys (Eo.one (Eh hs1)) (Ys rfl (Ys rfl rfl))))) ?_;clear S;intro w4 hk2 S
    refine Dl (Fs (wp_block (Fr (Vf Xk S rfl rfl fun a S=>Vl isAgg9 0 S rfl rfl rfl rfl ?_))));clear S;intro a S
    obtain ⟨r2,hr2,h⟩:=Gf h
    refine Em S (fun _=>Eg (vs:=[sV y1.Key]) ⟨(S.tm rfl),trivial⟩ call50) (Kl _ y1.Key _ hr2) rfl ?_;clear S;intro v1 a w5 hv1 hk3 hn1 S
    subst hv1
    refine Vu S Jd rfl rfl fun a S=>Vm S rfl rfl ?_;clear S;intro a S
    obtain ⟨j2,hj2,h⟩:=Ge h
    refine Jy 5 (fun a w'=>∃ c1,j2 c1 = some r ∧ Keep [] w5 w' ∧ Sx w [] nov [.blk b2 [sV y1.Key,sV y1.Race,u1.val,iV y1.Young,iV y1.Old] 103] [(0,Ab),(3,iV (i1 : Int)),(4,.pointer (some ⟨b2,0,none⟩)),(10,Ab),(11,iV (Al.length : Int)),(12,iV (i1 : Int)),(27,bV c1)] 87 a w') ?_ ?_
    ·rcases Bool.eq_false_or_eq_true (!r2) with hb2 | hb2
     ·replace h:=Py h hb2
      iterate 4 (refine Iy S rfl rfl rfl (Nu hb2) rfl ?_ rfl;clear S;intro a S)
      exact Vq S (Od true hb2) rfl rfl rfl fun a S=>Dl (⟨_,h,Keep.refl _ _,S.nf [true] rfl (subR rfl)⟩)
     ·replace h:=Pz h hb2
      refine Er S rfl rfl rfl hb2 (Vf DO S rfl rfl fun a S=>Er S rfl rfl rfl hb2 (Vl isAgg9 0 S rfl rfl rfl rfl fun a S=>Er S rfl rfl rfl hb2 ?_))
      obtain ⟨r3,hr3,h⟩:=Gf h
      refine Em S (fun _=>Eg (vs:=[sV y1.Race]) ⟨(S.tm rfl),trivial⟩ call50) (Kl _ y1.Race _ hr3) rfl ?_;clear S;intro v2 a w7 hv2 hk4 hn2 S
      subst hv2
      exact Er S rfl rfl rfl hb2 (Vu S Jd rfl rfl fun a S=>lv S (Oe hb2 (S.tm rfl) (S.tm rfl)) rfl fun a S=>Dl (⟨_,h,hk4,S.nf [true] rfl (subR rfl)⟩))
    clear S h;rintro a w6 ⟨c1,h,hk5,S⟩;rw [hj2] at h;clear hj2 j2
    refine Va S rfl rfl fun a S=>Dl (Fc h (S.tm rfl) (fun hb3 h=>?_) (fun hb3 h=>?_))
    ·refine Fr (Vk S rfl rfl fun a S=>Dl (wp_ret (Gu (Ek (Gu (Ek (Ek ?_)))))))
     refine Gu (Ek (Ek ?_))
     obtain rfl:=Option.some.inj h
     exact Fw S results73 rfl rfl
    ·refine Fs (Gq [] ([]) Tryz.mixed S rfl (by kernel_rfl) ?_);clear S;intro w8 hk6 hsel S
     refine Jn [0,1,2,3,4,5,6,7,8,9,10,11,12,13] hsel (by kernel_rfl) rfl ?_
     clear hsel
     refine Fk S rfl (Rm (S.tm rfl)) rfl fun a S=>Fk S rfl (Kh (S.tm rfl) rfl) rfl fun a S=>Fk S rfl (Rm (S.tm rfl)) rfl ?_;clear S;intro a S
     obtain ⟨j3,hj3,h⟩:=Ge h
     refine Ya 10 (fun a w'=>∃ c2,j3 c2 = some r ∧ Keep [] w8 w' ∧ Sx w [] nov [.blk b2 [sV y1.Key,sV y1.Race,u1.val,iV y1.Young,iV y1.Old] 103] [(0,Ab),(4,.pointer (some ⟨b2,0,none⟩)),(10,Ab),(11,iV (Al.length : Int)),(12,iV (i1 : Int)),(41,bV c2)] 87 a w') ?_ ?_
     ·rcases Bool.eq_false_or_eq_true (decide (0 < (i1 : Int))) with hb4 | hb4
      ·replace h:=Py h hb4
       refine Gx S rfl rfl rfl rfl hb4 (Io S (Fz Xk (S.tm rfl)) rfl fun a S=>Gx S rfl rfl rfl rfl hb4 (Io S (Lj isAgg9 (S.tm rfl) (S.cell (i:=0) rfl rfl)) rfl fun a S=>Gx S rfl rfl rfl rfl hb4 (Io S (Rm (S.tm rfl)) rfl fun a S=>Gx S rfl rfl rfl rfl hb4 (Io S (Rm (S.tm rfl)) rfl fun a S=>Gx S rfl rfl rfl rfl hb4 (Io S (Iq (S.tm rfl) rfl) rfl fun a S=>Gx S rfl rfl rfl rfl hb4 ?_)))))
       obtain ⟨hc1,h⟩:=Hu h
       obtain ⟨r4,hg2,hl2⟩:=HT Ct hc1
       obtain ⟨u2,rfl,hs2⟩:=hl2
       obtain ⟨b3,o2,hm2,hr4⟩:=Ff (a:=a) (x:=.tmp 34) (y:=.tmp 36) (ty:=0) Yb Ao hg2 (El hc1).2 (S.tm rfl) (S.tm rfl)
       refine Io S (hr4 _) rfl ?_;clear S;intro a S
       clear hr4
       exact Gx S rfl rfl rfl rfl hb4 (Io S (Fz Xk (S.tm rfl)) rfl fun a S=>Gx S rfl rfl rfl rfl hb4 (Io S (Gt isAgg9 (off:=o2) (o:=0) (S.tm rfl) (hm2.at S.emb0) rfl) rfl fun a S=>Gx S rfl rfl rfl rfl hb4 (Io S (BV (S.tm rfl) (S.tm rfl)) rfl fun a S=>Fk S rfl (Ju hb4 (S.tm rfl) (S.tm rfl)) rfl fun a S=>Hx (⟨_,h,Keep.refl _ _,S.nf [true] rfl (subR rfl)⟩))))
      ·replace h:=Pz h hb4
       iterate 9 (refine Pv S rfl rfl rfl rfl (Lk hb4) rfl ?_ rfl;clear S;intro a S)
       exact Fk S rfl (Jv true hb4 (S.tm rfl) rfl) rfl fun a S=>Hx (⟨_,h,Keep.refl _ _,S.nf [true] rfl (subR rfl)⟩)
     clear S h;rintro a w9 ⟨c2,h,hk7,S⟩;rw [hj3] at h;clear hj3 j3
     refine Fk S rfl (Ra (S.tm rfl)) rfl fun a S=>Hx ?_
     replace S:=(S.nl [.blk b2 [sV y1.Key,sV y1.Race,u1.val,iV y1.Young,iV y1.Old] 103] [true] rfl).k6 0 4 10 11 12 28 rfl
     refine Tn (Fc h (S.tm rfl) (fun hb5 h=>?_) (fun hb5 h=>?_))
     ·refine Fr (Vk S rfl rfl fun a S=>Dl (wp_ret (Gu (Ek (Gu (Ek (Ek ?_)))))))
      refine Gu (Ek (Ek ?_))
      obtain rfl:=Option.some.inj h
      exact Fw S results73 rfl rfl
     ·refine Fr (Vf Us S rfl rfl fun a S=>Vl isAgg47 0 S rfl rfl rfl rfl fun a S=>lv S (Fy Qi (S.tm rfl) (Eh hs1)) rfl fun a S=>Vq S Kh rfl rfl rfl fun a S=>Va S rfl rfl fun a S=>Dl (Fc h (S.tm rfl) (fun hb6 h=>?_) (fun hb6 h=>?_)))
      ·refine Fr (Vk S rfl rfl fun a S=>Dl (wp_ret (Gu (Ek (Gu (Ek (Ek ?_)))))))
       refine Gu (Ek (Ek ?_))
       obtain rfl:=Option.some.inj h
       exact Fw S results73 rfl rfl
      ·refine wp_skip (Jc (Tn (Fs (Fr (Vf Us S rfl rfl fun a S=>Vl isAgg47 0 S rfl rfl rfl rfl fun a S=>lv S (Fy Qi (S.tm rfl) (Eh hs1)) rfl fun a S=>lv S (Rm rfl) rfl fun a S=>Ld ?_)))))
       replace S:=S.k8 0 4 10 11 12 48 49 50 rfl
       refine Tn ?_
       obtain ⟨j4,hj4,h⟩:=Ge h
       refine Ft (fun a w'=>j4 = some r ∧ Sx w [] nov [.blk b2 [sV y1.Key,sV y1.Race,u1.val,iV y1.Young,iV y1.Old] 103] [(0,Ab),(4,.pointer (some ⟨b2,0,none⟩)),(10,Ab),(11,iV (Al.length : Int)),(12,iV (i1 : Int))] 87 a w') ?_ ?_
       ·refine wp_block (Hh (fun (ys2 : List ByteArray) a w'=>∃ i2 : Nat,(∃ dn,y1.Clubs = dn ++ ys2 ∧ dn.length = i2) ∧ Jk y1 j4 ys2 i2 = some r ∧ Sx w [] nov [.blk b2 [sV y1.Key,sV y1.Race,u1.val,iV y1.Young,iV y1.Old] 103] [(0,Ab),(4,.pointer (some ⟨b2,0,none⟩)),(10,Ab),(11,iV (Al.length : Int)),(12,iV (i1 : Int)),(48,u1.val),(49,iV (y1.Clubs.length : Int)),(50,iV (i2 : Int))] 87 a w') List.length y1.Clubs ⟨0,⟨[],rfl,rfl⟩,h,S.nf [true] rfl (subR rfl)⟩ ?_)
        clear S h;rintro ys2 a w10 ⟨i2,⟨dn,hd2,hi2⟩,h,S⟩
        cases ys2 with
        | nil =>
         rw [Jk.eq_1] at h
         refine Fr (Vb S Fm rfl rfl rfl fun a S=>Ld ?_)
         replace S:=S.k9 0 4 10 11 12 48 49 50 51 rfl
         exact Tn (Fs (wp_cond_false ((S.tm rfl).trans (congrArg Value.bool (Ih hd2 hi2))) (wp_exit (Fj (Fj (He (Tn (⟨h,S.nf [true] rfl (subR rfl)⟩))))))))
        | cons y2 ys2 =>
         rw [Jk.eq_2] at h
         refine Fr (Vb S Fm rfl rfl rfl fun a S=>Ld ?_)
         replace S:=S.k9 0 4 10 11 12 48 49 50 51 rfl
         refine Tn (Fs (wp_cond_true ((S.tm rfl).trans (congrArg Value.bool (Hb hd2 hi2))) (wp_skip (Tn (Fs (wp_block (Fr (Vm S rfl rfl ?_))))))));clear S;intro a S
         obtain ⟨b4,o3,hm3,hr5⟩:=Ff (a:=a) (x:=.tmp 48) (y:=.tmp 50) (ty:=0) Qi hs1 (Ig hd2 hi2) rfl (S.tm rfl) (S.tm rfl)
         refine lv S (hr5 _) rfl ?_;clear S;intro a S
         clear hr5
         refine lv S (Gt isAgg9 (off:=o3) (o:=0) (S.tm rfl) (hm3.at S.emb0) rfl) rfl fun a S=>Va S rfl rfl fun a S=>Va S rfl rfl fun a S=>Dl (Fs (Fr (Vm S rfl rfl ?_)));clear S;intro a S
         obtain ⟨r5,hr6,h⟩:=Gf h
         refine Em S (fun _=>Eg (vs:=[sV y2]) ⟨(S.tm rfl),trivial⟩ call50) (Kl _ y2 _ hr6) rfl ?_;clear S;intro v3 a w12 hv3 hk8 hn3 S
         subst hv3
         refine Vu S Jd rfl rfl fun a S=>Ld ?_
         replace S:=S.k11 0 4 5 6 10 11 12 48 49 50 57 rfl
         refine Tn (Fc h (S.tm rfl) (fun hb7 h=>?_) (fun hb7 h=>?_))
         ·refine Fr (Vk S rfl rfl fun a S=>Dl (wp_ret (Ek (Gu (Ek (Ek (Gu ?_)))))))
          refine Ek (Ek (Gu (Ek (Ek (Gu (Ek (Ek ?_)))))))
          obtain rfl:=Option.some.inj h
          exact Fw S results73 rfl rfl
         ·refine wp_skip (Tn (Fr (Vm S rfl rfl fun a S=>Vq S Kh rfl rfl rfl fun a S=>Vm S rfl rfl ?_)));clear S;intro a S
          obtain ⟨j5,hj5,h⟩:=Ge h
          refine Jy 9 (fun a w'=>∃ c3,j5 c3 = some r ∧ Keep [] w12 w' ∧ Sx w [] nov [.blk b2 [sV y1.Key,sV y1.Race,u1.val,iV y1.Young,iV y1.Old] 103] [(0,Ab),(4,.pointer (some ⟨b2,0,none⟩)),(10,Ab),(11,iV (Al.length : Int)),(12,iV (i1 : Int)),(48,u1.val),(49,iV (y1.Clubs.length : Int)),(50,iV (i2 : Int)),(69,bV c3)] 87 a w') ?_ ?_
          ·rcases Bool.eq_false_or_eq_true (decide (0 < (i2 : Int))) with hb8 | hb8
           ·replace h:=Py h hb8
            refine Er S rfl rfl rfl hb8 (Vm S rfl rfl fun a S=>Er S rfl rfl rfl hb8 (Vf Us S rfl rfl fun a S=>Er S rfl rfl rfl hb8 (Vl isAgg47 0 S rfl rfl rfl rfl fun a S=>Er S rfl rfl rfl hb8 (Vm S rfl rfl fun a S=>Er S rfl rfl rfl hb8 (Vq S Iq rfl rfl rfl fun a S=>Er S rfl rfl rfl hb8 ?_)))))
            obtain ⟨hc2,h⟩:=Hu h
            obtain ⟨b5,o4,hm4,hr7⟩:=Ff (a:=a) (x:=.tmp 63) (y:=.tmp 65) (ty:=0) Qi hs1 (El hc2).1 (El hc2).2 (S.tm rfl) (S.tm rfl)
            refine lv S (hr7 _) rfl ?_;clear S;intro a S
            clear hr7
            exact Er S rfl rfl rfl hb8 (lv S (Gt isAgg9 (off:=o4) (o:=0) (S.tm rfl) (hm4.at S.emb0) rfl) rfl fun a S=>Er S rfl rfl rfl hb8 (Vb S BV rfl rfl rfl fun a S=>lv S (Ju hb8 (S.tm rfl) (S.tm rfl)) rfl fun a S=>Dl (⟨_,h,Keep.refl _ _,S.nf [true] rfl (subR rfl)⟩)))
           ·replace h:=Pz h hb8
            iterate 8 (refine Iy S rfl rfl rfl (Lk hb8) rfl ?_ rfl;clear S;intro a S)
            exact Vq S (Jv true hb8) rfl rfl rfl fun a S=>Dl (⟨_,h,Keep.refl _ _,S.nf [true] rfl (subR rfl)⟩)
          clear S h;rintro a w13 ⟨c3,h,hk9,S⟩;rw [hj5] at h;clear hj5 j5
          refine Dl (Fc h (S.tm rfl) (fun hb9 h=>?_) (fun hb9 h=>?_))
          ·refine Fr (Vk S rfl rfl fun a S=>Dl (wp_ret (Gu (Ek (Ek (Gu (Ek ?_)))))))
           refine Ek (Gu (Ek (Ek (Gu (Ek (Ek ?_))))))
           obtain rfl:=Option.some.inj h
           exact Fw S results73 rfl rfl
          ·exact wp_skip (Jc (Tn (Fg (Vq S Gd rfl rfl rfl fun a S=>Vm S rfl rfl fun a S=>Dl (⟨ys2,⟨i2 + 1,⟨_,(hd2).trans (List.append_cons _ _ _),by simp [hi2]⟩,h,S.nf [true] rfl ⟨rfl,rfl,rfl,rfl,rfl,rfl,rfl,(congrArg (fun z=>some (Value.int .i64 z)) (Hc hd2 hi2 (Jx hs1))),trivial⟩⟩,Nat.lt_succ_self _⟩)))))
       clear S h;rintro a w11 ⟨h,S⟩;rw [hj4] at h;clear hj4 j4
       refine Tn (Fr (Vf Zw S rfl rfl fun a S=>Vl isAgg3 0 S rfl rfl rfl rfl fun a S=>Vq S Fm rfl rfl rfl fun a S=>Vm S rfl rfl fun a S=>Jy 6 (fun a w'=>Keep [] w11 w' ∧ Sx w [] nov [.blk b2 [sV y1.Key,sV y1.Race,u1.val,iV y1.Young,iV y1.Old] 103] [(0,Ab),(4,.pointer (some ⟨b2,0,none⟩)),(10,Ab),(11,iV (Al.length : Int)),(12,iV (i1 : Int)),(80,bV ((decide (y1.Young < 0)) || (decide (y1.Old < y1.Young))))] 87 a w') ?_ ?_))
       ·rcases Bool.eq_false_or_eq_true (decide (y1.Young < 0)) with hb10 | hb10
        ·iterate 5 (refine Iy S rfl rfl rfl (Nu hb10) rfl ?_ rfl;clear S;intro a S)
         exact lv S (Od (decide (y1.Old < y1.Young)) hb10 (S.tm rfl) rfl) rfl fun a S=>Dl (⟨Keep.refl _ _,S.nf [true] rfl (subR rfl)⟩)
        ·refine Er S rfl rfl rfl hb10 (Vf Zw S rfl rfl fun a S=>Er S rfl rfl rfl hb10 (Vl isAgg3 0 S rfl rfl rfl rfl fun a S=>Er S rfl rfl rfl hb10 (Vf Zx S rfl rfl fun a S=>Er S rfl rfl rfl hb10 (Vl isAgg3 0 S rfl rfl rfl rfl fun a S=>Er S rfl rfl rfl hb10 (Vb S Kh rfl rfl rfl fun a S=>lv S (Oe hb10 (S.tm rfl) (S.tm rfl)) rfl ?_)))));clear S;intro a S
         exact Dl (⟨Keep.refl _ _,S.nf [true] rfl (subR rfl)⟩)
       clear S;rintro a w14 ⟨hk10,S⟩
       refine Vm S rfl rfl fun a S=>Jy 4 (fun a w'=>Keep [] w14 w' ∧ Sx w [] nov [.blk b2 [sV y1.Key,sV y1.Race,u1.val,iV y1.Young,iV y1.Old] 103] [(0,Ab),(10,Ab),(11,iV (Al.length : Int)),(12,iV (i1 : Int)),(85,bV (((decide (y1.Young < 0)) || (decide (y1.Old < y1.Young))) || (decide (150 < y1.Old))))] 87 a w') ?_ ?_
       ·rcases Bool.eq_false_or_eq_true ((decide (y1.Young < 0)) || (decide (y1.Old < y1.Young))) with hb11 | hb11
        ·iterate 3 (refine Iy S rfl rfl rfl (Nu hb11) rfl ?_ rfl;clear S;intro a S)
         exact lv S (Od (decide (150 < y1.Old)) hb11 (S.tm rfl) rfl) rfl fun a S=>Dl (⟨Keep.refl _ _,S.nf [true] rfl (subR rfl)⟩)
        ·exact Er S rfl rfl rfl hb11 (Vf Zx S rfl rfl fun a S=>Er S rfl rfl rfl hb11 (Vl isAgg3 0 S rfl rfl rfl rfl fun a S=>Er S rfl rfl rfl hb11 (Vq S Kh rfl rfl rfl fun a S=>lv S (Oe hb11 (S.tm rfl) (S.tm rfl)) rfl fun a S=>Dl (⟨Keep.refl _ _,S.nf [true] rfl (subR rfl)⟩))))
       clear S;rintro a w15 ⟨hk11,S⟩
       refine Dl (Fc h (S.tm rfl) (fun hb12 h=>?_) (fun hb12 h=>?_))
       ·refine Fr (Vk S rfl rfl fun a S=>Dl (wp_ret (Gu (Ek (Ek (Gu (Ek ?_)))))))
        refine Ek ?_
        obtain rfl:=Option.some.inj h
        exact Fw S results73 rfl rfl
       ·exact wp_skip (Jc (Tn (Fg (Vq S Gd rfl rfl rfl fun a S=>Vm S rfl rfl fun a S=>Dl (⟨ys1,⟨i1 + 1,⟨_,(hd1).trans (List.append_cons _ _ _),by simp [hi1]⟩,h,S.nf [false] rfl ⟨rfl,rfl,rfl,(congrArg (fun z=>some (Value.int .i64 z)) (Hc hd1 hi1 (Um Ao Ct))),trivial⟩⟩,Nat.lt_succ_self _⟩)))))
  clear S h;rintro a w2 ⟨h,S⟩;rw [hj1] at h;clear hj1 j1
  refine Tn (Fr (Vk S rfl rfl fun a S=>Dl (wp_ret ?_)))
  obtain rfl:=Option.some.inj h
  exact Fw S results73 rfl rfl
theorem Wc (w : World) (Az : Il) (r : Int) (h : Rl Az = some r) :
    Calls prog 95 [.agg (Il.enc Az).toArray].toArray w (Ret w [] fun _ v _=>v = iV r):=by
 refine Fe func95 rfl ntmps95 rfl fun a S=>?_
 unfold Rl at h
 replace S:=S.k1 0 rfl
 refine Fr (Qp S (S.tm rfl) (cs:=(Il.enc Az)) rfl rfl ?_);clear S;intro a w1 b1 hz1 hk1 S
 refine Vk S rfl rfl fun a S=>Dl (Fs ?_)
 obtain ⟨j1,hj1,h⟩:=Ge h
 refine Ft (fun a w'=>j1 = some r ∧ Sx w [] nov [] [] 64 a w') ?_ ?_
 ·refine wp_block (Fr (Vf DP S rfl rfl fun a S=>Vl isAgg3 0 S rfl rfl rfl rfl fun a S=>Em S (fun _=>Eg (vs:=[iV Az.At]) ⟨(S.tm rfl),trivial⟩ call51) (Pf _ Az.At _ rfl) rfl ?_));clear S;intro v1 a w3 hv1 hk2 hn1 S
  subst hv1
  refine Vu S Jd rfl rfl fun a S=>Va S rfl rfl fun a S=>Dl (Fc h (S.tm rfl) (fun hb1 h=>?_) (fun hb1 h=>?_))
  ·refine Fr (Vk S rfl rfl fun a S=>Dl (wp_ret (Gu (Ek (Ek ?_)))))
   obtain rfl:=Option.some.inj h
   exact Fw S results95 rfl rfl
  ·refine Fr (Vf Xl S rfl rfl fun a S=>Vl isAgg3 0 S rfl rfl rfl rfl fun a S=>Em S (fun _=>Eg (vs:=[iV Az.Kind,iV 1,iV 3]) ⟨(S.tm rfl),rfl,rfl,trivial⟩ call32) (Gk _ Az.Kind 1 3 _ rfl) rfl ?_);clear S;intro v2 a w4 hv2 hk3 hn2 S
   subst hv2
   refine Vu S Jd rfl rfl fun a S=>Va S rfl rfl fun a S=>Dl (Fc h (S.tm rfl) (fun hb2 h=>?_) (fun hb2 h=>?_))
   ·refine Fr (Vk S rfl rfl fun a S=>Dl (wp_ret (Gu (Ek (Ek ?_)))))
    obtain rfl:=Option.some.inj h
    exact Fw S results95 rfl rfl
   ·refine Fr (Vf DQ S rfl rfl fun a S=>Vl isAgg9 0 S rfl rfl rfl rfl ?_);clear S;intro a S
    obtain ⟨r1,hr1,h⟩:=Gf h
    refine Em S (fun _=>Eg (vs:=[sV Az.Id]) ⟨(S.tm rfl),trivial⟩ call50) (Kl _ Az.Id _ hr1) rfl ?_;clear S;intro v3 a w5 hv3 hk4 hn3 S
    subst hv3
    refine Vu S Jd rfl rfl fun a S=>Va S rfl rfl fun a S=>Ld ?_
    replace S:=(S.nl [.blk b1 (Il.enc Az) 106] [true] rfl).k2 1 13 rfl
    refine Tn (Fc h (S.tm rfl) (fun hb3 h=>?_) (fun hb3 h=>?_))
    ·refine Fr (Vk S rfl rfl fun a S=>Dl (wp_ret (Gu (Ek (Ek ?_)))))
     obtain rfl:=Option.some.inj h
     exact Fw S results95 rfl rfl
    ·refine Fr (Vf Xl S rfl rfl fun a S=>Vl isAgg3 0 S rfl rfl rfl rfl fun a S=>Vq S Mq rfl rfl rfl fun a S=>Va S rfl rfl fun a S=>Dl ?_)
     obtain ⟨j2,hj2,h⟩:=Ge h
     refine Ft (fun a w'=>j2 = some r ∧ Sx w [] nov [] [] 64 a w') ?_ ?_
     ·refine Fc h (S.tm rfl) (fun hb4 h=>?_) (fun hb4 h=>?_)
      ·refine Fr (lv S (Hf isAgg106 sizeOf106 (off:=0) (o:=0) (part:=(Il.enc Az)) rfl rfl (S.tm rfl) (S.cellsAt (i:=0) rfl)) rfl fun a S=>Vf DP S rfl rfl fun a S=>Vl isAgg3 0 S rfl rfl rfl rfl fun a S=>Vf Xl S rfl rfl fun a S=>Vl isAgg3 0 S rfl rfl rfl rfl fun a S=>Vf DQ S rfl rfl fun a S=>Vl isAgg9 0 S rfl rfl rfl rfl fun a S=>lv S (Nl ID (pv:=[(0,iV Az.At),(1,iV Az.Kind),(2,sV Az.Id)]) ⟨rfl,(S.tm rfl),rfl,(S.tm rfl),rfl,(S.tm rfl),trivial⟩ (cs:=[iV Az.At,iV Az.Kind,sV Az.Id,sV En,sV En,sV En,iV 0,iV 0]) (by kernel_rfl)) rfl fun a S=>lv S (EP (m:=Az) (n:=(Il.mk Az.At Az.Kind Az.Id En En En 0 0)) (S.tm rfl) (S.tm rfl)) rfl ?_);clear S;intro a S
       refine Ld ?_
       replace S:=S.n0.k1 30 rfl
       refine Tn (Fc h (S.tm rfl) (fun hb5 h=>?_) (fun hb5 h=>?_))
       ·refine Fr (Vk S rfl rfl fun a S=>Dl (wp_ret (Ek (Gu (Ek (Ek ?_))))))
        obtain rfl:=Option.some.inj h
        exact Fw S results95 rfl rfl
       ·exact wp_skip (Tn (⟨h,S.nf [] rfl trivial⟩))
      ·refine Fr (Vf IA S rfl rfl fun a S=>Vl isAgg9 0 S rfl rfl rfl rfl ?_);clear S;intro a S
       obtain ⟨r2,hr2,h⟩:=Gf h
       refine Em S (fun _=>Eg (vs:=[sV Az.Who]) ⟨(S.tm rfl),trivial⟩ call50) (Kl _ Az.Who _ hr2) rfl ?_;clear S;intro v4 a w7 hv4 hk5 hn4 S
       subst hv4
       refine Vu S Jd rfl rfl fun a S=>Vm S rfl rfl ?_;clear S;intro a S
       obtain ⟨j3,hj3,h⟩:=Ge h
       refine Jy 5 (fun a w'=>∃ c1,j3 c1 = some r ∧ Keep [] w7 w' ∧ Sx w [] nov [.blk b1 (Il.enc Az) 106] [(1,.pointer (some ⟨b1,0,none⟩)),(41,bV c1)] 64 a w') ?_ ?_
       ·rcases Bool.eq_false_or_eq_true (!r2) with hb6 | hb6
        ·replace h:=Py h hb6
         iterate 4 (refine Iy S rfl rfl rfl (Nu hb6) rfl ?_ rfl;clear S;intro a S)
         exact Vq S (Od true hb6) rfl rfl rfl fun a S=>Dl (⟨_,h,Keep.refl _ _,S.nf [true] rfl (subR rfl)⟩)
        ·replace h:=Pz h hb6
         refine Er S rfl rfl rfl hb6 (Vf DR S rfl rfl fun a S=>Er S rfl rfl rfl hb6 (Vl isAgg9 0 S rfl rfl rfl rfl fun a S=>Er S rfl rfl rfl hb6 ?_))
         obtain ⟨r3,hr3,h⟩:=Gf h
         refine Em S (fun _=>Eg (vs:=[sV Az.Race]) ⟨(S.tm rfl),trivial⟩ call50) (Kl _ Az.Race _ hr3) rfl ?_;clear S;intro v5 a w9 hv5 hk6 hn5 S
         subst hv5
         exact Er S rfl rfl rfl hb6 (Vu S Jd rfl rfl fun a S=>lv S (Oe hb6 (S.tm rfl) (S.tm rfl)) rfl fun a S=>Dl (⟨_,h,hk6,S.nf [true] rfl (subR rfl)⟩))
       clear S h;rintro a w8 ⟨c1,h,hk7,S⟩;rw [hj3] at h;clear hj3 j3
       refine Vm S rfl rfl ?_;clear S;intro a S
       obtain ⟨j4,hj4,h⟩:=Ge h
       refine Jy 10 (fun a w'=>∃ c2,j4 c2 = some r ∧ Keep [] w8 w' ∧ Sx w [] nov [.blk b1 (Il.enc Az) 106] [(1,.pointer (some ⟨b1,0,none⟩)),(52,bV c2)] 64 a w') ?_ ?_
       ·rcases Bool.eq_false_or_eq_true c1 with hb7 | hb7
        ·replace h:=Py h hb7
         iterate 4 (refine Iy S rfl rfl rfl (Nu hb7) rfl ?_ rfl;clear S;intro a S)
         iterate 4 (refine CC S rfl rfl rfl rfl ?_;clear S;intro a S)
         exact Iy S rfl rfl rfl (Nu hb7) rfl (fun a S=>Vq S (Od true hb7) rfl rfl rfl fun a S=>Dl (⟨_,h,Keep.refl _ _,S.nf [true] rfl (subR rfl)⟩)) rfl
        ·replace h:=Pz h hb7
         refine Er S rfl rfl rfl hb7 (Vf Zy S rfl rfl fun a S=>Er S rfl rfl rfl hb7 (Vl isAgg9 0 S rfl rfl rfl rfl fun a S=>Er S rfl rfl rfl hb7 (Vq S EZ rfl rfl rfl fun a S=>Er S rfl rfl rfl hb7 (Vm S rfl rfl ?_))));clear S;intro a S
         obtain ⟨j5,hj5,h⟩:=Ge h
         refine Jy 5 (fun a w'=>∃ c3,j5 c3 = some r ∧ Keep [] w8 w' ∧ Sx w [] nov [.blk b1 (Il.enc Az) 106] [(1,.pointer (some ⟨b1,0,none⟩)),(42,bV c1),(51,bV c3)] 64 a w') ?_ ?_
         ·rcases Bool.eq_false_or_eq_true (!decide (Az.Club = En)) with hb8 | hb8
          ·replace h:=Py h hb8
           refine Er S rfl rfl rfl hb8 (Vf Zy S rfl rfl fun a S=>Er S rfl rfl rfl hb8 (Vl isAgg9 0 S rfl rfl rfl rfl fun a S=>Er S rfl rfl rfl hb8 ?_))
           obtain ⟨r4,hr4,h⟩:=Gf h
           refine Em S (fun _=>Eg (vs:=[sV Az.Club]) ⟨(S.tm rfl),trivial⟩ call50) (Kl _ Az.Club _ hr4) rfl ?_;clear S;intro v6 a w12 hv6 hk8 hn6 S
           subst hv6
           exact Er S rfl rfl rfl hb8 (Vu S Jd rfl rfl fun a S=>Er S rfl rfl rfl hb7 (lv S (Ju hb8 (S.tm rfl) (S.tm rfl)) rfl fun a S=>Dl (⟨_,h,hk8,S.nf [true] rfl (subR rfl)⟩)))
          ·replace h:=Pz h hb8
           iterate 4 (refine Iy S rfl rfl rfl (Lk hb8) rfl ?_ rfl;clear S;intro a S)
           exact Er S rfl rfl rfl hb7 (Vq S (Jv true hb8) rfl rfl rfl fun a S=>Dl (⟨_,h,Keep.refl _ _,S.nf [true] rfl (subR rfl)⟩))
         clear S h;rintro a w11 ⟨c3,h,hk9,S⟩;rw [hj5] at h;clear hj5 j5
         exact lv S (Oe hb7 (S.tm rfl) (S.tm rfl)) rfl fun a S=>Dl (⟨_,h,hk9,S.nf [true] rfl (subR rfl)⟩)
       clear S h;rintro a w10 ⟨c2,h,hk10,S⟩;rw [hj4] at h;clear hj4 j4
       refine Va S rfl rfl fun a S=>Dl (Fc h (S.tm rfl) (fun hb9 h=>?_) (fun hb9 h=>?_))
       ·refine Fr (Vk S rfl rfl fun a S=>Dl (wp_ret (Ek (Gu (Ek (Ek ?_))))))
        obtain rfl:=Option.some.inj h
        exact Fw S results95 rfl rfl
       ·refine Fr (Vf DS S rfl rfl fun a S=>Vl isAgg3 0 S rfl rfl rfl rfl fun a S=>Em S (fun _=>Eg (vs:=[iV Az.Age,iV 0,iV 150]) ⟨(S.tm rfl),rfl,rfl,trivial⟩ call32) (Gk _ Az.Age 0 150 _ rfl) rfl ?_);clear S;intro v7 a w13 hv7 hk11 hn7 S
        subst hv7
        refine Vu S Jd rfl rfl fun a S=>Vm S rfl rfl fun a S=>Jy 5 (fun a w'=>Keep [] w13 w' ∧ Sx w [] nov [.blk b1 (Il.enc Az) 106] [(63,bV ((!(Ev Az.Age 0 150)) || (!(Nn Az.Time))))] 64 a w') ?_ ?_
        ·rcases Bool.eq_false_or_eq_true (!(Ev Az.Age 0 150)) with hb10 | hb10
         ·iterate 4 (refine Iy S rfl rfl rfl (Nu hb10) rfl ?_ rfl;clear S;intro a S)
          exact lv S (Od (!(Nn Az.Time)) hb10 (S.tm rfl) rfl) rfl fun a S=>Dl (⟨Keep.refl _ _,S.nf [true] rfl ⟨rfl,trivial⟩⟩)
         ·refine Er S rfl rfl rfl hb10 (Vf IB S rfl rfl fun a S=>Er S rfl rfl rfl hb10 (Vl isAgg3 0 S rfl rfl rfl rfl fun a S=>Er S rfl rfl rfl hb10 (Em S (fun _=>Eg (vs:=[iV Az.Time]) ⟨(S.tm rfl),trivial⟩ call71) (Rq _ Az.Time _ rfl) rfl ?_)));clear S;intro v8 a w15 hv8 hk12 hn8 S
          subst hv8
          exact Er S rfl rfl rfl hb10 (Vu S Jd rfl rfl fun a S=>lv S (Oe hb10 (S.tm rfl) (S.tm rfl)) rfl fun a S=>Dl (⟨hk12,S.nf [true] rfl ⟨rfl,trivial⟩⟩))
        clear S;rintro a w14 ⟨hk13,S⟩
        refine Va S rfl rfl fun a S=>Dl (Fc h (S.tm rfl) (fun hb11 h=>?_) (fun hb11 h=>?_))
        ·refine Fr (Vk S rfl rfl fun a S=>Dl (wp_ret (Ek (Gu (Ek (Ek ?_))))))
         obtain rfl:=Option.some.inj h
         exact Fw S results95 rfl rfl
        ·exact wp_skip (Tn (⟨h,S.nf [false] rfl trivial⟩))
     clear S h;rintro a w6 ⟨h,S⟩;rw [hj2] at h;clear hj2 j2
     exact Jc (Tn (⟨h,S.nf [] rfl trivial⟩))
 clear S h;rintro a w2 ⟨h,S⟩;rw [hj1] at h;clear hj1 j1
 refine Tn (Fr (Vk S rfl rfl fun a S=>Dl (wp_ret ?_)))
 obtain rfl:=Option.some.inj h
 exact Fw S results95 rfl rfl
theorem Wd (w : World) (Bj : Il) (r : Int) (h : Ro Bj = some r) :
    Calls prog 74 [.agg (Il.enc Bj).toArray].toArray w (Ret w [] fun _ v _=>v = iV r):=by
 refine Fe func74 rfl ntmps74 rfl fun a S=>?_
 unfold Ro at h
 replace S:=S.k1 0 rfl
 refine Fr (Qp S (S.tm rfl) (cs:=(Il.enc Bj)) rfl rfl ?_);clear S;intro a w1 b1 hz1 hk1 S
 refine Vk S rfl rfl fun a S=>Dl (Fs (Fr (lv S (Hf isAgg106 sizeOf106 (off:=0) (o:=0) (part:=(Il.enc Bj)) rfl rfl (S.tm rfl) (S.cellsAt (i:=0) rfl)) rfl ?_)));clear S;intro a S
 obtain ⟨r1,hr1,h⟩:=Gf h
 refine Em S (fun _=>Eg (vs:=[.agg (Il.enc Bj).toArray]) ⟨(S.tm rfl),trivial⟩ call95) (Wc _ Bj _ hr1) rfl ?_;clear S;intro v1 a w2 hv1 hk2 hn1 S
 subst hv1
 refine Va S rfl rfl fun a S=>Dz (Vm S rfl rfl fun a S=>Vq S Mq rfl rfl rfl fun a S=>Dl (Fc h (S.tm rfl) (fun hb1 h=>?_) (fun hb1 h=>?_)))
 ·refine Fr (Vm S rfl rfl fun a S=>Va S rfl rfl fun a S=>Dl (wp_ret (Ek ?_)))
  obtain rfl:=Option.some.inj h
  exact Fw S results74 rfl rfl
 ·refine wp_skip (Tn (Fs (Fr (Vf Xl S rfl rfl fun a S=>Vl isAgg3 0 S rfl rfl rfl rfl fun a S=>Vq S Mq rfl rfl rfl fun a S=>Dl (Fc h (S.tm rfl) (fun hb2 h=>?_) (fun hb2 h=>?_))))))
  ·refine Fr (Vk S rfl rfl fun a S=>Dl (wp_ret (Ek ?_)))
   obtain rfl:=Option.some.inj h
   exact Fw S results74 rfl rfl
  ·refine wp_skip (Tn (Fr (Vk S rfl rfl fun a S=>Dl (wp_ret ?_))))
   obtain rfl:=Option.some.inj h
   exact Fw S results74 rfl rfl
theorem Yy (w : World) (Bx : Qd) (Dy : Pn) (Ec : Sq (view w []) Bx Dy) (Bj : Il) (r : Bool) (h : Tz Bx Bj = r) :
    Calls prog 75 [.agg (Pn.enc Dy).toArray,.agg (Il.enc Bj).toArray].toArray w (Ret w [] fun _ v _=>v = bV r):=by
 obtain ⟨u1,rfl,hs1⟩:=Ec
 refine Fe func75 rfl ntmps75 rfl fun a S=>?_
 unfold Tz at h
 replace S:=S.k2 0 1 rfl
 refine Fr (Qp S (S.tm rfl) (cs:=[sV Bx.Key,sV Bx.Race,u1.val,iV Bx.Young,iV Bx.Old]) rfl rfl ?_);clear S;intro a w1 b1 hz1 hk1 S
 refine Qp S (S.tm rfl) (cs:=(Il.enc Bj)) rfl rfl ?_;clear S;intro a w2 b2 hz2 hk2 S
 refine Vk S rfl rfl fun a S=>Dz (Vf DR S rfl rfl fun a S=>Vl isAgg9 0 S rfl rfl rfl rfl fun a S=>Vf DO S rfl rfl fun a S=>Vl isAgg9 1 S rfl rfl rfl rfl fun a S=>Vb S Tp rfl rfl rfl fun a S=>Vm S rfl rfl ?_);clear S;intro a S
 refine Jy 12 (fun a w'=>Keep [] w2 w' ∧ Sx w [] nov [.blk b2 (Il.enc Bj) 106,.blk b1 [sV Bx.Key,sV Bx.Race,u1.val,iV Bx.Young,iV Bx.Old] 103] [(2,.pointer (some ⟨b1,0,none⟩)),(3,.pointer (some ⟨b2,0,none⟩)),(22,bV ((decide (Bj.Race = Bx.Race)) && ((decide ((Bx.Clubs.length : Int) = 0)) || (Gy Bx.Clubs Bj.Club))))] 32 a w') ?_ ?_
 ·rcases Bool.eq_false_or_eq_true (decide (Bj.Race = Bx.Race)) with hb1 | hb1
  ·refine Er S rfl rfl rfl hb1 (Vf Us S rfl rfl fun a S=>Er S rfl rfl rfl hb1 (Vl isAgg47 1 S rfl rfl rfl rfl fun a S=>Er S rfl rfl rfl hb1 (lv S (Fy Qi (S.tm rfl) (Eh hs1)) rfl fun a S=>Er S rfl rfl rfl hb1 (Vq S Mc rfl rfl rfl fun a S=>Er S rfl rfl rfl hb1 (Vm S rfl rfl fun a S=>Jy 6 (fun a w'=>Keep [] w2 w' ∧ Sx w [] nov [.blk b2 (Il.enc Bj) 106,.blk b1 [sV Bx.Key,sV Bx.Race,u1.val,iV Bx.Young,iV Bx.Old] 103] [(2,.pointer (some ⟨b1,0,none⟩)),(3,.pointer (some ⟨b2,0,none⟩)),(10,bV (decide (Bj.Race = Bx.Race))),(21,bV ((decide ((Bx.Clubs.length : Int) = 0)) || (Gy Bx.Clubs Bj.Club)))] 32 a w') ?_ ?_)))))
   ·rcases Bool.eq_false_or_eq_true (decide ((Bx.Clubs.length : Int) = 0)) with hb2 | hb2
    ·iterate 5 (refine Iy S rfl rfl rfl (Nu hb2) rfl ?_ rfl;clear S;intro a S)
     exact Er S rfl rfl rfl hb1 (lv S (Od (Gy Bx.Clubs Bj.Club) hb2 (S.tm rfl) rfl) rfl fun a S=>Dl (⟨Keep.refl _ _,S.nf [true,true] rfl (subR rfl)⟩))
    ·refine Er S rfl rfl rfl hb2 (Vf Us S rfl rfl fun a S=>Er S rfl rfl rfl hb2 (Vl isAgg47 1 S rfl rfl rfl rfl fun a S=>Er S rfl rfl rfl hb2 (Vf Zy S rfl rfl fun a S=>Er S rfl rfl rfl hb2 (Vl isAgg9 0 S rfl rfl rfl rfl fun a S=>Er S rfl rfl rfl hb2 (Em S (fun _=>Eg (vs:=[u1.val,sV Bj.Club]) ⟨(S.tm rfl),(S.tm rfl),trivial⟩ call40) (Pu _ u1.val Bx.Clubs (hs1.mono (S.le_arg Fh)) Bj.Club _ rfl) rfl ?_)))));clear S;intro v1 a w5 hv1 hk3 hn1 S
     subst hv1
     exact Er S rfl rfl rfl hb1 (lv S (Oe hb2 (S.tm rfl) (S.tm rfl)) rfl fun a S=>Dl (⟨hk3,S.nf [true,true] rfl (subR rfl)⟩))
   clear S;rintro a w4 ⟨hk4,S⟩
   exact lv S (Ju hb1 (S.tm rfl) (S.tm rfl)) rfl fun a S=>Dl (⟨hk4,S.nf [true,true] rfl (subR rfl)⟩)
  ·iterate 5 (refine Iy S rfl rfl rfl (Lk hb1) rfl ?_ rfl;clear S;intro a S)
   iterate 5 (refine CC S rfl rfl rfl rfl ?_;clear S;intro a S)
   exact Iy S rfl rfl rfl (Lk hb1) rfl (fun a S=>lv S (Jv ((decide ((Bx.Clubs.length : Int) = 0)) || (Gy Bx.Clubs Bj.Club)) hb1 (S.tm rfl) rfl) rfl fun a S=>Dl (⟨Keep.refl _ _,S.nf [true,true] rfl (subR rfl)⟩)) rfl
 clear S;rintro a w3 ⟨hk5,S⟩
 refine Vm S rfl rfl fun a S=>Jy 8 (fun a w'=>Keep [] w3 w' ∧ Sx w [] nov [.blk b2 (Il.enc Bj) 106,.blk b1 [sV Bx.Key,sV Bx.Race,u1.val,iV Bx.Young,iV Bx.Old] 103] [(31,bV (((decide (Bj.Race = Bx.Race)) && ((decide ((Bx.Clubs.length : Int) = 0)) || (Gy Bx.Clubs Bj.Club))) && (Ev Bj.Age Bx.Young Bx.Old)))] 32 a w') ?_ ?_
 ·rcases Bool.eq_false_or_eq_true ((decide (Bj.Race = Bx.Race)) && ((decide ((Bx.Clubs.length : Int) = 0)) || (Gy Bx.Clubs Bj.Club))) with hb3 | hb3
  ·refine Er S rfl rfl rfl hb3 (Vf DS S rfl rfl fun a S=>Er S rfl rfl rfl hb3 (Vl isAgg3 0 S rfl rfl rfl rfl fun a S=>Er S rfl rfl rfl hb3 (Vf Zw S rfl rfl fun a S=>Er S rfl rfl rfl hb3 (Vl isAgg3 1 S rfl rfl rfl rfl fun a S=>Er S rfl rfl rfl hb3 (Vf Zx S rfl rfl fun a S=>Er S rfl rfl rfl hb3 ?_)))))
   refine Vl isAgg3 1 S rfl rfl rfl rfl fun a S=>Er S rfl rfl rfl hb3 (Em S (fun _=>Eg (vs:=[iV Bj.Age,iV Bx.Young,iV Bx.Old]) ⟨(S.tm rfl),(S.tm rfl),(S.tm rfl),trivial⟩ call32) (Gk _ Bj.Age Bx.Young Bx.Old _ rfl) rfl ?_);clear S;intro v2 a w7 hv2 hk6 hn2 S
   subst hv2
   exact lv S (Ju hb3 (S.tm rfl) (S.tm rfl)) rfl fun a S=>Dl (⟨hk6,S.nf [true,true] rfl ⟨rfl,trivial⟩⟩)
  ·iterate 7 (refine Iy S rfl rfl rfl (Lk hb3) rfl ?_ rfl;clear S;intro a S)
   exact lv S (Jv (Ev Bj.Age Bx.Young Bx.Old) hb3 (S.tm rfl) rfl) rfl fun a S=>Dl (⟨Keep.refl _ _,S.nf [true,true] rfl ⟨rfl,trivial⟩⟩)
 clear S;rintro a w6 ⟨hk7,S⟩
 refine Va S rfl rfl fun a S=>Dl (wp_ret ?_)
 subst h
 exact Fw S results75 rfl rfl
theorem AS (w : World) (Ab : Value) (Al : List Qd) (Db : List Pn) (Ao : Slc (view w []) 5 Ab (Db.map Pn.enc)) (Ct : Iz (Sq (view w [])) Al Db) (Bj : Il) (r : (List ByteArray) × Int) (h : Wo Al Bj = some r) :
    Calls prog 45 [Ab,.agg (Il.enc Bj).toArray].toArray w (Ret w [] fun τ v _=>∃ u1 : Value,v = .tuple #[u1,iV r.2] ∧ Of τ 9 1 u1 r.1.length (r.1.flatMap Si)):=by
 refine Fe func45 rfl ntmps45 rfl fun a S=>?_
 unfold Wo at h
 replace S:=S.k2 0 1 rfl
 refine Fr (Qp S (S.tm rfl) (cs:=(Il.enc Bj)) rfl rfl ?_);clear S;intro a w1 b1 hz1 hk1 S
 refine Vk S rfl rfl fun a S=>Vk S rfl rfl fun a S=>Dl (Fs (Fr (Vm S rfl rfl ?_)));clear S;intro a S
 obtain ⟨r1,hr1,h⟩:=Gf h
 refine Em S (fun _=>Eg (vs:=[Ab]) ⟨(S.tm rfl),trivial⟩ call73) (Vd _ Ab Al Db (Ao.mono (S.le_arg Fh)) (DM (S.le_arg Fh) Ct) _ hr1) rfl ?_;clear S;intro v1 a w2 hv1 hk2 hn1 S
 subst hv1
 refine Va S rfl rfl fun a S=>Dz (Vm S rfl rfl fun a S=>Vq S Mq rfl rfl rfl fun a S=>Dl (Fc h (S.tm rfl) (fun hb1 h=>?_) (fun hb1 h=>?_)))
 ·refine Fr (Vm S rfl rfl fun a S=>Vk S rfl rfl fun a S=>Va S rfl rfl fun a S=>Dl (wp_ret (Ek ?_)))
  obtain rfl:=Option.some.inj h
  exact Kx S results45 rfl rfl ⟨_,rfl,(Jz _ _ _)⟩
 ·refine wp_skip (Tn (Fs (Fr (lv S (Hf isAgg106 sizeOf106 (off:=0) (o:=0) (part:=(Il.enc Bj)) rfl rfl (S.tm rfl) (S.cellsAt (i:=0) rfl)) rfl ?_))));clear S;intro a S
  obtain ⟨r2,hr2,h⟩:=Gf h
  refine Em S (fun _=>Eg (vs:=[.agg (Il.enc Bj).toArray]) ⟨(S.tm rfl),trivial⟩ call74) (Wd _ Bj _ hr2) rfl ?_;clear S;intro v2 a w3 hv2 hk3 hn2 S
  subst hv2
  refine Va S rfl rfl fun a S=>Dz (Vm S rfl rfl fun a S=>Vq S Mq rfl rfl rfl fun a S=>Ld ?_)
  replace S:=(S.nl [.blk b1 (Il.enc Bj) 106] [true] rfl).k4 0 3 7 19 rfl
  refine Tn (Fc h (S.tm rfl) (fun hb2 h=>?_) (fun hb2 h=>?_))
  ·refine Fr (Vm S rfl rfl fun a S=>Vk S rfl rfl fun a S=>Va S rfl rfl fun a S=>Dl (wp_ret (Ek ?_)))
   obtain rfl:=Option.some.inj h
   exact Kx S results45 rfl rfl ⟨_,rfl,(Jz _ _ _)⟩
  ·refine wp_skip (Tn (Fr (Vk S rfl rfl ?_)));clear S;intro a S
   replace S:=S.nil 9 1
   refine Dl (Fs (Fr (Vm S rfl rfl fun a S=>lv S (Fy Yb (S.tm rfl) (Tb Ao Ct)) rfl fun a S=>lv S (Rm rfl) rfl fun a S=>Dl ?_)))
   replace S:=(S.nl [.own (.slice none 0 0) 9 1 ([] : List ByteArray).length (([] : List ByteArray).flatMap Si),.blk b1 (Il.enc Bj) 106] [true,true] rfl).k5 3 8 21 22 23 rfl
   obtain ⟨j1,hj1,h⟩:=Ge h
   refine Ft (fun a w'=>∃ x1 : List ByteArray,∃ v3 : Value,j1 x1 = some r ∧ Sx w [] nov [.own v3 9 1 x1.length (x1.flatMap Si),.blk b1 (Il.enc Bj) 106] [(8,v3)] 37 a w') ?_ ?_
   ·refine wp_block (Hh (fun (ys1 : List Qd) a w'=>∃ i1 : Nat,∃ x1 : List ByteArray,∃ v3 : Value,(∃ dn,Al = dn ++ ys1 ∧ dn.length = i1) ∧ Mn Bj j1 ys1 i1 x1 = some r ∧ Sx w [] nov [.own v3 9 1 x1.length (x1.flatMap Si),.blk b1 (Il.enc Bj) 106] [(3,.pointer (some ⟨b1,0,none⟩)),(8,v3),(21,Ab),(22,iV (Al.length : Int)),(23,iV (i1 : Int))] 37 a w') List.length Al ⟨0,([] : List ByteArray),(.slice none 0 0),⟨[],rfl,rfl⟩,h,S.nf [true,true] rfl (subR rfl)⟩ ?_)
    clear S h;rintro ys1 a w4 ⟨i1,x1,v3,⟨dn,hd1,hi1⟩,h,S⟩
    cases ys1 with
    | nil =>
     rw [Mn.eq_1] at h
     refine Fr (Vb S Fm rfl rfl rfl fun a S=>Ld ?_)
     replace S:=S.k6 3 8 21 22 23 24 rfl
     exact Tn (Fs (wp_cond_false ((S.tm rfl).trans (congrArg Value.bool (Ih hd1 hi1))) (wp_exit (Fj (Fj (He (Tn (⟨x1,v3,h,S.nf [true,true] rfl ⟨rfl,trivial⟩⟩))))))))
    | cons y1 ys1 =>
     rw [Mn.eq_2] at h
     refine Fr (Vb S Fm rfl rfl rfl fun a S=>Ld ?_)
     replace S:=S.k6 3 8 21 22 23 24 rfl
     refine Tn (Fs (wp_cond_true ((S.tm rfl).trans (congrArg Value.bool (Hb hd1 hi1))) (wp_skip (Tn (Fs ?_)))))
     obtain ⟨j2,hj2,h⟩:=Ge h
     refine Ft (fun a w'=>∃ x2 : List ByteArray,∃ v4 : Value,j2 x2 = some r ∧ Sx w [] nov [.own v4 9 1 x2.length (x2.flatMap Si),.blk b1 (Il.enc Bj) 106] [(3,.pointer (some ⟨b1,0,none⟩)),(8,v4),(21,Ab),(22,iV (Al.length : Int)),(23,iV (i1 : Int))] 37 a w') ?_ ?_
     ·refine wp_block (Fs (Fg ?_))
      obtain ⟨r3,hg1,hl1⟩:=Iz.at Ct (Ig hd1 hi1)
      obtain ⟨u1,rfl,hs1⟩:=hl1
      obtain ⟨b2,o1,hm1,hr3⟩:=Ff (a:=a) (x:=.tmp 21) (y:=.tmp 23) (ty:=0) Yb Ao hg1 rfl (S.tm rfl) (S.tm rfl)
      refine lv S (hr3 _) rfl ?_;clear S;intro a S
      clear hr3
      refine lv S (Hf isAgg103 sizeOf103 (off:=o1) (o:=0) (part:=[sV y1.Key,sV y1.Race,u1.val,iV y1.Young,iV y1.Old]) rfl rfl (S.tm rfl) (hm1.at S.emb0)) rfl fun a S=>Lm S zeroValue103 (cs:=[sV En,sV En,.slice none 0 0,iV 0,iV 0]) rfl rfl ?_;clear S;intro a w7 b3 hz2 hk4 S
      refine Ki S (S.tm rfl) (S.tm rfl) (i:=0) (off:=0) rfl sizeOf103 (vs:=[sV y1.Key,sV y1.Race,u1.val,iV y1.Young,iV y1.Old]) rfl rfl rfl (Ys rfl (Ys rfl (Ys (Eo.one (Eh hs1)) (Ys rfl (Ys rfl rfl))))) ?_;clear S;intro w8 hk5 S
      refine Dz (lv S (Hf isAgg103 sizeOf103 (off:=0) (o:=0) (part:=[sV y1.Key,sV y1.Race,u1.val,iV y1.Young,iV y1.Old]) rfl rfl (S.tm rfl) (S.cellsAt (i:=0) rfl)) rfl fun a S=>lv S (Hf isAgg106 sizeOf106 (off:=0) (o:=0) (part:=(Il.enc Bj)) rfl rfl (S.tm rfl) (S.cellsAt (i:=2) rfl)) rfl fun a S=>Em S (fun _=>Eg (vs:=[.agg (Pn.enc (Pn.mk y1.Key y1.Race u1 y1.Young y1.Old)).toArray,.agg (Il.enc Bj).toArray]) ⟨(S.tm rfl),(S.tm rfl),trivial⟩ call75) (Yy _ y1 (Pn.mk y1.Key y1.Race u1 y1.Young y1.Old) ⟨u1,rfl,(hs1.mono (S.le_arg Fh))⟩ Bj _ rfl) rfl ?_);clear S;intro v5 a w9 hv3 hk6 hn3 S
      subst hv3
      refine Dl ?_
      obtain ⟨j3,hj3,h⟩:=Ge h
      refine Ft (fun a w'=>∃ x3 : List ByteArray,∃ v6 : Value,j3 x3 = some r ∧ Sx w [] nov [.own v6 9 1 x3.length (x3.flatMap Si),.blk b1 (Il.enc Bj) 106] [(3,.pointer (some ⟨b1,0,none⟩)),(8,v6),(21,Ab),(22,iV (Al.length : Int)),(23,iV (i1 : Int))] 37 a w') ?_ ?_
      ·refine Fc h (S.tm rfl) (fun hb3 h=>?_) (fun hb3 h=>?_)
       ·refine Fg (Vm S rfl rfl fun a S=>Vf Xk S rfl rfl fun a S=>Vl isAgg9 0 S rfl rfl rfl rfl fun a S=>Fo S underlying47 sizeOf9 zeroValue9 rfl rfl (pv:=[(0,sV y1.Key)]) ⟨rfl,(S.tm rfl),trivial⟩ (cs:=[sV y1.Key]) (by kernel_rfl) rfl ?_);clear S;intro a w11 b4 hz3 hk7 S
        obtain ⟨hc1,h⟩:=Hu h
        refine Ov Qi Rr S (S.tm rfl) (i:=2) rfl (S.tm rfl) (j:=0) rfl (ys:=[y1.Key]) rfl rfl rfl rfl (by have:=Le hc1;omega) rfl ?_;clear S;intro v7 a w12 hk8 S
        refine Va S rfl rfl fun a S=>Ld ?_
        replace S:=(S.nl [.own v7 9 1 (x1 ++ [y1.Key]).length ((x1 ++ [y1.Key]).flatMap Si),.blk b1 (Il.enc Bj) 106] [false,false,true,true] rfl).k5 3 8 21 22 23 rfl
        exact Tn (⟨(x1 ++ [y1.Key]),v7,h,S.nf [true,true] rfl (subR rfl)⟩)
       ·exact wp_skip (Tn (⟨x1,v3,h,S.nf [false,true,true] rfl (subR rfl)⟩))
      clear S h;rintro a w10 ⟨x3,v6,h,S⟩;rw [hj3] at h;clear hj3 j3
      exact Jc (Tn (⟨x3,v6,h,S.nf [true,true] rfl (subR rfl)⟩))
     clear S h;rintro a w6 ⟨x2,v4,h,S⟩;rw [hj2] at h;clear hj2 j2
     exact Tn (Fg (Vq S Gd rfl rfl rfl fun a S=>Vm S rfl rfl fun a S=>Dl (⟨ys1,⟨i1 + 1,x2,v4,⟨_,(hd1).trans (List.append_cons _ _ _),by simp [hi1]⟩,h,S.nf [true,true] rfl ⟨rfl,rfl,rfl,rfl,(congrArg (fun z=>some (Value.int .i64 z)) (Hc hd1 hi1 (Um Ao Ct))),trivial⟩⟩,Nat.lt_succ_self _⟩)))
   clear S h;rintro a w5 ⟨x1,v3,h,S⟩;rw [hj1] at h;clear hj1 j1
   refine Tn (Fr (Vm S rfl rfl fun a S=>Va S rfl rfl fun a S=>Vk S rfl rfl fun a S=>Dl (wp_ret ?_)))
   obtain rfl:=Option.some.inj h
   exact Kx S results45 rfl rfl ⟨_,rfl,(Qb S (i:=0) rfl rfl)⟩
theorem Xm (w : World) (Ab : Value) (Al : List Int) (Ao : Slc (view w []) 1 Ab (Al.map eInt)) (r : Int) (h : Ka Al = r) :
    Calls prog 46 [Ab].toArray w (Ret w [] fun _ v _=>v = iV r):=by
 refine Fe func46 rfl ntmps46 rfl fun a S=>?_
 unfold Ka at h
 replace S:=S.k1 0 rfl
 refine Fr (Vk S rfl rfl fun a S=>Dl (Fs (Fr (Vm S rfl rfl fun a S=>lv S (Fy HZ (S.tm rfl) (Eh Ao)) rfl fun a S=>lv S (Rm rfl) rfl ?_))));clear S;intro a S
 refine Dl ?_
 replace S:=S.k3 5 6 7 rfl
 obtain ⟨j1,hj1,h⟩:=Ge h
 refine Ft (fun a w'=>j1 = r ∧ Sx w [] nov [] [] 15 a w') ?_ ?_
 ·refine wp_block (Hh (fun (ys1 : List Int) a w'=>∃ i1 : Nat,(∃ dn,Al = dn ++ ys1 ∧ dn.length = i1) ∧ Kj j1 ys1 i1 = r ∧ Sx w [] nov [] [(5,Ab),(6,iV (Al.length : Int)),(7,iV (i1 : Int))] 15 a w') List.length Al ⟨0,⟨[],rfl,rfl⟩,h,S.nf [] rfl (subR rfl)⟩ ?_)
  clear S h;rintro ys1 a w1 ⟨i1,⟨dn,hd1,hi1⟩,h,S⟩
  cases ys1 with
  | nil =>
   rw [Kj.eq_1] at h
   refine Fr (Vb S Fm rfl rfl rfl fun a S=>Ld ?_)
   replace S:=S.k4 5 6 7 8 rfl
   exact Tn (Fs (wp_cond_false ((S.tm rfl).trans (congrArg Value.bool (Ih hd1 hi1))) (wp_exit (Fj (Fj (He (Tn (⟨h,S.nf [] rfl trivial⟩))))))))
  | cons y1 ys1 =>
   rw [Kj.eq_2] at h
   refine Fr (Vb S Fm rfl rfl rfl fun a S=>Ld ?_)
   replace S:=S.k4 5 6 7 8 rfl
   refine Tn (Fs (wp_cond_true ((S.tm rfl).trans (congrArg Value.bool (Hb hd1 hi1))) (wp_skip (Tn (Fs (wp_block (Fs (Fg ?_))))))))
   obtain ⟨b1,o1,hm1,hr1⟩:=Ff (a:=a) (x:=.tmp 5) (y:=.tmp 7) (ty:=0) HZ Ao (Ig hd1 hi1) rfl (S.tm rfl) (S.tm rfl)
   refine lv S (hr1 _) rfl ?_;clear S;intro a S
   clear hr1
   refine lv S (Gt isAgg33 (off:=o1) (o:=0) (S.tm rfl) (hm1.at S.emb0) rfl) rfl fun a S=>Va S rfl rfl fun a S=>Dz (Vm S rfl rfl fun a S=>Vq S Mq rfl rfl rfl fun a S=>Dl (Fc h (S.tm rfl) (fun hb1 h=>?_) (fun hb1 h=>?_)))
   ·refine Fr (Vm S rfl rfl fun a S=>Va S rfl rfl fun a S=>Dl (wp_ret (Gu (Ek (Ek (Gu ?_))))))
    refine Ek (Ek ?_)
    subst h
    exact Fw S results46 rfl rfl
   ·exact wp_skip (Jc (Tn (Fg (Vq S Gd rfl rfl rfl fun a S=>Vm S rfl rfl fun a S=>Dl (⟨ys1,⟨i1 + 1,⟨_,(hd1).trans (List.append_cons _ _ _),by simp [hi1]⟩,h,S.nf [] rfl ⟨rfl,rfl,(congrArg (fun z=>some (Value.int .i64 z)) (Hc hd1 hi1 (Jx Ao))),trivial⟩⟩,Nat.lt_succ_self _⟩)))))
 clear S h;rintro a w2 ⟨h,S⟩;rw [hj1] at h;clear hj1 j1
 refine Tn (Fr (Vk S rfl rfl fun a S=>Dl (wp_ret ?_)))
 subst h
 exact Fw S results46 rfl rfl
theorem Wq (w : World) (r : Bool) (h : Qm = some r) :
    Calls prog 18 [].toArray w (Ret w [] fun _ v _=>v = bV r):=by
 refine Fe func18 rfl ntmps18 rfl fun a S=>?_
 unfold Qm at h
 replace S:=S.k0
 refine Fr (Vk S rfl rfl fun a S=>Dz (lv S (Nl bt_94 (pv:=[(0,iV 2024),(1,iV 3),(2,iV 1)]) ⟨rfl,rfl,rfl,rfl,rfl,rfl,trivial⟩ (cs:=[iV 2024,iV 3,iV 1]) (by kernel_rfl)) rfl ?_));clear S;intro a S
 obtain ⟨r1,hr1,h⟩:=Gf h
 refine Em S (fun _=>Eg (vs:=[.agg (Jw.enc (Jw.mk 2024 3 1)).toArray]) ⟨(S.tm rfl),trivial⟩ call42) (Yj _ (Jw.mk 2024 3 1) _ hr1) rfl ?_;clear S;intro v1 a w1 hv1 hk1 hn1 S
 subst hv1
 refine Vm S rfl rfl fun a S=>Vq S Gv rfl rfl rfl fun a S=>Vq S Gv rfl rfl rfl fun a S=>Va S rfl rfl fun a S=>Va S rfl rfl fun a S=>Dz (lv S (Nl bt_54 (pv:=[(0,sV k_a),(1,iV 2),(2,iV 10),(3,iV 5)]) ⟨rfl,rfl,rfl,rfl,rfl,rfl,rfl,rfl,trivial⟩ (cs:=[sV k_a,iV 2,iV 10,iV 5,iV 0]) (by kernel_rfl)) rfl fun a S=>Fo S underlying26 sizeOf54 zeroValue54 rfl rfl (pv:=[(0,.agg #[sV k_a,iV 2,iV 10,iV 5,iV 0])]) ⟨rfl,(S.tm rfl),trivial⟩ (cs:=[sV k_a,iV 2,iV 10,iV 5,iV 0]) (by kernel_rfl) rfl ?_);clear S;intro a w2 b1 hz1 hk2 S
 obtain ⟨r2,hr2,h⟩:=Gf h
 refine Em S (fun _=>Eg (vs:=[.slice (some ⟨b1,0,none⟩) 1 1,iV 0]) ⟨(S.tm rfl),rfl,trivial⟩ call43) (Yx _ (.slice (some ⟨b1,0,none⟩) 1 1) [(Ed.mk k_a 2 10 5 0)] (Ou Ed.enc_ok S (i:=0) rfl rfl rfl rfl ((Gr (e':=.blk b1 [sV k_a,iV 2,iV 10,iV 5,iV 0] 54)) _ rfl)) 0 _ hr2) rfl ?_;clear S;intro v2 a w3 hv2 hk3 hn2 S
 subst hv2
 refine Vm S rfl rfl fun a S=>Vq S Gv rfl rfl rfl fun a S=>Vq S Gv rfl rfl rfl fun a S=>Va S rfl rfl fun a S=>Va S rfl rfl fun a S=>Ld ?_
 replace S:=S.n0.k4 1 2 3 4 rfl
 refine Tn (Fr (lv S (Nl bt_98 (pv:=[(0,sV k_r),(1,iV 3000)]) ⟨rfl,rfl,rfl,rfl,trivial⟩ (cs:=[sV k_r,iV 3000]) (by kernel_rfl)) rfl fun a S=>Fo S underlying99 sizeOf98 zeroValue98 rfl rfl (pv:=[(0,.agg #[sV k_r,iV 3000])]) ⟨rfl,(S.tm rfl),trivial⟩ (cs:=[sV k_r,iV 3000]) (by kernel_rfl) rfl ?_));clear S;intro a w4 b2 hz2 hk4 S
 obtain ⟨r3,hr3,h⟩:=Gf h
 refine Em S (fun _=>Eg (vs:=[.slice (some ⟨b2,0,none⟩) 1 1,sV k_r,iV 6000]) ⟨(S.tm rfl),rfl,rfl,trivial⟩ call44) (Ym _ (.slice (some ⟨b2,0,none⟩) 1 1) [(Ns.mk k_r 3000)] (Ou Ns.enc_ok S (i:=0) rfl rfl rfl rfl ((Gr (e':=.blk b2 [sV k_r,iV 3000] 98)) _ rfl)) k_r 6000 _ hr3) rfl ?_;clear S;intro v3 a w5 hv3 hk5 hn3 S
 subst hv3
 refine Vm S rfl rfl fun a S=>Vq S Gv rfl rfl rfl fun a S=>Vq S Gv rfl rfl rfl fun a S=>Va S rfl rfl fun a S=>Va S rfl rfl fun a S=>Dz (lv S (Nl bt_103 (pv:=[(0,sV k_k),(1,sV k_r),(4,iV 9)]) ⟨rfl,rfl,rfl,rfl,rfl,rfl,trivial⟩ (cs:=[sV k_k,sV k_r,.slice none 0 0,iV 0,iV 9]) (by kernel_rfl)) rfl fun a S=>Fo S underlying104 sizeOf103 zeroValue103 rfl rfl (pv:=[(0,.agg #[sV k_k,sV k_r,.slice none 0 0,iV 0,iV 9])]) ⟨rfl,(S.tm rfl),trivial⟩ (cs:=[sV k_k,sV k_r,.slice none 0 0,iV 0,iV 9]) (by kernel_rfl) rfl ?_);clear S;intro a w6 b3 hz3 hk6 S
 refine lv S (Nl ID (pv:=[(1,iV 1),(2,sV k_i),(3,sV k_a),(5,sV k_r),(7,iV 5)]) ⟨rfl,rfl,rfl,rfl,rfl,rfl,rfl,rfl,rfl,rfl,trivial⟩ (cs:=[iV 0,iV 1,sV k_i,sV k_a,sV En,sV k_r,iV 0,iV 5]) (by kernel_rfl)) rfl ?_;clear S;intro a S
 have hr4 : Iz (Sq nov) ([(Qd.mk k_k k_r ([] : List ByteArray) 0 9)] : List Qd) ([(Pn.mk k_k k_r ⟨.slice none 0 0,rfl⟩ 0 9)] : List Pn):=(Iz.cons ⟨⟨.slice none 0 0,rfl⟩,rfl,(BZ _ _)⟩ Iz.nil)
 replace S:=S.litOwn (i:=0) (xs:=([(Pn.mk k_k k_r ⟨.slice none 0 0,rfl⟩ 0 9)] : List Pn)) rfl Pn.enc_ok rfl rfl rfl
 replace S:=S.nk [.own (.slice (some ⟨b3,0,none⟩) 1 1) 103 5 ([(Pn.mk k_k k_r ⟨.slice none 0 0,rfl⟩ 0 9)] : List Pn).length (([(Pn.mk k_k k_r ⟨.slice none 0 0,rfl⟩ 0 9)] : List Pn).flatMap Pn.enc),.blk b2 [sV k_r,iV 3000] 98] [(1,iV r1.1),(2,iV r1.2),(3,iV r2.1),(4,iV r2.2),(5,iV r3.1),(6,iV r3.2),(20,.tuple #[iV r3.1,iV r3.2]),(21,.agg #[sV k_r,iV 3000]),(22,.slice (some ⟨b2,0,none⟩) 1 1),(23,.tuple #[iV r3.1,iV r3.2]),(24,iV r3.1),(25,iV r3.2),(27,.agg #[sV k_k,sV k_r,.slice none 0 0,iV 0,iV 9]),(28,(.slice (some ⟨b3,0,none⟩) 1 1)),(29,.agg (Il.enc (Il.mk 0 1 k_i k_a En k_r 0 5)).toArray)] [] rfl (subR rfl)
 obtain ⟨r4,hr5,h⟩:=Gf h
 have hz4:=S.keep.size
 refine Em S (fun _=>Eg (vs:=[(.slice (some ⟨b3,0,none⟩) 1 1),.agg (Il.enc (Il.mk 0 1 k_i k_a En k_r 0 5)).toArray]) ⟨(S.tm rfl),(S.tm rfl),trivial⟩ call45) (AS _ (.slice (some ⟨b3,0,none⟩) 1 1) ([(Qd.mk k_k k_r ([] : List ByteArray) 0 9)] : List Qd) ([(Pn.mk k_k k_r ⟨.slice none 0 0,rfl⟩ 0 9)] : List Pn) (Mr Pn.enc_ok S (i:=0) rfl (Gr (e':=.own (.slice (some ⟨b3,0,none⟩) 1 1) 103 5 ([(Pn.mk k_k k_r ⟨.slice none 0 0,rfl⟩ 0 9)] : List Pn).length (([(Pn.mk k_k k_r ⟨.slice none 0 0,rfl⟩ 0 9)] : List Pn).flatMap Pn.enc)))) (DM (S.le_new Fh) hr4) (Il.mk 0 1 k_i k_a En k_r 0 5) _ hr5) rfl ?_;clear S;intro v4 a w7 hv4 hk7 hn4 S
 obtain ⟨u1,rfl,ho1⟩:=hv4
 obtain ⟨φ1,hl1,hm1,S⟩:=S.see' hn4 hz4
 have hs1:=ho1.mono hm1
 refine Vm S rfl rfl fun a S=>Vq S Gv rfl rfl rfl fun a S=>Vq S Gv rfl rfl rfl fun a S=>Va S rfl rfl fun a S=>Va S rfl rfl fun a S=>Ld ?_
 replace S:=S.n0.k8 1 2 3 4 5 6 7 8 rfl
 refine Tn (Fs (Fg ?_))
 iterate 4 (refine Vm S rfl rfl ?_;clear S;intro a S)
 refine Fo S underlying135 sizeOf33 zeroValue33 rfl rfl (pv:=[(0,iV r1.2),(1,iV r2.2),(2,iV r3.2),(3,iV r4.2)]) ⟨rfl,(S.tm rfl),rfl,(S.tm rfl),rfl,(S.tm rfl),rfl,(S.tm rfl),trivial⟩ (cs:=[iV r1.2,iV r2.2,iV r3.2,iV r4.2]) (by kernel_rfl) rfl ?_;clear S;intro a w8 b4 hz5 hk8 S
 refine Em S (fun _=>Eg (vs:=[.slice (some ⟨b4,0,none⟩) 4 4]) ⟨(S.tm rfl),trivial⟩ call46) (Xm _ (.slice (some ⟨b4,0,none⟩) 4 4) [r1.2,r2.2,r3.2,r4.2] (Ou Gw S (i:=0) rfl rfl rfl rfl ((Gr (e':=.blk b4 [iV r1.2,iV r2.2,iV r3.2,iV r4.2] 33)) _ rfl)) _ rfl) rfl ?_;clear S;intro v5 a w9 hv5 hk9 hn5 S
 subst hv5
 refine Vq S Mc rfl rfl rfl fun a S=>Vm S rfl rfl fun a S=>Jy 3 (fun a w'=>Keep [] w9 w' ∧ Sx w [] φ1 [.blk b4 [iV r1.2,iV r2.2,iV r3.2,iV r4.2] 33] [(3,iV r2.1),(5,iV r3.1),(7,u1),(43,bV ((decide ((Ka [r1.2,r2.2,r3.2,r4.2]) = 0)) && (decide (r1.1 = 60))))] 57 a w') ?_ ?_
 ·rcases Bool.eq_false_or_eq_true (decide ((Ka [r1.2,r2.2,r3.2,r4.2]) = 0)) with hb1 | hb1
  ·exact Er S rfl rfl rfl hb1 (Vm S rfl rfl fun a S=>Er S rfl rfl rfl hb1 (Vq S Mc rfl rfl rfl fun a S=>lv S (Ju hb1 (S.tm rfl) (S.tm rfl)) rfl fun a S=>Dl (⟨Keep.refl _ _,S.nf [true] rfl (subR rfl)⟩)))
  ·exact Iy S rfl rfl rfl (Lk hb1) rfl (fun a S=>Iy S rfl rfl rfl (Lk hb1) rfl (fun a S=>lv S (Jv (decide (r1.1 = 60)) hb1 (S.tm rfl) rfl) rfl fun a S=>Dl (⟨Keep.refl _ _,S.nf [true] rfl (subR rfl)⟩)) rfl) rfl
 clear S;rintro a w10 ⟨hk10,S⟩
 refine Vm S rfl rfl fun a S=>Jy 3 (fun a w'=>Keep [] w10 w' ∧ Sx w [] φ1 [.blk b4 [iV r1.2,iV r2.2,iV r3.2,iV r4.2] 33] [(5,iV r3.1),(7,u1),(47,bV (((decide ((Ka [r1.2,r2.2,r3.2,r4.2]) = 0)) && (decide (r1.1 = 60))) && (decide (r2.1 = 25))))] 57 a w') ?_ ?_
 ·rcases Bool.eq_false_or_eq_true ((decide ((Ka [r1.2,r2.2,r3.2,r4.2]) = 0)) && (decide (r1.1 = 60))) with hb2 | hb2
  ·exact Er S rfl rfl rfl hb2 (Vm S rfl rfl fun a S=>Er S rfl rfl rfl hb2 (Vq S Mc rfl rfl rfl fun a S=>lv S (Ju hb2 (S.tm rfl) (S.tm rfl)) rfl fun a S=>Dl (⟨Keep.refl _ _,S.nf [true] rfl (subR rfl)⟩)))
  ·exact Iy S rfl rfl rfl (Lk hb2) rfl (fun a S=>Iy S rfl rfl rfl (Lk hb2) rfl (fun a S=>lv S (Jv (decide (r2.1 = 25)) hb2 (S.tm rfl) rfl) rfl fun a S=>Dl (⟨Keep.refl _ _,S.nf [true] rfl (subR rfl)⟩)) rfl) rfl
 clear S;rintro a w11 ⟨hk11,S⟩
 refine Vm S rfl rfl fun a S=>Jy 3 (fun a w'=>Keep [] w11 w' ∧ Sx w [] φ1 [.blk b4 [iV r1.2,iV r2.2,iV r3.2,iV r4.2] 33] [(7,u1),(51,bV ((((decide ((Ka [r1.2,r2.2,r3.2,r4.2]) = 0)) && (decide (r1.1 = 60))) && (decide (r2.1 = 25))) && (decide (r3.1 = 125))))] 57 a w') ?_ ?_
 ·rcases Bool.eq_false_or_eq_true (((decide ((Ka [r1.2,r2.2,r3.2,r4.2]) = 0)) && (decide (r1.1 = 60))) && (decide (r2.1 = 25))) with hb3 | hb3
  ·exact Er S rfl rfl rfl hb3 (Vm S rfl rfl fun a S=>Er S rfl rfl rfl hb3 (Vq S Mc rfl rfl rfl fun a S=>lv S (Ju hb3 (S.tm rfl) (S.tm rfl)) rfl fun a S=>Dl (⟨Keep.refl _ _,S.nf [true] rfl (subR rfl)⟩)))
  ·exact Iy S rfl rfl rfl (Lk hb3) rfl (fun a S=>Iy S rfl rfl rfl (Lk hb3) rfl (fun a S=>lv S (Jv (decide (r3.1 = 125)) hb3 (S.tm rfl) rfl) rfl fun a S=>Dl (⟨Keep.refl _ _,S.nf [true] rfl (subR rfl)⟩)) rfl) rfl
 clear S;rintro a w12 ⟨hk12,S⟩
 refine Vm S rfl rfl fun a S=>Jy 4 (fun a w'=>Keep [] w12 w' ∧ Sx w [] φ1 [.blk b4 [iV r1.2,iV r2.2,iV r3.2,iV r4.2] 33] [(56,bV (((((decide ((Ka [r1.2,r2.2,r3.2,r4.2]) = 0)) && (decide (r1.1 = 60))) && (decide (r2.1 = 25))) && (decide (r3.1 = 125))) && (decide ((r4.1.length : Int) = 1))))] 57 a w') ?_ ?_
 ·rcases Bool.eq_false_or_eq_true ((((decide ((Ka [r1.2,r2.2,r3.2,r4.2]) = 0)) && (decide (r1.1 = 60))) && (decide (r2.1 = 25))) && (decide (r3.1 = 125))) with hb4 | hb4
  ·exact Er S rfl rfl rfl hb4 (Vm S rfl rfl fun a S=>Er S rfl rfl rfl hb4 (lv S (Fy Qi (S.tm rfl) (Eh (Fv Rr hs1))) rfl fun a S=>Er S rfl rfl rfl hb4 (Vq S Mc rfl rfl rfl fun a S=>lv S (Ju hb4 (S.tm rfl) (S.tm rfl)) rfl fun a S=>Dl (⟨Keep.refl _ _,S.nf [true] rfl ⟨rfl,trivial⟩⟩))))
  ·iterate 3 (refine Iy S rfl rfl rfl (Lk hb4) rfl ?_ rfl;clear S;intro a S)
   exact lv S (Jv (decide ((r4.1.length : Int) = 1)) hb4 (S.tm rfl) rfl) rfl fun a S=>Dl (⟨Keep.refl _ _,S.nf [true] rfl ⟨rfl,trivial⟩⟩)
 clear S;rintro a w13 ⟨hk13,S⟩
 refine Va S rfl rfl fun a S=>Dl (wp_ret ?_)
 obtain rfl:=Option.some.inj h
 exact Fw S results18 rfl rfl
theorem Sl (w : World) (Ab : Value) (Al : List Int) (Ao : Slc (view w []) 1 Ab (Al.map eInt)) (r : Bool) (h : Mh Al = some r) :
    Calls prog 3 [Ab].toArray w (Ret w [] fun _ v _=>v = bV r):=by
 refine Fe func3 rfl ntmps3 rfl fun a S=>?_
 unfold Mh at h
 replace S:=S.k1 0 rfl
 refine Fr (Vk S rfl rfl fun a S=>Dz (Vm S rfl rfl ?_));clear S;intro a S
 refine lv S (Nl bt_25 (pv:=[(0,Ab)]) ⟨rfl,(S.tm rfl),trivial⟩ (cs:=[Ab,iV 0]) (by obtain ⟨_,_,hv⟩:=(Eh Ao);rw [hv];clear hv;kernel_rfl)) rfl ?_;clear S;intro a S
 refine Qp S (S.tm rfl) (cs:=[Ab,iV 0]) rfl rfl ?_;clear S;intro a w1 b1 hz1 hk1 S
 refine Vm S rfl rfl ?_;clear S;intro a S
 refine lv S (Nl bt_25 (pv:=[(0,Ab)]) ⟨rfl,(S.tm rfl),trivial⟩ (cs:=[Ab,iV 0]) (by obtain ⟨_,_,hv⟩:=(Eh Ao);rw [hv];clear hv;kernel_rfl)) rfl ?_;clear S;intro a S
 refine Qp S (S.tm rfl) (cs:=[Ab,iV 0]) rfl rfl ?_;clear S;intro a w2 b2 hz2 hk2 S
 refine Va S rfl rfl fun a S=>Va S rfl rfl fun a S=>Dz (Vm S rfl rfl ?_);clear S;intro a S
 obtain ⟨r1,hr1,h⟩:=Gf h
 have hz3:=S.keep.size
 refine Jf 1 S (b:=b1) rfl rfl (fun _=>.blk b1 [Ab,iV r1.2] 25) (fun _=>Eg (vs:=[.pointer (some ⟨b1,0,none⟩),iV 4]) ⟨(S.tm rfl),rfl,trivial⟩ call4) (Rv _ b1 Ab Al (Ao.mono (S.le_arg (Ew (i:=1) (e:=.blk b1 [Ab,iV 0] 25) rfl))) 0 (S.holds _ (List.mem_of_getElem? (i:=1) rfl)) 4 _ hr1) rfl (fun _ _ _ h=>⟨h.1,fun _ hc=>by cases hc;rfl⟩) ?_;clear S;intro v1 a w3 hv1 hk3 hn1 S
 replace hv1:=hv1.2
 obtain ⟨φ1,hl1,hm1,S⟩:=S.see' hn1 hz3
 have hs1:=hv1.mono hm1
 refine Vm S rfl rfl ?_;clear S;intro a S
 obtain ⟨r2,hr2,h⟩:=Gf h
 have hz4:=S.keep.size
 refine Jf 0 S (b:=b2) rfl rfl (fun _=>.blk b2 [Ab,iV r2.2] 25) (fun _=>Eg (vs:=[.pointer (some ⟨b2,0,none⟩),iV 4]) ⟨(S.tm rfl),rfl,trivial⟩ call4) (Rv _ b2 Ab Al (Ao.mono (S.le_arg (Ew (i:=0) (e:=.blk b2 [Ab,iV 0] 25) rfl))) 0 (S.holds _ (List.mem_of_getElem? (i:=0) rfl)) 4 _ hr2) rfl (fun _ _ _ h=>⟨h.1,fun _ hc=>by cases hc;rfl⟩) ?_;clear S;intro v2 a w4 hv2 hk4 hn2 S
 replace hv2:=hv2.2
 obtain ⟨φ2,hl2,hm2,S⟩:=S.see' hn2 hz4
 have hs2:=hv2.mono hm2
 refine Va S rfl rfl fun a S=>Va S rfl rfl fun a S=>Ld ?_
 replace S:=(S.nl [.blk b2 [Ab,iV r2.2] 25,.blk b1 [Ab,iV r1.2] 25] [true,true] rfl).k4 3 4 5 6 rfl
 refine Tn (Fr (Vm S rfl rfl fun a S=>Vm S rfl rfl ?_));clear S;intro a S
 obtain ⟨r3,hr3,h⟩:=Gf h
 have hz5:=S.keep.size
 refine Jf 1 S (b:=b1) rfl rfl (fun _=>.blk b1 [Ab,iV r3.2] 25) (fun _=>Eg (vs:=[.pointer (some ⟨b1,0,none⟩),v1]) ⟨(S.tm rfl),(S.tm rfl),trivial⟩ call5) (Rx _ b1 Ab Al (Ao.mono (S.le_arg (Ew (i:=1) (e:=.blk b1 [Ab,iV r1.2] 25) rfl))) r1.2 (S.holds _ (List.mem_of_getElem? (i:=1) rfl)) v1 r1.1 ((Fv Ed.enc_ok hs1).mono (View.le_trans hl2 (S.le_new (Ew (i:=1) (e:=.blk b1 [Ab,iV r1.2] 25) rfl)))) _ hr3) rfl (fun _ _ _ h=>⟨h.1,fun _ hc=>by cases hc;rfl⟩) ?_;clear S;intro v3 a w5 hv3 hk5 hn3 S
 replace hv3:=hv3.2
 obtain ⟨φ3,hl3,hm3,S⟩:=S.see' hn3 hz5
 have hs3:=hv3.mono hm3
 refine Vm S rfl rfl fun a S=>Vm S rfl rfl ?_;clear S;intro a S
 obtain ⟨r4,hr4,h⟩:=Gf h
 have hz6:=S.keep.size
 refine Jf 0 S (b:=b2) rfl rfl (fun _=>.blk b2 [Ab,iV r4.2] 25) (fun _=>Eg (vs:=[.pointer (some ⟨b2,0,none⟩),v2]) ⟨(S.tm rfl),(S.tm rfl),trivial⟩ call5) (Rx _ b2 Ab Al (Ao.mono (S.le_arg (Ew (i:=0) (e:=.blk b2 [Ab,iV r2.2] 25) rfl))) r2.2 (S.holds _ (List.mem_of_getElem? (i:=0) rfl)) v2 r2.1 ((Fv Ed.enc_ok hs2).mono (View.le_trans hl3 (S.le_new (Ew (i:=0) (e:=.blk b2 [Ab,iV r2.2] 25) rfl)))) _ hr4) rfl (fun _ _ _ h=>⟨h.1,fun _ hc=>by cases hc;rfl⟩) ?_;clear S;intro v4 a w6 hv4 hk6 hn4 S
 replace hv4:=hv4.2
 obtain ⟨φ4,hl4,hm4,S⟩:=S.see' hn4 hz6
 have hs4:=hv4.mono hm4
 refine Va S rfl rfl fun a S=>Va S rfl rfl fun a S=>Dz (Vm S rfl rfl fun a S=>Vm S rfl rfl ?_);clear S;intro a S
 obtain ⟨r5,hr5,h⟩:=Gf h
 have hz7:=S.keep.size
 refine Jf 1 S (b:=b1) rfl rfl (fun _=>.blk b1 [Ab,iV r5.2] 25) (fun _=>Eg (vs:=[.pointer (some ⟨b1,0,none⟩),v1]) ⟨(S.tm rfl),(S.tm rfl),trivial⟩ call6) (Uf _ b1 Ab Al (Ao.mono (S.le_arg (Ew (i:=1) (e:=.blk b1 [Ab,iV r3.2] 25) rfl))) r3.2 (S.holds _ (List.mem_of_getElem? (i:=1) rfl)) v1 r1.1 ((Fv Ed.enc_ok hs1).mono (View.le_trans (View.le_trans (View.le_trans hl2 hl3) hl4) (S.le_new (Ew (i:=1) (e:=.blk b1 [Ab,iV r3.2] 25) rfl)))) _ hr5) rfl (fun _ _ _ h=>⟨h.1,fun _ hc=>by cases hc;rfl⟩) ?_;clear S;intro v5 a w7 hv5 hk7 hn5 S
 replace hv5:=hv5.2
 obtain ⟨φ5,hl5,hm5,S⟩:=S.see' hn5 hz7
 have hs5:=hv5.mono hm5
 refine Vm S rfl rfl fun a S=>Vm S rfl rfl ?_;clear S;intro a S
 obtain ⟨r6,hr6,h⟩:=Gf h
 have hz8:=S.keep.size
 refine Jf 0 S (b:=b2) rfl rfl (fun _=>.blk b2 [Ab,iV r6.2] 25) (fun _=>Eg (vs:=[.pointer (some ⟨b2,0,none⟩),v2]) ⟨(S.tm rfl),(S.tm rfl),trivial⟩ call6) (Uf _ b2 Ab Al (Ao.mono (S.le_arg (Ew (i:=0) (e:=.blk b2 [Ab,iV r4.2] 25) rfl))) r4.2 (S.holds _ (List.mem_of_getElem? (i:=0) rfl)) v2 r2.1 ((Fv Ed.enc_ok hs2).mono (View.le_trans (View.le_trans (View.le_trans hl3 hl4) hl5) (S.le_new (Ew (i:=0) (e:=.blk b2 [Ab,iV r4.2] 25) rfl)))) _ hr6) rfl (fun _ _ _ h=>⟨h.1,fun _ hc=>by cases hc;rfl⟩) ?_;clear S;intro v6 a w8 hv6 hk8 hn6 S
 replace hv6:=hv6.2
 obtain ⟨φ6,hl6,hm6,S⟩:=S.see' hn6 hz8
 have hs6:=hv6.mono hm6
 refine Va S rfl rfl fun a S=>Va S rfl rfl fun a S=>Ld ?_
 replace S:=S.n0.k6 5 6 7 8 9 10 rfl
 refine Tn (Fr (Vm S rfl rfl ?_));clear S;intro a S
 obtain ⟨r7,hr7,h⟩:=Gf h
 have hz9:=S.keep.size
 refine Em S (fun _=>Eg (vs:=[v1,iV 0]) ⟨(S.tm rfl),rfl,trivial⟩ call7) (Ry _ v1 r1.1 ((Fv Ed.enc_ok hs1).mono (View.le_trans (View.le_trans (View.le_trans (View.le_trans (View.le_trans hl2 hl3) hl4) hl5) hl6) (S.le_new Fh))) 0 _ hr7) rfl ?_;clear S;intro v7 a w9 hv7 hk9 hn7 S
 obtain ⟨u7,rfl,ho7⟩:=hv7
 replace S:=S.take hn7 hz9 ho7
 refine Vm S rfl rfl fun a S=>Vq S Gv rfl rfl rfl fun a S=>Vq S Gv rfl rfl rfl fun a S=>Va S rfl rfl fun a S=>Va S rfl rfl fun a S=>Dz (Vm S rfl rfl ?_);clear S;intro a S
 obtain ⟨r8,hr8,h⟩:=Gf h
 refine Nv 0 S rfl (fun _=>.own u7 40 4 r8.length (r8.flatMap Ee.enc)) (fun _=>Eg (vs:=[u7]) ⟨(S.tm rfl),trivial⟩ call8) (Qq _ u7 r7.1 (S.holds _ (List.mem_of_getElem? (i:=0) rfl)) _ hr8) rfl (fun _ _ _ h=>⟨h.1,fun _ hc=>hc⟩) ?_;clear S;intro v8 a w10 hv8 hk10 hn8 S
 replace hv8:=hv8.2
 subst hv8
 refine Ld ?_
 replace S:=S.n0.k6 5 6 7 8 9 10 rfl
 refine Tn (Fr (Vm S rfl rfl fun a S=>Vm S rfl rfl ?_));clear S;intro a S
 obtain ⟨r9,hr9,h⟩:=Gf h
 have hz10:=S.keep.size
 refine Em S (fun _=>Eg (vs:=[v1,v3,iV 0]) ⟨(S.tm rfl),(S.tm rfl),rfl,trivial⟩ call9) (Yf _ v1 r1.1 ((Fv Ed.enc_ok hs1).mono (View.le_trans (View.le_trans (View.le_trans (View.le_trans (View.le_trans hl2 hl3) hl4) hl5) hl6) (S.le_new Fh))) v3 r3.1 ((Fv Es.enc_ok hs3).mono (View.le_trans (View.le_trans (View.le_trans hl4 hl5) hl6) (S.le_new Fh))) 0 _ hr9) rfl ?_;clear S;intro v9 a w11 hv9 hk11 hn9 S
 obtain ⟨u8,rfl,ho8⟩:=hv9
 replace S:=S.take hn9 hz10 ho8
 refine Vm S rfl rfl fun a S=>Vq S Gv rfl rfl rfl fun a S=>Vq S Gv rfl rfl rfl fun a S=>Va S rfl rfl fun a S=>Va S rfl rfl fun a S=>Dz (Vm S rfl rfl ?_);clear S;intro a S
 obtain ⟨r10,hr10,h⟩:=Gf h
 refine Nv 0 S rfl (fun _=>.own u8 46 10 r10.length (r10.flatMap Gj.enc)) (fun _=>Eg (vs:=[u8]) ⟨(S.tm rfl),trivial⟩ call10) (Ti _ u8 r9.1 (S.holds _ (List.mem_of_getElem? (i:=0) rfl)) _ hr10) rfl (fun _ _ _ h=>⟨h.1,fun _ hc=>hc⟩) ?_;clear S;intro v10 a w12 hv10 hk12 hn10 S
 replace hv10:=hv10.2
 subst hv10
 refine Ld ?_
 replace S:=S.n0.k6 5 6 7 8 9 10 rfl
 refine Tn (Fr (Vm S rfl rfl fun a S=>Vm S rfl rfl ?_));clear S;intro a S
 obtain ⟨r11,hr11,h⟩:=Gf h
 have hz11:=S.keep.size
 refine Em S (fun _=>Eg (vs:=[v1,v3,iV 100]) ⟨(S.tm rfl),(S.tm rfl),rfl,trivial⟩ call11) (Yg _ v1 r1.1 ((Fv Ed.enc_ok hs1).mono (View.le_trans (View.le_trans (View.le_trans (View.le_trans (View.le_trans hl2 hl3) hl4) hl5) hl6) (S.le_new Fh))) v3 r3.1 ((Fv Es.enc_ok hs3).mono (View.le_trans (View.le_trans (View.le_trans hl4 hl5) hl6) (S.le_new Fh))) 100 _ hr11) rfl ?_;clear S;intro v11 a w13 hv11 hk13 hn11 S
 obtain ⟨u9,rfl,ho9⟩:=hv11
 obtain ⟨φ7,hl7,hm7,S⟩:=S.see' hn11 hz11
 have hs7:=ho9.mono hm7
 refine Vm S rfl rfl ?_;clear S;intro a S
 iterate 3 (refine Vq S Gv rfl rfl rfl ?_;clear S;intro a S)
 iterate 3 (refine Va S rfl rfl ?_;clear S;intro a S)
 refine Ld ?_
 replace S:=S.k7 5 6 7 8 9 10 15 rfl
 refine Tn (Fr (Vm S rfl rfl fun a S=>Vm S rfl rfl ?_));clear S;intro a S
 obtain ⟨r12,hr12,h⟩:=Gf h
 have hz12:=S.keep.size
 refine Em S (fun _=>Eg (vs:=[v1,u9]) ⟨(S.tm rfl),(S.tm rfl),trivial⟩ call12) (Yh _ v1 r1.1 ((Fv Ed.enc_ok hs1).mono (View.le_trans (View.le_trans (View.le_trans (View.le_trans (View.le_trans (View.le_trans hl2 hl3) hl4) hl5) hl6) hl7) (S.le_new Fh))) u9 r11.1 ((Fv Rr hs7).mono (S.le_new Fh)) _ hr12) rfl ?_;clear S;intro v12 a w14 hv12 hk14 hn12 S
 obtain ⟨u10,rfl,ho10⟩:=hv12
 replace S:=S.take hn12 hz12 ho10
 refine Vm S rfl rfl fun a S=>Vq S Gv rfl rfl rfl fun a S=>Vq S Gv rfl rfl rfl fun a S=>Va S rfl rfl fun a S=>Va S rfl rfl fun a S=>Ld ?_
 replace S:=(S.nl [.own u10 54 5 r12.1.length (r12.1.flatMap Ed.enc)] [true] rfl).k7 5 6 7 8 9 10 18 rfl
 refine Tn (Fr (Vm S rfl rfl ?_));clear S;intro a S
 obtain ⟨r13,hr13,h⟩:=Gf h
 refine Nv 0 S rfl (fun _=>.own u10 54 5 r13.length (r13.flatMap Ed.enc)) (fun _=>Eg (vs:=[u10]) ⟨(S.tm rfl),trivial⟩ call13) (Tj _ u10 r12.1 (S.holds _ (List.mem_of_getElem? (i:=0) rfl)) _ hr13) rfl (fun _ _ _ h=>⟨h.1,fun _ hc=>hc⟩) ?_;clear S;intro v13 a w15 hv13 hk15 hn13 S
 replace hv13:=hv13.2
 subst hv13
 refine Dz (Vm S rfl rfl fun a S=>Vm S rfl rfl ?_);clear S;intro a S
 obtain ⟨r14,hr14,h⟩:=Gf h
 have hz13:=S.keep.size
 refine Em S (fun _=>Eg (vs:=[v1,iV 0,v5]) ⟨(S.tm rfl),rfl,(S.tm rfl),trivial⟩ call14) (Yw _ v1 r1.1 ((Fv Ed.enc_ok hs1).mono (View.le_trans (View.le_trans (View.le_trans (View.le_trans (View.le_trans (View.le_trans hl2 hl3) hl4) hl5) hl6) hl7) (S.le_new Fh))) 0 v5 r5.1 ((Fv Ey.enc_ok hs5).mono (View.le_trans (View.le_trans hl6 hl7) (S.le_new Fh))) _ hr14) rfl ?_;clear S;intro v14 a w16 hv14 hk16 hn14 S
 obtain ⟨u11,rfl,ho11⟩:=hv14
 replace S:=S.take hn14 hz13 ho11
 refine Vm S rfl rfl fun a S=>Vq S Gv rfl rfl rfl fun a S=>Vq S Gv rfl rfl rfl fun a S=>Va S rfl rfl fun a S=>Va S rfl rfl fun a S=>Ld ?_
 replace S:=(S.nl [.own u11 40 4 r14.1.length (r14.1.flatMap Ee.enc)] [true,false] rfl).k7 5 6 7 8 9 10 20 rfl
 refine Tn (Fr (Vm S rfl rfl ?_));clear S;intro a S
 obtain ⟨r15,hr15,h⟩:=Gf h
 refine Nv 0 S rfl (fun _=>.own u11 40 4 r15.length (r15.flatMap Ee.enc)) (fun _=>Eg (vs:=[u11]) ⟨(S.tm rfl),trivial⟩ call8) (Qq _ u11 r14.1 (S.holds _ (List.mem_of_getElem? (i:=0) rfl)) _ hr15) rfl (fun _ _ _ h=>⟨h.1,fun _ hc=>hc⟩) ?_;clear S;intro v15 a w17 hv15 hk17 hn15 S
 replace hv15:=hv15.2
 subst hv15
 refine Dz (Vm S rfl rfl fun a S=>Vm S rfl rfl ?_);clear S;intro a S
 obtain ⟨r16,hr16,h⟩:=Gf h
 refine Em S (fun _=>Eg (vs:=[v1,v2]) ⟨(S.tm rfl),(S.tm rfl),trivial⟩ call15) (Uy _ v1 r1.1 ((Fv Ed.enc_ok hs1).mono (View.le_trans (View.le_trans (View.le_trans (View.le_trans (View.le_trans (View.le_trans hl2 hl3) hl4) hl5) hl6) hl7) (S.le_new Fh))) v2 r2.1 ((Fv Ed.enc_ok hs2).mono (View.le_trans (View.le_trans (View.le_trans (View.le_trans (View.le_trans hl3 hl4) hl5) hl6) hl7) (S.le_new Fh))) _ hr16) rfl ?_;clear S;intro v16 a w18 hv16 hk18 hn16 S
 subst hv16
 refine Vm S rfl rfl ?_;clear S;intro a S
 obtain ⟨j1,hj1,h⟩:=Ge h
 refine Jy 4 (fun a w'=>∃ c1,j1 c1 = some r ∧ Keep [] w18 w' ∧ Sx w [] φ7 [.own u11 40 4 r15.length (r15.flatMap Ee.enc)] [(9,v5),(10,v6),(89,bV c1)] 98 a w') ?_ ?_
 ·rcases Bool.eq_false_or_eq_true r16 with hb1 | hb1
  ·replace h:=Py h hb1
   refine Er S rfl rfl rfl hb1 (Vm S rfl rfl fun a S=>Er S rfl rfl rfl hb1 (Vm S rfl rfl fun a S=>Er S rfl rfl rfl hb1 ?_))
   obtain ⟨r17,hr17,h⟩:=Gf h
   refine Em S (fun _=>Eg (vs:=[v3,v4]) ⟨(S.tm rfl),(S.tm rfl),trivial⟩ call16) (Uz _ v3 r3.1 ((Fv Es.enc_ok hs3).mono (View.le_trans (View.le_trans (View.le_trans (View.le_trans hl4 hl5) hl6) hl7) (S.le_new Fh))) v4 r4.1 ((Fv Es.enc_ok hs4).mono (View.le_trans (View.le_trans (View.le_trans hl5 hl6) hl7) (S.le_new Fh))) _ hr17) rfl ?_;clear S;intro v17 a w20 hv17 hk19 hn17 S
   subst hv17
   exact lv S (Ju hb1 (S.tm rfl) (S.tm rfl)) rfl fun a S=>Dl (⟨_,h,hk19,S.nf [true] rfl (subR rfl)⟩)
  ·replace h:=Pz h hb1
   iterate 3 (refine Iy S rfl rfl rfl (Lk hb1) rfl ?_ rfl;clear S;intro a S)
   exact Vq S (Jv true hb1) rfl rfl rfl fun a S=>Dl (⟨_,h,Keep.refl _ _,S.nf [true] rfl (subR rfl)⟩)
 clear S h;rintro a w19 ⟨c1,h,hk20,S⟩;rw [hj1] at h;clear hj1 j1
 refine Vm S rfl rfl ?_;clear S;intro a S
 obtain ⟨j2,hj2,h⟩:=Ge h
 refine Jy 4 (fun a w'=>∃ c2,j2 c2 = some r ∧ Keep [] w19 w' ∧ Sx w [] φ7 [.own u11 40 4 r15.length (r15.flatMap Ee.enc)] [(94,bV c2)] 98 a w') ?_ ?_
 ·rcases Bool.eq_false_or_eq_true c1 with hb2 | hb2
  ·replace h:=Py h hb2
   refine Er S rfl rfl rfl hb2 (Vm S rfl rfl fun a S=>Er S rfl rfl rfl hb2 (Vm S rfl rfl fun a S=>Er S rfl rfl rfl hb2 ?_))
   obtain ⟨r18,hr18,h⟩:=Gf h
   refine Em S (fun _=>Eg (vs:=[v5,v6]) ⟨(S.tm rfl),(S.tm rfl),trivial⟩ call17) (Vc _ v5 r5.1 ((Fv Ey.enc_ok hs5).mono (View.le_trans (View.le_trans hl6 hl7) (S.le_new Fh))) v6 r6.1 ((Fv Ey.enc_ok hs6).mono (View.le_trans hl7 (S.le_new Fh))) _ hr18) rfl ?_;clear S;intro v18 a w22 hv18 hk21 hn18 S
   subst hv18
   exact lv S (Ju hb2 (S.tm rfl) (S.tm rfl)) rfl fun a S=>Dl (⟨_,h,hk21,S.nf [true] rfl ⟨rfl,trivial⟩⟩)
  ·replace h:=Pz h hb2
   iterate 3 (refine Iy S rfl rfl rfl (Lk hb2) rfl ?_ rfl;clear S;intro a S)
   exact Vq S (Jv true hb2) rfl rfl rfl fun a S=>Dl (⟨_,h,Keep.refl _ _,S.nf [true] rfl ⟨rfl,trivial⟩⟩)
 clear S h;rintro a w21 ⟨c2,h,hk22,S⟩;rw [hj2] at h;clear hj2 j2
 refine Vm S rfl rfl ?_;clear S;intro a S
 obtain ⟨j3,hj3,h⟩:=Ge h
 refine Jy 2 (fun a w'=>∃ c3,j3 c3 = some r ∧ Keep [] w21 w' ∧ Sx w [] φ7 [.own u11 40 4 r15.length (r15.flatMap Ee.enc)] [(97,bV c3)] 98 a w') ?_ ?_
 ·rcases Bool.eq_false_or_eq_true c2 with hb3 | hb3
  ·replace h:=Py h hb3
   refine Er S rfl rfl rfl hb3 ?_
   obtain ⟨r19,hr19,h⟩:=Gf h
   refine Em S (fun _=>Eg (vs:=[]) trivial call18) (Wq _ _ hr19) rfl ?_;clear S;intro v19 a w24 hv19 hk23 hn19 S
   subst hv19
   exact lv S (Ju hb3 (S.tm rfl) (S.tm rfl)) rfl fun a S=>Dl (⟨_,h,hk23,S.nf [true] rfl ⟨rfl,trivial⟩⟩)
  ·replace h:=Pz h hb3
   exact Iy S rfl rfl rfl (Lk hb3) rfl (fun a S=>Vq S (Jv true hb3) rfl rfl rfl fun a S=>Dl (⟨_,h,Keep.refl _ _,S.nf [true] rfl ⟨rfl,trivial⟩⟩)) rfl
 clear S h;rintro a w23 ⟨c3,h,hk24,S⟩;rw [hj3] at h;clear hj3 j3
 refine Va S rfl rfl fun a S=>Dl (wp_ret ?_)
 obtain rfl:=Option.some.inj h
 exact Fw S results3 rfl rfl
end Go.Proofs.YtcgffkkagmkhkaaGreatDoor
