/- Each Go function computes its plain twin,by program. -/
import Derived.Test.YtancihamhcdboaaGreatDoorWk3
namespace Go.Proofs.YtancihamhcdboaaGreatDoor
open Go
open Go.Proofs.Tryz
theorem KC (w : World) (U : Nat) (Af : Kq) (Bl : R32) (Bv : Tp (view w []) Af Bl) (Ap : Value) (Ak : List Dx) (Bc : Slc (view w []) 11 Ap (Ak.map Dx.enc)) (Ar : (view w []) U = some (.cells (R32.enc Bl ++ [Ap]).toArray 134 (0,0))) (r : (List Ej) × Int) (h : Uy Af Ak = some r) :
    Calls prog 30 [.pointer (some ⟨U,0,none⟩)].toArray w (Ret w [] fun τ v _=>∃ u1 : Value,v = .tuple #[u1,iV r.2] ∧ Up τ 57 3 u1 r.1.length (r.1.flatMap Ej.enc)):=by
 obtain ⟨u1,u2,rfl,hs1,⟨u3,rfl,hs2⟩⟩:=Bv
 replace Ar : (view w []) U = some (.cells [u1.val,u3.val,iV Af.Table.Relay,iV Af.Table.Most,iV Af.Final.Size,iV Af.Final.Many,iV Af.Final.Reserves,Ap].toArray 134 (0,0)):=Ar
 refine Fe func30 rfl ntmps30 rfl fun a S=>?_
 unfold Uy at h
 replace S:=S.k1 0 rfl
 refine Fr (Vk S rfl rfl fun a S=>Vk S rfl rfl fun a S=>Dl (Fs (Fr (Vm S rfl rfl ?_))));clear S;intro a S
 obtain ⟨r1,hr1,h⟩:=Fd h
 refine Ei S (fun _=>Ea (vs:=[.pointer (some ⟨U,0,none⟩)]) ⟨(S.tm rfl),trivial⟩ call62) (OE _ U Af (R32.mk u1 (R28.mk u3 Af.Table.Relay Af.Table.Most) Af.Final) ⟨u1,(R28.mk u3 Af.Table.Relay Af.Table.Most),rfl,(hs1.mono (S.le_arg Er)),⟨u3,rfl,(hs2.mono (S.le_arg Er))⟩⟩ Ap Ak (Bc.mono (S.le_arg Er)) ((S.le_arg Er) _ _ Ar) _ hr1) rfl ?_;clear S;intro v1 a w1 hv1 hk1 hn1 S
 subst hv1
 refine Va S rfl rfl fun a S=>Dz (Vm S rfl rfl fun a S=>Vq S Lf rfl rfl rfl fun a S=>Dl (Fc h (S.tm rfl) (fun hb1 h=>?_) (fun hb1 h=>?_)))
 ·refine Fr (Vm S rfl rfl fun a S=>Vk S rfl rfl fun a S=>Va S rfl rfl fun a S=>Dl (wp_ret (Ec ?_)))
  obtain rfl:=Option.some.inj h
  exact Ln S results30 rfl rfl ⟨_,rfl,(Oz _ _ _)⟩
 ·refine wp_skip (Tn (Fr (Rc (κ:=ByteArray) (ν:=Ee) S rfl Value.string (fun x=>Value.agg (Ee.enc x).toArray) ?_)));clear S;intro a w2 b1 hz1 hk2 S
  refine Va S rfl rfl fun a S=>Dl (Fs (Fr (Vm S rfl rfl fun a S=>Vu S Lz rfl rfl fun a S=>Vf DC S rfl rfl fun a S=>Vf Xc S rfl rfl fun a S=>lv S (Ic isAgg26 (off:=0) (o:=0) (S.tm rfl) ((Ti Ar).at S.emb0) rfl) rfl ?_)));clear S;intro a S
  refine lv S (Fq Th (S.tm rfl) (Fm hs1)) rfl fun a S=>lv S (Rm rfl) rfl fun a S=>Ld ?_
  replace S:=(S.nl [.map b1 (Ft Value.string (fun x=>Value.agg (Ee.enc x).toArray) ([] : List (ByteArray × Ee))) ([] : List (ByteArray × Ee)).length] [true] rfl).k5 0 5 29 30 31 rfl
  refine Tn ?_
  obtain ⟨j1,hj1,h⟩:=Ey h
  refine Es (fun a w'=>∃ x1 : List (ByteArray × Ee),∃ φ1 : View,j1 x1 = some r ∧ View.le nov φ1 ∧ Sx w [] φ1 [.map b1 (Ft Value.string (fun x=>Value.agg (Ee.enc x).toArray) x1) x1.length] [(5,.map (some b1))] 109 a w') ?_ ?_
  ·refine wp_block (Gz (fun (ys1 : List Em) a w'=>∃ i1 : Nat,∃ x1 : List (ByteArray × Ee),∃ φ1 : View,(∃ dn,Af.Races = dn ++ ys1 ∧ dn.length = i1) ∧ Nd Af Ak j1 ys1 i1 x1 = some r ∧ View.le nov φ1 ∧ Sx w [] φ1 [.map b1 (Ft Value.string (fun x=>Value.agg (Ee.enc x).toArray) x1) x1.length] [(0,.pointer (some ⟨U,0,none⟩)),(5,.map (some b1)),(29,u1.val),(30,iV (Af.Races.length : Int)),(31,iV (i1 : Int))] 109 a w') List.length Af.Races ⟨0,([] : List (ByteArray × Ee)),nov,⟨[],rfl,rfl⟩,h,View.le_refl _,S.nf [true] rfl (subR rfl)⟩ ?_)
   clear S h;rintro ys1 a w3 ⟨i1,x1,φ1,⟨dn,hd1,hi1⟩,h,hl1,S⟩
   cases ys1 with
   | nil =>
    rw [Nd.eq_1] at h
    refine Fr (Vb S Ev rfl rfl rfl fun a S=>Ld ?_)
    replace S:=S.k6 0 5 29 30 31 32 rfl
    exact Tn (Fs (wp_cond_false ((S.tm rfl).trans (congrArg Value.bool (Im hd1 hi1))) (wp_exit (Ep (Ep (Gr (Tn (⟨x1,φ1,h,hl1,S.nf [true] rfl ⟨rfl,trivial⟩⟩))))))))
   | cons y1 ys1 =>
    rw [Nd.eq_2] at h
    refine Fr (Vb S Ev rfl rfl rfl fun a S=>Ld ?_)
    replace S:=S.k6 0 5 29 30 31 32 rfl
    refine Tn (Fs (wp_cond_true ((S.tm rfl).trans (congrArg Value.bool (Hr hd1 hi1))) (wp_skip (Tn (Fs (wp_block (Fs (Fg ?_))))))))
    obtain ⟨b2,o1,hm1,hr2⟩:=Fh (a:=a) (x:=.tmp 29) (y:=.tmp 31) (ty:=0) Th hs1 (Iv hd1 hi1) rfl (S.tm rfl) (S.tm rfl)
    refine lv S (hr2 _) rfl ?_;clear S;intro a S
    clear hr2
    refine lv S (Fk isAgg43 sizeOf43 (off:=o1) (o:=0) (part:=(Em.enc y1)) rfl rfl (S.tm rfl) (hm1.at S.emb0)) rfl fun a S=>Hu S zeroValue43 (cs:=[sV An,iV 0,iV 0,iV 0,iV 0,iV 0,iV 0,iV 0]) rfl rfl ?_;clear S;intro a w5 b3 hz2 hk3 S
    refine Fj S (S.tm rfl) (S.tm rfl) (i:=0) (off:=0) rfl sizeOf43 (vs:=(Em.enc y1)) rfl rfl rfl rfl ?_;clear S;intro w6 hk4 S
    refine Dl (Fs (Fr (Vm S rfl rfl fun a S=>Vf Ya S rfl rfl fun a S=>Vl isAgg9 0 S rfl rfl rfl rfl ?_)));clear S;intro a S
    obtain ⟨r2,hr3,h⟩:=Fd h
    have hz3:=S.keep.size
    refine Ei S (fun _=>Ea (vs:=[.pointer (some ⟨U,0,none⟩),sV y1.Key]) ⟨(S.tm rfl),(S.tm rfl),trivial⟩ call63) (Xr _ U Af (R32.mk u1 (R28.mk u3 Af.Table.Relay Af.Table.Most) Af.Final) ⟨u1,(R28.mk u3 Af.Table.Relay Af.Table.Most),rfl,(hs1.mono (S.le_arg Er)),⟨u3,rfl,(hs2.mono (S.le_arg Er))⟩⟩ Ap Ak (Bc.mono (S.le_arg Er)) ((S.le_arg Er) _ _ Ar) y1.Key _ hr3) rfl ?_;clear S;intro v2 a w7 hv2 hk5 hn2 S
    obtain ⟨φ2,hl2,hm2,S⟩:=S.see' hn2 hz3
    have hs3:=hv2.mono hm2
    refine lv S (Fq La (S.tm rfl) (Fm (Hg Dx.enc_ok hs3))) rfl fun a S=>lv S (Rm rfl) rfl fun a S=>Ld ?_
    replace S:=(S.nl [.blk b3 (Em.enc y1) 43,.map b1 (Ft Value.string (fun x=>Value.agg (Ee.enc x).toArray) x1) x1.length] [true,true] rfl).k9 0 5 7 29 30 31 38 39 40 rfl
    refine Tn ?_
    obtain ⟨j2,hj2,h⟩:=Ey h
    refine Es (fun a w'=>∃ x2 : List (ByteArray × Ee),j2 x2 = some r ∧ Sx w [] φ2 [.blk b3 (Em.enc y1) 43,.map b1 (Ft Value.string (fun x=>Value.agg (Ee.enc x).toArray) x2) x2.length] [(0,.pointer (some ⟨U,0,none⟩)),(5,.map (some b1)),(7,.pointer (some ⟨b3,0,none⟩)),(29,u1.val),(30,iV (Af.Races.length : Int)),(31,iV (i1 : Int))] 109 a w') ?_ ?_
    ·refine wp_block (Gz (fun (ys2 : List Dx) a w'=>∃ i2 : Nat,∃ x2 : List (ByteArray × Ee),(∃ dn,r2 = dn ++ ys2 ∧ dn.length = i2) ∧ On j2 ys2 i2 x2 = some r ∧ Sx w [] φ2 [.blk b3 (Em.enc y1) 43,.map b1 (Ft Value.string (fun x=>Value.agg (Ee.enc x).toArray) x2) x2.length] [(0,.pointer (some ⟨U,0,none⟩)),(5,.map (some b1)),(7,.pointer (some ⟨b3,0,none⟩)),(29,u1.val),(30,iV (Af.Races.length : Int)),(31,iV (i1 : Int)),(38,v2),(39,iV (r2.length : Int)),(40,iV (i2 : Int))] 109 a w') List.length r2 ⟨0,x1,⟨[],rfl,rfl⟩,h,S.nf [true,true] rfl (subR rfl)⟩ ?_)
     clear S h;rintro ys2 a w8 ⟨i2,x2,⟨dn,hd2,hi2⟩,h,S⟩
     cases ys2 with
     | nil =>
      rw [On.eq_1] at h
      refine Fr (Vb S Ev rfl rfl rfl fun a S=>Ld ?_)
      replace S:=S.k10 0 5 7 29 30 31 38 39 40 41 rfl
      exact Tn (Fs (wp_cond_false ((S.tm rfl).trans (congrArg Value.bool (Im hd2 hi2))) (wp_exit (Ep (Ep (Gr (Tn (⟨x2,h,S.nf [true,true] rfl (subR rfl)⟩))))))))
     | cons y2 ys2 =>
      rw [On.eq_2] at h
      refine Fr (Vb S Ev rfl rfl rfl fun a S=>Ld ?_)
      replace S:=S.k10 0 5 7 29 30 31 38 39 40 41 rfl
      refine Tn (Fs (wp_cond_true ((S.tm rfl).trans (congrArg Value.bool (Hr hd2 hi2))) (wp_skip (Tn (Fs ?_)))))
      obtain ⟨j3,hj3,h⟩:=Ey h
      refine Es (fun a w'=>∃ x3 : List (ByteArray × Ee),j3 x3 = some r ∧ Sx w [] φ2 [.blk b3 (Em.enc y1) 43,.map b1 (Ft Value.string (fun x=>Value.agg (Ee.enc x).toArray) x3) x3.length] [(0,.pointer (some ⟨U,0,none⟩)),(5,.map (some b1)),(7,.pointer (some ⟨b3,0,none⟩)),(29,u1.val),(30,iV (Af.Races.length : Int)),(31,iV (i1 : Int)),(38,v2),(39,iV (r2.length : Int)),(40,iV (i2 : Int))] 109 a w') ?_ ?_
      ·refine wp_block (Fs (Fg ?_))
       obtain ⟨b4,o2,hm3,hr4⟩:=Fh (a:=a) (x:=.tmp 38) (y:=.tmp 40) (ty:=0) La (Hg Dx.enc_ok hs3) (Iv hd2 hi2) rfl (S.tm rfl) (S.tm rfl)
       refine lv S (hr4 _) rfl ?_;clear S;intro a S
       clear hr4
       refine lv S (Fk isAgg41 sizeOf41 (off:=o2) (o:=0) (part:=(Dx.enc y2)) rfl rfl (S.tm rfl) (hm3.at S.emb)) rfl fun a S=>Hu S zeroValue41 (cs:=[sV An,iV 0,iV 0,iV 0,sV An,sV An,sV An,iV 0,iV 0,sV An,iV 0]) rfl rfl ?_;clear S;intro a w11 b5 hz4 hk6 S
       refine Fj S (S.tm rfl) (S.tm rfl) (i:=0) (off:=0) rfl sizeOf41 (vs:=(Dx.enc y2)) rfl rfl rfl rfl ?_;clear S;intro w12 hk7 S
       refine Dz (Vm S rfl rfl fun a S=>Vf Um S rfl rfl fun a S=>Vl isAgg9 0 S rfl rfl rfl rfl fun a S=>lv S (BH (kv:=Value.string) (vv:=(fun x=>Value.agg (Ee.enc x).toArray)) (m:=x2) (key:=y2.Club) (z:=(Ee.mk 0 0)) (S.map_at (i:=2) rfl) underlying135 (Mq underlying9) zeroValue49 (S.tm rfl) (S.tm rfl)) rfl fun a S=>Vm S rfl rfl fun a S=>Vq S Fy rfl rfl rfl fun a S=>Vq S Fy rfl rfl rfl ?_);clear S;intro a S
       refine Hu S zeroValue49 (cs:=[iV 0,iV 0]) rfl rfl ?_;clear S;intro a w13 b6 hz5 hk8 S
       refine Fj S (S.tm rfl) (S.tm rfl) (i:=0) (off:=0) rfl sizeOf49 (vs:=(Ee.enc (El x2 y2.Club (Ee.mk 0 0)))) rfl rfl rfl rfl ?_;clear S;intro w14 hk9 S
       refine Va S rfl rfl fun a S=>Ld ?_
       replace S:=(S.nl [.blk b5 (Dx.enc y2) 41,.blk b3 (Em.enc y1) 43,.map b1 (Ft Value.string (fun x=>Value.agg (Ee.enc x).toArray) x2) x2.length] [false,true,true,true] rfl).k11 0 5 7 9 11 29 30 31 38 39 40 rfl
       refine Tn (Fr (Vf Um S rfl rfl fun a S=>Vl isAgg9 0 S rfl rfl rfl rfl fun a S=>Vq S Zt rfl rfl rfl fun a S=>Vm S rfl rfl fun a S=>Ib 3 (fun a w'=>Keep [] w14 w' ∧ Sx w [] φ2 [.blk b5 (Dx.enc y2) 41,.blk b3 (Em.enc y1) 43,.map b1 (Ft Value.string (fun x=>Value.agg (Ee.enc x).toArray) x2) x2.length] [(0,.pointer (some ⟨U,0,none⟩)),(5,.map (some b1)),(7,.pointer (some ⟨b3,0,none⟩)),(9,.pointer (some ⟨b5,0,none⟩)),(29,u1.val),(30,iV (Af.Races.length : Int)),(31,iV (i1 : Int)),(38,v2),(39,iV (r2.length : Int)),(40,iV (i2 : Int)),(57,bV ((!decide (y2.Club = An)) && (!((Pi x2 y2.Club).isSome))))] 109 a w') ?_ ?_))
       ·rcases Bool.eq_false_or_eq_true (!decide (y2.Club = An)) with hb2 | hb2
        ·exact Ef S rfl rfl rfl hb2 (Vm S rfl rfl fun a S=>Ef S rfl rfl rfl hb2 (Vu S Hv rfl rfl fun a S=>lv S (Hz hb2 (S.tm rfl) (S.tm rfl)) rfl fun a S=>Dl (⟨Keep.refl _ _,S.nf [true,true,true] rfl (subR rfl)⟩)))
        ·exact Hh S rfl rfl rfl (Jw hb2) rfl (fun a S=>Hh S rfl rfl rfl (Jw hb2) rfl (fun a S=>lv S (Ia (!((Pi x2 y2.Club).isSome)) hb2 (S.tm rfl) rfl) rfl fun a S=>Dl (⟨Keep.refl _ _,S.nf [true,true,true] rfl (subR rfl)⟩)) rfl) rfl
       clear S;rintro a w15 ⟨hk10,S⟩
       refine Dl ?_
       obtain ⟨j4,hj4,h⟩:=Ey h
       refine Es (fun a w'=>∃ x4 : List (ByteArray × Ee),j4 x4 = some r ∧ Sx w [] φ2 [.blk b3 (Em.enc y1) 43,.map b1 (Ft Value.string (fun x=>Value.agg (Ee.enc x).toArray) x4) x4.length] [(0,.pointer (some ⟨U,0,none⟩)),(5,.map (some b1)),(7,.pointer (some ⟨b3,0,none⟩)),(29,u1.val),(30,iV (Af.Races.length : Int)),(31,iV (i1 : Int)),(38,v2),(39,iV (r2.length : Int)),(40,iV (i2 : Int))] 109 a w') ?_ ?_
       ·refine Fc h (S.tm rfl) (fun hb3 h=>?_) (fun hb3 h=>?_)
        ·refine Fg (Vm S rfl rfl fun a S=>Vf Um S rfl rfl fun a S=>Vl isAgg9 0 S rfl rfl rfl rfl fun a S=>lv S (Nl TL (pv:=[(0,iV 0),(1,iV 1)]) ⟨rfl,rfl,rfl,rfl,trivial⟩ (cs:=[iV 0,iV 1]) (by kernel_rfl)) rfl fun a S=>Oi (kv:=Value.string) (vv:=(fun x=>Value.agg (Ee.enc x).toArray)) (m:=x2) (key:=y2.Club) (val:=(Ee.mk 0 1)) S (i:=2) rfl underlying135 (Mq underlying9) (S.tm rfl) (S.tm rfl) (S.tm rfl) ?_);clear S;intro w17 hk11 S
         refine Ld ?_
         replace S:=(S.nl [.blk b3 (Em.enc y1) 43,.map b1 (Ft Value.string (fun x=>Value.agg (Ee.enc x).toArray) (Gw x2 y2.Club (Ee.mk 0 1))) (Gw x2 y2.Club (Ee.mk 0 1)).length] [false,true,true] rfl).k9 0 5 7 29 30 31 38 39 40 rfl
         exact Tn (⟨(Gw x2 y2.Club (Ee.mk 0 1)),h,S.nf [true,true] rfl (subR rfl)⟩)
        ·exact wp_skip (Tn (⟨x2,h,S.nf [false,true,true] rfl (subR rfl)⟩))
       clear S h;rintro a w16 ⟨x4,h,S⟩;rw [hj4] at h;clear hj4 j4
       exact Hn (Tn (⟨x4,h,S.nf [true,true] rfl (subR rfl)⟩))
      clear S h;rintro a w10 ⟨x3,h,S⟩;rw [hj3] at h;clear hj3 j3
      exact Tn (Fg (Vq S Gf rfl rfl rfl fun a S=>Vm S rfl rfl fun a S=>Dl (⟨ys2,⟨i2 + 1,x3,⟨_,(hd2).trans (List.append_cons _ _ _),by simp [hi2]⟩,h,S.nf [true,true] rfl ⟨rfl,rfl,rfl,rfl,rfl,rfl,rfl,rfl,(congrArg (fun z=>some (Value.int .i64 z)) (Hs hd2 hi2 (Jg (Hg Dx.enc_ok hs3)))),trivial⟩⟩,Nat.lt_succ_self _⟩)))
    clear S h;rintro a w9 ⟨x2,h,S⟩;rw [hj2] at h;clear hj2 j2
    refine Tn (Fr (Vm S rfl rfl fun a S=>lv S (Fk isAgg43 sizeOf43 (off:=0) (o:=0) (part:=(Em.enc y1)) rfl rfl (S.tm rfl) (S.cellsAt (i:=0) rfl)) rfl ?_));clear S;intro a S
    obtain ⟨r3,hr5,h⟩:=Fd h
    have hz6:=S.keep.size
    refine Ei S (fun _=>Ea (vs:=[.pointer (some ⟨U,0,none⟩),.agg (Em.enc y1).toArray]) ⟨(S.tm rfl),(S.tm rfl),trivial⟩ call28) (AS _ U Af (R32.mk u1 (R28.mk u3 Af.Table.Relay Af.Table.Most) Af.Final) ⟨u1,(R28.mk u3 Af.Table.Relay Af.Table.Most),rfl,(hs1.mono (S.le_arg Er)),⟨u3,rfl,(hs2.mono (S.le_arg Er))⟩⟩ Ap Ak (Bc.mono (S.le_arg Er)) ((S.le_arg Er) _ _ Ar) y1 _ hr5) rfl ?_;clear S;intro v3 a w18 hv3 hk12 hn3 S
    obtain ⟨u5,rfl,ho2⟩:=hv3
    obtain ⟨φ3,hl3,hm4,S⟩:=S.see' hn3 hz6
    have hs4:=ho2.mono hm4
    refine Vm S rfl rfl fun a S=>Vq S Fy rfl rfl rfl fun a S=>Vq S Fy rfl rfl rfl fun a S=>Va S rfl rfl fun a S=>Va S rfl rfl fun a S=>Dl (Fs (Fr (Vm S rfl rfl ?_)));clear S;intro a S
    refine Vq S Lf rfl rfl rfl fun a S=>Ld ?_
    replace S:=S.d0.k8 0 5 12 13 29 30 31 70 rfl
    refine Tn (Fc h (S.tm rfl) (fun hb4 h=>?_) (fun hb4 h=>?_))
    ·refine Fr (Vm S rfl rfl fun a S=>Vk S rfl rfl fun a S=>Va S rfl rfl fun a S=>Dl (wp_ret (Ec (Ga (Ec ?_)))))
     refine Ec (Ga (Ec (Ec ?_)))
     obtain rfl:=Option.some.inj h
     exact Ln S results30 rfl rfl ⟨_,rfl,(Oz _ _ _)⟩
    ·refine wp_skip (Tn (Fr (Vm S rfl rfl fun a S=>lv S (Fq PH (S.tm rfl) (Fm (Hg Ih.enc_ok hs4))) rfl fun a S=>lv S (Rm rfl) rfl fun a S=>Dl ?_)))
     replace S:=S.k8 0 5 29 30 31 72 73 74 rfl
     obtain ⟨j5,hj5,h⟩:=Ey h
     refine Es (fun a w'=>∃ x5 : List (ByteArray × Ee),j5 x5 = some r ∧ Sx w [] φ3 [.map b1 (Ft Value.string (fun x=>Value.agg (Ee.enc x).toArray) x5) x5.length] [(0,.pointer (some ⟨U,0,none⟩)),(5,.map (some b1)),(29,u1.val),(30,iV (Af.Races.length : Int)),(31,iV (i1 : Int))] 109 a w') ?_ ?_
     ·refine wp_block (Gz (fun (ys3 : List Ih) a w'=>∃ i3 : Nat,∃ x5 : List (ByteArray × Ee),(∃ dn,r3.1 = dn ++ ys3 ∧ dn.length = i3) ∧ Nv j5 ys3 i3 x5 = some r ∧ Sx w [] φ3 [.map b1 (Ft Value.string (fun x=>Value.agg (Ee.enc x).toArray) x5) x5.length] [(0,.pointer (some ⟨U,0,none⟩)),(5,.map (some b1)),(29,u1.val),(30,iV (Af.Races.length : Int)),(31,iV (i1 : Int)),(72,u5),(73,iV (r3.1.length : Int)),(74,iV (i3 : Int))] 109 a w') List.length r3.1 ⟨0,x2,⟨[],rfl,rfl⟩,h,S.nf [true] rfl (subR rfl)⟩ ?_)
      clear S h;rintro ys3 a w19 ⟨i3,x5,⟨dn,hd3,hi3⟩,h,S⟩
      cases ys3 with
      | nil =>
       rw [Nv.eq_1] at h
       refine Fr (Vb S Ev rfl rfl rfl fun a S=>Ld ?_)
       replace S:=S.k9 0 5 29 30 31 72 73 74 75 rfl
       exact Tn (Fs (wp_cond_false ((S.tm rfl).trans (congrArg Value.bool (Im hd3 hi3))) (wp_exit (Ep (Ep (Gr (Tn (⟨x5,h,S.nf [true] rfl (subR rfl)⟩))))))))
      | cons y3 ys3 =>
       rw [Nv.eq_2] at h
       refine Fr (Vb S Ev rfl rfl rfl fun a S=>Ld ?_)
       replace S:=S.k9 0 5 29 30 31 72 73 74 75 rfl
       refine Tn (Fs (wp_cond_true ((S.tm rfl).trans (congrArg Value.bool (Hr hd3 hi3))) (wp_skip (Tn (Fs ?_)))))
       obtain ⟨j6,hj6,h⟩:=Ey h
       refine Es (fun a w'=>∃ x6 : List (ByteArray × Ee),j6 x6 = some r ∧ Sx w [] φ3 [.map b1 (Ft Value.string (fun x=>Value.agg (Ee.enc x).toArray) x6) x6.length] [(0,.pointer (some ⟨U,0,none⟩)),(5,.map (some b1)),(29,u1.val),(30,iV (Af.Races.length : Int)),(31,iV (i1 : Int)),(72,u5),(73,iV (r3.1.length : Int)),(74,iV (i3 : Int))] 109 a w') ?_ ?_
       ·refine wp_block (Fs (Fg ?_))
        obtain ⟨b7,o3,hm5,hr6⟩:=Fh (a:=a) (x:=.tmp 72) (y:=.tmp 74) (ty:=0) PH (Hg Ih.enc_ok hs4) (Iv hd3 hi3) rfl (S.tm rfl) (S.tm rfl)
        refine lv S (hr6 _) rfl ?_;clear S;intro a S
        clear hr6
        refine lv S (Fk isAgg51 sizeOf51 (off:=o3) (o:=0) (part:=(Ih.enc y3)) rfl rfl (S.tm rfl) (hm5.at S.emb)) rfl fun a S=>Hu S zeroValue51 (cs:=[iV 0,sV An,sV An,iV 0,iV 0,iV 0,iV 0]) rfl rfl ?_;clear S;intro a w22 b8 hz7 hk13 S
        refine Fj S (S.tm rfl) (S.tm rfl) (i:=0) (off:=0) rfl sizeOf51 (vs:=(Ih.enc y3)) rfl rfl rfl rfl ?_;clear S;intro w23 hk14 S
        refine Dz (Vf NW S rfl rfl fun a S=>Vl isAgg9 0 S rfl rfl rfl rfl fun a S=>Vq S Zt rfl rfl rfl fun a S=>Ld ?_)
        replace S:=(S.nl [.blk b8 (Ih.enc y3) 51,.map b1 (Ft Value.string (fun x=>Value.agg (Ee.enc x).toArray) x5) x5.length] [true,true] rfl).k10 0 5 15 29 30 31 72 73 74 80 rfl
        refine Tn ?_
        obtain ⟨j7,hj7,h⟩:=Ey h
        refine Es (fun a w'=>∃ x7 : List (ByteArray × Ee),j7 x7 = some r ∧ Sx w [] φ3 [.map b1 (Ft Value.string (fun x=>Value.agg (Ee.enc x).toArray) x7) x7.length] [(0,.pointer (some ⟨U,0,none⟩)),(5,.map (some b1)),(29,u1.val),(30,iV (Af.Races.length : Int)),(31,iV (i1 : Int)),(72,u5),(73,iV (r3.1.length : Int)),(74,iV (i3 : Int))] 109 a w') ?_ ?_
        ·refine Fc h (S.tm rfl) (fun hb5 h=>?_) (fun hb5 h=>?_)
         ·obtain ⟨r4,hr7,h⟩:=Fd h
          refine Hd [10] ([]) Tryz.mixed S rfl (by kernel_rfl) ?_;clear S;intro w27 hk17 hsel S
          refine Fz 0 S hsel rfl rfl (by kernel_rfl) (by kernel_rfl) rfl (fun _=>(Rm (S.tm rfl))) fun a S=>Fz 1 S hsel rfl rfl (by kernel_rfl) (by kernel_rfl) rfl (fun _=>(Gv NW (S.tm rfl))) fun a S=>Ek 2 S hsel rfl (by kernel_rfl) (by kernel_rfl) (by kernel_rfl) (by kernel_rfl) rfl (fun _ hw=>(Ic isAgg9 (off:=0) (o:=2) (S.tm rfl) ((S.blk_mem (i:=0) (cells:=(Ih.enc y3)) (b:=b8) (T:=51) rfl (Ie (e':=.blk b8 (Ih.enc y3) 51))).kept hw) rfl)) fun a S=>Fz 3 S hsel rfl rfl (by kernel_rfl) (by kernel_rfl) rfl (fun _=>(Rm (S.tm rfl))) fun a S=>Fz 4 S hsel rfl rfl (by kernel_rfl) (by kernel_rfl) rfl (fun _=>(Gv NW (S.tm rfl))) fun a S=>Ek 5 S hsel rfl (by kernel_rfl) (by kernel_rfl) (by kernel_rfl) (by kernel_rfl) rfl (fun _ hw=>(Ic isAgg9 (off:=0) (o:=2) (S.tm rfl) ((S.blk_mem (i:=0) (cells:=(Ih.enc y3)) (b:=b8) (T:=51) rfl (Ie (e':=.blk b8 (Ih.enc y3) 51))).kept hw) rfl)) fun a S=>Ek 6 S hsel rfl (by kernel_rfl) (by kernel_rfl) (by kernel_rfl) (by kernel_rfl) rfl (fun _ hw=>(Qk (kv:=Value.string) (vv:=(fun x=>Value.agg (Ee.enc x).toArray)) (m:=x5) (key:=y3.Club) (z:=(Ee.mk 0 0)) (S.map_kept (i:=1) rfl (Ie (e':=.map b1 (Ft Value.string (fun x=>Value.agg (Ee.enc x).toArray) x5) x5.length)) hw) underlying135 (Mq underlying9) zeroValue49 (S.tm rfl) (S.tm rfl))) fun a S=>Fz 7 S hsel rfl rfl (by kernel_rfl) (by kernel_rfl) rfl (fun _=>(Gv fa_51_5 (S.tm rfl))) fun a S=>Ek 8 S hsel rfl (by kernel_rfl) (by kernel_rfl) (by kernel_rfl) (by kernel_rfl) rfl (fun _ hw=>(Fk isAgg49 sizeOf49 (off:=0) (o:=5) (part:=(Ee.enc y3.Points)) rfl rfl (S.tm rfl) ((S.blk_mem (i:=0) (cells:=(Ih.enc y3)) (b:=b8) (T:=51) rfl (Ie (e':=.blk b8 (Ih.enc y3) 51))).kept hw))) fun a S=>Hi 9 (by kernel_rfl) rfl ?_
          refine Ei S (fun _=>Ea (vs:=[.agg (Ee.enc (El x5 y3.Club (Ee.mk 0 0))).toArray,.agg (Ee.enc y3.Points).toArray]) ⟨(S.tm rfl),(S.tm rfl),trivial⟩ call64) (PW _ (El x5 y3.Club (Ee.mk 0 0)) y3.Points _ hr7) rfl ?_;clear S;intro v5 a w28 hv5 hk18 hn5 S
          subst hv5
          refine Ld (Ik hk18 (Wq 10 ([b1]) rfl (by kernel_rfl) rfl (Oi (kv:=Value.string) (vv:=(fun x=>Value.agg (Ee.enc x).toArray)) (m:=x5) (key:=y3.Club) (val:=r4) S (i:=1) rfl underlying135 (Mq underlying9) (S.tm rfl) (S.tm rfl) (S.tm rfl) ?_)));clear S;intro w29 hk19 S
          refine Ld (Wr (Wl (by kernel_rfl) ?_))
          clear hsel
          replace S:=(S.nl [.map b1 (Ft Value.string (fun x=>Value.agg (Ee.enc x).toArray) (Gw x5 y3.Club r4)) (Gw x5 y3.Club r4).length] [false,true] rfl).k8 0 5 29 30 31 72 73 74 rfl
          exact Tn (⟨(Gw x5 y3.Club r4),h,S.nf [true] rfl (subR rfl)⟩)
         ·exact wp_skip (Tn (⟨x5,h,S.nf [false,true] rfl (subR rfl)⟩))
        clear S h;rintro a w24 ⟨x7,h,S⟩;rw [hj7] at h;clear hj7 j7
        exact Hn (Tn (⟨x7,h,S.nf [true] rfl (subR rfl)⟩))
       clear S h;rintro a w21 ⟨x6,h,S⟩;rw [hj6] at h;clear hj6 j6
       exact Tn (Fg (Vq S Gf rfl rfl rfl fun a S=>Vm S rfl rfl fun a S=>Dl (⟨ys3,⟨i3 + 1,x6,⟨_,(hd3).trans (List.append_cons _ _ _),by simp [hi3]⟩,h,S.nf [true] rfl ⟨rfl,rfl,rfl,rfl,rfl,rfl,rfl,(congrArg (fun z=>some (Value.int .i64 z)) (Hs hd3 hi3 (Jg (Hg Ih.enc_ok hs4)))),trivial⟩⟩,Nat.lt_succ_self _⟩)))
     clear S h;rintro a w20 ⟨x5,h,S⟩;rw [hj5] at h;clear hj5 j5
     exact Hn (Tn (Fg (Vq S Gf rfl rfl rfl fun a S=>Vm S rfl rfl fun a S=>Dl (⟨ys1,⟨i1 + 1,x5,φ3,⟨_,(hd1).trans (List.append_cons _ _ _),by simp [hi1]⟩,h,(View.le_trans hl1 (View.le_trans hl2 hl3)),S.nf [true] rfl ⟨rfl,rfl,rfl,rfl,(congrArg (fun z=>some (Value.int .i64 z)) (Hs hd1 hi1 (Jg hs1))),trivial⟩⟩,Nat.lt_succ_self _⟩))))
  clear S h;rintro a w4 ⟨x1,φ1,h,hl1,S⟩;rw [hj1] at h;clear hj1 j1
  refine Tn (Fr (Vk S rfl rfl ?_));clear S;intro a S
  replace S:=S.nil 57 3
  refine Dl (Fs (Fr (Vm S rfl rfl fun a S=>SW (es:=Ft Value.string (fun x=>Value.agg (Ee.enc x).toArray) x1) (clk:=x1.length) S (S.map_at (i:=1) rfl) underlying135 (S.tm rfl) rfl ?_)));clear S;intro a w30 b9 hz8 hk20 S
  refine Dl ?_
  replace S:=(S.nl [.iter b9 b1 x1.length #[] x1.length,.own (.slice none 0 0) 57 3 ([] : List Ej).length (([] : List Ej).flatMap Ej.enc),.map b1 (Ft Value.string (fun x=>Value.agg (Ee.enc x).toArray) x1) x1.length] [true,true,true] rfl).k2 16 94 rfl
  obtain ⟨j8,hj8,h⟩:=Ey h
  replace h:=allE h
  refine Es (fun a w'=>∃ x8 : List Ej,∃ v6 : Value,j8 x8 = some r ∧ Sx w [] φ1 [.own v6 57 3 x8.length (x8.flatMap Ej.enc),.map b1 (Ft Value.string (fun x=>Value.agg (Ee.enc x).toArray) x1) x1.length] [(16,v6)] 109 a w') ?_ ?_
  ·refine wp_block (Gz (fun (q : List (ByteArray × Ee)) a w'=>∃ x8 : List Ej,∃ v6 : Value,∃ sn1 : Array Nat,EY x1 sn1 = q ∧ (∀ p,p.Perm q → Nw j8 p x8 = some r) ∧ Sx w [] φ1 [.iter b9 b1 x1.length sn1 x1.length,.own v6 57 3 x8.length (x8.flatMap Ej.enc),.map b1 (Ft Value.string (fun x=>Value.agg (Ee.enc x).toArray) x1) x1.length] [(16,v6),(94,.pointer (some ⟨b9,0,none⟩))] 109 a w') List.length x1 ⟨([] : List Ej),(.slice none 0 0),#[],(leftL_0 _),h,S.nf [true,true,true] rfl (subR rfl)⟩ ?_)
   clear S h;rintro q a w31 ⟨x8,v6,sn1,hq,h,S⟩
   refine Fr (l_next (kv:=Value.string) (vv:=(fun x=>Value.agg (Ee.enc x).toArray)) (m:=x1) S (i:=0) rfl (S.map_at (i:=2) rfl) (S.tm rfl) rfl ?_ ?_)
   ·intro hn6;clear S;intro a S
    replace h:=OR h (hq.symm.trans hn6)
    rw [Nw.eq_1] at h
    refine Vq S Fy rfl rfl rfl fun a S=>Ld ?_
    replace S:=S.k3 16 94 96 rfl
    exact Tn (Fs (wp_cond_false (S.tm rfl) (wp_exit (Ep (Ep (Gr (Tn (⟨x8,v6,h,S.nf [false,true,true] rfl ⟨rfl,trivial⟩⟩))))))))
   ·clear S;intro y4 sn2 a w33 hp1 hl4 hk21 S
    obtain ⟨sq1,h,hn7⟩:=LU h (by rw [← hq];exact hp1) (fun _=>rfl)
    refine Vq S Fy rfl rfl rfl fun a S=>Ld ?_
    replace S:=(S.nl [.iter b9 b1 x1.length sn2 x1.length,.own v6 57 3 x8.length (x8.flatMap Ej.enc),.map b1 (Ft Value.string (fun x=>Value.agg (Ee.enc x).toArray) x1) x1.length] [true,true,true] rfl).k3 16 94 96 rfl
    refine Tn (Fs (wp_cond_true (S.tm rfl) (wp_skip (Tn (wp_block (Fr (lv S (WQ (kv:=Value.string) (vv:=(fun x=>Value.agg (Ee.enc x).toArray)) (m:=x1) (e:=y4) (S.holds _ (List.mem_of_getElem? (i:=0) rfl)) (S.map_at (i:=2) rfl) hl4 (S.tm rfl)) rfl fun a S=>Vq S Fy rfl rfl rfl fun a S=>Vq S Fy rfl rfl rfl ?_)))))));clear S;intro a S
    refine Hu S zeroValue49 (cs:=[iV 0,iV 0]) rfl rfl ?_;clear S;intro a w34 b10 hz9 hk22 S
    refine Va S rfl rfl fun a S=>Fj S (S.tm rfl) (S.tm rfl) (i:=0) (off:=0) rfl sizeOf49 (vs:=(Ee.enc y4.2)) rfl rfl rfl rfl ?_;clear S;intro w35 hk23 S
    refine Dl (Fg (Vm S rfl rfl fun a S=>Vm S rfl rfl fun a S=>lv S (Fk isAgg49 sizeOf49 (off:=0) (o:=0) (part:=(Ee.enc y4.2)) rfl rfl (S.tm rfl) (S.cellsAt (i:=0) rfl)) rfl fun a S=>lv S (Nl bt_57 (pv:=[(0,sV y4.1),(1,.agg #[iV y4.2.Num,iV y4.2.Den])]) ⟨rfl,(S.tm rfl),rfl,(S.tm rfl),trivial⟩ (cs:=[sV y4.1,iV y4.2.Num,iV y4.2.Den]) (by kernel_rfl)) rfl fun a S=>Ff S underlying52 sizeOf57 zeroValue57 rfl rfl (pv:=[(0,.agg #[sV y4.1,iV y4.2.Num,iV y4.2.Den])]) ⟨rfl,(S.tm rfl),trivial⟩ (cs:=[sV y4.1,iV y4.2.Num,iV y4.2.Den]) (by kernel_rfl) rfl ?_));clear S;intro a w36 b11 hz10 hk24 S
    obtain ⟨hc1,h⟩:=Ij h
    refine Np AL Ej.enc_ok S (S.tm rfl) (i:=3) rfl (S.tm rfl) (j:=0) rfl (ys:=[(Ej.mk y4.1 y4.2)]) rfl rfl rfl rfl (by have:=Ob hc1;omega) rfl ?_;clear S;intro v7 a w37 hk25 S
    refine Va S rfl rfl fun a S=>Ld (Hn (Tn ?_))
    obtain rfl:=Option.some.inj h
    exact ⟨EY x1 sn2,⟨(x8 ++ [(Ej.mk y4.1 y4.2)]),v7,sn2,rfl,hn7,S.nf [false,false,true,true,true] rfl (subR rfl)⟩,by have:=hp1.length_eq;rw [hq] at this;simp only [List.length_cons] at this;omega⟩
  clear S h;rintro a w32 ⟨x8,v6,h,S⟩;rw [hj8] at h;clear hj8 j8
  refine Tn (Fr (Vm S rfl rfl ?_));clear S;intro a S
  obtain ⟨r5,hr8,h⟩:=Fd h
  refine Mr 0 S rfl (fun _=>.own v6 57 3 r5.length (r5.flatMap Ej.enc)) (fun _=>Ea (vs:=[v6,.func (.func 66) #[] #[]]) ⟨(S.tm rfl),rfl,trivial⟩ call65) (Uq _ v6 x8 (S.holds _ (List.mem_of_getElem? (i:=0) rfl)) _ hr8) rfl (fun _ _ _ h=>⟨h.1,fun _ hc=>hc⟩) ?_;clear S;intro v8 a w38 hv6 hk26 hn8 S
  replace hv6:=hv6.2
  subst hv6
  refine Dz (Vm S rfl rfl fun a S=>Va S rfl rfl fun a S=>Vk S rfl rfl fun a S=>Dl (wp_ret ?_))
  obtain rfl:=Option.some.inj h
  exact Ln S results30 rfl rfl ⟨_,rfl,(Tt S (i:=0) rfl rfl)⟩
theorem LP (w : World) (Ad : Kq) (Ca : R32) (Cl : Tp (view w []) Ad Ca) (Ab : Value) (Ae : List Dx) (Ag : Slc (view w []) 11 Ab (Ae.map Dx.enc)) (Bf : Int) (r : (List Ej) × Int) (h : Zg Ad Ae Bf = some r) :
    Calls prog 10 [.agg (R32.enc Ca).toArray,Ab,iV Bf].toArray w (Ret w [] fun τ v _=>∃ u1 : Value,v = .tuple #[u1,iV r.2] ∧ Up τ 57 3 u1 r.1.length (r.1.flatMap Ej.enc)):=by
 obtain ⟨u1,u2,rfl,hs1,⟨u3,rfl,hs2⟩⟩:=Cl
 refine Fe func10 rfl ntmps10 rfl fun a S=>?_
 unfold Zg at h
 replace S:=S.k3 0 1 2 rfl
 refine Fr (Mx S (S.tm rfl) (cs:=[u1.val,u3.val,iV Ad.Table.Relay,iV Ad.Table.Most,iV Ad.Final.Size,iV Ad.Final.Many,iV Ad.Final.Reserves]) rfl rfl ?_);clear S;intro a w1 b1 hz1 hk1 S
 refine Vk S rfl rfl fun a S=>Vk S rfl rfl fun a S=>Dz (lv S (Fk isAgg32 sizeOf32 (off:=0) (o:=0) (part:=[u1.val,u3.val,iV Ad.Table.Relay,iV Ad.Table.Most,iV Ad.Final.Size,iV Ad.Final.Many,iV Ad.Final.Reserves]) rfl rfl (S.tm rfl) (S.cellsAt (i:=0) rfl)) rfl fun a S=>Vm S rfl rfl fun a S=>Vm S rfl rfl fun a S=>Ff S underlying22 sizeOf3 zeroValue3 rfl rfl (pv:=[(0,iV Bf)]) ⟨rfl,(S.tm rfl),trivial⟩ (cs:=[iV Bf]) (by kernel_rfl) rfl ?_);clear S;intro a w2 b2 hz2 hk2 S
 replace S:=S.litOwn (i:=0) (xs:=[Bf]) rfl Jb rfl rfl rfl
 replace S:=S.nk [.own (.slice (some ⟨b2,0,none⟩) 1 1) 3 1 ([Bf] : List Int).length (([Bf] : List Int).flatMap eInt),.blk b1 [u1.val,u3.val,iV Ad.Table.Relay,iV Ad.Table.Most,iV Ad.Final.Size,iV Ad.Final.Many,iV Ad.Final.Reserves] 32] [(0,.agg #[u1.val,u3.val,iV Ad.Table.Relay,iV Ad.Table.Most,iV Ad.Final.Size,iV Ad.Final.Many,iV Ad.Final.Reserves]),(1,Ab),(2,iV Bf),(3,.pointer (some ⟨b1,0,none⟩)),(6,.slice none 0 0),(7,iV 0),(11,.agg #[u1.val,u3.val,iV Ad.Table.Relay,iV Ad.Table.Most,iV Ad.Final.Size,iV Ad.Final.Many,iV Ad.Final.Reserves]),(12,Ab),(13,iV Bf),(14,(.slice (some ⟨b2,0,none⟩) 1 1))] [] rfl (subR rfl)
 obtain ⟨φ1,hl1,hs3,S⟩:=S.freezeT (xs:=([Bf] : List Int)) (enc:=eInt) (i:=0) rfl (fun _ h=>by cases h)
 replace S:=S.nk [.blk b1 [u1.val,u3.val,iV Ad.Table.Relay,iV Ad.Table.Most,iV Ad.Final.Size,iV Ad.Final.Many,iV Ad.Final.Reserves] 32] [(0,.agg #[u1.val,u3.val,iV Ad.Table.Relay,iV Ad.Table.Most,iV Ad.Final.Size,iV Ad.Final.Many,iV Ad.Final.Reserves]),(1,Ab),(2,iV Bf),(3,.pointer (some ⟨b1,0,none⟩)),(6,.slice none 0 0),(7,iV 0),(11,.agg #[u1.val,u3.val,iV Ad.Table.Relay,iV Ad.Table.Most,iV Ad.Final.Size,iV Ad.Final.Many,iV Ad.Final.Reserves]),(12,Ab),(13,iV Bf),(14,(.slice (some ⟨b2,0,none⟩) 1 1))] [] rfl (subR rfl)
 obtain ⟨r1,hr1,h⟩:=Fd h
 have hz3:=S.keep.size
 refine Ei S (fun _=>Ea (vs:=[.agg (R32.enc (R32.mk u1 (R28.mk u3 Ad.Table.Relay Ad.Table.Most) Ad.Final)).toArray,Ab,(.slice (some ⟨b2,0,none⟩) 1 1)]) ⟨(S.tm rfl),(S.tm rfl),(S.tm rfl),trivial⟩ call29) (GV _ (join (view w []) φ1) (Py (S.le_arg Er) (S.le_new Er)) Ad (R32.mk u1 (R28.mk u3 Ad.Table.Relay Ad.Table.Most) Ad.Final) ⟨u1,(R28.mk u3 Ad.Table.Relay Ad.Table.Most),rfl,(hs1.mono (le_join_left _ _)),⟨u3,rfl,(hs2.mono (le_join_left _ _))⟩⟩ Ab Ae (Ag.mono (le_join_left _ _)) (.slice (some ⟨b2,0,none⟩) 1 1) ([Bf] : List Int) ((Hg Jb hs3).mono (S.all_right (View.le_refl _))) _ hr1) rfl ?_;clear S;intro v1 a w3 hv1 hk3 hn1 S
 obtain ⟨u4,rfl,ho1⟩:=hv1
 obtain ⟨φ2,hl2,hm1,S⟩:=S.see' hn1 hz3
 have hq1:=CR.mono (Sh (Tv hl2 hm1)) (Tv hl2 hm1) ho1
 refine Vm S rfl rfl fun a S=>Vq S Fy rfl rfl rfl fun a S=>Vq S Fy rfl rfl rfl fun a S=>Va S rfl rfl fun a S=>Va S rfl rfl fun a S=>Ld ?_
 replace S:=S.n0.k2 8 9 rfl
 refine Tn (Fs (Fr (Vm S rfl rfl fun a S=>Vq S Lf rfl rfl rfl fun a S=>Dl (Fc h (S.tm rfl) (fun hb1 h=>?_) (fun hb1 h=>?_)))))
 ·refine Fr (Vm S rfl rfl fun a S=>Vk S rfl rfl fun a S=>Va S rfl rfl fun a S=>Dl (wp_ret (Ec ?_)))
  obtain rfl:=Option.some.inj h
  exact Ln S results10 rfl rfl ⟨_,rfl,(Oz _ _ _)⟩
 ·refine wp_skip (Tn (Fr (Vm S rfl rfl ?_)));clear S;intro a S
  obtain ⟨r2,hr2,h⟩:=Fd h
  obtain ⟨b3,q1,rfl,hq2,hb2⟩:=hq1.deref hr2
  obtain ⟨u5,u9,rfl,⟨u6,u7,rfl,hs4,⟨u8,rfl,hs5⟩⟩,hs6⟩:=hq2
  replace hb2 : (join (view w []) φ2) b3 = some (.cells [u6.val,u8.val,iV r2.p_.Table.Relay,iV r2.p_.Table.Most,iV r2.p_.Final.Size,iV r2.p_.Final.Many,iV r2.p_.Final.Reserves,u9.val].toArray 134 (0,0)):=hb2
  obtain ⟨r3,hr3,h⟩:=Fd h
  have hz4:=S.keep.size
  refine Ei S (fun _=>Ea (vs:=[.pointer (some ⟨b3,0,none⟩)]) ⟨(S.tm rfl),trivial⟩ call30) (KC _ b3 r2.p_ (R32.mk u6 (R28.mk u8 r2.p_.Table.Relay r2.p_.Table.Most) r2.p_.Final) ⟨u6,(R28.mk u8 r2.p_.Table.Relay r2.p_.Table.Most),rfl,(hs4.mono (Py (S.le_arg Er) (S.le_new Er))),⟨u8,rfl,(hs5.mono (Py (S.le_arg Er) (S.le_new Er)))⟩⟩ u9.val r2.deeds_ (hs6.mono (Py (S.le_arg Er) (S.le_new Er))) ((Py (S.le_arg Er) (S.le_new Er)) _ _ hb2) _ hr3) rfl ?_;clear S;intro v2 a w4 hv2 hk4 hn2 S
  obtain ⟨u10,rfl,ho2⟩:=hv2
  obtain ⟨φ3,hl3,hm2,S⟩:=S.see' hn2 hz4
  have hs7:=ho2.mono hm2
  refine Vq S Fy rfl rfl rfl fun a S=>Vq S Fy rfl rfl rfl fun a S=>Va S rfl rfl fun a S=>Va S rfl rfl fun a S=>Dl (wp_ret ?_)
  obtain rfl:=Option.some.inj h
  exact Ln S results10 rfl rfl ⟨_,rfl,((hs7).mono S.le_newer)⟩
theorem AH (w : World) (Ab : Value) (Ae : List Ej) (Dg : (LEnt.own Ab 57 3 Ae.length (Ae.flatMap Ej.enc)).holds w) (r : (List Ej)) (h : Rs Ae = some r) :
    Calls prog 11 [Ab].toArray w (Ret w (Ab.ownBlock.toList) fun _ v w'=>(LEnt.own Ab 57 3 r.length (r.flatMap Ej.enc)).holds w' ∧ v = .tuple #[]):=by
 refine Lb (Ab.ownBlock.toList) [.own Ab 57 3 Ae.length (Ae.flatMap Ej.enc)] func11 rfl ntmps11 rfl (fun e he=>by simp only [List.mem_singleton] at he;subst he;exact Dg) (Iu _) (Js _) fun a S=>?_
 unfold Rs at h
 replace S:=(S.nl [.own Ab 57 3 Ae.length (Ae.flatMap Ej.enc)] [true] rfl).k1 0 rfl
 refine Fr (Hu S zeroValue57 (cs:=[sV An,iV 0,iV 0]) rfl rfl ?_);clear S;intro a w1 b1 hz1 hk1 S
 refine Dz (Vm S rfl rfl fun a S=>lv S (Fq AL (S.tm rfl) (Oh (S.own_at (i:=1) rfl))) rfl fun a S=>lv S (Rm rfl) rfl fun a S=>Dl ?_)
 replace S:=(S.nl [.blk b1 [sV An,iV 0,iV 0] 57,.own Ab 57 3 Ae.length (Ae.flatMap Ej.enc)] [true,true] rfl).k4 0 2 5 6 rfl
 have hm1:=JF (S.own_at (i:=1) rfl)
 obtain ⟨j1,hj1,h⟩:=Ey h
 refine Es (fun a w'=>∃ x1 : List Ej,j1 x1 = some r ∧ Sx w (Ab.ownBlock.toList) nov [.blk b1 [sV An,iV 0,iV 0] 57,.own Ab 57 3 x1.length (x1.flatMap Ej.enc)] [] 14 a w') ?_ ?_
 ·refine wp_block (Gz (fun (ys1 : List Ej) a w'=>∃ i1 : Nat,∃ x1 : List Ej,(∃ dn,Ae = dn ++ ys1 ∧ dn.length = i1) ∧ Jn j1 ys1 i1 x1 = some r ∧ Sx w (Ab.ownBlock.toList) nov [.blk b1 [sV An,iV 0,iV 0] 57,.own Ab 57 3 x1.length (x1.flatMap Ej.enc)] [(0,Ab),(2,.pointer (some ⟨b1,0,none⟩)),(5,iV (Ae.length : Int)),(6,iV (i1 : Int))] 14 a w') List.length Ae ⟨0,Ae,⟨[],rfl,rfl⟩,h,S.nf [true,true] rfl (subR rfl)⟩ ?_)
  clear S h;rintro ys1 a w2 ⟨i1,x1,⟨dn,hd1,hi1⟩,h,S⟩
  cases ys1 with
  | nil =>
   rw [Jn.eq_1] at h
   refine Fr (Vb S Ev rfl rfl rfl fun a S=>Ld ?_)
   replace S:=S.k5 0 2 5 6 7 rfl
   exact Tn (Fs (wp_cond_false ((S.tm rfl).trans (congrArg Value.bool (Im hd1 hi1))) (wp_exit (Ep (Ep (Gr (Tn (⟨x1,h,S.nf [true,true] rfl trivial⟩))))))))
  | cons y1 ys1 =>
   rw [Jn.eq_2] at h
   refine Fr (Vb S Ev rfl rfl rfl fun a S=>Ld ?_)
   replace S:=S.k5 0 2 5 6 7 rfl
   refine Tn (Fs (wp_cond_true ((S.tm rfl).trans (congrArg Value.bool (Hr hd1 hi1))) (wp_skip (Tn (Fs (wp_block (Fr (Vm S rfl rfl fun a S=>Va S rfl rfl ?_))))))));clear S;intro a S
   refine Dl (Fg (Vm S rfl rfl fun a S=>Vm S rfl rfl fun a S=>lv S (Fk isAgg57 sizeOf57 (off:=0) (o:=0) (part:=[sV An,iV 0,iV 0]) rfl rfl (S.tm rfl) (S.cellsAt (i:=0) rfl)) rfl ?_));clear S;intro a S
   obtain ⟨hc1,h⟩:=Ij h
   obtain ⟨b2,hg1,hr1⟩:=Gx (a:=a) (x:=.tmp 9) (y:=.tmp 10) (ty:=0) AL Ej.enc_ok S (i:=1) rfl (Eh hc1).1 (Eh hc1).2 (S.tm rfl) (S.tm rfl)
   refine lv S (hr1 _) rfl ?_;clear S;intro a S
   clear hr1
   refine Oe (c:=0) (j:=(i1 : Int).toNat) (Ej.mk An (Ee.mk 0 0)) Ej.enc_ok S (S.tm rfl) (S.tm rfl) (i:=1) rfl hg1 (Eh hc1).1 sizeOf57 (vs:=[sV An,iV 0,iV 0]) rfl rfl rfl rfl rfl ?_;clear S;intro w5 hk3 S
   exact Ld (Hn (Tn (Fg (Vq S Gf rfl rfl rfl fun a S=>Vm S rfl rfl fun a S=>Dl (⟨ys1,⟨i1 + 1,(x1.set ((i1 : Int).toNat) (Ej.mk An (Ee.mk 0 0))),⟨_,(hd1).trans (List.append_cons _ _ _),by simp [hi1]⟩,h,S.nf [true,true] rfl ⟨rfl,rfl,rfl,(congrArg (fun z=>some (Value.int .i64 z)) (Hs hd1 hi1 hm1)),trivial⟩⟩,Nat.lt_succ_self _⟩)))))
 clear S h;rintro a w3 ⟨x1,h,S⟩;rw [hj1] at h;clear hj1 j1
 obtain rfl:=Option.some.inj h
 exact Ri S results11 ⟨(S.holds _ (List.mem_of_getElem? (i:=1) rfl)),rfl⟩
set_option maxRecDepth 20000 in
theorem DL (w : World) (Cm : Value) (Cn : List Em) (By : Slc (view w []) 8 Cm (Cn.map Em.enc)) (Co : Value) (Ct : List Em) (Cu : Slc (view w []) 8 Co (Ct.map Em.enc)) (r : Bool) (h : Sf Cn Ct = some r) :
    Calls prog 12 [Cm,Co].toArray w (Ret w [] fun _ v _=>v = bV r):=by
 refine Fe func12 rfl ntmps12 rfl fun a S=>?_
 unfold Sf at h
 replace S:=S.k2 0 1 rfl
 refine Fr (Vk S rfl rfl fun a S=>Dl (Fs (Fr (Vm S rfl rfl fun a S=>lv S (Fq Th (S.tm rfl) (Fm By)) rfl fun a S=>Vm S rfl rfl ?_))));clear S;intro a S
 refine lv S (Fq Th (S.tm rfl) (Fm Cu)) rfl fun a S=>Vb S Lf rfl rfl rfl fun a S=>Dl (Fc h (S.tm rfl) (fun hb1 h=>?_) (fun hb1 h=>?_))
 ·refine Fr (Vk S rfl rfl fun a S=>Dl (wp_ret (Ec ?_)))
  obtain rfl:=Option.some.inj h
  exact Eu S results12 rfl rfl
 ·refine wp_skip (Tn (Fs (Fr (Vm S rfl rfl fun a S=>lv S (Fq Th (S.tm rfl) (Fm By)) rfl fun a S=>lv S (Rm rfl) rfl fun a S=>Dl ?_))))
  replace S:=S.k4 0 1 12 13 rfl
  obtain ⟨j1,hj1,h⟩:=Ey h
  refine Es (fun a w'=>j1 = some r ∧ Sx w [] nov [] [] 26 a w') ?_ ?_
  ·refine wp_block (Gz (fun (ys1 : List Em) a w'=>∃ i1 : Nat,(∃ dn,Cn = dn ++ ys1 ∧ dn.length = i1) ∧ Lt Ct j1 ys1 i1 = some r ∧ Sx w [] nov [] [(0,Cm),(1,Co),(12,iV (Cn.length : Int)),(13,iV (i1 : Int))] 26 a w') List.length Cn ⟨0,⟨[],rfl,rfl⟩,h,S.nf [] rfl (subR rfl)⟩ ?_)
   clear S h;rintro ys1 a w1 ⟨i1,⟨dn,hd1,hi1⟩,h,S⟩
   cases ys1 with
   | nil =>
    rw [Lt.eq_1] at h
    refine Fr (Vb S Ev rfl rfl rfl fun a S=>Ld ?_)
    replace S:=S.k5 0 1 12 13 14 rfl
    exact Tn (Fs (wp_cond_false ((S.tm rfl).trans (congrArg Value.bool (Im hd1 hi1))) (wp_exit (Ep (Ep (Gr (Tn (⟨h,S.nf [] rfl trivial⟩))))))))
   | cons y1 ys1 =>
    rw [Lt.eq_2] at h
    refine Fr (Vb S Ev rfl rfl rfl fun a S=>Ld ?_)
    replace S:=S.k5 0 1 12 13 14 rfl
    refine Tn (Fs (wp_cond_true ((S.tm rfl).trans (congrArg Value.bool (Hr hd1 hi1))) (wp_skip (Tn (Fs (wp_block (Fr (Vm S rfl rfl fun a S=>Va S rfl rfl ?_))))))));clear S;intro a S
    refine Dl (Fs (Hd [] ([]) Tryz.mixed S rfl (by kernel_rfl) ?_));clear S;intro w3 hk1 hsel S
    refine Lg [0,1,2,3,4,5,6,7,8] hsel (by kernel_rfl) rfl ?_
    clear hsel
    refine Gp S rfl (Rm (S.tm rfl)) rfl fun a S=>Gp S rfl (Rm (S.tm rfl)) rfl ?_;clear S;intro a S
    obtain ⟨b1,o1,hm1,hr1⟩:=Fh (a:=a) (x:=.tmp 16) (y:=.tmp 17) (ty:=0) Th By (Iv hd1 hi1) rfl (S.tm rfl) (S.tm rfl)
    refine Gp S rfl (hr1 _) rfl ?_;clear S;intro a S
    clear hr1
    refine Gp S rfl (Fk isAgg43 sizeOf43 (off:=o1) (o:=0) (part:=(Em.enc y1)) rfl rfl (S.tm rfl) (hm1.at S.emb0)) rfl fun a S=>Gp S rfl (Rm (S.tm rfl)) rfl fun a S=>Gp S rfl (Rm (S.tm rfl)) rfl ?_;clear S;intro a S
    obtain ⟨hc1,h⟩:=Ij h
    obtain ⟨b2,o2,hm2,hr2⟩:=Fh (a:=a) (x:=.tmp 20) (y:=.tmp 21) (ty:=0) Th Cu (Eh hc1).1 (Eh hc1).2 (S.tm rfl) (S.tm rfl)
    refine Gp S rfl (hr2 _) rfl ?_;clear S;intro a S
    clear hr2
    refine Gp S rfl (Fk isAgg43 sizeOf43 (off:=o2) (o:=0) (part:=(Em.enc (nth Ct (i1 : Int)))) rfl rfl (S.tm rfl) (hm2.at S.emb0)) rfl fun a S=>Gp S rfl (VH (m:=y1) (n:=(nth Ct (i1 : Int))) (S.tm rfl) (S.tm rfl)) rfl fun a S=>It ?_
    replace S:=S.k5 0 1 12 13 24 rfl
    refine Tn (Fc h (S.tm rfl) (fun hb2 h=>?_) (fun hb2 h=>?_))
    ·refine Fr (Vk S rfl rfl fun a S=>Dl (wp_ret (Ga (Ec (Ec (Ga (Ec ?_)))))))
     refine Ec ?_
     obtain rfl:=Option.some.inj h
     exact Eu S results12 rfl rfl
    ·exact wp_skip (Hn (Tn (Fg (Vq S Gf rfl rfl rfl fun a S=>Vm S rfl rfl fun a S=>Dl (⟨ys1,⟨i1 + 1,⟨_,(hd1).trans (List.append_cons _ _ _),by simp [hi1]⟩,h,S.nf [] rfl ⟨rfl,rfl,rfl,(congrArg (fun z=>some (Value.int .i64 z)) (Hs hd1 hi1 (Jg By))),trivial⟩⟩,Nat.lt_succ_self _⟩)))))
  clear S h;rintro a w2 ⟨h,S⟩;rw [hj1] at h;clear hj1 j1
  refine Tn (Fr (Vk S rfl rfl fun a S=>Dl (wp_ret ?_)))
  obtain rfl:=Option.some.inj h
  exact Eu S results12 rfl rfl
set_option maxRecDepth 20000 in
theorem ET (w : World) (Cm : Value) (Cn : List Int) (By : Slc (view w []) 1 Cm (Cn.map eInt)) (Co : Value) (Ct : List Int) (Cu : Slc (view w []) 1 Co (Ct.map eInt)) (r : Bool) (h : Td Cn Ct = some r) :
    Calls prog 13 [Cm,Co].toArray w (Ret w [] fun _ v _=>v = bV r):=by
 refine Fe func13 rfl ntmps13 rfl fun a S=>?_
 unfold Td at h
 replace S:=S.k2 0 1 rfl
 refine Fr (Vk S rfl rfl fun a S=>Dl (Fs (Fr (Vm S rfl rfl fun a S=>lv S (Fq Pj (S.tm rfl) (Fm By)) rfl fun a S=>Vm S rfl rfl ?_))));clear S;intro a S
 refine lv S (Fq Pj (S.tm rfl) (Fm Cu)) rfl fun a S=>Vb S Lf rfl rfl rfl fun a S=>Dl (Fc h (S.tm rfl) (fun hb1 h=>?_) (fun hb1 h=>?_))
 ·refine Fr (Vk S rfl rfl fun a S=>Dl (wp_ret (Ec ?_)))
  obtain rfl:=Option.some.inj h
  exact Eu S results13 rfl rfl
 ·refine wp_skip (Tn (Fs (Fr (Vm S rfl rfl fun a S=>lv S (Fq Pj (S.tm rfl) (Fm By)) rfl fun a S=>lv S (Rm rfl) rfl fun a S=>Dl ?_))))
  replace S:=S.k4 0 1 12 13 rfl
  obtain ⟨j1,hj1,h⟩:=Ey h
  refine Es (fun a w'=>j1 = some r ∧ Sx w [] nov [] [] 26 a w') ?_ ?_
  ·refine wp_block (Gz (fun (ys1 : List Int) a w'=>∃ i1 : Nat,(∃ dn,Cn = dn ++ ys1 ∧ dn.length = i1) ∧ Me Ct j1 ys1 i1 = some r ∧ Sx w [] nov [] [(0,Cm),(1,Co),(12,iV (Cn.length : Int)),(13,iV (i1 : Int))] 26 a w') List.length Cn ⟨0,⟨[],rfl,rfl⟩,h,S.nf [] rfl (subR rfl)⟩ ?_)
   clear S h;rintro ys1 a w1 ⟨i1,⟨dn,hd1,hi1⟩,h,S⟩
   cases ys1 with
   | nil =>
    rw [Me.eq_1] at h
    refine Fr (Vb S Ev rfl rfl rfl fun a S=>Ld ?_)
    replace S:=S.k5 0 1 12 13 14 rfl
    exact Tn (Fs (wp_cond_false ((S.tm rfl).trans (congrArg Value.bool (Im hd1 hi1))) (wp_exit (Ep (Ep (Gr (Tn (⟨h,S.nf [] rfl trivial⟩))))))))
   | cons y1 ys1 =>
    rw [Me.eq_2] at h
    refine Fr (Vb S Ev rfl rfl rfl fun a S=>Ld ?_)
    replace S:=S.k5 0 1 12 13 14 rfl
    refine Tn (Fs (wp_cond_true ((S.tm rfl).trans (congrArg Value.bool (Hr hd1 hi1))) (wp_skip (Tn (Fs (wp_block (Fr (Vm S rfl rfl fun a S=>Va S rfl rfl ?_))))))));clear S;intro a S
    refine Dl (Fs (Hd [] ([]) Tryz.mixed S rfl (by kernel_rfl) ?_));clear S;intro w3 hk1 hsel S
    refine Lg [0,1,2,3,4,5,6,7,8] hsel (by kernel_rfl) rfl ?_
    clear hsel
    refine Gp S rfl (Rm (S.tm rfl)) rfl fun a S=>Gp S rfl (Rm (S.tm rfl)) rfl ?_;clear S;intro a S
    obtain ⟨b1,o1,hm1,hr1⟩:=Fh (a:=a) (x:=.tmp 16) (y:=.tmp 17) (ty:=0) Pj By (Iv hd1 hi1) rfl (S.tm rfl) (S.tm rfl)
    refine Gp S rfl (hr1 _) rfl ?_;clear S;intro a S
    clear hr1
    refine Gp S rfl (Ic isAgg3 (off:=o1) (o:=0) (S.tm rfl) (hm1.at S.emb0) rfl) rfl fun a S=>Gp S rfl (Rm (S.tm rfl)) rfl fun a S=>Gp S rfl (Rm (S.tm rfl)) rfl ?_;clear S;intro a S
    obtain ⟨hc1,h⟩:=Ij h
    obtain ⟨b2,o2,hm2,hr2⟩:=Fh (a:=a) (x:=.tmp 20) (y:=.tmp 21) (ty:=0) Pj Cu (Eh hc1).1 (Eh hc1).2 (S.tm rfl) (S.tm rfl)
    refine Gp S rfl (hr2 _) rfl ?_;clear S;intro a S
    clear hr2
    refine Gp S rfl (Ic isAgg3 (off:=o2) (o:=0) (S.tm rfl) (hm2.at S.emb0) rfl) rfl fun a S=>Gp S rfl (Lf (S.tm rfl) (S.tm rfl)) rfl fun a S=>It ?_
    replace S:=S.k5 0 1 12 13 24 rfl
    refine Tn (Fc h (S.tm rfl) (fun hb2 h=>?_) (fun hb2 h=>?_))
    ·refine Fr (Vk S rfl rfl fun a S=>Dl (wp_ret (Ga (Ec (Ec (Ga (Ec ?_)))))))
     refine Ec ?_
     obtain rfl:=Option.some.inj h
     exact Eu S results13 rfl rfl
    ·exact wp_skip (Hn (Tn (Fg (Vq S Gf rfl rfl rfl fun a S=>Vm S rfl rfl fun a S=>Dl (⟨ys1,⟨i1 + 1,⟨_,(hd1).trans (List.append_cons _ _ _),by simp [hi1]⟩,h,S.nf [] rfl ⟨rfl,rfl,rfl,(congrArg (fun z=>some (Value.int .i64 z)) (Hs hd1 hi1 (Jg By))),trivial⟩⟩,Nat.lt_succ_self _⟩)))))
  clear S h;rintro a w2 ⟨h,S⟩;rw [hj1] at h;clear hj1 j1
  refine Tn (Fr (Vk S rfl rfl fun a S=>Dl (wp_ret ?_)))
  obtain rfl:=Option.some.inj h
  exact Eu S results13 rfl rfl
set_option maxRecDepth 20000 in
theorem DM (w : World) (Cm : Value) (Cn : List Dx) (By : Slc (view w []) 11 Cm (Cn.map Dx.enc)) (Co : Value) (Ct : List Dx) (Cu : Slc (view w []) 11 Co (Ct.map Dx.enc)) (r : Bool) (h : Sg Cn Ct = some r) :
    Calls prog 14 [Cm,Co].toArray w (Ret w [] fun _ v _=>v = bV r):=by
 refine Fe func14 rfl ntmps14 rfl fun a S=>?_
 unfold Sg at h
 replace S:=S.k2 0 1 rfl
 refine Fr (Vk S rfl rfl fun a S=>Dl (Fs (Fr (Vm S rfl rfl fun a S=>lv S (Fq La (S.tm rfl) (Fm By)) rfl fun a S=>Vm S rfl rfl ?_))));clear S;intro a S
 refine lv S (Fq La (S.tm rfl) (Fm Cu)) rfl fun a S=>Vb S Lf rfl rfl rfl fun a S=>Dl (Fc h (S.tm rfl) (fun hb1 h=>?_) (fun hb1 h=>?_))
 ·refine Fr (Vk S rfl rfl fun a S=>Dl (wp_ret (Ec ?_)))
  obtain rfl:=Option.some.inj h
  exact Eu S results14 rfl rfl
 ·refine wp_skip (Tn (Fs (Fr (Vm S rfl rfl fun a S=>lv S (Fq La (S.tm rfl) (Fm By)) rfl fun a S=>lv S (Rm rfl) rfl fun a S=>Dl ?_))))
  replace S:=S.k4 0 1 12 13 rfl
  obtain ⟨j1,hj1,h⟩:=Ey h
  refine Es (fun a w'=>j1 = some r ∧ Sx w [] nov [] [] 26 a w') ?_ ?_
  ·refine wp_block (Gz (fun (ys1 : List Dx) a w'=>∃ i1 : Nat,(∃ dn,Cn = dn ++ ys1 ∧ dn.length = i1) ∧ Lu Ct j1 ys1 i1 = some r ∧ Sx w [] nov [] [(0,Cm),(1,Co),(12,iV (Cn.length : Int)),(13,iV (i1 : Int))] 26 a w') List.length Cn ⟨0,⟨[],rfl,rfl⟩,h,S.nf [] rfl (subR rfl)⟩ ?_)
   clear S h;rintro ys1 a w1 ⟨i1,⟨dn,hd1,hi1⟩,h,S⟩
   cases ys1 with
   | nil =>
    rw [Lu.eq_1] at h
    refine Fr (Vb S Ev rfl rfl rfl fun a S=>Ld ?_)
    replace S:=S.k5 0 1 12 13 14 rfl
    exact Tn (Fs (wp_cond_false ((S.tm rfl).trans (congrArg Value.bool (Im hd1 hi1))) (wp_exit (Ep (Ep (Gr (Tn (⟨h,S.nf [] rfl trivial⟩))))))))
   | cons y1 ys1 =>
    rw [Lu.eq_2] at h
    refine Fr (Vb S Ev rfl rfl rfl fun a S=>Ld ?_)
    replace S:=S.k5 0 1 12 13 14 rfl
    refine Tn (Fs (wp_cond_true ((S.tm rfl).trans (congrArg Value.bool (Hr hd1 hi1))) (wp_skip (Tn (Fs (wp_block (Fr (Vm S rfl rfl fun a S=>Va S rfl rfl ?_))))))));clear S;intro a S
    refine Dl (Fs (Hd [] ([]) Tryz.mixed S rfl (by kernel_rfl) ?_));clear S;intro w3 hk1 hsel S
    refine Lg [0,1,2,3,4,5,6,7,8] hsel (by kernel_rfl) rfl ?_
    clear hsel
    refine Gp S rfl (Rm (S.tm rfl)) rfl fun a S=>Gp S rfl (Rm (S.tm rfl)) rfl ?_;clear S;intro a S
    obtain ⟨b1,o1,hm1,hr1⟩:=Fh (a:=a) (x:=.tmp 16) (y:=.tmp 17) (ty:=0) La By (Iv hd1 hi1) rfl (S.tm rfl) (S.tm rfl)
    refine Gp S rfl (hr1 _) rfl ?_;clear S;intro a S
    clear hr1
    refine Gp S rfl (Fk isAgg41 sizeOf41 (off:=o1) (o:=0) (part:=(Dx.enc y1)) rfl rfl (S.tm rfl) (hm1.at S.emb0)) rfl fun a S=>Gp S rfl (Rm (S.tm rfl)) rfl fun a S=>Gp S rfl (Rm (S.tm rfl)) rfl ?_;clear S;intro a S
    obtain ⟨hc1,h⟩:=Ij h
    obtain ⟨b2,o2,hm2,hr2⟩:=Fh (a:=a) (x:=.tmp 20) (y:=.tmp 21) (ty:=0) La Cu (Eh hc1).1 (Eh hc1).2 (S.tm rfl) (S.tm rfl)
    refine Gp S rfl (hr2 _) rfl ?_;clear S;intro a S
    clear hr2
    refine Gp S rfl (Fk isAgg41 sizeOf41 (off:=o2) (o:=0) (part:=(Dx.enc (nth Ct (i1 : Int)))) rfl rfl (S.tm rfl) (hm2.at S.emb0)) rfl fun a S=>Gp S rfl (EE (m:=y1) (n:=(nth Ct (i1 : Int))) (S.tm rfl) (S.tm rfl)) rfl fun a S=>It ?_
    replace S:=S.k5 0 1 12 13 24 rfl
    refine Tn (Fc h (S.tm rfl) (fun hb2 h=>?_) (fun hb2 h=>?_))
    ·refine Fr (Vk S rfl rfl fun a S=>Dl (wp_ret (Ga (Ec (Ec (Ga (Ec ?_)))))))
     refine Ec ?_
     obtain rfl:=Option.some.inj h
     exact Eu S results14 rfl rfl
    ·exact wp_skip (Hn (Tn (Fg (Vq S Gf rfl rfl rfl fun a S=>Vm S rfl rfl fun a S=>Dl (⟨ys1,⟨i1 + 1,⟨_,(hd1).trans (List.append_cons _ _ _),by simp [hi1]⟩,h,S.nf [] rfl ⟨rfl,rfl,rfl,(congrArg (fun z=>some (Value.int .i64 z)) (Hs hd1 hi1 (Jg By))),trivial⟩⟩,Nat.lt_succ_self _⟩)))))
  clear S h;rintro a w2 ⟨h,S⟩;rw [hj1] at h;clear hj1 j1
  refine Tn (Fr (Vk S rfl rfl fun a S=>Dl (wp_ret ?_)))
  obtain rfl:=Option.some.inj h
  exact Eu S results14 rfl rfl
theorem CB (w : World) (Bm : Int) (r : Bool) (h : Yw Bm = r) :
    Calls prog 116 [iV Bm].toArray w (Ret w [] fun _ v _=>v = bV r):=by
 refine Fe func116 rfl ntmps116 rfl fun a S=>?_
 unfold Yw at h
 replace S:=S.k1 0 rfl
 refine Fr (Vk S rfl rfl fun a S=>Dz (Vm S rfl rfl fun a S=>lv S (CJ (S.tm rfl) rfl (by decide)) rfl fun a S=>Vq S Jh rfl rfl rfl fun a S=>Vm S rfl rfl ?_));clear S;intro a S
 refine Ib 9 (fun a w'=>Keep [] w w' ∧ Sx w [] nov [] [(15,bV ((decide ((Int.tmod Bm 4) = 0)) && ((!decide ((Int.tmod Bm 100) = 0)) || (decide ((Int.tmod Bm 400) = 0)))))] 16 a w') ?_ ?_
 ·rcases Bool.eq_false_or_eq_true (decide ((Int.tmod Bm 4) = 0)) with hb1 | hb1
  ·refine Ef S rfl rfl rfl hb1 (Vm S rfl rfl fun a S=>Ef S rfl rfl rfl hb1 (lv S (CJ (S.tm rfl) rfl (by decide)) rfl fun a S=>Ef S rfl rfl rfl hb1 (Vq S Lf rfl rfl rfl fun a S=>Ef S rfl rfl rfl hb1 (Vm S rfl rfl fun a S=>Ib 4 (fun a w'=>Keep [] w w' ∧ Sx w [] nov [] [(6,bV (decide ((Int.tmod Bm 4) = 0))),(14,bV ((!decide ((Int.tmod Bm 100) = 0)) || (decide ((Int.tmod Bm 400) = 0))))] 16 a w') ?_ ?_))))
   ·rcases Bool.eq_false_or_eq_true (!decide ((Int.tmod Bm 100) = 0)) with hb2 | hb2
    ·iterate 3 (refine Hh S rfl rfl rfl (Nm hb2) rfl ?_ rfl;clear S;intro a S)
     exact Ef S rfl rfl rfl hb1 (lv S (Lj (decide ((Int.tmod Bm 400) = 0)) hb2 (S.tm rfl) rfl) rfl fun a S=>Dl (⟨Keep.refl _ _,S.nf [] rfl (subR rfl)⟩))
    ·exact Ef S rfl rfl rfl hb2 (Vm S rfl rfl fun a S=>Ef S rfl rfl rfl hb2 (lv S (CJ (S.tm rfl) rfl (by decide)) rfl fun a S=>Ef S rfl rfl rfl hb2 (Vq S Jh rfl rfl rfl fun a S=>Ef S rfl rfl rfl hb1 (lv S (Lk hb2 (S.tm rfl) (S.tm rfl)) rfl fun a S=>Dl (⟨Keep.refl _ _,S.nf [] rfl (subR rfl)⟩)))))
   clear S;rintro a w2 ⟨hk1,S⟩
   exact lv S (Hz hb1 (S.tm rfl) (S.tm rfl)) rfl fun a S=>Dl (⟨hk1,S.nf [] rfl ⟨rfl,trivial⟩⟩)
  ·iterate 4 (refine Hh S rfl rfl rfl (Jw hb1) rfl ?_ rfl;clear S;intro a S)
   iterate 3 (refine BF S rfl rfl rfl rfl ?_;clear S;intro a S)
   exact Hh S rfl rfl rfl (Jw hb1) rfl (fun a S=>lv S (Ia ((!decide ((Int.tmod Bm 100) = 0)) || (decide ((Int.tmod Bm 400) = 0))) hb1 (S.tm rfl) rfl) rfl fun a S=>Dl (⟨Keep.refl _ _,S.nf [] rfl ⟨rfl,trivial⟩⟩)) rfl
 clear S;rintro a w1 ⟨hk2,S⟩
 refine Va S rfl rfl fun a S=>Dl (wp_ret ?_)
 subst h
 exact Eu S results116 rfl rfl
theorem Yq (w : World) (Bm : Int) (Cz : Int) (r : Int) (h : Ou Bm Cz = r) :
    Calls prog 68 [iV Bm,iV Cz].toArray w (Ret w [] fun _ v _=>v = iV r):=by
 refine Fe func68 rfl ntmps68 rfl fun a S=>?_
 unfold Ou at h
 replace S:=S.k2 0 1 rfl
 refine Fr (Vk S rfl rfl fun a S=>Dl (Fs (Fr (Vm S rfl rfl fun a S=>Dl ?_))))
 refine wp_block (Fr (Vq S Jh rfl rfl rfl fun a S=>Va S rfl rfl fun a S=>Dl (Fc h (S.tm rfl) (fun hb1 h=>?_) (fun hb1 h=>?_))))
 ·refine Fs (Fr (Vm S rfl rfl fun a S=>Ei S (fun _=>Ea (vs:=[iV Bm]) ⟨(S.tm rfl),trivial⟩ call116) (CB _ Bm _ rfl) rfl ?_));clear S;intro v1 a w1 hv1 hk1 hn1 S
  subst hv1
  refine Dl (Fc h (S.tm rfl) (fun hb2 h=>?_) (fun hb2 h=>?_))
  ·refine Fr (Vk S rfl rfl fun a S=>Dl (wp_ret (Ec (Ga (Ec ?_)))))
   subst h
   exact Eu S results68 rfl rfl
  ·refine wp_skip (Tn (Fr (Vk S rfl rfl fun a S=>Dl (wp_ret (Ga (Ec ?_))))))
   subst h
   exact Eu S results68 rfl rfl
 ·refine Fs (Fr (Vq S Jh rfl rfl rfl fun a S=>Va S rfl rfl fun a S=>Dl ?_))
  obtain ⟨j1,hj1,h⟩:=Ey h
  refine Es (fun a w'=>∃ x1 : Bool,j1 x1 = r ∧ Sx w [] nov [] [(10,bV x1)] 15 a w') ?_ ?_
  ·refine Fc h (S.tm rfl) (fun hb3 h=>?_) (fun hb3 h=>?_)
   ·exact wp_skip (Tn (⟨decide (Cz = 4),h,S.nf [] rfl ⟨rfl,trivial⟩⟩))
   ·refine Fr (Vq S Jh rfl rfl rfl fun a S=>Va S rfl rfl fun a S=>Dl ?_)
    obtain ⟨j2,hj2,h⟩:=Ey h
    refine Es (fun a w'=>∃ x2 : Bool,j2 x2 = r ∧ Sx w [] nov [] [(10,bV x2)] 15 a w') ?_ ?_
    ·refine Fc h (S.tm rfl) (fun hb4 h=>?_) (fun hb4 h=>?_)
     ·exact wp_skip (Tn (⟨decide (Cz = 6),h,S.nf [] rfl ⟨rfl,trivial⟩⟩))
     ·refine Fr (Vq S Jh rfl rfl rfl fun a S=>Va S rfl rfl fun a S=>Dl ?_)
      obtain ⟨j3,hj3,h⟩:=Ey h
      refine Es (fun a w'=>∃ x3 : Bool,j3 x3 = r ∧ Sx w [] nov [] [(10,bV x3)] 15 a w') ?_ ?_
      ·refine Fc h (S.tm rfl) (fun hb5 h=>?_) (fun hb5 h=>?_)
       ·exact wp_skip (Tn (⟨decide (Cz = 9),h,S.nf [] rfl ⟨rfl,trivial⟩⟩))
       ·exact Fg (Vq S Jh rfl rfl rfl fun a S=>Va S rfl rfl fun a S=>Dl (⟨decide (Cz = 11),h,S.nf [] rfl ⟨rfl,trivial⟩⟩))
      clear S h;rintro a w4 ⟨x3,h,S⟩;rw [hj3] at h;clear hj3 j3
      exact Tn (⟨x3,h,S.nf [] rfl ⟨rfl,trivial⟩⟩)
    clear S h;rintro a w3 ⟨x2,h,S⟩;rw [hj2] at h;clear hj2 j2
    exact Tn (⟨x2,h,S.nf [] rfl ⟨rfl,trivial⟩⟩)
  clear S h;rintro a w2 ⟨x1,h,S⟩;rw [hj1] at h;clear hj1 j1
  refine Tn (Fc h (S.tm rfl) (fun hb6 h=>?_) (fun hb6 h=>?_))
  ·refine Fr (Vk S rfl rfl fun a S=>Dl (wp_ret (Ga (Ec ?_))))
   subst h
   exact Eu S results68 rfl rfl
  ·refine wp_skip (Hn (Tn (Fr (Vk S rfl rfl fun a S=>Dl (wp_ret ?_)))))
   subst h
   exact Eu S results68 rfl rfl
theorem Yt (w : World) (Bm : Int) (r : Int) (h : Re Bm = r) :
    Calls prog 69 [iV Bm].toArray w (Ret w [] fun _ v _=>v = iV r):=by
 refine Fe func69 rfl ntmps69 rfl fun a S=>?_
 unfold Re at h
 replace S:=S.k1 0 rfl
 refine Fr (Vk S rfl rfl fun a S=>Dl (Fs (Fr (Vm S rfl rfl fun a S=>Ei S (fun _=>Ea (vs:=[iV Bm]) ⟨(S.tm rfl),trivial⟩ call116) (CB _ Bm _ rfl) rfl ?_))));clear S;intro v1 a w1 hv1 hk1 hn1 S
 subst hv1
 refine Dl (Fc h (S.tm rfl) (fun hb1 h=>?_) (fun hb1 h=>?_))
 ·refine Fr (Vk S rfl rfl fun a S=>Dl (wp_ret (Ec ?_)))
  subst h
  exact Eu S results69 rfl rfl
 ·refine wp_skip (Tn (Fr (Vk S rfl rfl fun a S=>Dl (wp_ret ?_))))
  subst h
  exact Eu S results69 rfl rfl
theorem HZ (w : World) (Ba : Int) (r : Bool) (h : AC Ba = r) :
    Calls prog 70 [iV Ba].toArray w (Ret w [] fun _ v _=>v = bV r):=by
 refine Fe func70 rfl ntmps70 rfl fun a S=>?_
 unfold AC at h
 replace S:=S.k1 0 rfl
 refine Fr (Vk S rfl rfl fun a S=>Dz (Vm S rfl rfl fun a S=>Ei S (fun _=>Ea (vs:=[iV Ba,iV (-40000),iV 4000]) ⟨(S.tm rfl),rfl,rfl,trivial⟩ call67) (Ge _ Ba (-40000) 4000 _ rfl) rfl ?_));clear S;intro v1 a w1 hv1 hk1 hn1 S
 subst hv1
 refine Va S rfl rfl fun a S=>Dl (wp_ret ?_)
 subst h
 exact Eu S results70 rfl rfl
set_option maxRecDepth 20000 in
theorem IA (w : World) (Ah : Nq) (r : Int × Int) (h : AD Ah = some r) :
    Calls prog 31 [.agg (Nq.enc Ah).toArray].toArray w (Ret w [] fun _ v _=>v = .tuple #[iV r.1,iV r.2]):=by
 refine Fe func31 rfl ntmps31 rfl fun a S=>?_
 unfold AD at h
 replace S:=S.k1 0 rfl
 refine Fr (Mx S (S.tm rfl) (cs:=(Nq.enc Ah)) rfl rfl ?_);clear S;intro a w1 b1 hz1 hk1 S
 refine Vk S rfl rfl fun a S=>Vk S rfl rfl fun a S=>Dl (Fs (Fs ?_))
 obtain ⟨j1,hj1,h⟩:=Ey h
 refine Es (fun a w'=>∃ x1 : Bool,j1 x1 = some r ∧ Sx w [] nov [.blk b1 (Nq.enc Ah) 86] [(1,.pointer (some ⟨b1,0,none⟩)),(28,bV x1)] 68 a w') ?_ ?_
 ·rcases Bool.eq_false_or_eq_true (!(Ed Ah.Year 1900 2100)) with hb1 | hb1
  ·replace h:=Rg h hb1
   rcases Bool.eq_false_or_eq_true true with hb2 | hb2
   ·replace h:=Rg h hb2
    refine Hd [] ([]) Tryz.mixed S rfl (by kernel_rfl) ?_;clear S;intro w6 hk5 hsel S
    refine Ek 0 S hsel rfl rfl rfl (by kernel_rfl) (by kernel_rfl) rfl (fun _ hw=>(Gv Yy (S.tm rfl))) fun a S=>Ek 1 S hsel rfl rfl rfl (by kernel_rfl) (by kernel_rfl) rfl (fun _ hw=>(Ic isAgg3 (off:=0) (o:=0) (S.tm rfl) ((S.blk_mem (i:=0) (cells:=(Nq.enc Ah)) (b:=b1) (T:=86) rfl (Ie (e':=.blk b1 (Nq.enc Ah) 86))).kept hw) rfl)) fun a S=>Hi 2 (by kernel_rfl) rfl (Ei S (fun _=>Ea (vs:=[iV Ah.Year,iV 1900,iV 2100]) ⟨(S.tm rfl),rfl,rfl,trivial⟩ call67) (Ge _ Ah.Year 1900 2100 _ rfl) rfl ?_);clear S;intro v4 a w7 hv4 hk6 hn4 S
    subst hv4
    refine Ld (Ik hk6 (Lg [3,4,5,6,7,8,9,10,11,12,13,14,15,16,17,18,19,20] hsel (by kernel_rfl) rfl ?_))
    clear hsel
    refine Gp S rfl (Hv (S.tm rfl)) rfl fun a S=>Gp S rfl (Rm (S.tm rfl)) rfl ?_;clear S;intro a S
    iterate 4 (refine Qs S rfl rfl rfl rfl (Nm hb1) rfl ?_ rfl;clear S;intro a S)
    refine Gp S rfl (Qi hb1 (S.tm rfl) rfl) rfl fun a S=>Gp S rfl (Rm (S.tm rfl)) rfl ?_;clear S;intro a S
    iterate 9 (refine Qs S rfl rfl rfl rfl (Nm hb2) rfl ?_ rfl;clear S;intro a S)
    refine Gp S rfl (Qi hb2 (S.tm rfl) rfl) rfl fun a S=>It ?_
    replace S:=(S.nl [.blk b1 (Nq.enc Ah) 86] [true] rfl).k2 1 28 rfl
    exact Tn (⟨true,h,S.nf [true] rfl (subR rfl)⟩)
   ·replace h:=Rh h hb2
    refine Hd [] ([]) Tryz.mixed S rfl (by kernel_rfl) ?_;clear S;intro w11 hk10 hsel S
    refine Ek 0 S hsel rfl rfl rfl (by kernel_rfl) (by kernel_rfl) rfl (fun _ hw=>(Gv Yy (S.tm rfl))) fun a S=>Ek 1 S hsel rfl rfl rfl (by kernel_rfl) (by kernel_rfl) rfl (fun _ hw=>(Ic isAgg3 (off:=0) (o:=0) (S.tm rfl) ((S.blk_mem (i:=0) (cells:=(Nq.enc Ah)) (b:=b1) (T:=86) rfl (Ie (e':=.blk b1 (Nq.enc Ah) 86))).kept hw) rfl)) fun a S=>Hi 2 (by kernel_rfl) rfl (Ei S (fun _=>Ea (vs:=[iV Ah.Year,iV 1900,iV 2100]) ⟨(S.tm rfl),rfl,rfl,trivial⟩ call67) (Ge _ Ah.Year 1900 2100 _ rfl) rfl ?_);clear S;intro v8 a w12 hv8 hk11 hn8 S
    subst hv8
    refine Ld (Ik hk11 (Ek 3 S hsel rfl rfl rfl (by kernel_rfl) (by kernel_rfl) rfl (fun _ hw=>(Hv (S.tm rfl))) fun a S=>Ek 4 S hsel rfl rfl rfl (by kernel_rfl) (by kernel_rfl) rfl (fun _ hw=>(Rm (S.tm rfl))) fun a S=>NI 5 S hsel rfl rfl rfl rfl (Nm hb1) rfl (by kernel_rfl) (by kernel_rfl) rfl fun a S=>NI 6 S hsel rfl rfl rfl rfl (Nm hb1) rfl (by kernel_rfl) (by kernel_rfl) rfl fun a S=>NI 7 S hsel rfl rfl rfl rfl (Nm hb1) rfl (by kernel_rfl) (by kernel_rfl) rfl fun a S=>NI 8 S hsel rfl rfl rfl rfl (Nm hb1) rfl (by kernel_rfl) (by kernel_rfl) rfl fun a S=>Ek 9 S hsel rfl rfl rfl (by kernel_rfl) (by kernel_rfl) rfl (fun _ hw=>(Qi hb1 (S.tm rfl) rfl)) fun a S=>Ek 10 S hsel rfl rfl rfl (by kernel_rfl) (by kernel_rfl) rfl (fun _ hw=>(Rm (S.tm rfl))) fun a S=>Et 11 S hsel rfl rfl rfl rfl hb2 rfl rfl (by kernel_rfl) (by kernel_rfl) rfl (fun _ hw=>(Gv NY (S.tm rfl))) ?_));clear S;intro a S
    refine Et 12 S hsel rfl rfl rfl rfl hb2 rfl rfl (by kernel_rfl) (by kernel_rfl) rfl (fun _ hw=>(Ic isAgg3 (off:=0) (o:=2) (S.tm rfl) ((S.blk_mem (i:=0) (cells:=(Nq.enc Ah)) (b:=b1) (T:=86) rfl (Ie (e':=.blk b1 (Nq.enc Ah) 86))).kept hw) rfl)) fun a S=>Et 13 S hsel rfl rfl rfl rfl hb2 rfl rfl (by kernel_rfl) (by kernel_rfl) rfl (fun _ hw=>(Gv Yy (S.tm rfl))) fun a S=>Et 14 S hsel rfl rfl rfl rfl hb2 rfl rfl (by kernel_rfl) (by kernel_rfl) rfl (fun _ hw=>(Ic isAgg3 (off:=0) (o:=0) (S.tm rfl) ((S.blk_mem (i:=0) (cells:=(Nq.enc Ah)) (b:=b1) (T:=86) rfl (Ie (e':=.blk b1 (Nq.enc Ah) 86))).kept hw) rfl)) fun a S=>Et 15 S hsel rfl rfl rfl rfl hb2 rfl rfl (by kernel_rfl) (by kernel_rfl) rfl (fun _ hw=>(Gv GN (S.tm rfl))) fun a S=>Et 16 S hsel rfl rfl rfl rfl hb2 rfl rfl (by kernel_rfl) (by kernel_rfl) rfl (fun _ hw=>(Ic isAgg3 (off:=0) (o:=1) (S.tm rfl) ((S.blk_mem (i:=0) (cells:=(Nq.enc Ah)) (b:=b1) (T:=86) rfl (Ie (e':=.blk b1 (Nq.enc Ah) 86))).kept hw) rfl)) fun a S=>Hi 17 (by kernel_rfl) rfl (Ef S rfl rfl rfl hb2 (Ei S (fun _=>Ea (vs:=[iV Ah.Year,iV Ah.Month]) ⟨(S.tm rfl),(S.tm rfl),trivial⟩ call68) (Yq _ Ah.Year Ah.Month _ rfl) rfl ?_));clear S;intro v9 a w13 hv9 hk12 hn9 S
    subst hv9
    refine Ld (Ik hk12 (Hi 18 (by kernel_rfl) rfl (Ef S rfl rfl rfl hb2 (Ei S (fun _=>Ea (vs:=[iV Ah.Day,iV 1,iV (Ou Ah.Year Ah.Month)]) ⟨(S.tm rfl),rfl,(S.tm rfl),trivial⟩ call67) (Ge _ Ah.Day 1 (Ou Ah.Year Ah.Month) _ rfl) rfl ?_))));clear S;intro v10 a w14 hv10 hk13 hn10 S
    subst hv10
    refine Ld (Ik hk13 (Lg [19,20] hsel (by kernel_rfl) rfl ?_))
    clear hsel
    refine Gc S rfl rfl rfl rfl hb2 (Hm S (Hv (S.tm rfl)) rfl fun a S=>Gp S rfl (Qj hb2 (S.tm rfl) (S.tm rfl)) rfl fun a S=>It ?_)
    replace S:=(S.nl [.blk b1 (Nq.enc Ah) 86] [true] rfl).k2 1 28 rfl
    exact Tn (⟨!(Ed Ah.Day 1 (Ou Ah.Year Ah.Month)),h,S.nf [true] rfl (subR rfl)⟩)
  ·replace h:=Rh h hb1
   rcases Bool.eq_false_or_eq_true (!(Ed Ah.Month 1 12)) with hb3 | hb3
   ·replace h:=Rg h hb3
    refine Hd [] ([]) Tryz.mixed S rfl (by kernel_rfl) ?_;clear S;intro w19 hk18 hsel S
    refine Ek 0 S hsel rfl rfl rfl (by kernel_rfl) (by kernel_rfl) rfl (fun _ hw=>(Gv Yy (S.tm rfl))) fun a S=>Ek 1 S hsel rfl rfl rfl (by kernel_rfl) (by kernel_rfl) rfl (fun _ hw=>(Ic isAgg3 (off:=0) (o:=0) (S.tm rfl) ((S.blk_mem (i:=0) (cells:=(Nq.enc Ah)) (b:=b1) (T:=86) rfl (Ie (e':=.blk b1 (Nq.enc Ah) 86))).kept hw) rfl)) fun a S=>Hi 2 (by kernel_rfl) rfl (Ei S (fun _=>Ea (vs:=[iV Ah.Year,iV 1900,iV 2100]) ⟨(S.tm rfl),rfl,rfl,trivial⟩ call67) (Ge _ Ah.Year 1900 2100 _ rfl) rfl ?_);clear S;intro v15 a w20 hv15 hk19 hn15 S
    subst hv15
    refine Ld (Ik hk19 (Ek 3 S hsel rfl rfl rfl (by kernel_rfl) (by kernel_rfl) rfl (fun _ hw=>(Hv (S.tm rfl))) fun a S=>Ek 4 S hsel rfl rfl rfl (by kernel_rfl) (by kernel_rfl) rfl (fun _ hw=>(Rm (S.tm rfl))) fun a S=>Et 5 S hsel rfl rfl rfl rfl hb1 rfl rfl (by kernel_rfl) (by kernel_rfl) rfl (fun _ hw=>(Gv GN (S.tm rfl))) fun a S=>Et 6 S hsel rfl rfl rfl rfl hb1 rfl rfl (by kernel_rfl) (by kernel_rfl) rfl (fun _ hw=>(Ic isAgg3 (off:=0) (o:=1) (S.tm rfl) ((S.blk_mem (i:=0) (cells:=(Nq.enc Ah)) (b:=b1) (T:=86) rfl (Ie (e':=.blk b1 (Nq.enc Ah) 86))).kept hw) rfl)) fun a S=>Hi 7 (by kernel_rfl) rfl (Ef S rfl rfl rfl hb1 (Ei S (fun _=>Ea (vs:=[iV Ah.Month,iV 1,iV 12]) ⟨(S.tm rfl),rfl,rfl,trivial⟩ call67) (Ge _ Ah.Month 1 12 _ rfl) rfl ?_))));clear S;intro v16 a w21 hv16 hk20 hn16 S
    subst hv16
    refine Ld (Ik hk20 (Lg [8,9,10,11,12,13,14,15,16,17,18,19,20] hsel (by kernel_rfl) rfl ?_))
    clear hsel
    refine Gc S rfl rfl rfl rfl hb1 (Hm S (Hv (S.tm rfl)) rfl fun a S=>Gp S rfl (Qj hb1 (S.tm rfl) (S.tm rfl)) rfl fun a S=>Gp S rfl (Rm (S.tm rfl)) rfl ?_);clear S;intro a S
    iterate 9 (refine Qs S rfl rfl rfl rfl (Nm hb3) rfl ?_ rfl;clear S;intro a S)
    refine Gp S rfl (Qi hb3 (S.tm rfl) rfl) rfl fun a S=>It ?_
    replace S:=(S.nl [.blk b1 (Nq.enc Ah) 86] [true] rfl).k2 1 28 rfl
    exact Tn (⟨true,h,S.nf [true] rfl (subR rfl)⟩)
   ·replace h:=Rh h hb3
    refine Hd [] ([]) Tryz.mixed S rfl (by kernel_rfl) ?_;clear S;intro w26 hk25 hsel S
    refine Ek 0 S hsel rfl rfl rfl (by kernel_rfl) (by kernel_rfl) rfl (fun _ hw=>(Gv Yy (S.tm rfl))) fun a S=>Ek 1 S hsel rfl rfl rfl (by kernel_rfl) (by kernel_rfl) rfl (fun _ hw=>(Ic isAgg3 (off:=0) (o:=0) (S.tm rfl) ((S.blk_mem (i:=0) (cells:=(Nq.enc Ah)) (b:=b1) (T:=86) rfl (Ie (e':=.blk b1 (Nq.enc Ah) 86))).kept hw) rfl)) fun a S=>Hi 2 (by kernel_rfl) rfl (Ei S (fun _=>Ea (vs:=[iV Ah.Year,iV 1900,iV 2100]) ⟨(S.tm rfl),rfl,rfl,trivial⟩ call67) (Ge _ Ah.Year 1900 2100 _ rfl) rfl ?_);clear S;intro v21 a w27 hv21 hk26 hn21 S
    subst hv21
    refine Ld (Ik hk26 (Ek 3 S hsel rfl rfl rfl (by kernel_rfl) (by kernel_rfl) rfl (fun _ hw=>(Hv (S.tm rfl))) fun a S=>Ek 4 S hsel rfl rfl rfl (by kernel_rfl) (by kernel_rfl) rfl (fun _ hw=>(Rm (S.tm rfl))) fun a S=>Et 5 S hsel rfl rfl rfl rfl hb1 rfl rfl (by kernel_rfl) (by kernel_rfl) rfl (fun _ hw=>(Gv GN (S.tm rfl))) fun a S=>Et 6 S hsel rfl rfl rfl rfl hb1 rfl rfl (by kernel_rfl) (by kernel_rfl) rfl (fun _ hw=>(Ic isAgg3 (off:=0) (o:=1) (S.tm rfl) ((S.blk_mem (i:=0) (cells:=(Nq.enc Ah)) (b:=b1) (T:=86) rfl (Ie (e':=.blk b1 (Nq.enc Ah) 86))).kept hw) rfl)) fun a S=>Hi 7 (by kernel_rfl) rfl (Ef S rfl rfl rfl hb1 (Ei S (fun _=>Ea (vs:=[iV Ah.Month,iV 1,iV 12]) ⟨(S.tm rfl),rfl,rfl,trivial⟩ call67) (Ge _ Ah.Month 1 12 _ rfl) rfl ?_))));clear S;intro v22 a w28 hv22 hk27 hn22 S
    subst hv22
    refine Ld (Ik hk27 (Et 8 S hsel rfl rfl rfl rfl hb1 rfl rfl (by kernel_rfl) (by kernel_rfl) rfl (fun _ hw=>(Hv (S.tm rfl))) fun a S=>Ek 9 S hsel rfl rfl rfl (by kernel_rfl) (by kernel_rfl) rfl (fun _ hw=>(Qj hb1 (S.tm rfl) (S.tm rfl))) fun a S=>Ek 10 S hsel rfl rfl rfl (by kernel_rfl) (by kernel_rfl) rfl (fun _ hw=>(Rm (S.tm rfl))) fun a S=>Et 11 S hsel rfl rfl rfl rfl hb3 rfl rfl (by kernel_rfl) (by kernel_rfl) rfl (fun _ hw=>(Gv NY (S.tm rfl))) fun a S=>Et 12 S hsel rfl rfl rfl rfl hb3 rfl rfl (by kernel_rfl) (by kernel_rfl) rfl (fun _ hw=>(Ic isAgg3 (off:=0) (o:=2) (S.tm rfl) ((S.blk_mem (i:=0) (cells:=(Nq.enc Ah)) (b:=b1) (T:=86) rfl (Ie (e':=.blk b1 (Nq.enc Ah) 86))).kept hw) rfl)) fun a S=>Et 13 S hsel rfl rfl rfl rfl hb3 rfl rfl (by kernel_rfl) (by kernel_rfl) rfl (fun _ hw=>(Gv Yy (S.tm rfl))) fun a S=>Et 14 S hsel rfl rfl rfl rfl hb3 rfl rfl (by kernel_rfl) (by kernel_rfl) rfl (fun _ hw=>(Ic isAgg3 (off:=0) (o:=0) (S.tm rfl) ((S.blk_mem (i:=0) (cells:=(Nq.enc Ah)) (b:=b1) (T:=86) rfl (Ie (e':=.blk b1 (Nq.enc Ah) 86))).kept hw) rfl)) fun a S=>Et 15 S hsel rfl rfl rfl rfl hb3 rfl rfl (by kernel_rfl) (by kernel_rfl) rfl (fun _ hw=>(Gv GN (S.tm rfl))) fun a S=>Et 16 S hsel rfl rfl rfl rfl hb3 rfl rfl (by kernel_rfl) (by kernel_rfl) rfl (fun _ hw=>(Ic isAgg3 (off:=0) (o:=1) (S.tm rfl) ((S.blk_mem (i:=0) (cells:=(Nq.enc Ah)) (b:=b1) (T:=86) rfl (Ie (e':=.blk b1 (Nq.enc Ah) 86))).kept hw) rfl)) ?_));clear S;intro a S
    refine Hi 17 (by kernel_rfl) rfl (Ef S rfl rfl rfl hb3 (Ei S (fun _=>Ea (vs:=[iV Ah.Year,iV Ah.Month]) ⟨(S.tm rfl),(S.tm rfl),trivial⟩ call68) (Yq _ Ah.Year Ah.Month _ rfl) rfl ?_));clear S;intro v23 a w29 hv23 hk28 hn23 S
    subst hv23
    refine Ld (Ik hk28 (Hi 18 (by kernel_rfl) rfl (Ef S rfl rfl rfl hb3 (Ei S (fun _=>Ea (vs:=[iV Ah.Day,iV 1,iV (Ou Ah.Year Ah.Month)]) ⟨(S.tm rfl),rfl,(S.tm rfl),trivial⟩ call67) (Ge _ Ah.Day 1 (Ou Ah.Year Ah.Month) _ rfl) rfl ?_))));clear S;intro v24 a w30 hv24 hk29 hn24 S
    subst hv24
    refine Ld (Ik hk29 (Lg [19,20] hsel (by kernel_rfl) rfl ?_))
    clear hsel
    refine Gc S rfl rfl rfl rfl hb3 (Hm S (Hv (S.tm rfl)) rfl fun a S=>Gp S rfl (Qj hb3 (S.tm rfl) (S.tm rfl)) rfl fun a S=>It ?_)
    replace S:=(S.nl [.blk b1 (Nq.enc Ah) 86] [true] rfl).k2 1 28 rfl
    exact Tn (⟨!(Ed Ah.Day 1 (Ou Ah.Year Ah.Month)),h,S.nf [true] rfl (subR rfl)⟩)
 clear S h;rintro a w2 ⟨x1,h,S⟩;rw [hj1] at h;clear hj1 j1
 refine Tn (Fc h (S.tm rfl) (fun hb4 h=>?_) (fun hb4 h=>?_))
 ·refine Fr (Vk S rfl rfl fun a S=>Vk S rfl rfl fun a S=>Dl (wp_ret (Ec ?_)))
  obtain rfl:=Option.some.inj h
  exact Ln S results31 rfl rfl rfl
 ·refine wp_skip (Tn (Fr (Vf NY S rfl rfl fun a S=>Vl isAgg3 0 S rfl rfl rfl rfl fun a S=>Vq S Iy rfl rfl rfl fun a S=>Va S rfl rfl fun a S=>Dl (Fs ?_))))
  refine Fr (Vk S rfl rfl fun a S=>Dl ?_)
  replace S:=S.k3 1 4 5 rfl
  obtain ⟨j2,hj2,h⟩:=Ey h
  refine Es (fun a w'=>∃ x2 : Int,j2 x2 = some r ∧ Sx w [] nov [.blk b1 (Nq.enc Ah) 86] [(1,.pointer (some ⟨b1,0,none⟩)),(4,iV x2)] 68 a w') ?_ ?_
  ·refine wp_block (Gz (fun (m1 : Nat) a w'=>∃ x2 : Int,∃ x3 : Int,Pe Ah j2 m1 x2 x3 = some r ∧ Sx w [] nov [.blk b1 (Nq.enc Ah) 86] [(1,.pointer (some ⟨b1,0,none⟩)),(4,iV x2),(5,iV x3)] 68 a w') id ((Ah.Month - 1).toNat + 2) ⟨W (Ah.Day - 1),1,h,S.nf [true] rfl (subR rfl)⟩ ?_)
   clear S h;rintro m1 a w31 ⟨x2,x3,h,S⟩
   cases m1 with
   | zero=>rw [Pe.eq_1] at h;cases h
   | succ m1 =>
    rw [Pe.eq_2] at h
    refine Fs (Fr (Vm S rfl rfl fun a S=>Vf GN S rfl rfl fun a S=>Vl isAgg3 0 S rfl rfl rfl rfl fun a S=>Vb S Ev rfl rfl rfl fun a S=>Dl (Fc h (S.tm rfl) (fun hb5 h=>?_) (fun hb5 h=>?_))))
    ·refine wp_skip (Tn (Fs (wp_block (Fg (Vm S rfl rfl fun a S=>Vf Yy S rfl rfl fun a S=>Vl isAgg3 0 S rfl rfl rfl rfl fun a S=>Vm S rfl rfl fun a S=>Ei S (fun _=>Ea (vs:=[iV Ah.Year,iV x3]) ⟨(S.tm rfl),(S.tm rfl),trivial⟩ call68) (Yq _ Ah.Year x3 _ rfl) rfl ?_)))));clear S;intro v25 a w33 hv25 hk30 hn25 S
     subst hv25
     refine Vb S Gf rfl rfl rfl fun a S=>Va S rfl rfl fun a S=>Ld (Hn (Tn (Fg (Vm S rfl rfl fun a S=>Vq S Gf rfl rfl rfl fun a S=>Va S rfl rfl fun a S=>Ld ?_))))
     replace S:=S.k3 1 4 5 rfl
     exact Tn (⟨m1,⟨W (x2 + (Ou Ah.Year x3)),W (x3 + 1),h,S.nf [true] rfl ⟨rfl,rfl,rfl,trivial⟩⟩,Nat.lt_succ_self _⟩)
    ·exact wp_exit (Ep (Ep (Gr (Tn (⟨x2,h,S.nf [true] rfl (subR rfl)⟩)))))
  clear S h;rintro a w32 ⟨x2,h,S⟩;rw [hj2] at h;clear hj2 j2
  refine Tn (Fs (Fr (Vk S rfl rfl fun a S=>Dl ?_)))
  replace S:=S.k3 1 4 6 rfl
  obtain ⟨j3,hj3,h⟩:=Ey h
  refine Es (fun a w'=>∃ x4 : Int,j3 x4 = some r ∧ Sx w [] nov [.blk b1 (Nq.enc Ah) 86] [(1,.pointer (some ⟨b1,0,none⟩)),(4,iV x4)] 68 a w') ?_ ?_
  ·refine wp_block (Gz (fun (m2 : Nat) a w'=>∃ x4 : Int,∃ x5 : Int,Pf Ah j3 m2 x4 x5 = some r ∧ Sx w [] nov [.blk b1 (Nq.enc Ah) 86] [(1,.pointer (some ⟨b1,0,none⟩)),(4,iV x4),(6,iV x5)] 68 a w') id ((Ah.Year - 2024).toNat + 2) ⟨x2,2024,h,S.nf [true] rfl (subR rfl)⟩ ?_)
   clear S h;rintro m2 a w34 ⟨x4,x5,h,S⟩
   cases m2 with
   | zero=>rw [Pf.eq_1] at h;cases h
   | succ m2 =>
    rw [Pf.eq_2] at h
    refine Fs (Fr (Vm S rfl rfl fun a S=>Vf Yy S rfl rfl fun a S=>Vl isAgg3 0 S rfl rfl rfl rfl fun a S=>Vb S Ev rfl rfl rfl fun a S=>Dl (Fc h (S.tm rfl) (fun hb6 h=>?_) (fun hb6 h=>?_))))
    ·refine wp_skip (Tn (Fs (wp_block (Fg (Vm S rfl rfl fun a S=>Vm S rfl rfl fun a S=>Ei S (fun _=>Ea (vs:=[iV x5]) ⟨(S.tm rfl),trivial⟩ call69) (Yt _ x5 _ rfl) rfl ?_)))));clear S;intro v26 a w36 hv26 hk31 hn26 S
     subst hv26
     refine Vb S Gf rfl rfl rfl fun a S=>Va S rfl rfl fun a S=>Ld (Hn (Tn (Fg (Vm S rfl rfl fun a S=>Vq S Gf rfl rfl rfl fun a S=>Va S rfl rfl fun a S=>Dl ?_))))
     exact ⟨m2,⟨W (x4 + (Re x5)),W (x5 + 1),h,S.nf [true] rfl ⟨rfl,rfl,rfl,trivial⟩⟩,Nat.lt_succ_self _⟩
    ·exact wp_exit (Ep (Ep (Gr (Tn (⟨x4,h,S.nf [true] rfl (subR rfl)⟩)))))
  clear S h;rintro a w35 ⟨x4,h,S⟩;rw [hj3] at h;clear hj3 j3
  refine Tn (Fs (Fr (Vf Yy S rfl rfl fun a S=>Vl isAgg3 0 S rfl rfl rfl rfl fun a S=>Va S rfl rfl fun a S=>Dl ?_)))
  replace S:=S.n0.k2 4 7 rfl
  obtain ⟨j4,hj4,h⟩:=Ey h
  refine Es (fun a w'=>∃ x6 : Int,j4 x6 = some r ∧ Sx w [] nov [] [(4,iV x6)] 68 a w') ?_ ?_
  ·refine wp_block (Gz (fun (m3 : Nat) a w'=>∃ x6 : Int,∃ x7 : Int,Pg j4 m3 x6 x7 = some r ∧ Sx w [] nov [] [(4,iV x6),(7,iV x7)] 68 a w') id ((2024 - Ah.Year).toNat + 2) ⟨x4,Ah.Year,h,S.nf [] rfl (subR rfl)⟩ ?_)
   clear S h;rintro m3 a w37 ⟨x6,x7,h,S⟩
   cases m3 with
   | zero=>rw [Pg.eq_1] at h;cases h
   | succ m3 =>
    rw [Pg.eq_2] at h
    refine Fs (Fr (Vm S rfl rfl fun a S=>Vq S Ev rfl rfl rfl fun a S=>Dl (Fc h (S.tm rfl) (fun hb7 h=>?_) (fun hb7 h=>?_))))
    ·refine wp_skip (Tn (Fs (wp_block (Fg (Vm S rfl rfl fun a S=>Vm S rfl rfl fun a S=>Ei S (fun _=>Ea (vs:=[iV x7]) ⟨(S.tm rfl),trivial⟩ call69) (Yt _ x7 _ rfl) rfl ?_)))));clear S;intro v27 a w39 hv27 hk32 hn27 S
     subst hv27
     refine Vb S Iy rfl rfl rfl fun a S=>Va S rfl rfl fun a S=>Ld (Hn (Tn (Fg (Vm S rfl rfl fun a S=>Vq S Gf rfl rfl rfl fun a S=>Va S rfl rfl fun a S=>Dl ?_))))
     exact ⟨m3,⟨W (x6 - (Re x7)),W (x7 + 1),h,S.nf [] rfl ⟨rfl,rfl,trivial⟩⟩,Nat.lt_succ_self _⟩
    ·exact wp_exit (Ep (Ep (Gr (Tn (⟨x6,h,S.nf [] rfl ⟨rfl,trivial⟩⟩)))))
  clear S h;rintro a w38 ⟨x6,h,S⟩;rw [hj4] at h;clear hj4 j4
  refine Tn (Fs (Fr (Vm S rfl rfl fun a S=>Ei S (fun _=>Ea (vs:=[iV x6]) ⟨(S.tm rfl),trivial⟩ call70) (HZ _ x6 _ rfl) rfl ?_)));clear S;intro v28 a w40 hv28 hk33 hn28 S
  subst hv28
  refine Vu S Hv rfl rfl fun a S=>Dl (Fc h (S.tm rfl) (fun hb8 h=>?_) (fun hb8 h=>?_))
  ·refine Fr (Vk S rfl rfl fun a S=>Vk S rfl rfl fun a S=>Dl (wp_ret (Ec ?_)))
   obtain rfl:=Option.some.inj h
   exact Ln S results31 rfl rfl rfl
  ·refine wp_skip (Tn (Fr (Vm S rfl rfl fun a S=>Va S rfl rfl fun a S=>Vk S rfl rfl fun a S=>Dl (wp_ret ?_))))
   obtain rfl:=Option.some.inj h
   exact Ln S results31 rfl rfl rfl
theorem CI (w : World) (Ab : Value) (Ae : List Ov) (Ag : Slc (view w []) 5 Ab (Ae.map Ov.enc)) (r : Int) (h : Wi Ae = some r) :
    Calls prog 117 [Ab].toArray w (Ret w [] fun _ v _=>v = iV r):=by
 refine Fe func117 rfl ntmps117 rfl fun a S=>?_
 unfold Wi at h
 replace S:=S.k1 0 rfl
 refine Fr (Vk S rfl rfl fun a S=>Dl (Fs (Fr (Vm S rfl rfl fun a S=>lv S (Fq PI (S.tm rfl) (Fm Ag)) rfl fun a S=>Vq S Jj rfl rfl rfl ?_))));clear S;intro a S
 refine Dl (Fc h (S.tm rfl) (fun hb1 h=>?_) (fun hb1 h=>?_))
 ·refine Fr (Vk S rfl rfl fun a S=>Dl (wp_ret (Ec ?_)))
  obtain rfl:=Option.some.inj h
  exact Eu S results117 rfl rfl
 ·refine wp_skip (Tn (Fr (Rc (κ:=ByteArray) (ν:=Bool) S rfl Value.string Value.bool ?_)));clear S;intro a w1 b1 hz1 hk1 S
  refine Va S rfl rfl fun a S=>Dl (Fs (Fr (Vm S rfl rfl fun a S=>lv S (Fq PI (S.tm rfl) (Fm Ag)) rfl fun a S=>lv S (Rm rfl) rfl fun a S=>Dl ?_)))
  replace S:=(S.nl [.map b1 (Ft Value.string Value.bool ([] : List (ByteArray × Bool))) ([] : List (ByteArray × Bool)).length] [true] rfl).k4 3 10 11 12 rfl
  obtain ⟨j1,hj1,h⟩:=Ey h
  refine Es (fun a w'=>∃ x1 : List (ByteArray × Bool),j1 x1 = some r ∧ Sx w [] nov [.map b1 (Ft Value.string Value.bool x1) x1.length] [] 53 a w') ?_ ?_
  ·refine wp_block (Gz (fun (ys1 : List Ov) a w'=>∃ i1 : Nat,∃ x1 : List (ByteArray × Bool),(∃ dn,Ae = dn ++ ys1 ∧ dn.length = i1) ∧ Mc j1 ys1 i1 x1 = some r ∧ Sx w [] nov [.map b1 (Ft Value.string Value.bool x1) x1.length] [(3,.map (some b1)),(10,Ab),(11,iV (Ae.length : Int)),(12,iV (i1 : Int))] 53 a w') List.length Ae ⟨0,([] : List (ByteArray × Bool)),⟨[],rfl,rfl⟩,h,S.nf [true] rfl (subR rfl)⟩ ?_)
   clear S h;rintro ys1 a w2 ⟨i1,x1,⟨dn,hd1,hi1⟩,h,S⟩
   cases ys1 with
   | nil =>
    rw [Mc.eq_1] at h
    refine Fr (Vb S Ev rfl rfl rfl fun a S=>Ld ?_)
    replace S:=S.k5 3 10 11 12 13 rfl
    exact Tn (Fs (wp_cond_false ((S.tm rfl).trans (congrArg Value.bool (Im hd1 hi1))) (wp_exit (Ep (Ep (Gr (Tn (⟨x1,h,S.nf [true] rfl trivial⟩))))))))
   | cons y1 ys1 =>
    rw [Mc.eq_2] at h
    refine Fr (Vb S Ev rfl rfl rfl fun a S=>Ld ?_)
    replace S:=S.k5 3 10 11 12 13 rfl
    refine Tn (Fs (wp_cond_true ((S.tm rfl).trans (congrArg Value.bool (Hr hd1 hi1))) (wp_skip (Tn (Fs (wp_block (Fs (Fg ?_))))))))
    obtain ⟨b2,o1,hm1,hr1⟩:=Fh (a:=a) (x:=.tmp 10) (y:=.tmp 12) (ty:=0) PI Ag (Iv hd1 hi1) rfl (S.tm rfl) (S.tm rfl)
    refine lv S (hr1 _) rfl ?_;clear S;intro a S
    clear hr1
    refine lv S (Fk isAgg89 sizeOf89 (off:=o1) (o:=0) (part:=(Ov.enc y1)) rfl rfl (S.tm rfl) (hm1.at S.emb0)) rfl fun a S=>Hu S zeroValue89 (cs:=[sV An,iV 0,iV 0,iV 0,iV 0]) rfl rfl ?_;clear S;intro a w4 b3 hz2 hk2 S
    refine Fj S (S.tm rfl) (S.tm rfl) (i:=0) (off:=0) rfl sizeOf89 (vs:=(Ov.enc y1)) rfl rfl rfl rfl ?_;clear S;intro w5 hk3 S
    refine Dl (Fs (wp_block (Fr (Vf JK S rfl rfl fun a S=>Vl isAgg9 0 S rfl rfl rfl rfl ?_))));clear S;intro a S
    obtain ⟨r1,hr2,h⟩:=Fd h
    refine Ei S (fun _=>Ea (vs:=[sV y1.Key]) ⟨(S.tm rfl),trivial⟩ call87) (Ja _ y1.Key _ hr2) rfl ?_;clear S;intro v1 a w6 hv1 hk4 hn1 S
    subst hv1
    refine Vu S Hv rfl rfl fun a S=>Va S rfl rfl fun a S=>Dl (Fc h (S.tm rfl) (fun hb2 h=>?_) (fun hb2 h=>?_))
    ·refine Fr (Vk S rfl rfl fun a S=>Dl (wp_ret (Ga (Ec (Ga (Ec (Ec ?_)))))))
     refine Ga (Ec (Ec ?_))
     obtain rfl:=Option.some.inj h
     exact Eu S results117 rfl rfl
    ·refine Fr (Vm S rfl rfl fun a S=>Vf JK S rfl rfl fun a S=>Vl isAgg9 0 S rfl rfl rfl rfl fun a S=>lv S (Qk (kv:=Value.string) (vv:=Value.bool) (m:=x1) (key:=y1.Key) (z:=false) (S.map_at (i:=1) rfl) underlying227 (Mq underlying9) zeroValue4 (S.tm rfl) (S.tm rfl)) rfl fun a S=>Va S rfl rfl fun a S=>Ld ?_)
     replace S:=(S.nl [.blk b3 (Ov.enc y1) 89,.map b1 (Ft Value.string Value.bool x1) x1.length] [true,true] rfl).k6 3 5 10 11 12 21 rfl
     refine Tn (Fc h (S.tm rfl) (fun hb3 h=>?_) (fun hb3 h=>?_))
     ·refine Fr (Vk S rfl rfl fun a S=>Dl (wp_ret (Ga (Ec (Ga (Ec (Ec ?_)))))))
      refine Ga (Ec (Ec ?_))
      obtain rfl:=Option.some.inj h
      exact Eu S results117 rfl rfl
     ·refine Fr (Vf NZ S rfl rfl fun a S=>Vl isAgg3 0 S rfl rfl rfl rfl fun a S=>Ei S (fun _=>Ea (vs:=[iV y1.Heats,iV 1,iV 60]) ⟨(S.tm rfl),rfl,rfl,trivial⟩ call67) (Ge _ y1.Heats 1 60 _ rfl) rfl ?_);clear S;intro v2 a w7 hv2 hk5 hn2 S
      subst hv2
      refine Vu S Hv rfl rfl fun a S=>Vm S rfl rfl fun a S=>Ib 5 (fun a w'=>Keep [] w7 w' ∧ Sx w [] nov [.blk b3 (Ov.enc y1) 89,.map b1 (Ft Value.string Value.bool x1) x1.length] [(3,.map (some b1)),(5,.pointer (some ⟨b3,0,none⟩)),(10,Ab),(11,iV (Ae.length : Int)),(12,iV (i1 : Int)),(36,bV ((!(Ed y1.Heats 1 60)) || (!(Ed y1.Long 1 3600000))))] 53 a w') ?_ ?_
      ·rcases Bool.eq_false_or_eq_true (!(Ed y1.Heats 1 60)) with hb4 | hb4
       ·iterate 4 (refine Hh S rfl rfl rfl (Nm hb4) rfl ?_ rfl;clear S;intro a S)
        exact lv S (Lj (!(Ed y1.Long 1 3600000)) hb4 (S.tm rfl) rfl) rfl fun a S=>Dl (⟨Keep.refl _ _,S.nf [true,true] rfl (subR rfl)⟩)
       ·refine Ef S rfl rfl rfl hb4 (Vf OA S rfl rfl fun a S=>Ef S rfl rfl rfl hb4 (Vl isAgg3 0 S rfl rfl rfl rfl fun a S=>Ef S rfl rfl rfl hb4 (Ei S (fun _=>Ea (vs:=[iV y1.Long,iV 1,iV 3600000]) ⟨(S.tm rfl),rfl,rfl,trivial⟩ call67) (Ge _ y1.Long 1 3600000 _ rfl) rfl ?_)));clear S;intro v3 a w9 hv3 hk6 hn3 S
        subst hv3
        exact Ef S rfl rfl rfl hb4 (Vu S Hv rfl rfl fun a S=>lv S (Lk hb4 (S.tm rfl) (S.tm rfl)) rfl fun a S=>Dl (⟨hk6,S.nf [true,true] rfl (subR rfl)⟩))
      clear S;rintro a w8 ⟨hk7,S⟩
      refine Vm S rfl rfl fun a S=>Ib 5 (fun a w'=>Keep [] w8 w' ∧ Sx w [] nov [.blk b3 (Ov.enc y1) 89,.map b1 (Ft Value.string Value.bool x1) x1.length] [(3,.map (some b1)),(5,.pointer (some ⟨b3,0,none⟩)),(10,Ab),(11,iV (Ae.length : Int)),(12,iV (i1 : Int)),(42,bV (((!(Ed y1.Heats 1 60)) || (!(Ed y1.Long 1 3600000))) || (!(Ed y1.Gap 0 3600000))))] 53 a w') ?_ ?_
      ·rcases Bool.eq_false_or_eq_true ((!(Ed y1.Heats 1 60)) || (!(Ed y1.Long 1 3600000))) with hb5 | hb5
       ·iterate 4 (refine Hh S rfl rfl rfl (Nm hb5) rfl ?_ rfl;clear S;intro a S)
        exact lv S (Lj (!(Ed y1.Gap 0 3600000)) hb5 (S.tm rfl) rfl) rfl fun a S=>Dl (⟨Keep.refl _ _,S.nf [true,true] rfl (subR rfl)⟩)
       ·refine Ef S rfl rfl rfl hb5 (Vf TG S rfl rfl fun a S=>Ef S rfl rfl rfl hb5 (Vl isAgg3 0 S rfl rfl rfl rfl fun a S=>Ef S rfl rfl rfl hb5 (Ei S (fun _=>Ea (vs:=[iV y1.Gap,iV 0,iV 3600000]) ⟨(S.tm rfl),rfl,rfl,trivial⟩ call67) (Ge _ y1.Gap 0 3600000 _ rfl) rfl ?_)));clear S;intro v4 a w11 hv4 hk8 hn4 S
        subst hv4
        exact Ef S rfl rfl rfl hb5 (Vu S Hv rfl rfl fun a S=>lv S (Lk hb5 (S.tm rfl) (S.tm rfl)) rfl fun a S=>Dl (⟨hk8,S.nf [true,true] rfl (subR rfl)⟩))
      clear S;rintro a w10 ⟨hk9,S⟩
      refine Vm S rfl rfl fun a S=>Ib 5 (fun a w'=>Keep [] w10 w' ∧ Sx w [] nov [.blk b3 (Ov.enc y1) 89,.map b1 (Ft Value.string Value.bool x1) x1.length] [(3,.map (some b1)),(5,.pointer (some ⟨b3,0,none⟩)),(10,Ab),(11,iV (Ae.length : Int)),(12,iV (i1 : Int)),(48,bV ((((!(Ed y1.Heats 1 60)) || (!(Ed y1.Long 1 3600000))) || (!(Ed y1.Gap 0 3600000))) || (!(Ed y1.Break 0 3600000))))] 53 a w') ?_ ?_
      ·rcases Bool.eq_false_or_eq_true (((!(Ed y1.Heats 1 60)) || (!(Ed y1.Long 1 3600000))) || (!(Ed y1.Gap 0 3600000))) with hb6 | hb6
       ·iterate 4 (refine Hh S rfl rfl rfl (Nm hb6) rfl ?_ rfl;clear S;intro a S)
        exact lv S (Lj (!(Ed y1.Break 0 3600000)) hb6 (S.tm rfl) rfl) rfl fun a S=>Dl (⟨Keep.refl _ _,S.nf [true,true] rfl (subR rfl)⟩)
       ·refine Ef S rfl rfl rfl hb6 (Vf TH S rfl rfl fun a S=>Ef S rfl rfl rfl hb6 (Vl isAgg3 0 S rfl rfl rfl rfl fun a S=>Ef S rfl rfl rfl hb6 (Ei S (fun _=>Ea (vs:=[iV y1.Break,iV 0,iV 3600000]) ⟨(S.tm rfl),rfl,rfl,trivial⟩ call67) (Ge _ y1.Break 0 3600000 _ rfl) rfl ?_)));clear S;intro v5 a w13 hv5 hk10 hn5 S
        subst hv5
        exact Ef S rfl rfl rfl hb6 (Vu S Hv rfl rfl fun a S=>lv S (Lk hb6 (S.tm rfl) (S.tm rfl)) rfl fun a S=>Dl (⟨hk10,S.nf [true,true] rfl (subR rfl)⟩))
      clear S;rintro a w12 ⟨hk11,S⟩
      refine Va S rfl rfl fun a S=>Dl (Fc h (S.tm rfl) (fun hb7 h=>?_) (fun hb7 h=>?_))
      ·refine Fr (Vk S rfl rfl fun a S=>Dl (wp_ret (Ga (Ec (Ga (Ec (Ec ?_)))))))
       refine Ga (Ec (Ec ?_))
       obtain rfl:=Option.some.inj h
       exact Eu S results117 rfl rfl
      ·refine wp_skip (Hn (Tn (Fg (Vm S rfl rfl fun a S=>Vf JK S rfl rfl fun a S=>Vl isAgg9 0 S rfl rfl rfl rfl fun a S=>Oi (kv:=Value.string) (vv:=Value.bool) (m:=x1) (key:=y1.Key) (val:=true) S (i:=1) rfl underlying227 (Mq underlying9) (S.tm rfl) (S.tm rfl) rfl ?_))));clear S;intro w14 hk12 S
       exact Ld (Hn (Tn (Fg (Vq S Gf rfl rfl rfl fun a S=>Vm S rfl rfl fun a S=>Dl (⟨ys1,⟨i1 + 1,(Gw x1 y1.Key true),⟨_,(hd1).trans (List.append_cons _ _ _),by simp [hi1]⟩,h,S.nf [false,true] rfl ⟨rfl,rfl,rfl,(congrArg (fun z=>some (Value.int .i64 z)) (Hs hd1 hi1 (Jg Ag))),trivial⟩⟩,Nat.lt_succ_self _⟩)))))
  clear S h;rintro a w3 ⟨x1,h,S⟩;rw [hj1] at h;clear hj1 j1
  refine Tn (Fr (Vk S rfl rfl fun a S=>Dl (wp_ret ?_)))
  obtain rfl:=Option.some.inj h
  exact Eu S results117 rfl rfl
theorem DN (w : World) (Ab : Value) (Ae : List Ov) (Ag : Slc (view w []) 5 Ab (Ae.map Ov.enc)) (Bi : Int) (r : (List Lq)) (h : Wz Ae Bi = some r) :
    Calls prog 148 [Ab,iV Bi].toArray w (Ret w [] fun τ v _=>Up τ 199 4 v r.length (r.flatMap Lq.enc)):=by
 refine Fe func148 rfl ntmps148 rfl fun a S=>?_
 unfold Wz at h
 replace S:=S.k2 0 1 rfl
 refine Fr (Vk S rfl rfl fun a S=>Dz (Vk S rfl rfl ?_));clear S;intro a S
 replace S:=S.nil 199 4
 refine Dz (Vm S rfl rfl fun a S=>Va S rfl rfl fun a S=>Dl (Fs (Fs (Fg ?_))))
 refine Vm S rfl rfl fun a S=>lv S (Fq PI (S.tm rfl) (Fm Ag)) rfl fun a S=>lv S (Rm rfl) rfl fun a S=>Dl ?_
 replace S:=(S.nl [.own (.slice none 0 0) 199 4 ([] : List Lq).length (([] : List Lq).flatMap Lq.enc)] [true] rfl).k5 5 6 11 12 13 rfl
 obtain ⟨j1,hj1,h⟩:=Ey h
 refine Es (fun a w'=>∃ x1 : List Lq,∃ v1 : Value,j1 x1 = some r ∧ Sx w [] nov [.own v1 199 4 x1.length (x1.flatMap Lq.enc)] [(5,v1)] 54 a w') ?_ ?_
 ·refine wp_block (Gz (fun (ys1 : List Ov) a w'=>∃ i1 : Nat,∃ x1 : List Lq,∃ x2 : Int,∃ v1 : Value,(∃ dn,Ae = dn ++ ys1 ∧ dn.length = i1) ∧ Mt j1 ys1 i1 x1 x2 = some r ∧ Sx w [] nov [.own v1 199 4 x1.length (x1.flatMap Lq.enc)] [(5,v1),(6,iV x2),(11,Ab),(12,iV (Ae.length : Int)),(13,iV (i1 : Int))] 54 a w') List.length Ae ⟨0,([] : List Lq),Bi,(.slice none 0 0),⟨[],rfl,rfl⟩,h,S.nf [true] rfl (subR rfl)⟩ ?_)
  clear S h;rintro ys1 a w1 ⟨i1,x1,x2,v1,⟨dn,hd1,hi1⟩,h,S⟩
  cases ys1 with
  | nil =>
   rw [Mt.eq_1] at h
   refine Fr (Vb S Ev rfl rfl rfl fun a S=>Ld ?_)
   replace S:=S.k6 5 6 11 12 13 14 rfl
   exact Tn (Fs (wp_cond_false ((S.tm rfl).trans (congrArg Value.bool (Im hd1 hi1))) (wp_exit (Ep (Ep (Gr (Tn (⟨x1,v1,h,S.nf [true] rfl ⟨rfl,trivial⟩⟩))))))))
  | cons y1 ys1 =>
   rw [Mt.eq_2] at h
   refine Fr (Vb S Ev rfl rfl rfl fun a S=>Ld ?_)
   replace S:=S.k6 5 6 11 12 13 14 rfl
   refine Tn (Fs (wp_cond_true ((S.tm rfl).trans (congrArg Value.bool (Hr hd1 hi1))) (wp_skip (Tn (Fs (wp_block (Fs (Fg ?_))))))))
   obtain ⟨b1,o1,hm1,hr1⟩:=Fh (a:=a) (x:=.tmp 11) (y:=.tmp 13) (ty:=0) PI Ag (Iv hd1 hi1) rfl (S.tm rfl) (S.tm rfl)
   refine lv S (hr1 _) rfl ?_;clear S;intro a S
   clear hr1
   refine lv S (Fk isAgg89 sizeOf89 (off:=o1) (o:=0) (part:=(Ov.enc y1)) rfl rfl (S.tm rfl) (hm1.at S.emb0)) rfl fun a S=>Hu S zeroValue89 (cs:=[sV An,iV 0,iV 0,iV 0,iV 0]) rfl rfl ?_;clear S;intro a w3 b2 hz1 hk1 S
   refine Fj S (S.tm rfl) (S.tm rfl) (i:=0) (off:=0) rfl sizeOf89 (vs:=(Ov.enc y1)) rfl rfl rfl rfl ?_;clear S;intro w4 hk2 S
   refine Dl (Fs (Fr (Vk S rfl rfl fun a S=>Dl ?_)))
   replace S:=(S.nl [.blk b2 (Ov.enc y1) 89,.own v1 199 4 x1.length (x1.flatMap Lq.enc)] [true,true] rfl).k7 5 6 8 9 11 12 13 rfl
   obtain ⟨j2,hj2,h⟩:=Ey h
   refine Es (fun a w'=>∃ x3 : List Lq,∃ x4 : Int,∃ v2 : Value,j2 x3 x4 = some r ∧ Sx w [] nov [.blk b2 (Ov.enc y1) 89,.own v2 199 4 x3.length (x3.flatMap Lq.enc)] [(5,v2),(6,iV x4),(8,.pointer (some ⟨b2,0,none⟩)),(11,Ab),(12,iV (Ae.length : Int)),(13,iV (i1 : Int))] 54 a w') ?_ ?_
   ·refine wp_block (Gz (fun (m1 : Nat) a w'=>∃ x3 : List Lq,∃ x4 : Int,∃ x5 : Int,∃ v2 : Value,Ms y1 j2 m1 x3 x4 x5 = some r ∧ Sx w [] nov [.blk b2 (Ov.enc y1) 89,.own v2 199 4 x3.length (x3.flatMap Lq.enc)] [(5,v2),(6,iV x4),(8,.pointer (some ⟨b2,0,none⟩)),(9,iV x5),(11,Ab),(12,iV (Ae.length : Int)),(13,iV (i1 : Int))] 54 a w') id ((y1.Heats - 1).toNat + 2) ⟨x1,x2,1,v1,h,S.nf [true,true] rfl (subR rfl)⟩ ?_)
    clear S h;rintro m1 a w5 ⟨x3,x4,x5,v2,h,S⟩
    cases m1 with
    | zero=>rw [Ms.eq_1] at h;cases h
    | succ m1 =>
     rw [Ms.eq_2] at h
     refine Fs (Fr (Vm S rfl rfl fun a S=>Vf NZ S rfl rfl fun a S=>Vl isAgg3 0 S rfl rfl rfl rfl fun a S=>Vb S Us rfl rfl rfl fun a S=>Dl (Fc h (S.tm rfl) (fun hb1 h=>?_) (fun hb1 h=>?_))))
     ·refine wp_skip (Tn (Fs ?_))
      obtain ⟨j3,hj3,h⟩:=Ey h
      refine Es (fun a w'=>∃ x6 : List Lq,∃ x7 : Int,∃ v3 : Value,j3 x6 x7 = some r ∧ Sx w [] nov [.blk b2 (Ov.enc y1) 89,.own v3 199 4 x6.length (x6.flatMap Lq.enc)] [(5,v3),(6,iV x7),(8,.pointer (some ⟨b2,0,none⟩)),(9,iV x5),(11,Ab),(12,iV (Ae.length : Int)),(13,iV (i1 : Int))] 54 a w') ?_ ?_
      ·refine wp_block (Fr (Vm S rfl rfl fun a S=>Vf JK S rfl rfl fun a S=>Vl isAgg9 0 S rfl rfl rfl rfl ?_));clear S;intro a S
       iterate 3 (refine Vm S rfl rfl ?_;clear S;intro a S)
       refine Vf OA S rfl rfl fun a S=>Vl isAgg3 0 S rfl rfl rfl rfl fun a S=>Vb S Gf rfl rfl rfl fun a S=>lv S (Nl bt_197 (pv:=[(0,iV x4),(1,iV (W (x4 + y1.Long)))]) ⟨rfl,(S.tm rfl),rfl,(S.tm rfl),trivial⟩ (cs:=[iV x4,iV (W (x4 + y1.Long))]) (by kernel_rfl)) rfl fun a S=>lv S (Nl bt_199 (pv:=[(0,sV y1.Key),(1,iV x5),(2,.agg #[iV x4,iV (W (x4 + y1.Long))])]) ⟨rfl,(S.tm rfl),rfl,(S.tm rfl),rfl,(S.tm rfl),trivial⟩ (cs:=[sV y1.Key,iV x5,iV x4,iV (W (x4 + y1.Long))]) (by kernel_rfl)) rfl fun a S=>Ff S underlying145 sizeOf199 zeroValue199 rfl rfl (pv:=[(0,.agg #[sV y1.Key,iV x5,iV x4,iV (W (x4 + y1.Long))])]) ⟨rfl,(S.tm rfl),trivial⟩ (cs:=[sV y1.Key,iV x5,iV x4,iV (W (x4 + y1.Long))]) (by kernel_rfl) rfl ?_;clear S;intro a w8 b3 hz2 hk3 S
       obtain ⟨hc1,h⟩:=Ij h
       refine Np NQ Lq.enc_ok S (S.tm rfl) (i:=2) rfl (S.tm rfl) (j:=0) rfl (ys:=[(Lq.mk y1.Key x5 (Ve.mk x4 (W (x4 + y1.Long))))]) rfl rfl rfl rfl (by have:=Ob hc1;omega) rfl ?_;clear S;intro v4 a w9 hk4 S
       refine Va S rfl rfl fun a S=>Ld ?_
       replace S:=(S.nl [.blk b2 (Ov.enc y1) 89,.own v4 199 4 (x3 ++ [(Lq.mk y1.Key x5 (Ve.mk x4 (W (x4 + y1.Long))))]).length ((x3 ++ [(Lq.mk y1.Key x5 (Ve.mk x4 (W (x4 + y1.Long))))]).flatMap Lq.enc)] [false,true,true] rfl).k7 5 6 8 9 11 12 13 rfl
       refine Tn (Fr (Vm S rfl rfl fun a S=>Vf OA S rfl rfl fun a S=>Vl isAgg3 0 S rfl rfl rfl rfl fun a S=>Vb S Gf rfl rfl rfl fun a S=>Va S rfl rfl fun a S=>Dl (Fs ?_)))
       refine Fg (Vm S rfl rfl fun a S=>Vf NZ S rfl rfl fun a S=>Vl isAgg3 0 S rfl rfl rfl rfl fun a S=>Vb S Ev rfl rfl rfl fun a S=>Ld ?_)
       replace S:=S.k8 5 6 8 9 11 12 13 43 rfl
       refine Tn ?_
       obtain ⟨j4,hj4,h⟩:=Ey h
       refine Es (fun a w'=>∃ x8 : Int,j4 x8 = some r ∧ Sx w [] nov [.blk b2 (Ov.enc y1) 89,.own v4 199 4 (x3 ++ [(Lq.mk y1.Key x5 (Ve.mk x4 (W (x4 + y1.Long))))]).length ((x3 ++ [(Lq.mk y1.Key x5 (Ve.mk x4 (W (x4 + y1.Long))))]).flatMap Lq.enc)] [(5,v4),(6,iV x8),(8,.pointer (some ⟨b2,0,none⟩)),(9,iV x5),(11,Ab),(12,iV (Ae.length : Int)),(13,iV (i1 : Int))] 54 a w') ?_ ?_
       ·refine Fc h (S.tm rfl) (fun hb2 h=>?_) (fun hb2 h=>?_)
        ·exact Fg (Vm S rfl rfl fun a S=>Vf TG S rfl rfl fun a S=>Vl isAgg3 0 S rfl rfl rfl rfl fun a S=>Vb S Gf rfl rfl rfl fun a S=>Va S rfl rfl fun a S=>Dl (⟨W ((W (x4 + y1.Long)) + y1.Gap),h,S.nf [true,true] rfl (subR rfl)⟩))
        ·exact wp_skip (Tn (⟨W (x4 + y1.Long),h,S.nf [true,true] rfl (subR rfl)⟩))
       clear S h;rintro a w10 ⟨x8,h,S⟩;rw [hj4] at h;clear hj4 j4
       exact Hn (Tn (⟨(x3 ++ [(Lq.mk y1.Key x5 (Ve.mk x4 (W (x4 + y1.Long))))]),x8,v4,h,S.nf [true,true] rfl (subR rfl)⟩))
      clear S h;rintro a w7 ⟨x6,x7,v3,h,S⟩;rw [hj3] at h;clear hj3 j3
      exact Tn (Fg (Vm S rfl rfl fun a S=>Vq S Gf rfl rfl rfl fun a S=>Va S rfl rfl fun a S=>Dl (⟨m1,⟨x6,x7,W (x5 + 1),v3,h,S.nf [true,true] rfl ⟨rfl,rfl,rfl,rfl,rfl,rfl,rfl,trivial⟩⟩,Nat.lt_succ_self _⟩)))
     ·exact wp_exit (Ep (Ep (Gr (Tn (⟨x3,x4,v2,h,S.nf [true,true] rfl (subR rfl)⟩)))))
   clear S h;rintro a w6 ⟨x3,x4,v2,h,S⟩;rw [hj2] at h;clear hj2 j2
   refine Tn (Fg (Vm S rfl rfl fun a S=>Vf TH S rfl rfl fun a S=>Vl isAgg3 0 S rfl rfl rfl rfl fun a S=>Vb S Gf rfl rfl rfl fun a S=>Va S rfl rfl fun a S=>Ld (Hn (Tn (Fg ?_)))))
   exact Vq S Gf rfl rfl rfl fun a S=>Vm S rfl rfl fun a S=>Dl (⟨ys1,⟨i1 + 1,x3,W (x4 + y1.Break),v2,⟨_,(hd1).trans (List.append_cons _ _ _),by simp [hi1]⟩,h,S.nf [false,true] rfl ⟨rfl,rfl,rfl,rfl,(congrArg (fun z=>some (Value.int .i64 z)) (Hs hd1 hi1 (Jg Ag))),trivial⟩⟩,Nat.lt_succ_self _⟩)
 clear S h;rintro a w2 ⟨x1,v1,h,S⟩;rw [hj1] at h;clear hj1 j1
 refine Tn (Fr (Vm S rfl rfl fun a S=>Va S rfl rfl fun a S=>Dl (wp_ret ?_)))
 obtain rfl:=Option.some.inj h
 exact Eu S results148 rfl (Tt S (i:=0) rfl rfl)
theorem DO (w : World) (Ab : Value) (Ae : List Lq) (Ag : Slc (view w []) 4 Ab (Ae.map Lq.enc)) (Bi : Int) (r : Int) (h : Zw Ae Bi = some r) :
    Calls prog 72 [Ab,iV Bi].toArray w (Ret w [] fun _ v _=>v = iV r):=by
 refine Fe func72 rfl ntmps72 rfl fun a S=>?_
 unfold Zw at h
 replace S:=S.k2 0 1 rfl
 refine Fr (Vk S rfl rfl fun a S=>Dl (Fs (Fr (Vm S rfl rfl fun a S=>lv S (Fq NQ (S.tm rfl) (Fm Ag)) rfl fun a S=>Vq S Jh rfl rfl rfl ?_))));clear S;intro a S
 refine Dl (Fc h (S.tm rfl) (fun hb1 h=>?_) (fun hb1 h=>?_))
 ·refine Fr (Vm S rfl rfl fun a S=>Va S rfl rfl fun a S=>Dl (wp_ret (Ec ?_)))
  obtain rfl:=Option.some.inj h
  exact Eu S results72 rfl rfl
 ·refine wp_skip (Tn (Fr (Vm S rfl rfl fun a S=>Vm S rfl rfl fun a S=>lv S (Fq NQ (S.tm rfl) (Fm Ag)) rfl fun a S=>Vq S Iy rfl rfl rfl ?_)));clear S;intro a S
  obtain ⟨hc1,h⟩:=Ij h
  obtain ⟨b1,o1,hm1,hr1⟩:=Fh (a:=a) (x:=.tmp 9) (y:=.tmp 12) (ty:=0) NQ Ag (Eh hc1).1 (Eh hc1).2 (S.tm rfl) (S.tm rfl)
  refine lv S (hr1 _) rfl ?_;clear S;intro a S
  clear hr1
  refine Vf XB S rfl rfl fun a S=>Vf XA S rfl rfl fun a S=>lv S (Ic isAgg3 (off:=o1) (o:=3) (S.tm rfl) (hm1.at S.emb0) rfl) rfl fun a S=>Va S rfl rfl fun a S=>Dl (wp_ret ?_)
  obtain rfl:=Option.some.inj h
  exact Eu S results72 rfl rfl
theorem IB (w : World) (Ab : Value) (Ae : List Ov) (Ag : Slc (view w []) 5 Ab (Ae.map Ov.enc)) (Bi : Int) (r : (List Lq) × Int) (h : AE Ae Bi = some r) :
    Calls prog 118 [Ab,iV Bi].toArray w (Ret w [] fun τ v _=>∃ u1 : Value,v = .tuple #[u1,iV r.2] ∧ Up τ 199 4 u1 r.1.length (r.1.flatMap Lq.enc)):=by
 refine Fe func118 rfl ntmps118 rfl fun a S=>?_
 unfold AE at h
 replace S:=S.k2 0 1 rfl
 refine Fr (Vk S rfl rfl fun a S=>Vk S rfl rfl fun a S=>Dl (Fs (Fr (Vm S rfl rfl fun a S=>Ei S (fun _=>Ea (vs:=[iV Bi]) ⟨(S.tm rfl),trivial⟩ call60) (Uo _ Bi _ rfl) rfl ?_))));clear S;intro v1 a w1 hv1 hk1 hn1 S
 subst hv1
 refine Vu S Hv rfl rfl fun a S=>Dl (Fc h (S.tm rfl) (fun hb1 h=>?_) (fun hb1 h=>?_))
 ·refine Fr (Vk S rfl rfl fun a S=>Vk S rfl rfl fun a S=>Dl (wp_ret (Ec ?_)))
  obtain rfl:=Option.some.inj h
  exact Ln S results118 rfl rfl ⟨_,rfl,(Oz _ _ _)⟩
 ·refine wp_skip (Tn (Fr (Vm S rfl rfl fun a S=>Vm S rfl rfl ?_)));clear S;intro a S
  obtain ⟨r1,hr1,h⟩:=Fd h
  have hz1:=S.keep.size
  refine Ei S (fun _=>Ea (vs:=[Ab,iV Bi]) ⟨(S.tm rfl),(S.tm rfl),trivial⟩ call148) (DN _ Ab Ae (Ag.mono (S.le_arg Er)) Bi _ hr1) rfl ?_;clear S;intro v2 a w2 hv2 hk2 hn2 S
  obtain ⟨φ1,hl1,hm1,S⟩:=S.see' hn2 hz1
  have hs1:=hv2.mono hm1
  refine Va S rfl rfl fun a S=>Dl (Fs (Fr (Vm S rfl rfl fun a S=>Vm S rfl rfl ?_)));clear S;intro a S
  obtain ⟨r2,hr2,h⟩:=Fd h
  refine Ei S (fun _=>Ea (vs:=[v2,iV Bi]) ⟨(S.tm rfl),(S.tm rfl),trivial⟩ call72) (DO _ v2 r1 ((Hg Lq.enc_ok hs1).mono (S.le_new Er)) Bi _ hr2) rfl ?_;clear S;intro v3 a w3 hv3 hk3 hn3 S
  subst hv3
  refine Vq S Jj rfl rfl rfl fun a S=>Ld ?_
  replace S:=S.k2 6 16 rfl
  refine Tn (Fc h (S.tm rfl) (fun hb2 h=>?_) (fun hb2 h=>?_))
  ·refine Fr (Vk S rfl rfl fun a S=>Vk S rfl rfl fun a S=>Dl (wp_ret (Ec ?_)))
   obtain rfl:=Option.some.inj h
   exact Ln S results118 rfl rfl ⟨_,rfl,(Oz _ _ _)⟩
  ·refine wp_skip (Tn (Fr (Vm S rfl rfl fun a S=>Va S rfl rfl fun a S=>Vk S rfl rfl fun a S=>Dl (wp_ret ?_))))
   obtain rfl:=Option.some.inj h
   exact Ln S results118 rfl rfl ⟨_,rfl,((hs1).mono S.le_newer)⟩
theorem DP (w : World) (Ab : Value) (Ae : List Ov) (Ag : Slc (view w []) 5 Ab (Ae.map Ov.enc)) (Bi : Int) (r : (List Lq) × Int) (h : Xa Ae Bi = some r) :
    Calls prog 71 [Ab,iV Bi].toArray w (Ret w [] fun τ v _=>∃ u1 : Value,v = .tuple #[u1,iV r.2] ∧ Up τ 199 4 u1 r.1.length (r.1.flatMap Lq.enc)):=by
 refine Fe func71 rfl ntmps71 rfl fun a S=>?_
 unfold Xa at h
 replace S:=S.k2 0 1 rfl
 refine Fr (Vk S rfl rfl fun a S=>Vk S rfl rfl fun a S=>Dl (Fs (Fr (Vm S rfl rfl ?_))));clear S;intro a S
 obtain ⟨r1,hr1,h⟩:=Fd h
 refine Ei S (fun _=>Ea (vs:=[Ab]) ⟨(S.tm rfl),trivial⟩ call117) (CI _ Ab Ae (Ag.mono (S.le_arg Er)) _ hr1) rfl ?_;clear S;intro v1 a w1 hv1 hk1 hn1 S
 subst hv1
 refine Va S rfl rfl fun a S=>Dz (Vm S rfl rfl fun a S=>Vq S Lf rfl rfl rfl fun a S=>Dl (Fc h (S.tm rfl) (fun hb1 h=>?_) (fun hb1 h=>?_)))
 ·refine Fr (Vm S rfl rfl fun a S=>Vk S rfl rfl fun a S=>Va S rfl rfl fun a S=>Dl (wp_ret (Ec ?_)))
  obtain rfl:=Option.some.inj h
  exact Ln S results71 rfl rfl ⟨_,rfl,(Oz _ _ _)⟩
 ·refine wp_skip (Tn (Fr (Vm S rfl rfl fun a S=>Vm S rfl rfl ?_)));clear S;intro a S
  obtain ⟨r2,hr2,h⟩:=Fd h
  have hz1:=S.keep.size
  refine Ei S (fun _=>Ea (vs:=[Ab,iV Bi]) ⟨(S.tm rfl),(S.tm rfl),trivial⟩ call118) (IB _ Ab Ae (Ag.mono (S.le_arg Er)) Bi _ hr2) rfl ?_;clear S;intro v2 a w2 hv2 hk2 hn2 S
  obtain ⟨u1,rfl,ho1⟩:=hv2
  obtain ⟨φ1,hl1,hm1,S⟩:=S.see' hn2 hz1
  have hs1:=ho1.mono hm1
  refine Vq S Fy rfl rfl rfl fun a S=>Vq S Fy rfl rfl rfl fun a S=>Va S rfl rfl fun a S=>Va S rfl rfl fun a S=>Dl (wp_ret ?_)
  obtain rfl:=Option.some.inj h
  exact Ln S results71 rfl rfl ⟨_,rfl,((hs1).mono S.le_newer)⟩
theorem JB (w : World) (Ab : Value) (Ae : List Ov) (Ag : Slc (view w []) 5 Ab (Ae.map Ov.enc)) (Bi : Int) (r : Int × Int) (h : BM Ae Bi = some r) :
    Calls prog 32 [Ab,iV Bi].toArray w (Ret w [] fun _ v _=>v = .tuple #[iV r.1,iV r.2]):=by
 refine Fe func32 rfl ntmps32 rfl fun a S=>?_
 unfold BM at h
 replace S:=S.k2 0 1 rfl
 refine Fr (Vk S rfl rfl fun a S=>Vk S rfl rfl fun a S=>Dz (Vm S rfl rfl fun a S=>Vm S rfl rfl ?_));clear S;intro a S
 obtain ⟨r1,hr1,h⟩:=Fd h
 have hz1:=S.keep.size
 refine Ei S (fun _=>Ea (vs:=[Ab,iV Bi]) ⟨(S.tm rfl),(S.tm rfl),trivial⟩ call71) (DP _ Ab Ae (Ag.mono (S.le_arg Er)) Bi _ hr1) rfl ?_;clear S;intro v1 a w1 hv1 hk1 hn1 S
 obtain ⟨u1,rfl,ho1⟩:=hv1
 obtain ⟨φ1,hl1,hm1,S⟩:=S.see' hn1 hz1
 have hs1:=ho1.mono hm1
 refine Vm S rfl rfl fun a S=>Vq S Fy rfl rfl rfl fun a S=>Vq S Fy rfl rfl rfl fun a S=>Va S rfl rfl fun a S=>Va S rfl rfl fun a S=>Dl (Fs (Fr (Vm S rfl rfl ?_)));clear S;intro a S
 refine Vq S Lf rfl rfl rfl fun a S=>Dl (Fc h (S.tm rfl) (fun hb1 h=>?_) (fun hb1 h=>?_))
 ·refine Fr (Vm S rfl rfl fun a S=>Vk S rfl rfl fun a S=>Va S rfl rfl fun a S=>Ld ?_)
  replace S:=S.k2 4 5 rfl
  refine Tn (wp_ret (Ec ?_))
  obtain rfl:=Option.some.inj h
  exact Ln S results32 rfl rfl rfl
 ·refine wp_skip (Tn (Fr (Vm S rfl rfl fun a S=>Vm S rfl rfl ?_)));clear S;intro a S
  obtain ⟨r2,hr2,h⟩:=Fd h
  refine Ei S (fun _=>Ea (vs:=[u1,iV Bi]) ⟨(S.tm rfl),(S.tm rfl),trivial⟩ call72) (DO _ u1 r1.1 ((Hg Lq.enc_ok hs1).mono (S.le_new Er)) Bi _ hr2) rfl ?_;clear S;intro v2 a w2 hv2 hk2 hn2 S
  subst hv2
  refine Va S rfl rfl fun a S=>Vk S rfl rfl fun a S=>Ld ?_
  replace S:=S.k2 4 5 rfl
  refine Tn (wp_ret ?_)
  obtain rfl:=Option.some.inj h
  exact Ln S results32 rfl rfl rfl
theorem Xs (w : World) (Ba : Int) (r : Bool) (h : Sm Ba = r) :
    Calls prog 75 [iV Ba].toArray w (Ret w [] fun _ v _=>v = bV r):=by
 refine Fe func75 rfl ntmps75 rfl fun a S=>?_
 unfold Sm at h
 replace S:=S.k1 0 rfl
 refine Fr (Vk S rfl rfl fun a S=>Dz (Vm S rfl rfl fun a S=>Ei S (fun _=>Ea (vs:=[iV Ba,iV 1,iV 360000]) ⟨(S.tm rfl),rfl,rfl,trivial⟩ call67) (Ge _ Ba 1 360000 _ rfl) rfl ?_));clear S;intro v1 a w1 hv1 hk1 hn1 S
 subst hv1
 refine Va S rfl rfl fun a S=>Dl (wp_ret ?_)
 subst h
 exact Eu S results75 rfl rfl
set_option maxRecDepth 20000 in
theorem EU (w : World) (Ab : Value) (Ae : List Sp) (Ag : Slc (view w []) 2 Ab (Ae.map Sp.enc)) (r : Int) (h : Xo Ae = some r) :
    Calls prog 73 [Ab].toArray w (Ret w [] fun _ v _=>v = iV r):=by
 refine Fe func73 rfl ntmps73 rfl fun a S=>?_
 unfold Xo at h
 replace S:=S.k1 0 rfl
 refine Fr (Vk S rfl rfl fun a S=>Dl (Fs (Fr (Vm S rfl rfl fun a S=>lv S (Fq MM (S.tm rfl) (Fm Ag)) rfl fun a S=>Vq S Jj rfl rfl rfl ?_))));clear S;intro a S
 refine Dl (Fc h (S.tm rfl) (fun hb1 h=>?_) (fun hb1 h=>?_))
 ·refine Fr (Vk S rfl rfl fun a S=>Dl (wp_ret (Ec ?_)))
  obtain rfl:=Option.some.inj h
  exact Eu S results73 rfl rfl
 ·refine wp_skip (Tn (Fs (Fr (Vm S rfl rfl fun a S=>lv S (Fq MM (S.tm rfl) (Fm Ag)) rfl fun a S=>lv S (Rm rfl) rfl fun a S=>Dl ?_))))
  replace S:=S.k4 0 8 9 10 rfl
  obtain ⟨j1,hj1,h⟩:=Ey h
  refine Es (fun a w'=>j1 = some r ∧ Sx w [] nov [] [] 40 a w') ?_ ?_
  ·refine wp_block (Gz (fun (ys1 : List Sp) a w'=>∃ i1 : Nat,(∃ dn,Ae = dn ++ ys1 ∧ dn.length = i1) ∧ Nk Ae j1 ys1 i1 = some r ∧ Sx w [] nov [] [(0,Ab),(8,Ab),(9,iV (Ae.length : Int)),(10,iV (i1 : Int))] 40 a w') List.length Ae ⟨0,⟨[],rfl,rfl⟩,h,S.nf [] rfl (subR rfl)⟩ ?_)
   clear S h;rintro ys1 a w1 ⟨i1,⟨dn,hd1,hi1⟩,h,S⟩
   cases ys1 with
   | nil =>
    rw [Nk.eq_1] at h
    refine Fr (Vb S Ev rfl rfl rfl fun a S=>Ld ?_)
    replace S:=S.k5 0 8 9 10 11 rfl
    exact Tn (Fs (wp_cond_false ((S.tm rfl).trans (congrArg Value.bool (Im hd1 hi1))) (wp_exit (Ep (Ep (Gr (Tn (⟨h,S.nf [] rfl trivial⟩))))))))
   | cons y1 ys1 =>
    rw [Nk.eq_2] at h
    refine Fr (Vb S Ev rfl rfl rfl fun a S=>Ld ?_)
    replace S:=S.k5 0 8 9 10 11 rfl
    refine Tn (Fs (wp_cond_true ((S.tm rfl).trans (congrArg Value.bool (Hr hd1 hi1))) (wp_skip (Tn (Fs (wp_block (Fr (Vm S rfl rfl ?_))))))));clear S;intro a S
    obtain ⟨b1,o1,hm1,hr1⟩:=Fh (a:=a) (x:=.tmp 8) (y:=.tmp 10) (ty:=0) MM Ag (Iv hd1 hi1) rfl (S.tm rfl) (S.tm rfl)
    refine lv S (hr1 _) rfl ?_;clear S;intro a S
    clear hr1
    refine lv S (Fk isAgg93 sizeOf93 (off:=o1) (o:=0) (part:=(Sp.enc y1)) rfl rfl (S.tm rfl) (hm1.at S.emb0)) rfl fun a S=>Hu S zeroValue93 (cs:=[sV An,iV 0]) rfl rfl ?_;clear S;intro a w3 b2 hz1 hk1 S
    refine Va S rfl rfl fun a S=>Fj S (S.tm rfl) (S.tm rfl) (i:=0) (off:=0) rfl sizeOf93 (vs:=(Sp.enc y1)) rfl rfl rfl rfl ?_;clear S;intro w4 hk2 S
    refine Dl (wp_block (Fr (Vf JL S rfl rfl fun a S=>Vl isAgg9 0 S rfl rfl rfl rfl ?_)));clear S;intro a S
    obtain ⟨r1,hr2,h⟩:=Fd h
    refine Ei S (fun _=>Ea (vs:=[sV y1.Race]) ⟨(S.tm rfl),trivial⟩ call87) (Ja _ y1.Race _ hr2) rfl ?_;clear S;intro v1 a w5 hv1 hk3 hn1 S
    subst hv1
    refine Vu S Hv rfl rfl fun a S=>Va S rfl rfl fun a S=>Ld ?_
    replace S:=(S.nl [.blk b2 (Sp.enc y1) 93] [true] rfl).k7 0 3 4 8 9 10 15 rfl
    refine Tn (Fc h (S.tm rfl) (fun hb2 h=>?_) (fun hb2 h=>?_))
    ·refine Fr (Vk S rfl rfl fun a S=>Dl (wp_ret (Ga (Ga (Ec (Ec (Ga ?_)))))))
     refine Ec (Ec ?_)
     obtain rfl:=Option.some.inj h
     exact Eu S results73 rfl rfl
    ·refine Fs (Hd [] ([]) Tryz.mixed S rfl (by kernel_rfl) ?_);clear S;intro w6 hk4 hsel S
     refine Lg [0,1,2,3,4,5,6,7,8,9,10,11,12,13] hsel (by kernel_rfl) rfl ?_
     clear hsel
     refine Gp S rfl (Rm (S.tm rfl)) rfl fun a S=>Gp S rfl (Jj (S.tm rfl) rfl) rfl fun a S=>Gp S rfl (Rm (S.tm rfl)) rfl ?_;clear S;intro a S
     obtain ⟨j2,hj2,h⟩:=Ey h
     refine AB 10 (fun a w'=>∃ c1,j2 c1 = some r ∧ Keep [] w6 w' ∧ Sx w [] nov [.blk b2 (Sp.enc y1) 93] [(0,Ab),(4,.pointer (some ⟨b2,0,none⟩)),(8,Ab),(9,iV (Ae.length : Int)),(10,iV (i1 : Int)),(33,bV c1)] 40 a w') ?_ ?_
     ·rcases Bool.eq_false_or_eq_true (decide (0 < (i1 : Int))) with hb3 | hb3
      ·replace h:=Rg h hb3
       refine Gc S rfl rfl rfl rfl hb3 (Hm S (Gv JL (S.tm rfl)) rfl fun a S=>Gc S rfl rfl rfl rfl hb3 (Hm S (Nn isAgg9 (S.tm rfl) (S.cell (i:=0) rfl rfl)) rfl fun a S=>Gc S rfl rfl rfl rfl hb3 (Hm S (Rm (S.tm rfl)) rfl fun a S=>Gc S rfl rfl rfl rfl hb3 (Hm S (Rm (S.tm rfl)) rfl fun a S=>Gc S rfl rfl rfl rfl hb3 (Hm S (Iy (S.tm rfl) rfl) rfl fun a S=>Gc S rfl rfl rfl rfl hb3 ?_)))))
       obtain ⟨hc1,h⟩:=Ij h
       obtain ⟨b3,o2,hm2,hr3⟩:=Fh (a:=a) (x:=.tmp 26) (y:=.tmp 28) (ty:=0) MM Ag (Eh hc1).1 (Eh hc1).2 (S.tm rfl) (S.tm rfl)
       refine Hm S (hr3 _) rfl ?_;clear S;intro a S
       clear hr3
       exact Gc S rfl rfl rfl rfl hb3 (Hm S (Gv JL (S.tm rfl)) rfl fun a S=>Gc S rfl rfl rfl rfl hb3 (Hm S (Ic isAgg9 (off:=o2) (o:=0) (S.tm rfl) (hm2.at S.emb0) rfl) rfl fun a S=>Gc S rfl rfl rfl rfl hb3 (Hm S (JD (S.tm rfl) (S.tm rfl)) rfl fun a S=>Gp S rfl (Hz hb3 (S.tm rfl) (S.tm rfl)) rfl fun a S=>It (⟨_,h,Keep.refl _ _,S.nf [true] rfl (subR rfl)⟩))))
      ·replace h:=Rh h hb3
       iterate 9 (refine Qs S rfl rfl rfl rfl (Jw hb3) rfl ?_ rfl;clear S;intro a S)
       exact Gp S rfl (Ia true hb3 (S.tm rfl) rfl) rfl fun a S=>It (⟨_,h,Keep.refl _ _,S.nf [true] rfl (subR rfl)⟩)
     clear S h;rintro a w7 ⟨c1,h,hk5,S⟩;rw [hj2] at h;clear hj2 j2
     refine Gp S rfl (Ra (S.tm rfl)) rfl fun a S=>It ?_
     replace S:=S.k6 0 4 8 9 10 20 rfl
     refine Tn (Fc h (S.tm rfl) (fun hb4 h=>?_) (fun hb4 h=>?_))
     ·refine Fr (Vk S rfl rfl fun a S=>Dl (wp_ret (Ga (Ga (Ec (Ec (Ga ?_)))))))
      refine Ec (Ec ?_)
      obtain rfl:=Option.some.inj h
      exact Eu S results73 rfl rfl
     ·refine Fr (Vf TI S rfl rfl fun a S=>Vl isAgg3 0 S rfl rfl rfl rfl fun a S=>Ei S (fun _=>Ea (vs:=[iV y1.Time]) ⟨(S.tm rfl),trivial⟩ call75) (Xs _ y1.Time _ rfl) rfl ?_);clear S;intro v2 a w8 hv2 hk6 hn2 S
      subst hv2
      refine Vu S Hv rfl rfl fun a S=>Va S rfl rfl fun a S=>Dl (Fc h (S.tm rfl) (fun hb5 h=>?_) (fun hb5 h=>?_))
      ·refine Fr (Vk S rfl rfl fun a S=>Dl (wp_ret (Ga (Ga (Ec (Ec (Ga ?_)))))))
       refine Ec (Ec ?_)
       obtain rfl:=Option.some.inj h
       exact Eu S results73 rfl rfl
      ·exact wp_skip (Hn (Hn (Tn (Fg (Vq S Gf rfl rfl rfl fun a S=>Vm S rfl rfl fun a S=>Dl (⟨ys1,⟨i1 + 1,⟨_,(hd1).trans (List.append_cons _ _ _),by simp [hi1]⟩,h,S.nf [false] rfl ⟨rfl,rfl,rfl,(congrArg (fun z=>some (Value.int .i64 z)) (Hs hd1 hi1 (Jg Ag))),trivial⟩⟩,Nat.lt_succ_self _⟩))))))
  clear S h;rintro a w2 ⟨h,S⟩;rw [hj1] at h;clear hj1 j1
  refine Tn (Fr (Vk S rfl rfl fun a S=>Dl (wp_ret ?_)))
  obtain rfl:=Option.some.inj h
  exact Eu S results73 rfl rfl
theorem IC (w : World) (Ab : Value) (Ae : List Sp) (Ag : Slc (view w []) 2 Ab (Ae.map Sp.enc)) (Au : ByteArray) (r : Int) (h : Ug Ae Au = r) :
    Calls prog 74 [Ab,sV Au].toArray w (Ret w [] fun _ v _=>v = iV r):=by
 refine Fe func74 rfl ntmps74 rfl fun a S=>?_
 unfold Ug at h
 replace S:=S.k2 0 1 rfl
 refine Fr (Vk S rfl rfl fun a S=>Dl (Fs (Fr (Vm S rfl rfl fun a S=>lv S (Fq MM (S.tm rfl) (Fm Ag)) rfl fun a S=>lv S (Rm rfl) rfl ?_))));clear S;intro a S
 refine Dl ?_
 replace S:=S.k4 1 7 8 9 rfl
 obtain ⟨j1,hj1,h⟩:=Ey h
 refine Es (fun a w'=>j1 = r ∧ Sx w [] nov [] [] 20 a w') ?_ ?_
 ·refine wp_block (Gz (fun (ys1 : List Sp) a w'=>∃ i1 : Nat,(∃ dn,Ae = dn ++ ys1 ∧ dn.length = i1) ∧ Ph Au j1 ys1 i1 = r ∧ Sx w [] nov [] [(1,sV Au),(7,Ab),(8,iV (Ae.length : Int)),(9,iV (i1 : Int))] 20 a w') List.length Ae ⟨0,⟨[],rfl,rfl⟩,h,S.nf [] rfl (subR rfl)⟩ ?_)
  clear S h;rintro ys1 a w1 ⟨i1,⟨dn,hd1,hi1⟩,h,S⟩
  cases ys1 with
  | nil =>
   rw [Ph.eq_1] at h
   refine Fr (Vb S Ev rfl rfl rfl fun a S=>Ld ?_)
   replace S:=S.k5 1 7 8 9 10 rfl
   exact Tn (Fs (wp_cond_false ((S.tm rfl).trans (congrArg Value.bool (Im hd1 hi1))) (wp_exit (Ep (Ep (Gr (Tn (⟨h,S.nf [] rfl trivial⟩))))))))
  | cons y1 ys1 =>
   rw [Ph.eq_2] at h
   refine Fr (Vb S Ev rfl rfl rfl fun a S=>Ld ?_)
   replace S:=S.k5 1 7 8 9 10 rfl
   refine Tn (Fs (wp_cond_true ((S.tm rfl).trans (congrArg Value.bool (Hr hd1 hi1))) (wp_skip (Tn (Fs (wp_block (Fs (Fg ?_))))))))
   obtain ⟨b1,o1,hm1,hr1⟩:=Fh (a:=a) (x:=.tmp 7) (y:=.tmp 9) (ty:=0) MM Ag (Iv hd1 hi1) rfl (S.tm rfl) (S.tm rfl)
   refine lv S (hr1 _) rfl ?_;clear S;intro a S
   clear hr1
   refine lv S (Fk isAgg93 sizeOf93 (off:=o1) (o:=0) (part:=(Sp.enc y1)) rfl rfl (S.tm rfl) (hm1.at S.emb0)) rfl fun a S=>Hu S zeroValue93 (cs:=[sV An,iV 0]) rfl rfl ?_;clear S;intro a w3 b2 hz1 hk1 S
   refine Fj S (S.tm rfl) (S.tm rfl) (i:=0) (off:=0) rfl sizeOf93 (vs:=(Sp.enc y1)) rfl rfl rfl rfl ?_;clear S;intro w4 hk2 S
   refine Dz (Vf JL S rfl rfl fun a S=>Vl isAgg9 0 S rfl rfl rfl rfl fun a S=>Vm S rfl rfl fun a S=>Vb S Xw rfl rfl rfl fun a S=>Dl (Fc h (S.tm rfl) (fun hb1 h=>?_) (fun hb1 h=>?_)))
   ·refine Fr (Vf TI S rfl rfl fun a S=>Vl isAgg3 0 S rfl rfl rfl rfl fun a S=>Va S rfl rfl fun a S=>Ld ?_)
    replace S:=S.n0.k1 4 rfl
    refine Tn (wp_ret (Ga (Ec (Ec (Ga (Ec (Ec ?_)))))))
    subst h
    exact Eu S results74 rfl rfl
   ·exact wp_skip (Hn (Tn (Fg (Vq S Gf rfl rfl rfl fun a S=>Vm S rfl rfl fun a S=>Dl (⟨ys1,⟨i1 + 1,⟨_,(hd1).trans (List.append_cons _ _ _),by simp [hi1]⟩,h,S.nf [false] rfl ⟨rfl,rfl,rfl,(congrArg (fun z=>some (Value.int .i64 z)) (Hs hd1 hi1 (Jg Ag))),trivial⟩⟩,Nat.lt_succ_self _⟩)))))
 clear S h;rintro a w2 ⟨h,S⟩;rw [hj1] at h;clear hj1 j1
 refine Tn (Fr (Vk S rfl rfl fun a S=>Dl (wp_ret ?_)))
 subst h
 exact Eu S results74 rfl rfl
theorem LQ (w : World) (Ac : Int) (Bj : Int) (r : Int × Int) (h : Tm Ac Bj = r) :
    Calls prog 119 [.int .u64 Ac,.int .u64 Bj].toArray w (Ret w [] fun _ v _=>v = .tuple #[.int .u64 r.1,.int .u64 r.2]):=by
 refine Fe func119 rfl ntmps119 rfl fun a S=>?_
 unfold Tm at h
 replace S:=S.k2 0 1 rfl
 refine Fr (Vk S rfl rfl fun a S=>Vk S rfl rfl fun a S=>Dz (Vm S rfl rfl fun a S=>Vq S GA rfl rfl rfl fun a S=>Va S rfl rfl ?_));clear S;intro a S
 refine Dz (Vm S rfl rfl fun a S=>lv S (Wp (S.tm rfl) rfl (by decide)) rfl fun a S=>Va S rfl rfl fun a S=>Dl (Fs (Fg ?_)))
 refine Vm S rfl rfl fun a S=>Vq S GA rfl rfl rfl fun a S=>Va S rfl rfl fun a S=>Dz (Vm S rfl rfl fun a S=>lv S (Wp (S.tm rfl) rfl (by decide)) rfl fun a S=>Va S rfl rfl fun a S=>Ld ?_)
 replace S:=S.k6 0 1 6 7 8 9 rfl
 refine Tn (Fr (Vm S rfl rfl fun a S=>Vm S rfl rfl fun a S=>Vb S Qh rfl rfl rfl fun a S=>Va S rfl rfl fun a S=>Dl (Fs (Fg ?_))))
 refine Vm S rfl rfl fun a S=>Vm S rfl rfl fun a S=>Vb S Qh rfl rfl rfl fun a S=>Vm S rfl rfl fun a S=>lv S (Wp (S.tm rfl) rfl (by decide)) rfl fun a S=>Vb S Wo rfl rfl rfl fun a S=>Va S rfl rfl fun a S=>Ld ?_
 replace S:=S.k6 0 1 6 7 9 11 rfl
 refine Tn (Fr (Vm S rfl rfl fun a S=>Vq S GA rfl rfl rfl fun a S=>Va S rfl rfl fun a S=>Dz (Vm S rfl rfl ?_)));clear S;intro a S
 refine lv S (Wp (S.tm rfl) rfl (by decide)) rfl fun a S=>Va S rfl rfl fun a S=>Dl (Fs (Fg ?_))
 iterate 3 (refine Vm S rfl rfl ?_;clear S;intro a S)
 refine Vb S Qh rfl rfl rfl fun a S=>Vb S Wo rfl rfl rfl fun a S=>Va S rfl rfl fun a S=>Ld ?_
 replace S:=S.k6 0 1 7 9 12 13 rfl
 refine Tn (Fr (Vm S rfl rfl fun a S=>Vm S rfl rfl fun a S=>Vb S Qh rfl rfl rfl fun a S=>Vm S rfl rfl fun a S=>Vb S Wo rfl rfl rfl fun a S=>Vm S rfl rfl fun a S=>lv S (Wp (S.tm rfl) rfl (by decide)) rfl fun a S=>Vb S Wo rfl rfl rfl ?_));clear S;intro a S
 refine Va S rfl rfl fun a S=>Ld ?_
 replace S:=S.k3 0 1 4 rfl
 refine Tn (Fr (Vm S rfl rfl fun a S=>Vm S rfl rfl fun a S=>Vb S Qh rfl rfl rfl fun a S=>Va S rfl rfl fun a S=>Dl (wp_ret ?_)))
 subst h
 exact Ln S results119 rfl rfl rfl
theorem BU (w : World) (Ac : Int) (r : Int) (h : Vp Ac = some r) :
    Calls prog 149 [.int .u64 Ac].toArray w (Ret w [] fun _ v _=>v = iV r):=by
 refine Fe func149 rfl ntmps149 rfl fun a S=>?_
 unfold Vp at h
 replace S:=S.k1 0 rfl
 refine Fr (Vk S rfl rfl fun a S=>Dz (Vm S rfl rfl ?_));clear S;intro a S
 obtain ⟨r1,hr1,h⟩:=Fd h
 refine Ei S (fun _=>Ea (vs:=[.int .u64 Ac]) ⟨(S.tm rfl),trivial⟩ call97) (FC _ Ac _ hr1) rfl ?_;clear S;intro v1 a w1 hv1 hk1 hn1 S
 subst hv1
 refine Vu S (Iy rfl) rfl rfl fun a S=>Va S rfl rfl fun a S=>Dl (wp_ret ?_)
 obtain rfl:=Option.some.inj h
 exact Eu S results149 rfl rfl
set_option maxRecDepth 20000 in
theorem LR (w : World) (Cp : Int) (Bk : Int) (Bj : Int) (r : Int × Int) (h : FJ Cp Bk Bj = some r) :
    Calls prog 120 [.int .u64 Cp,.int .u64 Bk,.int .u64 Bj].toArray w (Ret w [] fun _ v _=>v = .tuple #[.int .u64 r.1,.int .u64 r.2]):=by
 refine Fe func120 rfl ntmps120 rfl fun a S=>?_
 unfold FJ at h
 replace S:=S.k3 0 1 2 rfl
 refine Fr (Vk S rfl rfl fun a S=>Vk S rfl rfl fun a S=>Dl (Fs (Fr (Vm S rfl rfl fun a S=>Vq S Jh rfl rfl rfl ?_))));clear S;intro a S
 refine Dl (Fc h (S.tm rfl) (fun hb1 h=>?_) (fun hb1 h=>?_))
 ·cases h
 ·refine wp_skip (Tn (Fs (Fr (Vm S rfl rfl fun a S=>Vm S rfl rfl fun a S=>Vb S Us rfl rfl rfl fun a S=>Dl (Fc h (S.tm rfl) (fun hb2 h=>?_) (fun hb2 h=>?_))))))
  ·cases h
  ·refine wp_skip (Tn (Fs (Fr (Vm S rfl rfl fun a S=>Vq S Jh rfl rfl rfl fun a S=>Dl (Fc h (S.tm rfl) (fun hb3 h=>?_) (fun hb3 h=>?_))))))
   ·refine Fs (Hd [] ([]) Tryz.mixed S rfl (by kernel_rfl) ?_);clear S;intro w1 hk1 hsel S
    refine Lg [0,1,2,3,4,5,6,7] hsel (by kernel_rfl) rfl ?_
    clear hsel
    refine Gp S rfl (Rm (S.tm rfl)) rfl fun a S=>Gp S rfl (Rm (S.tm rfl)) rfl ?_;clear S;intro a S
    obtain ⟨hc1,h⟩:=Ij h
    refine Gp S rfl (NE (S.tm rfl) (S.tm rfl) (Vo hc1)) rfl fun a S=>Gp S rfl (Rm (S.tm rfl)) rfl fun a S=>Gp S rfl (Rm (S.tm rfl)) rfl ?_;clear S;intro a S
    obtain ⟨hc2,h⟩:=Ij h
    refine Gp S rfl (rn_remk (S.tm rfl) (S.tm rfl) (Vo hc2)) rfl fun a S=>Gp S rfl (Ra (S.tm rfl)) rfl fun a S=>Gp S rfl (Ra (S.tm rfl)) rfl fun a S=>It ?_
    replace S:=S.k2 6 7 rfl
    refine Tn (wp_ret (Ec ?_))
    obtain rfl:=Option.some.inj h
    exact Ln S results120 rfl rfl rfl
   ·refine wp_skip (Tn (Fr (Vm S rfl rfl ?_)));clear S;intro a S
    obtain ⟨r1,hr1,h⟩:=Fd h
    refine Ei S (fun _=>Ea (vs:=[.int .u64 Bj]) ⟨(S.tm rfl),trivial⟩ call149) (BU _ Bj _ hr1) rfl ?_;clear S;intro v1 a w2 hv1 hk2 hn1 S
    subst hv1
    refine Vu S (Wb underlying3 underlying117) rfl rfl fun a S=>Va S rfl rfl fun a S=>Ld ?_
    replace S:=S.k4 0 1 2 8 rfl
    refine Tn (Fr (Vm S rfl rfl fun a S=>Vm S rfl rfl ?_));clear S;intro a S
    obtain ⟨hc3,h⟩:=Ij h
    refine lv S (RE (S.tm rfl) (S.tm rfl) (of_decide_eq_true hc3)) rfl fun a S=>Va S rfl rfl fun a S=>Dz (Vm S rfl rfl fun a S=>lv S (Wp (S.tm rfl) rfl (by decide)) rfl fun a S=>Va S rfl rfl fun a S=>Dl ?_)
    refine Fr (Vm S rfl rfl fun a S=>Vq S GA rfl rfl rfl fun a S=>Va S rfl rfl fun a S=>Dz (Vm S rfl rfl fun a S=>Vm S rfl rfl ?_));clear S;intro a S
    obtain ⟨hc4,h⟩:=Ij h
    refine lv S (RE (S.tm rfl) (S.tm rfl) (of_decide_eq_true hc4)) rfl fun a S=>Vm S rfl rfl fun a S=>Vm S rfl rfl fun a S=>Vu S (BD rfl) rfl rfl ?_;clear S;intro a S
    obtain ⟨hc5,h⟩:=Ij h
    refine lv S (Wp (S.tm rfl) (S.tm rfl) (of_decide_eq_true hc5)) rfl fun a S=>Vb S rn_or_ rfl rfl rfl fun a S=>Va S rfl rfl fun a S=>Ld ?_
    replace S:=S.k6 1 2 8 9 10 11 rfl
    refine Tn (Fr (Vm S rfl rfl fun a S=>Vm S rfl rfl ?_));clear S;intro a S
    obtain ⟨hc6,h⟩:=Ij h
    refine lv S (RE (S.tm rfl) (S.tm rfl) (of_decide_eq_true hc6)) rfl fun a S=>Va S rfl rfl fun a S=>Dz (Vm S rfl rfl fun a S=>lv S (Wp (S.tm rfl) rfl (by decide)) rfl fun a S=>Va S rfl rfl fun a S=>Dl ?_)
    refine Fr (Vm S rfl rfl fun a S=>Vq S GA rfl rfl rfl fun a S=>Va S rfl rfl fun a S=>Ld ?_)
    replace S:=S.k7 2 8 9 10 11 13 14 rfl
    refine Tn (Fr (Vm S rfl rfl fun a S=>Vm S rfl rfl ?_));clear S;intro a S
    obtain ⟨hc7,h⟩:=Ij h
    refine lv S (NE (S.tm rfl) (S.tm rfl) (Vo hc7)) rfl fun a S=>Va S rfl rfl fun a S=>Dl (Fs (Fg ?_))
    iterate 3 (refine Vm S rfl rfl ?_;clear S;intro a S)
    refine Vb S Qh rfl rfl rfl fun a S=>Vb S BD rfl rfl rfl fun a S=>Va S rfl rfl fun a S=>Ld ?_
    replace S:=S.k9 2 8 9 10 11 13 14 15 16 rfl
    refine Tn (Fs ?_)
    obtain ⟨j1,hj1,h⟩:=Ey h
    refine Es (fun a w'=>∃ x1 : Int,j1 x1 = some r ∧ Sx w [] nov [] [(2,.int .u64 (Gh .u64 Bj (IntKind.wrap .u64 r1))),(8,.int .u64 (IntKind.wrap .u64 r1)),(9,.int .u64 (Hf .u64 (Gh .u64 Bj (IntKind.wrap .u64 r1)) 32)),(10,.int .u64 (Ow .u64 (Gh .u64 Bj (IntKind.wrap .u64 r1)) 4294967295)),(11,.int .u64 (Ts .u64 (Gh .u64 Cp (IntKind.wrap .u64 r1)) (Hf .u64 Bk (IntKind.wrap .u64 (64 - (IntKind.wrap .u64 r1)))))),(13,.int .u64 (Hf .u64 (Gh .u64 Bk (IntKind.wrap .u64 r1)) 32)),(14,.int .u64 (Ow .u64 (Gh .u64 Bk (IntKind.wrap .u64 r1)) 4294967295)),(15,.int .u64 x1)] 135 a w') ?_ ?_
    ·refine wp_block (Gz (fun (m1 : Nat) a w'=>∃ x1 : Int,∃ x2 : Int,Qy Bk r1 Bj j1 m1 x1 x2 = some r ∧ Sx w [] nov [] [(2,.int .u64 (Gh .u64 Bj (IntKind.wrap .u64 r1))),(8,.int .u64 (IntKind.wrap .u64 r1)),(9,.int .u64 (Hf .u64 (Gh .u64 Bj (IntKind.wrap .u64 r1)) 32)),(10,.int .u64 (Ow .u64 (Gh .u64 Bj (IntKind.wrap .u64 r1)) 4294967295)),(11,.int .u64 (Ts .u64 (Gh .u64 Cp (IntKind.wrap .u64 r1)) (Hf .u64 Bk (IntKind.wrap .u64 (64 - (IntKind.wrap .u64 r1)))))),(13,.int .u64 (Hf .u64 (Gh .u64 Bk (IntKind.wrap .u64 r1)) 32)),(14,.int .u64 (Ow .u64 (Gh .u64 Bk (IntKind.wrap .u64 r1)) 4294967295)),(15,.int .u64 x1),(16,.int .u64 x2)] 135 a w') id (((IntKind.wrap .u64 (Int.tdiv (Ts .u64 (Gh .u64 Cp (IntKind.wrap .u64 r1)) (Hf .u64 Bk (IntKind.wrap .u64 (64 - (IntKind.wrap .u64 r1))))) (Hf .u64 (Gh .u64 Bj (IntKind.wrap .u64 r1)) 32))) - 4294967296).toNat + 2) ⟨IntKind.wrap .u64 (Int.tdiv (Ts .u64 (Gh .u64 Cp (IntKind.wrap .u64 r1)) (Hf .u64 Bk (IntKind.wrap .u64 (64 - (IntKind.wrap .u64 r1))))) (Hf .u64 (Gh .u64 Bj (IntKind.wrap .u64 r1)) 32)),IntKind.wrap .u64 ((Ts .u64 (Gh .u64 Cp (IntKind.wrap .u64 r1)) (Hf .u64 Bk (IntKind.wrap .u64 (64 - (IntKind.wrap .u64 r1))))) - (IntKind.wrap .u64 ((IntKind.wrap .u64 (Int.tdiv (Ts .u64 (Gh .u64 Cp (IntKind.wrap .u64 r1)) (Hf .u64 Bk (IntKind.wrap .u64 (64 - (IntKind.wrap .u64 r1))))) (Hf .u64 (Gh .u64 Bj (IntKind.wrap .u64 r1)) 32))) * (Hf .u64 (Gh .u64 Bj (IntKind.wrap .u64 r1)) 32)))),h,S.nf [] rfl (subR rfl)⟩ ?_)
     clear S h;rintro m1 a w3 ⟨x1,x2,h,S⟩
     cases m1 with
     | zero=>rw [Qy.eq_1] at h;cases h
     | succ m1 =>
      rw [Qy.eq_2] at h
      refine Fs (Fr (Vm S rfl rfl fun a S=>Vq S Rt rfl rfl rfl fun a S=>Vm S rfl rfl fun a S=>Ib 9 (fun a w'=>Keep [] w3 w' ∧ Sx w [] nov [] [(2,.int .u64 (Gh .u64 Bj (IntKind.wrap .u64 r1))),(8,.int .u64 (IntKind.wrap .u64 r1)),(9,.int .u64 (Hf .u64 (Gh .u64 Bj (IntKind.wrap .u64 r1)) 32)),(10,.int .u64 (Ow .u64 (Gh .u64 Bj (IntKind.wrap .u64 r1)) 4294967295)),(11,.int .u64 (Ts .u64 (Gh .u64 Cp (IntKind.wrap .u64 r1)) (Hf .u64 Bk (IntKind.wrap .u64 (64 - (IntKind.wrap .u64 r1)))))),(13,.int .u64 (Hf .u64 (Gh .u64 Bk (IntKind.wrap .u64 r1)) 32)),(14,.int .u64 (Ow .u64 (Gh .u64 Bk (IntKind.wrap .u64 r1)) 4294967295)),(15,.int .u64 x1),(16,.int .u64 x2),(78,bV ((decide (4294967296 ≤ x1)) || (decide ((IntKind.wrap .u64 ((IntKind.wrap .u64 (4294967296 * x2)) + (Hf .u64 (Gh .u64 Bk (IntKind.wrap .u64 r1)) 32))) < (IntKind.wrap .u64 (x1 * (Ow .u64 (Gh .u64 Bj (IntKind.wrap .u64 r1)) 4294967295)))))))] 135 a w') ?_ ?_))
      ·rcases Bool.eq_false_or_eq_true (decide (4294967296 ≤ x1)) with hb4 | hb4
       ·iterate 8 (refine Hh S rfl rfl rfl (Nm hb4) rfl ?_ rfl;clear S;intro a S)
        exact lv S (Lj (decide ((IntKind.wrap .u64 ((IntKind.wrap .u64 (4294967296 * x2)) + (Hf .u64 (Gh .u64 Bk (IntKind.wrap .u64 r1)) 32))) < (IntKind.wrap .u64 (x1 * (Ow .u64 (Gh .u64 Bj (IntKind.wrap .u64 r1)) 4294967295))))) hb4 (S.tm rfl) rfl) rfl fun a S=>Dl (⟨Keep.refl _ _,S.nf [] rfl (subR rfl)⟩)
       ·refine Ef S rfl rfl rfl hb4 (Vm S rfl rfl fun a S=>Ef S rfl rfl rfl hb4 (Vm S rfl rfl fun a S=>Ef S rfl rfl rfl hb4 (Vb S Qh rfl rfl rfl fun a S=>Ef S rfl rfl rfl hb4 (Vm S rfl rfl fun a S=>Ef S rfl rfl rfl hb4 (Vu S (Qh rfl) rfl rfl fun a S=>Ef S rfl rfl rfl hb4 ?_)))))
        exact Vm S rfl rfl fun a S=>Ef S rfl rfl rfl hb4 (Vb S Wo rfl rfl rfl fun a S=>Ef S rfl rfl rfl hb4 (Vb S Jj rfl rfl rfl fun a S=>lv S (Lk hb4 (S.tm rfl) (S.tm rfl)) rfl fun a S=>Dl (⟨Keep.refl _ _,S.nf [] rfl (subR rfl)⟩)))
      clear S;rintro a w5 ⟨hk3,S⟩
      refine Dl (Fc h (S.tm rfl) (fun hb5 h=>?_) (fun hb5 h=>?_))
      ·refine wp_skip (Tn (wp_block (Fr (Vm S rfl rfl fun a S=>Vq S BD rfl rfl rfl fun a S=>Va S rfl rfl fun a S=>Dl (Fs ?_)))))
       refine Fg (Vm S rfl rfl fun a S=>Vm S rfl rfl fun a S=>Vb S Wo rfl rfl rfl fun a S=>Va S rfl rfl fun a S=>Ld ?_)
       replace S:=S.k9 2 8 9 10 11 13 14 15 16 rfl
       refine Tn (Fr (Vm S rfl rfl fun a S=>Vq S Rt rfl rfl rfl fun a S=>Dl (Fc h (S.tm rfl) (fun hb6 h=>?_) (fun hb6 h=>?_))))
       ·exact wp_exit (ST rfl (Ep (Gr (Tn (⟨IntKind.wrap .u64 (x1 - 1),h,S.nf [] rfl (subR rfl)⟩)))))
       ·exact wp_skip (Hn (Tn (⟨m1,⟨IntKind.wrap .u64 (x1 - 1),IntKind.wrap .u64 (x2 + (Hf .u64 (Gh .u64 Bj (IntKind.wrap .u64 r1)) 32)),h,S.nf [] rfl ⟨rfl,rfl,rfl,rfl,rfl,rfl,rfl,rfl,rfl,trivial⟩⟩,Nat.lt_succ_self _⟩)))
      ·exact wp_exit (Ep (Ep (Gr (Tn (⟨x1,h,S.nf [] rfl (subR rfl)⟩)))))
    clear S h;rintro a w4 ⟨x1,h,S⟩;rw [hj1] at h;clear hj1 j1
    refine Tn (Fr (Vm S rfl rfl fun a S=>Vq S Qh rfl rfl rfl fun a S=>Vm S rfl rfl fun a S=>Vb S Wo rfl rfl rfl fun a S=>Vm S rfl rfl fun a S=>Vm S rfl rfl fun a S=>Vb S Qh rfl rfl rfl fun a S=>Vb S BD rfl rfl rfl ?_));clear S;intro a S
    refine Va S rfl rfl fun a S=>Ld ?_
    replace S:=S.k7 2 8 9 10 14 15 17 rfl
    refine Tn (Fr (Vm S rfl rfl fun a S=>Vm S rfl rfl ?_));clear S;intro a S
    obtain ⟨hc8,h⟩:=Ij h
    refine lv S (NE (S.tm rfl) (S.tm rfl) (Vo hc8)) rfl fun a S=>Va S rfl rfl fun a S=>Dl (Fs (Fg ?_))
    iterate 3 (refine Vm S rfl rfl ?_;clear S;intro a S)
    refine Vb S Qh rfl rfl rfl fun a S=>Vb S BD rfl rfl rfl fun a S=>Va S rfl rfl fun a S=>Ld ?_
    replace S:=S.k9 2 8 9 10 14 15 16 17 18 rfl
    refine Tn (Fs ?_)
    obtain ⟨j2,hj2,h⟩:=Ey h
    refine Es (fun a w'=>∃ x4 : Int,j2 x4 = some r ∧ Sx w [] nov [] [(2,.int .u64 (Gh .u64 Bj (IntKind.wrap .u64 r1))),(8,.int .u64 (IntKind.wrap .u64 r1)),(14,.int .u64 (Ow .u64 (Gh .u64 Bk (IntKind.wrap .u64 r1)) 4294967295)),(15,.int .u64 x1),(17,.int .u64 (IntKind.wrap .u64 ((IntKind.wrap .u64 ((IntKind.wrap .u64 ((Ts .u64 (Gh .u64 Cp (IntKind.wrap .u64 r1)) (Hf .u64 Bk (IntKind.wrap .u64 (64 - (IntKind.wrap .u64 r1))))) * 4294967296)) + (Hf .u64 (Gh .u64 Bk (IntKind.wrap .u64 r1)) 32))) - (IntKind.wrap .u64 (x1 * (Gh .u64 Bj (IntKind.wrap .u64 r1))))))),(18,.int .u64 x4)] 135 a w') ?_ ?_
    ·refine wp_block (Gz (fun (m2 : Nat) a w'=>∃ x3 : Int,∃ x4 : Int,Qz Bk r1 Bj j2 m2 x3 x4 = some r ∧ Sx w [] nov [] [(2,.int .u64 (Gh .u64 Bj (IntKind.wrap .u64 r1))),(8,.int .u64 (IntKind.wrap .u64 r1)),(9,.int .u64 (Hf .u64 (Gh .u64 Bj (IntKind.wrap .u64 r1)) 32)),(10,.int .u64 (Ow .u64 (Gh .u64 Bj (IntKind.wrap .u64 r1)) 4294967295)),(14,.int .u64 (Ow .u64 (Gh .u64 Bk (IntKind.wrap .u64 r1)) 4294967295)),(15,.int .u64 x1),(16,.int .u64 x3),(17,.int .u64 (IntKind.wrap .u64 ((IntKind.wrap .u64 ((IntKind.wrap .u64 ((Ts .u64 (Gh .u64 Cp (IntKind.wrap .u64 r1)) (Hf .u64 Bk (IntKind.wrap .u64 (64 - (IntKind.wrap .u64 r1))))) * 4294967296)) + (Hf .u64 (Gh .u64 Bk (IntKind.wrap .u64 r1)) 32))) - (IntKind.wrap .u64 (x1 * (Gh .u64 Bj (IntKind.wrap .u64 r1))))))),(18,.int .u64 x4)] 135 a w') id (((IntKind.wrap .u64 (Int.tdiv (IntKind.wrap .u64 ((IntKind.wrap .u64 ((IntKind.wrap .u64 ((Ts .u64 (Gh .u64 Cp (IntKind.wrap .u64 r1)) (Hf .u64 Bk (IntKind.wrap .u64 (64 - (IntKind.wrap .u64 r1))))) * 4294967296)) + (Hf .u64 (Gh .u64 Bk (IntKind.wrap .u64 r1)) 32))) - (IntKind.wrap .u64 (x1 * (Gh .u64 Bj (IntKind.wrap .u64 r1)))))) (Hf .u64 (Gh .u64 Bj (IntKind.wrap .u64 r1)) 32))) - 4294967296).toNat + 2) ⟨IntKind.wrap .u64 ((IntKind.wrap .u64 ((IntKind.wrap .u64 ((IntKind.wrap .u64 ((Ts .u64 (Gh .u64 Cp (IntKind.wrap .u64 r1)) (Hf .u64 Bk (IntKind.wrap .u64 (64 - (IntKind.wrap .u64 r1))))) * 4294967296)) + (Hf .u64 (Gh .u64 Bk (IntKind.wrap .u64 r1)) 32))) - (IntKind.wrap .u64 (x1 * (Gh .u64 Bj (IntKind.wrap .u64 r1)))))) - (IntKind.wrap .u64 ((IntKind.wrap .u64 (Int.tdiv (IntKind.wrap .u64 ((IntKind.wrap .u64 ((IntKind.wrap .u64 ((Ts .u64 (Gh .u64 Cp (IntKind.wrap .u64 r1)) (Hf .u64 Bk (IntKind.wrap .u64 (64 - (IntKind.wrap .u64 r1))))) * 4294967296)) + (Hf .u64 (Gh .u64 Bk (IntKind.wrap .u64 r1)) 32))) - (IntKind.wrap .u64 (x1 * (Gh .u64 Bj (IntKind.wrap .u64 r1)))))) (Hf .u64 (Gh .u64 Bj (IntKind.wrap .u64 r1)) 32))) * (Hf .u64 (Gh .u64 Bj (IntKind.wrap .u64 r1)) 32)))),IntKind.wrap .u64 (Int.tdiv (IntKind.wrap .u64 ((IntKind.wrap .u64 ((IntKind.wrap .u64 ((Ts .u64 (Gh .u64 Cp (IntKind.wrap .u64 r1)) (Hf .u64 Bk (IntKind.wrap .u64 (64 - (IntKind.wrap .u64 r1))))) * 4294967296)) + (Hf .u64 (Gh .u64 Bk (IntKind.wrap .u64 r1)) 32))) - (IntKind.wrap .u64 (x1 * (Gh .u64 Bj (IntKind.wrap .u64 r1)))))) (Hf .u64 (Gh .u64 Bj (IntKind.wrap .u64 r1)) 32)),h,S.nf [] rfl (subR rfl)⟩ ?_)
     clear S h;rintro m2 a w6 ⟨x3,x4,h,S⟩
     cases m2 with
     | zero=>rw [Qz.eq_1] at h;cases h
     | succ m2 =>
      rw [Qz.eq_2] at h
      refine Fs (Fr (Vm S rfl rfl fun a S=>Vq S Rt rfl rfl rfl fun a S=>Vm S rfl rfl fun a S=>Ib 9 (fun a w'=>Keep [] w6 w' ∧ Sx w [] nov [] [(2,.int .u64 (Gh .u64 Bj (IntKind.wrap .u64 r1))),(8,.int .u64 (IntKind.wrap .u64 r1)),(9,.int .u64 (Hf .u64 (Gh .u64 Bj (IntKind.wrap .u64 r1)) 32)),(10,.int .u64 (Ow .u64 (Gh .u64 Bj (IntKind.wrap .u64 r1)) 4294967295)),(14,.int .u64 (Ow .u64 (Gh .u64 Bk (IntKind.wrap .u64 r1)) 4294967295)),(15,.int .u64 x1),(16,.int .u64 x3),(17,.int .u64 (IntKind.wrap .u64 ((IntKind.wrap .u64 ((IntKind.wrap .u64 ((Ts .u64 (Gh .u64 Cp (IntKind.wrap .u64 r1)) (Hf .u64 Bk (IntKind.wrap .u64 (64 - (IntKind.wrap .u64 r1))))) * 4294967296)) + (Hf .u64 (Gh .u64 Bk (IntKind.wrap .u64 r1)) 32))) - (IntKind.wrap .u64 (x1 * (Gh .u64 Bj (IntKind.wrap .u64 r1))))))),(18,.int .u64 x4),(113,bV ((decide (4294967296 ≤ x4)) || (decide ((IntKind.wrap .u64 ((IntKind.wrap .u64 (4294967296 * x3)) + (Ow .u64 (Gh .u64 Bk (IntKind.wrap .u64 r1)) 4294967295))) < (IntKind.wrap .u64 (x4 * (Ow .u64 (Gh .u64 Bj (IntKind.wrap .u64 r1)) 4294967295)))))))] 135 a w') ?_ ?_))
      ·rcases Bool.eq_false_or_eq_true (decide (4294967296 ≤ x4)) with hb7 | hb7
       ·iterate 8 (refine Hh S rfl rfl rfl (Nm hb7) rfl ?_ rfl;clear S;intro a S)
        exact lv S (Lj (decide ((IntKind.wrap .u64 ((IntKind.wrap .u64 (4294967296 * x3)) + (Ow .u64 (Gh .u64 Bk (IntKind.wrap .u64 r1)) 4294967295))) < (IntKind.wrap .u64 (x4 * (Ow .u64 (Gh .u64 Bj (IntKind.wrap .u64 r1)) 4294967295))))) hb7 (S.tm rfl) rfl) rfl fun a S=>Dl (⟨Keep.refl _ _,S.nf [] rfl (subR rfl)⟩)
       ·refine Ef S rfl rfl rfl hb7 (Vm S rfl rfl fun a S=>Ef S rfl rfl rfl hb7 (Vm S rfl rfl fun a S=>Ef S rfl rfl rfl hb7 (Vb S Qh rfl rfl rfl fun a S=>Ef S rfl rfl rfl hb7 (Vm S rfl rfl fun a S=>Ef S rfl rfl rfl hb7 (Vu S (Qh rfl) rfl rfl fun a S=>Ef S rfl rfl rfl hb7 ?_)))))
        exact Vm S rfl rfl fun a S=>Ef S rfl rfl rfl hb7 (Vb S Wo rfl rfl rfl fun a S=>Ef S rfl rfl rfl hb7 (Vb S Jj rfl rfl rfl fun a S=>lv S (Lk hb7 (S.tm rfl) (S.tm rfl)) rfl fun a S=>Dl (⟨Keep.refl _ _,S.nf [] rfl (subR rfl)⟩)))
      clear S;rintro a w8 ⟨hk4,S⟩
      refine Dl (Fc h (S.tm rfl) (fun hb8 h=>?_) (fun hb8 h=>?_))
      ·refine wp_skip (Tn (wp_block (Fr (Vm S rfl rfl fun a S=>Vq S BD rfl rfl rfl fun a S=>Va S rfl rfl fun a S=>Dl (Fs ?_)))))
       refine Fg (Vm S rfl rfl fun a S=>Vm S rfl rfl fun a S=>Vb S Wo rfl rfl rfl fun a S=>Va S rfl rfl fun a S=>Ld ?_)
       replace S:=S.k9 2 8 9 10 14 15 16 17 18 rfl
       refine Tn (Fr (Vm S rfl rfl fun a S=>Vq S Rt rfl rfl rfl fun a S=>Dl (Fc h (S.tm rfl) (fun hb9 h=>?_) (fun hb9 h=>?_))))
       ·exact wp_exit (ST rfl (Ep (Gr (Tn (⟨IntKind.wrap .u64 (x4 - 1),h,S.nf [] rfl (subR rfl)⟩)))))
       ·exact wp_skip (Hn (Tn (⟨m2,⟨IntKind.wrap .u64 (x3 + (Hf .u64 (Gh .u64 Bj (IntKind.wrap .u64 r1)) 32)),IntKind.wrap .u64 (x4 - 1),h,S.nf [] rfl ⟨rfl,rfl,rfl,rfl,rfl,rfl,rfl,rfl,rfl,trivial⟩⟩,Nat.lt_succ_self _⟩)))
      ·exact wp_exit (Ep (Ep (Gr (Tn (⟨x4,h,S.nf [] rfl (subR rfl)⟩)))))
    clear S h;rintro a w7 ⟨x4,h,S⟩;rw [hj2] at h;clear hj2 j2
    refine Tn (Fr (Vm S rfl rfl fun a S=>Vq S Qh rfl rfl rfl fun a S=>Vm S rfl rfl fun a S=>Vb S Wo rfl rfl rfl fun a S=>Vm S rfl rfl fun a S=>Vq S Qh rfl rfl rfl fun a S=>Vm S rfl rfl fun a S=>Vb S Wo rfl rfl rfl ?_));clear S;intro a S
    refine Vm S rfl rfl fun a S=>Vm S rfl rfl fun a S=>Vb S Qh rfl rfl rfl fun a S=>Vb S BD rfl rfl rfl fun a S=>Vm S rfl rfl ?_;clear S;intro a S
    obtain ⟨hc9,h⟩:=Ij h
    refine lv S (Wp (S.tm rfl) (S.tm rfl) (of_decide_eq_true hc9)) rfl fun a S=>Va S rfl rfl fun a S=>Va S rfl rfl fun a S=>Ld ?_
    replace S:=S.k2 6 7 rfl
    refine Tn (wp_ret ?_)
    obtain rfl:=Option.some.inj h
    exact Ln S results120 rfl rfl rfl
theorem ID (w : World) (Bu : Int) (Bz : Int) (r : Int) (h : AF Bu Bz = some r) :
    Calls prog 76 [iV Bu,iV Bz].toArray w (Ret w [] fun _ v _=>v = iV r):=by
 refine Fe func76 rfl ntmps76 rfl fun a S=>?_
 unfold AF at h
 replace S:=S.k2 0 1 rfl
 refine Fr (Vk S rfl rfl fun a S=>Dz (Vm S rfl rfl fun a S=>Vu S (Wb underlying3 underlying169) rfl rfl fun a S=>Vm S rfl rfl fun a S=>Vu S (Wb underlying3 underlying169) rfl rfl ?_));clear S;intro a S
 refine Va S rfl rfl fun a S=>Va S rfl rfl fun a S=>Dz (Vm S rfl rfl fun a S=>Vm S rfl rfl fun a S=>Vb S Qh rfl rfl rfl fun a S=>Vm S rfl rfl fun a S=>Vb S Qh rfl rfl rfl ?_);clear S;intro a S
 refine Ei S (fun _=>Ea (vs:=[.int .u64 (IntKind.wrap .u64 ((IntKind.wrap .u64 ((IntKind.wrap .u64 Bu) * (IntKind.wrap .u64 Bu))) * (IntKind.wrap .u64 Bu))),.int .u64 1000]) ⟨(S.tm rfl),rfl,trivial⟩ call119) (LQ _ (IntKind.wrap .u64 ((IntKind.wrap .u64 ((IntKind.wrap .u64 Bu) * (IntKind.wrap .u64 Bu))) * (IntKind.wrap .u64 Bu))) 1000 _ rfl) rfl ?_;clear S;intro v1 a w1 hv1 hk1 hn1 S
 subst hv1
 refine Vm S rfl rfl fun a S=>Vq S Fy rfl rfl rfl fun a S=>Vq S Fy rfl rfl rfl fun a S=>Va S rfl rfl fun a S=>Va S rfl rfl fun a S=>Ld ?_
 replace S:=S.k3 6 7 8 rfl
 refine Tn (Fr (Vm S rfl rfl fun a S=>Vm S rfl rfl fun a S=>Vb S Qh rfl rfl rfl fun a S=>Vm S rfl rfl fun a S=>Vb S Qh rfl rfl rfl fun a S=>Va S rfl rfl fun a S=>Dl ?_))
 refine Fs (Fr (Vm S rfl rfl fun a S=>Vm S rfl rfl fun a S=>Vb S Rt rfl rfl rfl fun a S=>Dl (Fc h (S.tm rfl) (fun hb1 h=>?_) (fun hb1 h=>?_))))
 ·refine Fr (Vk S rfl rfl fun a S=>Dl (wp_ret (Ec ?_)))
  obtain rfl:=Option.some.inj h
  exact Eu S results76 rfl rfl
 ·refine wp_skip (Tn (Fs (Fg ?_)))
  iterate 3 (refine Vm S rfl rfl ?_;clear S;intro a S)
  obtain ⟨r1,hr1,h⟩:=Fd h
  refine Ei S (fun _=>Ea (vs:=[.int .u64 ((Tm (IntKind.wrap .u64 ((IntKind.wrap .u64 ((IntKind.wrap .u64 Bu) * (IntKind.wrap .u64 Bu))) * (IntKind.wrap .u64 Bu))) 1000).1),.int .u64 ((Tm (IntKind.wrap .u64 ((IntKind.wrap .u64 ((IntKind.wrap .u64 Bu) * (IntKind.wrap .u64 Bu))) * (IntKind.wrap .u64 Bu))) 1000).2),.int .u64 (IntKind.wrap .u64 ((IntKind.wrap .u64 ((IntKind.wrap .u64 Bz) * (IntKind.wrap .u64 Bz))) * (IntKind.wrap .u64 Bz)))]) ⟨(S.tm rfl),(S.tm rfl),(S.tm rfl),trivial⟩ call120) (LR _ ((Tm (IntKind.wrap .u64 ((IntKind.wrap .u64 ((IntKind.wrap .u64 Bu) * (IntKind.wrap .u64 Bu))) * (IntKind.wrap .u64 Bu))) 1000).1) ((Tm (IntKind.wrap .u64 ((IntKind.wrap .u64 ((IntKind.wrap .u64 Bu) * (IntKind.wrap .u64 Bu))) * (IntKind.wrap .u64 Bu))) 1000).2) (IntKind.wrap .u64 ((IntKind.wrap .u64 ((IntKind.wrap .u64 Bz) * (IntKind.wrap .u64 Bz))) * (IntKind.wrap .u64 Bz))) _ hr1) rfl ?_;clear S;intro v2 a w2 hv2 hk2 hn2 S
  subst hv2
  refine Vm S rfl rfl fun a S=>Vq S Fy rfl rfl rfl fun a S=>Vq S Fy rfl rfl rfl fun a S=>Va S rfl rfl fun a S=>Va S rfl rfl fun a S=>Ld ?_
  replace S:=S.k1 9 rfl
  refine Tn (Fr (Vm S rfl rfl fun a S=>Vq S rn_min2 rfl rfl rfl fun a S=>Vu S (Wb underlying169 underlying3) rfl rfl fun a S=>Va S rfl rfl fun a S=>Dl (wp_ret ?_)))
  obtain rfl:=Option.some.inj h
  exact Eu S results76 rfl rfl
theorem IE (w : World) (Ab : Value) (Ae : List Sp) (Ag : Slc (view w []) 2 Ab (Ae.map Sp.enc)) (Au : ByteArray) (Bz : Int) (r : Int × Int) (h : AG Ae Au Bz = some r) :
    Calls prog 33 [Ab,sV Au,iV Bz].toArray w (Ret w [] fun _ v _=>v = .tuple #[iV r.1,iV r.2]):=by
 refine Fe func33 rfl ntmps33 rfl fun a S=>?_
 unfold AG at h
 replace S:=S.k3 0 1 2 rfl
 refine Fr (Vk S rfl rfl fun a S=>Vk S rfl rfl fun a S=>Dl (Fs (Fr (Vm S rfl rfl ?_))));clear S;intro a S
 obtain ⟨r1,hr1,h⟩:=Fd h
 refine Ei S (fun _=>Ea (vs:=[Ab]) ⟨(S.tm rfl),trivial⟩ call73) (EU _ Ab Ae (Ag.mono (S.le_arg Er)) _ hr1) rfl ?_;clear S;intro v1 a w1 hv1 hk1 hn1 S
 subst hv1
 refine Va S rfl rfl fun a S=>Dz (Vm S rfl rfl fun a S=>Vq S Lf rfl rfl rfl fun a S=>Dl (Fc h (S.tm rfl) (fun hb1 h=>?_) (fun hb1 h=>?_)))
 ·refine Fr (Vm S rfl rfl fun a S=>Vk S rfl rfl fun a S=>Va S rfl rfl fun a S=>Dl (wp_ret (Ec ?_)))
  obtain rfl:=Option.some.inj h
  exact Ln S results33 rfl rfl rfl
 ·refine wp_skip (Tn (Fr (Vm S rfl rfl fun a S=>Vm S rfl rfl fun a S=>Ei S (fun _=>Ea (vs:=[Ab,sV Au]) ⟨(S.tm rfl),(S.tm rfl),trivial⟩ call74) (IC _ Ab Ae (Ag.mono (S.le_arg Er)) Au _ rfl) rfl ?_)));clear S;intro v2 a w2 hv2 hk2 hn2 S
  subst hv2
  refine Va S rfl rfl fun a S=>Dl (Fs (Fr (Vm S rfl rfl fun a S=>Vq S Jh rfl rfl rfl fun a S=>Ld ?_)))
  replace S:=S.k3 2 9 19 rfl
  refine Tn (Fc h (S.tm rfl) (fun hb2 h=>?_) (fun hb2 h=>?_))
  ·refine Fr (Vk S rfl rfl fun a S=>Vk S rfl rfl fun a S=>Dl (wp_ret (Ec ?_)))
   obtain rfl:=Option.some.inj h
   exact Ln S results33 rfl rfl rfl
  ·refine wp_skip (Tn (Fs (Fr (Vm S rfl rfl fun a S=>Ei S (fun _=>Ea (vs:=[iV Bz]) ⟨(S.tm rfl),trivial⟩ call75) (Xs _ Bz _ rfl) rfl ?_))));clear S;intro v3 a w3 hv3 hk3 hn3 S
   subst hv3
   refine Vu S Hv rfl rfl fun a S=>Dl (Fc h (S.tm rfl) (fun hb3 h=>?_) (fun hb3 h=>?_))
   ·refine Fr (Vk S rfl rfl fun a S=>Vk S rfl rfl fun a S=>Dl (wp_ret (Ec ?_)))
    obtain rfl:=Option.some.inj h
    exact Ln S results33 rfl rfl rfl
   ·refine wp_skip (Tn (Fr (Vm S rfl rfl fun a S=>Vm S rfl rfl ?_)));clear S;intro a S
    obtain ⟨r2,hr2,h⟩:=Fd h
    refine Ei S (fun _=>Ea (vs:=[iV (Ug Ae Au),iV Bz]) ⟨(S.tm rfl),(S.tm rfl),trivial⟩ call76) (ID _ (Ug Ae Au) Bz _ hr2) rfl ?_;clear S;intro v4 a w4 hv4 hk4 hn4 S
    subst hv4
    refine Va S rfl rfl fun a S=>Vk S rfl rfl fun a S=>Dl (wp_ret ?_)
    obtain rfl:=Option.some.inj h
    exact Ln S results33 rfl rfl rfl
set_option maxRecDepth 20000 in
theorem DQ (w : World) (Ab : Value) (Ae : List Vw) (Dc : List R99) (Ag : Slc (view w []) 5 Ab (Dc.map R99.enc)) (Cs : Mg (CX (view w [])) Ae Dc) (r : Int) (h : Xb Ae = some r) :
    Calls prog 77 [Ab].toArray w (Ret w [] fun _ v _=>v = iV r):=by
 refine Fe func77 rfl ntmps77 rfl fun a S=>?_
 unfold Xb at h
 replace S:=S.k1 0 rfl
 refine Fr (Vk S rfl rfl fun a S=>Dl (Fs (Fr (Vm S rfl rfl fun a S=>lv S (Fq HU (S.tm rfl) (Vv Ag Cs)) rfl fun a S=>Vq S Jj rfl rfl rfl ?_))));clear S;intro a S
 refine Dl (Fc h (S.tm rfl) (fun hb1 h=>?_) (fun hb1 h=>?_))
 ·refine Fr (Vk S rfl rfl fun a S=>Dl (wp_ret (Ec ?_)))
  obtain rfl:=Option.some.inj h
  exact Eu S results77 rfl rfl
 ·refine wp_skip (Tn (Fs (Fr (Vm S rfl rfl fun a S=>lv S (Fq HU (S.tm rfl) (Vv Ag Cs)) rfl fun a S=>lv S (Rm rfl) rfl fun a S=>Dl ?_))))
  replace S:=S.k4 0 10 11 12 rfl
  obtain ⟨j1,hj1,h⟩:=Ey h
  refine Es (fun a w'=>j1 = some r ∧ Sx w [] nov [] [] 87 a w') ?_ ?_
  ·refine wp_block (Gz (fun (ys1 : List Vw) a w'=>∃ i1 : Nat,(∃ dn,Ae = dn ++ ys1 ∧ dn.length = i1) ∧ Mv Ae j1 ys1 i1 = some r ∧ Sx w [] nov [] [(0,Ab),(10,Ab),(11,iV (Ae.length : Int)),(12,iV (i1 : Int))] 87 a w') List.length Ae ⟨0,⟨[],rfl,rfl⟩,h,S.nf [] rfl (subR rfl)⟩ ?_)
   clear S h;rintro ys1 a w1 ⟨i1,⟨dn,hd1,hi1⟩,h,S⟩
   cases ys1 with
   | nil =>
    rw [Mv.eq_1] at h
    refine Fr (Vb S Ev rfl rfl rfl fun a S=>Ld ?_)
    replace S:=S.k5 0 10 11 12 13 rfl
    exact Tn (Fs (wp_cond_false ((S.tm rfl).trans (congrArg Value.bool (Im hd1 hi1))) (wp_exit (Ep (Ep (Gr (Tn (⟨h,S.nf [] rfl trivial⟩))))))))
   | cons y1 ys1 =>
    rw [Mv.eq_2] at h
    refine Fr (Vb S Ev rfl rfl rfl fun a S=>Ld ?_)
    replace S:=S.k5 0 10 11 12 13 rfl
    refine Tn (Fs (wp_cond_true ((S.tm rfl).trans (congrArg Value.bool (Hr hd1 hi1))) (wp_skip (Tn (Fs (wp_block (Fr (Vm S rfl rfl ?_))))))));clear S;intro a S
    obtain ⟨r1,hg1,hl1⟩:=Mg.at Cs (Iv hd1 hi1)
    obtain ⟨u1,rfl,hs1⟩:=hl1
    obtain ⟨b1,o1,hm1,hr1⟩:=Fh (a:=a) (x:=.tmp 10) (y:=.tmp 12) (ty:=0) HU Ag hg1 rfl (S.tm rfl) (S.tm rfl)
    refine lv S (hr1 _) rfl ?_;clear S;intro a S
    clear hr1
    refine lv S (Fk isAgg99 sizeOf99 (off:=o1) (o:=0) (part:=[sV y1.Key,sV y1.Race,u1.val,iV y1.Young,iV y1.Old]) rfl rfl (S.tm rfl) (hm1.at S.emb0)) rfl fun a S=>Hu S zeroValue99 (cs:=[sV An,sV An,.slice none 0 0,iV 0,iV 0]) rfl rfl ?_;clear S;intro a w3 b2 hz1 hk1 S
    refine Va S rfl rfl fun a S=>Fj S (S.tm rfl) (S.tm rfl) (i:=0) (off:=0) rfl sizeOf99 (vs:=[sV y1.Key,sV y1.Race,u1.val,iV y1.Young,iV y1.Old]) rfl rfl rfl (Qn rfl (Qn rfl (Qn (Ku.one (Fm hs1)) (Qn rfl (Qn rfl rfl))))) ?_;clear S;intro w4 hk2 S
    refine Dl (Fs (wp_block (Fr (Vf JM S rfl rfl fun a S=>Vl isAgg9 0 S rfl rfl rfl rfl ?_))));clear S;intro a S
    obtain ⟨r2,hr2,h⟩:=Fd h
    refine Ei S (fun _=>Ea (vs:=[sV y1.Key]) ⟨(S.tm rfl),trivial⟩ call87) (Ja _ y1.Key _ hr2) rfl ?_;clear S;intro v1 a w5 hv1 hk3 hn1 S
    subst hv1
    refine Vu S Hv rfl rfl fun a S=>Vm S rfl rfl ?_;clear S;intro a S
    obtain ⟨j2,hj2,h⟩:=Ey h
    refine Ib 5 (fun a w'=>∃ c1,j2 c1 = some r ∧ Keep [] w5 w' ∧ Sx w [] nov [.blk b2 [sV y1.Key,sV y1.Race,u1.val,iV y1.Young,iV y1.Old] 99] [(0,Ab),(3,iV (i1 : Int)),(4,.pointer (some ⟨b2,0,none⟩)),(10,Ab),(11,iV (Ae.length : Int)),(12,iV (i1 : Int)),(27,bV c1)] 87 a w') ?_ ?_
    ·rcases Bool.eq_false_or_eq_true (!r2) with hb2 | hb2
     ·replace h:=Rg h hb2
      iterate 4 (refine Hh S rfl rfl rfl (Nm hb2) rfl ?_ rfl;clear S;intro a S)
      exact Vq S (Lj true hb2) rfl rfl rfl fun a S=>Dl (⟨_,h,Keep.refl _ _,S.nf [true] rfl (subR rfl)⟩)
     ·replace h:=Rh h hb2
      refine Ef S rfl rfl rfl hb2 (Vf TJ S rfl rfl fun a S=>Ef S rfl rfl rfl hb2 (Vl isAgg9 0 S rfl rfl rfl rfl fun a S=>Ef S rfl rfl rfl hb2 ?_))
      obtain ⟨r3,hr3,h⟩:=Fd h
      refine Ei S (fun _=>Ea (vs:=[sV y1.Race]) ⟨(S.tm rfl),trivial⟩ call87) (Ja _ y1.Race _ hr3) rfl ?_;clear S;intro v2 a w7 hv2 hk4 hn2 S
      subst hv2
      exact Ef S rfl rfl rfl hb2 (Vu S Hv rfl rfl fun a S=>lv S (Lk hb2 (S.tm rfl) (S.tm rfl)) rfl fun a S=>Dl (⟨_,h,hk4,S.nf [true] rfl (subR rfl)⟩))
    clear S h;rintro a w6 ⟨c1,h,hk5,S⟩;rw [hj2] at h;clear hj2 j2
    refine Va S rfl rfl fun a S=>Dl (Fc h (S.tm rfl) (fun hb3 h=>?_) (fun hb3 h=>?_))
    ·refine Fr (Vk S rfl rfl fun a S=>Dl (wp_ret (Ga (Ec (Ga (Ec (Ec ?_)))))))
     refine Ga (Ec (Ec ?_))
     obtain rfl:=Option.some.inj h
     exact Eu S results77 rfl rfl
    ·refine Fs (Hd [] ([]) Tryz.mixed S rfl (by kernel_rfl) ?_);clear S;intro w8 hk6 hsel S
     refine Lg [0,1,2,3,4,5,6,7,8,9,10,11,12,13] hsel (by kernel_rfl) rfl ?_
     clear hsel
     refine Gp S rfl (Rm (S.tm rfl)) rfl fun a S=>Gp S rfl (Jj (S.tm rfl) rfl) rfl fun a S=>Gp S rfl (Rm (S.tm rfl)) rfl ?_;clear S;intro a S
     obtain ⟨j3,hj3,h⟩:=Ey h
     refine AB 10 (fun a w'=>∃ c2,j3 c2 = some r ∧ Keep [] w8 w' ∧ Sx w [] nov [.blk b2 [sV y1.Key,sV y1.Race,u1.val,iV y1.Young,iV y1.Old] 99] [(0,Ab),(4,.pointer (some ⟨b2,0,none⟩)),(10,Ab),(11,iV (Ae.length : Int)),(12,iV (i1 : Int)),(41,bV c2)] 87 a w') ?_ ?_
     ·rcases Bool.eq_false_or_eq_true (decide (0 < (i1 : Int))) with hb4 | hb4
      ·replace h:=Rg h hb4
       refine Gc S rfl rfl rfl rfl hb4 (Hm S (Gv JM (S.tm rfl)) rfl fun a S=>Gc S rfl rfl rfl rfl hb4 (Hm S (Nn isAgg9 (S.tm rfl) (S.cell (i:=0) rfl rfl)) rfl fun a S=>Gc S rfl rfl rfl rfl hb4 (Hm S (Rm (S.tm rfl)) rfl fun a S=>Gc S rfl rfl rfl rfl hb4 (Hm S (Rm (S.tm rfl)) rfl fun a S=>Gc S rfl rfl rfl rfl hb4 (Hm S (Iy (S.tm rfl) rfl) rfl fun a S=>Gc S rfl rfl rfl rfl hb4 ?_)))))
       obtain ⟨hc1,h⟩:=Ij h
       obtain ⟨r4,hg2,hl2⟩:=PF Cs hc1
       obtain ⟨u2,rfl,hs2⟩:=hl2
       obtain ⟨b3,o2,hm2,hr4⟩:=Fh (a:=a) (x:=.tmp 34) (y:=.tmp 36) (ty:=0) HU Ag hg2 (Eh hc1).2 (S.tm rfl) (S.tm rfl)
       refine Hm S (hr4 _) rfl ?_;clear S;intro a S
       clear hr4
       exact Gc S rfl rfl rfl rfl hb4 (Hm S (Gv JM (S.tm rfl)) rfl fun a S=>Gc S rfl rfl rfl rfl hb4 (Hm S (Ic isAgg9 (off:=o2) (o:=0) (S.tm rfl) (hm2.at S.emb0) rfl) rfl fun a S=>Gc S rfl rfl rfl rfl hb4 (Hm S (JD (S.tm rfl) (S.tm rfl)) rfl fun a S=>Gp S rfl (Hz hb4 (S.tm rfl) (S.tm rfl)) rfl fun a S=>It (⟨_,h,Keep.refl _ _,S.nf [true] rfl (subR rfl)⟩))))
      ·replace h:=Rh h hb4
       iterate 9 (refine Qs S rfl rfl rfl rfl (Jw hb4) rfl ?_ rfl;clear S;intro a S)
       exact Gp S rfl (Ia true hb4 (S.tm rfl) rfl) rfl fun a S=>It (⟨_,h,Keep.refl _ _,S.nf [true] rfl (subR rfl)⟩)
     clear S h;rintro a w9 ⟨c2,h,hk7,S⟩;rw [hj3] at h;clear hj3 j3
     refine Gp S rfl (Ra (S.tm rfl)) rfl fun a S=>It ?_
     replace S:=(S.nl [.blk b2 [sV y1.Key,sV y1.Race,u1.val,iV y1.Young,iV y1.Old] 99] [true] rfl).k6 0 4 10 11 12 28 rfl
     refine Tn (Fc h (S.tm rfl) (fun hb5 h=>?_) (fun hb5 h=>?_))
     ·refine Fr (Vk S rfl rfl fun a S=>Dl (wp_ret (Ga (Ec (Ga (Ec (Ec ?_)))))))
      refine Ga (Ec (Ec ?_))
      obtain rfl:=Option.some.inj h
      exact Eu S results77 rfl rfl
     ·refine Fr (Vf GO S rfl rfl fun a S=>Vl isAgg95 0 S rfl rfl rfl rfl fun a S=>lv S (Fq AM (S.tm rfl) (Fm hs1)) rfl fun a S=>Vq S Jj rfl rfl rfl fun a S=>Va S rfl rfl fun a S=>Dl (Fc h (S.tm rfl) (fun hb6 h=>?_) (fun hb6 h=>?_)))
      ·refine Fr (Vk S rfl rfl fun a S=>Dl (wp_ret (Ga (Ec (Ga (Ec (Ec ?_)))))))
       refine Ga (Ec (Ec ?_))
       obtain rfl:=Option.some.inj h
       exact Eu S results77 rfl rfl
      ·refine wp_skip (Hn (Tn (Fs (Fr (Vf GO S rfl rfl fun a S=>Vl isAgg95 0 S rfl rfl rfl rfl fun a S=>lv S (Fq AM (S.tm rfl) (Fm hs1)) rfl fun a S=>lv S (Rm rfl) rfl fun a S=>Ld ?_)))))
       replace S:=S.k8 0 4 10 11 12 48 49 50 rfl
       refine Tn ?_
       obtain ⟨j4,hj4,h⟩:=Ey h
       refine Es (fun a w'=>j4 = some r ∧ Sx w [] nov [.blk b2 [sV y1.Key,sV y1.Race,u1.val,iV y1.Young,iV y1.Old] 99] [(0,Ab),(4,.pointer (some ⟨b2,0,none⟩)),(10,Ab),(11,iV (Ae.length : Int)),(12,iV (i1 : Int))] 87 a w') ?_ ?_
       ·refine wp_block (Gz (fun (ys2 : List ByteArray) a w'=>∃ i2 : Nat,(∃ dn,y1.Clubs = dn ++ ys2 ∧ dn.length = i2) ∧ Mu y1 j4 ys2 i2 = some r ∧ Sx w [] nov [.blk b2 [sV y1.Key,sV y1.Race,u1.val,iV y1.Young,iV y1.Old] 99] [(0,Ab),(4,.pointer (some ⟨b2,0,none⟩)),(10,Ab),(11,iV (Ae.length : Int)),(12,iV (i1 : Int)),(48,u1.val),(49,iV (y1.Clubs.length : Int)),(50,iV (i2 : Int))] 87 a w') List.length y1.Clubs ⟨0,⟨[],rfl,rfl⟩,h,S.nf [true] rfl (subR rfl)⟩ ?_)
        clear S h;rintro ys2 a w10 ⟨i2,⟨dn,hd2,hi2⟩,h,S⟩
        cases ys2 with
        | nil =>
         rw [Mu.eq_1] at h
         refine Fr (Vb S Ev rfl rfl rfl fun a S=>Ld ?_)
         replace S:=S.k9 0 4 10 11 12 48 49 50 51 rfl
         exact Tn (Fs (wp_cond_false ((S.tm rfl).trans (congrArg Value.bool (Im hd2 hi2))) (wp_exit (Ep (Ep (Gr (Tn (⟨h,S.nf [true] rfl (subR rfl)⟩))))))))
        | cons y2 ys2 =>
         rw [Mu.eq_2] at h
         refine Fr (Vb S Ev rfl rfl rfl fun a S=>Ld ?_)
         replace S:=S.k9 0 4 10 11 12 48 49 50 51 rfl
         refine Tn (Fs (wp_cond_true ((S.tm rfl).trans (congrArg Value.bool (Hr hd2 hi2))) (wp_skip (Tn (Fs (wp_block (Fr (Vm S rfl rfl ?_))))))));clear S;intro a S
         obtain ⟨b4,o3,hm3,hr5⟩:=Fh (a:=a) (x:=.tmp 48) (y:=.tmp 50) (ty:=0) AM hs1 (Iv hd2 hi2) rfl (S.tm rfl) (S.tm rfl)
         refine lv S (hr5 _) rfl ?_;clear S;intro a S
         clear hr5
         refine lv S (Ic isAgg9 (off:=o3) (o:=0) (S.tm rfl) (hm3.at S.emb0) rfl) rfl fun a S=>Va S rfl rfl fun a S=>Va S rfl rfl fun a S=>Dl (Fs (Fr (Vm S rfl rfl ?_)));clear S;intro a S
         obtain ⟨r5,hr6,h⟩:=Fd h
         refine Ei S (fun _=>Ea (vs:=[sV y2]) ⟨(S.tm rfl),trivial⟩ call87) (Ja _ y2 _ hr6) rfl ?_;clear S;intro v3 a w12 hv3 hk8 hn3 S
         subst hv3
         refine Vu S Hv rfl rfl fun a S=>Ld ?_
         replace S:=S.k11 0 4 5 6 10 11 12 48 49 50 57 rfl
         refine Tn (Fc h (S.tm rfl) (fun hb7 h=>?_) (fun hb7 h=>?_))
         ·refine Fr (Vk S rfl rfl fun a S=>Dl (wp_ret (Ec (Ga (Ec (Ec (Ga ?_)))))))
          refine Ec (Ec (Ga (Ec (Ec (Ga (Ec (Ec ?_)))))))
          obtain rfl:=Option.some.inj h
          exact Eu S results77 rfl rfl
         ·refine wp_skip (Tn (Fr (Vm S rfl rfl fun a S=>Vq S Jj rfl rfl rfl fun a S=>Vm S rfl rfl ?_)));clear S;intro a S
          obtain ⟨j5,hj5,h⟩:=Ey h
          refine Ib 9 (fun a w'=>∃ c3,j5 c3 = some r ∧ Keep [] w12 w' ∧ Sx w [] nov [.blk b2 [sV y1.Key,sV y1.Race,u1.val,iV y1.Young,iV y1.Old] 99] [(0,Ab),(4,.pointer (some ⟨b2,0,none⟩)),(10,Ab),(11,iV (Ae.length : Int)),(12,iV (i1 : Int)),(48,u1.val),(49,iV (y1.Clubs.length : Int)),(50,iV (i2 : Int)),(69,bV c3)] 87 a w') ?_ ?_
          ·rcases Bool.eq_false_or_eq_true (decide (0 < (i2 : Int))) with hb8 | hb8
           ·replace h:=Rg h hb8
            refine Ef S rfl rfl rfl hb8 (Vm S rfl rfl fun a S=>Ef S rfl rfl rfl hb8 (Vf GO S rfl rfl fun a S=>Ef S rfl rfl rfl hb8 (Vl isAgg95 0 S rfl rfl rfl rfl fun a S=>Ef S rfl rfl rfl hb8 (Vm S rfl rfl fun a S=>Ef S rfl rfl rfl hb8 (Vq S Iy rfl rfl rfl fun a S=>Ef S rfl rfl rfl hb8 ?_)))))
            obtain ⟨hc2,h⟩:=Ij h
            obtain ⟨b5,o4,hm4,hr7⟩:=Fh (a:=a) (x:=.tmp 63) (y:=.tmp 65) (ty:=0) AM hs1 (Eh hc2).1 (Eh hc2).2 (S.tm rfl) (S.tm rfl)
            refine lv S (hr7 _) rfl ?_;clear S;intro a S
            clear hr7
            exact Ef S rfl rfl rfl hb8 (lv S (Ic isAgg9 (off:=o4) (o:=0) (S.tm rfl) (hm4.at S.emb0) rfl) rfl fun a S=>Ef S rfl rfl rfl hb8 (Vb S JD rfl rfl rfl fun a S=>lv S (Hz hb8 (S.tm rfl) (S.tm rfl)) rfl fun a S=>Dl (⟨_,h,Keep.refl _ _,S.nf [true] rfl (subR rfl)⟩)))
           ·replace h:=Rh h hb8
            iterate 8 (refine Hh S rfl rfl rfl (Jw hb8) rfl ?_ rfl;clear S;intro a S)
            exact Vq S (Ia true hb8) rfl rfl rfl fun a S=>Dl (⟨_,h,Keep.refl _ _,S.nf [true] rfl (subR rfl)⟩)
          clear S h;rintro a w13 ⟨c3,h,hk9,S⟩;rw [hj5] at h;clear hj5 j5
          refine Dl (Fc h (S.tm rfl) (fun hb9 h=>?_) (fun hb9 h=>?_))
          ·refine Fr (Vk S rfl rfl fun a S=>Dl (wp_ret (Ga (Ec (Ec (Ga (Ec ?_)))))))
           refine Ec (Ga (Ec (Ec (Ga (Ec (Ec ?_))))))
           obtain rfl:=Option.some.inj h
           exact Eu S results77 rfl rfl
          ·exact wp_skip (Hn (Tn (Fg (Vq S Gf rfl rfl rfl fun a S=>Vm S rfl rfl fun a S=>Dl (⟨ys2,⟨i2 + 1,⟨_,(hd2).trans (List.append_cons _ _ _),by simp [hi2]⟩,h,S.nf [true] rfl ⟨rfl,rfl,rfl,rfl,rfl,rfl,rfl,(congrArg (fun z=>some (Value.int .i64 z)) (Hs hd2 hi2 (Jg hs1))),trivial⟩⟩,Nat.lt_succ_self _⟩)))))
       clear S h;rintro a w11 ⟨h,S⟩;rw [hj4] at h;clear hj4 j4
       refine Tn (Fr (Vf OB S rfl rfl fun a S=>Vl isAgg3 0 S rfl rfl rfl rfl fun a S=>Vq S Ev rfl rfl rfl fun a S=>Vm S rfl rfl fun a S=>Ib 6 (fun a w'=>Keep [] w11 w' ∧ Sx w [] nov [.blk b2 [sV y1.Key,sV y1.Race,u1.val,iV y1.Young,iV y1.Old] 99] [(0,Ab),(4,.pointer (some ⟨b2,0,none⟩)),(10,Ab),(11,iV (Ae.length : Int)),(12,iV (i1 : Int)),(80,bV ((decide (y1.Young < 0)) || (decide (y1.Old < y1.Young))))] 87 a w') ?_ ?_))
       ·rcases Bool.eq_false_or_eq_true (decide (y1.Young < 0)) with hb10 | hb10
        ·iterate 5 (refine Hh S rfl rfl rfl (Nm hb10) rfl ?_ rfl;clear S;intro a S)
         exact lv S (Lj (decide (y1.Old < y1.Young)) hb10 (S.tm rfl) rfl) rfl fun a S=>Dl (⟨Keep.refl _ _,S.nf [true] rfl (subR rfl)⟩)
        ·refine Ef S rfl rfl rfl hb10 (Vf OB S rfl rfl fun a S=>Ef S rfl rfl rfl hb10 (Vl isAgg3 0 S rfl rfl rfl rfl fun a S=>Ef S rfl rfl rfl hb10 (Vf OC S rfl rfl fun a S=>Ef S rfl rfl rfl hb10 (Vl isAgg3 0 S rfl rfl rfl rfl fun a S=>Ef S rfl rfl rfl hb10 (Vb S Jj rfl rfl rfl fun a S=>lv S (Lk hb10 (S.tm rfl) (S.tm rfl)) rfl ?_)))));clear S;intro a S
         exact Dl (⟨Keep.refl _ _,S.nf [true] rfl (subR rfl)⟩)
       clear S;rintro a w14 ⟨hk10,S⟩
       refine Vm S rfl rfl fun a S=>Ib 4 (fun a w'=>Keep [] w14 w' ∧ Sx w [] nov [.blk b2 [sV y1.Key,sV y1.Race,u1.val,iV y1.Young,iV y1.Old] 99] [(0,Ab),(10,Ab),(11,iV (Ae.length : Int)),(12,iV (i1 : Int)),(85,bV (((decide (y1.Young < 0)) || (decide (y1.Old < y1.Young))) || (decide (150 < y1.Old))))] 87 a w') ?_ ?_
       ·rcases Bool.eq_false_or_eq_true ((decide (y1.Young < 0)) || (decide (y1.Old < y1.Young))) with hb11 | hb11
        ·iterate 3 (refine Hh S rfl rfl rfl (Nm hb11) rfl ?_ rfl;clear S;intro a S)
         exact lv S (Lj (decide (150 < y1.Old)) hb11 (S.tm rfl) rfl) rfl fun a S=>Dl (⟨Keep.refl _ _,S.nf [true] rfl (subR rfl)⟩)
        ·exact Ef S rfl rfl rfl hb11 (Vf OC S rfl rfl fun a S=>Ef S rfl rfl rfl hb11 (Vl isAgg3 0 S rfl rfl rfl rfl fun a S=>Ef S rfl rfl rfl hb11 (Vq S Jj rfl rfl rfl fun a S=>lv S (Lk hb11 (S.tm rfl) (S.tm rfl)) rfl fun a S=>Dl (⟨Keep.refl _ _,S.nf [true] rfl (subR rfl)⟩))))
       clear S;rintro a w15 ⟨hk11,S⟩
       refine Dl (Fc h (S.tm rfl) (fun hb12 h=>?_) (fun hb12 h=>?_))
       ·refine Fr (Vk S rfl rfl fun a S=>Dl (wp_ret (Ga (Ec (Ec (Ga (Ec ?_)))))))
        refine Ec ?_
        obtain rfl:=Option.some.inj h
        exact Eu S results77 rfl rfl
       ·exact wp_skip (Hn (Tn (Fg (Vq S Gf rfl rfl rfl fun a S=>Vm S rfl rfl fun a S=>Dl (⟨ys1,⟨i1 + 1,⟨_,(hd1).trans (List.append_cons _ _ _),by simp [hi1]⟩,h,S.nf [false] rfl ⟨rfl,rfl,rfl,(congrArg (fun z=>some (Value.int .i64 z)) (Hs hd1 hi1 (Yf Ag Cs))),trivial⟩⟩,Nat.lt_succ_self _⟩)))))
  clear S h;rintro a w2 ⟨h,S⟩;rw [hj1] at h;clear hj1 j1
  refine Tn (Fr (Vk S rfl rfl fun a S=>Dl (wp_ret ?_)))
  obtain rfl:=Option.some.inj h
  exact Eu S results77 rfl rfl
theorem EV (w : World) (Ac : Li) (r : Int) (h : Xp Ac = some r) :
    Calls prog 121 [.agg (Li.enc Ac).toArray].toArray w (Ret w [] fun _ v _=>v = iV r):=by
 refine Fe func121 rfl ntmps121 rfl fun a S=>?_
 unfold Xp at h
 replace S:=S.k1 0 rfl
 refine Fr (Mx S (S.tm rfl) (cs:=(Li.enc Ac)) rfl rfl ?_);clear S;intro a w1 b1 hz1 hk1 S
 refine Vk S rfl rfl fun a S=>Dl (Fs ?_)
 obtain ⟨j1,hj1,h⟩:=Ey h
 refine Es (fun a w'=>j1 = some r ∧ Sx w [] nov [] [] 64 a w') ?_ ?_
 ·refine wp_block (Fr (Vf PJ S rfl rfl fun a S=>Vl isAgg3 0 S rfl rfl rfl rfl fun a S=>Ei S (fun _=>Ea (vs:=[iV Ac.At]) ⟨(S.tm rfl),trivial⟩ call60) (Uo _ Ac.At _ rfl) rfl ?_));clear S;intro v1 a w3 hv1 hk2 hn1 S
  subst hv1
  refine Vu S Hv rfl rfl fun a S=>Va S rfl rfl fun a S=>Dl (Fc h (S.tm rfl) (fun hb1 h=>?_) (fun hb1 h=>?_))
  ·refine Fr (Vk S rfl rfl fun a S=>Dl (wp_ret (Ga (Ec (Ec ?_)))))
   obtain rfl:=Option.some.inj h
   exact Eu S results121 rfl rfl
  ·refine Fr (Vf GP S rfl rfl fun a S=>Vl isAgg3 0 S rfl rfl rfl rfl fun a S=>Ei S (fun _=>Ea (vs:=[iV Ac.Kind,iV 1,iV 3]) ⟨(S.tm rfl),rfl,rfl,trivial⟩ call67) (Ge _ Ac.Kind 1 3 _ rfl) rfl ?_);clear S;intro v2 a w4 hv2 hk3 hn2 S
   subst hv2
   refine Vu S Hv rfl rfl fun a S=>Va S rfl rfl fun a S=>Dl (Fc h (S.tm rfl) (fun hb2 h=>?_) (fun hb2 h=>?_))
   ·refine Fr (Vk S rfl rfl fun a S=>Dl (wp_ret (Ga (Ec (Ec ?_)))))
    obtain rfl:=Option.some.inj h
    exact Eu S results121 rfl rfl
   ·refine Fr (Vf PK S rfl rfl fun a S=>Vl isAgg9 0 S rfl rfl rfl rfl ?_);clear S;intro a S
    obtain ⟨r1,hr1,h⟩:=Fd h
    refine Ei S (fun _=>Ea (vs:=[sV Ac.Id]) ⟨(S.tm rfl),trivial⟩ call87) (Ja _ Ac.Id _ hr1) rfl ?_;clear S;intro v3 a w5 hv3 hk4 hn3 S
    subst hv3
    refine Vu S Hv rfl rfl fun a S=>Va S rfl rfl fun a S=>Ld ?_
    replace S:=(S.nl [.blk b1 (Li.enc Ac) 102] [true] rfl).k2 1 13 rfl
    refine Tn (Fc h (S.tm rfl) (fun hb3 h=>?_) (fun hb3 h=>?_))
    ·refine Fr (Vk S rfl rfl fun a S=>Dl (wp_ret (Ga (Ec (Ec ?_)))))
     obtain rfl:=Option.some.inj h
     exact Eu S results121 rfl rfl
    ·refine Fr (Vf GP S rfl rfl fun a S=>Vl isAgg3 0 S rfl rfl rfl rfl fun a S=>Vq S Lf rfl rfl rfl fun a S=>Va S rfl rfl fun a S=>Dl ?_)
     obtain ⟨j2,hj2,h⟩:=Ey h
     refine Es (fun a w'=>j2 = some r ∧ Sx w [] nov [] [] 64 a w') ?_ ?_
     ·refine Fc h (S.tm rfl) (fun hb4 h=>?_) (fun hb4 h=>?_)
      ·refine Fr (lv S (Fk isAgg102 sizeOf102 (off:=0) (o:=0) (part:=(Li.enc Ac)) rfl rfl (S.tm rfl) (S.cellsAt (i:=0) rfl)) rfl fun a S=>Vf PJ S rfl rfl fun a S=>Vl isAgg3 0 S rfl rfl rfl rfl fun a S=>Vf GP S rfl rfl fun a S=>Vl isAgg3 0 S rfl rfl rfl rfl fun a S=>Vf PK S rfl rfl fun a S=>Vl isAgg9 0 S rfl rfl rfl rfl fun a S=>lv S (Nl XF (pv:=[(0,iV Ac.At),(1,iV Ac.Kind),(2,sV Ac.Id)]) ⟨rfl,(S.tm rfl),rfl,(S.tm rfl),rfl,(S.tm rfl),trivial⟩ (cs:=[iV Ac.At,iV Ac.Kind,sV Ac.Id,sV An,sV An,sV An,iV 0,iV 0]) (by kernel_rfl)) rfl fun a S=>lv S (RN (m:=Ac) (n:=(Li.mk Ac.At Ac.Kind Ac.Id An An An 0 0)) (S.tm rfl) (S.tm rfl)) rfl ?_);clear S;intro a S
       refine Ld ?_
       replace S:=S.n0.k1 30 rfl
       refine Tn (Fc h (S.tm rfl) (fun hb5 h=>?_) (fun hb5 h=>?_))
       ·refine Fr (Vk S rfl rfl fun a S=>Dl (wp_ret (Ec (Ga (Ec (Ec ?_))))))
        obtain rfl:=Option.some.inj h
        exact Eu S results121 rfl rfl
       ·exact wp_skip (Tn (⟨h,S.nf [] rfl trivial⟩))
      ·refine Fr (Vf WY S rfl rfl fun a S=>Vl isAgg9 0 S rfl rfl rfl rfl ?_);clear S;intro a S
       obtain ⟨r2,hr2,h⟩:=Fd h
       refine Ei S (fun _=>Ea (vs:=[sV Ac.Who]) ⟨(S.tm rfl),trivial⟩ call87) (Ja _ Ac.Who _ hr2) rfl ?_;clear S;intro v4 a w7 hv4 hk5 hn4 S
       subst hv4
       refine Vu S Hv rfl rfl fun a S=>Vm S rfl rfl ?_;clear S;intro a S
       obtain ⟨j3,hj3,h⟩:=Ey h
       refine Ib 5 (fun a w'=>∃ c1,j3 c1 = some r ∧ Keep [] w7 w' ∧ Sx w [] nov [.blk b1 (Li.enc Ac) 102] [(1,.pointer (some ⟨b1,0,none⟩)),(41,bV c1)] 64 a w') ?_ ?_
       ·rcases Bool.eq_false_or_eq_true (!r2) with hb6 | hb6
        ·replace h:=Rg h hb6
         iterate 4 (refine Hh S rfl rfl rfl (Nm hb6) rfl ?_ rfl;clear S;intro a S)
         exact Vq S (Lj true hb6) rfl rfl rfl fun a S=>Dl (⟨_,h,Keep.refl _ _,S.nf [true] rfl (subR rfl)⟩)
        ·replace h:=Rh h hb6
         refine Ef S rfl rfl rfl hb6 (Vf PL S rfl rfl fun a S=>Ef S rfl rfl rfl hb6 (Vl isAgg9 0 S rfl rfl rfl rfl fun a S=>Ef S rfl rfl rfl hb6 ?_))
         obtain ⟨r3,hr3,h⟩:=Fd h
         refine Ei S (fun _=>Ea (vs:=[sV Ac.Race]) ⟨(S.tm rfl),trivial⟩ call87) (Ja _ Ac.Race _ hr3) rfl ?_;clear S;intro v5 a w9 hv5 hk6 hn5 S
         subst hv5
         exact Ef S rfl rfl rfl hb6 (Vu S Hv rfl rfl fun a S=>lv S (Lk hb6 (S.tm rfl) (S.tm rfl)) rfl fun a S=>Dl (⟨_,h,hk6,S.nf [true] rfl (subR rfl)⟩))
       clear S h;rintro a w8 ⟨c1,h,hk7,S⟩;rw [hj3] at h;clear hj3 j3
       refine Vm S rfl rfl ?_;clear S;intro a S
       obtain ⟨j4,hj4,h⟩:=Ey h
       refine Ib 10 (fun a w'=>∃ c2,j4 c2 = some r ∧ Keep [] w8 w' ∧ Sx w [] nov [.blk b1 (Li.enc Ac) 102] [(1,.pointer (some ⟨b1,0,none⟩)),(52,bV c2)] 64 a w') ?_ ?_
       ·rcases Bool.eq_false_or_eq_true c1 with hb7 | hb7
        ·replace h:=Rg h hb7
         iterate 4 (refine Hh S rfl rfl rfl (Nm hb7) rfl ?_ rfl;clear S;intro a S)
         iterate 4 (refine BF S rfl rfl rfl rfl ?_;clear S;intro a S)
         exact Hh S rfl rfl rfl (Nm hb7) rfl (fun a S=>Vq S (Lj true hb7) rfl rfl rfl fun a S=>Dl (⟨_,h,Keep.refl _ _,S.nf [true] rfl (subR rfl)⟩)) rfl
        ·replace h:=Rh h hb7
         refine Ef S rfl rfl rfl hb7 (Vf JV S rfl rfl fun a S=>Ef S rfl rfl rfl hb7 (Vl isAgg9 0 S rfl rfl rfl rfl fun a S=>Ef S rfl rfl rfl hb7 (Vq S Zt rfl rfl rfl fun a S=>Ef S rfl rfl rfl hb7 (Vm S rfl rfl ?_))));clear S;intro a S
         obtain ⟨j5,hj5,h⟩:=Ey h
         refine Ib 5 (fun a w'=>∃ c3,j5 c3 = some r ∧ Keep [] w8 w' ∧ Sx w [] nov [.blk b1 (Li.enc Ac) 102] [(1,.pointer (some ⟨b1,0,none⟩)),(42,bV c1),(51,bV c3)] 64 a w') ?_ ?_
         ·rcases Bool.eq_false_or_eq_true (!decide (Ac.Club = An)) with hb8 | hb8
          ·replace h:=Rg h hb8
           refine Ef S rfl rfl rfl hb8 (Vf JV S rfl rfl fun a S=>Ef S rfl rfl rfl hb8 (Vl isAgg9 0 S rfl rfl rfl rfl fun a S=>Ef S rfl rfl rfl hb8 ?_))
           obtain ⟨r4,hr4,h⟩:=Fd h
           refine Ei S (fun _=>Ea (vs:=[sV Ac.Club]) ⟨(S.tm rfl),trivial⟩ call87) (Ja _ Ac.Club _ hr4) rfl ?_;clear S;intro v6 a w12 hv6 hk8 hn6 S
           subst hv6
           exact Ef S rfl rfl rfl hb8 (Vu S Hv rfl rfl fun a S=>Ef S rfl rfl rfl hb7 (lv S (Hz hb8 (S.tm rfl) (S.tm rfl)) rfl fun a S=>Dl (⟨_,h,hk8,S.nf [true] rfl (subR rfl)⟩)))
          ·replace h:=Rh h hb8
           iterate 4 (refine Hh S rfl rfl rfl (Jw hb8) rfl ?_ rfl;clear S;intro a S)
           exact Ef S rfl rfl rfl hb7 (Vq S (Ia true hb8) rfl rfl rfl fun a S=>Dl (⟨_,h,Keep.refl _ _,S.nf [true] rfl (subR rfl)⟩))
         clear S h;rintro a w11 ⟨c3,h,hk9,S⟩;rw [hj5] at h;clear hj5 j5
         exact lv S (Lk hb7 (S.tm rfl) (S.tm rfl)) rfl fun a S=>Dl (⟨_,h,hk9,S.nf [true] rfl (subR rfl)⟩)
       clear S h;rintro a w10 ⟨c2,h,hk10,S⟩;rw [hj4] at h;clear hj4 j4
       refine Va S rfl rfl fun a S=>Dl (Fc h (S.tm rfl) (fun hb9 h=>?_) (fun hb9 h=>?_))
       ·refine Fr (Vk S rfl rfl fun a S=>Dl (wp_ret (Ec (Ga (Ec (Ec ?_))))))
        obtain rfl:=Option.some.inj h
        exact Eu S results121 rfl rfl
       ·refine Fr (Vf PM S rfl rfl fun a S=>Vl isAgg3 0 S rfl rfl rfl rfl fun a S=>Ei S (fun _=>Ea (vs:=[iV Ac.Age,iV 0,iV 150]) ⟨(S.tm rfl),rfl,rfl,trivial⟩ call67) (Ge _ Ac.Age 0 150 _ rfl) rfl ?_);clear S;intro v7 a w13 hv7 hk11 hn7 S
        subst hv7
        refine Vu S Hv rfl rfl fun a S=>Vm S rfl rfl fun a S=>Ib 5 (fun a w'=>Keep [] w13 w' ∧ Sx w [] nov [.blk b1 (Li.enc Ac) 102] [(63,bV ((!(Ed Ac.Age 0 150)) || (!(Sm Ac.Time))))] 64 a w') ?_ ?_
        ·rcases Bool.eq_false_or_eq_true (!(Ed Ac.Age 0 150)) with hb10 | hb10
         ·iterate 4 (refine Hh S rfl rfl rfl (Nm hb10) rfl ?_ rfl;clear S;intro a S)
          exact lv S (Lj (!(Sm Ac.Time)) hb10 (S.tm rfl) rfl) rfl fun a S=>Dl (⟨Keep.refl _ _,S.nf [true] rfl ⟨rfl,trivial⟩⟩)
         ·refine Ef S rfl rfl rfl hb10 (Vf WZ S rfl rfl fun a S=>Ef S rfl rfl rfl hb10 (Vl isAgg3 0 S rfl rfl rfl rfl fun a S=>Ef S rfl rfl rfl hb10 (Ei S (fun _=>Ea (vs:=[iV Ac.Time]) ⟨(S.tm rfl),trivial⟩ call75) (Xs _ Ac.Time _ rfl) rfl ?_)));clear S;intro v8 a w15 hv8 hk12 hn8 S
          subst hv8
          exact Ef S rfl rfl rfl hb10 (Vu S Hv rfl rfl fun a S=>lv S (Lk hb10 (S.tm rfl) (S.tm rfl)) rfl fun a S=>Dl (⟨hk12,S.nf [true] rfl ⟨rfl,trivial⟩⟩))
        clear S;rintro a w14 ⟨hk13,S⟩
        refine Va S rfl rfl fun a S=>Dl (Fc h (S.tm rfl) (fun hb11 h=>?_) (fun hb11 h=>?_))
        ·refine Fr (Vk S rfl rfl fun a S=>Dl (wp_ret (Ec (Ga (Ec (Ec ?_))))))
         obtain rfl:=Option.some.inj h
         exact Eu S results121 rfl rfl
        ·exact wp_skip (Tn (⟨h,S.nf [false] rfl trivial⟩))
     clear S h;rintro a w6 ⟨h,S⟩;rw [hj2] at h;clear hj2 j2
     exact Hn (Tn (⟨h,S.nf [] rfl trivial⟩))
 clear S h;rintro a w2 ⟨h,S⟩;rw [hj1] at h;clear hj1 j1
 refine Tn (Fr (Vk S rfl rfl fun a S=>Dl (wp_ret ?_)))
 obtain rfl:=Option.some.inj h
 exact Eu S results121 rfl rfl
theorem EW (w : World) (Av : Li) (r : Int) (h : Xq Av = some r) :
    Calls prog 78 [.agg (Li.enc Av).toArray].toArray w (Ret w [] fun _ v _=>v = iV r):=by
 refine Fe func78 rfl ntmps78 rfl fun a S=>?_
 unfold Xq at h
 replace S:=S.k1 0 rfl
 refine Fr (Mx S (S.tm rfl) (cs:=(Li.enc Av)) rfl rfl ?_);clear S;intro a w1 b1 hz1 hk1 S
 refine Vk S rfl rfl fun a S=>Dl (Fs (Fr (lv S (Fk isAgg102 sizeOf102 (off:=0) (o:=0) (part:=(Li.enc Av)) rfl rfl (S.tm rfl) (S.cellsAt (i:=0) rfl)) rfl ?_)));clear S;intro a S
 obtain ⟨r1,hr1,h⟩:=Fd h
 refine Ei S (fun _=>Ea (vs:=[.agg (Li.enc Av).toArray]) ⟨(S.tm rfl),trivial⟩ call121) (EV _ Av _ hr1) rfl ?_;clear S;intro v1 a w2 hv1 hk2 hn1 S
 subst hv1
 refine Va S rfl rfl fun a S=>Dz (Vm S rfl rfl fun a S=>Vq S Lf rfl rfl rfl fun a S=>Dl (Fc h (S.tm rfl) (fun hb1 h=>?_) (fun hb1 h=>?_)))
 ·refine Fr (Vm S rfl rfl fun a S=>Va S rfl rfl fun a S=>Dl (wp_ret (Ec ?_)))
  obtain rfl:=Option.some.inj h
  exact Eu S results78 rfl rfl
 ·refine wp_skip (Tn (Fs (Fr (Vf GP S rfl rfl fun a S=>Vl isAgg3 0 S rfl rfl rfl rfl fun a S=>Vq S Lf rfl rfl rfl fun a S=>Dl (Fc h (S.tm rfl) (fun hb2 h=>?_) (fun hb2 h=>?_))))))
  ·refine Fr (Vk S rfl rfl fun a S=>Dl (wp_ret (Ec ?_)))
   obtain rfl:=Option.some.inj h
   exact Eu S results78 rfl rfl
  ·refine wp_skip (Tn (Fr (Vk S rfl rfl fun a S=>Dl (wp_ret ?_))))
   obtain rfl:=Option.some.inj h
   exact Eu S results78 rfl rfl
theorem BV (w : World) (Ax : Value) (Av : List ByteArray) (Bg : Slc (view w []) 1 Ax (Av.map EN)) (Cc : ByteArray) (r : Int) (h : Vr Av Cc = r) :
    Calls prog 150 [Ax,sV Cc].toArray w (Ret w [] fun _ v _=>v = iV r):=by
 refine Fe func150 rfl ntmps150 rfl fun a S=>?_
 unfold Vr at h
 replace S:=S.k2 0 1 rfl
 refine Fr (Vk S rfl rfl fun a S=>Dl (Fs (Fr (Vm S rfl rfl fun a S=>lv S (Fq AM (S.tm rfl) (Fm Bg)) rfl fun a S=>lv S (Rm rfl) rfl ?_))));clear S;intro a S
 refine Dl ?_
 replace S:=S.k4 0 1 7 8 rfl
 obtain ⟨j1,hj1,h⟩:=Ey h
 refine Es (fun a w'=>j1 = r ∧ Sx w [] nov [] [] 19 a w') ?_ ?_
 ·refine wp_block (Gz (fun (ys1 : List ByteArray) a w'=>∃ i1 : Nat,(∃ dn,Av = dn ++ ys1 ∧ dn.length = i1) ∧ Lv Cc j1 ys1 i1 = r ∧ Sx w [] nov [] [(0,Ax),(1,sV Cc),(7,iV (Av.length : Int)),(8,iV (i1 : Int))] 19 a w') List.length Av ⟨0,⟨[],rfl,rfl⟩,h,S.nf [] rfl (subR rfl)⟩ ?_)
  clear S h;rintro ys1 a w1 ⟨i1,⟨dn,hd1,hi1⟩,h,S⟩
  cases ys1 with
  | nil =>
   rw [Lv.eq_1] at h
   refine Fr (Vb S Ev rfl rfl rfl fun a S=>Ld ?_)
   replace S:=S.k5 0 1 7 8 9 rfl
   exact Tn (Fs (wp_cond_false ((S.tm rfl).trans (congrArg Value.bool (Im hd1 hi1))) (wp_exit (Ep (Ep (Gr (Tn (⟨h,S.nf [] rfl trivial⟩))))))))
  | cons y1 ys1 =>
   rw [Lv.eq_2] at h
   refine Fr (Vb S Ev rfl rfl rfl fun a S=>Ld ?_)
   replace S:=S.k5 0 1 7 8 9 rfl
   refine Tn (Fs (wp_cond_true ((S.tm rfl).trans (congrArg Value.bool (Hr hd1 hi1))) (wp_skip (Tn (Fs (wp_block (Fr (Vm S rfl rfl fun a S=>Va S rfl rfl ?_))))))));clear S;intro a S
   refine Dl (Fs (Fg ?_))
   iterate 3 (refine Vm S rfl rfl ?_;clear S;intro a S)
   obtain ⟨b1,o1,hm1,hr1⟩:=Fh (a:=a) (x:=.tmp 12) (y:=.tmp 13) (ty:=0) AM Bg (Iv hd1 hi1) rfl (S.tm rfl) (S.tm rfl)
   refine lv S (hr1 _) rfl ?_;clear S;intro a S
   clear hr1
   refine lv S (Ic isAgg9 (off:=o1) (o:=0) (S.tm rfl) (hm1.at S.emb0) rfl) rfl fun a S=>Vb S Xw rfl rfl rfl fun a S=>Dl (Fc h (S.tm rfl) (fun hb1 h=>?_) (fun hb1 h=>?_))
   ·refine Fr (Vm S rfl rfl fun a S=>Va S rfl rfl fun a S=>Ld ?_)
    replace S:=S.k1 4 rfl
    refine Tn (wp_ret (Ga (Ec (Ec (Ga (Ec (Ec ?_)))))))
    subst h
    exact Eu S results150 rfl rfl
   ·exact wp_skip (Hn (Tn (Fg (Vq S Gf rfl rfl rfl fun a S=>Vm S rfl rfl fun a S=>Dl (⟨ys1,⟨i1 + 1,⟨_,(hd1).trans (List.append_cons _ _ _),by simp [hi1]⟩,h,S.nf [] rfl ⟨rfl,rfl,rfl,(congrArg (fun z=>some (Value.int .i64 z)) (Hs hd1 hi1 (Jg Bg))),trivial⟩⟩,Nat.lt_succ_self _⟩)))))
 clear S h;rintro a w2 ⟨h,S⟩;rw [hj1] at h;clear hj1 j1
 refine Tn (Fr (Vk S rfl rfl fun a S=>Dl (wp_ret ?_)))
 subst h
 exact Eu S results150 rfl rfl
theorem Zq (w : World) (Ax : Value) (Av : List ByteArray) (Bg : Slc (view w []) 1 Ax (Av.map EN)) (Cc : ByteArray) (r : Bool) (h : Km Av Cc = r) :
    Calls prog 122 [Ax,sV Cc].toArray w (Ret w [] fun _ v _=>v = bV r):=by
 refine Fe func122 rfl ntmps122 rfl fun a S=>?_
 unfold Km at h
 replace S:=S.k2 0 1 rfl
 refine Fr (Vk S rfl rfl fun a S=>Dz (Vm S rfl rfl fun a S=>Vm S rfl rfl fun a S=>Ei S (fun _=>Ea (vs:=[Ax,sV Cc]) ⟨(S.tm rfl),(S.tm rfl),trivial⟩ call150) (BV _ Ax Av (Bg.mono (S.le_arg Er)) Cc _ rfl) rfl ?_));clear S;intro v1 a w1 hv1 hk1 hn1 S
 subst hv1
 refine Vq S Rt rfl rfl rfl fun a S=>Va S rfl rfl fun a S=>Dl (wp_ret ?_)
 subst h
 exact Eu S results122 rfl rfl
theorem JC (w : World) (Bq : Vw) (Dt : R99) (Dw : CX (view w []) Bq Dt) (Av : Li) (r : Bool) (h : BN Bq Av = r) :
    Calls prog 79 [.agg (R99.enc Dt).toArray,.agg (Li.enc Av).toArray].toArray w (Ret w [] fun _ v _=>v = bV r):=by
 obtain ⟨u1,rfl,hs1⟩:=Dw
 refine Fe func79 rfl ntmps79 rfl fun a S=>?_
 unfold BN at h
 replace S:=S.k2 0 1 rfl
 refine Fr (Mx S (S.tm rfl) (cs:=[sV Bq.Key,sV Bq.Race,u1.val,iV Bq.Young,iV Bq.Old]) rfl rfl ?_);clear S;intro a w1 b1 hz1 hk1 S
 refine Mx S (S.tm rfl) (cs:=(Li.enc Av)) rfl rfl ?_;clear S;intro a w2 b2 hz2 hk2 S
 refine Vk S rfl rfl fun a S=>Dz (Vf PL S rfl rfl fun a S=>Vl isAgg9 0 S rfl rfl rfl rfl fun a S=>Vf TJ S rfl rfl fun a S=>Vl isAgg9 1 S rfl rfl rfl rfl fun a S=>Vb S Xw rfl rfl rfl fun a S=>Vm S rfl rfl ?_);clear S;intro a S
 refine Ib 12 (fun a w'=>Keep [] w2 w' ∧ Sx w [] nov [.blk b2 (Li.enc Av) 102,.blk b1 [sV Bq.Key,sV Bq.Race,u1.val,iV Bq.Young,iV Bq.Old] 99] [(2,.pointer (some ⟨b1,0,none⟩)),(3,.pointer (some ⟨b2,0,none⟩)),(22,bV ((decide (Av.Race = Bq.Race)) && ((decide ((Bq.Clubs.length : Int) = 0)) || (Km Bq.Clubs Av.Club))))] 32 a w') ?_ ?_
 ·rcases Bool.eq_false_or_eq_true (decide (Av.Race = Bq.Race)) with hb1 | hb1
  ·refine Ef S rfl rfl rfl hb1 (Vf GO S rfl rfl fun a S=>Ef S rfl rfl rfl hb1 (Vl isAgg95 1 S rfl rfl rfl rfl fun a S=>Ef S rfl rfl rfl hb1 (lv S (Fq AM (S.tm rfl) (Fm hs1)) rfl fun a S=>Ef S rfl rfl rfl hb1 (Vq S Jh rfl rfl rfl fun a S=>Ef S rfl rfl rfl hb1 (Vm S rfl rfl fun a S=>Ib 6 (fun a w'=>Keep [] w2 w' ∧ Sx w [] nov [.blk b2 (Li.enc Av) 102,.blk b1 [sV Bq.Key,sV Bq.Race,u1.val,iV Bq.Young,iV Bq.Old] 99] [(2,.pointer (some ⟨b1,0,none⟩)),(3,.pointer (some ⟨b2,0,none⟩)),(10,bV (decide (Av.Race = Bq.Race))),(21,bV ((decide ((Bq.Clubs.length : Int) = 0)) || (Km Bq.Clubs Av.Club)))] 32 a w') ?_ ?_)))))
   ·rcases Bool.eq_false_or_eq_true (decide ((Bq.Clubs.length : Int) = 0)) with hb2 | hb2
    ·iterate 5 (refine Hh S rfl rfl rfl (Nm hb2) rfl ?_ rfl;clear S;intro a S)
     exact Ef S rfl rfl rfl hb1 (lv S (Lj (Km Bq.Clubs Av.Club) hb2 (S.tm rfl) rfl) rfl fun a S=>Dl (⟨Keep.refl _ _,S.nf [true,true] rfl (subR rfl)⟩))
    ·refine Ef S rfl rfl rfl hb2 (Vf GO S rfl rfl fun a S=>Ef S rfl rfl rfl hb2 (Vl isAgg95 1 S rfl rfl rfl rfl fun a S=>Ef S rfl rfl rfl hb2 (Vf JV S rfl rfl fun a S=>Ef S rfl rfl rfl hb2 (Vl isAgg9 0 S rfl rfl rfl rfl fun a S=>Ef S rfl rfl rfl hb2 (Ei S (fun _=>Ea (vs:=[u1.val,sV Av.Club]) ⟨(S.tm rfl),(S.tm rfl),trivial⟩ call122) (Zq _ u1.val Bq.Clubs (hs1.mono (S.le_arg Er)) Av.Club _ rfl) rfl ?_)))));clear S;intro v1 a w5 hv1 hk3 hn1 S
     subst hv1
     exact Ef S rfl rfl rfl hb1 (lv S (Lk hb2 (S.tm rfl) (S.tm rfl)) rfl fun a S=>Dl (⟨hk3,S.nf [true,true] rfl (subR rfl)⟩))
   clear S;rintro a w4 ⟨hk4,S⟩
   exact lv S (Hz hb1 (S.tm rfl) (S.tm rfl)) rfl fun a S=>Dl (⟨hk4,S.nf [true,true] rfl (subR rfl)⟩)
  ·iterate 5 (refine Hh S rfl rfl rfl (Jw hb1) rfl ?_ rfl;clear S;intro a S)
   iterate 5 (refine BF S rfl rfl rfl rfl ?_;clear S;intro a S)
   exact Hh S rfl rfl rfl (Jw hb1) rfl (fun a S=>lv S (Ia ((decide ((Bq.Clubs.length : Int) = 0)) || (Km Bq.Clubs Av.Club)) hb1 (S.tm rfl) rfl) rfl fun a S=>Dl (⟨Keep.refl _ _,S.nf [true,true] rfl (subR rfl)⟩)) rfl
 clear S;rintro a w3 ⟨hk5,S⟩
 refine Vm S rfl rfl fun a S=>Ib 8 (fun a w'=>Keep [] w3 w' ∧ Sx w [] nov [.blk b2 (Li.enc Av) 102,.blk b1 [sV Bq.Key,sV Bq.Race,u1.val,iV Bq.Young,iV Bq.Old] 99] [(31,bV (((decide (Av.Race = Bq.Race)) && ((decide ((Bq.Clubs.length : Int) = 0)) || (Km Bq.Clubs Av.Club))) && (Ed Av.Age Bq.Young Bq.Old)))] 32 a w') ?_ ?_
 ·rcases Bool.eq_false_or_eq_true ((decide (Av.Race = Bq.Race)) && ((decide ((Bq.Clubs.length : Int) = 0)) || (Km Bq.Clubs Av.Club))) with hb3 | hb3
  ·refine Ef S rfl rfl rfl hb3 (Vf PM S rfl rfl fun a S=>Ef S rfl rfl rfl hb3 (Vl isAgg3 0 S rfl rfl rfl rfl fun a S=>Ef S rfl rfl rfl hb3 (Vf OB S rfl rfl fun a S=>Ef S rfl rfl rfl hb3 (Vl isAgg3 1 S rfl rfl rfl rfl fun a S=>Ef S rfl rfl rfl hb3 (Vf OC S rfl rfl fun a S=>Ef S rfl rfl rfl hb3 ?_)))))
   refine Vl isAgg3 1 S rfl rfl rfl rfl fun a S=>Ef S rfl rfl rfl hb3 (Ei S (fun _=>Ea (vs:=[iV Av.Age,iV Bq.Young,iV Bq.Old]) ⟨(S.tm rfl),(S.tm rfl),(S.tm rfl),trivial⟩ call67) (Ge _ Av.Age Bq.Young Bq.Old _ rfl) rfl ?_);clear S;intro v2 a w7 hv2 hk6 hn2 S
   subst hv2
   exact lv S (Hz hb3 (S.tm rfl) (S.tm rfl)) rfl fun a S=>Dl (⟨hk6,S.nf [true,true] rfl ⟨rfl,trivial⟩⟩)
  ·iterate 7 (refine Hh S rfl rfl rfl (Jw hb3) rfl ?_ rfl;clear S;intro a S)
   exact lv S (Ia (Ed Av.Age Bq.Young Bq.Old) hb3 (S.tm rfl) rfl) rfl fun a S=>Dl (⟨Keep.refl _ _,S.nf [true,true] rfl ⟨rfl,trivial⟩⟩)
 clear S;rintro a w6 ⟨hk7,S⟩
 refine Va S rfl rfl fun a S=>Dl (wp_ret ?_)
 subst h
 exact Eu S results79 rfl rfl
theorem LS (w : World) (Ab : Value) (Ae : List Vw) (Dc : List R99) (Ag : Slc (view w []) 5 Ab (Dc.map R99.enc)) (Cs : Mg (CX (view w [])) Ae Dc) (Av : Li) (r : (List ByteArray) × Int) (h : FK Ae Av = some r) :
    Calls prog 34 [Ab,.agg (Li.enc Av).toArray].toArray w (Ret w [] fun τ v _=>∃ u1 : Value,v = .tuple #[u1,iV r.2] ∧ Up τ 9 1 u1 r.1.length (r.1.flatMap EN)):=by
 refine Fe func34 rfl ntmps34 rfl fun a S=>?_
 unfold FK at h
 replace S:=S.k2 0 1 rfl
 refine Fr (Mx S (S.tm rfl) (cs:=(Li.enc Av)) rfl rfl ?_);clear S;intro a w1 b1 hz1 hk1 S
 refine Vk S rfl rfl fun a S=>Vk S rfl rfl fun a S=>Dl (Fs (Fr (Vm S rfl rfl ?_)));clear S;intro a S
 obtain ⟨r1,hr1,h⟩:=Fd h
 refine Ei S (fun _=>Ea (vs:=[Ab]) ⟨(S.tm rfl),trivial⟩ call77) (DQ _ Ab Ae Dc (Ag.mono (S.le_arg Er)) (TC (S.le_arg Er) Cs) _ hr1) rfl ?_;clear S;intro v1 a w2 hv1 hk2 hn1 S
 subst hv1
 refine Va S rfl rfl fun a S=>Dz (Vm S rfl rfl fun a S=>Vq S Lf rfl rfl rfl fun a S=>Dl (Fc h (S.tm rfl) (fun hb1 h=>?_) (fun hb1 h=>?_)))
 ·refine Fr (Vm S rfl rfl fun a S=>Vk S rfl rfl fun a S=>Va S rfl rfl fun a S=>Dl (wp_ret (Ec ?_)))
  obtain rfl:=Option.some.inj h
  exact Ln S results34 rfl rfl ⟨_,rfl,(Oz _ _ _)⟩
 ·refine wp_skip (Tn (Fs (Fr (lv S (Fk isAgg102 sizeOf102 (off:=0) (o:=0) (part:=(Li.enc Av)) rfl rfl (S.tm rfl) (S.cellsAt (i:=0) rfl)) rfl ?_))));clear S;intro a S
  obtain ⟨r2,hr2,h⟩:=Fd h
  refine Ei S (fun _=>Ea (vs:=[.agg (Li.enc Av).toArray]) ⟨(S.tm rfl),trivial⟩ call78) (EW _ Av _ hr2) rfl ?_;clear S;intro v2 a w3 hv2 hk3 hn2 S
  subst hv2
  refine Va S rfl rfl fun a S=>Dz (Vm S rfl rfl fun a S=>Vq S Lf rfl rfl rfl fun a S=>Ld ?_)
  replace S:=(S.nl [.blk b1 (Li.enc Av) 102] [true] rfl).k4 0 3 7 19 rfl
  refine Tn (Fc h (S.tm rfl) (fun hb2 h=>?_) (fun hb2 h=>?_))
  ·refine Fr (Vm S rfl rfl fun a S=>Vk S rfl rfl fun a S=>Va S rfl rfl fun a S=>Dl (wp_ret (Ec ?_)))
   obtain rfl:=Option.some.inj h
   exact Ln S results34 rfl rfl ⟨_,rfl,(Oz _ _ _)⟩
  ·refine wp_skip (Tn (Fr (Vk S rfl rfl ?_)));clear S;intro a S
   replace S:=S.nil 9 1
   refine Dl (Fs (Fr (Vm S rfl rfl fun a S=>lv S (Fq HU (S.tm rfl) (Vv Ag Cs)) rfl fun a S=>lv S (Rm rfl) rfl fun a S=>Dl ?_)))
   replace S:=(S.nl [.own (.slice none 0 0) 9 1 ([] : List ByteArray).length (([] : List ByteArray).flatMap EN),.blk b1 (Li.enc Av) 102] [true,true] rfl).k5 3 8 21 22 23 rfl
   obtain ⟨j1,hj1,h⟩:=Ey h
   refine Es (fun a w'=>∃ x1 : List ByteArray,∃ v3 : Value,j1 x1 = some r ∧ Sx w [] nov [.own v3 9 1 x1.length (x1.flatMap EN),.blk b1 (Li.enc Av) 102] [(8,v3)] 37 a w') ?_ ?_
   ·refine wp_block (Gz (fun (ys1 : List Vw) a w'=>∃ i1 : Nat,∃ x1 : List ByteArray,∃ v3 : Value,(∃ dn,Ae = dn ++ ys1 ∧ dn.length = i1) ∧ Rb Av j1 ys1 i1 x1 = some r ∧ Sx w [] nov [.own v3 9 1 x1.length (x1.flatMap EN),.blk b1 (Li.enc Av) 102] [(3,.pointer (some ⟨b1,0,none⟩)),(8,v3),(21,Ab),(22,iV (Ae.length : Int)),(23,iV (i1 : Int))] 37 a w') List.length Ae ⟨0,([] : List ByteArray),(.slice none 0 0),⟨[],rfl,rfl⟩,h,S.nf [true,true] rfl (subR rfl)⟩ ?_)
    clear S h;rintro ys1 a w4 ⟨i1,x1,v3,⟨dn,hd1,hi1⟩,h,S⟩
    cases ys1 with
    | nil =>
     rw [Rb.eq_1] at h
     refine Fr (Vb S Ev rfl rfl rfl fun a S=>Ld ?_)
     replace S:=S.k6 3 8 21 22 23 24 rfl
     exact Tn (Fs (wp_cond_false ((S.tm rfl).trans (congrArg Value.bool (Im hd1 hi1))) (wp_exit (Ep (Ep (Gr (Tn (⟨x1,v3,h,S.nf [true,true] rfl ⟨rfl,trivial⟩⟩))))))))
    | cons y1 ys1 =>
     rw [Rb.eq_2] at h
     refine Fr (Vb S Ev rfl rfl rfl fun a S=>Ld ?_)
     replace S:=S.k6 3 8 21 22 23 24 rfl
     refine Tn (Fs (wp_cond_true ((S.tm rfl).trans (congrArg Value.bool (Hr hd1 hi1))) (wp_skip (Tn (Fs ?_)))))
     obtain ⟨j2,hj2,h⟩:=Ey h
     refine Es (fun a w'=>∃ x2 : List ByteArray,∃ v4 : Value,j2 x2 = some r ∧ Sx w [] nov [.own v4 9 1 x2.length (x2.flatMap EN),.blk b1 (Li.enc Av) 102] [(3,.pointer (some ⟨b1,0,none⟩)),(8,v4),(21,Ab),(22,iV (Ae.length : Int)),(23,iV (i1 : Int))] 37 a w') ?_ ?_
     ·refine wp_block (Fs (Fg ?_))
      obtain ⟨r3,hg1,hl1⟩:=Mg.at Cs (Iv hd1 hi1)
      obtain ⟨u1,rfl,hs1⟩:=hl1
      obtain ⟨b2,o1,hm1,hr3⟩:=Fh (a:=a) (x:=.tmp 21) (y:=.tmp 23) (ty:=0) HU Ag hg1 rfl (S.tm rfl) (S.tm rfl)
      refine lv S (hr3 _) rfl ?_;clear S;intro a S
      clear hr3
      refine lv S (Fk isAgg99 sizeOf99 (off:=o1) (o:=0) (part:=[sV y1.Key,sV y1.Race,u1.val,iV y1.Young,iV y1.Old]) rfl rfl (S.tm rfl) (hm1.at S.emb0)) rfl fun a S=>Hu S zeroValue99 (cs:=[sV An,sV An,.slice none 0 0,iV 0,iV 0]) rfl rfl ?_;clear S;intro a w7 b3 hz2 hk4 S
      refine Fj S (S.tm rfl) (S.tm rfl) (i:=0) (off:=0) rfl sizeOf99 (vs:=[sV y1.Key,sV y1.Race,u1.val,iV y1.Young,iV y1.Old]) rfl rfl rfl (Qn rfl (Qn rfl (Qn (Ku.one (Fm hs1)) (Qn rfl (Qn rfl rfl))))) ?_;clear S;intro w8 hk5 S
      refine Dz (lv S (Fk isAgg99 sizeOf99 (off:=0) (o:=0) (part:=[sV y1.Key,sV y1.Race,u1.val,iV y1.Young,iV y1.Old]) rfl rfl (S.tm rfl) (S.cellsAt (i:=0) rfl)) rfl fun a S=>lv S (Fk isAgg102 sizeOf102 (off:=0) (o:=0) (part:=(Li.enc Av)) rfl rfl (S.tm rfl) (S.cellsAt (i:=2) rfl)) rfl fun a S=>Ei S (fun _=>Ea (vs:=[.agg (R99.enc (R99.mk y1.Key y1.Race u1 y1.Young y1.Old)).toArray,.agg (Li.enc Av).toArray]) ⟨(S.tm rfl),(S.tm rfl),trivial⟩ call79) (JC _ y1 (R99.mk y1.Key y1.Race u1 y1.Young y1.Old) ⟨u1,rfl,(hs1.mono (S.le_arg Er))⟩ Av _ rfl) rfl ?_);clear S;intro v5 a w9 hv3 hk6 hn3 S
      subst hv3
      refine Dl ?_
      obtain ⟨j3,hj3,h⟩:=Ey h
      refine Es (fun a w'=>∃ x3 : List ByteArray,∃ v6 : Value,j3 x3 = some r ∧ Sx w [] nov [.own v6 9 1 x3.length (x3.flatMap EN),.blk b1 (Li.enc Av) 102] [(3,.pointer (some ⟨b1,0,none⟩)),(8,v6),(21,Ab),(22,iV (Ae.length : Int)),(23,iV (i1 : Int))] 37 a w') ?_ ?_
      ·refine Fc h (S.tm rfl) (fun hb3 h=>?_) (fun hb3 h=>?_)
       ·refine Fg (Vm S rfl rfl fun a S=>Vf JM S rfl rfl fun a S=>Vl isAgg9 0 S rfl rfl rfl rfl fun a S=>Ff S underlying95 sizeOf9 zeroValue9 rfl rfl (pv:=[(0,sV y1.Key)]) ⟨rfl,(S.tm rfl),trivial⟩ (cs:=[sV y1.Key]) (by kernel_rfl) rfl ?_);clear S;intro a w11 b4 hz3 hk7 S
        obtain ⟨hc1,h⟩:=Ij h
        refine Np AM Uj S (S.tm rfl) (i:=2) rfl (S.tm rfl) (j:=0) rfl (ys:=[y1.Key]) rfl rfl rfl rfl (by have:=Ob hc1;omega) rfl ?_;clear S;intro v7 a w12 hk8 S
        refine Va S rfl rfl fun a S=>Ld ?_
        replace S:=(S.nl [.own v7 9 1 (x1 ++ [y1.Key]).length ((x1 ++ [y1.Key]).flatMap EN),.blk b1 (Li.enc Av) 102] [false,false,true,true] rfl).k5 3 8 21 22 23 rfl
        exact Tn (⟨(x1 ++ [y1.Key]),v7,h,S.nf [true,true] rfl (subR rfl)⟩)
       ·exact wp_skip (Tn (⟨x1,v3,h,S.nf [false,true,true] rfl (subR rfl)⟩))
      clear S h;rintro a w10 ⟨x3,v6,h,S⟩;rw [hj3] at h;clear hj3 j3
      exact Hn (Tn (⟨x3,v6,h,S.nf [true,true] rfl (subR rfl)⟩))
     clear S h;rintro a w6 ⟨x2,v4,h,S⟩;rw [hj2] at h;clear hj2 j2
     exact Tn (Fg (Vq S Gf rfl rfl rfl fun a S=>Vm S rfl rfl fun a S=>Dl (⟨ys1,⟨i1 + 1,x2,v4,⟨_,(hd1).trans (List.append_cons _ _ _),by simp [hi1]⟩,h,S.nf [true,true] rfl ⟨rfl,rfl,rfl,rfl,(congrArg (fun z=>some (Value.int .i64 z)) (Hs hd1 hi1 (Yf Ag Cs))),trivial⟩⟩,Nat.lt_succ_self _⟩)))
   clear S h;rintro a w5 ⟨x1,v3,h,S⟩;rw [hj1] at h;clear hj1 j1
   refine Tn (Fr (Vm S rfl rfl fun a S=>Va S rfl rfl fun a S=>Vk S rfl rfl fun a S=>Dl (wp_ret ?_)))
   obtain rfl:=Option.some.inj h
   exact Ln S results34 rfl rfl ⟨_,rfl,(Tt S (i:=0) rfl rfl)⟩
theorem GY (w : World) (Ab : Value) (Ae : List Int) (Ag : Slc (view w []) 1 Ab (Ae.map eInt)) (r : Int) (h : Nx Ae = r) :
    Calls prog 35 [Ab].toArray w (Ret w [] fun _ v _=>v = iV r):=by
 refine Fe func35 rfl ntmps35 rfl fun a S=>?_
 unfold Nx at h
 replace S:=S.k1 0 rfl
 refine Fr (Vk S rfl rfl fun a S=>Dl (Fs (Fr (Vm S rfl rfl fun a S=>lv S (Fq WX (S.tm rfl) (Fm Ag)) rfl fun a S=>lv S (Rm rfl) rfl ?_))));clear S;intro a S
 refine Dl ?_
 replace S:=S.k3 5 6 7 rfl
 obtain ⟨j1,hj1,h⟩:=Ey h
 refine Es (fun a w'=>j1 = r ∧ Sx w [] nov [] [] 15 a w') ?_ ?_
 ·refine wp_block (Gz (fun (ys1 : List Int) a w'=>∃ i1 : Nat,(∃ dn,Ae = dn ++ ys1 ∧ dn.length = i1) ∧ Oj j1 ys1 i1 = r ∧ Sx w [] nov [] [(5,Ab),(6,iV (Ae.length : Int)),(7,iV (i1 : Int))] 15 a w') List.length Ae ⟨0,⟨[],rfl,rfl⟩,h,S.nf [] rfl (subR rfl)⟩ ?_)
  clear S h;rintro ys1 a w1 ⟨i1,⟨dn,hd1,hi1⟩,h,S⟩
  cases ys1 with
  | nil =>
   rw [Oj.eq_1] at h
   refine Fr (Vb S Ev rfl rfl rfl fun a S=>Ld ?_)
   replace S:=S.k4 5 6 7 8 rfl
   exact Tn (Fs (wp_cond_false ((S.tm rfl).trans (congrArg Value.bool (Im hd1 hi1))) (wp_exit (Ep (Ep (Gr (Tn (⟨h,S.nf [] rfl trivial⟩))))))))
  | cons y1 ys1 =>
   rw [Oj.eq_2] at h
   refine Fr (Vb S Ev rfl rfl rfl fun a S=>Ld ?_)
   replace S:=S.k4 5 6 7 8 rfl
   refine Tn (Fs (wp_cond_true ((S.tm rfl).trans (congrArg Value.bool (Hr hd1 hi1))) (wp_skip (Tn (Fs (wp_block (Fs (Fg ?_))))))))
   obtain ⟨b1,o1,hm1,hr1⟩:=Fh (a:=a) (x:=.tmp 5) (y:=.tmp 7) (ty:=0) WX Ag (Iv hd1 hi1) rfl (S.tm rfl) (S.tm rfl)
   refine lv S (hr1 _) rfl ?_;clear S;intro a S
   clear hr1
   refine lv S (Ic isAgg36 (off:=o1) (o:=0) (S.tm rfl) (hm1.at S.emb0) rfl) rfl fun a S=>Va S rfl rfl fun a S=>Dz (Vm S rfl rfl fun a S=>Vq S Lf rfl rfl rfl fun a S=>Dl (Fc h (S.tm rfl) (fun hb1 h=>?_) (fun hb1 h=>?_)))
   ·refine Fr (Vm S rfl rfl fun a S=>Va S rfl rfl fun a S=>Dl (wp_ret (Ga (Ec (Ec (Ga ?_))))))
    refine Ec (Ec ?_)
    subst h
    exact Eu S results35 rfl rfl
   ·exact wp_skip (Hn (Tn (Fg (Vq S Gf rfl rfl rfl fun a S=>Vm S rfl rfl fun a S=>Dl (⟨ys1,⟨i1 + 1,⟨_,(hd1).trans (List.append_cons _ _ _),by simp [hi1]⟩,h,S.nf [] rfl ⟨rfl,rfl,(congrArg (fun z=>some (Value.int .i64 z)) (Hs hd1 hi1 (Jg Ag))),trivial⟩⟩,Nat.lt_succ_self _⟩)))))
 clear S h;rintro a w2 ⟨h,S⟩;rw [hj1] at h;clear hj1 j1
 refine Tn (Fr (Vk S rfl rfl fun a S=>Dl (wp_ret ?_)))
 subst h
 exact Eu S results35 rfl rfl
theorem FT (w : World) (r : Bool) (h : We = some r) :
    Calls prog 15 [].toArray w (Ret w [] fun _ v _=>v = bV r):=by
 refine Fe func15 rfl ntmps15 rfl fun a S=>?_
 unfold We at h
 replace S:=S.k0
 refine Fr (Vk S rfl rfl fun a S=>Dz (lv S (Nl bt_86 (pv:=[(0,iV 2024),(1,iV 3),(2,iV 1)]) ⟨rfl,rfl,rfl,rfl,rfl,rfl,trivial⟩ (cs:=[iV 2024,iV 3,iV 1]) (by kernel_rfl)) rfl ?_));clear S;intro a S
 obtain ⟨r1,hr1,h⟩:=Fd h
 refine Ei S (fun _=>Ea (vs:=[.agg (Nq.enc (Nq.mk 2024 3 1)).toArray]) ⟨(S.tm rfl),trivial⟩ call31) (IA _ (Nq.mk 2024 3 1) _ hr1) rfl ?_;clear S;intro v1 a w1 hv1 hk1 hn1 S
 subst hv1
 refine Vm S rfl rfl fun a S=>Vq S Fy rfl rfl rfl fun a S=>Vq S Fy rfl rfl rfl fun a S=>Va S rfl rfl fun a S=>Va S rfl rfl fun a S=>Dz (lv S (Nl bt_89 (pv:=[(0,sV k_a),(1,iV 2),(2,iV 10),(3,iV 5)]) ⟨rfl,rfl,rfl,rfl,rfl,rfl,rfl,rfl,trivial⟩ (cs:=[sV k_a,iV 2,iV 10,iV 5,iV 0]) (by kernel_rfl)) rfl fun a S=>Ff S underlying90 sizeOf89 zeroValue89 rfl rfl (pv:=[(0,.agg #[sV k_a,iV 2,iV 10,iV 5,iV 0])]) ⟨rfl,(S.tm rfl),trivial⟩ (cs:=[sV k_a,iV 2,iV 10,iV 5,iV 0]) (by kernel_rfl) rfl ?_);clear S;intro a w2 b1 hz1 hk2 S
 obtain ⟨r2,hr2,h⟩:=Fd h
 refine Ei S (fun _=>Ea (vs:=[.slice (some ⟨b1,0,none⟩) 1 1,iV 0]) ⟨(S.tm rfl),rfl,trivial⟩ call32) (JB _ (.slice (some ⟨b1,0,none⟩) 1 1) [(Ov.mk k_a 2 10 5 0)] (Kv Ov.enc_ok S (i:=0) rfl rfl rfl rfl ((Ie (e':=.blk b1 [sV k_a,iV 2,iV 10,iV 5,iV 0] 89)) _ rfl)) 0 _ hr2) rfl ?_;clear S;intro v2 a w3 hv2 hk3 hn2 S
 subst hv2
 refine Vm S rfl rfl fun a S=>Vq S Fy rfl rfl rfl fun a S=>Vq S Fy rfl rfl rfl fun a S=>Va S rfl rfl fun a S=>Va S rfl rfl fun a S=>Ld ?_
 replace S:=S.n0.k4 1 2 3 4 rfl
 refine Tn (Fr (lv S (Nl bt_93 (pv:=[(0,sV k_r),(1,iV 3000)]) ⟨rfl,rfl,rfl,rfl,trivial⟩ (cs:=[sV k_r,iV 3000]) (by kernel_rfl)) rfl fun a S=>Ff S underlying94 sizeOf93 zeroValue93 rfl rfl (pv:=[(0,.agg #[sV k_r,iV 3000])]) ⟨rfl,(S.tm rfl),trivial⟩ (cs:=[sV k_r,iV 3000]) (by kernel_rfl) rfl ?_));clear S;intro a w4 b2 hz2 hk4 S
 obtain ⟨r3,hr3,h⟩:=Fd h
 refine Ei S (fun _=>Ea (vs:=[.slice (some ⟨b2,0,none⟩) 1 1,sV k_r,iV 6000]) ⟨(S.tm rfl),rfl,rfl,trivial⟩ call33) (IE _ (.slice (some ⟨b2,0,none⟩) 1 1) [(Sp.mk k_r 3000)] (Kv Sp.enc_ok S (i:=0) rfl rfl rfl rfl ((Ie (e':=.blk b2 [sV k_r,iV 3000] 93)) _ rfl)) k_r 6000 _ hr3) rfl ?_;clear S;intro v3 a w5 hv3 hk5 hn3 S
 subst hv3
 refine Vm S rfl rfl fun a S=>Vq S Fy rfl rfl rfl fun a S=>Vq S Fy rfl rfl rfl fun a S=>Va S rfl rfl fun a S=>Va S rfl rfl fun a S=>Dz (lv S (Nl bt_99 (pv:=[(0,sV k_k),(1,sV k_r),(4,iV 9)]) ⟨rfl,rfl,rfl,rfl,rfl,rfl,trivial⟩ (cs:=[sV k_k,sV k_r,.slice none 0 0,iV 0,iV 9]) (by kernel_rfl)) rfl fun a S=>Ff S underlying100 sizeOf99 zeroValue99 rfl rfl (pv:=[(0,.agg #[sV k_k,sV k_r,.slice none 0 0,iV 0,iV 9])]) ⟨rfl,(S.tm rfl),trivial⟩ (cs:=[sV k_k,sV k_r,.slice none 0 0,iV 0,iV 9]) (by kernel_rfl) rfl ?_);clear S;intro a w6 b3 hz3 hk6 S
 refine lv S (Nl XF (pv:=[(1,iV 1),(2,sV k_i),(3,sV k_a),(5,sV k_r),(7,iV 5)]) ⟨rfl,rfl,rfl,rfl,rfl,rfl,rfl,rfl,rfl,rfl,trivial⟩ (cs:=[iV 0,iV 1,sV k_i,sV k_a,sV An,sV k_r,iV 0,iV 5]) (by kernel_rfl)) rfl ?_;clear S;intro a S
 have hr4 : Mg (CX nov) ([(Vw.mk k_k k_r ([] : List ByteArray) 0 9)] : List Vw) ([(R99.mk k_k k_r ⟨.slice none 0 0,rfl⟩ 0 9)] : List R99):=(Mg.cons ⟨⟨.slice none 0 0,rfl⟩,rfl,(GC _ _)⟩ Mg.nil)
 replace S:=S.litOwn (i:=0) (xs:=([(R99.mk k_k k_r ⟨.slice none 0 0,rfl⟩ 0 9)] : List R99)) rfl R99.enc_ok rfl rfl rfl
 replace S:=S.nk [.own (.slice (some ⟨b3,0,none⟩) 1 1) 99 5 ([(R99.mk k_k k_r ⟨.slice none 0 0,rfl⟩ 0 9)] : List R99).length (([(R99.mk k_k k_r ⟨.slice none 0 0,rfl⟩ 0 9)] : List R99).flatMap R99.enc),.blk b2 [sV k_r,iV 3000] 93] [(1,iV r1.1),(2,iV r1.2),(3,iV r2.1),(4,iV r2.2),(5,iV r3.1),(6,iV r3.2),(20,.tuple #[iV r3.1,iV r3.2]),(21,.agg #[sV k_r,iV 3000]),(22,.slice (some ⟨b2,0,none⟩) 1 1),(23,.tuple #[iV r3.1,iV r3.2]),(24,iV r3.1),(25,iV r3.2),(27,.agg #[sV k_k,sV k_r,.slice none 0 0,iV 0,iV 9]),(28,(.slice (some ⟨b3,0,none⟩) 1 1)),(29,.agg (Li.enc (Li.mk 0 1 k_i k_a An k_r 0 5)).toArray)] [] rfl (subR rfl)
 obtain ⟨r4,hr5,h⟩:=Fd h
 have hz4:=S.keep.size
 refine Ei S (fun _=>Ea (vs:=[(.slice (some ⟨b3,0,none⟩) 1 1),.agg (Li.enc (Li.mk 0 1 k_i k_a An k_r 0 5)).toArray]) ⟨(S.tm rfl),(S.tm rfl),trivial⟩ call34) (LS _ (.slice (some ⟨b3,0,none⟩) 1 1) ([(Vw.mk k_k k_r ([] : List ByteArray) 0 9)] : List Vw) ([(R99.mk k_k k_r ⟨.slice none 0 0,rfl⟩ 0 9)] : List R99) (CN R99.enc_ok S (i:=0) rfl (Ie (e':=.own (.slice (some ⟨b3,0,none⟩) 1 1) 99 5 ([(R99.mk k_k k_r ⟨.slice none 0 0,rfl⟩ 0 9)] : List R99).length (([(R99.mk k_k k_r ⟨.slice none 0 0,rfl⟩ 0 9)] : List R99).flatMap R99.enc)))) (TC (S.le_new Er) hr4) (Li.mk 0 1 k_i k_a An k_r 0 5) _ hr5) rfl ?_;clear S;intro v4 a w7 hv4 hk7 hn4 S
 obtain ⟨u1,rfl,ho1⟩:=hv4
 obtain ⟨φ1,hl1,hm1,S⟩:=S.see' hn4 hz4
 have hs1:=ho1.mono hm1
 refine Vm S rfl rfl fun a S=>Vq S Fy rfl rfl rfl fun a S=>Vq S Fy rfl rfl rfl fun a S=>Va S rfl rfl fun a S=>Va S rfl rfl fun a S=>Ld ?_
 replace S:=S.n0.k8 1 2 3 4 5 6 7 8 rfl
 refine Tn (Fs (Fg ?_))
 iterate 4 (refine Vm S rfl rfl ?_;clear S;intro a S)
 refine Ff S underlying154 sizeOf36 zeroValue36 rfl rfl (pv:=[(0,iV r1.2),(1,iV r2.2),(2,iV r3.2),(3,iV r4.2)]) ⟨rfl,(S.tm rfl),rfl,(S.tm rfl),rfl,(S.tm rfl),rfl,(S.tm rfl),trivial⟩ (cs:=[iV r1.2,iV r2.2,iV r3.2,iV r4.2]) (by kernel_rfl) rfl ?_;clear S;intro a w8 b4 hz5 hk8 S
 refine Ei S (fun _=>Ea (vs:=[.slice (some ⟨b4,0,none⟩) 4 4]) ⟨(S.tm rfl),trivial⟩ call35) (GY _ (.slice (some ⟨b4,0,none⟩) 4 4) [r1.2,r2.2,r3.2,r4.2] (Kv Jb S (i:=0) rfl rfl rfl rfl ((Ie (e':=.blk b4 [iV r1.2,iV r2.2,iV r3.2,iV r4.2] 36)) _ rfl)) _ rfl) rfl ?_;clear S;intro v5 a w9 hv5 hk9 hn5 S
 subst hv5
 refine Vq S Jh rfl rfl rfl fun a S=>Vm S rfl rfl fun a S=>Ib 3 (fun a w'=>Keep [] w9 w' ∧ Sx w [] φ1 [.blk b4 [iV r1.2,iV r2.2,iV r3.2,iV r4.2] 36] [(3,iV r2.1),(5,iV r3.1),(7,u1),(43,bV ((decide ((Nx [r1.2,r2.2,r3.2,r4.2]) = 0)) && (decide (r1.1 = 60))))] 57 a w') ?_ ?_
 ·rcases Bool.eq_false_or_eq_true (decide ((Nx [r1.2,r2.2,r3.2,r4.2]) = 0)) with hb1 | hb1
  ·exact Ef S rfl rfl rfl hb1 (Vm S rfl rfl fun a S=>Ef S rfl rfl rfl hb1 (Vq S Jh rfl rfl rfl fun a S=>lv S (Hz hb1 (S.tm rfl) (S.tm rfl)) rfl fun a S=>Dl (⟨Keep.refl _ _,S.nf [true] rfl (subR rfl)⟩)))
  ·exact Hh S rfl rfl rfl (Jw hb1) rfl (fun a S=>Hh S rfl rfl rfl (Jw hb1) rfl (fun a S=>lv S (Ia (decide (r1.1 = 60)) hb1 (S.tm rfl) rfl) rfl fun a S=>Dl (⟨Keep.refl _ _,S.nf [true] rfl (subR rfl)⟩)) rfl) rfl
 clear S;rintro a w10 ⟨hk10,S⟩
 refine Vm S rfl rfl fun a S=>Ib 3 (fun a w'=>Keep [] w10 w' ∧ Sx w [] φ1 [.blk b4 [iV r1.2,iV r2.2,iV r3.2,iV r4.2] 36] [(5,iV r3.1),(7,u1),(47,bV (((decide ((Nx [r1.2,r2.2,r3.2,r4.2]) = 0)) && (decide (r1.1 = 60))) && (decide (r2.1 = 25))))] 57 a w') ?_ ?_
 ·rcases Bool.eq_false_or_eq_true ((decide ((Nx [r1.2,r2.2,r3.2,r4.2]) = 0)) && (decide (r1.1 = 60))) with hb2 | hb2
  ·exact Ef S rfl rfl rfl hb2 (Vm S rfl rfl fun a S=>Ef S rfl rfl rfl hb2 (Vq S Jh rfl rfl rfl fun a S=>lv S (Hz hb2 (S.tm rfl) (S.tm rfl)) rfl fun a S=>Dl (⟨Keep.refl _ _,S.nf [true] rfl (subR rfl)⟩)))
  ·exact Hh S rfl rfl rfl (Jw hb2) rfl (fun a S=>Hh S rfl rfl rfl (Jw hb2) rfl (fun a S=>lv S (Ia (decide (r2.1 = 25)) hb2 (S.tm rfl) rfl) rfl fun a S=>Dl (⟨Keep.refl _ _,S.nf [true] rfl (subR rfl)⟩)) rfl) rfl
 clear S;rintro a w11 ⟨hk11,S⟩
 refine Vm S rfl rfl fun a S=>Ib 3 (fun a w'=>Keep [] w11 w' ∧ Sx w [] φ1 [.blk b4 [iV r1.2,iV r2.2,iV r3.2,iV r4.2] 36] [(7,u1),(51,bV ((((decide ((Nx [r1.2,r2.2,r3.2,r4.2]) = 0)) && (decide (r1.1 = 60))) && (decide (r2.1 = 25))) && (decide (r3.1 = 125))))] 57 a w') ?_ ?_
 ·rcases Bool.eq_false_or_eq_true (((decide ((Nx [r1.2,r2.2,r3.2,r4.2]) = 0)) && (decide (r1.1 = 60))) && (decide (r2.1 = 25))) with hb3 | hb3
  ·exact Ef S rfl rfl rfl hb3 (Vm S rfl rfl fun a S=>Ef S rfl rfl rfl hb3 (Vq S Jh rfl rfl rfl fun a S=>lv S (Hz hb3 (S.tm rfl) (S.tm rfl)) rfl fun a S=>Dl (⟨Keep.refl _ _,S.nf [true] rfl (subR rfl)⟩)))
  ·exact Hh S rfl rfl rfl (Jw hb3) rfl (fun a S=>Hh S rfl rfl rfl (Jw hb3) rfl (fun a S=>lv S (Ia (decide (r3.1 = 125)) hb3 (S.tm rfl) rfl) rfl fun a S=>Dl (⟨Keep.refl _ _,S.nf [true] rfl (subR rfl)⟩)) rfl) rfl
 clear S;rintro a w12 ⟨hk12,S⟩
 refine Vm S rfl rfl fun a S=>Ib 4 (fun a w'=>Keep [] w12 w' ∧ Sx w [] φ1 [.blk b4 [iV r1.2,iV r2.2,iV r3.2,iV r4.2] 36] [(56,bV (((((decide ((Nx [r1.2,r2.2,r3.2,r4.2]) = 0)) && (decide (r1.1 = 60))) && (decide (r2.1 = 25))) && (decide (r3.1 = 125))) && (decide ((r4.1.length : Int) = 1))))] 57 a w') ?_ ?_
 ·rcases Bool.eq_false_or_eq_true ((((decide ((Nx [r1.2,r2.2,r3.2,r4.2]) = 0)) && (decide (r1.1 = 60))) && (decide (r2.1 = 25))) && (decide (r3.1 = 125))) with hb4 | hb4
  ·exact Ef S rfl rfl rfl hb4 (Vm S rfl rfl fun a S=>Ef S rfl rfl rfl hb4 (lv S (Fq AM (S.tm rfl) (Fm (Hg Uj hs1))) rfl fun a S=>Ef S rfl rfl rfl hb4 (Vq S Jh rfl rfl rfl fun a S=>lv S (Hz hb4 (S.tm rfl) (S.tm rfl)) rfl fun a S=>Dl (⟨Keep.refl _ _,S.nf [true] rfl ⟨rfl,trivial⟩⟩))))
  ·iterate 3 (refine Hh S rfl rfl rfl (Jw hb4) rfl ?_ rfl;clear S;intro a S)
   exact lv S (Ia (decide ((r4.1.length : Int) = 1)) hb4 (S.tm rfl) rfl) rfl fun a S=>Dl (⟨Keep.refl _ _,S.nf [true] rfl ⟨rfl,trivial⟩⟩)
 clear S;rintro a w13 ⟨hk13,S⟩
 refine Va S rfl rfl fun a S=>Dl (wp_ret ?_)
 obtain rfl:=Option.some.inj h
 exact Eu S results15 rfl rfl
theorem BW (w : World) (Ab : Value) (Ae : List Int) (Ag : Slc (view w []) 1 Ab (Ae.map eInt)) (r : Bool) (h : Sw Ae = some r) :
    Calls prog 3 [Ab].toArray w (Ret w [] fun _ v _=>v = bV r):=by
 refine Fe func3 rfl ntmps3 rfl fun a S=>?_
 unfold Sw at h
 replace S:=S.k1 0 rfl
 refine Fr (Vk S rfl rfl fun a S=>Dz (Vm S rfl rfl ?_));clear S;intro a S
 refine lv S (Nl bt_25 (pv:=[(0,Ab)]) ⟨rfl,(S.tm rfl),trivial⟩ (cs:=[Ab,iV 0]) (by obtain ⟨_,_,hv⟩:=(Fm Ag);rw [hv];clear hv;kernel_rfl)) rfl ?_;clear S;intro a S
 refine Mx S (S.tm rfl) (cs:=[Ab,iV 0]) rfl rfl ?_;clear S;intro a w1 b1 hz1 hk1 S
 refine Vm S rfl rfl ?_;clear S;intro a S
 refine lv S (Nl bt_25 (pv:=[(0,Ab)]) ⟨rfl,(S.tm rfl),trivial⟩ (cs:=[Ab,iV 0]) (by obtain ⟨_,_,hv⟩:=(Fm Ag);rw [hv];clear hv;kernel_rfl)) rfl ?_;clear S;intro a S
 refine Mx S (S.tm rfl) (cs:=[Ab,iV 0]) rfl rfl ?_;clear S;intro a w2 b2 hz2 hk2 S
 refine Va S rfl rfl fun a S=>Va S rfl rfl fun a S=>Dz (Vm S rfl rfl ?_);clear S;intro a S
 obtain ⟨r1,hr1,h⟩:=Fd h
 have hz3:=S.keep.size
 refine Hx 1 S (b:=b1) rfl rfl (fun _=>.blk b1 [Ab,iV r1.2] 25) (fun _=>Ea (vs:=[.pointer (some ⟨b1,0,none⟩)]) ⟨(S.tm rfl),trivial⟩ call4) (Ys _ b1 Ab Ae (Ag.mono (S.le_arg (Ji (i:=1) (e:=.blk b1 [Ab,iV 0] 25) rfl))) 0 (S.holds _ (List.mem_of_getElem? (i:=1) rfl)) _ hr1) rfl (fun _ _ _ h=>⟨h.1,fun _ hc=>by cases hc;rfl⟩) ?_;clear S;intro v1 a w3 hv1 hk3 hn1 S
 replace hv1:=hv1.2
 obtain ⟨q1,rfl,hq1⟩:=hv1
 obtain ⟨φ1,hl1,hm1,S⟩:=S.see' hn1 hz3
 obtain ⟨u2,u3,rfl,hs1,⟨u4,rfl,hs2⟩⟩:=Yi hm1 _ _ hq1
 refine Vm S rfl rfl ?_;clear S;intro a S
 obtain ⟨r2,hr2,h⟩:=Fd h
 have hz4:=S.keep.size
 refine Hx 1 S (b:=b1) rfl rfl (fun _=>.blk b1 [Ab,iV r2.2] 25) (fun _=>Ea (vs:=[.pointer (some ⟨b1,0,none⟩),iV 12]) ⟨(S.tm rfl),rfl,trivial⟩ call5) (Yl _ b1 Ab Ae (Ag.mono (S.le_arg (Ji (i:=1) (e:=.blk b1 [Ab,iV r1.2] 25) rfl))) r1.2 (S.holds _ (List.mem_of_getElem? (i:=1) rfl)) 12 _ hr2) rfl (fun _ _ _ h=>⟨h.1,fun _ hc=>by cases hc;rfl⟩) ?_;clear S;intro v2 a w4 hv2 hk4 hn2 S
 replace hv2:=hv2.2
 obtain ⟨φ2,hl2,hm2,S⟩:=S.see' hn2 hz4
 have hs3:=hv2.mono hm2
 refine Hu S zeroValue32 (cs:=[.slice none 0 0,.slice none 0 0,iV 0,iV 0,iV 0,iV 0,iV 0]) rfl rfl ?_;clear S;intro a w5 b3 hz5 hk5 S
 refine Fj S (S.tm rfl) (S.tm rfl) (i:=0) (off:=0) rfl sizeOf32 (vs:=[u2.val,u4.val,iV r1.1.Table.Relay,iV r1.1.Table.Most,iV r1.1.Final.Size,iV r1.1.Final.Many,iV r1.1.Final.Reserves]) rfl rfl rfl (Qn (Ku.one (Fm hs1)) (Qn (Ku.one (Fm hs2)) (Qn rfl (Qn rfl (Qn rfl (Qn rfl (Qn rfl rfl))))))) ?_;clear S;intro w6 hk6 S
 refine Va S rfl rfl fun a S=>Ld ?_
 replace S:=(S.nl [.blk b3 [u2.val,u4.val,iV r1.1.Table.Relay,iV r1.1.Table.Most,iV r1.1.Final.Size,iV r1.1.Final.Many,iV r1.1.Final.Reserves] 32,.blk b2 [Ab,iV 0] 25] [true,true,false] rfl).k3 4 5 6 rfl
 refine Tn (Fr (Vm S rfl rfl ?_));clear S;intro a S
 obtain ⟨r3,hr3,h⟩:=Fd h
 have hz6:=S.keep.size
 refine Hx 1 S (b:=b2) rfl rfl (fun _=>.blk b2 [Ab,iV r3.2] 25) (fun _=>Ea (vs:=[.pointer (some ⟨b2,0,none⟩)]) ⟨(S.tm rfl),trivial⟩ call4) (Ys _ b2 Ab Ae (Ag.mono (S.le_arg (Ji (i:=1) (e:=.blk b2 [Ab,iV 0] 25) rfl))) 0 (S.holds _ (List.mem_of_getElem? (i:=1) rfl)) _ hr3) rfl (fun _ _ _ h=>⟨h.1,fun _ hc=>by cases hc;rfl⟩) ?_;clear S;intro v3 a w7 hv3 hk7 hn3 S
 replace hv3:=hv3.2
 obtain ⟨q2,rfl,hq2⟩:=hv3
 obtain ⟨φ3,hl3,hm3,S⟩:=S.see' hn3 hz6
 obtain ⟨u7,u8,rfl,hs4,⟨u9,rfl,hs5⟩⟩:=Yi hm3 _ _ hq2
 refine Vm S rfl rfl ?_;clear S;intro a S
 obtain ⟨r4,hr4,h⟩:=Fd h
 have hz7:=S.keep.size
 refine Hx 1 S (b:=b2) rfl rfl (fun _=>.blk b2 [Ab,iV r4.2] 25) (fun _=>Ea (vs:=[.pointer (some ⟨b2,0,none⟩),iV 12]) ⟨(S.tm rfl),rfl,trivial⟩ call5) (Yl _ b2 Ab Ae (Ag.mono (S.le_arg (Ji (i:=1) (e:=.blk b2 [Ab,iV r3.2] 25) rfl))) r3.2 (S.holds _ (List.mem_of_getElem? (i:=1) rfl)) 12 _ hr4) rfl (fun _ _ _ h=>⟨h.1,fun _ hc=>by cases hc;rfl⟩) ?_;clear S;intro v4 a w8 hv4 hk8 hn4 S
 replace hv4:=hv4.2
 obtain ⟨φ4,hl4,hm4,S⟩:=S.see' hn4 hz7
 have hs6:=hv4.mono hm4
 refine Hu S zeroValue32 (cs:=[.slice none 0 0,.slice none 0 0,iV 0,iV 0,iV 0,iV 0,iV 0]) rfl rfl ?_;clear S;intro a w9 b4 hz8 hk9 S
 refine Fj S (S.tm rfl) (S.tm rfl) (i:=0) (off:=0) rfl sizeOf32 (vs:=[u7.val,u9.val,iV r3.1.Table.Relay,iV r3.1.Table.Most,iV r3.1.Final.Size,iV r3.1.Final.Many,iV r3.1.Final.Reserves]) rfl rfl rfl (Qn (Ku.one (Fm hs4)) (Qn (Ku.one (Fm hs5)) (Qn rfl (Qn rfl (Qn rfl (Qn rfl (Qn rfl rfl))))))) ?_;clear S;intro w10 hk10 S
 refine Va S rfl rfl fun a S=>Dz (Vm S rfl rfl ?_);clear S;intro a S
 obtain ⟨r5,hr5,h⟩:=Fd h
 have hz9:=S.keep.size
 refine Ei S (fun _=>Ea (vs:=[v2,.slice none 0 0]) ⟨(S.tm rfl),rfl,trivial⟩ call6) (LL _ v2 r2.1 ((Hg Dx.enc_ok hs3).mono (View.le_trans (View.le_trans hl3 hl4) (S.le_new Er))) (.slice none 0 0) ([] : List Dx) (GC _ _) _ hr5) rfl ?_;clear S;intro v5 a w11 hv5 hk11 hn5 S
 obtain ⟨u11,rfl,ho5⟩:=hv5
 replace S:=S.take hn5 hz9 ho5
 refine Vm S rfl rfl fun a S=>Vq S Fy rfl rfl rfl fun a S=>Vq S Fy rfl rfl rfl fun a S=>Va S rfl rfl fun a S=>Va S rfl rfl fun a S=>Ld ?_
 replace S:=(S.nl [.own u11 41 11 r5.1.length (r5.1.flatMap Dx.enc),.blk b4 [u7.val,u9.val,iV r3.1.Table.Relay,iV r3.1.Table.Most,iV r3.1.Final.Size,iV r3.1.Final.Many,iV r3.1.Final.Reserves] 32,.blk b3 [u2.val,u4.val,iV r1.1.Table.Relay,iV r1.1.Table.Most,iV r1.1.Final.Size,iV r1.1.Final.Many,iV r1.1.Final.Reserves] 32] [true,true,true,false] rfl).k5 5 6 7 8 9 rfl
 refine Tn (Fr (Vm S rfl rfl ?_));clear S;intro a S
 obtain ⟨r6,hr6,h⟩:=Fd h
 refine Mr 0 S rfl (fun _=>.own u11 41 11 r6.length (r6.flatMap Dx.enc)) (fun _=>Ea (vs:=[u11]) ⟨(S.tm rfl),trivial⟩ call7) (AR _ u11 r5.1 (S.holds _ (List.mem_of_getElem? (i:=0) rfl)) _ hr6) rfl (fun _ _ _ h=>⟨h.1,fun _ hc=>hc⟩) ?_;clear S;intro v6 a w12 hv6 hk12 hn6 S
 replace hv6:=hv6.2
 subst hv6
 refine Dl (Fs (Fr (Vf Xc S rfl rfl fun a S=>Vl isAgg26 2 S rfl rfl rfl rfl fun a S=>lv S (Fq Th (S.tm rfl) (Fm hs1)) rfl fun a S=>lv S (Rm rfl) rfl fun a S=>Dl ?_)))
 replace S:=(S.nl [.blk b4 [u7.val,u9.val,iV r3.1.Table.Relay,iV r3.1.Table.Most,iV r3.1.Final.Size,iV r3.1.Final.Many,iV r3.1.Final.Reserves] 32,.blk b3 [u2.val,u4.val,iV r1.1.Table.Relay,iV r1.1.Table.Most,iV r1.1.Final.Size,iV r1.1.Final.Many,iV r1.1.Final.Reserves] 32] [false,true,true] rfl).k7 5 6 7 8 39 40 41 rfl
 obtain ⟨j1,hj1,h⟩:=Ey h
 refine Es (fun a w'=>j1 = some r ∧ Sx w [] φ4 [.blk b4 [u7.val,u9.val,iV r3.1.Table.Relay,iV r3.1.Table.Most,iV r3.1.Final.Size,iV r3.1.Final.Many,iV r3.1.Final.Reserves] 32,.blk b3 [u2.val,u4.val,iV r1.1.Table.Relay,iV r1.1.Table.Most,iV r1.1.Final.Size,iV r1.1.Final.Many,iV r1.1.Final.Reserves] 32] [(5,.pointer (some ⟨b3,0,none⟩)),(6,v2),(7,.pointer (some ⟨b4,0,none⟩)),(8,v4)] 86 a w') ?_ ?_
 ·refine wp_block (Gz (fun (ys1 : List Em) a w'=>∃ i1 : Nat,(∃ dn,r1.1.Races = dn ++ ys1 ∧ dn.length = i1) ∧ Jo r1 r2 j1 ys1 i1 = some r ∧ Sx w [] φ4 [.blk b4 [u7.val,u9.val,iV r3.1.Table.Relay,iV r3.1.Table.Most,iV r3.1.Final.Size,iV r3.1.Final.Many,iV r3.1.Final.Reserves] 32,.blk b3 [u2.val,u4.val,iV r1.1.Table.Relay,iV r1.1.Table.Most,iV r1.1.Final.Size,iV r1.1.Final.Many,iV r1.1.Final.Reserves] 32] [(5,.pointer (some ⟨b3,0,none⟩)),(6,v2),(7,.pointer (some ⟨b4,0,none⟩)),(8,v4),(39,u2.val),(40,iV (r1.1.Races.length : Int)),(41,iV (i1 : Int))] 86 a w') List.length r1.1.Races ⟨0,⟨[],rfl,rfl⟩,h,S.nf [true,true] rfl (subR rfl)⟩ ?_)
  clear S h;rintro ys1 a w13 ⟨i1,⟨dn,hd1,hi1⟩,h,S⟩
  cases ys1 with
  | nil =>
   rw [Jo.eq_1] at h
   refine Fr (Vb S Ev rfl rfl rfl fun a S=>Ld ?_)
   replace S:=S.k8 5 6 7 8 39 40 41 42 rfl
   exact Tn (Fs (wp_cond_false ((S.tm rfl).trans (congrArg Value.bool (Im hd1 hi1))) (wp_exit (Ep (Ep (Gr (Tn (⟨h,S.nf [true,true] rfl (subR rfl)⟩))))))))
  | cons y1 ys1 =>
   rw [Jo.eq_2] at h
   refine Fr (Vb S Ev rfl rfl rfl fun a S=>Ld ?_)
   replace S:=S.k8 5 6 7 8 39 40 41 42 rfl
   refine Tn (Fs (wp_cond_true ((S.tm rfl).trans (congrArg Value.bool (Hr hd1 hi1))) (wp_skip (Tn (Fs (wp_block (Fs (Fg ?_))))))))
   obtain ⟨b5,o1,hm5,hr7⟩:=Fh (a:=a) (x:=.tmp 39) (y:=.tmp 41) (ty:=0) Th hs1 (Iv hd1 hi1) rfl (S.tm rfl) (S.tm rfl)
   refine lv S (hr7 _) rfl ?_;clear S;intro a S
   clear hr7
   refine lv S (Fk isAgg43 sizeOf43 (off:=o1) (o:=0) (part:=(Em.enc y1)) rfl rfl (S.tm rfl) ((hm5.mono (View.le_trans (View.le_trans hl2 hl3) hl4)).at S.emb)) rfl fun a S=>Hu S zeroValue43 (cs:=[sV An,iV 0,iV 0,iV 0,iV 0,iV 0,iV 0,iV 0]) rfl rfl ?_;clear S;intro a w15 b6 hz10 hk13 S
   refine Fj S (S.tm rfl) (S.tm rfl) (i:=0) (off:=0) rfl sizeOf43 (vs:=(Em.enc y1)) rfl rfl rfl rfl ?_;clear S;intro w16 hk14 S
   refine Dz (lv S (Fk isAgg32 sizeOf32 (off:=0) (o:=0) (part:=[u2.val,u4.val,iV r1.1.Table.Relay,iV r1.1.Table.Most,iV r1.1.Final.Size,iV r1.1.Final.Many,iV r1.1.Final.Reserves]) rfl rfl (S.tm rfl) (S.cellsAt (i:=2) rfl)) rfl fun a S=>Vm S rfl rfl fun a S=>Vf Ya S rfl rfl fun a S=>Vl isAgg9 0 S rfl rfl rfl rfl ?_);clear S;intro a S
   obtain ⟨r7,hr8,h⟩:=Fd h
   have hz11:=S.keep.size
   refine Ei S (fun _=>Ea (vs:=[.agg (R32.enc (R32.mk u2 (R28.mk u4 r1.1.Table.Relay r1.1.Table.Most) r1.1.Final)).toArray,v2,sV y1.Key,iV 60]) ⟨(S.tm rfl),(S.tm rfl),(S.tm rfl),rfl,trivial⟩ call8) (JA _ r1.1 (R32.mk u2 (R28.mk u4 r1.1.Table.Relay r1.1.Table.Most) r1.1.Final) ⟨u2,(R28.mk u4 r1.1.Table.Relay r1.1.Table.Most),rfl,(hs1.mono (View.le_trans (View.le_trans (View.le_trans hl2 hl3) hl4) (S.le_new Er))),⟨u4,rfl,(hs2.mono (View.le_trans (View.le_trans (View.le_trans hl2 hl3) hl4) (S.le_new Er)))⟩⟩ v2 r2.1 ((Hg Dx.enc_ok hs3).mono (View.le_trans (View.le_trans hl3 hl4) (S.le_new Er))) y1.Key 60 _ hr8) rfl ?_;clear S;intro v7 a w17 hv7 hk15 hn7 S
   obtain ⟨u12,rfl,ho6⟩:=hv7
   replace S:=S.take hn7 hz11 ho6
   refine Vm S rfl rfl fun a S=>Vq S Fy rfl rfl rfl fun a S=>Vq S Fy rfl rfl rfl fun a S=>Va S rfl rfl fun a S=>Va S rfl rfl fun a S=>Ld ?_
   replace S:=(S.nl [.own u12 51 7 r7.1.length (r7.1.flatMap Ih.enc),.blk b4 [u7.val,u9.val,iV r3.1.Table.Relay,iV r3.1.Table.Most,iV r3.1.Final.Size,iV r3.1.Final.Many,iV r3.1.Final.Reserves] 32,.blk b3 [u2.val,u4.val,iV r1.1.Table.Relay,iV r1.1.Table.Most,iV r1.1.Final.Size,iV r1.1.Final.Many,iV r1.1.Final.Reserves] 32] [true,false,true,true] rfl).k8 5 6 7 8 13 39 40 41 rfl
   refine Tn (Fg (Vm S rfl rfl ?_));clear S;intro a S
   obtain ⟨r8,hr9,h⟩:=Fd h
   refine Mr 0 S rfl (fun _=>.own u12 51 7 r8.length (r8.flatMap Ih.enc)) (fun _=>Ea (vs:=[u12]) ⟨(S.tm rfl),trivial⟩ call9) (AU _ u12 r7.1 (S.holds _ (List.mem_of_getElem? (i:=0) rfl)) _ hr9) rfl (fun _ _ _ h=>⟨h.1,fun _ hc=>hc⟩) ?_;clear S;intro v8 a w18 hv8 hk16 hn8 S
   replace hv8:=hv8.2
   subst hv8
   exact Ld (Hn (Tn (Fg (Vq S Gf rfl rfl rfl fun a S=>Vm S rfl rfl fun a S=>Dl (⟨ys1,⟨i1 + 1,⟨_,(hd1).trans (List.append_cons _ _ _),by simp [hi1]⟩,h,S.nf [false,true,true] rfl ⟨rfl,rfl,rfl,rfl,rfl,rfl,(congrArg (fun z=>some (Value.int .i64 z)) (Hs hd1 hi1 (Jg hs1))),trivial⟩⟩,Nat.lt_succ_self _⟩)))))
 clear S h;rintro a w14 ⟨h,S⟩;rw [hj1] at h;clear hj1 j1
 refine Tn (Fr (lv S (Fk isAgg32 sizeOf32 (off:=0) (o:=0) (part:=[u2.val,u4.val,iV r1.1.Table.Relay,iV r1.1.Table.Most,iV r1.1.Final.Size,iV r1.1.Final.Many,iV r1.1.Final.Reserves]) rfl rfl (S.tm rfl) (S.cellsAt (i:=1) rfl)) rfl fun a S=>Vm S rfl rfl ?_));clear S;intro a S
 obtain ⟨r9,hr10,h⟩:=Fd h
 have hz12:=S.keep.size
 refine Ei S (fun _=>Ea (vs:=[.agg (R32.enc (R32.mk u2 (R28.mk u4 r1.1.Table.Relay r1.1.Table.Most) r1.1.Final)).toArray,v2,iV 60]) ⟨(S.tm rfl),(S.tm rfl),rfl,trivial⟩ call10) (LP _ r1.1 (R32.mk u2 (R28.mk u4 r1.1.Table.Relay r1.1.Table.Most) r1.1.Final) ⟨u2,(R28.mk u4 r1.1.Table.Relay r1.1.Table.Most),rfl,(hs1.mono (View.le_trans (View.le_trans (View.le_trans hl2 hl3) hl4) (S.le_new Er))),⟨u4,rfl,(hs2.mono (View.le_trans (View.le_trans (View.le_trans hl2 hl3) hl4) (S.le_new Er)))⟩⟩ v2 r2.1 ((Hg Dx.enc_ok hs3).mono (View.le_trans (View.le_trans hl3 hl4) (S.le_new Er))) 60 _ hr10) rfl ?_;clear S;intro v9 a w19 hv9 hk17 hn9 S
 obtain ⟨u13,rfl,ho7⟩:=hv9
 replace S:=S.take hn9 hz12 ho7
 refine Vm S rfl rfl fun a S=>Vq S Fy rfl rfl rfl fun a S=>Vq S Fy rfl rfl rfl fun a S=>Va S rfl rfl fun a S=>Va S rfl rfl fun a S=>Dz (Vm S rfl rfl ?_);clear S;intro a S
 obtain ⟨r10,hr11,h⟩:=Fd h
 refine Mr 0 S rfl (fun _=>.own u13 57 3 r10.length (r10.flatMap Ej.enc)) (fun _=>Ea (vs:=[u13]) ⟨(S.tm rfl),trivial⟩ call11) (AH _ u13 r9.1 (S.holds _ (List.mem_of_getElem? (i:=0) rfl)) _ hr11) rfl (fun _ _ _ h=>⟨h.1,fun _ hc=>hc⟩) ?_;clear S;intro v10 a w20 hv10 hk18 hn10 S
 replace hv10:=hv10.2
 subst hv10
 refine Dz (Vf Xc S rfl rfl fun a S=>Vl isAgg26 2 S rfl rfl rfl rfl fun a S=>Vf Xc S rfl rfl fun a S=>Vl isAgg26 1 S rfl rfl rfl rfl ?_);clear S;intro a S
 obtain ⟨r11,hr12,h⟩:=Fd h
 refine Ei S (fun _=>Ea (vs:=[u2.val,u7.val]) ⟨(S.tm rfl),(S.tm rfl),trivial⟩ call12) (DL _ u2.val r1.1.Races (hs1.mono (View.le_trans (View.le_trans (View.le_trans hl2 hl3) hl4) (S.le_new Er))) u7.val r3.1.Races (hs4.mono (View.le_trans hl4 (S.le_new Er))) _ hr12) rfl ?_;clear S;intro v11 a w21 hv11 hk19 hn11 S
 subst hv11
 refine Vm S rfl rfl ?_;clear S;intro a S
 obtain ⟨j2,hj2,h⟩:=Ey h
 refine Ib 8 (fun a w'=>∃ c1,j2 c1 = some r ∧ Keep [] w21 w' ∧ Sx w [] φ4 [.own u13 57 3 r10.length (r10.flatMap Ej.enc),.blk b4 [u7.val,u9.val,iV r3.1.Table.Relay,iV r3.1.Table.Most,iV r3.1.Final.Size,iV r3.1.Final.Many,iV r3.1.Final.Reserves] 32,.blk b3 [u2.val,u4.val,iV r1.1.Table.Relay,iV r1.1.Table.Most,iV r1.1.Final.Size,iV r1.1.Final.Many,iV r1.1.Final.Reserves] 32] [(6,v2),(8,v4),(77,bV c1)] 86 a w') ?_ ?_
 ·rcases Bool.eq_false_or_eq_true r11 with hb1 | hb1
  ·replace h:=Rg h hb1
   refine Ef S rfl rfl rfl hb1 (Vf JH S rfl rfl fun a S=>Ef S rfl rfl rfl hb1 (Vf Yx S rfl rfl fun a S=>Ef S rfl rfl rfl hb1 (Vl isAgg22 2 S rfl rfl rfl rfl fun a S=>Ef S rfl rfl rfl hb1 (Vf JH S rfl rfl fun a S=>Ef S rfl rfl rfl hb1 (Vf Yx S rfl rfl fun a S=>Ef S rfl rfl rfl hb1 ?_)))))
   refine Vl isAgg22 1 S rfl rfl rfl rfl fun a S=>Ef S rfl rfl rfl hb1 ?_
   obtain ⟨r12,hr13,h⟩:=Fd h
   refine Ei S (fun _=>Ea (vs:=[u4.val,u9.val]) ⟨(S.tm rfl),(S.tm rfl),trivial⟩ call13) (ET _ u4.val r1.1.Table.Points (hs2.mono (View.le_trans (View.le_trans (View.le_trans hl2 hl3) hl4) (S.le_new Er))) u9.val r3.1.Table.Points (hs5.mono (View.le_trans hl4 (S.le_new Er))) _ hr13) rfl ?_;clear S;intro v12 a w23 hv12 hk20 hn12 S
   subst hv12
   exact lv S (Hz hb1 (S.tm rfl) (S.tm rfl)) rfl fun a S=>Dl (⟨_,h,hk20,S.nf [true,true,true] rfl (subR rfl)⟩)
  ·replace h:=Rh h hb1
   iterate 7 (refine Hh S rfl rfl rfl (Jw hb1) rfl ?_ rfl;clear S;intro a S)
   exact Vq S (Ia true hb1) rfl rfl rfl fun a S=>Dl (⟨_,h,Keep.refl _ _,S.nf [true,true,true] rfl (subR rfl)⟩)
 clear S h;rintro a w22 ⟨c1,h,hk21,S⟩;rw [hj2] at h;clear hj2 j2
 refine Vm S rfl rfl ?_;clear S;intro a S
 obtain ⟨j3,hj3,h⟩:=Ey h
 refine Ib 4 (fun a w'=>∃ c2,j3 c2 = some r ∧ Keep [] w22 w' ∧ Sx w [] φ4 [.own u13 57 3 r10.length (r10.flatMap Ej.enc),.blk b4 [u7.val,u9.val,iV r3.1.Table.Relay,iV r3.1.Table.Most,iV r3.1.Final.Size,iV r3.1.Final.Many,iV r3.1.Final.Reserves] 32,.blk b3 [u2.val,u4.val,iV r1.1.Table.Relay,iV r1.1.Table.Most,iV r1.1.Final.Size,iV r1.1.Final.Many,iV r1.1.Final.Reserves] 32] [(82,bV c2)] 86 a w') ?_ ?_
 ·rcases Bool.eq_false_or_eq_true c1 with hb2 | hb2
  ·replace h:=Rg h hb2
   refine Ef S rfl rfl rfl hb2 (Vm S rfl rfl fun a S=>Ef S rfl rfl rfl hb2 (Vm S rfl rfl fun a S=>Ef S rfl rfl rfl hb2 ?_))
   obtain ⟨r13,hr14,h⟩:=Fd h
   refine Ei S (fun _=>Ea (vs:=[v2,v4]) ⟨(S.tm rfl),(S.tm rfl),trivial⟩ call14) (DM _ v2 r2.1 ((Hg Dx.enc_ok hs3).mono (View.le_trans (View.le_trans hl3 hl4) (S.le_new Er))) v4 r4.1 ((Hg Dx.enc_ok hs6).mono (S.le_new Er)) _ hr14) rfl ?_;clear S;intro v13 a w25 hv13 hk22 hn13 S
   subst hv13
   exact lv S (Hz hb2 (S.tm rfl) (S.tm rfl)) rfl fun a S=>Dl (⟨_,h,hk22,S.nf [true,true,true] rfl ⟨rfl,trivial⟩⟩)
  ·replace h:=Rh h hb2
   iterate 3 (refine Hh S rfl rfl rfl (Jw hb2) rfl ?_ rfl;clear S;intro a S)
   exact Vq S (Ia true hb2) rfl rfl rfl fun a S=>Dl (⟨_,h,Keep.refl _ _,S.nf [true,true,true] rfl ⟨rfl,trivial⟩⟩)
 clear S h;rintro a w24 ⟨c2,h,hk23,S⟩;rw [hj3] at h;clear hj3 j3
 refine Vm S rfl rfl ?_;clear S;intro a S
 obtain ⟨j4,hj4,h⟩:=Ey h
 refine Ib 2 (fun a w'=>∃ c3,j4 c3 = some r ∧ Keep [] w24 w' ∧ Sx w [] φ4 [.own u13 57 3 r10.length (r10.flatMap Ej.enc),.blk b4 [u7.val,u9.val,iV r3.1.Table.Relay,iV r3.1.Table.Most,iV r3.1.Final.Size,iV r3.1.Final.Many,iV r3.1.Final.Reserves] 32,.blk b3 [u2.val,u4.val,iV r1.1.Table.Relay,iV r1.1.Table.Most,iV r1.1.Final.Size,iV r1.1.Final.Many,iV r1.1.Final.Reserves] 32] [(85,bV c3)] 86 a w') ?_ ?_
 ·rcases Bool.eq_false_or_eq_true c2 with hb3 | hb3
  ·replace h:=Rg h hb3
   refine Ef S rfl rfl rfl hb3 ?_
   obtain ⟨r14,hr15,h⟩:=Fd h
   refine Ei S (fun _=>Ea (vs:=[]) trivial call15) (FT _ _ hr15) rfl ?_;clear S;intro v14 a w27 hv14 hk24 hn14 S
   subst hv14
   exact lv S (Hz hb3 (S.tm rfl) (S.tm rfl)) rfl fun a S=>Dl (⟨_,h,hk24,S.nf [true,true,true] rfl ⟨rfl,trivial⟩⟩)
  ·replace h:=Rh h hb3
   exact Hh S rfl rfl rfl (Jw hb3) rfl (fun a S=>Vq S (Ia true hb3) rfl rfl rfl fun a S=>Dl (⟨_,h,Keep.refl _ _,S.nf [true,true,true] rfl ⟨rfl,trivial⟩⟩)) rfl
 clear S h;rintro a w26 ⟨c3,h,hk25,S⟩;rw [hj4] at h;clear hj4 j4
 refine Va S rfl rfl fun a S=>Dl (wp_ret ?_)
 obtain rfl:=Option.some.inj h
 exact Eu S results3 rfl rfl
end Go.Proofs.YtancihamhcdboaaGreatDoor
