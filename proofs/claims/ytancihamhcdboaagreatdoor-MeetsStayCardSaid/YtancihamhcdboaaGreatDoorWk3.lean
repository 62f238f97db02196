/- Each Go function computes its plain twin,by program. -/
import Derived.Test.YtancihamhcdboaaGreatDoorWk2
namespace Go.Proofs.YtancihamhcdboaaGreatDoor
open Go
open Go.Proofs.Tryz
set_option maxRecDepth 20000 in
theorem LN (w : World) (Ab : Value) (Ae : List Kg) (Ag : Slc (view w []) 2 Ab (Ae.map Kg.enc)) (Cb : Value) (Cc : List Iw) (Cr : List Tz) (Cf : Slc (view w []) 3 Cb (Cr.map Tz.enc)) (Cg : Mg (Wf (view w [])) Cc Cr) (Bx : Int) (r : (List Eb) × Int) (h : BL Ae Cc Bx = some r) :
    Calls prog 132 [Ab,Cb,iV Bx].toArray w (Ret w [] fun τ v _=>∃ u1 : Value,v = .tuple #[u1,iV r.2] ∧ Up τ 127 4 u1 r.1.length (r.1.flatMap Eb.enc)):=by
 refine Fe func132 rfl ntmps132 rfl fun a S=>?_
 unfold BL at h
 replace S:=S.k3 0 1 2 rfl
 refine Fr (Mx S (S.tm rfl) (cs:=[iV Bx]) rfl rfl ?_);clear S;intro a w1 b1 hz1 hk1 S
 refine Vk S rfl rfl fun a S=>Vk S rfl rfl fun a S=>Dl (Fs (Fr (Vm S rfl rfl ?_)));clear S;intro a S
 obtain ⟨r1,hr1,h⟩:=Fd h
 refine Ei S (fun _=>Ea (vs:=[Ab]) ⟨(S.tm rfl),trivial⟩ call161) (FQ _ Ab Ae (Ag.mono (S.le_arg Er)) _ hr1) rfl ?_;clear S;intro v1 a w2 hv1 hk2 hn1 S
 subst hv1
 refine Va S rfl rfl fun a S=>Dz (Vm S rfl rfl fun a S=>Vq S Lf rfl rfl rfl fun a S=>Dl (Fc h (S.tm rfl) (fun hb1 h=>?_) (fun hb1 h=>?_)))
 ·refine Fr (Vm S rfl rfl fun a S=>Vk S rfl rfl fun a S=>Va S rfl rfl fun a S=>Dl (wp_ret (Ec ?_)))
  obtain rfl:=Option.some.inj h
  exact Ln S results132 rfl rfl ⟨_,rfl,(Oz _ _ _)⟩
 ·refine wp_skip (Tn (Fs (Fr (Vm S rfl rfl ?_))));clear S;intro a S
  obtain ⟨r2,hr2,h⟩:=Fd h
  refine Ei S (fun _=>Ea (vs:=[Cb]) ⟨(S.tm rfl),trivial⟩ call162) (BS _ Cb Cc Cr (Cf.mono (S.le_arg Er)) (JU (S.le_arg Er) Cg) _ hr2) rfl ?_;clear S;intro v2 a w3 hv2 hk3 hn2 S
  subst hv2
  refine Va S rfl rfl fun a S=>Dz (Vm S rfl rfl fun a S=>Vq S Lf rfl rfl rfl fun a S=>Ld ?_)
  replace S:=(S.nl [.blk b1 [iV Bx] 3] [true] rfl).k5 0 1 5 9 27 rfl
  refine Tn (Fc h (S.tm rfl) (fun hb2 h=>?_) (fun hb2 h=>?_))
  ·refine Fr (Vm S rfl rfl fun a S=>Vk S rfl rfl fun a S=>Va S rfl rfl fun a S=>Dl (wp_ret (Ec ?_)))
   obtain rfl:=Option.some.inj h
   exact Ln S results132 rfl rfl ⟨_,rfl,(Oz _ _ _)⟩
  ·refine wp_skip (Tn (Fr (Rc (κ:=ByteArray) (ν:=Int) S rfl Value.string (Value.int .i64) ?_)));clear S;intro a w4 b2 hz2 hk4 S
   refine Va S rfl rfl fun a S=>Dl (Fs (Fr (Vm S rfl rfl fun a S=>lv S (Fq FL (S.tm rfl) (Vv Cf Cg)) rfl fun a S=>lv S (Rm rfl) rfl fun a S=>Dl ?_)))
   replace S:=(S.nl [.map b2 (Ft Value.string (Value.int .i64) ([] : List (ByteArray × Int))) ([] : List (ByteArray × Int)).length,.blk b1 [iV Bx] 3] [true,true] rfl).k6 0 5 10 30 31 32 rfl
   obtain ⟨j1,hj1,h⟩:=Ey h
   refine Es (fun a w'=>∃ x1 : List (ByteArray × Int),j1 x1 = some r ∧ Sx w [] nov [.map b2 (Ft Value.string (Value.int .i64) x1) x1.length,.blk b1 [iV Bx] 3] [(0,Ab),(5,.pointer (some ⟨b1,0,none⟩)),(10,.map (some b2))] 122 a w') ?_ ?_
   ·refine wp_block (Gz (fun (ys1 : List Iw) a w'=>∃ i1 : Nat,∃ x1 : List (ByteArray × Int),(∃ dn,Cc = dn ++ ys1 ∧ dn.length = i1) ∧ Pm j1 ys1 i1 x1 = some r ∧ Sx w [] nov [.map b2 (Ft Value.string (Value.int .i64) x1) x1.length,.blk b1 [iV Bx] 3] [(0,Ab),(5,.pointer (some ⟨b1,0,none⟩)),(10,.map (some b2)),(30,Cb),(31,iV (Cc.length : Int)),(32,iV (i1 : Int))] 122 a w') List.length Cc ⟨0,([] : List (ByteArray × Int)),⟨[],rfl,rfl⟩,h,S.nf [true,true] rfl (subR rfl)⟩ ?_)
    clear S h;rintro ys1 a w5 ⟨i1,x1,⟨dn,hd1,hi1⟩,h,S⟩
    cases ys1 with
    | nil =>
     rw [Pm.eq_1] at h
     refine Fr (Vb S Ev rfl rfl rfl fun a S=>Ld ?_)
     replace S:=S.k7 0 5 10 30 31 32 33 rfl
     exact Tn (Fs (wp_cond_false ((S.tm rfl).trans (congrArg Value.bool (Im hd1 hi1))) (wp_exit (Ep (Ep (Gr (Tn (⟨x1,h,S.nf [true,true] rfl (subR rfl)⟩))))))))
    | cons y1 ys1 =>
     rw [Pm.eq_2] at h
     refine Fr (Vb S Ev rfl rfl rfl fun a S=>Ld ?_)
     replace S:=S.k7 0 5 10 30 31 32 33 rfl
     refine Tn (Fs (wp_cond_true ((S.tm rfl).trans (congrArg Value.bool (Hr hd1 hi1))) (wp_skip (Tn (Fs (wp_block (Fs (Fg ?_))))))))
     obtain ⟨r3,hg1,hl1⟩:=Mg.at Cg (Iv hd1 hi1)
     obtain ⟨u1,rfl,hs1⟩:=hl1
     obtain ⟨b3,o1,hm1,hr3⟩:=Fh (a:=a) (x:=.tmp 30) (y:=.tmp 32) (ty:=0) FL Cf hg1 rfl (S.tm rfl) (S.tm rfl)
     refine lv S (hr3 _) rfl ?_;clear S;intro a S
     clear hr3
     refine lv S (Fk isAgg179 sizeOf179 (off:=o1) (o:=0) (part:=[sV y1.Who,iV y1.Fault,u1.val]) rfl rfl (S.tm rfl) (hm1.at S.emb0)) rfl fun a S=>Hu S zeroValue179 (cs:=[sV An,iV 0,.slice none 0 0]) rfl rfl ?_;clear S;intro a w7 b4 hz3 hk5 S
     refine Fj S (S.tm rfl) (S.tm rfl) (i:=0) (off:=0) rfl sizeOf179 (vs:=[sV y1.Who,iV y1.Fault,u1.val]) rfl rfl rfl (Qn rfl (Qn rfl (Qn (Ku.one (Fm hs1)) rfl))) ?_;clear S;intro w8 hk6 S
     refine Dl (Fg (Vm S rfl rfl fun a S=>Vf GR S rfl rfl fun a S=>Vl isAgg9 0 S rfl rfl rfl rfl fun a S=>Vf PP S rfl rfl fun a S=>Vl isAgg3 0 S rfl rfl rfl rfl fun a S=>Oi (kv:=Value.string) (vv:=(Value.int .i64)) (m:=x1) (key:=y1.Who) (val:=y1.Fault) S (i:=1) rfl underlying108 (Mq underlying9) (S.tm rfl) (S.tm rfl) (S.tm rfl) ?_));clear S;intro w9 hk7 S
     refine Ld ?_
     replace S:=(S.nl [.map b2 (Ft Value.string (Value.int .i64) (Gw x1 y1.Who y1.Fault)) (Gw x1 y1.Who y1.Fault).length,.blk b1 [iV Bx] 3] [false,true,true] rfl).k6 0 5 10 30 31 32 rfl
     exact Hn (Tn (Fg (Vq S Gf rfl rfl rfl fun a S=>Vm S rfl rfl fun a S=>Dl (⟨ys1,⟨i1 + 1,(Gw x1 y1.Who y1.Fault),⟨_,(hd1).trans (List.append_cons _ _ _),by simp [hi1]⟩,h,S.nf [true,true] rfl ⟨rfl,rfl,rfl,rfl,rfl,(congrArg (fun z=>some (Value.int .i64 z)) (Hs hd1 hi1 (Yf Cf Cg))),trivial⟩⟩,Nat.lt_succ_self _⟩))))
   clear S h;rintro a w6 ⟨x1,h,S⟩;rw [hj1] at h;clear hj1 j1
   refine Tn (Fr (Vk S rfl rfl ?_));clear S;intro a S
   replace S:=S.nil 127 4
   refine Vk S rfl rfl ?_;clear S;intro a S
   replace S:=S.nil 127 4
   refine Dl (Fs (Fr (Vm S rfl rfl fun a S=>lv S (Fq HV (S.tm rfl) (Fm Ag)) rfl fun a S=>lv S (Rm rfl) rfl fun a S=>Dl ?_)))
   replace S:=(S.nl [.own (.slice none 0 0) 127 4 ([] : List Eb).length (([] : List Eb).flatMap Eb.enc),.own (.slice none 0 0) 127 4 ([] : List Eb).length (([] : List Eb).flatMap Eb.enc),.map b2 (Ft Value.string (Value.int .i64) x1) x1.length,.blk b1 [iV Bx] 3] [true,true,true,true] rfl).k7 5 10 13 14 42 43 44 rfl
   obtain ⟨j2,hj2,h⟩:=Ey h
   refine Es (fun a w'=>∃ x2 : List Eb,∃ x3 : List Eb,∃ v3 : Value,∃ v4 : Value,j2 x2 x3 = some r ∧ Sx w [] nov [.own v3 127 4 x2.length (x2.flatMap Eb.enc),.own v4 127 4 x3.length (x3.flatMap Eb.enc),.map b2 (Ft Value.string (Value.int .i64) x1) x1.length,.blk b1 [iV Bx] 3] [(5,.pointer (some ⟨b1,0,none⟩)),(13,v4),(14,v3)] 122 a w') ?_ ?_
   ·refine wp_block (Gz (fun (ys2 : List Kg) a w'=>∃ i2 : Nat,∃ x2 : List Eb,∃ x3 : List Eb,∃ v3 : Value,∃ v4 : Value,(∃ dn,Ae = dn ++ ys2 ∧ dn.length = i2) ∧ Ok x1 j2 ys2 i2 x2 x3 = some r ∧ Sx w [] nov [.own v3 127 4 x2.length (x2.flatMap Eb.enc),.own v4 127 4 x3.length (x3.flatMap Eb.enc),.map b2 (Ft Value.string (Value.int .i64) x1) x1.length,.blk b1 [iV Bx] 3] [(5,.pointer (some ⟨b1,0,none⟩)),(10,.map (some b2)),(13,v4),(14,v3),(42,Ab),(43,iV (Ae.length : Int)),(44,iV (i2 : Int))] 122 a w') List.length Ae ⟨0,([] : List Eb),([] : List Eb),(.slice none 0 0),(.slice none 0 0),⟨[],rfl,rfl⟩,h,S.nf [true,true,true,true] rfl (subR rfl)⟩ ?_)
    clear S h;rintro ys2 a w10 ⟨i2,x2,x3,v3,v4,⟨dn,hd2,hi2⟩,h,S⟩
    cases ys2 with
    | nil =>
     rw [Ok.eq_1] at h
     refine Fr (Vb S Ev rfl rfl rfl fun a S=>Ld ?_)
     replace S:=S.k8 5 10 13 14 42 43 44 45 rfl
     exact Tn (Fs (wp_cond_false ((S.tm rfl).trans (congrArg Value.bool (Im hd2 hi2))) (wp_exit (Ep (Ep (Gr (Tn (⟨x2,x3,v3,v4,h,S.nf [true,true,true,true] rfl (subR rfl)⟩))))))))
    | cons y2 ys2 =>
     rw [Ok.eq_2] at h
     refine Fr (Vb S Ev rfl rfl rfl fun a S=>Ld ?_)
     replace S:=S.k8 5 10 13 14 42 43 44 45 rfl
     refine Tn (Fs (wp_cond_true ((S.tm rfl).trans (congrArg Value.bool (Hr hd2 hi2))) (wp_skip (Tn (Fs ?_)))))
     obtain ⟨j3,hj3,h⟩:=Ey h
     refine Es (fun a w'=>∃ x4 : List Eb,∃ x5 : List Eb,∃ v5 : Value,∃ v6 : Value,j3 x4 x5 = some r ∧ Sx w [] nov [.own v5 127 4 x4.length (x4.flatMap Eb.enc),.own v6 127 4 x5.length (x5.flatMap Eb.enc),.map b2 (Ft Value.string (Value.int .i64) x1) x1.length,.blk b1 [iV Bx] 3] [(5,.pointer (some ⟨b1,0,none⟩)),(10,.map (some b2)),(13,v6),(14,v5),(42,Ab),(43,iV (Ae.length : Int)),(44,iV (i2 : Int))] 122 a w') ?_ ?_
     ·refine wp_block (Fs (Fg ?_))
      obtain ⟨b5,o2,hm2,hr4⟩:=Fh (a:=a) (x:=.tmp 42) (y:=.tmp 44) (ty:=0) HV Ag (Iv hd2 hi2) rfl (S.tm rfl) (S.tm rfl)
      refine lv S (hr4 _) rfl ?_;clear S;intro a S
      clear hr4
      refine lv S (Fk isAgg177 sizeOf177 (off:=o2) (o:=0) (part:=(Kg.enc y2)) rfl rfl (S.tm rfl) (hm2.at S.emb0)) rfl fun a S=>Hu S zeroValue177 (cs:=[sV An,iV 0]) rfl rfl ?_;clear S;intro a w13 b6 hz4 hk8 S
      refine Fj S (S.tm rfl) (S.tm rfl) (i:=0) (off:=0) rfl sizeOf177 (vs:=(Kg.enc y2)) rfl rfl rfl rfl ?_;clear S;intro w14 hk9 S
      refine Dz (Vf DD S rfl rfl fun a S=>Vl isAgg9 0 S rfl rfl rfl rfl fun a S=>Vf PO S rfl rfl fun a S=>Vl isAgg3 0 S rfl rfl rfl rfl fun a S=>Vm S rfl rfl fun a S=>Vf DD S rfl rfl fun a S=>Vl isAgg9 0 S rfl rfl rfl rfl ?_);clear S;intro a S
      refine lv S (Qk (kv:=Value.string) (vv:=(Value.int .i64)) (m:=x1) (key:=y2.Who) (z:=0) (S.map_at (i:=3) rfl) underlying108 (Mq underlying9) zeroValue3 (S.tm rfl) (S.tm rfl)) rfl fun a S=>lv S (Nl bt_127 (pv:=[(0,sV y2.Who),(2,iV y2.Time),(3,iV (El x1 y2.Who 0))]) ⟨rfl,(S.tm rfl),rfl,(S.tm rfl),rfl,(S.tm rfl),trivial⟩ (cs:=[sV y2.Who,iV 0,iV y2.Time,iV (El x1 y2.Who 0)]) (by kernel_rfl)) rfl fun a S=>Hu S zeroValue127 (cs:=[sV An,iV 0,iV 0,iV 0]) rfl rfl ?_;clear S;intro a w15 b7 hz5 hk10 S
      refine Fj S (S.tm rfl) (S.tm rfl) (i:=0) (off:=0) rfl sizeOf127 (vs:=[sV y2.Who,iV 0,iV y2.Time,iV (El x1 y2.Who 0)]) rfl rfl rfl rfl ?_;clear S;intro w16 hk11 S
      refine Ld ?_
      replace S:=(S.nl [.blk b7 [sV y2.Who,iV 0,iV y2.Time,iV (El x1 y2.Who 0)] 127,.own v3 127 4 x2.length (x2.flatMap Eb.enc),.own v4 127 4 x3.length (x3.flatMap Eb.enc),.map b2 (Ft Value.string (Value.int .i64) x1) x1.length,.blk b1 [iV Bx] 3] [true,false,true,true,true,true] rfl).k8 5 10 13 14 17 42 43 44 rfl
      refine Tn (Fr (Vf PN S rfl rfl fun a S=>Vl isAgg3 0 S rfl rfl rfl rfl fun a S=>Vq S Jh rfl rfl rfl fun a S=>Vm S rfl rfl fun a S=>Ib 4 (fun a w'=>Keep [] w16 w' ∧ Sx w [] nov [.blk b7 [sV y2.Who,iV 0,iV y2.Time,iV (El x1 y2.Who 0)] 127,.own v3 127 4 x2.length (x2.flatMap Eb.enc),.own v4 127 4 x3.length (x3.flatMap Eb.enc),.map b2 (Ft Value.string (Value.int .i64) x1) x1.length,.blk b1 [iV Bx] 3] [(5,.pointer (some ⟨b1,0,none⟩)),(10,.map (some b2)),(13,v4),(14,v3),(17,.pointer (some ⟨b7,0,none⟩)),(42,Ab),(43,iV (Ae.length : Int)),(44,iV (i2 : Int)),(64,bV ((decide ((El x1 y2.Who 0) = 0)) && (decide (0 < y2.Time))))] 122 a w') ?_ ?_))
      ·rcases Bool.eq_false_or_eq_true (decide ((El x1 y2.Who 0) = 0)) with hb3 | hb3
       ·exact Ef S rfl rfl rfl hb3 (Vf AN S rfl rfl fun a S=>Ef S rfl rfl rfl hb3 (Vl isAgg3 0 S rfl rfl rfl rfl fun a S=>Ef S rfl rfl rfl hb3 (Vq S Jj rfl rfl rfl fun a S=>lv S (Hz hb3 (S.tm rfl) (S.tm rfl)) rfl fun a S=>Dl (⟨Keep.refl _ _,S.nf [true,true,true,true,true] rfl (subR rfl)⟩))))
       ·iterate 3 (refine Hh S rfl rfl rfl (Jw hb3) rfl ?_ rfl;clear S;intro a S)
        exact lv S (Ia (decide (0 < y2.Time)) hb3 (S.tm rfl) rfl) rfl fun a S=>Dl (⟨Keep.refl _ _,S.nf [true,true,true,true,true] rfl (subR rfl)⟩)
      clear S;rintro a w17 ⟨hk12,S⟩
      refine Dl ?_
      obtain ⟨j4,hj4,h⟩:=Ey h
      refine Es (fun a w'=>∃ x6 : List Eb,∃ x7 : List Eb,∃ v7 : Value,∃ v8 : Value,j4 x6 x7 = some r ∧ Sx w [] nov [.own v7 127 4 x6.length (x6.flatMap Eb.enc),.own v8 127 4 x7.length (x7.flatMap Eb.enc),.map b2 (Ft Value.string (Value.int .i64) x1) x1.length,.blk b1 [iV Bx] 3] [(5,.pointer (some ⟨b1,0,none⟩)),(10,.map (some b2)),(13,v8),(14,v7),(42,Ab),(43,iV (Ae.length : Int)),(44,iV (i2 : Int))] 122 a w') ?_ ?_
      ·refine Fc h (S.tm rfl) (fun hb4 h=>?_) (fun hb4 h=>?_)
       ·refine Fg (Vm S rfl rfl fun a S=>lv S (Fk isAgg127 sizeOf127 (off:=0) (o:=0) (part:=[sV y2.Who,iV 0,iV y2.Time,iV (El x1 y2.Who 0)]) rfl rfl (S.tm rfl) (S.cellsAt (i:=0) rfl)) rfl fun a S=>Ff S underlying121 sizeOf127 zeroValue127 rfl rfl (pv:=[(0,.agg #[sV y2.Who,iV 0,iV y2.Time,iV (El x1 y2.Who 0)])]) ⟨rfl,(S.tm rfl),trivial⟩ (cs:=[sV y2.Who,iV 0,iV y2.Time,iV (El x1 y2.Who 0)]) (by kernel_rfl) rfl ?_);clear S;intro a w19 b8 hz6 hk13 S
        obtain ⟨hc1,h⟩:=Ij h
        refine Np Te Eb.enc_ok S (S.tm rfl) (i:=3) rfl (S.tm rfl) (j:=0) rfl (ys:=[(Eb.mk y2.Who 0 y2.Time (El x1 y2.Who 0))]) rfl rfl rfl rfl (by have:=Ob hc1;omega) rfl ?_;clear S;intro v9 a w20 hk14 S
        refine Va S rfl rfl fun a S=>Ld ?_
        replace S:=(S.nl [.own v3 127 4 x2.length (x2.flatMap Eb.enc),.own v9 127 4 (x3 ++ [(Eb.mk y2.Who 0 y2.Time (El x1 y2.Who 0))]).length ((x3 ++ [(Eb.mk y2.Who 0 y2.Time (El x1 y2.Who 0))]).flatMap Eb.enc),.map b2 (Ft Value.string (Value.int .i64) x1) x1.length,.blk b1 [iV Bx] 3] [false,false,true,true,true,true] rfl).k7 5 10 13 14 42 43 44 rfl
        exact Tn (⟨x2,(x3 ++ [(Eb.mk y2.Who 0 y2.Time (El x1 y2.Who 0))]),v3,v9,h,S.nf [true,true,true,true] rfl (subR rfl)⟩)
       ·refine Fg (Vm S rfl rfl fun a S=>lv S (Fk isAgg127 sizeOf127 (off:=0) (o:=0) (part:=[sV y2.Who,iV 0,iV y2.Time,iV (El x1 y2.Who 0)]) rfl rfl (S.tm rfl) (S.cellsAt (i:=0) rfl)) rfl fun a S=>Ff S underlying121 sizeOf127 zeroValue127 rfl rfl (pv:=[(0,.agg #[sV y2.Who,iV 0,iV y2.Time,iV (El x1 y2.Who 0)])]) ⟨rfl,(S.tm rfl),trivial⟩ (cs:=[sV y2.Who,iV 0,iV y2.Time,iV (El x1 y2.Who 0)]) (by kernel_rfl) rfl ?_);clear S;intro a w21 b9 hz7 hk15 S
        obtain ⟨hc2,h⟩:=Ij h
        refine Np Te Eb.enc_ok S (S.tm rfl) (i:=2) rfl (S.tm rfl) (j:=0) rfl (ys:=[(Eb.mk y2.Who 0 y2.Time (El x1 y2.Who 0))]) rfl rfl rfl rfl (by have:=Ob hc2;omega) rfl ?_;clear S;intro v10 a w22 hk16 S
        refine Va S rfl rfl fun a S=>Ld ?_
        replace S:=(S.nl [.own v10 127 4 (x2 ++ [(Eb.mk y2.Who 0 y2.Time (El x1 y2.Who 0))]).length ((x2 ++ [(Eb.mk y2.Who 0 y2.Time (El x1 y2.Who 0))]).flatMap Eb.enc),.own v4 127 4 x3.length (x3.flatMap Eb.enc),.map b2 (Ft Value.string (Value.int .i64) x1) x1.length,.blk b1 [iV Bx] 3] [false,false,true,true,true,true] rfl).k7 5 10 13 14 42 43 44 rfl
        exact Tn (⟨(x2 ++ [(Eb.mk y2.Who 0 y2.Time (El x1 y2.Who 0))]),x3,v10,v4,h,S.nf [true,true,true,true] rfl (subR rfl)⟩)
      clear S h;rintro a w18 ⟨x6,x7,v7,v8,h,S⟩;rw [hj4] at h;clear hj4 j4
      exact Hn (Tn (⟨x6,x7,v7,v8,h,S.nf [true,true,true,true] rfl (subR rfl)⟩))
     clear S h;rintro a w12 ⟨x4,x5,v5,v6,h,S⟩;rw [hj3] at h;clear hj3 j3
     exact Tn (Fg (Vq S Gf rfl rfl rfl fun a S=>Vm S rfl rfl fun a S=>Dl (⟨ys2,⟨i2 + 1,x4,x5,v5,v6,⟨_,(hd2).trans (List.append_cons _ _ _),by simp [hi2]⟩,h,S.nf [true,true,true,true] rfl ⟨rfl,rfl,rfl,rfl,rfl,rfl,(congrArg (fun z=>some (Value.int .i64 z)) (Hs hd2 hi2 (Jg Ag))),trivial⟩⟩,Nat.lt_succ_self _⟩)))
   clear S h;rintro a w11 ⟨x2,x3,v3,v4,h,S⟩;rw [hj2] at h;clear hj2 j2
   refine Tn (Fr (Vm S rfl rfl fun a S=>lv S (Wk (us:=#[]) (xs:=[].toArray) (ys:=[.tmp 5].toArray) (by simp) (evA ⟨(S.tm rfl),trivial⟩ (vs:=[.pointer (some ⟨b1,0,none⟩)]))) rfl ?_));clear S;intro a S
   obtain ⟨r4,hr5,h⟩:=Fd h
   refine Mr 1 S rfl (fun _=>.own v4 127 4 r4.length (r4.flatMap Eb.enc)) (fun _=>Ea (vs:=[v4,.func (.func 164) #[] #[.pointer (some ⟨b1,0,none⟩)]]) ⟨(S.tm rfl),(S.tm rfl),trivial⟩ call163) (Ss _ v4 x3 (S.holds _ (List.mem_of_getElem? (i:=1) rfl)) b1 Bx (S.blk_view (i:=3) rfl ((My (i:=1) (j:=3) (e:=.own v4 127 4 x3.length (x3.flatMap Eb.enc)) (e':=.blk b1 [iV Bx] 3) S rfl rfl rfl) _ rfl)) _ hr5) rfl (fun _ _ _ h=>⟨h.1,fun _ hc=>hc⟩) ?_;clear S;intro v11 a w23 hv3 hk17 hn3 S
   replace hv3:=hv3.2
   subst hv3
   refine Dl (Fs (Fr (Vm S rfl rfl fun a S=>lv S (Fq Te (S.tm rfl) (Oh (S.own_at (i:=1) rfl))) rfl fun a S=>lv S (Rm rfl) rfl fun a S=>Dl ?_)))
   replace S:=(S.nl [.own v3 127 4 x2.length (x2.flatMap Eb.enc),.own v4 127 4 r4.length (r4.flatMap Eb.enc),.blk b1 [iV Bx] 3] [true,true,false,true] rfl).k5 5 13 14 78 79 rfl
   have hm3:=JF (S.own_at (i:=1) rfl)
   obtain ⟨j5,hj5,h⟩:=Ey h
   refine Es (fun a w'=>∃ x8 : List Eb,∃ v12 : Value,j5 x8 = some r ∧ Sx w [] nov [.own v3 127 4 x2.length (x2.flatMap Eb.enc),.own v12 127 4 x8.length (x8.flatMap Eb.enc),.blk b1 [iV Bx] 3] [(13,v12),(14,v3)] 122 a w') ?_ ?_
   ·refine wp_block (Gz (fun (ys3 : List Eb) a w'=>∃ i3 : Nat,∃ x8 : List Eb,∃ v12 : Value,(∃ dn,r4 = dn ++ ys3 ∧ dn.length = i3) ∧ Ol Bx j5 ys3 i3 x8 = some r ∧ Sx w [] nov [.own v3 127 4 x2.length (x2.flatMap Eb.enc),.own v12 127 4 x8.length (x8.flatMap Eb.enc),.blk b1 [iV Bx] 3] [(5,.pointer (some ⟨b1,0,none⟩)),(13,v12),(14,v3),(78,iV (r4.length : Int)),(79,iV (i3 : Int))] 122 a w') List.length r4 ⟨0,r4,v4,⟨[],rfl,rfl⟩,h,S.nf [true,true,true] rfl (subR rfl)⟩ ?_)
    clear S h;rintro ys3 a w24 ⟨i3,x8,v12,⟨dn,hd3,hi3⟩,h,S⟩
    cases ys3 with
    | nil =>
     rw [Ol.eq_1] at h
     refine Fr (Vb S Ev rfl rfl rfl fun a S=>Ld ?_)
     replace S:=S.k6 5 13 14 78 79 80 rfl
     exact Tn (Fs (wp_cond_false ((S.tm rfl).trans (congrArg Value.bool (Im hd3 hi3))) (wp_exit (Ep (Ep (Gr (Tn (⟨x8,v12,h,S.nf [true,true,true] rfl (subR rfl)⟩))))))))
    | cons y3 ys3 =>
     rw [Ol.eq_2] at h
     refine Fr (Vb S Ev rfl rfl rfl fun a S=>Ld ?_)
     replace S:=S.k6 5 13 14 78 79 80 rfl
     refine Tn (Fs (wp_cond_true ((S.tm rfl).trans (congrArg Value.bool (Hr hd3 hi3))) (wp_skip (Tn (Fs ?_)))))
     obtain ⟨j6,hj6,h⟩:=Ey h
     refine Es (fun a w'=>∃ x9 : List Eb,j6 x9 = some r ∧ Sx w [] nov [.own v3 127 4 x2.length (x2.flatMap Eb.enc),.own v12 127 4 x9.length (x9.flatMap Eb.enc),.blk b1 [iV Bx] 3] [(5,.pointer (some ⟨b1,0,none⟩)),(13,v12),(14,v3),(78,iV (r4.length : Int)),(79,iV (i3 : Int))] 122 a w') ?_ ?_
     ·refine wp_block (Fr (Vm S rfl rfl fun a S=>Va S rfl rfl fun a S=>Dl (Fs (Hd [] ([]) Tryz.mixed S rfl (by kernel_rfl) ?_))));clear S;intro w27 hk18 hsel S
      refine Lg [0,1,2,3,4,5,6,7,8,9,10,11,12,13,14,15,16,17,18,19] hsel (by kernel_rfl) rfl ?_
      clear hsel
      refine Gp S rfl (Rm (S.tm rfl)) rfl fun a S=>Gp S rfl (Jj (S.tm rfl) rfl) rfl fun a S=>Gp S rfl (Rm (S.tm rfl)) rfl ?_;clear S;intro a S
      obtain ⟨j7,hj7,h⟩:=Ey h
      refine AB 17 (fun a w'=>∃ c1,j7 c1 = some r ∧ Keep [] w27 w' ∧ Sx w [] nov [.own v3 127 4 x2.length (x2.flatMap Eb.enc),.own v12 127 4 x8.length (x8.flatMap Eb.enc),.blk b1 [iV Bx] 3] [(5,.pointer (some ⟨b1,0,none⟩)),(13,v12),(14,v3),(18,iV (i3 : Int)),(78,iV (r4.length : Int)),(79,iV (i3 : Int)),(101,bV c1)] 122 a w') ?_ ?_
      ·rcases Bool.eq_false_or_eq_true (decide (0 < (i3 : Int))) with hb5 | hb5
       ·replace h:=Rg h hb5
        refine Gc S rfl rfl rfl rfl hb5 (Hm S (Rm (S.tm rfl)) rfl fun a S=>Gc S rfl rfl rfl rfl hb5 (Hm S (Rm (S.tm rfl)) rfl fun a S=>Gc S rfl rfl rfl rfl hb5 ?_))
        obtain ⟨hc3,h⟩:=Ij h
        obtain ⟨b10,hg2,hr6⟩:=Gx (a:=a) (x:=.tmp 85) (y:=.tmp 86) (ty:=0) Te Eb.enc_ok S (i:=1) rfl (Eh hc3).1 (Eh hc3).2 (S.tm rfl) (S.tm rfl)
        refine Hm S (hr6 _) rfl ?_;clear S;intro a S
        clear hr6
        refine Gc S rfl rfl rfl rfl hb5 (Hm S (Gv AN (S.tm rfl)) rfl fun a S=>Gc S rfl rfl rfl rfl hb5 (Hm S (Ic isAgg3 (off:=((i3 : Int).toNat) * 4) (o:=2) (S.tm rfl) (Vd Eb.enc_ok S (i:=1) rfl hg2 (Eh hc3).1) rfl) rfl fun a S=>Gc S rfl rfl rfl rfl hb5 (Hm S (Nn isAgg3 (S.tm rfl) (S.cell (i:=2) rfl rfl)) rfl fun a S=>Gc S rfl rfl rfl rfl hb5 ?_)))
        obtain ⟨hc4,h⟩:=Ij h
        refine Hm S (FF (S.tm rfl) (S.tm rfl) (Vo hc4)) rfl fun a S=>Gc S rfl rfl rfl rfl hb5 (Hm S (Rm (S.tm rfl)) rfl fun a S=>Gc S rfl rfl rfl rfl hb5 (Hm S (Rm (S.tm rfl)) rfl fun a S=>Gc S rfl rfl rfl rfl hb5 (Hm S (Iy (S.tm rfl) rfl) rfl fun a S=>Gc S rfl rfl rfl rfl hb5 ?_)))
        obtain ⟨hc5,h⟩:=Ij h
        obtain ⟨b11,hg3,hr7⟩:=Gx (a:=a) (x:=.tmp 92) (y:=.tmp 94) (ty:=0) Te Eb.enc_ok S (i:=1) rfl (Eh hc5).1 (Eh hc5).2 (S.tm rfl) (S.tm rfl)
        refine Hm S (hr7 _) rfl ?_;clear S;intro a S
        clear hr7
        refine Gc S rfl rfl rfl rfl hb5 (Hm S (Gv AN (S.tm rfl)) rfl fun a S=>Gc S rfl rfl rfl rfl hb5 (Hm S (Ic isAgg3 (off:=((W ((i3 : Int) - 1)).toNat) * 4) (o:=2) (S.tm rfl) (Vd Eb.enc_ok S (i:=1) rfl hg3 (Eh hc5).1) rfl) rfl fun a S=>Gc S rfl rfl rfl rfl hb5 (Hm S (Nn isAgg3 (S.tm rfl) (S.cell (i:=2) rfl rfl)) rfl fun a S=>Gc S rfl rfl rfl rfl hb5 ?_)))
        obtain ⟨hc6,h⟩:=Ij h
        exact Hm S (FF (S.tm rfl) (S.tm rfl) (Vo hc6)) rfl fun a S=>Gc S rfl rfl rfl rfl hb5 (Hm S (Jh (S.tm rfl) (S.tm rfl)) rfl fun a S=>Gp S rfl (Hz hb5 (S.tm rfl) (S.tm rfl)) rfl fun a S=>It (⟨_,h,Keep.refl _ _,S.nf [true,true,true] rfl (subR rfl)⟩))
       ·replace h:=Rh h hb5
        iterate 16 (refine Qs S rfl rfl rfl rfl (Jw hb5) rfl ?_ rfl;clear S;intro a S)
        exact Gp S rfl (Ia true hb5 (S.tm rfl) rfl) rfl fun a S=>It (⟨_,h,Keep.refl _ _,S.nf [true,true,true] rfl (subR rfl)⟩)
      clear S h;rintro a w28 ⟨c1,h,hk19,S⟩;rw [hj7] at h;clear hj7 j7
      refine It ?_
      replace S:=S.k7 5 13 14 18 78 79 101 rfl
      refine Tn ?_
      obtain ⟨j8,hj8,h⟩:=Ey h
      refine Es (fun a w'=>∃ x10 : List Eb,j8 x10 = some r ∧ Sx w [] nov [.own v3 127 4 x2.length (x2.flatMap Eb.enc),.own v12 127 4 x10.length (x10.flatMap Eb.enc),.blk b1 [iV Bx] 3] [(5,.pointer (some ⟨b1,0,none⟩)),(13,v12),(14,v3),(78,iV (r4.length : Int)),(79,iV (i3 : Int))] 122 a w') ?_ ?_
      ·refine Fc h (S.tm rfl) (fun hb6 h=>?_) (fun hb6 h=>?_)
       ·refine Fg ?_
        iterate 4 (refine Vm S rfl rfl ?_;clear S;intro a S)
        refine Vq S Iy rfl rfl rfl ?_;clear S;intro a S
        obtain ⟨hc7,h⟩:=Ij h
        obtain ⟨b12,hg4,hr8⟩:=Gx (a:=a) (x:=.tmp 104) (y:=.tmp 106) (ty:=0) Te Eb.enc_ok S (i:=1) rfl (Eh hc7).1 (Eh hc7).2 (S.tm rfl) (S.tm rfl)
        refine lv S (hr8 _) rfl ?_;clear S;intro a S
        clear hr8
        refine Vf DA S rfl rfl fun a S=>lv S (Ic isAgg3 (off:=((W ((i3 : Int) - 1)).toNat) * 4) (o:=1) (S.tm rfl) (Vd Eb.enc_ok S (i:=1) rfl hg4 (Eh hc7).1) rfl) rfl ?_;clear S;intro a S
        obtain ⟨hc8,h⟩:=Ij h
        obtain ⟨b13,hg5,hr9⟩:=Gx (a:=a) (x:=.tmp 102) (y:=.tmp 103) (ty:=0) Te Eb.enc_ok S (i:=1) rfl (Eh hc8).1 (Eh hc8).2 (S.tm rfl) (S.tm rfl)
        refine lv S (hr9 _) rfl ?_;clear S;intro a S
        clear hr9
        refine Vf DA S rfl rfl fun a S=>Oe (c:=1) (j:=(i3 : Int).toNat) (Eb.mk ((nth x8 (i3 : Int)).Who) ((nth x8 (W ((i3 : Int) - 1))).Rank) ((nth x8 (i3 : Int)).Time) ((nth x8 (i3 : Int)).Fault)) Eb.enc_ok S (S.tm rfl) (S.tm rfl) (i:=1) rfl hg5 (Eh hc8).1 sizeOf3 (vs:=[iV ((nth x8 (W ((i3 : Int) - 1))).Rank)]) rfl rfl rfl rfl rfl ?_;clear S;intro w31 hk21 S
        refine Ld ?_
        replace S:=(S.nl [.own v3 127 4 x2.length (x2.flatMap Eb.enc),.own v12 127 4 (x8.set ((i3 : Int).toNat) (Eb.mk ((nth x8 (i3 : Int)).Who) ((nth x8 (W ((i3 : Int) - 1))).Rank) ((nth x8 (i3 : Int)).Time) ((nth x8 (i3 : Int)).Fault))).length ((x8.set ((i3 : Int).toNat) (Eb.mk ((nth x8 (i3 : Int)).Who) ((nth x8 (W ((i3 : Int) - 1))).Rank) ((nth x8 (i3 : Int)).Time) ((nth x8 (i3 : Int)).Fault))).flatMap Eb.enc),.blk b1 [iV Bx] 3] [true,true,true] rfl).k5 5 13 14 78 79 rfl
        exact Tn (⟨(x8.set ((i3 : Int).toNat) (Eb.mk ((nth x8 (i3 : Int)).Who) ((nth x8 (W ((i3 : Int) - 1))).Rank) ((nth x8 (i3 : Int)).Time) ((nth x8 (i3 : Int)).Fault))),h,S.nf [true,true,true] rfl (subR rfl)⟩)
       ·refine Fg ?_
        iterate 3 (refine Vm S rfl rfl ?_;clear S;intro a S)
        refine Vq S Gf rfl rfl rfl ?_;clear S;intro a S
        obtain ⟨hc9,h⟩:=Ij h
        obtain ⟨b14,hg6,hr10⟩:=Gx (a:=a) (x:=.tmp 112) (y:=.tmp 113) (ty:=0) Te Eb.enc_ok S (i:=1) rfl (Eh hc9).1 (Eh hc9).2 (S.tm rfl) (S.tm rfl)
        refine lv S (hr10 _) rfl ?_;clear S;intro a S
        clear hr10
        refine Vf DA S rfl rfl fun a S=>Oe (c:=1) (j:=(i3 : Int).toNat) (Eb.mk ((nth x8 (i3 : Int)).Who) (W ((i3 : Int) + 1)) ((nth x8 (i3 : Int)).Time) ((nth x8 (i3 : Int)).Fault)) Eb.enc_ok S (S.tm rfl) (S.tm rfl) (i:=1) rfl hg6 (Eh hc9).1 sizeOf3 (vs:=[iV (W ((i3 : Int) + 1))]) rfl rfl rfl rfl rfl ?_;clear S;intro w33 hk23 S
        exact Dl (⟨(x8.set ((i3 : Int).toNat) (Eb.mk ((nth x8 (i3 : Int)).Who) (W ((i3 : Int) + 1)) ((nth x8 (i3 : Int)).Time) ((nth x8 (i3 : Int)).Fault))),h,S.nf [true,true,true] rfl (subR rfl)⟩)
      clear S h;rintro a w29 ⟨x10,h,S⟩;rw [hj8] at h;clear hj8 j8
      exact Hn (Tn (⟨x10,h,S.nf [true,true,true] rfl (subR rfl)⟩))
     clear S h;rintro a w26 ⟨x9,h,S⟩;rw [hj6] at h;clear hj6 j6
     exact Tn (Fg (Vq S Gf rfl rfl rfl fun a S=>Vm S rfl rfl fun a S=>Dl (⟨ys3,⟨i3 + 1,x9,v12,⟨_,(hd3).trans (List.append_cons _ _ _),by simp [hi3]⟩,h,S.nf [true,true,true] rfl ⟨rfl,rfl,rfl,rfl,(congrArg (fun z=>some (Value.int .i64 z)) (Hs hd3 hi3 hm3)),trivial⟩⟩,Nat.lt_succ_self _⟩)))
   clear S h;rintro a w25 ⟨x8,v12,h,S⟩;rw [hj5] at h;clear hj5 j5
   refine Tn (Fr (Vm S rfl rfl fun a S=>Vm S rfl rfl ?_));clear S;intro a S
   obtain ⟨hc10,h⟩:=Ij h
   refine HP (Y:=[]) Te Eb.enc_ok S (S.tm rfl) (i:=1) rfl (S.tm rfl) (CN Eb.enc_ok S (i:=0) rfl (fun _ _ h=>by cases h)) rfl rfl (by have:=Ob hc10;omega) rfl ?_;clear S;intro v13 a w34 hk24 S
   refine Va S rfl rfl fun a S=>Vk S rfl rfl fun a S=>Dl (wp_ret ?_)
   obtain rfl:=Option.some.inj h
   exact Ln S results132 rfl rfl ⟨_,rfl,(Tt S (i:=1) rfl rfl)⟩
theorem LO (w : World) (Ab : Value) (Ae : List Kg) (Ag : Slc (view w []) 2 Ab (Ae.map Kg.enc)) (Cb : Value) (Cc : List Iw) (Cr : List Tz) (Cf : Slc (view w []) 3 Cb (Cr.map Tz.enc)) (Cg : Mg (Wf (view w [])) Cc Cr) (r : (List Eb) × Int) (h : Xn Ae Cc = some r) :
    Calls prog 103 [Ab,Cb].toArray w (Ret w [] fun τ v _=>∃ u1 : Value,v = .tuple #[u1,iV r.2] ∧ Up τ 127 4 u1 r.1.length (r.1.flatMap Eb.enc)):=by
 refine Fe func103 rfl ntmps103 rfl fun a S=>?_
 unfold Xn at h
 replace S:=S.k2 0 1 rfl
 refine Fr (Vk S rfl rfl fun a S=>Vk S rfl rfl fun a S=>Dz (Vm S rfl rfl fun a S=>Vm S rfl rfl ?_));clear S;intro a S
 obtain ⟨r1,hr1,h⟩:=Fd h
 have hz1:=S.keep.size
 refine Ei S (fun _=>Ea (vs:=[Ab,Cb,iV 1]) ⟨(S.tm rfl),(S.tm rfl),rfl,trivial⟩ call132) (LN _ Ab Ae (Ag.mono (S.le_arg Er)) Cb Cc Cr (Cf.mono (S.le_arg Er)) (JU (S.le_arg Er) Cg) 1 _ hr1) rfl ?_;clear S;intro v1 a w1 hv1 hk1 hn1 S
 obtain ⟨u1,rfl,ho1⟩:=hv1
 obtain ⟨φ1,hl1,hm1,S⟩:=S.see' hn1 hz1
 have hs1:=ho1.mono hm1
 refine Vq S Fy rfl rfl rfl fun a S=>Vq S Fy rfl rfl rfl fun a S=>Va S rfl rfl fun a S=>Va S rfl rfl fun a S=>Dl (wp_ret ?_)
 obtain rfl:=Option.some.inj h
 exact Ln S results103 rfl rfl ⟨_,rfl,((hs1).mono S.le_newer)⟩
theorem IY (w : World) (U : Nat) (Af : Kq) (Bl : R32) (Bv : Tp (view w []) Af Bl) (Ap : Value) (Ak : List Dx) (Bc : Slc (view w []) 11 Ap (Ak.map Dx.enc)) (Ar : (view w []) U = some (.cells (R32.enc Bl ++ [Ap]).toArray 134 (0,0))) (Au : ByteArray) (r : (List Eb) × (List (ByteArray × ByteArray)) × Int) (h : Wx Af Ak Au = some r) :
    Calls prog 55 [.pointer (some ⟨U,0,none⟩),sV Au].toArray w (Ret w [] fun τ v _=>∃ u1 : Value,∃ u2 : Value,v = .tuple #[u1,u2,iV r.2.2] ∧ Up τ 127 4 u1 r.1.length (r.1.flatMap Eb.enc) ∧ (∃ b : Nat,u2 = .map (some b) ∧ τ b = some (.map (Ft Value.string Value.string r.2.1) r.2.1.length))):=by
 obtain ⟨u1,u2,rfl,hs1,⟨u3,rfl,hs2⟩⟩:=Bv
 replace Ar : (view w []) U = some (.cells [u1.val,u3.val,iV Af.Table.Relay,iV Af.Table.Most,iV Af.Final.Size,iV Af.Final.Many,iV Af.Final.Reserves,Ap].toArray 134 (0,0)):=Ar
 refine Fe func55 rfl ntmps55 rfl fun a S=>?_
 unfold Wx at h
 replace S:=S.k2 0 1 rfl
 refine Fs (Fg ?_)
 iterate 3 (refine Vk S rfl rfl ?_;clear S;intro a S)
 refine Dz (Vm S rfl rfl fun a S=>Vm S rfl rfl ?_);clear S;intro a S
 have hz1:=S.keep.size
 refine Ei S (fun _=>Ea (vs:=[.pointer (some ⟨U,0,none⟩),sV Au]) ⟨(S.tm rfl),(S.tm rfl),trivial⟩ call102) (LM _ U Af (R32.mk u1 (R28.mk u3 Af.Table.Relay Af.Table.Most) Af.Final) ⟨u1,(R28.mk u3 Af.Table.Relay Af.Table.Most),rfl,(hs1.mono (S.le_arg Er)),⟨u3,rfl,(hs2.mono (S.le_arg Er))⟩⟩ Ap Ak (Bc.mono (S.le_arg Er)) ((S.le_arg Er) _ _ Ar) Au _ rfl) rfl ?_;clear S;intro v1 a w1 hv1 hk1 hn1 S
 obtain ⟨φ1,hl1,hm1,S⟩:=S.see' hn1 hz1
 obtain ⟨b1,rfl,hq1⟩:=hv1
 replace hq1:=hm1 _ _ hq1
 refine Va S rfl rfl fun a S=>Dz (Rc (κ:=ByteArray) (ν:=ByteArray) S rfl Value.string Value.string ?_);clear S;intro a w2 b2 hz2 hk2 S
 refine Va S rfl rfl fun a S=>Dz (Vk S rfl rfl ?_);clear S;intro a S
 replace S:=S.nil 177 2
 refine Dz (Vk S rfl rfl ?_);clear S;intro a S
 replace S:=S.nil 179 3
 refine Dl (Fs (Fr (Vm S rfl rfl fun a S=>Vm S rfl rfl ?_)));clear S;intro a S
 obtain ⟨r1,hr1,h⟩:=Fd h
 have hz3:=S.keep.size
 refine Ei S (fun _=>Ea (vs:=[.pointer (some ⟨U,0,none⟩),sV Au]) ⟨(S.tm rfl),(S.tm rfl),trivial⟩ call63) (Xr _ U Af (R32.mk u1 (R28.mk u3 Af.Table.Relay Af.Table.Most) Af.Final) ⟨u1,(R28.mk u3 Af.Table.Relay Af.Table.Most),rfl,(hs1.mono (S.le_arg Er)),⟨u3,rfl,(hs2.mono (S.le_arg Er))⟩⟩ Ap Ak (Bc.mono (S.le_arg Er)) ((S.le_arg Er) _ _ Ar) Au _ hr1) rfl ?_;clear S;intro v2 a w3 hv2 hk3 hn2 S
 obtain ⟨φ2,hl2,hm2,S⟩:=S.see' hn2 hz3
 have hs3:=hv2.mono hm2
 refine lv S (Fq La (S.tm rfl) (Fm (Hg Dx.enc_ok hs3))) rfl fun a S=>lv S (Rm rfl) rfl fun a S=>Ld ?_
 replace S:=(S.nl [.own (.slice none 0 0) 179 3 ([] : List Tz).length (([] : List Tz).flatMap Tz.enc),.own (.slice none 0 0) 177 2 ([] : List Kg).length (([] : List Kg).flatMap Kg.enc),.map b2 (Ft Value.string Value.string ([] : List (ByteArray × ByteArray))) ([] : List (ByteArray × ByteArray)).length] [true,true,true] rfl).k7 7 8 9 10 23 24 25 rfl
 refine Tn ?_
 obtain ⟨j1,hj1,h⟩:=Ey h
 refine Es (fun a w'=>∃ x1 : List Iw,∃ x2 : List Kg,∃ x3 : List (ByteArray × ByteArray),∃ v3 : Value,∃ rs1 : List Tz,∃ v4 : Value,j1 x1 x2 x3 = some r ∧ Mg (Wf φ2) x1 rs1 ∧ Sx w [] φ2 [.own v3 179 3 rs1.length (rs1.flatMap Tz.enc),.own v4 177 2 x2.length (x2.flatMap Kg.enc),.map b2 (Ft Value.string Value.string x3) x3.length] [(8,.map (some b2)),(9,v4),(10,v3)] 72 a w') ?_ ?_
 ·refine wp_block (Gz (fun (ys1 : List Dx) a w'=>∃ i1 : Nat,∃ x1 : List Iw,∃ x2 : List Kg,∃ x3 : List (ByteArray × ByteArray),∃ v3 : Value,∃ rs1 : List Tz,∃ v4 : Value,(∃ dn,r1 = dn ++ ys1 ∧ dn.length = i1) ∧ Nb Af Ak Au j1 ys1 i1 x1 x2 x3 = some r ∧ Mg (Wf φ2) x1 rs1 ∧ Sx w [] φ2 [.own v3 179 3 rs1.length (rs1.flatMap Tz.enc),.own v4 177 2 x2.length (x2.flatMap Kg.enc),.map b2 (Ft Value.string Value.string x3) x3.length] [(7,.map (some b1)),(8,.map (some b2)),(9,v4),(10,v3),(23,v2),(24,iV (r1.length : Int)),(25,iV (i1 : Int))] 72 a w') List.length r1 ⟨0,([] : List Iw),([] : List Kg),([] : List (ByteArray × ByteArray)),(.slice none 0 0),([] : List Tz),(.slice none 0 0),⟨[],rfl,rfl⟩,h,.nil,S.nf [true,true,true] rfl (subR rfl)⟩ ?_)
  clear S h;rintro ys1 a w4 ⟨i1,x1,x2,x3,v3,rs1,v4,⟨dn,hd1,hi1⟩,h,hr2,S⟩
  cases ys1 with
  | nil =>
   rw [Nb.eq_1] at h
   refine Fr (Vb S Ev rfl rfl rfl fun a S=>Ld ?_)
   replace S:=S.k8 7 8 9 10 23 24 25 26 rfl
   exact Tn (Fs (wp_cond_false ((S.tm rfl).trans (congrArg Value.bool (Im hd1 hi1))) (wp_exit (Ep (Ep (Gr (Tn (⟨x1,x2,x3,v3,rs1,v4,h,hr2,S.nf [true,true,true] rfl (subR rfl)⟩))))))))
  | cons y1 ys1 =>
   rw [Nb.eq_2] at h
   refine Fr (Vb S Ev rfl rfl rfl fun a S=>Ld ?_)
   replace S:=S.k8 7 8 9 10 23 24 25 26 rfl
   refine Tn (Fs (wp_cond_true ((S.tm rfl).trans (congrArg Value.bool (Hr hd1 hi1))) (wp_skip (Tn (Fs ?_)))))
   obtain ⟨j2,hj2,h⟩:=Ey h
   refine Es (fun a w'=>∃ x4 : List Iw,∃ x5 : List Kg,∃ x6 : List (ByteArray × ByteArray),∃ v5 : Value,∃ rs2 : List Tz,∃ v6 : Value,j2 x4 x5 x6 = some r ∧ Mg (Wf φ2) x4 rs2 ∧ Sx w [] φ2 [.own v5 179 3 rs2.length (rs2.flatMap Tz.enc),.own v6 177 2 x5.length (x5.flatMap Kg.enc),.map b2 (Ft Value.string Value.string x6) x6.length] [(7,.map (some b1)),(8,.map (some b2)),(9,v6),(10,v5),(23,v2),(24,iV (r1.length : Int)),(25,iV (i1 : Int))] 72 a w') ?_ ?_
   ·refine wp_block (Fs (Fg ?_))
    obtain ⟨b3,o1,hm3,hr4⟩:=Fh (a:=a) (x:=.tmp 23) (y:=.tmp 25) (ty:=0) La (Hg Dx.enc_ok hs3) (Iv hd1 hi1) rfl (S.tm rfl) (S.tm rfl)
    refine lv S (hr4 _) rfl ?_;clear S;intro a S
    clear hr4
    refine lv S (Fk isAgg41 sizeOf41 (off:=o1) (o:=0) (part:=(Dx.enc y1)) rfl rfl (S.tm rfl) (hm3.at S.emb)) rfl fun a S=>Hu S zeroValue41 (cs:=[sV An,iV 0,iV 0,iV 0,sV An,sV An,sV An,iV 0,iV 0,sV An,iV 0]) rfl rfl ?_;clear S;intro a w7 b4 hz4 hk4 S
    refine Fj S (S.tm rfl) (S.tm rfl) (i:=0) (off:=0) rfl sizeOf41 (vs:=(Dx.enc y1)) rfl rfl rfl rfl ?_;clear S;intro w8 hk5 S
    refine Dz (Vm S rfl rfl fun a S=>Vf Qc S rfl rfl fun a S=>Vl isAgg9 0 S rfl rfl rfl rfl fun a S=>lv S (BH (kv:=Value.string) (vv:=(fun x=>Value.agg (Dx.enc x).toArray)) (m:=(Ii Af Ak Au)) (key:=y1.Who) (z:=(Dx.mk An 0 0 0 An An An 0 0 An 0)) (S.emb _ _ (hl2 _ _ hq1)) underlying172 (Mq underlying9) zeroValue41 (S.tm rfl) (S.tm rfl)) rfl fun a S=>Vm S rfl rfl fun a S=>Vq S Fy rfl rfl rfl fun a S=>Vq S Fy rfl rfl rfl ?_);clear S;intro a S
    refine Hu S zeroValue41 (cs:=[sV An,iV 0,iV 0,iV 0,sV An,sV An,sV An,iV 0,iV 0,sV An,iV 0]) rfl rfl ?_;clear S;intro a w9 b5 hz5 hk6 S
    refine Fj S (S.tm rfl) (S.tm rfl) (i:=0) (off:=0) rfl sizeOf41 (vs:=(Dx.enc (El (Ii Af Ak Au) y1.Who (Dx.mk An 0 0 0 An An An 0 0 An 0)))) rfl rfl rfl rfl ?_;clear S;intro w10 hk7 S
    refine Va S rfl rfl fun a S=>Ld ?_
    replace S:=(S.nl [.blk b5 (Dx.enc (El (Ii Af Ak Au) y1.Who (Dx.mk An 0 0 0 An An An 0 0 An 0))) 41,.blk b4 (Dx.enc y1) 41,.own v3 179 3 rs1.length (rs1.flatMap Tz.enc),.own v4 177 2 x2.length (x2.flatMap Kg.enc),.map b2 (Ft Value.string Value.string x3) x3.length] [true,true,true,true,true] rfl).k10 7 8 9 10 12 13 14 23 24 25 rfl
    refine Tn (Fs (Fr (Vm S rfl rfl fun a S=>Vu S Hv rfl rfl fun a S=>Dl (Fc h (S.tm rfl) (fun hb1 h=>?_) (fun hb1 h=>?_)))))
    ·exact wp_exit (Ep (Gr (Tn (⟨x1,x2,x3,v3,rs1,v4,h,hr2,S.nf [false,false,true,true,true] rfl (subR rfl)⟩))))
    ·refine wp_skip (Tn (Fr (Vm S rfl rfl fun a S=>Vf Qc S rfl rfl fun a S=>Vl isAgg9 1 S rfl rfl rfl rfl fun a S=>Vf Um S rfl rfl fun a S=>Vl isAgg9 1 S rfl rfl rfl rfl fun a S=>Oi (kv:=Value.string) (vv:=Value.string) (m:=x3) (key:=y1.Who) (val:=y1.Club) S (i:=4) rfl underlying122 (Mq underlying9) (S.tm rfl) (S.tm rfl) (S.tm rfl) ?_)));clear S;intro w11 hk8 S
     refine Ld ?_
     replace S:=(S.nl [.blk b5 (Dx.enc (El (Ii Af Ak Au) y1.Who (Dx.mk An 0 0 0 An An An 0 0 An 0))) 41,.blk b4 (Dx.enc y1) 41,.own v3 179 3 rs1.length (rs1.flatMap Tz.enc),.own v4 177 2 x2.length (x2.flatMap Kg.enc),.map b2 (Ft Value.string Value.string (Gw x3 y1.Who y1.Club)) (Gw x3 y1.Who y1.Club).length] [true,true,true,true,true] rfl).k9 7 8 9 10 12 13 23 24 25 rfl
     refine Tn (Fr (Vm S rfl rfl fun a S=>Vf Qc S rfl rfl fun a S=>Vl isAgg9 1 S rfl rfl rfl rfl fun a S=>Vf Wh S rfl rfl fun a S=>Vl isAgg3 0 S rfl rfl rfl rfl fun a S=>lv S (Nl bt_177 (pv:=[(0,sV y1.Who),(1,iV ((El (Ii Af Ak Au) y1.Who (Dx.mk An 0 0 0 An An An 0 0 An 0)).Time))]) ⟨rfl,(S.tm rfl),rfl,(S.tm rfl),trivial⟩ (cs:=[sV y1.Who,iV ((El (Ii Af Ak Au) y1.Who (Dx.mk An 0 0 0 An An An 0 0 An 0)).Time)]) (by kernel_rfl)) rfl fun a S=>Ff S underlying174 sizeOf177 zeroValue177 rfl rfl (pv:=[(0,.agg #[sV y1.Who,iV ((El (Ii Af Ak Au) y1.Who (Dx.mk An 0 0 0 An An An 0 0 An 0)).Time)])]) ⟨rfl,(S.tm rfl),trivial⟩ (cs:=[sV y1.Who,iV ((El (Ii Af Ak Au) y1.Who (Dx.mk An 0 0 0 An An An 0 0 An 0)).Time)]) (by kernel_rfl) rfl ?_));clear S;intro a w12 b6 hz6 hk9 S
     obtain ⟨hc1,h⟩:=Ij h
     refine Np HV Kg.enc_ok S (S.tm rfl) (i:=4) rfl (S.tm rfl) (j:=0) rfl (ys:=[(Kg.mk y1.Who ((El (Ii Af Ak Au) y1.Who (Dx.mk An 0 0 0 An An An 0 0 An 0)).Time))]) rfl rfl rfl rfl (by have:=Ob hc1;omega) rfl ?_;clear S;intro v7 a w13 hk10 S
     refine Va S rfl rfl fun a S=>Ld ?_
     replace S:=(S.nl [.blk b5 (Dx.enc (El (Ii Af Ak Au) y1.Who (Dx.mk An 0 0 0 An An An 0 0 An 0))) 41,.blk b4 (Dx.enc y1) 41,.own v3 179 3 rs1.length (rs1.flatMap Tz.enc),.own v7 177 2 (x2 ++ [(Kg.mk y1.Who ((El (Ii Af Ak Au) y1.Who (Dx.mk An 0 0 0 An An An 0 0 An 0)).Time))]).length ((x2 ++ [(Kg.mk y1.Who ((El (Ii Af Ak Au) y1.Who (Dx.mk An 0 0 0 An An An 0 0 An 0)).Time))]).flatMap Kg.enc),.map b2 (Ft Value.string Value.string (Gw x3 y1.Who y1.Club)) (Gw x3 y1.Who y1.Club).length] [false,true,true,true,true,true] rfl).k9 7 8 9 10 12 13 23 24 25 rfl
     refine Tn (Fr (Vf Xz S rfl rfl fun a S=>Vl isAgg3 0 S rfl rfl rfl rfl fun a S=>Vq S Jj rfl rfl rfl fun a S=>Dl ?_))
     obtain ⟨j3,hj3,h⟩:=Ey h
     refine Es (fun a w'=>∃ x7 : List Iw,∃ v8 : Value,∃ rs3 : List Tz,j3 x7 = some r ∧ Mg (Wf φ2) x7 rs3 ∧ Sx w [] φ2 [.own v8 179 3 rs3.length (rs3.flatMap Tz.enc),.own v7 177 2 (x2 ++ [(Kg.mk y1.Who ((El (Ii Af Ak Au) y1.Who (Dx.mk An 0 0 0 An An An 0 0 An 0)).Time))]).length ((x2 ++ [(Kg.mk y1.Who ((El (Ii Af Ak Au) y1.Who (Dx.mk An 0 0 0 An An An 0 0 An 0)).Time))]).flatMap Kg.enc),.map b2 (Ft Value.string Value.string (Gw x3 y1.Who y1.Club)) (Gw x3 y1.Who y1.Club).length] [(7,.map (some b1)),(8,.map (some b2)),(9,v7),(10,v8),(23,v2),(24,iV (r1.length : Int)),(25,iV (i1 : Int))] 72 a w') ?_ ?_
     ·refine Fc h (S.tm rfl) (fun hb2 h=>?_) (fun hb2 h=>?_)
      ·refine Fg (Vm S rfl rfl fun a S=>Vf Qc S rfl rfl fun a S=>Vl isAgg9 1 S rfl rfl rfl rfl fun a S=>Vf Xz S rfl rfl fun a S=>Vl isAgg3 0 S rfl rfl rfl rfl fun a S=>lv S (Nl bt_179 (pv:=[(0,sV y1.Who),(1,iV ((El (Ii Af Ak Au) y1.Who (Dx.mk An 0 0 0 An An An 0 0 An 0)).Fault))]) ⟨rfl,(S.tm rfl),rfl,(S.tm rfl),trivial⟩ (cs:=[sV y1.Who,iV ((El (Ii Af Ak Au) y1.Who (Dx.mk An 0 0 0 An An An 0 0 An 0)).Fault),.slice none 0 0]) (by kernel_rfl)) rfl fun a S=>Ff S underlying175 sizeOf179 zeroValue179 rfl rfl (pv:=[(0,.agg #[sV y1.Who,iV ((El (Ii Af Ak Au) y1.Who (Dx.mk An 0 0 0 An An An 0 0 An 0)).Fault),.slice none 0 0])]) ⟨rfl,(S.tm rfl),trivial⟩ (cs:=[sV y1.Who,iV ((El (Ii Af Ak Au) y1.Who (Dx.mk An 0 0 0 An An An 0 0 An 0)).Fault),.slice none 0 0]) (by kernel_rfl) rfl ?_);clear S;intro a w15 b7 hz7 hk11 S
       obtain ⟨hc2,h⟩:=Ij h
       have hr6 : Mg (Wf φ2) (x1 ++ [(Iw.mk y1.Who ((El (Ii Af Ak Au) y1.Who (Dx.mk An 0 0 0 An An An 0 0 An 0)).Fault) ([] : List ByteArray))]) (rs1 ++ [(Tz.mk y1.Who ((El (Ii Af Ak Au) y1.Who (Dx.mk An 0 0 0 An An An 0 0 An 0)).Fault) ⟨.slice none 0 0,rfl⟩)]):=Mg.app hr2 (Mg.cons ⟨⟨.slice none 0 0,rfl⟩,rfl,(GC _ _)⟩ Mg.nil)
       refine Np FL Tz.enc_ok S (S.tm rfl) (i:=3) rfl (S.tm rfl) (j:=0) rfl (ys:=[(Tz.mk y1.Who ((El (Ii Af Ak Au) y1.Who (Dx.mk An 0 0 0 An An An 0 0 An 0)).Fault) ⟨.slice none 0 0,rfl⟩)]) rfl rfl rfl rfl (by have:=Ob hc2;have:=Mg.len hr2;simp at this ⊢;omega) rfl ?_;clear S;intro v9 a w16 hk12 S
       refine Va S rfl rfl fun a S=>Ld ?_
       replace S:=(S.nl [.own v9 179 3 (rs1 ++ [(Tz.mk y1.Who ((El (Ii Af Ak Au) y1.Who (Dx.mk An 0 0 0 An An An 0 0 An 0)).Fault) ⟨.slice none 0 0,rfl⟩)]).length ((rs1 ++ [(Tz.mk y1.Who ((El (Ii Af Ak Au) y1.Who (Dx.mk An 0 0 0 An An An 0 0 An 0)).Fault) ⟨.slice none 0 0,rfl⟩)]).flatMap Tz.enc),.own v7 177 2 (x2 ++ [(Kg.mk y1.Who ((El (Ii Af Ak Au) y1.Who (Dx.mk An 0 0 0 An An An 0 0 An 0)).Time))]).length ((x2 ++ [(Kg.mk y1.Who ((El (Ii Af Ak Au) y1.Who (Dx.mk An 0 0 0 An An An 0 0 An 0)).Time))]).flatMap Kg.enc),.map b2 (Ft Value.string Value.string (Gw x3 y1.Who y1.Club)) (Gw x3 y1.Who y1.Club).length] [false,false,false,true,true,true] rfl).k7 7 8 9 10 23 24 25 rfl
       exact Tn (⟨(x1 ++ [(Iw.mk y1.Who ((El (Ii Af Ak Au) y1.Who (Dx.mk An 0 0 0 An An An 0 0 An 0)).Fault) ([] : List ByteArray))]),v9,(rs1 ++ [(Tz.mk y1.Who ((El (Ii Af Ak Au) y1.Who (Dx.mk An 0 0 0 An An An 0 0 An 0)).Fault) ⟨.slice none 0 0,rfl⟩)]),h,hr6,S.nf [true,true,true] rfl (subR rfl)⟩)
      ·exact wp_skip (Tn (⟨x1,v3,rs1,h,hr2,S.nf [false,false,true,true,true] rfl (subR rfl)⟩))
     clear S h;rintro a w14 ⟨x7,v8,rs3,h,hr5,S⟩;rw [hj3] at h;clear hj3 j3
     exact Hn (Tn (⟨x7,(x2 ++ [(Kg.mk y1.Who ((El (Ii Af Ak Au) y1.Who (Dx.mk An 0 0 0 An An An 0 0 An 0)).Time))]),(Gw x3 y1.Who y1.Club),v8,rs3,v7,h,hr5,S.nf [true,true,true] rfl (subR rfl)⟩))
   clear S h;rintro a w6 ⟨x4,x5,x6,v5,rs2,v6,h,hr3,S⟩;rw [hj2] at h;clear hj2 j2
   exact Tn (Fg (Vq S Gf rfl rfl rfl fun a S=>Vm S rfl rfl fun a S=>Dl (⟨ys1,⟨i1 + 1,x4,x5,x6,v5,rs2,v6,⟨_,(hd1).trans (List.append_cons _ _ _),by simp [hi1]⟩,h,hr3,S.nf [true,true,true] rfl ⟨rfl,rfl,rfl,rfl,rfl,rfl,(congrArg (fun z=>some (Value.int .i64 z)) (Hs hd1 hi1 (Jg (Hg Dx.enc_ok hs3)))),trivial⟩⟩,Nat.lt_succ_self _⟩)))
 clear S h;rintro a w5 ⟨x1,x2,x3,v3,rs1,v4,h,hr2,S⟩;rw [hj1] at h;clear hj1 j1
 refine Tn (Fr (Vm S rfl rfl fun a S=>Vm S rfl rfl ?_));clear S;intro a S
 obtain ⟨r2,hr7,h⟩:=Fd h
 have hz8:=S.keep.size
 refine Ei S (fun _=>Ea (vs:=[v4,v3]) ⟨(S.tm rfl),(S.tm rfl),trivial⟩ call103) (LO _ v4 x2 (CN Kg.enc_ok S (i:=1) rfl (Ie (e':=.own v4 177 2 x2.length (x2.flatMap Kg.enc)))) v3 x1 rs1 (CN Tz.enc_ok S (i:=0) rfl (Ie (e':=.own v3 179 3 rs1.length (rs1.flatMap Tz.enc)))) (JU (S.le_new Er) hr2) _ hr7) rfl ?_;clear S;intro v10 a w17 hv3 hk13 hn3 S
 obtain ⟨u6,rfl,ho3⟩:=hv3
 obtain ⟨φ3,hl3,hm4,S⟩:=S.see' hn3 hz8
 have hs4:=ho3.mono hm4
 refine Vm S rfl rfl fun a S=>Vq S Fy rfl rfl rfl fun a S=>Vq S Fy rfl rfl rfl fun a S=>Va S rfl rfl fun a S=>Va S rfl rfl fun a S=>Dl (Fs (Fg ?_))
 iterate 3 (refine Vm S rfl rfl ?_;clear S;intro a S)
 iterate 3 (refine Va S rfl rfl ?_;clear S;intro a S)
 refine Ld ?_
 replace S:=S.d1.d0.k3 4 5 6 rfl
 refine Tn (wp_ret ?_)
 obtain rfl:=Option.some.inj h
 exact f_ret3 S results55 rfl rfl rfl ⟨_,_,rfl,((hs4).mono S.le_newer),⟨_,rfl,S.map_ret (i:=0) rfl rfl⟩⟩
theorem ER (w : World) (Aj : Dy) (Al : Dy) (r : Int) (h : Oc Aj Al = r) :
    Calls prog 57 [.agg (Dy.enc Aj).toArray,.agg (Dy.enc Al).toArray].toArray w (Ret w [] fun _ v _=>v = iV r):=by
 refine Fe func57 rfl ntmps57 rfl fun a S=>?_
 unfold Oc at h
 replace S:=S.k2 0 1 rfl
 refine Fr (Mx S (S.tm rfl) (cs:=(Dy.enc Aj)) rfl rfl ?_);clear S;intro a w1 b1 hz1 hk1 S
 refine Mx S (S.tm rfl) (cs:=(Dy.enc Al)) rfl rfl ?_;clear S;intro a w2 b2 hz2 hk2 S
 refine Vk S rfl rfl fun a S=>Dl (Fs (Fr (Vf Oq S rfl rfl fun a S=>Vl isAgg3 1 S rfl rfl rfl rfl fun a S=>Vq S Jh rfl rfl rfl fun a S=>Vf Oq S rfl rfl fun a S=>Vl isAgg3 0 S rfl rfl rfl rfl ?_)));clear S;intro a S
 refine Vq S Jh rfl rfl rfl fun a S=>lv S (SR underlying4 (S.tm rfl) (S.tm rfl)) rfl fun a S=>Dl (Fc h (S.tm rfl) (fun hb1 h=>?_) (fun hb1 h=>?_))
 ·refine Fr (Vf Oq S rfl rfl fun a S=>Vl isAgg3 0 S rfl rfl rfl rfl fun a S=>Vf Oq S rfl rfl fun a S=>Vl isAgg3 1 S rfl rfl rfl rfl fun a S=>Vb S Iy rfl rfl rfl fun a S=>Va S rfl rfl fun a S=>Ld ?_)
  replace S:=S.n0.k1 4 rfl
  refine Tn (wp_ret (Ec ?_))
  subst h
  exact Eu S results57 rfl rfl
 ·refine wp_skip (Tn (Fs (Fr (Vf Oq S rfl rfl fun a S=>Vl isAgg3 1 S rfl rfl rfl rfl fun a S=>Vf Oq S rfl rfl fun a S=>Vl isAgg3 0 S rfl rfl rfl rfl fun a S=>Vb S Lf rfl rfl rfl fun a S=>Ld ?_))))
  replace S:=(S.nl [.blk b2 (Dy.enc Al) 129,.blk b1 (Dy.enc Aj) 129] [true,true] rfl).k3 2 3 21 rfl
  refine Tn (Fc h (S.tm rfl) (fun hb2 h=>?_) (fun hb2 h=>?_))
  ·refine Fr (Vf Oq S rfl rfl fun a S=>Vl isAgg3 1 S rfl rfl rfl rfl fun a S=>Vf Oq S rfl rfl fun a S=>Vl isAgg3 0 S rfl rfl rfl rfl fun a S=>Vb S Iy rfl rfl rfl fun a S=>Va S rfl rfl fun a S=>Dl (wp_ret ?_))
   refine Ec ?_
   subst h
   exact Eu S results57 rfl rfl
  ·refine wp_skip (Tn (Fr (Vf Yk S rfl rfl fun a S=>Vl isAgg9 1 S rfl rfl rfl rfl fun a S=>Vf Yk S rfl rfl fun a S=>Vl isAgg9 0 S rfl rfl rfl rfl fun a S=>Ei S (fun _=>Ea (vs:=[sV Aj.Who,sV Al.Who]) ⟨(S.tm rfl),(S.tm rfl),trivial⟩ call53) (Oy _ Aj.Who Al.Who _ rfl) rfl ?_)));clear S;intro v1 a w3 hv1 hk3 hn1 S
   subst hv1
   refine Va S rfl rfl fun a S=>Dl (wp_ret ?_)
   subst h
   exact Eu S results57 rfl rfl
set_option maxRecDepth 20000 in
theorem Ng (w : World) (O : Value) (Ai : List Dy) (Be : (LEnt.own O 129 5 Ai.length (Ai.flatMap Dy.enc)).holds w) (Aj : Int) (Al : Int) (r : (List Dy)) (h : Hq Ai Aj Al = some r) :
    Calls prog 133 [O,iV Aj,iV Al,.func (.func 57) #[] #[]].toArray w (Ret w (O.ownBlock.toList) fun _ v w'=>(LEnt.own O 129 5 r.length (r.flatMap Dy.enc)).holds w' ∧ v = .tuple #[]):=by
 refine Lb (O.ownBlock.toList) [.own O 129 5 Ai.length (Ai.flatMap Dy.enc)] func133 rfl ntmps133 rfl (fun e he=>by simp only [List.mem_singleton] at he;subst he;exact Be) (Iu _) (Js _) fun a S=>?_
 unfold Hq at h
 replace S:=(S.nl [.own O 129 5 Ai.length (Ai.flatMap Dy.enc)] [true] rfl).k4 0 1 2 3 rfl
 refine Fr (Vm S rfl rfl fun a S=>Vq S Gf rfl rfl rfl fun a S=>Va S rfl rfl fun a S=>Dl ?_)
 replace S:=S.k5 0 1 2 3 8 rfl
 obtain ⟨j1,hj1,h⟩:=Ey h
 refine Es (fun a w'=>∃ x1 : List Dy,j1 x1 = some r ∧ Sx w (O.ownBlock.toList) nov [.own O 129 5 x1.length (x1.flatMap Dy.enc)] [] 53 a w') ?_ ?_
 ·refine wp_block (Gz (fun (m1 : Nat) a w'=>∃ x1 : List Dy,∃ x2 : Int,Fp Al Aj j1 m1 x1 x2 = some r ∧ Sx w (O.ownBlock.toList) nov [.own O 129 5 x1.length (x1.flatMap Dy.enc)] [(0,O),(1,iV Aj),(2,iV Al),(3,.func (.func 57) #[] #[]),(8,iV x2)] 53 a w') id ((Al - (W (Aj + 1))).toNat + 2) ⟨Ai,W (Aj + 1),h,S.nf [true] rfl (subR rfl)⟩ ?_)
  clear S h;rintro m1 a w1 ⟨x1,x2,h,S⟩
  cases m1 with
  | zero=>rw [Fp.eq_1] at h;cases h
  | succ m1 =>
   rw [Fp.eq_2] at h
   refine Fs (Fr (Vm S rfl rfl fun a S=>Vm S rfl rfl fun a S=>Vb S Ev rfl rfl rfl fun a S=>Dl (Fc h (S.tm rfl) (fun hb1 h=>?_) (fun hb1 h=>?_))))
   ·refine wp_skip (Tn (Fs (wp_block (Fr (Vm S rfl rfl fun a S=>Va S rfl rfl fun a S=>Dl ?_)))))
    replace S:=S.k6 0 1 2 3 8 9 rfl
    obtain ⟨j2,hj2,h⟩:=Ey h
    refine Es (fun a w'=>∃ x3 : List Dy,j2 x3 = some r ∧ Sx w (O.ownBlock.toList) nov [.own O 129 5 x3.length (x3.flatMap Dy.enc)] [(0,O),(1,iV Aj),(2,iV Al),(3,.func (.func 57) #[] #[]),(8,iV x2)] 53 a w') ?_ ?_
    ·refine wp_block (Gz (fun (m2 : Nat) a w'=>∃ x3 : List Dy,∃ x4 : Int,Ex Aj j2 m2 x3 x4 = some r ∧ Sx w (O.ownBlock.toList) nov [.own O 129 5 x3.length (x3.flatMap Dy.enc)] [(0,O),(1,iV Aj),(2,iV Al),(3,.func (.func 57) #[] #[]),(8,iV x2),(9,iV x4)] 53 a w') id ((x2 - Aj).toNat + 2) ⟨x1,x2,h,S.nf [true] rfl (subR rfl)⟩ ?_)
     clear S h;rintro m2 a w3 ⟨x3,x4,h,S⟩
     cases m2 with
     | zero=>rw [Ex.eq_1] at h;cases h
     | succ m2 =>
      rw [Ex.eq_2] at h
      refine Fs (Fs ?_)
      obtain ⟨j3,hj3,h⟩:=Ey h
      refine Es (fun a w'=>∃ x5 : Bool,j3 x5 = some r ∧ Sx w (O.ownBlock.toList) nov [.own O 129 5 x3.length (x3.flatMap Dy.enc)] [(0,O),(1,iV Aj),(2,iV Al),(3,.func (.func 57) #[] #[]),(8,iV x2),(9,iV x4),(34,bV x5)] 53 a w') ?_ ?_
      ·rcases Bool.eq_false_or_eq_true (decide (Aj < x4)) with hb2 | hb2
       ·replace h:=Rg h hb2
        obtain ⟨hc1,h⟩:=Ij h
        obtain ⟨hc2,h⟩:=Ij h
        refine Hd [] ([]) Tryz.mixed S rfl (by kernel_rfl) ?_;clear S;intro w7 hk2 hsel S
        refine Ek 0 S hsel rfl rfl rfl (by kernel_rfl) (by kernel_rfl) rfl (fun _ hw=>(Rm (S.tm rfl))) fun a S=>Ek 1 S hsel rfl rfl rfl (by kernel_rfl) (by kernel_rfl) rfl (fun _ hw=>(Rm (S.tm rfl))) fun a S=>Ek 2 S hsel rfl rfl rfl (by kernel_rfl) (by kernel_rfl) rfl (fun _ hw=>(Jj (S.tm rfl) (S.tm rfl))) fun a S=>Ek 3 S hsel rfl rfl rfl (by kernel_rfl) (by kernel_rfl) rfl (fun _ hw=>(Rm (S.tm rfl))) fun a S=>Et 4 S hsel rfl rfl rfl rfl hb2 rfl rfl (by kernel_rfl) (by kernel_rfl) rfl (fun _ hw=>(Rm (S.tm rfl))) fun a S=>Et 5 S hsel rfl rfl rfl rfl hb2 rfl rfl (by kernel_rfl) (by kernel_rfl) rfl (fun _ hw=>(Rm (S.tm rfl))) fun a S=>Et 6 S hsel rfl rfl rfl rfl hb2 rfl rfl (by kernel_rfl) (by kernel_rfl) rfl (fun _ hw=>(Rm (S.tm rfl))) ?_;clear S;intro a S
        obtain ⟨b3,hg3,hr3⟩:=Gx (a:=a) (x:=.tmp 23) (y:=.tmp 24) (ty:=0) Oo Dy.enc_ok S (i:=0) rfl (Eh hc1).1 (Eh hc1).2 (S.tm rfl) (S.tm rfl)
        refine Et 7 S hsel rfl rfl rfl rfl hb2 rfl rfl (by kernel_rfl) (by kernel_rfl) rfl (fun _ hw=>(hr3 _)) ?_;clear S;intro a S
        clear hr3
        refine Et 8 S hsel rfl rfl rfl rfl hb2 rfl rfl (by kernel_rfl) (by kernel_rfl) rfl (fun _ hw=>(Fk isAgg129 sizeOf129 (off:=x4.toNat * 5) (o:=0) (part:=(Dy.enc (nth x3 x4))) rfl rfl (S.tm rfl) ((Ns Dy.enc_ok S (i:=0) rfl hg3 (Eh hc1).1 (Ie (e':=.own O 129 5 x3.length (x3.flatMap Dy.enc)))).kept hw))) fun a S=>Et 9 S hsel rfl rfl rfl rfl hb2 rfl rfl (by kernel_rfl) (by kernel_rfl) rfl (fun _ hw=>(Rm (S.tm rfl))) fun a S=>Et 10 S hsel rfl rfl rfl rfl hb2 rfl rfl (by kernel_rfl) (by kernel_rfl) rfl (fun _ hw=>(Rm (S.tm rfl))) fun a S=>Et 11 S hsel rfl rfl rfl rfl hb2 rfl rfl (by kernel_rfl) (by kernel_rfl) rfl (fun _ hw=>(Iy (S.tm rfl) rfl)) ?_;clear S;intro a S
        obtain ⟨b4,hg4,hr4⟩:=Gx (a:=a) (x:=.tmp 27) (y:=.tmp 29) (ty:=0) Oo Dy.enc_ok S (i:=0) rfl (Eh hc2).1 (Eh hc2).2 (S.tm rfl) (S.tm rfl)
        refine Et 12 S hsel rfl rfl rfl rfl hb2 rfl rfl (by kernel_rfl) (by kernel_rfl) rfl (fun _ hw=>(hr4 _)) ?_;clear S;intro a S
        clear hr4
        refine Et 13 S hsel rfl rfl rfl rfl hb2 rfl rfl (by kernel_rfl) (by kernel_rfl) rfl (fun _ hw=>(Fk isAgg129 sizeOf129 (off:=((W (x4 - 1)).toNat) * 5) (o:=0) (part:=(Dy.enc (nth x3 (W (x4 - 1))))) rfl rfl (S.tm rfl) ((Ns Dy.enc_ok S (i:=0) rfl hg4 (Eh hc2).1 (Ie (e':=.own O 129 5 x3.length (x3.flatMap Dy.enc)))).kept hw))) fun a S=>Hi 14 (by kernel_rfl) rfl (Ef S rfl rfl rfl hb2 (Ei S (fun _=>Ud (cap:=[]) (S.tm rfl) (vs:=[.agg (Dy.enc (nth x3 x4)).toArray,.agg (Dy.enc (nth x3 (W (x4 - 1)))).toArray]) ⟨(S.tm rfl),(S.tm rfl),trivial⟩ call57) (ER _ (nth x3 x4) (nth x3 (W (x4 - 1))) _ rfl) rfl ?_));clear S;intro v2 a w8 hv2 hk3 hn2 S
        subst hv2
        refine Ld (Ik hk3 (Lg [15,16] hsel (by kernel_rfl) rfl ?_))
        clear hsel
        refine Gc S rfl rfl rfl rfl hb2 (Hm S (Ev (S.tm rfl) rfl) rfl fun a S=>Gp S rfl (Qi hb2 (S.tm rfl) (S.tm rfl)) rfl fun a S=>It ?_)
        replace S:=S.nk [.own O 129 5 x3.length (x3.flatMap Dy.enc)] [(0,O),(1,iV Aj),(2,iV Al),(3,.func (.func 57) #[] #[]),(8,iV x2),(9,iV x4),(22,.func (.func 57) #[] #[]),(23,O),(24,iV x4),(25,.pointer (some ⟨b3,x4.toNat * 5,none⟩)),(26,.agg (Dy.enc (nth x3 x4)).toArray),(27,O),(28,iV x4),(29,iV (W (x4 - 1))),(30,.pointer (some ⟨b4,((W (x4 - 1)).toNat) * 5,none⟩)),(31,.agg (Dy.enc (nth x3 (W (x4 - 1)))).toArray),(32,iV (Oc (nth x3 x4) (nth x3 (W (x4 - 1))))),(33,bV (decide ((Oc (nth x3 x4) (nth x3 (W (x4 - 1)))) < 0))),(34,bV (decide ((Oc (nth x3 x4) (nth x3 (W (x4 - 1)))) < 0)))] [true] rfl (subR rfl)
        exact Tn (⟨decide ((Oc (nth x3 x4) (nth x3 (W (x4 - 1)))) < 0),h,S.nf [true] rfl (subR rfl)⟩)
       ·replace h:=Rh h hb2
        refine Hd [] ([]) Tryz.mixed S rfl (by kernel_rfl) ?_;clear S;intro w9 hk4 hsel S
        refine Lg [0,1,2,3,4,5,6,7,8,9,10,11,12,13,14,15,16] hsel (by kernel_rfl) rfl ?_
        clear hsel
        refine Gp S rfl (Rm (S.tm rfl)) rfl fun a S=>Gp S rfl (Rm (S.tm rfl)) rfl fun a S=>Gp S rfl (Jj (S.tm rfl) (S.tm rfl)) rfl fun a S=>Gp S rfl (Rm (S.tm rfl)) rfl ?_;clear S;intro a S
        iterate 12 (refine Qs S rfl rfl rfl rfl (Jw hb2) rfl ?_ rfl;clear S;intro a S)
        refine Gp S rfl (Qj hb2 (S.tm rfl) rfl) rfl fun a S=>It ?_
        replace S:=S.k7 0 1 2 3 8 9 34 rfl
        exact Tn (⟨false,h,S.nf [true] rfl (subR rfl)⟩)
      clear S h;rintro a w5 ⟨x5,h,S⟩;rw [hj3] at h;clear hj3 j3
      refine Tn (Fc h (S.tm rfl) (fun hb3 h=>?_) (fun hb3 h=>?_))
      ·refine wp_skip (Tn (Fs (wp_block ?_)))
       obtain ⟨hc3,h⟩:=Ij h
       obtain ⟨hc4,h⟩:=Ij h
       obtain ⟨hc5,h⟩:=Ij h
       obtain ⟨hc6,h⟩:=Ij h
       refine Hd [15,17] ([]) Tryz.mixed S rfl (by kernel_rfl) ?_;clear S;intro w14 hk9 hsel S
       refine Fz 0 S hsel rfl rfl (by kernel_rfl) (by kernel_rfl) rfl (fun _=>(Rm (S.tm rfl))) fun a S=>Fz 1 S hsel rfl rfl (by kernel_rfl) (by kernel_rfl) rfl (fun _=>(Rm (S.tm rfl))) fun a S=>Fz 2 S hsel rfl rfl (by kernel_rfl) (by kernel_rfl) rfl (fun _=>(Rm (S.tm rfl))) fun a S=>Fz 3 S hsel rfl rfl (by kernel_rfl) (by kernel_rfl) rfl (fun _=>(Rm (S.tm rfl))) fun a S=>Fz 4 S hsel rfl rfl (by kernel_rfl) (by kernel_rfl) rfl (fun _=>(Iy (S.tm rfl) rfl)) fun a S=>Fz 5 S hsel rfl rfl (by kernel_rfl) (by kernel_rfl) rfl (fun _=>(Rm (S.tm rfl))) fun a S=>Fz 6 S hsel rfl rfl (by kernel_rfl) (by kernel_rfl) rfl (fun _=>(Rm (S.tm rfl))) fun a S=>Fz 7 S hsel rfl rfl (by kernel_rfl) (by kernel_rfl) rfl (fun _=>(Iy (S.tm rfl) rfl)) ?_;clear S;intro a S
       obtain ⟨b9,hg9,hr9⟩:=Gx (a:=a) (x:=.tmp 42) (y:=.tmp 44) (ty:=0) Oo Dy.enc_ok S (i:=0) rfl (Eh hc3).1 (Eh hc3).2 (S.tm rfl) (S.tm rfl)
       refine Fz 8 S hsel rfl rfl (by kernel_rfl) (by kernel_rfl) rfl (fun _=>(hr9 _)) ?_;clear S;intro a S
       clear hr9
       refine Ek 9 S hsel rfl (by kernel_rfl) (by kernel_rfl) (by kernel_rfl) (by kernel_rfl) rfl (fun _ hw=>(Fk isAgg129 sizeOf129 (off:=((W (x4 - 1)).toNat) * 5) (o:=0) (part:=(Dy.enc (nth x3 (W (x4 - 1))))) rfl rfl (S.tm rfl) ((Ns Dy.enc_ok S (i:=0) rfl hg9 (Eh hc3).1 (Ie (e':=.own O 129 5 x3.length (x3.flatMap Dy.enc)))).kept hw))) fun a S=>Fz 10 S hsel rfl rfl (by kernel_rfl) (by kernel_rfl) rfl (fun _=>(Rm (S.tm rfl))) fun a S=>Fz 11 S hsel rfl rfl (by kernel_rfl) (by kernel_rfl) rfl (fun _=>(Rm (S.tm rfl))) ?_;clear S;intro a S
       obtain ⟨b10,hg10,hr10⟩:=Gx (a:=a) (x:=.tmp 47) (y:=.tmp 48) (ty:=0) Oo Dy.enc_ok S (i:=0) rfl (Eh hc4).1 (Eh hc4).2 (S.tm rfl) (S.tm rfl)
       refine Fz 12 S hsel rfl rfl (by kernel_rfl) (by kernel_rfl) rfl (fun _=>(hr10 _)) ?_;clear S;intro a S
       clear hr10
       refine Ek 13 S hsel rfl (by kernel_rfl) (by kernel_rfl) (by kernel_rfl) (by kernel_rfl) rfl (fun _ hw=>(Fk isAgg129 sizeOf129 (off:=x4.toNat * 5) (o:=0) (part:=(Dy.enc (nth x3 x4))) rfl rfl (S.tm rfl) ((Ns Dy.enc_ok S (i:=0) rfl hg10 (Eh hc4).1 (Ie (e':=.own O 129 5 x3.length (x3.flatMap Dy.enc)))).kept hw))) ?_;clear S;intro a S
       obtain ⟨b11,hg11,hr11⟩:=Gx (a:=a) (x:=.tmp 37) (y:=.tmp 38) (ty:=0) Oo Dy.enc_ok S (i:=0) rfl (Eh hc5).1 (Eh hc5).2 (S.tm rfl) (S.tm rfl)
       refine Fz 14 S hsel rfl rfl (by kernel_rfl) (by kernel_rfl) rfl (fun _=>(hr11 _)) ?_;clear S;intro a S
       clear hr11
       refine Wq 15 (O.ownBlock.toList) rfl (by kernel_rfl) rfl (Oe (c:=0) (j:=x4.toNat) (nth x3 (W (x4 - 1))) Dy.enc_ok S (S.tm rfl) (S.tm rfl) (i:=0) rfl hg11 (Eh hc5).1 sizeOf129 (vs:=[sV ((nth x3 (W (x4 - 1))).Race),sV ((nth x3 (W (x4 - 1))).Who),sV ((nth x3 (W (x4 - 1))).Club),iV ((nth x3 (W (x4 - 1))).Rank),bV ((nth x3 (W (x4 - 1))).Relay)]) rfl rfl rfl rfl rfl ?_);clear S;intro w16 hk11 S
       refine Ld (Wr ?_)
       obtain ⟨b12,hg12,hr12⟩:=Gx (a:=a) (x:=.tmp 39) (y:=.tmp 41) (ty:=0) Oo Dy.enc_ok S (i:=0) rfl (Eh hc6).1 (Eh hc6).2 (S.tm rfl) (S.tm rfl)
       refine Ek 16 S hsel rfl rfl rfl (by kernel_rfl) (by kernel_rfl) rfl (fun _ hw=>(hr12 _)) ?_;clear S;intro a S
       clear hr12
       refine Hi 17 (by kernel_rfl) rfl (Oe (c:=0) (j:=(W (x4 - 1)).toNat) (nth x3 x4) Dy.enc_ok S (S.tm rfl) (S.tm rfl) (i:=0) rfl hg12 (Eh hc6).1 sizeOf129 (vs:=[sV ((nth x3 x4).Race),sV ((nth x3 x4).Who),sV ((nth x3 x4).Club),iV ((nth x3 x4).Rank),bV ((nth x3 x4).Relay)]) rfl rfl rfl rfl rfl ?_);clear S;intro w18 hk13 S
       refine Ld (Ik hk13 (Wl (by kernel_rfl) ?_))
       clear hsel
       replace S:=(S.nl [.own O 129 5 ((x3.set x4.toNat (nth x3 (W (x4 - 1)))).set ((W (x4 - 1)).toNat) (nth x3 x4)).length (((x3.set x4.toNat (nth x3 (W (x4 - 1)))).set ((W (x4 - 1)).toNat) (nth x3 x4)).flatMap Dy.enc)] [true] rfl).k6 0 1 2 3 8 9 rfl
       exact Hn (Tn (Fg (Vm S rfl rfl fun a S=>Vq S Iy rfl rfl rfl fun a S=>Va S rfl rfl fun a S=>Dl (⟨m2,⟨((x3.set x4.toNat (nth x3 (W (x4 - 1)))).set ((W (x4 - 1)).toNat) (nth x3 x4)),W (x4 - 1),h,S.nf [true] rfl ⟨rfl,rfl,rfl,rfl,rfl,rfl,trivial⟩⟩,Nat.lt_succ_self _⟩))))
      ·exact wp_exit (Ep (Ep (Gr (Tn (⟨x3,h,S.nf [true] rfl (subR rfl)⟩)))))
    clear S h;rintro a w4 ⟨x3,h,S⟩;rw [hj2] at h;clear hj2 j2
    exact Hn (Tn (Fg (Vm S rfl rfl fun a S=>Vq S Gf rfl rfl rfl fun a S=>Va S rfl rfl fun a S=>Dl (⟨m1,⟨x3,W (x2 + 1),h,S.nf [true] rfl ⟨rfl,rfl,rfl,rfl,rfl,trivial⟩⟩,Nat.lt_succ_self _⟩))))
   ·exact wp_exit (Ep (Ep (Gr (Tn (⟨x1,h,S.nf [true] rfl trivial⟩)))))
 clear S h;rintro a w2 ⟨x1,h,S⟩;rw [hj1] at h;clear hj1 j1
 obtain rfl:=Option.some.inj h
 exact Ri S results133 ⟨(S.holds _ (List.mem_of_getElem? (i:=0) rfl)),rfl⟩
theorem Sl (w : World) (O : Value) (Ai : List Dy) (Be : (LEnt.own O 129 5 Ai.length (Ai.flatMap Dy.enc)).holds w) (Ba : Int) (r : (List Dy)) (h : Ka Ai Ba = some r) :
    Calls prog 104 [O,iV Ba,.func (.func 57) #[] #[]].toArray w (Ret w (O.ownBlock.toList) fun _ v w'=>(LEnt.own O 129 5 r.length (r.flatMap Dy.enc)).holds w' ∧ v = .tuple #[]):=by
 refine Lb (O.ownBlock.toList) [.own O 129 5 Ai.length (Ai.flatMap Dy.enc)] func104 rfl ntmps104 rfl (fun e he=>by simp only [List.mem_singleton] at he;subst he;exact Be) (Iu _) (Js _) fun a S=>?_
 unfold Ka at h
 replace S:=(S.nl [.own O 129 5 Ai.length (Ai.flatMap Dy.enc)] [true] rfl).k3 0 1 2 rfl
 refine Fr (Vk S rfl rfl fun a S=>Dz (Vm S rfl rfl fun a S=>Vk S rfl rfl fun a S=>Va S rfl rfl fun a S=>Ld ?_))
 refine Tn (Fs ?_)
 replace S:=S.k6 0 1 2 6 7 8 rfl
 obtain ⟨j1,hj1,h⟩:=Ey h
 refine Es (fun a w'=>∃ x1 : List Dy,∃ x2 : Int,j1 x1 x2 = some r ∧ Sx w (O.ownBlock.toList) nov [.own O 129 5 x1.length (x1.flatMap Dy.enc)] [(0,O),(1,iV Ba),(2,.func (.func 57) #[] #[]),(6,iV 20),(7,iV x2)] 63 a w') ?_ ?_
 ·refine wp_block (Gz (fun (m1 : Nat) a w'=>∃ x1 : List Dy,∃ x2 : Int,∃ x3 : Int,Gk Ba j1 m1 x1 x2 x3 = some r ∧ Sx w (O.ownBlock.toList) nov [.own O 129 5 x1.length (x1.flatMap Dy.enc)] [(0,O),(1,iV Ba),(2,.func (.func 57) #[] #[]),(6,iV 20),(7,iV x2),(8,iV x3)] 63 a w') id ((Ba - 20).toNat + 2) ⟨Ai,0,20,h,S.nf [true] rfl (subR rfl)⟩ ?_)
  clear S h;rintro m1 a w1 ⟨x1,x2,x3,h,S⟩
  cases m1 with
  | zero=>rw [Gk.eq_1] at h;cases h
  | succ m1 =>
   rw [Gk.eq_2] at h
   refine Fs (Fr (Vm S rfl rfl fun a S=>Vm S rfl rfl fun a S=>Vb S Us rfl rfl rfl fun a S=>Dl (Fc h (S.tm rfl) (fun hb1 h=>?_) (fun hb1 h=>?_))))
   ·refine wp_skip (Tn (wp_block (Fs (Fg ?_))))
    iterate 4 (refine Vm S rfl rfl ?_;clear S;intro a S)
    obtain ⟨r1,hr1,h⟩:=Fd h
    refine Mr 0 S rfl (fun _=>.own O 129 5 r1.length (r1.flatMap Dy.enc)) (fun _=>Ea (vs:=[O,iV x2,iV x3,.func (.func 57) #[] #[]]) ⟨(S.tm rfl),(S.tm rfl),(S.tm rfl),(S.tm rfl),trivial⟩ call133) (Ng _ O x1 (S.holds _ (List.mem_of_getElem? (i:=0) rfl)) x2 x3 _ hr1) rfl (fun _ _ _ h=>⟨h.1,fun _ hc=>hc⟩) ?_;clear S;intro v1 a w3 hv1 hk1 hn1 S
    replace hv1:=hv1.2
    subst hv1
    refine Dz (Vm S rfl rfl fun a S=>Va S rfl rfl fun a S=>Ld ?_)
    replace S:=(S.nl [.own O 129 5 r1.length (r1.flatMap Dy.enc)] [true] rfl).k6 0 1 2 6 7 8 rfl
    exact Tn (Fg (Vm S rfl rfl fun a S=>Vm S rfl rfl fun a S=>Vb S Gf rfl rfl rfl fun a S=>Va S rfl rfl fun a S=>Ld (Hn (Tn (⟨m1,⟨r1,x3,W (x3 + 20),h,S.nf [true] rfl ⟨rfl,rfl,rfl,rfl,rfl,rfl,trivial⟩⟩,Nat.lt_succ_self _⟩)))))
   ·exact wp_exit (Ep (Ep (Gr (Tn (⟨x1,x2,h,S.nf [true] rfl (subR rfl)⟩)))))
 clear S h;rintro a w2 ⟨x1,x2,h,S⟩;rw [hj1] at h;clear hj1 j1
 refine Tn (Fs (Fg ?_))
 iterate 4 (refine Vm S rfl rfl ?_;clear S;intro a S)
 obtain ⟨r2,hr2,h⟩:=Fd h
 refine Mr 0 S rfl (fun _=>.own O 129 5 r2.length (r2.flatMap Dy.enc)) (fun _=>Ea (vs:=[O,iV x2,iV Ba,.func (.func 57) #[] #[]]) ⟨(S.tm rfl),(S.tm rfl),(S.tm rfl),(S.tm rfl),trivial⟩ call133) (Ng _ O x1 (S.holds _ (List.mem_of_getElem? (i:=0) rfl)) x2 Ba _ hr2) rfl (fun _ _ _ h=>⟨h.1,fun _ hc=>hc⟩) ?_;clear S;intro v2 a w4 hv2 hk2 hn2 S
 replace hv2:=hv2.2
 subst hv2
 refine Dl ?_
 replace S:=(S.nl [.own O 129 5 r2.length (r2.flatMap Dy.enc)] [true] rfl).k2 1 6 rfl
 obtain ⟨j2,hj2,h⟩:=Ey h
 refine Es (fun a w'=>j2 = some r ∧ Sx w (O.ownBlock.toList) nov [.own O 129 5 r2.length (r2.flatMap Dy.enc)] [] 63 a w') ?_ ?_
 ·refine wp_block (Gz (fun (m2 : Nat) a w'=>∃ x4 : Int,Gl Ba j2 m2 x4 = some r ∧ Sx w (O.ownBlock.toList) nov [.own O 129 5 r2.length (r2.flatMap Dy.enc)] [(1,iV Ba),(6,iV x4)] 63 a w') id ((Ba - 20).toNat + 2) ⟨20,h,S.nf [true] rfl (subR rfl)⟩ ?_)
  clear S h;rintro m2 a w5 ⟨x4,h,S⟩
  cases m2 with
  | zero=>rw [Gl.eq_1] at h;cases h
  | succ m2 =>
   rw [Gl.eq_2] at h
   refine Fs (Fr (Vm S rfl rfl fun a S=>Vm S rfl rfl fun a S=>Vb S Ev rfl rfl rfl fun a S=>Dl (Fc h (S.tm rfl) (fun hb2 h=>?_) (fun hb2 h=>?_))))
   ·refine wp_skip (Tn (wp_block (Fr (Vm S rfl rfl fun a S=>Vu S (Xk rfl) rfl rfl fun a S=>Vk S rfl rfl fun a S=>Va S rfl rfl fun a S=>Dl ?_))))
    refine Fs ?_
    replace S:=S.k4 1 6 7 8 rfl
    obtain ⟨j3,hj3,h⟩:=Ey h
    refine Es (fun a w'=>∃ x5 : Int,j3 x5 = some r ∧ Sx w (O.ownBlock.toList) nov [.own O 129 5 r2.length (r2.flatMap Dy.enc)] [(1,iV Ba),(6,iV x4),(7,iV x5)] 63 a w') ?_ ?_
    ·refine wp_block (Gz (fun (m3 : Nat) a w'=>∃ x5 : Int,∃ x6 : Int,Hl Ba j3 m3 x5 x6 = some r ∧ Sx w (O.ownBlock.toList) nov [.own O 129 5 r2.length (r2.flatMap Dy.enc)] [(1,iV Ba),(6,iV x4),(7,iV x5),(8,iV x6)] 63 a w') id ((Ba - (W (2 * x4))).toNat + 2) ⟨0,W (2 * x4),h,S.nf [true] rfl (subR rfl)⟩ ?_)
     clear S h;rintro m3 a w7 ⟨x5,x6,h,S⟩
     cases m3 with
     | zero=>rw [Hl.eq_1] at h;cases h
     | succ m3 =>
      rw [Hl.eq_2] at h
      refine Fs (Fr (Vm S rfl rfl fun a S=>Vm S rfl rfl fun a S=>Vb S Us rfl rfl rfl fun a S=>Dl (Fc h (S.tm rfl) (fun hb3 h=>?_) (fun hb3 h=>?_))))
      ·refine wp_skip (Tn (wp_block (Fs ?_)))
       cases h
      ·exact wp_exit (Ep (Ep (Gr (Tn (⟨x5,h,S.nf [true] rfl (subR rfl)⟩)))))
    clear S h;rintro a w8 ⟨x5,h,S⟩;rw [hj3] at h;clear hj3 j3
    refine Tn (Fs (Fr (Vm S rfl rfl fun a S=>Vm S rfl rfl fun a S=>Vb S Gf rfl rfl rfl fun a S=>Va S rfl rfl fun a S=>Dl (Fs ?_))))
    refine Fg (Vm S rfl rfl fun a S=>Vm S rfl rfl fun a S=>Vb S Ev rfl rfl rfl fun a S=>Dl (Fc h (S.tm rfl) (fun hb4 h=>?_) (fun hb4 h=>?_)))
    ·cases h
    ·exact wp_skip (Tn (Fg (Vm S rfl rfl fun a S=>Vq S Xk rfl rfl rfl fun a S=>Va S rfl rfl fun a S=>Ld (Hn (Tn (⟨m2,⟨W (x4 * 2),h,S.nf [true] rfl ⟨rfl,rfl,trivial⟩⟩,Nat.lt_succ_self _⟩))))))
   ·exact wp_exit (Ep (Ep (Gr (Tn (⟨h,S.nf [true] rfl trivial⟩)))))
 clear S h;rintro a w6 ⟨h,S⟩;rw [hj2] at h;clear hj2 j2
 obtain rfl:=Option.some.inj h
 exact Ri S results104 ⟨(S.holds _ (List.mem_of_getElem? (i:=0) rfl)),rfl⟩
theorem Rw (w : World) (Ay : Value) (Ac : List Dy) (Ci : (LEnt.own Ay 129 5 Ac.length (Ac.flatMap Dy.enc)).holds w) (r : (List Dy)) (h : Ho Ac = some r) :
    Calls prog 56 [Ay,.func (.func 57) #[] #[]].toArray w (Ret w (Ay.ownBlock.toList) fun _ v w'=>(LEnt.own Ay 129 5 r.length (r.flatMap Dy.enc)).holds w' ∧ v = .tuple #[]):=by
 refine Lb (Ay.ownBlock.toList) [.own Ay 129 5 Ac.length (Ac.flatMap Dy.enc)] func56 rfl ntmps56 rfl (fun e he=>by simp only [List.mem_singleton] at he;subst he;exact Ci) (Iu _) (Js _) fun a S=>?_
 unfold Ho at h
 replace S:=(S.nl [.own Ay 129 5 Ac.length (Ac.flatMap Dy.enc)] [true] rfl).k2 0 1 rfl
 refine Fg (Vm S rfl rfl fun a S=>Vm S rfl rfl fun a S=>lv S (Fq Oo (S.tm rfl) (Oh (S.own_at (i:=0) rfl))) rfl fun a S=>Vm S rfl rfl ?_);clear S;intro a S
 obtain ⟨r1,hr1,h⟩:=Fd h
 refine Mr 0 S rfl (fun _=>.own Ay 129 5 r1.length (r1.flatMap Dy.enc)) (fun _=>Ea (vs:=[Ay,iV (Ac.length : Int),.func (.func 57) #[] #[]]) ⟨(S.tm rfl),(S.tm rfl),(S.tm rfl),trivial⟩ call104) (Sl _ Ay Ac (S.holds _ (List.mem_of_getElem? (i:=0) rfl)) (Ac.length : Int) _ hr1) rfl (fun _ _ _ h=>⟨h.1,fun _ hc=>hc⟩) ?_;clear S;intro v1 a w1 hv1 hk1 hn1 S
 replace hv1:=hv1.2
 subst hv1
 refine Ld ?_
 obtain rfl:=Option.some.inj h
 exact Ri S results56 ⟨(S.holds _ (List.mem_of_getElem? (i:=0) rfl)),rfl⟩
theorem BT (w : World) (Aj : Int) (Al : Int) (r : Int) (h : Md Aj Al = r) :
    Calls prog 181 [iV Aj,iV Al].toArray w (Ret w [] fun _ v _=>v = iV r):=by
 refine Fe func181 rfl ntmps181 rfl fun a S=>?_
 unfold Md at h
 replace S:=S.k2 0 1 rfl
 refine Fr (Vk S rfl rfl fun a S=>Dl (Fs (Fr (Vm S rfl rfl fun a S=>Vq S Jh rfl rfl rfl fun a S=>Ld ?_))))
 refine Tn ?_
 obtain ⟨j1,hj1,h⟩:=Ey h
 refine Es (fun a w'=>∃ x1 : Int,j1 x1 = r ∧ Sx w [] nov [] [(0,iV x1),(1,iV Al)] 12 a w') ?_ ?_
 ·refine Fc h (S.tm rfl) (fun hb1 h=>?_) (fun hb1 h=>?_)
  ·exact Fg (Vk S rfl rfl fun a S=>Dl (⟨301,h,S.nf [] rfl (subR rfl)⟩))
  ·exact wp_skip (Tn (⟨Aj,h,S.nf [] rfl (subR rfl)⟩))
 clear S h;rintro a w1 ⟨x1,h,S⟩;rw [hj1] at h;clear hj1 j1
 refine Tn (Fs (Fr (Vm S rfl rfl fun a S=>Vq S Jh rfl rfl rfl fun a S=>Dl ?_)))
 obtain ⟨j2,hj2,h⟩:=Ey h
 refine Es (fun a w'=>∃ x2 : Int,j2 x2 = r ∧ Sx w [] nov [] [(0,iV x1),(1,iV x2)] 12 a w') ?_ ?_
 ·refine Fc h (S.tm rfl) (fun hb2 h=>?_) (fun hb2 h=>?_)
  ·exact Fg (Vk S rfl rfl fun a S=>Dl (⟨301,h,S.nf [] rfl (subR rfl)⟩))
  ·exact wp_skip (Tn (⟨Al,h,S.nf [] rfl (subR rfl)⟩))
 clear S h;rintro a w2 ⟨x2,h,S⟩;rw [hj2] at h;clear hj2 j2
 refine Tn (Fr (Vm S rfl rfl fun a S=>Vm S rfl rfl fun a S=>Vb S Iy rfl rfl rfl fun a S=>Va S rfl rfl fun a S=>Dl (wp_ret ?_)))
 subst h
 exact Eu S results181 rfl rfl
set_option maxRecDepth 20000 in
theorem GW (w : World) (Aj : Dy) (Al : Dy) (r : Int) (h : Tb Aj Al = r) :
    Calls prog 166 [.agg (Dy.enc Aj).toArray,.agg (Dy.enc Al).toArray].toArray w (Ret w [] fun _ v _=>v = iV r):=by
 refine Fe func166 rfl ntmps166 rfl fun a S=>?_
 unfold Tb at h
 replace S:=S.k2 0 1 rfl
 refine Fr (Mx S (S.tm rfl) (cs:=(Dy.enc Aj)) rfl rfl ?_);clear S;intro a w1 b1 hz1 hk1 S
 refine Mx S (S.tm rfl) (cs:=(Dy.enc Al)) rfl rfl ?_;clear S;intro a w2 b2 hz2 hk2 S
 refine Vk S rfl rfl fun a S=>Dl (Fs (Hd [] ([]) Tryz.mixed S rfl (by kernel_rfl) ?_));clear S;intro w8 hk8 hsel S
 refine Ek 0 S hsel rfl rfl rfl (by kernel_rfl) (by kernel_rfl) rfl (fun _ hw=>(Gv Yj (S.tm rfl))) fun a S=>Ek 1 S hsel rfl rfl rfl (by kernel_rfl) (by kernel_rfl) rfl (fun _ hw=>(Ic isAgg9 (off:=0) (o:=0) (S.tm rfl) ((S.blk_mem (i:=1) (cells:=(Dy.enc Aj)) (b:=b1) (T:=129) rfl (Ie (e':=.blk b1 (Dy.enc Aj) 129))).kept hw) rfl)) fun a S=>Ek 2 S hsel rfl rfl rfl (by kernel_rfl) (by kernel_rfl) rfl (fun _ hw=>(Gv Yj (S.tm rfl))) fun a S=>Ek 3 S hsel rfl rfl rfl (by kernel_rfl) (by kernel_rfl) rfl (fun _ hw=>(Ic isAgg9 (off:=0) (o:=0) (S.tm rfl) ((S.blk_mem (i:=0) (cells:=(Dy.enc Al)) (b:=b2) (T:=129) rfl (Ie (e':=.blk b2 (Dy.enc Al) 129))).kept hw) rfl)) fun a S=>Ek 5 S hsel rfl rfl rfl (by kernel_rfl) (by kernel_rfl) rfl (fun _ hw=>(Gv Oq (S.tm rfl))) fun a S=>Ek 6 S hsel rfl rfl rfl (by kernel_rfl) (by kernel_rfl) rfl (fun _ hw=>(Ic isAgg3 (off:=0) (o:=3) (S.tm rfl) ((S.blk_mem (i:=1) (cells:=(Dy.enc Aj)) (b:=b1) (T:=129) rfl (Ie (e':=.blk b1 (Dy.enc Aj) 129))).kept hw) rfl)) fun a S=>Ek 7 S hsel rfl rfl rfl (by kernel_rfl) (by kernel_rfl) rfl (fun _ hw=>(Gv Oq (S.tm rfl))) fun a S=>Ek 8 S hsel rfl rfl rfl (by kernel_rfl) (by kernel_rfl) rfl (fun _ hw=>(Ic isAgg3 (off:=0) (o:=3) (S.tm rfl) ((S.blk_mem (i:=0) (cells:=(Dy.enc Al)) (b:=b2) (T:=129) rfl (Ie (e':=.blk b2 (Dy.enc Al) 129))).kept hw) rfl)) fun a S=>Ek 10 S hsel rfl rfl rfl (by kernel_rfl) (by kernel_rfl) rfl (fun _ hw=>(Gv Yk (S.tm rfl))) fun a S=>Ek 11 S hsel rfl rfl rfl (by kernel_rfl) (by kernel_rfl) rfl (fun _ hw=>(Ic isAgg9 (off:=0) (o:=1) (S.tm rfl) ((S.blk_mem (i:=1) (cells:=(Dy.enc Aj)) (b:=b1) (T:=129) rfl (Ie (e':=.blk b1 (Dy.enc Aj) 129))).kept hw) rfl)) ?_;clear S;intro a S
 refine Ek 12 S hsel rfl rfl rfl (by kernel_rfl) (by kernel_rfl) rfl (fun _ hw=>(Gv Yk (S.tm rfl))) fun a S=>Ek 13 S hsel rfl rfl rfl (by kernel_rfl) (by kernel_rfl) rfl (fun _ hw=>(Ic isAgg9 (off:=0) (o:=1) (S.tm rfl) ((S.blk_mem (i:=0) (cells:=(Dy.enc Al)) (b:=b2) (T:=129) rfl (Ie (e':=.blk b2 (Dy.enc Al) 129))).kept hw) rfl)) fun a S=>Hi 4 (by kernel_rfl) rfl (Ei S (fun _=>Ea (vs:=[sV Aj.Race,sV Al.Race]) ⟨(S.tm rfl),(S.tm rfl),trivial⟩ call53) (Oy _ Aj.Race Al.Race _ rfl) rfl ?_);clear S;intro v5 a w9 hv5 hk9 hn5 S
 subst hv5
 refine Ld (Ik hk9 (Hi 9 (by kernel_rfl) rfl (Ei S (fun _=>Ea (vs:=[iV Aj.Rank,iV Al.Rank]) ⟨(S.tm rfl),(S.tm rfl),trivial⟩ call181) (BT _ Aj.Rank Al.Rank _ rfl) rfl ?_)));clear S;intro v6 a w10 hv6 hk10 hn6 S
 subst hv6
 refine Ld (Ik hk10 (Hi 14 (by kernel_rfl) rfl (Ei S (fun _=>Ea (vs:=[sV Aj.Who,sV Al.Who]) ⟨(S.tm rfl),(S.tm rfl),trivial⟩ call53) (Oy _ Aj.Who Al.Who _ rfl) rfl ?_)));clear S;intro v7 a w11 hv7 hk11 hn7 S
 subst hv7
 refine Ld (Ik hk11 (Hi 15 (by kernel_rfl) rfl (Ff S underlying22 sizeOf3 zeroValue3 rfl rfl (pv:=[(0,iV (Hw Aj.Race Al.Race)),(1,iV (Md Aj.Rank Al.Rank)),(2,iV (Hw Aj.Who Al.Who))]) ⟨rfl,(S.tm rfl),rfl,(S.tm rfl),rfl,(S.tm rfl),trivial⟩ (cs:=[iV (Hw Aj.Race Al.Race),iV (Md Aj.Rank Al.Rank),iV (Hw Aj.Who Al.Who)]) (by kernel_rfl) rfl ?_)));clear S;intro a w12 b4 hz4 hk12 S
 refine Ld (Ik hk12 (Hi 16 (by kernel_rfl) rfl (Ei S (fun _=>Ea (vs:=[.slice (some ⟨b4,0,none⟩) 3 3]) ⟨(S.tm rfl),trivial⟩ call51) (FB _ (.slice (some ⟨b4,0,none⟩) 3 3) [(Hw Aj.Race Al.Race),(Md Aj.Rank Al.Rank),(Hw Aj.Who Al.Who)] (Kv Jb S (i:=0) rfl rfl rfl rfl ((Ie (e':=.blk b4 [iV (Hw Aj.Race Al.Race),iV (Md Aj.Rank Al.Rank),iV (Hw Aj.Who Al.Who)] 3)) _ rfl)) _ rfl) rfl ?_)));clear S;intro v8 a w13 hv8 hk13 hn8 S
 subst hv8
 refine Ld (Ik hk13 (Lg [17] hsel (by kernel_rfl) rfl ?_))
 clear hsel
 refine Gp S rfl (Ra (S.tm rfl)) rfl fun a S=>It ?_
 replace S:=S.n0.k1 4 rfl
 refine Tn (wp_ret ?_)
 subst h
 exact Eu S results166 rfl rfl
set_option maxRecDepth 20000 in
theorem CA (w : World) (ψ : View) (hψ : View.le ψ (view w [])) (Ab : Value) (Ae : List Dy) (Ag : Slc ψ 5 Ab (Ae.map Dy.enc)) (r : (List (List Dy))) (h : Tk Ae = some r) :
    Calls prog 136 [Ab].toArray w (Ret w [] fun τ v _=>SlcD (join ψ τ) 1 RS.enc Zy v r):=by
 refine Fe func136 rfl ntmps136 rfl fun a S=>?_
 unfold Tk at h
 replace S:=S.k1 0 rfl
 refine Fr (Vk S rfl rfl fun a S=>Dz (Vk S rfl rfl ?_));clear S;intro a S
 replace S:=S.nil 125 1
 refine Dl (Fs (Fr (Vk S rfl rfl fun a S=>Dl ?_)))
 replace S:=(S.nl [.own (.slice none 0 0) 125 1 ([] : List RS).length (([] : List RS).flatMap RS.enc)] [true] rfl).k3 0 3 4 rfl
 obtain ⟨j1,hj1,h⟩:=Ey h
 refine Es (fun a w'=>∃ x1 : List (List Dy),∃ v1 : Value,∃ rs1 : List RS,j1 x1 = some r ∧ Mg (Zy (join ψ nov)) x1 rs1 ∧ Sx w [] nov [.own v1 125 1 rs1.length (rs1.flatMap RS.enc)] [(3,v1)] 41 a w') ?_ ?_
 ·refine wp_block (Gz (fun (m1 : Nat) a w'=>∃ x1 : List (List Dy),∃ x2 : Int,∃ v1 : Value,∃ rs1 : List RS,Mf Ae j1 m1 x1 x2 = some r ∧ Mg (Zy (join ψ nov)) x1 rs1 ∧ Sx w [] nov [.own v1 125 1 rs1.length (rs1.flatMap RS.enc)] [(0,Ab),(3,v1),(4,iV x2)] 41 a w') id (((Ae.length : Int) - 0).toNat + 2) ⟨([] : List (List Dy)),0,(.slice none 0 0),([] : List RS),h,.nil,S.nf [true] rfl (subR rfl)⟩ ?_)
  clear S h;rintro m1 a w1 ⟨x1,x2,v1,rs1,h,hr1,S⟩
  cases m1 with
  | zero=>rw [Mf.eq_1] at h;cases h
  | succ m1 =>
   rw [Mf.eq_2] at h
   refine Fs (Fr (Vm S rfl rfl fun a S=>Vm S rfl rfl fun a S=>lv S (Fq Oo (S.tm rfl) (Fm Ag)) rfl fun a S=>Vb S Ev rfl rfl rfl fun a S=>Dl (Fc h (S.tm rfl) (fun hb1 h=>?_) (fun hb1 h=>?_))))
   ·refine wp_skip (Tn (wp_block (Fr (Vm S rfl rfl fun a S=>Vq S Gf rfl rfl rfl fun a S=>Va S rfl rfl fun a S=>Dl (Fs ?_)))))
    replace S:=S.k4 0 3 4 5 rfl
    obtain ⟨j2,hj2,h⟩:=Ey h
    refine Es (fun a w'=>∃ x3 : Int,j2 x3 = some r ∧ Sx w [] nov [.own v1 125 1 rs1.length (rs1.flatMap RS.enc)] [(0,Ab),(3,v1),(4,iV x2),(5,iV x3)] 41 a w') ?_ ?_
    ·refine wp_block (Gz (fun (m2 : Nat) a w'=>∃ x3 : Int,Oa Ae x2 j2 m2 x3 = some r ∧ Sx w [] nov [.own v1 125 1 rs1.length (rs1.flatMap RS.enc)] [(0,Ab),(3,v1),(4,iV x2),(5,iV x3)] 41 a w') id (((Ae.length : Int) - (W (x2 + 1))).toNat + 2) ⟨W (x2 + 1),h,S.nf [true] rfl (subR rfl)⟩ ?_)
     clear S h;rintro m2 a w3 ⟨x3,h,S⟩
     cases m2 with
     | zero=>rw [Oa.eq_1] at h;cases h
     | succ m2 =>
      rw [Oa.eq_2] at h
      refine Fs (Fs (Hd [] ([]) Tryz.mixed S rfl (by kernel_rfl) ?_));clear S;intro w5 hk1 hsel S
      refine Lg [0,1,2,3,4,5,6,7,8,9,10,11,12,13,14,15,16] hsel (by kernel_rfl) rfl ?_
      clear hsel
      refine Gp S rfl (Rm (S.tm rfl)) rfl fun a S=>Gp S rfl (Rm (S.tm rfl)) rfl fun a S=>Gp S rfl (Fq Oo (S.tm rfl) (Fm Ag)) rfl fun a S=>Gp S rfl (Ev (S.tm rfl) (S.tm rfl)) rfl fun a S=>Gp S rfl (Rm (S.tm rfl)) rfl ?_;clear S;intro a S
      obtain ⟨j3,hj3,h⟩:=Ey h
      refine AB 12 (fun a w'=>∃ c1,j3 c1 = some r ∧ Keep [] w5 w' ∧ Sx w [] nov [.own v1 125 1 rs1.length (rs1.flatMap RS.enc)] [(0,Ab),(3,v1),(4,iV x2),(5,iV x3),(28,bV c1)] 41 a w') ?_ ?_
      ·rcases Bool.eq_false_or_eq_true (decide (x3 < (Ae.length : Int))) with hb2 | hb2
       ·replace h:=Rg h hb2
        refine Gc S rfl rfl rfl rfl hb2 (Hm S (Rm (S.tm rfl)) rfl fun a S=>Gc S rfl rfl rfl rfl hb2 (Hm S (Rm (S.tm rfl)) rfl fun a S=>Gc S rfl rfl rfl rfl hb2 ?_))
        obtain ⟨hc1,h⟩:=Ij h
        obtain ⟨b1,o1,hm1,hr2⟩:=Fh (a:=a) (x:=.tmp 17) (y:=.tmp 18) (ty:=0) Oo Ag (Eh hc1).1 (Eh hc1).2 (S.tm rfl) (S.tm rfl)
        refine Hm S (hr2 _) rfl ?_;clear S;intro a S
        clear hr2
        refine Gc S rfl rfl rfl rfl hb2 (Hm S (Gv Yj (S.tm rfl)) rfl fun a S=>Gc S rfl rfl rfl rfl hb2 (Hm S (Ic isAgg9 (off:=o1) (o:=0) (S.tm rfl) (hm1.at (RJ hψ S.emb0)) rfl) rfl fun a S=>Gc S rfl rfl rfl rfl hb2 (Hm S (Rm (S.tm rfl)) rfl fun a S=>Gc S rfl rfl rfl rfl hb2 (Hm S (Rm (S.tm rfl)) rfl fun a S=>Gc S rfl rfl rfl rfl hb2 ?_))))
        obtain ⟨hc2,h⟩:=Ij h
        obtain ⟨b2,o2,hm2,hr3⟩:=Fh (a:=a) (x:=.tmp 22) (y:=.tmp 23) (ty:=0) Oo Ag (Eh hc2).1 (Eh hc2).2 (S.tm rfl) (S.tm rfl)
        refine Hm S (hr3 _) rfl ?_;clear S;intro a S
        clear hr3
        exact Gc S rfl rfl rfl rfl hb2 (Hm S (Gv Yj (S.tm rfl)) rfl fun a S=>Gc S rfl rfl rfl rfl hb2 (Hm S (Ic isAgg9 (off:=o2) (o:=0) (S.tm rfl) (hm2.at (RJ hψ S.emb0)) rfl) rfl fun a S=>Gc S rfl rfl rfl rfl hb2 (Hm S (Xw (S.tm rfl) (S.tm rfl)) rfl fun a S=>Gp S rfl (Hz hb2 (S.tm rfl) (S.tm rfl)) rfl fun a S=>It (⟨_,h,Keep.refl _ _,S.nf [true] rfl (subR rfl)⟩))))
       ·replace h:=Rh h hb2
        iterate 11 (refine Qs S rfl rfl rfl rfl (Jw hb2) rfl ?_ rfl;clear S;intro a S)
        exact Gp S rfl (Ia true hb2 (S.tm rfl) rfl) rfl fun a S=>It (⟨_,h,Keep.refl _ _,S.nf [true] rfl (subR rfl)⟩)
      clear S h;rintro a w6 ⟨c1,h,hk2,S⟩;rw [hj3] at h;clear hj3 j3
      refine It ?_
      replace S:=S.k5 0 3 4 5 28 rfl
      refine Tn (Fc h (S.tm rfl) (fun hb3 h=>?_) (fun hb3 h=>?_))
      ·exact wp_skip (Tn (wp_block (Fg (Vm S rfl rfl fun a S=>Vq S Gf rfl rfl rfl fun a S=>Va S rfl rfl fun a S=>Ld (Hn (Tn (⟨m2,⟨W (x3 + 1),h,S.nf [true] rfl ⟨rfl,rfl,rfl,rfl,trivial⟩⟩,Nat.lt_succ_self _⟩)))))))
      ·exact wp_exit (Ep (Ep (Gr (Tn (⟨x3,h,S.nf [true] rfl (subR rfl)⟩)))))
    clear S h;rintro a w4 ⟨x3,h,S⟩;rw [hj2] at h;clear hj2 j2
    refine Tn (Fs (Fg ?_))
    iterate 5 (refine Vm S rfl rfl ?_;clear S;intro a S)
    obtain ⟨hc3,h⟩:=Ij h
    obtain ⟨v2,hs1,hr4⟩:=WN (y2:=.tmp 35) (a:=a) (x:=.tmp 32) (y:=.tmp 33) (y':=.tmp 34) (ty:=125) Oo Ag (S.tm rfl) (S.tm rfl) (S.tm rfl) (S.tm rfl) hc3
    refine lv S (hr4 _) rfl ?_;clear S;intro a S
    clear hr4
    refine Ff S underlying216 sizeOf125 zeroValue125 rfl rfl (pv:=[(0,v2)]) ⟨rfl,(S.tm rfl),trivial⟩ (cs:=[v2]) (WM hs1) rfl ?_;clear S;intro a w7 b3 hz1 hk3 S
    obtain ⟨hc4,h⟩:=Ij h
    have hr5 : Mg (Zy (join ψ nov)) (x1 ++ [cut Ae x2 x3]) (rs1 ++ [⟨v2,Ku.one (Fm hs1)⟩]):=Mg.app hr1 (Mg.cons (hs1.mono (le_join_left _ _)) Mg.nil)
    refine Np BP RS.enc_ok S (S.tm rfl) (i:=1) rfl (S.tm rfl) (j:=0) rfl (ys:=[⟨v2,Ku.one (Fm hs1)⟩]) rfl rfl rfl rfl (by have:=Ob hc4;have:=Mg.len hr1;simp at this ⊢;omega) rfl ?_;clear S;intro v3 a w8 hk4 S
    exact Va S rfl rfl fun a S=>Dl (Fg (Vm S rfl rfl fun a S=>Va S rfl rfl fun a S=>Ld (Hn (Tn (⟨m1,⟨(x1 ++ [cut Ae x2 x3]),x3,v3,(rs1 ++ [⟨v2,Ku.one (Fm hs1)⟩]),h,hr5,S.nf [false,true] rfl ⟨rfl,rfl,rfl,trivial⟩⟩,Nat.lt_succ_self _⟩)))))
   ·exact wp_exit (Ep (Ep (Gr (Tn (⟨x1,v1,rs1,h,hr1,S.nf [true] rfl ⟨rfl,trivial⟩⟩)))))
 clear S h;rintro a w2 ⟨x1,v1,rs1,h,hr1,S⟩;rw [hj1] at h;clear hj1 j1
 refine Tn (Fr (Vm S rfl rfl fun a S=>Va S rfl rfl fun a S=>Dl (wp_ret ?_)))
 obtain ⟨φ1,hl1,hs2,S⟩:=S.freezeT (xs:=rs1) (enc:=RS.enc) (i:=0) rfl (fun _ h=>by cases h)
 have hr6:=(GK (JT hl1) hr1)
 have hs3:=(Hg RS.enc_ok hs2).mono (S.all_right hψ)
 replace S:=S.nk [] [(2,v1),(3,v1),(40,v1)] [] rfl (subR rfl)
 obtain rfl:=Option.some.inj h
 exact Eu S results136 rfl ⟨_,(hs3.mono (Zv hψ S.le_newer)),GK (Zv hψ S.le_newer) hr6⟩
set_option maxRecDepth 20000 in
theorem CG (w : World) (Ac : Dy) (Cj : Nat) (Ds : Value) (Bt : List Dy) (Du : Slc (view w []) 5 Ds (Bt.map Dy.enc)) (Ck : (view w []) Cj = some (.cells [Ds].toArray 125 (0,0))) (r : Bool) (h : Tl Ac Bt = some r) :
    Calls prog 183 [.agg (Dy.enc Ac).toArray,.pointer (some ⟨Cj,0,none⟩)].toArray w (Ret w [] fun _ v _=>v = bV r):=by
 refine Fe func183 rfl ntmps183 rfl fun a S=>?_
 unfold Tl at h
 replace S:=S.k2 0 1 rfl
 refine Fr (Mx S (S.tm rfl) (cs:=(Dy.enc Ac)) rfl rfl ?_);clear S;intro a w1 b1 hz1 hk1 S
 refine Vk S rfl rfl fun a S=>Dl (Fs (Hd [] ([]) Tryz.mixed S rfl (by kernel_rfl) ?_));clear S;intro w2 hk2 hsel S
 refine Lg [0,1,2,3,4,5,6,7] hsel (by kernel_rfl) rfl ?_
 clear hsel
 refine Gp S rfl (Gv JW (S.tm rfl)) rfl fun a S=>Gp S rfl (Nn isAgg4 (S.tm rfl) (S.cell (i:=0) rfl rfl)) rfl fun a S=>Gp S rfl (Ic isAgg125 (off:=0) (o:=0) (S.tm rfl) ((Ti Ck).at S.emb0) rfl) rfl ?_;clear S;intro a S
 obtain ⟨hc1,h⟩:=Ij h
 obtain ⟨b2,o1,hm1,hr1⟩:=Fh (a:=a) (x:=.tmp 6) (y:=.const (iV 0)) (ty:=0) Oo Du (Eh hc1).1 (Eh hc1).2 (S.tm rfl) rfl
 refine Gp S rfl (hr1 _) rfl ?_;clear S;intro a S
 clear hr1
 refine Gp S rfl (Gv JW (S.tm rfl)) rfl fun a S=>Gp S rfl (Ic isAgg4 (off:=o1) (o:=4) (S.tm rfl) (hm1.at S.emb0) rfl) rfl fun a S=>Gp S rfl (SR underlying4 (S.tm rfl) (S.tm rfl)) rfl fun a S=>Gp S rfl (Ra (S.tm rfl)) rfl fun a S=>It ?_
 replace S:=S.n0.k1 3 rfl
 refine Tn (wp_ret ?_)
 obtain rfl:=Option.some.inj h
 exact Eu S results183 rfl rfl
theorem St (w : World) (Ax : Value) (Av : List Dy) (Bg : Slc (view w []) 5 Ax (Av.map Dy.enc)) (Bb : Nat) (Cw : Value) (Az : List Dy) (Dj : Slc (view w []) 5 Cw (Az.map Dy.enc)) (Bo : (view w []) Bb = some (.cells [Cw].toArray 125 (0,0))) (r : Int) (h : Kk Av Az = some r) :
    Calls prog 191 [Ax,.func (.func 183) #[] #[.pointer (some ⟨Bb,0,none⟩)]].toArray w (Ret w [] fun _ v _=>v = iV r):=by
 refine Fe func191 rfl ntmps191 rfl fun a S=>?_
 unfold Kk at h
 replace S:=S.k2 0 1 rfl
 refine Fr (Vk S rfl rfl fun a S=>Dl (Fs (Fr (Vm S rfl rfl fun a S=>lv S (Fq Oo (S.tm rfl) (Fm Bg)) rfl fun a S=>lv S (Rm rfl) rfl ?_))));clear S;intro a S
 refine Dl ?_
 replace S:=S.k4 0 1 7 8 rfl
 obtain ⟨j1,hj1,h⟩:=Ey h
 refine Es (fun a w'=>j1 = some r ∧ Sx w [] nov [] [] 19 a w') ?_ ?_
 ·refine wp_block (Gz (fun (ys1 : List Dy) a w'=>∃ i1 : Nat,(∃ dn,Av = dn ++ ys1 ∧ dn.length = i1) ∧ Gb Az j1 ys1 i1 = some r ∧ Sx w [] nov [] [(0,Ax),(1,.func (.func 183) #[] #[.pointer (some ⟨Bb,0,none⟩)]),(7,iV (Av.length : Int)),(8,iV (i1 : Int))] 19 a w') List.length Av ⟨0,⟨[],rfl,rfl⟩,h,S.nf [] rfl (subR rfl)⟩ ?_)
  clear S h;rintro ys1 a w1 ⟨i1,⟨dn,hd1,hi1⟩,h,S⟩
  cases ys1 with
  | nil =>
   rw [Gb.eq_1] at h
   refine Fr (Vb S Ev rfl rfl rfl fun a S=>Ld ?_)
   replace S:=S.k5 0 1 7 8 9 rfl
   exact Tn (Fs (wp_cond_false ((S.tm rfl).trans (congrArg Value.bool (Im hd1 hi1))) (wp_exit (Ep (Ep (Gr (Tn (⟨h,S.nf [] rfl trivial⟩))))))))
  | cons y1 ys1 =>
   rw [Gb.eq_2] at h
   refine Fr (Vb S Ev rfl rfl rfl fun a S=>Ld ?_)
   replace S:=S.k5 0 1 7 8 9 rfl
   refine Tn (Fs (wp_cond_true ((S.tm rfl).trans (congrArg Value.bool (Hr hd1 hi1))) (wp_skip (Tn (Fs (wp_block (Fr (Vm S rfl rfl fun a S=>Va S rfl rfl ?_))))))));clear S;intro a S
   refine Dl (Fs (Fg ?_))
   iterate 3 (refine Vm S rfl rfl ?_;clear S;intro a S)
   obtain ⟨b1,o1,hm1,hr1⟩:=Fh (a:=a) (x:=.tmp 12) (y:=.tmp 13) (ty:=0) Oo Bg (Iv hd1 hi1) rfl (S.tm rfl) (S.tm rfl)
   refine lv S (hr1 _) rfl ?_;clear S;intro a S
   clear hr1
   refine lv S (Fk isAgg129 sizeOf129 (off:=o1) (o:=0) (part:=(Dy.enc y1)) rfl rfl (S.tm rfl) (hm1.at S.emb0)) rfl ?_;clear S;intro a S
   obtain ⟨r1,hr2,h⟩:=Fd h
   refine Ei S (fun _=>Ud (cap:=[.pointer (some ⟨Bb,0,none⟩)]) (S.tm rfl) (vs:=[.agg (Dy.enc y1).toArray]) ⟨(S.tm rfl),trivial⟩ call183) (CG _ y1 Bb Cw Az (Dj.mono (S.le_arg Er)) ((S.le_arg Er) _ _ Bo) _ hr2) rfl ?_;clear S;intro v1 a w3 hv1 hk1 hn1 S
   subst hv1
   refine Dl (Fc h (S.tm rfl) (fun hb1 h=>?_) (fun hb1 h=>?_))
   ·refine Fr (Vm S rfl rfl fun a S=>Va S rfl rfl fun a S=>Ld ?_)
    replace S:=S.k1 4 rfl
    refine Tn (wp_ret (Ga (Ec (Ec (Ga (Ec (Ec ?_)))))))
    obtain rfl:=Option.some.inj h
    exact Eu S results191 rfl rfl
   ·exact wp_skip (Hn (Tn (Fg (Vq S Gf rfl rfl rfl fun a S=>Vm S rfl rfl fun a S=>Dl (⟨ys1,⟨i1 + 1,⟨_,(hd1).trans (List.append_cons _ _ _),by simp [hi1]⟩,h,S.nf [] rfl ⟨rfl,rfl,rfl,(congrArg (fun z=>some (Value.int .i64 z)) (Hs hd1 hi1 (Jg Bg))),trivial⟩⟩,Nat.lt_succ_self _⟩)))))
 clear S h;rintro a w2 ⟨h,S⟩;rw [hj1] at h;clear hj1 j1
 refine Tn (Fr (Vk S rfl rfl fun a S=>Dl (wp_ret ?_)))
 obtain rfl:=Option.some.inj h
 exact Eu S results191 rfl rfl
theorem Rx (w : World) (Ax : Value) (Av : List Dy) (Bg : Slc (view w []) 5 Ax (Av.map Dy.enc)) (Bb : Nat) (Cw : Value) (Az : List Dy) (Dj : Slc (view w []) 5 Cw (Az.map Dy.enc)) (Bo : (view w []) Bb = some (.cells [Cw].toArray 125 (0,0))) (r : Bool) (h : Jv Av Az = some r) :
    Calls prog 182 [Ax,.func (.func 183) #[] #[.pointer (some ⟨Bb,0,none⟩)]].toArray w (Ret w [] fun _ v _=>v = bV r):=by
 refine Fe func182 rfl ntmps182 rfl fun a S=>?_
 unfold Jv at h
 replace S:=S.k2 0 1 rfl
 refine Fr (Vk S rfl rfl fun a S=>Dz (Vm S rfl rfl fun a S=>Vm S rfl rfl ?_));clear S;intro a S
 obtain ⟨r1,hr1,h⟩:=Fd h
 refine Ei S (fun _=>Ea (vs:=[Ax,.func (.func 183) #[] #[.pointer (some ⟨Bb,0,none⟩)]]) ⟨(S.tm rfl),(S.tm rfl),trivial⟩ call191) (St _ Ax Av (Bg.mono (S.le_arg Er)) Bb Cw Az (Dj.mono (S.le_arg Er)) ((S.le_arg Er) _ _ Bo) _ hr1) rfl ?_;clear S;intro v1 a w1 hv1 hk1 hn1 S
 subst hv1
 refine Vq S Rt rfl rfl rfl fun a S=>Va S rfl rfl fun a S=>Dl (wp_ret ?_)
 obtain rfl:=Option.some.inj h
 exact Eu S results182 rfl rfl
set_option maxRecDepth 20000 in
theorem FR (w : World) (Ab : Value) (Ae : List Dy) (Ag : Slc (view w []) 5 Ab (Ae.map Dy.enc)) (r : Int) (h : Rz Ae = some r) :
    Calls prog 167 [Ab].toArray w (Ret w [] fun _ v _=>v = iV r):=by
 refine Fe func167 rfl ntmps167 rfl fun a S=>?_
 unfold Rz at h
 replace S:=S.k1 0 rfl
 refine Fr (Vk S rfl rfl fun a S=>Dz (Rc (κ:=Fv) (ν:=Bool) S rfl (fun x=>Value.agg (Fv.enc x).toArray) Value.bool ?_));clear S;intro a w1 b1 hz1 hk1 S
 refine Va S rfl rfl fun a S=>Dl (Fs (Fr (Vm S rfl rfl fun a S=>lv S (Fq Oo (S.tm rfl) (Fm Ag)) rfl fun a S=>lv S (Rm rfl) rfl fun a S=>Dl ?_)))
 replace S:=(S.nl [.map b1 (Ft (fun x=>Value.agg (Fv.enc x).toArray) Value.bool ([] : List (Fv × Bool))) ([] : List (Fv × Bool)).length] [true] rfl).k5 0 3 17 18 19 rfl
 obtain ⟨j1,hj1,h⟩:=Ey h
 refine Es (fun a w'=>∃ x1 : List (Fv × Bool),j1 x1 = some r ∧ Sx w [] nov [.map b1 (Ft (fun x=>Value.agg (Fv.enc x).toArray) Value.bool x1) x1.length] [(0,Ab)] 122 a w') ?_ ?_
 ·refine wp_block (Gz (fun (ys1 : List Dy) a w'=>∃ i1 : Nat,∃ x1 : List (Fv × Bool),(∃ dn,Ae = dn ++ ys1 ∧ dn.length = i1) ∧ Lx j1 ys1 i1 x1 = some r ∧ Sx w [] nov [.map b1 (Ft (fun x=>Value.agg (Fv.enc x).toArray) Value.bool x1) x1.length] [(0,Ab),(3,.map (some b1)),(17,Ab),(18,iV (Ae.length : Int)),(19,iV (i1 : Int))] 122 a w') List.length Ae ⟨0,([] : List (Fv × Bool)),⟨[],rfl,rfl⟩,h,S.nf [true] rfl (subR rfl)⟩ ?_)
  clear S h;rintro ys1 a w2 ⟨i1,x1,⟨dn,hd1,hi1⟩,h,S⟩
  cases ys1 with
  | nil =>
   rw [Lx.eq_1] at h
   refine Fr (Vb S Ev rfl rfl rfl fun a S=>Ld ?_)
   replace S:=S.k6 0 3 17 18 19 20 rfl
   exact Tn (Fs (wp_cond_false ((S.tm rfl).trans (congrArg Value.bool (Im hd1 hi1))) (wp_exit (Ep (Ep (Gr (Tn (⟨x1,h,S.nf [true] rfl ⟨rfl,trivial⟩⟩))))))))
  | cons y1 ys1 =>
   rw [Lx.eq_2] at h
   refine Fr (Vb S Ev rfl rfl rfl fun a S=>Ld ?_)
   replace S:=S.k6 0 3 17 18 19 20 rfl
   refine Tn (Fs (wp_cond_true ((S.tm rfl).trans (congrArg Value.bool (Hr hd1 hi1))) (wp_skip (Tn (Fs (wp_block (Fs (Fg ?_))))))))
   obtain ⟨b2,o1,hm1,hr1⟩:=Fh (a:=a) (x:=.tmp 17) (y:=.tmp 19) (ty:=0) Oo Ag (Iv hd1 hi1) rfl (S.tm rfl) (S.tm rfl)
   refine lv S (hr1 _) rfl ?_;clear S;intro a S
   clear hr1
   refine lv S (Fk isAgg129 sizeOf129 (off:=o1) (o:=0) (part:=(Dy.enc y1)) rfl rfl (S.tm rfl) (hm1.at S.emb0)) rfl fun a S=>Hu S zeroValue129 (cs:=[sV An,sV An,sV An,iV 0,bV false]) rfl rfl ?_;clear S;intro a w4 b3 hz2 hk2 S
   refine Fj S (S.tm rfl) (S.tm rfl) (i:=0) (off:=0) rfl sizeOf129 (vs:=(Dy.enc y1)) rfl rfl rfl rfl ?_;clear S;intro w5 hk3 S
   refine Dl (Fs (Fr (Vm S rfl rfl fun a S=>Vf Yj S rfl rfl fun a S=>Vl isAgg9 0 S rfl rfl rfl rfl fun a S=>Vf Yk S rfl rfl fun a S=>Vl isAgg9 0 S rfl rfl rfl rfl fun a S=>lv S (Nl XG (pv:=[(0,sV y1.Race),(1,sV y1.Who)]) ⟨rfl,(S.tm rfl),rfl,(S.tm rfl),trivial⟩ (cs:=[sV y1.Race,sV y1.Who]) (by kernel_rfl)) rfl ?_)));clear S;intro a S
   refine lv S (Qk (kv:=(fun x=>Value.agg (Fv.enc x).toArray)) (vv:=Value.bool) (m:=x1) (key:=(Fv.mk y1.Race y1.Who)) (z:=false) (S.map_at (i:=1) rfl) underlying256 PR zeroValue4 (S.tm rfl) (S.tm rfl)) rfl fun a S=>Ld ?_
   replace S:=(S.nl [.blk b3 (Dy.enc y1) 129,.map b1 (Ft (fun x=>Value.agg (Fv.enc x).toArray) Value.bool x1) x1.length] [true,true] rfl).k7 0 3 5 17 18 19 29 rfl
   refine Tn (Fc h (S.tm rfl) (fun hb1 h=>?_) (fun hb1 h=>?_))
   ·refine Fr (Vk S rfl rfl fun a S=>Dl (wp_ret (Ec (Ga (Ec (Ec (Ga ?_)))))))
    refine Ec (Ec ?_)
    obtain rfl:=Option.some.inj h
    exact Eu S results167 rfl rfl
   ·refine wp_skip (Tn (Fg (Vm S rfl rfl fun a S=>Vf Yj S rfl rfl fun a S=>Vl isAgg9 0 S rfl rfl rfl rfl fun a S=>Vf Yk S rfl rfl fun a S=>Vl isAgg9 0 S rfl rfl rfl rfl fun a S=>lv S (Nl XG (pv:=[(0,sV y1.Race),(1,sV y1.Who)]) ⟨rfl,(S.tm rfl),rfl,(S.tm rfl),trivial⟩ (cs:=[sV y1.Race,sV y1.Who]) (by kernel_rfl)) rfl fun a S=>Oi (kv:=(fun x=>Value.agg (Fv.enc x).toArray)) (vv:=Value.bool) (m:=x1) (key:=(Fv.mk y1.Race y1.Who)) (val:=true) S (i:=1) rfl underlying256 PR (S.tm rfl) (S.tm rfl) rfl ?_)));clear S;intro w6 hk4 S
    exact Ld (Hn (Tn (Fg (Vq S Gf rfl rfl rfl fun a S=>Vm S rfl rfl fun a S=>Dl (⟨ys1,⟨i1 + 1,(Gw x1 (Fv.mk y1.Race y1.Who) true),⟨_,(hd1).trans (List.append_cons _ _ _),by simp [hi1]⟩,h,S.nf [false,true] rfl ⟨rfl,rfl,rfl,rfl,(congrArg (fun z=>some (Value.int .i64 z)) (Hs hd1 hi1 (Jg Ag))),trivial⟩⟩,Nat.lt_succ_self _⟩)))))
 clear S h;rintro a w3 ⟨x1,h,S⟩;rw [hj1] at h;clear hj1 j1
 refine Tn (Fr (Vm S rfl rfl ?_));clear S;intro a S
 obtain ⟨r1,hr2,h⟩:=Fd h
 have hz3:=S.keep.size
 refine Ei S (fun _=>Ea (vs:=[Ab]) ⟨(S.tm rfl),trivial⟩ call136) (CA _ (join (view w []) nov) (Py (S.le_arg Er) (S.le_new Er)) Ab Ae (Ag.mono (le_join_left _ _)) _ hr2) rfl ?_;clear S;intro v1 a w7 hv1 hk5 hn1 S
 obtain ⟨φ1,hl1,hm2,S⟩:=S.see' hn1 hz3
 obtain ⟨rs1,ho2,hr3⟩:=hv1
 have hs1:=ho2.mono (Tv hl1 hm2)
 have hr4:=GK (Tv hl1 hm2) hr3
 refine Va S rfl rfl fun a S=>Dl (Fs (Fr (Vm S rfl rfl fun a S=>lv S (Fq BP (S.tm rfl) (Vv hs1 hr4)) rfl fun a S=>lv S (Rm rfl) rfl fun a S=>Dl ?_)))
 replace S:=S.n0.k4 6 39 40 41 rfl
 obtain ⟨j2,hj2,h⟩:=Ey h
 refine Es (fun a w'=>j2 = some r ∧ Sx w [] φ1 [] [(6,v1)] 122 a w') ?_ ?_
 ·refine wp_block (Gz (fun (ys2 : List (List Dy)) a w'=>∃ i2 : Nat,(∃ dn,r1 = dn ++ ys2 ∧ dn.length = i2) ∧ Kx j2 ys2 i2 = some r ∧ Sx w [] φ1 [] [(6,v1),(39,v1),(40,iV (r1.length : Int)),(41,iV (i2 : Int))] 122 a w') List.length r1 ⟨0,⟨[],rfl,rfl⟩,h,S.nf [] rfl (subR rfl)⟩ ?_)
  clear S h;rintro ys2 a w8 ⟨i2,⟨dn,hd2,hi2⟩,h,S⟩
  cases ys2 with
  | nil =>
   rw [Kx.eq_1] at h
   refine Fr (Vb S Ev rfl rfl rfl fun a S=>Ld ?_)
   replace S:=S.k5 6 39 40 41 42 rfl
   exact Tn (Fs (wp_cond_false ((S.tm rfl).trans (congrArg Value.bool (Im hd2 hi2))) (wp_exit (Ep (Ep (Gr (Tn (⟨h,S.nf [] rfl ⟨rfl,trivial⟩⟩))))))))
  | cons y2 ys2 =>
   rw [Kx.eq_2] at h
   refine Fr (Vb S Ev rfl rfl rfl fun a S=>Ld ?_)
   replace S:=S.k5 6 39 40 41 42 rfl
   refine Tn (Fs (wp_cond_true ((S.tm rfl).trans (congrArg Value.bool (Hr hd2 hi2))) (wp_skip (Tn (Fs (wp_block (Fs (Fg ?_))))))))
   obtain ⟨r2,hg1,hl2⟩:=Mg.at hr4 (Iv hd2 hi2)
   have hs2:=hl2
   obtain ⟨b4,o2,hm3,hr5⟩:=Fh (a:=a) (x:=.tmp 39) (y:=.tmp 41) (ty:=0) BP hs1 hg1 rfl (S.tm rfl) (S.tm rfl)
   refine lv S (hr5 _) rfl ?_;clear S;intro a S
   clear hr5
   refine lv S (Ic isAgg125 (off:=o2) (o:=0) (S.tm rfl) (hm3.at (Wt S.emb0 S.emb)) rfl) rfl fun a S=>Hu S zeroValue125 (cs:=[.slice none 0 0]) rfl rfl ?_;clear S;intro a w10 b5 hz4 hk6 S
   refine Fj S (S.tm rfl) (S.tm rfl) (i:=0) (off:=0) rfl sizeOf125 (vs:=[r2.val]) (Ku.cells (Fm hs2)) rfl rfl (Qn (Ku.one (Fm hs2)) rfl) ?_;clear S;intro w11 hk7 S
   refine Dz (Vl isAgg125 0 S rfl rfl rfl rfl fun a S=>lv S (Wk (us:=#[]) (xs:=[].toArray) (ys:=[.tmp 8].toArray) (by simp) (evA ⟨(S.tm rfl),trivial⟩ (vs:=[.pointer (some ⟨b5,0,none⟩)]))) rfl ?_);clear S;intro a S
   obtain ⟨r3,hr6,h⟩:=Fd h
   refine Ei S (fun _=>Ea (vs:=[r2.val,.func (.func 183) #[] #[.pointer (some ⟨b5,0,none⟩)]]) ⟨(S.tm rfl),(S.tm rfl),trivial⟩ call182) (Rx _ r2.val y2 (hs2.mono (Py (S.le_arg Er) (S.le_new Er))) b5 r2.val y2 (hs2.mono (Py (S.le_arg Er) (S.le_new Er))) (S.blk_view (i:=0) rfl ((Ie (e':=.blk b5 [r2.val] 125)) _ rfl)) _ hr6) rfl ?_;clear S;intro v2 a w12 hv2 hk8 hn2 S
   subst hv2
   refine Dl (Fc h (S.tm rfl) (fun hb2 h=>?_) (fun hb2 h=>?_))
   ·refine Fr (Vk S rfl rfl fun a S=>Dl (wp_ret (Ga (Ec (Ec (Ga (Ec ?_)))))))
    refine Ec ?_
    obtain rfl:=Option.some.inj h
    exact Eu S results167 rfl rfl
   ·exact wp_skip (Hn (Tn (Fg (Vq S Gf rfl rfl rfl fun a S=>Vm S rfl rfl fun a S=>Dl (⟨ys2,⟨i2 + 1,⟨_,(hd2).trans (List.append_cons _ _ _),by simp [hi2]⟩,h,S.nf [false] rfl ⟨rfl,rfl,rfl,(congrArg (fun z=>some (Value.int .i64 z)) (Hs hd2 hi2 (Yf hs1 hr4))),trivial⟩⟩,Nat.lt_succ_self _⟩)))))
 clear S h;rintro a w9 ⟨h,S⟩;rw [hj2] at h;clear hj2 j2
 refine Tn (Fs (Fr (Vm S rfl rfl fun a S=>lv S (Fq BP (S.tm rfl) (Vv hs1 hr4)) rfl fun a S=>lv S (Rm rfl) rfl fun a S=>Dl ?_)))
 replace S:=S.k4 6 49 50 51 rfl
 obtain ⟨j3,hj3,h⟩:=Ey h
 refine Es (fun a w'=>j3 = some r ∧ Sx w [] φ1 [] [(6,v1)] 122 a w') ?_ ?_
 ·refine wp_block (Gz (fun (ys3 : List (List Dy)) a w'=>∃ i3 : Nat,(∃ dn,r1 = dn ++ ys3 ∧ dn.length = i3) ∧ Kf j3 ys3 i3 = some r ∧ Sx w [] φ1 [] [(6,v1),(49,v1),(50,iV (r1.length : Int)),(51,iV (i3 : Int))] 122 a w') List.length r1 ⟨0,⟨[],rfl,rfl⟩,h,S.nf [] rfl (subR rfl)⟩ ?_)
  clear S h;rintro ys3 a w13 ⟨i3,⟨dn,hd3,hi3⟩,h,S⟩
  cases ys3 with
  | nil =>
   rw [Kf.eq_1] at h
   refine Fr (Vb S Ev rfl rfl rfl fun a S=>Ld ?_)
   replace S:=S.k5 6 49 50 51 52 rfl
   exact Tn (Fs (wp_cond_false ((S.tm rfl).trans (congrArg Value.bool (Im hd3 hi3))) (wp_exit (Ep (Ep (Gr (Tn (⟨h,S.nf [] rfl ⟨rfl,trivial⟩⟩))))))))
  | cons y3 ys3 =>
   rw [Kf.eq_2] at h
   refine Fr (Vb S Ev rfl rfl rfl fun a S=>Ld ?_)
   replace S:=S.k5 6 49 50 51 52 rfl
   refine Tn (Fs (wp_cond_true ((S.tm rfl).trans (congrArg Value.bool (Hr hd3 hi3))) (wp_skip (Tn (Fs (wp_block (Fs (Fg ?_))))))))
   obtain ⟨r4,hg2,hl3⟩:=Mg.at hr4 (Iv hd3 hi3)
   have hs3:=hl3
   obtain ⟨b6,o3,hm4,hr7⟩:=Fh (a:=a) (x:=.tmp 49) (y:=.tmp 51) (ty:=0) BP hs1 hg2 rfl (S.tm rfl) (S.tm rfl)
   refine lv S (hr7 _) rfl ?_;clear S;intro a S
   clear hr7
   refine lv S (Ic isAgg125 (off:=o3) (o:=0) (S.tm rfl) (hm4.at (Wt S.emb0 S.emb)) rfl) rfl fun a S=>Va S rfl rfl fun a S=>Dz (Vm S rfl rfl fun a S=>lv S (Fq Oo (S.tm rfl) (Fm hs3)) rfl fun a S=>lv S (Rm rfl) rfl fun a S=>Dl ?_)
   replace S:=S.k8 6 10 49 50 51 55 56 57 rfl
   obtain ⟨j4,hj4,h⟩:=Ey h
   refine Es (fun a w'=>j4 = some r ∧ Sx w [] φ1 [] [(6,v1),(49,v1),(50,iV (r1.length : Int)),(51,iV (i3 : Int))] 122 a w') ?_ ?_
   ·refine wp_block (Gz (fun (ys4 : List Dy) a w'=>∃ i4 : Nat,(∃ dn,y3 = dn ++ ys4 ∧ dn.length = i4) ∧ Ly y3 j4 ys4 i4 = some r ∧ Sx w [] φ1 [] [(6,v1),(10,r4.val),(49,v1),(50,iV (r1.length : Int)),(51,iV (i3 : Int)),(55,r4.val),(56,iV (y3.length : Int)),(57,iV (i4 : Int))] 122 a w') List.length y3 ⟨0,⟨[],rfl,rfl⟩,h,S.nf [] rfl (subR rfl)⟩ ?_)
    clear S h;rintro ys4 a w15 ⟨i4,⟨dn,hd4,hi4⟩,h,S⟩
    cases ys4 with
    | nil =>
     rw [Ly.eq_1] at h
     refine Fr (Vb S Ev rfl rfl rfl fun a S=>Ld ?_)
     replace S:=S.k9 6 10 49 50 51 55 56 57 58 rfl
     exact Tn (Fs (wp_cond_false ((S.tm rfl).trans (congrArg Value.bool (Im hd4 hi4))) (wp_exit (Ep (Ep (Gr (Tn (⟨h,S.nf [] rfl (subR rfl)⟩))))))))
    | cons y4 ys4 =>
     rw [Ly.eq_2] at h
     refine Fr (Vb S Ev rfl rfl rfl fun a S=>Ld ?_)
     replace S:=S.k9 6 10 49 50 51 55 56 57 58 rfl
     refine Tn (Fs (wp_cond_true ((S.tm rfl).trans (congrArg Value.bool (Hr hd4 hi4))) (wp_skip (Tn (Fs (wp_block (Fr (Vm S rfl rfl ?_))))))));clear S;intro a S
     obtain ⟨b7,o4,hm5,hr8⟩:=Fh (a:=a) (x:=.tmp 55) (y:=.tmp 57) (ty:=0) Oo hs3 (Iv hd4 hi4) rfl (S.tm rfl) (S.tm rfl)
     refine lv S (hr8 _) rfl ?_;clear S;intro a S
     clear hr8
     refine lv S (Fk isAgg129 sizeOf129 (off:=o4) (o:=0) (part:=(Dy.enc y4)) rfl rfl (S.tm rfl) (hm5.at (Wt S.emb0 S.emb))) rfl fun a S=>Hu S zeroValue129 (cs:=[sV An,sV An,sV An,iV 0,bV false]) rfl rfl ?_;clear S;intro a w17 b8 hz5 hk9 S
     refine Va S rfl rfl fun a S=>Fj S (S.tm rfl) (S.tm rfl) (i:=0) (off:=0) rfl sizeOf129 (vs:=(Dy.enc y4)) rfl rfl rfl rfl ?_;clear S;intro w18 hk10 S
     refine Dl (Fs (Hd [] ([]) Tryz.mixed S rfl (by kernel_rfl) ?_));clear S;intro w19 hk11 hsel S
     refine Lg [0,1,2,3,4,5,6,7,8,9,10,11,12,13,14,15,16,17,18,19,20,21,22,23,24] hsel (by kernel_rfl) rfl ?_
     clear hsel
     refine Gp S rfl (Gv Oq (S.tm rfl)) rfl fun a S=>Gp S rfl (Nn isAgg3 (S.tm rfl) (S.cell (i:=0) rfl rfl)) rfl fun a S=>Gp S rfl (Jj (S.tm rfl) rfl) rfl fun a S=>Gp S rfl (Rm (S.tm rfl)) rfl fun a S=>AB 6 (fun a w'=>Keep [] w19 w' ∧ Sx w [] φ1 [.blk b8 (Dy.enc y4) 129] [(6,v1),(10,r4.val),(11,iV (i4 : Int)),(12,.pointer (some ⟨b8,0,none⟩)),(49,v1),(50,iV (r1.length : Int)),(51,iV (i3 : Int)),(55,r4.val),(56,iV (y3.length : Int)),(57,iV (i4 : Int)),(71,bV ((decide (0 < y4.Rank)) && (!decide (y4.Rank = (W ((i4 : Int) + 1))))))] 122 a w') ?_ ?_
     ·rcases Bool.eq_false_or_eq_true (decide (0 < y4.Rank)) with hb3 | hb3
      ·refine Gc S rfl rfl rfl rfl hb3 (Hm S (Gv Oq (S.tm rfl)) rfl fun a S=>Gc S rfl rfl rfl rfl hb3 (Hm S (Nn isAgg3 (S.tm rfl) (S.cell (i:=0) rfl rfl)) rfl fun a S=>Gc S rfl rfl rfl rfl hb3 (Hm S (Rm (S.tm rfl)) rfl fun a S=>Gc S rfl rfl rfl rfl hb3 (Hm S (Gf (S.tm rfl) rfl) rfl fun a S=>Gc S rfl rfl rfl rfl hb3 (Hm S (Lf (S.tm rfl) (S.tm rfl)) rfl fun a S=>Gp S rfl (Hz hb3 (S.tm rfl) (S.tm rfl)) rfl ?_)))));clear S;intro a S
       exact It (⟨Keep.refl _ _,S.nf [true] rfl (subR rfl)⟩)
      ·iterate 5 (refine Qs S rfl rfl rfl rfl (Jw hb3) rfl ?_ rfl;clear S;intro a S)
       exact Gp S rfl (Ia (!decide (y4.Rank = (W ((i4 : Int) + 1)))) hb3 (S.tm rfl) rfl) rfl fun a S=>It (⟨Keep.refl _ _,S.nf [true] rfl (subR rfl)⟩)
     clear S;rintro a w20 ⟨hk12,S⟩
     refine Gp S rfl (Rm (S.tm rfl)) rfl ?_;clear S;intro a S
     obtain ⟨j5,hj5,h⟩:=Ey h
     refine AB 14 (fun a w'=>∃ c1,j5 c1 = some r ∧ Keep [] w20 w' ∧ Sx w [] φ1 [.blk b8 (Dy.enc y4) 129] [(6,v1),(10,r4.val),(49,v1),(50,iV (r1.length : Int)),(51,iV (i3 : Int)),(55,r4.val),(56,iV (y3.length : Int)),(57,iV (i4 : Int)),(86,bV c1)] 122 a w') ?_ ?_
     ·rcases Bool.eq_false_or_eq_true ((decide (0 < y4.Rank)) && (!decide (y4.Rank = (W ((i4 : Int) + 1))))) with hb4 | hb4
      ·replace h:=Rg h hb4
       refine Gc S rfl rfl rfl rfl hb4 (Hm S (Rm (S.tm rfl)) rfl fun a S=>Gc S rfl rfl rfl rfl hb4 (Hm S (Jh (S.tm rfl) rfl) rfl fun a S=>Gc S rfl rfl rfl rfl hb4 (Hm S (Rm (S.tm rfl)) rfl ?_)));clear S;intro a S
       obtain ⟨j6,hj6,h⟩:=Ey h
       refine AB 10 (fun a w'=>∃ c2,j6 c2 = some r ∧ Keep [] w20 w' ∧ Sx w [] φ1 [.blk b8 (Dy.enc y4) 129] [(6,v1),(10,r4.val),(49,v1),(50,iV (r1.length : Int)),(51,iV (i3 : Int)),(55,r4.val),(56,iV (y3.length : Int)),(57,iV (i4 : Int)),(72,bV ((decide (0 < y4.Rank)) && (!decide (y4.Rank = (W ((i4 : Int) + 1)))))),(73,iV (i4 : Int)),(74,bV (decide ((i4 : Int) = 0))),(75,bV (decide ((i4 : Int) = 0))),(85,bV c2)] 122 a w') ?_ ?_
       ·rcases Bool.eq_false_or_eq_true (decide ((i4 : Int) = 0)) with hb5 | hb5
        ·replace h:=Rg h hb5
         iterate 9 (refine Qs S rfl rfl rfl rfl (Nm hb5) rfl ?_ rfl;clear S;intro a S)
         exact Gc S rfl rfl rfl rfl hb4 (Hm S (Lj true hb5 (S.tm rfl) rfl) rfl fun a S=>It (⟨_,h,Keep.refl _ _,S.nf [true] rfl (subR rfl)⟩))
        ·replace h:=Rh h hb5
         refine Gc S rfl rfl rfl rfl hb5 (Hm S (Gv Oq (S.tm rfl)) rfl fun a S=>Gc S rfl rfl rfl rfl hb5 (Hm S (Nn isAgg3 (S.tm rfl) (S.cell (i:=0) rfl rfl)) rfl fun a S=>Gc S rfl rfl rfl rfl hb5 (Hm S (Rm (S.tm rfl)) rfl fun a S=>Gc S rfl rfl rfl rfl hb5 (Hm S (Rm (S.tm rfl)) rfl fun a S=>Gc S rfl rfl rfl rfl hb5 (Hm S (Iy (S.tm rfl) rfl) rfl fun a S=>Gc S rfl rfl rfl rfl hb5 ?_)))))
         obtain ⟨hc1,h⟩:=Ij h
         obtain ⟨b9,o5,hm6,hr9⟩:=Fh (a:=a) (x:=.tmp 78) (y:=.tmp 80) (ty:=0) Oo hs3 (Eh hc1).1 (Eh hc1).2 (S.tm rfl) (S.tm rfl)
         refine Hm S (hr9 _) rfl ?_;clear S;intro a S
         clear hr9
         exact Gc S rfl rfl rfl rfl hb5 (Hm S (Gv Oq (S.tm rfl)) rfl fun a S=>Gc S rfl rfl rfl rfl hb5 (Hm S (Ic isAgg3 (off:=o5) (o:=3) (S.tm rfl) (hm6.at (Wt S.emb0 S.emb)) rfl) rfl fun a S=>Gc S rfl rfl rfl rfl hb5 (Hm S (Lf (S.tm rfl) (S.tm rfl)) rfl fun a S=>Gc S rfl rfl rfl rfl hb4 (Hm S (Lk hb5 (S.tm rfl) (S.tm rfl)) rfl fun a S=>It (⟨_,h,Keep.refl _ _,S.nf [true] rfl (subR rfl)⟩)))))
       clear S h;rintro a w22 ⟨c2,h,hk13,S⟩;rw [hj6] at h;clear hj6 j6
       exact Gp S rfl (Hz hb4 (S.tm rfl) (S.tm rfl)) rfl fun a S=>It (⟨_,h,hk13,S.nf [true] rfl (subR rfl)⟩)
      ·replace h:=Rh h hb4
       iterate 3 (refine Qs S rfl rfl rfl rfl (Jw hb4) rfl ?_ rfl;clear S;intro a S)
       iterate 9 (refine s_skipU S rfl rfl rfl rfl rfl ?_;clear S;intro a S)
       exact Qs S rfl rfl rfl rfl (Jw hb4) rfl (fun a S=>Gp S rfl (Ia true hb4 (S.tm rfl) rfl) rfl fun a S=>It (⟨_,h,Keep.refl _ _,S.nf [true] rfl (subR rfl)⟩)) rfl
     clear S h;rintro a w21 ⟨c1,h,hk14,S⟩;rw [hj5] at h;clear hj5 j5
     refine It ?_
     replace S:=S.n0.k9 6 10 49 50 51 55 56 57 86 rfl
     refine Tn (Fc h (S.tm rfl) (fun hb6 h=>?_) (fun hb6 h=>?_))
     ·refine Fr (Vk S rfl rfl fun a S=>Dl (wp_ret (Ga (Ec (Ec (Ga (Ec ?_)))))))
      refine Ga (Ec (Ec (Ga (Ec (Ec ?_)))))
      obtain rfl:=Option.some.inj h
      exact Eu S results167 rfl rfl
     ·exact wp_skip (Hn (Tn (Fg (Vq S Gf rfl rfl rfl fun a S=>Vm S rfl rfl fun a S=>Dl (⟨ys4,⟨i4 + 1,⟨_,(hd4).trans (List.append_cons _ _ _),by simp [hi4]⟩,h,S.nf [] rfl ⟨rfl,rfl,rfl,rfl,rfl,rfl,rfl,(congrArg (fun z=>some (Value.int .i64 z)) (Hs hd4 hi4 (Jg hs3))),trivial⟩⟩,Nat.lt_succ_self _⟩)))))
   clear S h;rintro a w16 ⟨h,S⟩;rw [hj4] at h;clear hj4 j4
   exact Hn (Tn (Fg (Vq S Gf rfl rfl rfl fun a S=>Vm S rfl rfl fun a S=>Dl (⟨ys3,⟨i3 + 1,⟨_,(hd3).trans (List.append_cons _ _ _),by simp [hi3]⟩,h,S.nf [] rfl ⟨rfl,rfl,rfl,(congrArg (fun z=>some (Value.int .i64 z)) (Hs hd3 hi3 (Yf hs1 hr4))),trivial⟩⟩,Nat.lt_succ_self _⟩))))
 clear S h;rintro a w14 ⟨h,S⟩;rw [hj3] at h;clear hj3 j3
 refine Tn (Fs (Fr (Vm S rfl rfl fun a S=>lv S (Fq BP (S.tm rfl) (Vv hs1 hr4)) rfl fun a S=>lv S (Rm rfl) rfl fun a S=>Dl ?_)))
 replace S:=S.k3 89 90 91 rfl
 obtain ⟨j7,hj7,h⟩:=Ey h
 refine Es (fun a w'=>j7 = some r ∧ Sx w [] φ1 [] [] 122 a w') ?_ ?_
 ·refine wp_block (Gz (fun (ys5 : List (List Dy)) a w'=>∃ i5 : Nat,(∃ dn,r1 = dn ++ ys5 ∧ dn.length = i5) ∧ Ky j7 ys5 i5 = some r ∧ Sx w [] φ1 [] [(89,v1),(90,iV (r1.length : Int)),(91,iV (i5 : Int))] 122 a w') List.length r1 ⟨0,⟨[],rfl,rfl⟩,h,S.nf [] rfl (subR rfl)⟩ ?_)
  clear S h;rintro ys5 a w23 ⟨i5,⟨dn,hd5,hi5⟩,h,S⟩
  cases ys5 with
  | nil =>
   rw [Ky.eq_1] at h
   refine Fr (Vb S Ev rfl rfl rfl fun a S=>Ld ?_)
   replace S:=S.k4 89 90 91 92 rfl
   exact Tn (Fs (wp_cond_false ((S.tm rfl).trans (congrArg Value.bool (Im hd5 hi5))) (wp_exit (Ep (Ep (Gr (Tn (⟨h,S.nf [] rfl trivial⟩))))))))
  | cons y5 ys5 =>
   rw [Ky.eq_2] at h
   refine Fr (Vb S Ev rfl rfl rfl fun a S=>Ld ?_)
   replace S:=S.k4 89 90 91 92 rfl
   refine Tn (Fs (wp_cond_true ((S.tm rfl).trans (congrArg Value.bool (Hr hd5 hi5))) (wp_skip (Tn (Fs (wp_block (Fs (Fg ?_))))))))
   obtain ⟨r5,hg3,hl4⟩:=Mg.at hr4 (Iv hd5 hi5)
   have hs4:=hl4
   obtain ⟨b10,o6,hm7,hr10⟩:=Fh (a:=a) (x:=.tmp 89) (y:=.tmp 91) (ty:=0) BP hs1 hg3 rfl (S.tm rfl) (S.tm rfl)
   refine lv S (hr10 _) rfl ?_;clear S;intro a S
   clear hr10
   refine lv S (Ic isAgg125 (off:=o6) (o:=0) (S.tm rfl) (hm7.at (Wt S.emb0 S.emb)) rfl) rfl fun a S=>Va S rfl rfl fun a S=>Dz (Vk S rfl rfl fun a S=>Dl ?_)
   replace S:=S.k5 14 15 89 90 91 rfl
   obtain ⟨j8,hj8,h⟩:=Ey h
   refine Es (fun a w'=>j8 = some r ∧ Sx w [] φ1 [] [(89,v1),(90,iV (r1.length : Int)),(91,iV (i5 : Int))] 122 a w') ?_ ?_
   ·refine wp_block (Gz (fun (m1 : Nat) a w'=>∃ x2 : Int,Mw y5 j8 m1 x2 = some r ∧ Sx w [] φ1 [] [(14,r5.val),(15,iV x2),(89,v1),(90,iV (r1.length : Int)),(91,iV (i5 : Int))] 122 a w') id (((y5.length : Int) - 10).toNat + 2) ⟨10,h,S.nf [] rfl (subR rfl)⟩ ?_)
    clear S h;rintro m1 a w25 ⟨x2,h,S⟩
    cases m1 with
    | zero=>rw [Mw.eq_1] at h;cases h
    | succ m1 =>
     rw [Mw.eq_2] at h
     refine Fs (Fr (Vm S rfl rfl fun a S=>Vm S rfl rfl fun a S=>lv S (Fq Oo (S.tm rfl) (Fm hs4)) rfl fun a S=>Vb S Ev rfl rfl rfl fun a S=>Dl (Fc h (S.tm rfl) (fun hb7 h=>?_) (fun hb7 h=>?_))))
     ·refine wp_skip (Tn (Fs (wp_block (Fs (Hd [] ([]) Tryz.mixed S rfl (by kernel_rfl) ?_)))));clear S;intro w27 hk15 hsel S
      refine Lg [0,1,2,3,4,5,6,7,8,9,10,11,12,13,14,15,16,17,18,19] hsel (by kernel_rfl) rfl ?_
      clear hsel
      refine Gp S rfl (Rm (S.tm rfl)) rfl fun a S=>Gp S rfl (Rm (S.tm rfl)) rfl ?_;clear S;intro a S
      obtain ⟨hc2,h⟩:=Ij h
      obtain ⟨b11,o7,hm8,hr11⟩:=Fh (a:=a) (x:=.tmp 101) (y:=.tmp 102) (ty:=0) Oo hs4 (Eh hc2).1 (Eh hc2).2 (S.tm rfl) (S.tm rfl)
      refine Gp S rfl (hr11 _) rfl ?_;clear S;intro a S
      clear hr11
      refine Gp S rfl (Gv Oq (S.tm rfl)) rfl fun a S=>Gp S rfl (Ic isAgg3 (off:=o7) (o:=3) (S.tm rfl) (hm8.at (Wt S.emb0 S.emb)) rfl) rfl fun a S=>Gp S rfl (Jj (S.tm rfl) rfl) rfl fun a S=>Gp S rfl (Rm (S.tm rfl)) rfl ?_;clear S;intro a S
      obtain ⟨j9,hj9,h⟩:=Ey h
      refine AB 13 (fun a w'=>∃ c3,j9 c3 = some r ∧ Keep [] w27 w' ∧ Sx w [] φ1 [] [(14,r5.val),(15,iV x2),(89,v1),(90,iV (r1.length : Int)),(91,iV (i5 : Int)),(120,bV c3)] 122 a w') ?_ ?_
      ·rcases Bool.eq_false_or_eq_true (decide (0 < ((nth y5 x2).Rank))) with hb8 | hb8
       ·replace h:=Rg h hb8
        refine Gc S rfl rfl rfl rfl hb8 (Hm S (Rm (S.tm rfl)) rfl fun a S=>Gc S rfl rfl rfl rfl hb8 (Hm S (Rm (S.tm rfl)) rfl fun a S=>Gc S rfl rfl rfl rfl hb8 ?_))
        obtain ⟨hc3,h⟩:=Ij h
        obtain ⟨b12,o8,hm9,hr12⟩:=Fh (a:=a) (x:=.tmp 108) (y:=.tmp 109) (ty:=0) Oo hs4 (Eh hc3).1 (Eh hc3).2 (S.tm rfl) (S.tm rfl)
        refine Hm S (hr12 _) rfl ?_;clear S;intro a S
        clear hr12
        refine Gc S rfl rfl rfl rfl hb8 (Hm S (Gv Oq (S.tm rfl)) rfl fun a S=>Gc S rfl rfl rfl rfl hb8 (Hm S (Ic isAgg3 (off:=o8) (o:=3) (S.tm rfl) (hm9.at (Wt S.emb0 S.emb)) rfl) rfl fun a S=>Gc S rfl rfl rfl rfl hb8 (Hm S (Rm (S.tm rfl)) rfl fun a S=>Gc S rfl rfl rfl rfl hb8 (Hm S (Rm (S.tm rfl)) rfl fun a S=>Gc S rfl rfl rfl rfl hb8 (Hm S (Iy (S.tm rfl) rfl) rfl fun a S=>Gc S rfl rfl rfl rfl hb8 ?_)))))
        obtain ⟨hc4,h⟩:=Ij h
        obtain ⟨b13,o9,hm10,hr13⟩:=Fh (a:=a) (x:=.tmp 113) (y:=.tmp 115) (ty:=0) Oo hs4 (Eh hc4).1 (Eh hc4).2 (S.tm rfl) (S.tm rfl)
        refine Hm S (hr13 _) rfl ?_;clear S;intro a S
        clear hr13
        exact Gc S rfl rfl rfl rfl hb8 (Hm S (Gv Oq (S.tm rfl)) rfl fun a S=>Gc S rfl rfl rfl rfl hb8 (Hm S (Ic isAgg3 (off:=o9) (o:=3) (S.tm rfl) (hm10.at (Wt S.emb0 S.emb)) rfl) rfl fun a S=>Gc S rfl rfl rfl rfl hb8 (Hm S (Jh (S.tm rfl) (S.tm rfl)) rfl fun a S=>Gp S rfl (Hz hb8 (S.tm rfl) (S.tm rfl)) rfl fun a S=>It (⟨_,h,Keep.refl _ _,S.nf [] rfl (subR rfl)⟩))))
       ·replace h:=Rh h hb8
        iterate 12 (refine Qs S rfl rfl rfl rfl (Jw hb8) rfl ?_ rfl;clear S;intro a S)
        exact Gp S rfl (Ia true hb8 (S.tm rfl) rfl) rfl fun a S=>It (⟨_,h,Keep.refl _ _,S.nf [] rfl (subR rfl)⟩)
      clear S h;rintro a w28 ⟨c3,h,hk16,S⟩;rw [hj9] at h;clear hj9 j9
      refine It ?_
      replace S:=S.k6 14 15 89 90 91 120 rfl
      refine Tn (Fc h (S.tm rfl) (fun hb9 h=>?_) (fun hb9 h=>?_))
      ·refine Fr (Vk S rfl rfl fun a S=>Dl (wp_ret (Ga (Ec (Ec (Ga (Ec ?_)))))))
       refine Ga (Ec (Ec (Ga (Ec (Ec ?_)))))
       obtain rfl:=Option.some.inj h
       exact Eu S results167 rfl rfl
      ·exact wp_skip (Hn (Tn (Fg (Vm S rfl rfl fun a S=>Vq S Gf rfl rfl rfl fun a S=>Va S rfl rfl fun a S=>Dl (⟨m1,⟨W (x2 + 1),h,S.nf [] rfl ⟨rfl,rfl,rfl,rfl,rfl,trivial⟩⟩,Nat.lt_succ_self _⟩)))))
     ·exact wp_exit (Ep (Ep (Gr (Tn (⟨h,S.nf [] rfl (subR rfl)⟩)))))
   clear S h;rintro a w26 ⟨h,S⟩;rw [hj8] at h;clear hj8 j8
   exact Hn (Tn (Fg (Vq S Gf rfl rfl rfl fun a S=>Vm S rfl rfl fun a S=>Dl (⟨ys5,⟨i5 + 1,⟨_,(hd5).trans (List.append_cons _ _ _),by simp [hi5]⟩,h,S.nf [] rfl ⟨rfl,rfl,(congrArg (fun z=>some (Value.int .i64 z)) (Hs hd5 hi5 (Yf hs1 hr4))),trivial⟩⟩,Nat.lt_succ_self _⟩))))
 clear S h;rintro a w24 ⟨h,S⟩;rw [hj7] at h;clear hj7 j7
 refine Tn (Fr (Vk S rfl rfl fun a S=>Dl (wp_ret ?_)))
 obtain rfl:=Option.some.inj h
 exact Eu S results167 rfl rfl
set_option maxRecDepth 20000 in
theorem CH (w : World) (Ab : Value) (Ae : List Dy) (Ag : Slc (view w []) 5 Ab (Ae.map Dy.enc)) (r : Int) (h : Rp Ae = some r) :
    Calls prog 135 [Ab].toArray w (Ret w [] fun _ v _=>v = iV r):=by
 refine Fe func135 rfl ntmps135 rfl fun a S=>?_
 unfold Rp at h
 replace S:=S.k1 0 rfl
 refine Fr (Vk S rfl rfl fun a S=>Dl (Fs (Fr (Vm S rfl rfl fun a S=>lv S (Fq Oo (S.tm rfl) (Fm Ag)) rfl fun a S=>Vq S Jj rfl rfl rfl ?_))));clear S;intro a S
 refine Dl (Fc h (S.tm rfl) (fun hb1 h=>?_) (fun hb1 h=>?_))
 ·refine Fr (Vk S rfl rfl fun a S=>Dl (wp_ret (Ec ?_)))
  obtain rfl:=Option.some.inj h
  exact Eu S results135 rfl rfl
 ·refine wp_skip (Tn (Fs (Fr (Vm S rfl rfl fun a S=>lv S (Fq Oo (S.tm rfl) (Fm Ag)) rfl fun a S=>lv S (Rm rfl) rfl fun a S=>Dl ?_))))
  replace S:=S.k4 0 8 9 10 rfl
  obtain ⟨j1,hj1,h⟩:=Ey h
  refine Es (fun a w'=>j1 = some r ∧ Sx w [] nov [] [(0,Ab)] 58 a w') ?_ ?_
  ·refine wp_block (Gz (fun (ys1 : List Dy) a w'=>∃ i1 : Nat,(∃ dn,Ae = dn ++ ys1 ∧ dn.length = i1) ∧ Kd Ae j1 ys1 i1 = some r ∧ Sx w [] nov [] [(0,Ab),(8,Ab),(9,iV (Ae.length : Int)),(10,iV (i1 : Int))] 58 a w') List.length Ae ⟨0,⟨[],rfl,rfl⟩,h,S.nf [] rfl (subR rfl)⟩ ?_)
   clear S h;rintro ys1 a w1 ⟨i1,⟨dn,hd1,hi1⟩,h,S⟩
   cases ys1 with
   | nil =>
    rw [Kd.eq_1] at h
    refine Fr (Vb S Ev rfl rfl rfl fun a S=>Ld ?_)
    replace S:=S.k5 0 8 9 10 11 rfl
    exact Tn (Fs (wp_cond_false ((S.tm rfl).trans (congrArg Value.bool (Im hd1 hi1))) (wp_exit (Ep (Ep (Gr (Tn (⟨h,S.nf [] rfl ⟨rfl,trivial⟩⟩))))))))
   | cons y1 ys1 =>
    rw [Kd.eq_2] at h
    refine Fr (Vb S Ev rfl rfl rfl fun a S=>Ld ?_)
    replace S:=S.k5 0 8 9 10 11 rfl
    refine Tn (Fs (wp_cond_true ((S.tm rfl).trans (congrArg Value.bool (Hr hd1 hi1))) (wp_skip (Tn (Fs (wp_block (Fr (Vm S rfl rfl ?_))))))));clear S;intro a S
    obtain ⟨b1,o1,hm1,hr1⟩:=Fh (a:=a) (x:=.tmp 8) (y:=.tmp 10) (ty:=0) Oo Ag (Iv hd1 hi1) rfl (S.tm rfl) (S.tm rfl)
    refine lv S (hr1 _) rfl ?_;clear S;intro a S
    clear hr1
    refine lv S (Fk isAgg129 sizeOf129 (off:=o1) (o:=0) (part:=(Dy.enc y1)) rfl rfl (S.tm rfl) (hm1.at S.emb0)) rfl fun a S=>Hu S zeroValue129 (cs:=[sV An,sV An,sV An,iV 0,bV false]) rfl rfl ?_;clear S;intro a w3 b2 hz1 hk1 S
    refine Va S rfl rfl fun a S=>Fj S (S.tm rfl) (S.tm rfl) (i:=0) (off:=0) rfl sizeOf129 (vs:=(Dy.enc y1)) rfl rfl rfl rfl ?_;clear S;intro w4 hk2 S
    refine Dl (wp_block (Fr (Vf Yj S rfl rfl fun a S=>Vl isAgg9 0 S rfl rfl rfl rfl ?_)));clear S;intro a S
    obtain ⟨r1,hr2,h⟩:=Fd h
    refine Ei S (fun _=>Ea (vs:=[sV y1.Race]) ⟨(S.tm rfl),trivial⟩ call87) (Ja _ y1.Race _ hr2) rfl ?_;clear S;intro v1 a w5 hv1 hk3 hn1 S
    subst hv1
    refine Vu S Hv rfl rfl fun a S=>Vm S rfl rfl ?_;clear S;intro a S
    obtain ⟨j2,hj2,h⟩:=Ey h
    refine Ib 5 (fun a w'=>∃ c1,j2 c1 = some r ∧ Keep [] w5 w' ∧ Sx w [] nov [.blk b2 (Dy.enc y1) 129] [(0,Ab),(3,iV (i1 : Int)),(4,.pointer (some ⟨b2,0,none⟩)),(8,Ab),(9,iV (Ae.length : Int)),(10,iV (i1 : Int)),(25,bV c1)] 58 a w') ?_ ?_
    ·rcases Bool.eq_false_or_eq_true (!r1) with hb2 | hb2
     ·replace h:=Rg h hb2
      iterate 4 (refine Hh S rfl rfl rfl (Nm hb2) rfl ?_ rfl;clear S;intro a S)
      exact Vq S (Lj true hb2) rfl rfl rfl fun a S=>Dl (⟨_,h,Keep.refl _ _,S.nf [true] rfl (subR rfl)⟩)
     ·replace h:=Rh h hb2
      refine Ef S rfl rfl rfl hb2 (Vf Yk S rfl rfl fun a S=>Ef S rfl rfl rfl hb2 (Vl isAgg9 0 S rfl rfl rfl rfl fun a S=>Ef S rfl rfl rfl hb2 ?_))
      obtain ⟨r2,hr3,h⟩:=Fd h
      refine Ei S (fun _=>Ea (vs:=[sV y1.Who]) ⟨(S.tm rfl),trivial⟩ call87) (Ja _ y1.Who _ hr3) rfl ?_;clear S;intro v2 a w7 hv2 hk4 hn2 S
      subst hv2
      exact Ef S rfl rfl rfl hb2 (Vu S Hv rfl rfl fun a S=>lv S (Lk hb2 (S.tm rfl) (S.tm rfl)) rfl fun a S=>Dl (⟨_,h,hk4,S.nf [true] rfl (subR rfl)⟩))
    clear S h;rintro a w6 ⟨c1,h,hk5,S⟩;rw [hj2] at h;clear hj2 j2
    refine Vm S rfl rfl ?_;clear S;intro a S
    obtain ⟨j3,hj3,h⟩:=Ey h
    refine Ib 10 (fun a w'=>∃ c2,j3 c2 = some r ∧ Keep [] w6 w' ∧ Sx w [] nov [.blk b2 (Dy.enc y1) 129] [(0,Ab),(3,iV (i1 : Int)),(4,.pointer (some ⟨b2,0,none⟩)),(8,Ab),(9,iV (Ae.length : Int)),(10,iV (i1 : Int)),(36,bV c2)] 58 a w') ?_ ?_
    ·rcases Bool.eq_false_or_eq_true c1 with hb3 | hb3
     ·replace h:=Rg h hb3
      iterate 4 (refine Hh S rfl rfl rfl (Nm hb3) rfl ?_ rfl;clear S;intro a S)
      iterate 4 (refine BF S rfl rfl rfl rfl ?_;clear S;intro a S)
      exact Hh S rfl rfl rfl (Nm hb3) rfl (fun a S=>Vq S (Lj true hb3) rfl rfl rfl fun a S=>Dl (⟨_,h,Keep.refl _ _,S.nf [true] rfl (subR rfl)⟩)) rfl
     ·replace h:=Rh h hb3
      refine Ef S rfl rfl rfl hb3 (Vf DB S rfl rfl fun a S=>Ef S rfl rfl rfl hb3 (Vl isAgg9 0 S rfl rfl rfl rfl fun a S=>Ef S rfl rfl rfl hb3 (Vq S Zt rfl rfl rfl fun a S=>Ef S rfl rfl rfl hb3 (Vm S rfl rfl ?_))));clear S;intro a S
      obtain ⟨j4,hj4,h⟩:=Ey h
      refine Ib 5 (fun a w'=>∃ c3,j4 c3 = some r ∧ Keep [] w6 w' ∧ Sx w [] nov [.blk b2 (Dy.enc y1) 129] [(0,Ab),(3,iV (i1 : Int)),(4,.pointer (some ⟨b2,0,none⟩)),(8,Ab),(9,iV (Ae.length : Int)),(10,iV (i1 : Int)),(26,bV c1),(27,.pointer (some ⟨b2,2,none⟩)),(28,sV y1.Club),(29,bV (!decide (y1.Club = An))),(30,bV (!decide (y1.Club = An))),(35,bV c3)] 58 a w') ?_ ?_
      ·rcases Bool.eq_false_or_eq_true (!decide (y1.Club = An)) with hb4 | hb4
       ·replace h:=Rg h hb4
        refine Ef S rfl rfl rfl hb4 (Vf DB S rfl rfl fun a S=>Ef S rfl rfl rfl hb4 (Vl isAgg9 0 S rfl rfl rfl rfl fun a S=>Ef S rfl rfl rfl hb4 ?_))
        obtain ⟨r3,hr4,h⟩:=Fd h
        refine Ei S (fun _=>Ea (vs:=[sV y1.Club]) ⟨(S.tm rfl),trivial⟩ call87) (Ja _ y1.Club _ hr4) rfl ?_;clear S;intro v3 a w10 hv3 hk6 hn3 S
        subst hv3
        exact Ef S rfl rfl rfl hb4 (Vu S Hv rfl rfl fun a S=>Ef S rfl rfl rfl hb3 (lv S (Hz hb4 (S.tm rfl) (S.tm rfl)) rfl fun a S=>Dl (⟨_,h,hk6,S.nf [true] rfl (subR rfl)⟩)))
       ·replace h:=Rh h hb4
        iterate 4 (refine Hh S rfl rfl rfl (Jw hb4) rfl ?_ rfl;clear S;intro a S)
        exact Ef S rfl rfl rfl hb3 (Vq S (Ia true hb4) rfl rfl rfl fun a S=>Dl (⟨_,h,Keep.refl _ _,S.nf [true] rfl (subR rfl)⟩))
      clear S h;rintro a w9 ⟨c3,h,hk7,S⟩;rw [hj4] at h;clear hj4 j4
      exact lv S (Lk hb3 (S.tm rfl) (S.tm rfl)) rfl fun a S=>Dl (⟨_,h,hk7,S.nf [true] rfl (subR rfl)⟩)
    clear S h;rintro a w8 ⟨c2,h,hk8,S⟩;rw [hj3] at h;clear hj3 j3
    refine Va S rfl rfl fun a S=>Dl (Fc h (S.tm rfl) (fun hb5 h=>?_) (fun hb5 h=>?_))
    ·refine Fr (Vk S rfl rfl fun a S=>Dl (wp_ret (Ga (Ga (Ec (Ec (Ga ?_)))))))
     refine Ec (Ec ?_)
     obtain rfl:=Option.some.inj h
     exact Eu S results135 rfl rfl
    ·refine Fr (Vf Oq S rfl rfl fun a S=>Vl isAgg3 0 S rfl rfl rfl rfl fun a S=>Ei S (fun _=>Ea (vs:=[iV y1.Rank,iV 0,iV 300]) ⟨(S.tm rfl),rfl,rfl,trivial⟩ call67) (Ge _ y1.Rank 0 300 _ rfl) rfl ?_);clear S;intro v4 a w11 hv4 hk9 hn4 S
     subst hv4
     refine Vu S Hv rfl rfl fun a S=>Va S rfl rfl fun a S=>Dl (Fc h (S.tm rfl) (fun hb6 h=>?_) (fun hb6 h=>?_))
     ·refine Fr (Vk S rfl rfl fun a S=>Dl (wp_ret (Ga (Ga (Ec (Ec (Ga ?_)))))))
      refine Ec (Ec ?_)
      obtain rfl:=Option.some.inj h
      exact Eu S results135 rfl rfl
     ·refine Fs ?_
      obtain ⟨j5,hj5,h⟩:=Ey h
      refine Es (fun a w'=>∃ x1 : Bool,j5 x1 = some r ∧ Sx w [] nov [] [(0,Ab),(8,Ab),(9,iV (Ae.length : Int)),(10,iV (i1 : Int)),(42,bV x1)] 58 a w') ?_ ?_
      ·rcases Bool.eq_false_or_eq_true (decide (0 < (i1 : Int))) with hb7 | hb7
       ·replace h:=Rg h hb7
        obtain ⟨hc1,h⟩:=Ij h
        refine Hd [] ([]) Tryz.mixed S rfl (by kernel_rfl) ?_;clear S;intro w14 hk11 hsel S
        refine Ek 0 S hsel rfl rfl rfl (by kernel_rfl) (by kernel_rfl) rfl (fun _ hw=>(Rm (S.tm rfl))) fun a S=>Ek 1 S hsel rfl rfl rfl (by kernel_rfl) (by kernel_rfl) rfl (fun _ hw=>(Jj (S.tm rfl) rfl)) fun a S=>Ek 2 S hsel rfl rfl rfl (by kernel_rfl) (by kernel_rfl) rfl (fun _ hw=>(Rm (S.tm rfl))) fun a S=>Et 3 S hsel rfl rfl rfl rfl hb7 rfl rfl (by kernel_rfl) (by kernel_rfl) rfl (fun _ hw=>(Rm (S.tm rfl))) fun a S=>Et 4 S hsel rfl rfl rfl rfl hb7 rfl rfl (by kernel_rfl) (by kernel_rfl) rfl (fun _ hw=>(Rm (S.tm rfl))) fun a S=>Et 5 S hsel rfl rfl rfl rfl hb7 rfl rfl (by kernel_rfl) (by kernel_rfl) rfl (fun _ hw=>(Iy (S.tm rfl) rfl)) ?_;clear S;intro a S
        obtain ⟨b4,o3,hm3,hr6⟩:=Fh (a:=a) (x:=.tmp 46) (y:=.tmp 48) (ty:=0) Oo (Ag.mono (S.le_arg Er)) (Eh hc1).1 (Eh hc1).2 (S.tm rfl) (S.tm rfl)
        refine Et 6 S hsel rfl rfl rfl rfl hb7 rfl rfl (by kernel_rfl) (by kernel_rfl) rfl (fun _ hw=>hr6 _) ?_;clear S;intro a S
        clear hr6
        refine Et 7 S hsel rfl rfl rfl rfl hb7 rfl rfl (by kernel_rfl) (by kernel_rfl) rfl (fun _ hw=>(Fk isAgg129 sizeOf129 (off:=o3) (o:=0) (part:=(Dy.enc (nth Ae (W ((i1 : Int) - 1))))) rfl rfl (S.tm rfl) (hm3.kept hw))) fun a S=>Et 8 S hsel rfl rfl rfl rfl hb7 rfl rfl (by kernel_rfl) (by kernel_rfl) rfl (fun _ hw=>(Fk isAgg129 sizeOf129 (off:=0) (o:=0) (part:=(Dy.enc y1)) rfl rfl (S.tm rfl) ((S.blk_mem (i:=0) (cells:=(Dy.enc y1)) (b:=b2) (T:=129) rfl (Ie (e':=.blk b2 (Dy.enc y1) 129))).kept hw))) fun a S=>Hi 9 (by kernel_rfl) rfl (Ef S rfl rfl rfl hb7 (Ei S (fun _=>Ea (vs:=[.agg (Dy.enc (nth Ae (W ((i1 : Int) - 1)))).toArray,.agg (Dy.enc y1).toArray]) ⟨(S.tm rfl),(S.tm rfl),trivial⟩ call166) (GW _ (nth Ae (W ((i1 : Int) - 1))) y1 _ rfl) rfl ?_));clear S;intro v6 a w15 hv6 hk12 hn6 S
        subst hv6
        refine Ld (Ik hk12 (Lg [10,11,12] hsel (by kernel_rfl) rfl ?_))
        clear hsel
        refine Gc S rfl rfl rfl rfl hb7 (Hm S (Rt (S.tm rfl) rfl) rfl fun a S=>Gp S rfl (Qi hb7 (S.tm rfl) (S.tm rfl)) rfl fun a S=>Gp S rfl (Ra (S.tm rfl)) rfl fun a S=>It ?_)
        replace S:=S.n0.k13 0 8 9 10 42 46 47 48 49 50 51 52 53 rfl
        exact Tn (⟨decide (0 ≤ (Tb (nth Ae (W ((i1 : Int) - 1))) y1)),h,S.nf [] rfl (subR rfl)⟩)
       ·replace h:=Rh h hb7
        refine Hd [] ([]) Tryz.mixed S rfl (by kernel_rfl) ?_;clear S;intro w16 hk13 hsel S
        refine Lg [0,1,2,3,4,5,6,7,8,9,10,11,12] hsel (by kernel_rfl) rfl ?_
        clear hsel
        refine Gp S rfl (Rm (S.tm rfl)) rfl fun a S=>Gp S rfl (Jj (S.tm rfl) rfl) rfl fun a S=>Gp S rfl (Rm (S.tm rfl)) rfl ?_;clear S;intro a S
        iterate 8 (refine Qs S rfl rfl rfl rfl (Jw hb7) rfl ?_ rfl;clear S;intro a S)
        refine Gp S rfl (Qj hb7 (S.tm rfl) rfl) rfl fun a S=>Gp S rfl (Ra (S.tm rfl)) rfl fun a S=>It ?_
        replace S:=S.n0.k5 0 8 9 10 42 rfl
        exact Tn (⟨false,h,S.nf [] rfl (subR rfl)⟩)
      clear S h;rintro a w12 ⟨x1,h,S⟩;rw [hj5] at h;clear hj5 j5
      refine Tn (Fc h (S.tm rfl) (fun hb8 h=>?_) (fun hb8 h=>?_))
      ·refine Fr (Vk S rfl rfl fun a S=>Dl (wp_ret (Ga (Ga (Ec (Ec (Ga ?_)))))))
       refine Ec (Ec ?_)
       obtain rfl:=Option.some.inj h
       exact Eu S results135 rfl rfl
      ·exact wp_skip (Hn (Hn (Tn (Fg (Vq S Gf rfl rfl rfl fun a S=>Vm S rfl rfl fun a S=>Dl (⟨ys1,⟨i1 + 1,⟨_,(hd1).trans (List.append_cons _ _ _),by simp [hi1]⟩,h,S.nf [] rfl ⟨rfl,rfl,rfl,(congrArg (fun z=>some (Value.int .i64 z)) (Hs hd1 hi1 (Jg Ag))),trivial⟩⟩,Nat.lt_succ_self _⟩))))))
  clear S h;rintro a w2 ⟨h,S⟩;rw [hj1] at h;clear hj1 j1
  refine Tn (Fr (Vm S rfl rfl ?_));clear S;intro a S
  obtain ⟨r4,hr7,h⟩:=Fd h
  refine Ei S (fun _=>Ea (vs:=[Ab]) ⟨(S.tm rfl),trivial⟩ call167) (FR _ Ab Ae (Ag.mono (S.le_arg Er)) _ hr7) rfl ?_;clear S;intro v7 a w17 hv7 hk14 hn7 S
  subst hv7
  refine Va S rfl rfl fun a S=>Dl (wp_ret ?_)
  obtain rfl:=Option.some.inj h
  exact Eu S results135 rfl rfl
theorem ES (w : World) (Aw : Mz) (Ch : R28) (Cv : Zh (view w []) Aw Ch) (Ab : Value) (Ae : List Dy) (Ag : Slc (view w []) 5 Ab (Ae.map Dy.enc)) (r : Int) (h : Tc Aw Ae = some r) :
    Calls prog 105 [.agg (R28.enc Ch).toArray,Ab].toArray w (Ret w [] fun _ v _=>v = iV r):=by
 obtain ⟨u1,rfl,hs1⟩:=Cv
 refine Fe func105 rfl ntmps105 rfl fun a S=>?_
 unfold Tc at h
 replace S:=S.k2 0 1 rfl
 refine Fr (Mx S (S.tm rfl) (cs:=[u1.val,iV Aw.Relay,iV Aw.Most]) rfl rfl ?_);clear S;intro a w1 b1 hz1 hk1 S
 refine Vk S rfl rfl fun a S=>Dl (Fs (Fr (lv S (Fk isAgg28 sizeOf28 (off:=0) (o:=0) (part:=[u1.val,iV Aw.Relay,iV Aw.Most]) rfl rfl (S.tm rfl) (S.cellsAt (i:=0) rfl)) rfl ?_)));clear S;intro a S
 obtain ⟨r1,hr1,h⟩:=Fd h
 refine Ei S (fun _=>Ea (vs:=[.agg (R28.enc (R28.mk u1 Aw.Relay Aw.Most)).toArray]) ⟨(S.tm rfl),trivial⟩ call110) (Ym _ Aw (R28.mk u1 Aw.Relay Aw.Most) ⟨u1,rfl,(hs1.mono (S.le_arg Er))⟩ _ hr1) rfl ?_;clear S;intro v1 a w2 hv1 hk2 hn1 S
 subst hv1
 refine Va S rfl rfl fun a S=>Dz (Vm S rfl rfl fun a S=>Vq S Lf rfl rfl rfl fun a S=>Dl (Fc h (S.tm rfl) (fun hb1 h=>?_) (fun hb1 h=>?_)))
 ·refine Fr (Vm S rfl rfl fun a S=>Va S rfl rfl fun a S=>Dl (wp_ret (Ec ?_)))
  obtain rfl:=Option.some.inj h
  exact Eu S results105 rfl rfl
 ·refine wp_skip (Tn (Fr (Vm S rfl rfl ?_)));clear S;intro a S
  obtain ⟨r2,hr2,h⟩:=Fd h
  refine Ei S (fun _=>Ea (vs:=[Ab]) ⟨(S.tm rfl),trivial⟩ call135) (CH _ Ab Ae (Ag.mono (S.le_arg Er)) _ hr2) rfl ?_;clear S;intro v2 a w3 hv2 hk3 hn2 S
  subst hv2
  refine Va S rfl rfl fun a S=>Dl (wp_ret ?_)
  obtain rfl:=Option.some.inj h
  exact Eu S results105 rfl rfl
theorem JZ (w : World) (r : Ee) (h : Mb = r) :
    Calls prog 168 [].toArray w (Ret w [] fun _ v _=>v = .agg (Ee.enc r).toArray):=by
 refine Fe func168 rfl ntmps168 rfl fun a S=>?_
 unfold Mb at h
 replace S:=S.k0
 refine Fr (Hu S zeroValue49 (cs:=[iV 0,iV 0]) rfl rfl ?_);clear S;intro a w1 b1 hz1 hk1 S
 refine Dz (lv S (Nl TL (pv:=[(0,iV 0),(1,iV 1)]) ⟨rfl,rfl,rfl,rfl,trivial⟩ (cs:=[iV 0,iV 1]) (by kernel_rfl)) rfl fun a S=>Fj S (S.tm rfl) (S.tm rfl) (i:=0) (off:=0) rfl sizeOf49 (vs:=[iV 0,iV 1]) rfl rfl rfl rfl ?_);clear S;intro w2 hk2 S
 refine Dl (wp_ret ?_)
 subst h
 exact Yp S (rs:=[.cell 0 49]) (vs:=[.agg #[iV 0,iV 1]]) results168 ⟨(Tu (off:=0) S rfl isAgg49 sizeOf49 rfl (S.cellsAt (i:=0) rfl)),trivial⟩ rfl rfl
theorem AA (w : World) (Aj : Int) (Al : Int) (r : Ee) (h : Qf Aj Al = some r) :
    Calls prog 114 [iV Aj,iV Al].toArray w (Ret w [] fun _ v _=>v = .agg (Ee.enc r).toArray):=by
 refine Fe func114 rfl ntmps114 rfl fun a S=>?_
 unfold Qf at h
 replace S:=S.k2 0 1 rfl
 refine Fr (Hu S zeroValue49 (cs:=[iV 0,iV 0]) rfl rfl ?_);clear S;intro a w1 b1 hz1 hk1 S
 refine Dz (Vm S rfl rfl fun a S=>Vm S rfl rfl fun a S=>Va S rfl rfl fun a S=>Va S rfl rfl fun a S=>Dl (Fs ?_))
 replace S:=(S.nl [.blk b1 [iV 0,iV 0] 49] [true] rfl).k5 0 1 4 5 6 rfl
 obtain ⟨j1,hj1,h⟩:=Ey h
 refine Es (fun a w'=>∃ x2 : Int,j1 x2 = some r ∧ Sx w [] nov [.blk b1 [iV 0,iV 0] 49] [(0,iV Aj),(1,iV Al),(4,.pointer (some ⟨b1,0,none⟩)),(6,iV x2)] 22 a w') ?_ ?_
 ·refine wp_block (Gz (fun (m1 : Nat) a w'=>∃ x1 : Int,∃ x2 : Int,Mo j1 m1 x1 x2 = some r ∧ Sx w [] nov [.blk b1 [iV 0,iV 0] 49] [(0,iV Aj),(1,iV Al),(4,.pointer (some ⟨b1,0,none⟩)),(5,iV x1),(6,iV x2)] 22 a w') id ((Aj - 0).toNat + 2) ⟨Aj,Al,h,S.nf [true] rfl (subR rfl)⟩ ?_)
  clear S h;rintro m1 a w2 ⟨x1,x2,h,S⟩
  cases m1 with
  | zero=>rw [Mo.eq_1] at h;cases h
  | succ m1 =>
   rw [Mo.eq_2] at h
   refine Fs (Fr (Vm S rfl rfl fun a S=>Vq S Jj rfl rfl rfl fun a S=>Dl (Fc h (S.tm rfl) (fun hb1 h=>?_) (fun hb1 h=>?_))))
   ·refine wp_skip (Tn (wp_block (Fg (Vm S rfl rfl fun a S=>Vm S rfl rfl ?_))));clear S;intro a S
    obtain ⟨hc1,h⟩:=Ij h
    exact lv S (CJ (S.tm rfl) (S.tm rfl) (Vo hc1)) rfl fun a S=>Vm S rfl rfl fun a S=>Va S rfl rfl fun a S=>Va S rfl rfl fun a S=>Ld (Hn (Tn (⟨m1,⟨Int.tmod x2 x1,x1,h,S.nf [true] rfl ⟨rfl,rfl,rfl,rfl,rfl,trivial⟩⟩,Nat.lt_succ_self _⟩)))
   ·exact wp_exit (Ep (Ep (Gr (Tn (⟨x2,h,S.nf [true] rfl (subR rfl)⟩)))))
 clear S h;rintro a w3 ⟨x2,h,S⟩;rw [hj1] at h;clear hj1 j1
 refine Tn (Fs ?_)
 obtain ⟨hc2,h⟩:=Ij h
 obtain ⟨hc3,h⟩:=Ij h
 refine Hd [] ([b1]) Tryz.mixed S rfl (by kernel_rfl) ?_;clear S;intro w5 hk3 hsel S
 refine Ek 0 S hsel rfl rfl rfl (by kernel_rfl) (by kernel_rfl) rfl (fun _ hw=>(Rm (S.tm rfl))) fun a S=>Ek 1 S hsel rfl rfl rfl (by kernel_rfl) (by kernel_rfl) rfl (fun _ hw=>(Rm (S.tm rfl))) fun a S=>Ek 2 S hsel rfl rfl rfl (by kernel_rfl) (by kernel_rfl) rfl (fun _ hw=>(FF (S.tm rfl) (S.tm rfl) (Vo hc2))) fun a S=>Ek 3 S hsel rfl rfl rfl (by kernel_rfl) (by kernel_rfl) rfl (fun _ hw=>(Rm (S.tm rfl))) fun a S=>Ek 4 S hsel rfl rfl rfl (by kernel_rfl) (by kernel_rfl) rfl (fun _ hw=>(Rm (S.tm rfl))) fun a S=>Ek 5 S hsel rfl rfl rfl (by kernel_rfl) (by kernel_rfl) rfl (fun _ hw=>(FF (S.tm rfl) (S.tm rfl) (Vo hc3))) fun a S=>Ek 6 S hsel rfl rfl rfl (by kernel_rfl) (by kernel_rfl) rfl (fun _ hw=>(Nl TL (pv:=[(0,iV (W (Int.tdiv Aj x2))),(1,iV (W (Int.tdiv Al x2)))]) ⟨rfl,(S.tm rfl),rfl,(S.tm rfl),trivial⟩ (cs:=[iV (W (Int.tdiv Aj x2)),iV (W (Int.tdiv Al x2))]) (by kernel_rfl))) fun a S=>Hi 7 (by kernel_rfl) rfl (Fj S (S.tm rfl) (S.tm rfl) (i:=0) (off:=0) rfl sizeOf49 (vs:=[iV (W (Int.tdiv Aj x2)),iV (W (Int.tdiv Al x2))]) rfl rfl rfl rfl ?_);clear S;intro w6 hk4 S
 refine Ld (Ik hk4 (Wl (by kernel_rfl) ?_))
 clear hsel
 replace S:=(S.nl [.blk b1 [iV (W (Int.tdiv Aj x2)),iV (W (Int.tdiv Al x2))] 49] [true] rfl).k1 4 rfl
 refine Tn (wp_ret ?_)
 obtain rfl:=Option.some.inj h
 exact Yp S (rs:=[.cell 4 49]) (vs:=[.agg #[iV (W (Int.tdiv Aj x2)),iV (W (Int.tdiv Al x2))]]) results114 ⟨(Tu (off:=0) S rfl isAgg49 sizeOf49 rfl (S.cellsAt (i:=0) rfl)),trivial⟩ rfl rfl
set_option maxRecDepth 20000 in
theorem KA (w : World) (Aw : Mz) (Ch : R28) (Cv : Zh (view w []) Aw Ch) (Ab : Value) (Ae : List Dy) (Ag : Slc (view w []) 5 Ab (Ae.map Dy.enc)) (r : (List Eg)) (h : Yh Aw Ae = some r) :
    Calls prog 137 [.agg (R28.enc Ch).toArray,Ab].toArray w (Ret w [] fun τ v _=>Up τ 187 7 v r.length (r.flatMap Eg.enc)):=by
 obtain ⟨u1,rfl,hs1⟩:=Cv
 refine Fe func137 rfl ntmps137 rfl fun a S=>?_
 unfold Yh at h
 replace S:=S.k2 0 1 rfl
 refine Fr (Mx S (S.tm rfl) (cs:=[u1.val,iV Aw.Relay,iV Aw.Most]) rfl rfl ?_);clear S;intro a w1 b1 hz1 hk1 S
 refine Vk S rfl rfl fun a S=>Dz (Vk S rfl rfl ?_);clear S;intro a S
 replace S:=S.nil 187 7
 refine Dz (Vk S rfl rfl ?_);clear S;intro a S
 replace S:=S.nil 3 1
 refine Dz (Rc (κ:=ByteArray) (ν:=Int) S rfl Value.string (Value.int .i64) ?_);clear S;intro a w2 b2 hz2 hk2 S
 refine Va S rfl rfl fun a S=>Dl (Fs (Fr (Vm S rfl rfl fun a S=>lv S (Fq Oo (S.tm rfl) (Fm Ag)) rfl fun a S=>lv S (Rm rfl) rfl fun a S=>Dl ?_)))
 replace S:=(S.nl [.map b2 (Ft Value.string (Value.int .i64) ([] : List (ByteArray × Int))) ([] : List (ByteArray × Int)).length,.own (.slice none 0 0) 3 1 ([] : List Int).length (([] : List Int).flatMap eInt),.own (.slice none 0 0) 187 7 ([] : List Eg).length (([] : List Eg).flatMap Eg.enc),.blk b1 [u1.val,iV Aw.Relay,iV Aw.Most] 28] [true,true,true,true] rfl).k8 1 2 5 6 7 16 17 18 rfl
 obtain ⟨j1,hj1,h⟩:=Ey h
 refine Es (fun a w'=>∃ x1 : List (ByteArray × Int),∃ x2 : List Int,∃ x3 : List Eg,∃ v1 : Value,∃ v2 : Value,j1 x1 x2 x3 = some r ∧ Sx w [] nov [.map b2 (Ft Value.string (Value.int .i64) x1) x1.length,.own v1 3 1 x2.length (x2.flatMap eInt),.own v2 187 7 x3.length (x3.flatMap Eg.enc),.blk b1 [u1.val,iV Aw.Relay,iV Aw.Most] 28] [(1,Ab),(2,.pointer (some ⟨b1,0,none⟩)),(5,v2),(6,v1)] 132 a w') ?_ ?_
 ·refine wp_block (Gz (fun (ys1 : List Dy) a w'=>∃ i1 : Nat,∃ x1 : List (ByteArray × Int),∃ x2 : List Int,∃ x3 : List Eg,∃ v1 : Value,∃ v2 : Value,(∃ dn,Ae = dn ++ ys1 ∧ dn.length = i1) ∧ Nt Aw j1 ys1 i1 x1 x2 x3 = some r ∧ Sx w [] nov [.map b2 (Ft Value.string (Value.int .i64) x1) x1.length,.own v1 3 1 x2.length (x2.flatMap eInt),.own v2 187 7 x3.length (x3.flatMap Eg.enc),.blk b1 [u1.val,iV Aw.Relay,iV Aw.Most] 28] [(1,Ab),(2,.pointer (some ⟨b1,0,none⟩)),(5,v2),(6,v1),(7,.map (some b2)),(16,Ab),(17,iV (Ae.length : Int)),(18,iV (i1 : Int))] 132 a w') List.length Ae ⟨0,([] : List (ByteArray × Int)),([] : List Int),([] : List Eg),(.slice none 0 0),(.slice none 0 0),⟨[],rfl,rfl⟩,h,S.nf [true,true,true,true] rfl (subR rfl)⟩ ?_)
  clear S h;rintro ys1 a w3 ⟨i1,x1,x2,x3,v1,v2,⟨dn,hd1,hi1⟩,h,S⟩
  cases ys1 with
  | nil =>
   rw [Nt.eq_1] at h
   refine Fr (Vb S Ev rfl rfl rfl fun a S=>Ld ?_)
   replace S:=S.k9 1 2 5 6 7 16 17 18 19 rfl
   exact Tn (Fs (wp_cond_false ((S.tm rfl).trans (congrArg Value.bool (Im hd1 hi1))) (wp_exit (Ep (Ep (Gr (Tn (⟨x1,x2,x3,v1,v2,h,S.nf [true,true,true,true] rfl (subR rfl)⟩))))))))
  | cons y1 ys1 =>
   rw [Nt.eq_2] at h
   refine Fr (Vb S Ev rfl rfl rfl fun a S=>Ld ?_)
   replace S:=S.k9 1 2 5 6 7 16 17 18 19 rfl
   refine Tn (Fs (wp_cond_true ((S.tm rfl).trans (congrArg Value.bool (Hr hd1 hi1))) (wp_skip (Tn (Fs ?_)))))
   obtain ⟨j2,hj2,h⟩:=Ey h
   refine Es (fun a w'=>∃ x4 : List (ByteArray × Int),∃ x5 : List Int,∃ x6 : List Eg,∃ v3 : Value,∃ v4 : Value,j2 x4 x5 x6 = some r ∧ Sx w [] nov [.map b2 (Ft Value.string (Value.int .i64) x4) x4.length,.own v3 3 1 x5.length (x5.flatMap eInt),.own v4 187 7 x6.length (x6.flatMap Eg.enc),.blk b1 [u1.val,iV Aw.Relay,iV Aw.Most] 28] [(1,Ab),(2,.pointer (some ⟨b1,0,none⟩)),(5,v4),(6,v3),(7,.map (some b2)),(16,Ab),(17,iV (Ae.length : Int)),(18,iV (i1 : Int))] 132 a w') ?_ ?_
   ·refine wp_block (Fs (Fg ?_))
    obtain ⟨b3,o1,hm1,hr1⟩:=Fh (a:=a) (x:=.tmp 16) (y:=.tmp 18) (ty:=0) Oo Ag (Iv hd1 hi1) rfl (S.tm rfl) (S.tm rfl)
    refine lv S (hr1 _) rfl ?_;clear S;intro a S
    clear hr1
    refine lv S (Fk isAgg129 sizeOf129 (off:=o1) (o:=0) (part:=(Dy.enc y1)) rfl rfl (S.tm rfl) (hm1.at S.emb0)) rfl fun a S=>Hu S zeroValue129 (cs:=[sV An,sV An,sV An,iV 0,bV false]) rfl rfl ?_;clear S;intro a w6 b4 hz3 hk3 S
    refine Fj S (S.tm rfl) (S.tm rfl) (i:=0) (off:=0) rfl sizeOf129 (vs:=(Dy.enc y1)) rfl rfl rfl rfl ?_;clear S;intro w7 hk4 S
    refine Dl (Fs (Fr (Vf Oq S rfl rfl fun a S=>Vl isAgg3 0 S rfl rfl rfl rfl fun a S=>Vq S Jh rfl rfl rfl fun a S=>Vm S rfl rfl fun a S=>Ib 4 (fun a w'=>Keep [] w7 w' ∧ Sx w [] nov [.blk b4 (Dy.enc y1) 129,.map b2 (Ft Value.string (Value.int .i64) x1) x1.length,.own v1 3 1 x2.length (x2.flatMap eInt),.own v2 187 7 x3.length (x3.flatMap Eg.enc),.blk b1 [u1.val,iV Aw.Relay,iV Aw.Most] 28] [(1,Ab),(2,.pointer (some ⟨b1,0,none⟩)),(5,v2),(6,v1),(7,.map (some b2)),(9,.pointer (some ⟨b4,0,none⟩)),(16,Ab),(17,iV (Ae.length : Int)),(18,iV (i1 : Int)),(29,bV ((decide (y1.Rank = 0)) || (decide (y1.Club = An))))] 132 a w') ?_ ?_)))
    ·rcases Bool.eq_false_or_eq_true (decide (y1.Rank = 0)) with hb1 | hb1
     ·iterate 3 (refine Hh S rfl rfl rfl (Nm hb1) rfl ?_ rfl;clear S;intro a S)
      exact lv S (Lj (decide (y1.Club = An)) hb1 (S.tm rfl) rfl) rfl fun a S=>Dl (⟨Keep.refl _ _,S.nf [true,true,true,true,true] rfl (subR rfl)⟩)
     ·exact Ef S rfl rfl rfl hb1 (Vf DB S rfl rfl fun a S=>Ef S rfl rfl rfl hb1 (Vl isAgg9 0 S rfl rfl rfl rfl fun a S=>Ef S rfl rfl rfl hb1 (Vq S Xw rfl rfl rfl fun a S=>lv S (Lk hb1 (S.tm rfl) (S.tm rfl)) rfl fun a S=>Dl (⟨Keep.refl _ _,S.nf [true,true,true,true,true] rfl (subR rfl)⟩))))
    clear S;rintro a w8 ⟨hk5,S⟩
    refine Dl (Fc h (S.tm rfl) (fun hb2 h=>?_) (fun hb2 h=>?_))
    ·exact wp_exit (Ep (Gr (Tn (⟨x1,x2,x3,v1,v2,h,S.nf [false,true,true,true,true] rfl (subR rfl)⟩))))
    ·refine wp_skip (Tn (Fs (Fr (Vm S rfl rfl fun a S=>Vf DB S rfl rfl fun a S=>Vl isAgg9 0 S rfl rfl rfl rfl fun a S=>lv S (Qk (kv:=Value.string) (vv:=(Value.int .i64)) (m:=x1) (key:=y1.Club) (z:=0) (S.map_at (i:=1) rfl) underlying108 (Mq underlying9) zeroValue3 (S.tm rfl) (S.tm rfl)) rfl fun a S=>Vq S Gf rfl rfl rfl fun a S=>Oi (kv:=Value.string) (vv:=(Value.int .i64)) (m:=x1) (key:=y1.Club) (val:=W ((El x1 y1.Club 0) + 1)) S (i:=1) rfl underlying108 (Mq underlying9) (S.tm rfl) (S.tm rfl) (S.tm rfl) ?_))));clear S;intro w9 hk6 S
     refine Ld ?_
     replace S:=(S.nl [.blk b4 (Dy.enc y1) 129,.map b2 (Ft Value.string (Value.int .i64) (Gw x1 y1.Club (W ((El x1 y1.Club 0) + 1)))) (Gw x1 y1.Club (W ((El x1 y1.Club 0) + 1))).length,.own v1 3 1 x2.length (x2.flatMap eInt),.own v2 187 7 x3.length (x3.flatMap Eg.enc),.blk b1 [u1.val,iV Aw.Relay,iV Aw.Most] 28] [true,true,true,true,true] rfl).k9 1 2 5 6 7 9 16 17 18 rfl
     refine Tn (Fr (Vf NR S rfl rfl fun a S=>Vl isAgg3 4 S rfl rfl rfl rfl fun a S=>Vq S Jh rfl rfl rfl fun a S=>Vm S rfl rfl fun a S=>Ib 8 (fun a w'=>Keep [] w9 w' ∧ Sx w [] nov [.blk b4 (Dy.enc y1) 129,.map b2 (Ft Value.string (Value.int .i64) (Gw x1 y1.Club (W ((El x1 y1.Club 0) + 1)))) (Gw x1 y1.Club (W ((El x1 y1.Club 0) + 1))).length,.own v1 3 1 x2.length (x2.flatMap eInt),.own v2 187 7 x3.length (x3.flatMap Eg.enc),.blk b1 [u1.val,iV Aw.Relay,iV Aw.Most] 28] [(1,Ab),(2,.pointer (some ⟨b1,0,none⟩)),(5,v2),(6,v1),(7,.map (some b2)),(9,.pointer (some ⟨b4,0,none⟩)),(16,Ab),(17,iV (Ae.length : Int)),(18,iV (i1 : Int)),(46,bV ((decide (Aw.Most = 0)) || (decide ((El (Gw x1 y1.Club (W ((El x1 y1.Club 0) + 1))) y1.Club 0) ≤ Aw.Most))))] 132 a w') ?_ ?_))
     ·rcases Bool.eq_false_or_eq_true (decide (Aw.Most = 0)) with hb3 | hb3
      ·iterate 7 (refine Hh S rfl rfl rfl (Nm hb3) rfl ?_ rfl;clear S;intro a S)
       exact lv S (Lj (decide ((El (Gw x1 y1.Club (W ((El x1 y1.Club 0) + 1))) y1.Club 0) ≤ Aw.Most)) hb3 (S.tm rfl) rfl) rfl fun a S=>Dl (⟨Keep.refl _ _,S.nf [true,true,true,true,true] rfl (subR rfl)⟩)
      ·refine Ef S rfl rfl rfl hb3 (Vm S rfl rfl fun a S=>Ef S rfl rfl rfl hb3 (Vf DB S rfl rfl fun a S=>Ef S rfl rfl rfl hb3 (Vl isAgg9 0 S rfl rfl rfl rfl fun a S=>Ef S rfl rfl rfl hb3 (lv S (Qk (kv:=Value.string) (vv:=(Value.int .i64)) (m:=(Gw x1 y1.Club (W ((El x1 y1.Club 0) + 1)))) (key:=y1.Club) (z:=0) (S.map_at (i:=1) rfl) underlying108 (Mq underlying9) zeroValue3 (S.tm rfl) (S.tm rfl)) rfl fun a S=>Ef S rfl rfl rfl hb3 (Vf NR S rfl rfl fun a S=>Ef S rfl rfl rfl hb3 ?_)))))
       exact Vl isAgg3 4 S rfl rfl rfl rfl fun a S=>Ef S rfl rfl rfl hb3 (Vb S Us rfl rfl rfl fun a S=>lv S (Lk hb3 (S.tm rfl) (S.tm rfl)) rfl fun a S=>Dl (⟨Keep.refl _ _,S.nf [true,true,true,true,true] rfl (subR rfl)⟩))
     clear S;rintro a w10 ⟨hk7,S⟩
     refine Dl ?_
     obtain ⟨j3,hj3,h⟩:=Ey h
     refine Es (fun a w'=>∃ x7 : List Int,∃ v5 : Value,j3 x7 = some r ∧ Sx w [] nov [.blk b4 (Dy.enc y1) 129,.map b2 (Ft Value.string (Value.int .i64) (Gw x1 y1.Club (W ((El x1 y1.Club 0) + 1)))) (Gw x1 y1.Club (W ((El x1 y1.Club 0) + 1))).length,.own v5 3 1 x7.length (x7.flatMap eInt),.own v2 187 7 x3.length (x3.flatMap Eg.enc),.blk b1 [u1.val,iV Aw.Relay,iV Aw.Most] 28] [(1,Ab),(2,.pointer (some ⟨b1,0,none⟩)),(5,v2),(6,v5),(7,.map (some b2)),(9,.pointer (some ⟨b4,0,none⟩)),(16,Ab),(17,iV (Ae.length : Int)),(18,iV (i1 : Int))] 132 a w') ?_ ?_
     ·refine Fc h (S.tm rfl) (fun hb4 h=>?_) (fun hb4 h=>?_)
      ·refine Fg (Vm S rfl rfl fun a S=>Vm S rfl rfl fun a S=>lv S (Fq CY (S.tm rfl) (Oh (S.own_at (i:=3) rfl))) rfl fun a S=>Ff S underlying22 sizeOf3 zeroValue3 rfl rfl (pv:=[(0,iV (x3.length : Int))]) ⟨rfl,(S.tm rfl),trivial⟩ (cs:=[iV (x3.length : Int)]) (by kernel_rfl) rfl ?_);clear S;intro a w12 b5 hz4 hk8 S
       obtain ⟨hc1,h⟩:=Ij h
       refine Np Pj Jb S (S.tm rfl) (i:=3) rfl (S.tm rfl) (j:=0) rfl (ys:=[(x3.length : Int)]) rfl rfl rfl rfl (by have:=Ob hc1;omega) rfl ?_;clear S;intro v6 a w13 hk9 S
       refine Va S rfl rfl fun a S=>Ld ?_
       replace S:=(S.nl [.blk b4 (Dy.enc y1) 129,.map b2 (Ft Value.string (Value.int .i64) (Gw x1 y1.Club (W ((El x1 y1.Club 0) + 1)))) (Gw x1 y1.Club (W ((El x1 y1.Club 0) + 1))).length,.own v6 3 1 (x2 ++ [(x3.length : Int)]).length ((x2 ++ [(x3.length : Int)]).flatMap eInt),.own v2 187 7 x3.length (x3.flatMap Eg.enc),.blk b1 [u1.val,iV Aw.Relay,iV Aw.Most] 28] [false,true,true,true,true,true] rfl).k9 1 2 5 6 7 9 16 17 18 rfl
       exact Tn (⟨(x2 ++ [(x3.length : Int)]),v6,h,S.nf [true,true,true,true,true] rfl (subR rfl)⟩)
      ·exact wp_skip (Tn (⟨x2,v1,h,S.nf [true,true,true,true,true] rfl (subR rfl)⟩))
     clear S h;rintro a w11 ⟨x7,v5,h,S⟩;rw [hj3] at h;clear hj3 j3
     refine Tn ?_
     obtain ⟨hc2,h⟩:=Ij h
     refine Hd [] (v2.ownBlock.toList) Tryz.mixed S rfl (by kernel_rfl) ?_;clear S;intro w17 hk13 hsel S
     refine Ek 0 S hsel rfl rfl rfl (by kernel_rfl) (by kernel_rfl) rfl (fun _ hw=>(Rm (S.tm rfl))) fun a S=>Ek 1 S hsel rfl rfl rfl (by kernel_rfl) (by kernel_rfl) rfl (fun _ hw=>(Fk isAgg129 sizeOf129 (off:=0) (o:=0) (part:=(Dy.enc y1)) rfl rfl (S.tm rfl) ((S.blk_mem (i:=0) (cells:=(Dy.enc y1)) (b:=b4) (T:=129) rfl (My (i:=3) (j:=0) (e:=.own v2 187 7 x3.length (x3.flatMap Eg.enc)) (e':=.blk b4 (Dy.enc y1) 129) S rfl rfl rfl)).kept hw))) fun a S=>Hi 2 (by kernel_rfl) rfl (Ei S (fun _=>Ea (vs:=[]) trivial call168) (JZ _ _ rfl) rfl ?_);clear S;intro v9 a w18 hv2 hk14 hn2 S
     subst hv2
     refine Ld (Ik (Keep.none hk14) (Ek 3 S hsel rfl rfl rfl (by kernel_rfl) (by kernel_rfl) rfl (fun _ hw=>(Nl bt_187 (pv:=[(0,.agg (Dy.enc y1).toArray),(1,.agg (Ee.enc Mb).toArray)]) ⟨rfl,(S.tm rfl),rfl,(S.tm rfl),trivial⟩ (cs:=[sV y1.Race,sV y1.Who,sV y1.Club,iV y1.Rank,bV y1.Relay,iV Mb.Num,iV Mb.Den]) (by kernel_rfl))) fun a S=>Hi 4 (by kernel_rfl) rfl (Ff S underlying184 sizeOf187 zeroValue187 rfl rfl (pv:=[(0,.agg (Eg.enc (Eg.mk y1 Mb)).toArray)]) ⟨rfl,(S.tm rfl),trivial⟩ (cs:=[sV y1.Race,sV y1.Who,sV y1.Club,iV y1.Rank,bV y1.Relay,iV Mb.Num,iV Mb.Den]) (by kernel_rfl) rfl ?_)));clear S;intro a w19 b7 hz6 hk15 S
     refine Ld (Ik (Keep.none hk15) (Hi 5 (by kernel_rfl) rfl ?_))
     refine Np CY Eg.enc_ok S (S.tm rfl) (i:=4) rfl (S.tm rfl) (j:=0) rfl (ys:=[(Eg.mk y1 Mb)]) rfl rfl rfl rfl (by have:=Ob hc2;omega) rfl ?_;clear S;intro v10 a w20 hk16 S
     refine Ld (Ik hk16 (Lg [6] hsel (by kernel_rfl) rfl ?_))
     clear hsel
     refine Gp S rfl (Ra (S.tm rfl)) rfl fun a S=>It ?_
     replace S:=(S.nl [.map b2 (Ft Value.string (Value.int .i64) (Gw x1 y1.Club (W ((El x1 y1.Club 0) + 1)))) (Gw x1 y1.Club (W ((El x1 y1.Club 0) + 1))).length,.own v5 3 1 x7.length (x7.flatMap eInt),.own v10 187 7 (x3 ++ [(Eg.mk y1 Mb)]).length ((x3 ++ [(Eg.mk y1 Mb)]).flatMap Eg.enc),.blk b1 [u1.val,iV Aw.Relay,iV Aw.Most] 28] [false,false,true,true,true,true] rfl).k8 1 2 5 6 7 16 17 18 rfl
     exact Hn (Tn (⟨(Gw x1 y1.Club (W ((El x1 y1.Club 0) + 1))),x7,(x3 ++ [(Eg.mk y1 Mb)]),v5,v10,h,S.nf [true,true,true,true] rfl (subR rfl)⟩))
   clear S h;rintro a w5 ⟨x4,x5,x6,v3,v4,h,S⟩;rw [hj2] at h;clear hj2 j2
   exact Tn (Fg (Vq S Gf rfl rfl rfl fun a S=>Vm S rfl rfl fun a S=>Dl (⟨ys1,⟨i1 + 1,x4,x5,x6,v3,v4,⟨_,(hd1).trans (List.append_cons _ _ _),by simp [hi1]⟩,h,S.nf [true,true,true,true] rfl ⟨rfl,rfl,rfl,rfl,rfl,rfl,rfl,(congrArg (fun z=>some (Value.int .i64 z)) (Hs hd1 hi1 (Jg Ag))),trivial⟩⟩,Nat.lt_succ_self _⟩)))
 clear S h;rintro a w4 ⟨x1,x2,x3,v1,v2,h,S⟩;rw [hj1] at h;clear hj1 j1
 refine Tn (Fs (Fr (Vk S rfl rfl fun a S=>Dl ?_)))
 replace S:=S.d0.k5 1 2 5 6 10 rfl
 obtain ⟨j4,hj4,h⟩:=Ey h
 refine Es (fun a w'=>∃ x8 : List Eg,∃ v11 : Value,j4 x8 = some r ∧ Sx w [] nov [.own v1 3 1 x2.length (x2.flatMap eInt),.own v11 187 7 x8.length (x8.flatMap Eg.enc),.blk b1 [u1.val,iV Aw.Relay,iV Aw.Most] 28] [(5,v11)] 132 a w') ?_ ?_
 ·refine wp_block (Gz (fun (m1 : Nat) a w'=>∃ x8 : List Eg,∃ x9 : Int,∃ v11 : Value,Kz x2 Ae Aw j4 m1 x8 x9 = some r ∧ Sx w [] nov [.own v1 3 1 x2.length (x2.flatMap eInt),.own v11 187 7 x8.length (x8.flatMap Eg.enc),.blk b1 [u1.val,iV Aw.Relay,iV Aw.Most] 28] [(1,Ab),(2,.pointer (some ⟨b1,0,none⟩)),(5,v11),(6,v1),(10,iV x9)] 132 a w') id (((x2.length : Int) - 0).toNat + 2) ⟨x3,0,v2,h,S.nf [true,true,true] rfl (subR rfl)⟩ ?_)
  clear S h;rintro m1 a w21 ⟨x8,x9,v11,h,S⟩
  cases m1 with
  | zero=>rw [Kz.eq_1] at h;cases h
  | succ m1 =>
   rw [Kz.eq_2] at h
   refine Fs (Fr (Vm S rfl rfl fun a S=>Vm S rfl rfl fun a S=>lv S (Fq Pj (S.tm rfl) (Oh (S.own_at (i:=0) rfl))) rfl fun a S=>Vb S Ev rfl rfl rfl fun a S=>Dl (Fc h (S.tm rfl) (fun hb5 h=>?_) (fun hb5 h=>?_))))
   ·refine wp_skip (Tn (wp_block (Fr (Vm S rfl rfl fun a S=>Va S rfl rfl fun a S=>Vk S rfl rfl fun a S=>Dl (Fs ?_)))))
    replace S:=S.k7 1 2 5 6 10 11 12 rfl
    obtain ⟨j5,hj5,h⟩:=Ey h
    refine Es (fun a w'=>∃ x10 : Int,∃ x11 : Int,j5 x10 x11 = some r ∧ Sx w [] nov [.own v1 3 1 x2.length (x2.flatMap eInt),.own v11 187 7 x8.length (x8.flatMap Eg.enc),.blk b1 [u1.val,iV Aw.Relay,iV Aw.Most] 28] [(1,Ab),(2,.pointer (some ⟨b1,0,none⟩)),(5,v11),(6,v1),(10,iV x9),(11,iV x10),(12,iV x11)] 132 a w') ?_ ?_
    ·refine wp_block (Gz (fun (m2 : Nat) a w'=>∃ x10 : Int,∃ x11 : Int,Nu Aw x2 x8 x9 j5 m2 x10 x11 = some r ∧ Sx w [] nov [.own v1 3 1 x2.length (x2.flatMap eInt),.own v11 187 7 x8.length (x8.flatMap Eg.enc),.blk b1 [u1.val,iV Aw.Relay,iV Aw.Most] 28] [(1,Ab),(2,.pointer (some ⟨b1,0,none⟩)),(5,v11),(6,v1),(10,iV x9),(11,iV x10),(12,iV x11)] 132 a w') id (((x2.length : Int) - x9).toNat + 2) ⟨x9,0,h,S.nf [true,true,true] rfl (subR rfl)⟩ ?_)
     clear S h;rintro m2 a w23 ⟨x10,x11,h,S⟩
     cases m2 with
     | zero=>rw [Nu.eq_1] at h;cases h
     | succ m2 =>
      rw [Nu.eq_2] at h
      refine Fs (Fs (Hd [] ([]) Tryz.mixed S rfl (by kernel_rfl) ?_));clear S;intro w25 hk17 hsel S
      refine Lg [0,1,2,3,4,5,6,7,8,9,10,11,12,13,14,15,16,17,18,19,20,21,22,23,24] hsel (by kernel_rfl) rfl ?_
      clear hsel
      refine Gp S rfl (Rm (S.tm rfl)) rfl fun a S=>Gp S rfl (Rm (S.tm rfl)) rfl fun a S=>Gp S rfl (Fq Pj (S.tm rfl) (Oh (S.own_at (i:=0) rfl))) rfl fun a S=>Gp S rfl (Ev (S.tm rfl) (S.tm rfl)) rfl fun a S=>Gp S rfl (Rm (S.tm rfl)) rfl ?_;clear S;intro a S
      obtain ⟨j6,hj6,h⟩:=Ey h
      refine AB 20 (fun a w'=>∃ c1,j6 c1 = some r ∧ Keep [] w25 w' ∧ Sx w [] nov [.own v1 3 1 x2.length (x2.flatMap eInt),.own v11 187 7 x8.length (x8.flatMap Eg.enc),.blk b1 [u1.val,iV Aw.Relay,iV Aw.Most] 28] [(1,Ab),(2,.pointer (some ⟨b1,0,none⟩)),(5,v11),(6,v1),(10,iV x9),(11,iV x10),(12,iV x11),(88,bV c1)] 132 a w') ?_ ?_
      ·rcases Bool.eq_false_or_eq_true (decide (x10 < (x2.length : Int))) with hb6 | hb6
       ·replace h:=Rg h hb6
        refine Gc S rfl rfl rfl rfl hb6 (Hm S (Rm (S.tm rfl)) rfl fun a S=>Gc S rfl rfl rfl rfl hb6 (Hm S (Rm (S.tm rfl)) rfl fun a S=>Gc S rfl rfl rfl rfl hb6 (Hm S (Rm (S.tm rfl)) rfl fun a S=>Gc S rfl rfl rfl rfl hb6 ?_)))
        obtain ⟨hc3,h⟩:=Ij h
        obtain ⟨b8,hg1,hr2⟩:=Gx (a:=a) (x:=.tmp 70) (y:=.tmp 71) (ty:=0) Pj Jb S (i:=0) rfl (Eh hc3).1 (Eh hc3).2 (S.tm rfl) (S.tm rfl)
        refine Hm S (hr2 _) rfl ?_;clear S;intro a S
        clear hr2
        refine Gc S rfl rfl rfl rfl hb6 (Hm S (Ic isAgg3 (off:=x10.toNat * 1) (o:=0) (S.tm rfl) (Vd Jb S (i:=0) rfl hg1 (Eh hc3).1) rfl) rfl fun a S=>Gc S rfl rfl rfl rfl hb6 ?_)
        obtain ⟨hc4,h⟩:=Ij h
        obtain ⟨b9,hg2,hr3⟩:=Gx (a:=a) (x:=.tmp 69) (y:=.tmp 73) (ty:=0) CY Eg.enc_ok S (i:=1) rfl (Eh hc4).1 (Eh hc4).2 (S.tm rfl) (S.tm rfl)
        refine Hm S (hr3 _) rfl ?_;clear S;intro a S
        clear hr3
        refine Gc S rfl rfl rfl rfl hb6 (Hm S (Gv GS (S.tm rfl)) rfl fun a S=>Gc S rfl rfl rfl rfl hb6 (Hm S (Gv Oq (S.tm rfl)) rfl fun a S=>Gc S rfl rfl rfl rfl hb6 (Hm S (Ic isAgg3 (off:=((nth x2 x10).toNat) * 7) (o:=3) (S.tm rfl) (Vd Eg.enc_ok S (i:=1) rfl hg2 (Eh hc4).1) rfl) rfl fun a S=>Gc S rfl rfl rfl rfl hb6 (Hm S (Rm (S.tm rfl)) rfl fun a S=>Gc S rfl rfl rfl rfl hb6 (Hm S (Rm (S.tm rfl)) rfl fun a S=>Gc S rfl rfl rfl rfl hb6 ?_)))))
        refine Hm S (Rm (S.tm rfl)) rfl fun a S=>Gc S rfl rfl rfl rfl hb6 ?_
        obtain ⟨hc5,h⟩:=Ij h
        obtain ⟨b10,hg3,hr4⟩:=Gx (a:=a) (x:=.tmp 79) (y:=.tmp 80) (ty:=0) Pj Jb S (i:=0) rfl (Eh hc5).1 (Eh hc5).2 (S.tm rfl) (S.tm rfl)
        refine Hm S (hr4 _) rfl ?_;clear S;intro a S
        clear hr4
        refine Gc S rfl rfl rfl rfl hb6 (Hm S (Ic isAgg3 (off:=x9.toNat * 1) (o:=0) (S.tm rfl) (Vd Jb S (i:=0) rfl hg3 (Eh hc5).1) rfl) rfl fun a S=>Gc S rfl rfl rfl rfl hb6 ?_)
        obtain ⟨hc6,h⟩:=Ij h
        obtain ⟨b11,hg4,hr5⟩:=Gx (a:=a) (x:=.tmp 78) (y:=.tmp 82) (ty:=0) CY Eg.enc_ok S (i:=1) rfl (Eh hc6).1 (Eh hc6).2 (S.tm rfl) (S.tm rfl)
        refine Hm S (hr5 _) rfl ?_;clear S;intro a S
        clear hr5
        exact Gc S rfl rfl rfl rfl hb6 (Hm S (Gv GS (S.tm rfl)) rfl fun a S=>Gc S rfl rfl rfl rfl hb6 (Hm S (Gv Oq (S.tm rfl)) rfl fun a S=>Gc S rfl rfl rfl rfl hb6 (Hm S (Ic isAgg3 (off:=((nth x2 x9).toNat) * 7) (o:=3) (S.tm rfl) (Vd Eg.enc_ok S (i:=1) rfl hg4 (Eh hc6).1) rfl) rfl fun a S=>Gc S rfl rfl rfl rfl hb6 (Hm S (Jh (S.tm rfl) (S.tm rfl)) rfl fun a S=>Gp S rfl (Hz hb6 (S.tm rfl) (S.tm rfl)) rfl fun a S=>It (⟨_,h,Keep.refl _ _,S.nf [true,true,true] rfl (subR rfl)⟩)))))
       ·replace h:=Rh h hb6
        iterate 19 (refine Qs S rfl rfl rfl rfl (Jw hb6) rfl ?_ rfl;clear S;intro a S)
        exact Gp S rfl (Ia true hb6 (S.tm rfl) rfl) rfl fun a S=>It (⟨_,h,Keep.refl _ _,S.nf [true,true,true] rfl (subR rfl)⟩)
      clear S h;rintro a w26 ⟨c1,h,hk18,S⟩;rw [hj6] at h;clear hj6 j6
      refine It ?_
      replace S:=S.k8 1 2 5 6 10 11 12 88 rfl
      refine Tn (Fc h (S.tm rfl) (fun hb7 h=>?_) (fun hb7 h=>?_))
      ·refine wp_skip (Tn (Fs ?_))
       obtain ⟨j7,hj7,h⟩:=Ey h
       refine Es (fun a w'=>∃ x12 : Int,j7 x12 = some r ∧ Sx w [] nov [.own v1 3 1 x2.length (x2.flatMap eInt),.own v11 187 7 x8.length (x8.flatMap Eg.enc),.blk b1 [u1.val,iV Aw.Relay,iV Aw.Most] 28] [(1,Ab),(2,.pointer (some ⟨b1,0,none⟩)),(5,v11),(6,v1),(10,iV x9),(11,iV x10),(12,iV x12)] 132 a w') ?_ ?_
       ·refine wp_block (Fr (Vm S rfl rfl fun a S=>Vf Yx S rfl rfl fun a S=>Vl isAgg22 2 S rfl rfl rfl rfl fun a S=>lv S (Fq Pj (S.tm rfl) (Fm hs1)) rfl fun a S=>Vb S Ev rfl rfl rfl fun a S=>Dl ?_))
        obtain ⟨j8,hj8,h⟩:=Ey h
        refine Es (fun a w'=>∃ x13 : Int,j8 x13 = some r ∧ Sx w [] nov [.own v1 3 1 x2.length (x2.flatMap eInt),.own v11 187 7 x8.length (x8.flatMap Eg.enc),.blk b1 [u1.val,iV Aw.Relay,iV Aw.Most] 28] [(1,Ab),(2,.pointer (some ⟨b1,0,none⟩)),(5,v11),(6,v1),(10,iV x9),(11,iV x10),(12,iV x13)] 132 a w') ?_ ?_
        ·refine Fc h (S.tm rfl) (fun hb8 h=>?_) (fun hb8 h=>?_)
         ·refine Fg (Vm S rfl rfl fun a S=>Vf Yx S rfl rfl fun a S=>Vl isAgg22 2 S rfl rfl rfl rfl fun a S=>Vm S rfl rfl ?_);clear S;intro a S
          obtain ⟨hc7,h⟩:=Ij h
          obtain ⟨b12,o6,hm6,hr6⟩:=Fh (a:=a) (x:=.tmp 98) (y:=.tmp 99) (ty:=0) Pj hs1 (Eh hc7).1 (Eh hc7).2 (S.tm rfl) (S.tm rfl)
          refine lv S (hr6 _) rfl ?_;clear S;intro a S
          clear hr6
          refine lv S (Ic isAgg3 (off:=o6) (o:=0) (S.tm rfl) (hm6.at S.emb0) rfl) rfl fun a S=>Vb S Gf rfl rfl rfl fun a S=>Va S rfl rfl fun a S=>Ld ?_
          replace S:=S.k7 1 2 5 6 10 11 12 rfl
          exact Tn (⟨W (x11 + (nth Aw.Points x10)),h,S.nf [true,true,true] rfl (subR rfl)⟩)
         ·exact wp_skip (Tn (⟨x11,h,S.nf [true,true,true] rfl (subR rfl)⟩))
        clear S h;rintro a w28 ⟨x13,h,S⟩;rw [hj8] at h;clear hj8 j8
        exact Hn (Tn (⟨x13,h,S.nf [true,true,true] rfl (subR rfl)⟩))
       clear S h;rintro a w27 ⟨x12,h,S⟩;rw [hj7] at h;clear hj7 j7
       exact Tn (Fg (Vm S rfl rfl fun a S=>Vq S Gf rfl rfl rfl fun a S=>Va S rfl rfl fun a S=>Dl (⟨m2,⟨W (x10 + 1),x12,h,S.nf [true,true,true] rfl ⟨rfl,rfl,rfl,rfl,rfl,rfl,rfl,trivial⟩⟩,Nat.lt_succ_self _⟩)))
      ·exact wp_exit (Ep (Ep (Gr (Tn (⟨x10,x11,h,S.nf [true,true,true] rfl (subR rfl)⟩)))))
    clear S h;rintro a w24 ⟨x10,x11,h,S⟩;rw [hj5] at h;clear hj5 j5
    refine Tn (Fs (Fr (Vm S rfl rfl ?_)));clear S;intro a S
    obtain ⟨hc8,h⟩:=Ij h
    obtain ⟨b13,o7,hm7,hr7⟩:=Fh (a:=a) (x:=.tmp 103) (y:=.const (iV 0)) (ty:=0) Oo Ag (Eh hc8).1 (Eh hc8).2 (S.tm rfl) rfl
    refine lv S (hr7 _) rfl ?_;clear S;intro a S
    clear hr7
    refine Vf JW S rfl rfl fun a S=>lv S (Ic isAgg4 (off:=o7) (o:=4) (S.tm rfl) (hm7.at S.emb0) rfl) rfl fun a S=>Dl ?_
    obtain ⟨j9,hj9,h⟩:=Ey h
    refine Es (fun a w'=>∃ x14 : Int,j9 x14 = some r ∧ Sx w [] nov [.own v1 3 1 x2.length (x2.flatMap eInt),.own v11 187 7 x8.length (x8.flatMap Eg.enc),.blk b1 [u1.val,iV Aw.Relay,iV Aw.Most] 28] [(1,Ab),(2,.pointer (some ⟨b1,0,none⟩)),(5,v11),(6,v1),(10,iV x9),(11,iV x10),(12,iV x14)] 132 a w') ?_ ?_
    ·refine Fc h (S.tm rfl) (fun hb9 h=>?_) (fun hb9 h=>?_)
     ·refine Fg (Vm S rfl rfl fun a S=>Vf TD S rfl rfl fun a S=>Vl isAgg3 2 S rfl rfl rfl rfl fun a S=>Vb S Xk rfl rfl rfl fun a S=>Va S rfl rfl fun a S=>Ld ?_)
      replace S:=S.k7 1 2 5 6 10 11 12 rfl
      exact Tn (⟨W (x11 * Aw.Relay),h,S.nf [true,true,true] rfl (subR rfl)⟩)
     ·exact wp_skip (Tn (⟨x11,h,S.nf [true,true,true] rfl (subR rfl)⟩))
    clear S h;rintro a w29 ⟨x14,h,S⟩;rw [hj9] at h;clear hj9 j9
    refine Tn (Fs (Fs (Fg ?_)))
    iterate 3 (refine Vm S rfl rfl ?_;clear S;intro a S)
    obtain ⟨hc9,h⟩:=Ij h
    obtain ⟨u2,hu1,hr8⟩:=rn_sub2 (a:=a) (x:=.tmp 111) (y:=.tmp 112) (y':=.tmp 113) (ty:=22) Pj S (i:=0) rfl (S.tm rfl) (S.tm rfl) (S.tm rfl) hc9
    refine lv S (hr8 _) rfl ?_;clear S;intro a S
    clear hr8
    refine lv S (Fq Pj (S.tm rfl) (subLen hu1)) rfl fun a S=>lv S (Rm rfl) rfl fun a S=>Dl ?_
    replace S:=S.k10 1 2 5 6 10 11 12 114 115 116 rfl
    obtain ⟨j10,hj10,h⟩:=Ey h
    refine Es (fun a w'=>∃ x15 : List Eg,∃ v12 : Value,j10 x15 = some r ∧ Sx w [] nov [.own v1 3 1 x2.length (x2.flatMap eInt),.own v12 187 7 x15.length (x15.flatMap Eg.enc),.blk b1 [u1.val,iV Aw.Relay,iV Aw.Most] 28] [(1,Ab),(2,.pointer (some ⟨b1,0,none⟩)),(5,v12),(6,v1),(11,iV x10)] 132 a w') ?_ ?_
    ·refine wp_block (Gz (fun (m3 : Nat) a w'=>∃ x15 : List Eg,∃ x16 : Int,∃ v12 : Value,Mk x10 x9 x14 x2 j10 m3 x15 x16 = some r ∧ Sx w [] nov [.own v1 3 1 x2.length (x2.flatMap eInt),.own v12 187 7 x15.length (x15.flatMap Eg.enc),.blk b1 [u1.val,iV Aw.Relay,iV Aw.Most] 28] [(1,Ab),(2,.pointer (some ⟨b1,0,none⟩)),(5,v12),(6,v1),(10,iV x9),(11,iV x10),(12,iV x14),(114,u2),(115,iV ((x10.toNat - x9.toNat : Nat) : Int)),(116,iV x16)] 132 a w') id ((((x10.toNat - x9.toNat : Nat) : Int) - 0).toNat + 2) ⟨x8,0,v11,h,S.nf [true,true,true] rfl (subR rfl)⟩ ?_)
     clear S h;rintro m3 a w30 ⟨x15,x16,v12,h,S⟩
     cases m3 with
     | zero=>rw [Mk.eq_1] at h;cases h
     | succ m3 =>
      rw [Mk.eq_2] at h
      refine Fr (Vb S Ev rfl rfl rfl fun a S=>Dl (Fs (Fc h (S.tm rfl) (fun hb10 h=>?_) (fun hb10 h=>?_))))
      ·refine wp_skip (Tn (Fs (wp_block (Fs (Fg ?_)))))
       obtain ⟨hc10,h⟩:=Ij h
       have hj11:=(sub_get (WU S (i:=0) rfl hu1) hc10).1
       obtain ⟨b14,hg5,hr9⟩:=PE (a:=a) (x:=.tmp 114) (y:=.tmp 116) (ty:=0) Pj Jb S (i:=0) rfl hu1 hc10 (S.tm rfl) (S.tm rfl)
       refine lv S (hr9 _) rfl ?_;clear S;intro a S
       clear hr9
       refine lv S (Ic isAgg3 (off:=(x9.toNat + x16.toNat) * 1) (o:=0) (S.tm rfl) (Vd Jb S (i:=0) rfl hg5 hj11) rfl) rfl fun a S=>Va S rfl rfl fun a S=>Dl (Fg ?_)
       iterate 5 (refine Vm S rfl rfl ?_;clear S;intro a S)
       refine Vb S Iy rfl rfl rfl ?_;clear S;intro a S
       obtain ⟨r1,hr10,h⟩:=Fd h
       refine Ei S (fun _=>Ea (vs:=[iV x14,iV (W (x10 - x9))]) ⟨(S.tm rfl),(S.tm rfl),trivial⟩ call114) (AA _ x14 (W (x10 - x9)) _ hr10) rfl ?_;clear S;intro v13 a w32 hv3 hk19 hn3 S
       subst hv3
       obtain ⟨hc11,h⟩:=Ij h
       obtain ⟨b15,hg6,hr11⟩:=Gx (a:=a) (x:=.tmp 120) (y:=.tmp 121) (ty:=0) CY Eg.enc_ok S (i:=1) rfl (Eh hc11).1 (Eh hc11).2 (S.tm rfl) (S.tm rfl)
       refine lv S (hr11 _) rfl ?_;clear S;intro a S
       clear hr11
       refine Vf PQ S rfl rfl fun a S=>Oe (c:=5) (j:=(nth (cut x2 x9 x10) x16).toNat) (Eg.mk ((nth x15 (nth (cut x2 x9 x10) x16)).x_) r1) Eg.enc_ok S (S.tm rfl) (S.tm rfl) (i:=1) rfl hg6 (Eh hc11).1 sizeOf49 (vs:=[iV r1.Num,iV r1.Den]) rfl rfl rfl rfl rfl ?_;clear S;intro w34 hk21 S
       refine Ld ?_
       replace S:=(S.nl [.own v1 3 1 x2.length (x2.flatMap eInt),.own v12 187 7 (x15.set ((nth (cut x2 x9 x10) x16).toNat) (Eg.mk ((nth x15 (nth (cut x2 x9 x10) x16)).x_) r1)).length ((x15.set ((nth (cut x2 x9 x10) x16).toNat) (Eg.mk ((nth x15 (nth (cut x2 x9 x10) x16)).x_) r1)).flatMap Eg.enc),.blk b1 [u1.val,iV Aw.Relay,iV Aw.Most] 28] [true,true,true] rfl).k10 1 2 5 6 10 11 12 114 115 116 rfl
       exact Hn (Tn (Fg (Vq S Gf rfl rfl rfl fun a S=>Vm S rfl rfl fun a S=>Dl (⟨m3,⟨(x15.set ((nth (cut x2 x9 x10) x16).toNat) (Eg.mk ((nth x15 (nth (cut x2 x9 x10) x16)).x_) r1)),W (x16 + 1),v12,h,S.nf [true,true,true] rfl ⟨rfl,rfl,rfl,rfl,rfl,rfl,rfl,rfl,rfl,rfl,trivial⟩⟩,Nat.lt_succ_self _⟩))))
      ·exact wp_exit (Ep (Ep (Gr (Tn (⟨x15,v12,h,S.nf [true,true,true] rfl (subR rfl)⟩)))))
    clear S h;rintro a w31 ⟨x15,v12,h,S⟩;rw [hj10] at h;clear hj10 j10
    exact Tn (Fg (Vm S rfl rfl fun a S=>Va S rfl rfl fun a S=>Ld (Hn (Tn (⟨m1,⟨x15,x10,v12,h,S.nf [true,true,true] rfl ⟨rfl,rfl,rfl,rfl,rfl,trivial⟩⟩,Nat.lt_succ_self _⟩)))))
   ·exact wp_exit (Ep (Ep (Gr (Tn (⟨x8,v11,h,S.nf [true,true,true] rfl ⟨rfl,trivial⟩⟩)))))
 clear S h;rintro a w22 ⟨x8,v11,h,S⟩;rw [hj4] at h;clear hj4 j4
 refine Tn (Fr (Vm S rfl rfl fun a S=>Va S rfl rfl fun a S=>Dl (wp_ret ?_)))
 obtain rfl:=Option.some.inj h
 exact Eu S results137 rfl (Tt S (i:=1) rfl rfl)
theorem KB (w : World) (Aw : Mz) (Ch : R28) (Cv : Zh (view w []) Aw Ch) (Ab : Value) (Ae : List Dy) (Ag : Slc (view w []) 5 Ab (Ae.map Dy.enc)) (r : (List Eg)) (h : Sd Aw Ae = some r) :
    Calls prog 106 [.agg (R28.enc Ch).toArray,Ab].toArray w (Ret w [] fun τ v _=>Up τ 187 7 v r.length (r.flatMap Eg.enc)):=by
 obtain ⟨u1,rfl,hs1⟩:=Cv
 refine Fe func106 rfl ntmps106 rfl fun a S=>?_
 unfold Sd at h
 replace S:=S.k2 0 1 rfl
 refine Fr (Mx S (S.tm rfl) (cs:=[u1.val,iV Aw.Relay,iV Aw.Most]) rfl rfl ?_);clear S;intro a w1 b1 hz1 hk1 S
 refine Vk S rfl rfl fun a S=>Dz (Vk S rfl rfl ?_);clear S;intro a S
 replace S:=S.nil 187 7
 refine Dl (Fs (Fr (Vm S rfl rfl ?_)));clear S;intro a S
 obtain ⟨r1,hr1,h⟩:=Fd h
 have hz2:=S.keep.size
 refine Ei S (fun _=>Ea (vs:=[Ab]) ⟨(S.tm rfl),trivial⟩ call136) (CA _ (join (view w []) nov) (Py (S.le_arg Er) (S.le_new Er)) Ab Ae (Ag.mono (le_join_left _ _)) _ hr1) rfl ?_;clear S;intro v1 a w2 hv1 hk2 hn1 S
 obtain ⟨φ1,hl1,hm1,S⟩:=S.see' hn1 hz2
 obtain ⟨rs1,ho2,hr2⟩:=hv1
 have hs2:=ho2.mono (Tv hl1 hm1)
 have hr3:=GK (Tv hl1 hm1) hr2
 refine lv S (Fq BP (S.tm rfl) (Vv hs2 hr3)) rfl fun a S=>lv S (Rm rfl) rfl fun a S=>Dl ?_
 replace S:=(S.nl [.own (.slice none 0 0) 187 7 ([] : List Eg).length (([] : List Eg).flatMap Eg.enc),.blk b1 [u1.val,iV Aw.Relay,iV Aw.Most] 28] [true,true] rfl).k5 2 5 9 10 11 rfl
 obtain ⟨j1,hj1,h⟩:=Ey h
 refine Es (fun a w'=>∃ x1 : List Eg,∃ φ2 : View,∃ v2 : Value,j1 x1 = some r ∧ View.le φ1 φ2 ∧ Sx w [] φ2 [.own v2 187 7 x1.length (x1.flatMap Eg.enc),.blk b1 [u1.val,iV Aw.Relay,iV Aw.Most] 28] [(5,v2)] 22 a w') ?_ ?_
 ·refine wp_block (Gz (fun (ys1 : List (List Dy)) a w'=>∃ i1 : Nat,∃ x1 : List Eg,∃ φ2 : View,∃ v2 : Value,(∃ dn,r1 = dn ++ ys1 ∧ dn.length = i1) ∧ Om Aw j1 ys1 i1 x1 = some r ∧ View.le φ1 φ2 ∧ Sx w [] φ2 [.own v2 187 7 x1.length (x1.flatMap Eg.enc),.blk b1 [u1.val,iV Aw.Relay,iV Aw.Most] 28] [(2,.pointer (some ⟨b1,0,none⟩)),(5,v2),(9,v1),(10,iV (r1.length : Int)),(11,iV (i1 : Int))] 22 a w') List.length r1 ⟨0,([] : List Eg),φ1,(.slice none 0 0),⟨[],rfl,rfl⟩,h,View.le_refl _,S.nf [true,true] rfl (subR rfl)⟩ ?_)
  clear S h;rintro ys1 a w3 ⟨i1,x1,φ2,v2,⟨dn,hd1,hi1⟩,h,hl2,S⟩
  cases ys1 with
  | nil =>
   rw [Om.eq_1] at h
   refine Fr (Vb S Ev rfl rfl rfl fun a S=>Ld ?_)
   replace S:=S.k6 2 5 9 10 11 12 rfl
   exact Tn (Fs (wp_cond_false ((S.tm rfl).trans (congrArg Value.bool (Im hd1 hi1))) (wp_exit (Ep (Ep (Gr (Tn (⟨x1,φ2,v2,h,hl2,S.nf [true,true] rfl ⟨rfl,trivial⟩⟩))))))))
  | cons y1 ys1 =>
   rw [Om.eq_2] at h
   refine Fr (Vb S Ev rfl rfl rfl fun a S=>Ld ?_)
   replace S:=S.k6 2 5 9 10 11 12 rfl
   refine Tn (Fs (wp_cond_true ((S.tm rfl).trans (congrArg Value.bool (Hr hd1 hi1))) (wp_skip (Tn (Fs (wp_block (Fs (Fg ?_))))))))
   obtain ⟨r2,hg1,hl3⟩:=Mg.at hr3 (Iv hd1 hi1)
   have hs3:=hl3
   obtain ⟨b2,o1,hm2,hr4⟩:=Fh (a:=a) (x:=.tmp 9) (y:=.tmp 11) (ty:=0) BP hs2 hg1 rfl (S.tm rfl) (S.tm rfl)
   refine lv S (hr4 _) rfl ?_;clear S;intro a S
   clear hr4
   refine lv S (Ic isAgg125 (off:=o1) (o:=0) (S.tm rfl) ((hm2.mono (JT hl2)).at (Wt S.emb0 S.emb)) rfl) rfl fun a S=>Va S rfl rfl fun a S=>Dl (Fg (Vm S rfl rfl fun a S=>lv S (Fk isAgg28 sizeOf28 (off:=0) (o:=0) (part:=[u1.val,iV Aw.Relay,iV Aw.Most]) rfl rfl (S.tm rfl) (S.cellsAt (i:=1) rfl)) rfl fun a S=>Vm S rfl rfl ?_));clear S;intro a S
   obtain ⟨r3,hr5,h⟩:=Fd h
   have hz3:=S.keep.size
   refine Ei S (fun _=>Ea (vs:=[.agg (R28.enc (R28.mk u1 Aw.Relay Aw.Most)).toArray,r2.val]) ⟨(S.tm rfl),(S.tm rfl),trivial⟩ call137) (KA _ Aw (R28.mk u1 Aw.Relay Aw.Most) ⟨u1,rfl,(hs1.mono (S.le_arg Er))⟩ r2.val y1 (hs3.mono (Py (S.le_arg Er) (View.le_trans hl2 (S.le_new Er)))) _ hr5) rfl ?_;clear S;intro v3 a w5 hv2 hk3 hn2 S
   obtain ⟨φ3,hl4,hm3,S⟩:=S.see' hn2 hz3
   have hs4:=hv2.mono hm3
   obtain ⟨hc1,h⟩:=Ij h
   refine HP (Y:=[]) CY Eg.enc_ok S (S.tm rfl) (i:=0) rfl (S.tm rfl) ((Hg Eg.enc_ok hs4).mono (S.le_new (fun _ h=>by cases h))) rfl rfl (by have:=Ob hc1;omega) rfl ?_;clear S;intro v4 a w6 hk4 S
   refine Va S rfl rfl fun a S=>Ld (Hn (Tn (Fg (Vq S Gf rfl rfl rfl fun a S=>Vm S rfl rfl fun a S=>Ld ?_))))
   replace S:=(S.nl [.own v4 187 7 (x1 ++ r3).length ((x1 ++ r3).flatMap Eg.enc),.blk b1 [u1.val,iV Aw.Relay,iV Aw.Most] 28] [true,true] rfl).k5 2 5 9 10 11 rfl
   exact Tn (⟨ys1,⟨i1 + 1,(x1 ++ r3),φ3,v4,⟨_,(hd1).trans (List.append_cons _ _ _),by simp [hi1]⟩,h,(View.le_trans hl2 hl4),S.nf [true,true] rfl ⟨rfl,rfl,rfl,rfl,(congrArg (fun z=>some (Value.int .i64 z)) (Hs hd1 hi1 (Yf hs2 hr3))),trivial⟩⟩,Nat.lt_succ_self _⟩)
 clear S h;rintro a w4 ⟨x1,φ2,v2,h,hl2,S⟩;rw [hj1] at h;clear hj1 j1
 refine Tn (Fr (Vm S rfl rfl fun a S=>Va S rfl rfl fun a S=>Dl (wp_ret ?_)))
 obtain rfl:=Option.some.inj h
 exact Eu S results106 rfl (Tt S (i:=0) rfl rfl)
theorem IZ (w : World) (Aw : Mz) (Ch : R28) (Cv : Zh (view w []) Aw Ch) (Ab : Value) (Ae : List Dy) (Ag : Slc (view w []) 5 Ab (Ae.map Dy.enc)) (r : (List Ej) × Int) (h : Vh Aw Ae = some r) :
    Calls prog 58 [.agg (R28.enc Ch).toArray,Ab].toArray w (Ret w [] fun τ v _=>∃ u1 : Value,v = .tuple #[u1,iV r.2] ∧ Up τ 57 3 u1 r.1.length (r.1.flatMap Ej.enc)):=by
 obtain ⟨u1,rfl,hs1⟩:=Cv
 refine Fe func58 rfl ntmps58 rfl fun a S=>?_
 unfold Vh at h
 replace S:=S.k2 0 1 rfl
 refine Fr (Mx S (S.tm rfl) (cs:=[u1.val,iV Aw.Relay,iV Aw.Most]) rfl rfl ?_);clear S;intro a w1 b1 hz1 hk1 S
 refine Vk S rfl rfl fun a S=>Vk S rfl rfl fun a S=>Dl (Fs (Fr (lv S (Fk isAgg28 sizeOf28 (off:=0) (o:=0) (part:=[u1.val,iV Aw.Relay,iV Aw.Most]) rfl rfl (S.tm rfl) (S.cellsAt (i:=0) rfl)) rfl fun a S=>Vm S rfl rfl ?_)));clear S;intro a S
 obtain ⟨r1,hr1,h⟩:=Fd h
 refine Ei S (fun _=>Ea (vs:=[.agg (R28.enc (R28.mk u1 Aw.Relay Aw.Most)).toArray,Ab]) ⟨(S.tm rfl),(S.tm rfl),trivial⟩ call105) (ES _ Aw (R28.mk u1 Aw.Relay Aw.Most) ⟨u1,rfl,(hs1.mono (S.le_arg Er))⟩ Ab Ae (Ag.mono (S.le_arg Er)) _ hr1) rfl ?_;clear S;intro v1 a w2 hv1 hk2 hn1 S
 subst hv1
 refine Va S rfl rfl fun a S=>Dz (Vm S rfl rfl fun a S=>Vq S Lf rfl rfl rfl fun a S=>Dl (Fc h (S.tm rfl) (fun hb1 h=>?_) (fun hb1 h=>?_)))
 ·refine Fr (Vm S rfl rfl fun a S=>Vk S rfl rfl fun a S=>Va S rfl rfl fun a S=>Dl (wp_ret (Ec ?_)))
  obtain rfl:=Option.some.inj h
  exact Ln S results58 rfl rfl ⟨_,rfl,(Oz _ _ _)⟩
 ·refine wp_skip (Tn (Fr (Vk S rfl rfl ?_)));clear S;intro a S
  replace S:=S.nil 57 3
  refine Dl (Fs (Fr (lv S (Fk isAgg28 sizeOf28 (off:=0) (o:=0) (part:=[u1.val,iV Aw.Relay,iV Aw.Most]) rfl rfl (S.tm rfl) (S.cellsAt (i:=1) rfl)) rfl fun a S=>Vm S rfl rfl ?_)));clear S;intro a S
  obtain ⟨r2,hr2,h⟩:=Fd h
  have hz2:=S.keep.size
  refine Ei S (fun _=>Ea (vs:=[.agg (R28.enc (R28.mk u1 Aw.Relay Aw.Most)).toArray,Ab]) ⟨(S.tm rfl),(S.tm rfl),trivial⟩ call106) (KB _ Aw (R28.mk u1 Aw.Relay Aw.Most) ⟨u1,rfl,(hs1.mono (S.le_arg Er))⟩ Ab Ae (Ag.mono (S.le_arg Er)) _ hr2) rfl ?_;clear S;intro v2 a w3 hv2 hk3 hn2 S
  obtain ⟨φ1,hl1,hm1,S⟩:=S.see' hn2 hz2
  have hs2:=hv2.mono hm1
  refine lv S (Fq CY (S.tm rfl) (Fm (Hg Eg.enc_ok hs2))) rfl fun a S=>lv S (Rm rfl) rfl fun a S=>Ld ?_
  replace S:=(S.nl [.own (.slice none 0 0) 57 3 ([] : List Ej).length (([] : List Ej).flatMap Ej.enc)] [true,false] rfl).k4 7 18 19 20 rfl
  refine Tn ?_
  obtain ⟨j1,hj1,h⟩:=Ey h
  refine Es (fun a w'=>∃ x1 : List Ej,∃ v3 : Value,j1 x1 = some r ∧ Sx w [] φ1 [.own v3 57 3 x1.length (x1.flatMap Ej.enc)] [(7,v3)] 40 a w') ?_ ?_
  ·refine wp_block (Gz (fun (ys1 : List Eg) a w'=>∃ i1 : Nat,∃ x1 : List Ej,∃ v3 : Value,(∃ dn,r2 = dn ++ ys1 ∧ dn.length = i1) ∧ Nc j1 ys1 i1 x1 = some r ∧ Sx w [] φ1 [.own v3 57 3 x1.length (x1.flatMap Ej.enc)] [(7,v3),(18,v2),(19,iV (r2.length : Int)),(20,iV (i1 : Int))] 40 a w') List.length r2 ⟨0,([] : List Ej),(.slice none 0 0),⟨[],rfl,rfl⟩,h,S.nf [true] rfl (subR rfl)⟩ ?_)
   clear S h;rintro ys1 a w4 ⟨i1,x1,v3,⟨dn,hd1,hi1⟩,h,S⟩
   cases ys1 with
   | nil =>
    rw [Nc.eq_1] at h
    refine Fr (Vb S Ev rfl rfl rfl fun a S=>Ld ?_)
    replace S:=S.k5 7 18 19 20 21 rfl
    exact Tn (Fs (wp_cond_false ((S.tm rfl).trans (congrArg Value.bool (Im hd1 hi1))) (wp_exit (Ep (Ep (Gr (Tn (⟨x1,v3,h,S.nf [true] rfl ⟨rfl,trivial⟩⟩))))))))
   | cons y1 ys1 =>
    rw [Nc.eq_2] at h
    refine Fr (Vb S Ev rfl rfl rfl fun a S=>Ld ?_)
    replace S:=S.k5 7 18 19 20 21 rfl
    refine Tn (Fs (wp_cond_true ((S.tm rfl).trans (congrArg Value.bool (Hr hd1 hi1))) (wp_skip (Tn (Fs (wp_block (Fs (Fg ?_))))))))
    obtain ⟨b2,o1,hm2,hr3⟩:=Fh (a:=a) (x:=.tmp 18) (y:=.tmp 20) (ty:=0) CY (Hg Eg.enc_ok hs2) (Iv hd1 hi1) rfl (S.tm rfl) (S.tm rfl)
    refine lv S (hr3 _) rfl ?_;clear S;intro a S
    clear hr3
    refine lv S (Fk isAgg187 sizeOf187 (off:=o1) (o:=0) (part:=(Eg.enc y1)) rfl rfl (S.tm rfl) (hm2.at S.emb)) rfl fun a S=>Hu S zeroValue187 (cs:=[sV An,sV An,sV An,iV 0,bV false,iV 0,iV 0]) rfl rfl ?_;clear S;intro a w6 b3 hz3 hk4 S
    refine Fj S (S.tm rfl) (S.tm rfl) (i:=0) (off:=0) rfl sizeOf187 (vs:=(Eg.enc y1)) rfl rfl rfl rfl ?_;clear S;intro w7 hk5 S
    refine Dl (Fg (Vm S rfl rfl fun a S=>Vf GS S rfl rfl fun a S=>Vf Yj S rfl rfl fun a S=>Vl isAgg9 0 S rfl rfl rfl rfl ?_));clear S;intro a S
    obtain ⟨hc1,h⟩:=Ij h
    refine lv S (JE (m:=y1.x_.Race) (n:=Qe) (S.tm rfl) rfl (by have:=Ob hc1;omega)) rfl ?_;clear S;intro a S
    refine Vf GS S rfl rfl fun a S=>Vf Yk S rfl rfl fun a S=>Vl isAgg9 0 S rfl rfl rfl rfl ?_;clear S;intro a S
    obtain ⟨hc2,h⟩:=Ij h
    refine lv S (JE (m:=(y1.x_.Race ++ Qe)) (n:=y1.x_.Who) (S.tm rfl) (S.tm rfl) (by have:=Ob hc2;omega)) rfl ?_;clear S;intro a S
    refine Vf PQ S rfl rfl fun a S=>lv S (Fk isAgg49 sizeOf49 (off:=0) (o:=5) (part:=(Ee.enc y1.points_)) rfl rfl (S.tm rfl) (S.cellsAt (i:=0) rfl)) rfl fun a S=>lv S (Nl bt_57 (pv:=[(0,sV ((y1.x_.Race ++ Qe) ++ y1.x_.Who)),(1,.agg (Ee.enc y1.points_).toArray)]) ⟨rfl,(S.tm rfl),rfl,(S.tm rfl),trivial⟩ (cs:=[sV ((y1.x_.Race ++ Qe) ++ y1.x_.Who),iV y1.points_.Num,iV y1.points_.Den]) (by kernel_rfl)) rfl fun a S=>Ff S underlying52 sizeOf57 zeroValue57 rfl rfl (pv:=[(0,.agg #[sV ((y1.x_.Race ++ Qe) ++ y1.x_.Who),iV y1.points_.Num,iV y1.points_.Den])]) ⟨rfl,(S.tm rfl),trivial⟩ (cs:=[sV ((y1.x_.Race ++ Qe) ++ y1.x_.Who),iV y1.points_.Num,iV y1.points_.Den]) (by kernel_rfl) rfl ?_;clear S;intro a w8 b4 hz4 hk6 S
    obtain ⟨hc3,h⟩:=Ij h
    refine Np AL Ej.enc_ok S (S.tm rfl) (i:=2) rfl (S.tm rfl) (j:=0) rfl (ys:=[(Ej.mk ((y1.x_.Race ++ Qe) ++ y1.x_.Who) y1.points_)]) rfl rfl rfl rfl (by have:=Ob hc3;omega) rfl ?_;clear S;intro v4 a w9 hk7 S
    refine Va S rfl rfl fun a S=>Ld ?_
    replace S:=(S.nl [.own v4 57 3 (x1 ++ [(Ej.mk ((y1.x_.Race ++ Qe) ++ y1.x_.Who) y1.points_)]).length ((x1 ++ [(Ej.mk ((y1.x_.Race ++ Qe) ++ y1.x_.Who) y1.points_)]).flatMap Ej.enc)] [false,false,true] rfl).k4 7 18 19 20 rfl
    exact Hn (Tn (Fg (Vq S Gf rfl rfl rfl fun a S=>Vm S rfl rfl fun a S=>Dl (⟨ys1,⟨i1 + 1,(x1 ++ [(Ej.mk ((y1.x_.Race ++ Qe) ++ y1.x_.Who) y1.points_)]),v4,⟨_,(hd1).trans (List.append_cons _ _ _),by simp [hi1]⟩,h,S.nf [true] rfl ⟨rfl,rfl,rfl,(congrArg (fun z=>some (Value.int .i64 z)) (Hs hd1 hi1 (Jg (Hg Eg.enc_ok hs2)))),trivial⟩⟩,Nat.lt_succ_self _⟩))))
  clear S h;rintro a w5 ⟨x1,v3,h,S⟩;rw [hj1] at h;clear hj1 j1
  refine Tn (Fr (Vm S rfl rfl fun a S=>Va S rfl rfl fun a S=>Vk S rfl rfl fun a S=>Dl (wp_ret ?_)))
  obtain rfl:=Option.some.inj h
  exact Ln S results58 rfl rfl ⟨_,rfl,(Tt S (i:=0) rfl rfl)⟩
theorem AS (w : World) (U : Nat) (Af : Kq) (Bl : R32) (Bv : Tp (view w []) Af Bl) (Ap : Value) (Ak : List Dx) (Bc : Slc (view w []) 11 Ap (Ak.map Dx.enc)) (Ar : (view w []) U = some (.cells (R32.enc Bl ++ [Ap]).toArray 134 (0,0))) (As : Em) (r : (List Ih) × Int) (h : Pn Af Ak As = some r) :
    Calls prog 28 [.pointer (some ⟨U,0,none⟩),.agg (Em.enc As).toArray].toArray w (Ret w [] fun τ v _=>∃ u1 : Value,v = .tuple #[u1,iV r.2] ∧ Up τ 51 7 u1 r.1.length (r.1.flatMap Ih.enc)):=by
 obtain ⟨u1,u2,rfl,hs1,⟨u3,rfl,hs2⟩⟩:=Bv
 replace Ar : (view w []) U = some (.cells [u1.val,u3.val,iV Af.Table.Relay,iV Af.Table.Most,iV Af.Final.Size,iV Af.Final.Many,iV Af.Final.Reserves,Ap].toArray 134 (0,0)):=Ar
 refine Fe func28 rfl ntmps28 rfl fun a S=>?_
 unfold Pn at h
 replace S:=S.k2 0 1 rfl
 refine Fr (Mx S (S.tm rfl) (cs:=(Em.enc As)) rfl rfl ?_);clear S;intro a w1 b1 hz1 hk1 S
 refine Vk S rfl rfl fun a S=>Vk S rfl rfl fun a S=>Dz (Vm S rfl rfl fun a S=>Vf Ya S rfl rfl fun a S=>Vl isAgg9 0 S rfl rfl rfl rfl ?_);clear S;intro a S
 obtain ⟨r1,hr1,h⟩:=Fd h
 have hz2:=S.keep.size
 refine Ei S (fun _=>Ea (vs:=[.pointer (some ⟨U,0,none⟩),sV As.Key]) ⟨(S.tm rfl),(S.tm rfl),trivial⟩ call55) (IY _ U Af (R32.mk u1 (R28.mk u3 Af.Table.Relay Af.Table.Most) Af.Final) ⟨u1,(R28.mk u3 Af.Table.Relay Af.Table.Most),rfl,(hs1.mono (S.le_arg Er)),⟨u3,rfl,(hs2.mono (S.le_arg Er))⟩⟩ Ap Ak (Bc.mono (S.le_arg Er)) ((S.le_arg Er) _ _ Ar) As.Key _ hr1) rfl ?_;clear S;intro v1 a w2 hv1 hk2 hn1 S
 obtain ⟨u4,u5,rfl,ho1,ho2⟩:=hv1
 obtain ⟨φ1,hl1,hm1,S⟩:=S.see' hn1 hz2
 have hs3:=ho1.mono hm1
 obtain ⟨b2,rfl,hq1⟩:=ho2
 replace hq1:=hm1 _ _ hq1
 refine Vm S rfl rfl ?_;clear S;intro a S
 iterate 3 (refine Vq S Fy rfl rfl rfl ?_;clear S;intro a S)
 iterate 3 (refine Va S rfl rfl ?_;clear S;intro a S)
 refine Ld ?_
 replace S:=(S.nl [.blk b1 (Em.enc As) 43] [true] rfl).k5 0 3 6 7 8 rfl
 refine Tn (Fs (Fr (Vm S rfl rfl fun a S=>Vq S Lf rfl rfl rfl fun a S=>Dl (Fc h (S.tm rfl) (fun hb1 h=>?_) (fun hb1 h=>?_)))))
 ·refine Fr (Vm S rfl rfl fun a S=>Vk S rfl rfl fun a S=>Va S rfl rfl fun a S=>Dl (wp_ret (Ec ?_)))
  obtain rfl:=Option.some.inj h
  exact Ln S results28 rfl rfl ⟨_,rfl,(Oz _ _ _)⟩
 ·refine wp_skip (Tn (Fr (Vk S rfl rfl ?_)));clear S;intro a S
  replace S:=S.nil 129 5
  refine Dl (Fs (Fr (Vm S rfl rfl fun a S=>lv S (Fq Te (S.tm rfl) (Fm (Hg Eb.enc_ok hs3))) rfl fun a S=>lv S (Rm rfl) rfl fun a S=>Dl ?_)))
  replace S:=(S.nl [.own (.slice none 0 0) 129 5 ([] : List Dy).length (([] : List Dy).flatMap Dy.enc),.blk b1 (Em.enc As) 43] [true,true] rfl).k8 0 3 6 7 9 32 33 34 rfl
  obtain ⟨j1,hj1,h⟩:=Ey h
  refine Es (fun a w'=>∃ x1 : List Dy,∃ v2 : Value,j1 x1 = some r ∧ Sx w [] φ1 [.own v2 129 5 x1.length (x1.flatMap Dy.enc),.blk b1 (Em.enc As) 43] [(0,.pointer (some ⟨U,0,none⟩)),(3,.pointer (some ⟨b1,0,none⟩)),(6,u4),(7,.map (some b2)),(9,v2)] 123 a w') ?_ ?_
  ·refine wp_block (Gz (fun (ys1 : List Eb) a w'=>∃ i1 : Nat,∃ x1 : List Dy,∃ v2 : Value,(∃ dn,r1.1 = dn ++ ys1 ∧ dn.length = i1) ∧ Ml As r1 j1 ys1 i1 x1 = some r ∧ Sx w [] φ1 [.own v2 129 5 x1.length (x1.flatMap Dy.enc),.blk b1 (Em.enc As) 43] [(0,.pointer (some ⟨U,0,none⟩)),(3,.pointer (some ⟨b1,0,none⟩)),(6,u4),(7,.map (some b2)),(9,v2),(32,u4),(33,iV (r1.1.length : Int)),(34,iV (i1 : Int))] 123 a w') List.length r1.1 ⟨0,([] : List Dy),(.slice none 0 0),⟨[],rfl,rfl⟩,h,S.nf [true,true] rfl (subR rfl)⟩ ?_)
   clear S h;rintro ys1 a w3 ⟨i1,x1,v2,⟨dn,hd1,hi1⟩,h,S⟩
   cases ys1 with
   | nil =>
    rw [Ml.eq_1] at h
    refine Fr (Vb S Ev rfl rfl rfl fun a S=>Ld ?_)
    replace S:=S.k9 0 3 6 7 9 32 33 34 35 rfl
    exact Tn (Fs (wp_cond_false ((S.tm rfl).trans (congrArg Value.bool (Im hd1 hi1))) (wp_exit (Ep (Ep (Gr (Tn (⟨x1,v2,h,S.nf [true,true] rfl (subR rfl)⟩))))))))
   | cons y1 ys1 =>
    rw [Ml.eq_2] at h
    refine Fr (Vb S Ev rfl rfl rfl fun a S=>Ld ?_)
    replace S:=S.k9 0 3 6 7 9 32 33 34 35 rfl
    refine Tn (Fs (wp_cond_true ((S.tm rfl).trans (congrArg Value.bool (Hr hd1 hi1))) (wp_skip (Tn (Fs (wp_block (Fs (Fg ?_))))))))
    obtain ⟨b3,o1,hm2,hr2⟩:=Fh (a:=a) (x:=.tmp 32) (y:=.tmp 34) (ty:=0) Te (Hg Eb.enc_ok hs3) (Iv hd1 hi1) rfl (S.tm rfl) (S.tm rfl)
    refine lv S (hr2 _) rfl ?_;clear S;intro a S
    clear hr2
    refine lv S (Fk isAgg127 sizeOf127 (off:=o1) (o:=0) (part:=(Eb.enc y1)) rfl rfl (S.tm rfl) (hm2.at S.emb)) rfl fun a S=>Hu S zeroValue127 (cs:=[sV An,iV 0,iV 0,iV 0]) rfl rfl ?_;clear S;intro a w5 b4 hz3 hk3 S
    refine Fj S (S.tm rfl) (S.tm rfl) (i:=0) (off:=0) rfl sizeOf127 (vs:=(Eb.enc y1)) rfl rfl rfl rfl ?_;clear S;intro w6 hk4 S
    refine Dl (Fg (Vm S rfl rfl fun a S=>Vf Ya S rfl rfl fun a S=>Vl isAgg9 2 S rfl rfl rfl rfl fun a S=>Vf CZ S rfl rfl fun a S=>Vl isAgg9 0 S rfl rfl rfl rfl fun a S=>Vm S rfl rfl fun a S=>Vf CZ S rfl rfl fun a S=>Vl isAgg9 0 S rfl rfl rfl rfl ?_));clear S;intro a S
    refine lv S (Qk (kv:=Value.string) (vv:=Value.string) (m:=r1.2.1) (key:=y1.Who) (z:=An) (S.emb _ _ hq1) underlying122 (Mq underlying9) zeroValue9 (S.tm rfl) (S.tm rfl)) rfl fun a S=>Vf DA S rfl rfl fun a S=>Vl isAgg3 0 S rfl rfl rfl rfl fun a S=>Vf GM S rfl rfl fun a S=>Vl isAgg3 2 S rfl rfl rfl rfl fun a S=>Vq S Jj rfl rfl rfl fun a S=>lv S (Nl bt_129 (pv:=[(0,sV As.Key),(1,sV y1.Who),(2,sV (El r1.2.1 y1.Who An)),(3,iV y1.Rank),(4,bV (decide (1 < As.Legs)))]) ⟨rfl,(S.tm rfl),rfl,(S.tm rfl),rfl,(S.tm rfl),rfl,(S.tm rfl),rfl,(S.tm rfl),trivial⟩ (cs:=[sV As.Key,sV y1.Who,sV (El r1.2.1 y1.Who An),iV y1.Rank,bV (decide (1 < As.Legs))]) (by kernel_rfl)) rfl fun a S=>Ff S underlying125 sizeOf129 zeroValue129 rfl rfl (pv:=[(0,.agg #[sV As.Key,sV y1.Who,sV (El r1.2.1 y1.Who An),iV y1.Rank,bV (decide (1 < As.Legs))])]) ⟨rfl,(S.tm rfl),trivial⟩ (cs:=[sV As.Key,sV y1.Who,sV (El r1.2.1 y1.Who An),iV y1.Rank,bV (decide (1 < As.Legs))]) (by kernel_rfl) rfl ?_;clear S;intro a w7 b5 hz4 hk5 S
    obtain ⟨hc1,h⟩:=Ij h
    refine Np Oo Dy.enc_ok S (S.tm rfl) (i:=2) rfl (S.tm rfl) (j:=0) rfl (ys:=[(Dy.mk As.Key y1.Who (El r1.2.1 y1.Who An) y1.Rank (decide (1 < As.Legs)))]) rfl rfl rfl rfl (by have:=Ob hc1;omega) rfl ?_;clear S;intro v3 a w8 hk6 S
    refine Va S rfl rfl fun a S=>Ld ?_
    replace S:=(S.nl [.own v3 129 5 (x1 ++ [(Dy.mk As.Key y1.Who (El r1.2.1 y1.Who An) y1.Rank (decide (1 < As.Legs)))]).length ((x1 ++ [(Dy.mk As.Key y1.Who (El r1.2.1 y1.Who An) y1.Rank (decide (1 < As.Legs)))]).flatMap Dy.enc),.blk b1 (Em.enc As) 43] [false,false,true,true] rfl).k8 0 3 6 7 9 32 33 34 rfl
    exact Hn (Tn (Fg (Vq S Gf rfl rfl rfl fun a S=>Vm S rfl rfl fun a S=>Dl (⟨ys1,⟨i1 + 1,(x1 ++ [(Dy.mk As.Key y1.Who (El r1.2.1 y1.Who An) y1.Rank (decide (1 < As.Legs)))]),v3,⟨_,(hd1).trans (List.append_cons _ _ _),by simp [hi1]⟩,h,S.nf [true,true] rfl ⟨rfl,rfl,rfl,rfl,rfl,rfl,rfl,(congrArg (fun z=>some (Value.int .i64 z)) (Hs hd1 hi1 (Jg (Hg Eb.enc_ok hs3)))),trivial⟩⟩,Nat.lt_succ_self _⟩))))
  clear S h;rintro a w4 ⟨x1,v2,h,S⟩;rw [hj1] at h;clear hj1 j1
  refine Tn (Fr (Vm S rfl rfl ?_));clear S;intro a S
  obtain ⟨r2,hr3,h⟩:=Fd h
  refine Mr 0 S rfl (fun _=>.own v2 129 5 r2.length (r2.flatMap Dy.enc)) (fun _=>Ea (vs:=[v2,.func (.func 57) #[] #[]]) ⟨(S.tm rfl),rfl,trivial⟩ call56) (Rw _ v2 x1 (S.holds _ (List.mem_of_getElem? (i:=0) rfl)) _ hr3) rfl (fun _ _ _ h=>⟨h.1,fun _ hc=>hc⟩) ?_;clear S;intro v4 a w9 hv2 hk7 hn2 S
  replace hv2:=hv2.2
  subst hv2
  refine Dz (Vm S rfl rfl fun a S=>Vu S Lz rfl rfl fun a S=>Vf DC S rfl rfl fun a S=>Vf JH S rfl rfl fun a S=>lv S (Fk isAgg28 sizeOf28 (off:=0) (o:=1) (part:=[u3.val,iV Af.Table.Relay,iV Af.Table.Most]) rfl rfl (S.tm rfl) ((Ti Ar).at S.emb0)) rfl fun a S=>Vm S rfl rfl ?_);clear S;intro a S
  obtain ⟨r3,hr4,h⟩:=Fd h
  have hz5:=S.keep.size
  refine Ei S (fun _=>Ea (vs:=[.agg (R28.enc (R28.mk u3 Af.Table.Relay Af.Table.Most)).toArray,v2]) ⟨(S.tm rfl),(S.tm rfl),trivial⟩ call58) (IZ _ Af.Table (R28.mk u3 Af.Table.Relay Af.Table.Most) ⟨u3,rfl,(hs2.mono (S.le_arg Er))⟩ v2 r2 (CN Dy.enc_ok S (i:=0) rfl (Ie (e':=.own v2 129 5 r2.length (r2.flatMap Dy.enc)))) _ hr4) rfl ?_;clear S;intro v5 a w10 hv3 hk8 hn3 S
  obtain ⟨u6,rfl,ho3⟩:=hv3
  obtain ⟨φ2,hl2,hm3,S⟩:=S.see' hn3 hz5
  have hs4:=ho3.mono hm3
  refine Vm S rfl rfl fun a S=>Vq S Fy rfl rfl rfl fun a S=>Vq S Fy rfl rfl rfl fun a S=>Va S rfl rfl fun a S=>Va S rfl rfl fun a S=>Ld ?_
  replace S:=(S.nl [.blk b1 (Em.enc As) 43] [false,true] rfl).k5 3 6 7 8 12 rfl
  refine Tn (Fs (Fr (Vm S rfl rfl fun a S=>Vq S Lf rfl rfl rfl fun a S=>Dl (Fc h (S.tm rfl) (fun hb2 h=>?_) (fun hb2 h=>?_)))))
  ·refine Fr (Vm S rfl rfl fun a S=>Vk S rfl rfl fun a S=>Va S rfl rfl fun a S=>Dl (wp_ret (Ec ?_)))
   obtain rfl:=Option.some.inj h
   exact Ln S results28 rfl rfl ⟨_,rfl,(Oz _ _ _)⟩
  ·refine wp_skip (Tn (Fr (Rc (κ:=ByteArray) (ν:=Ee) S rfl Value.string (fun x=>Value.agg (Ee.enc x).toArray) ?_)));clear S;intro a w11 b6 hz6 hk9 S
   refine Va S rfl rfl fun a S=>Dl (Fs (Fr (Vm S rfl rfl fun a S=>lv S (Fq AL (S.tm rfl) (Fm (Hg Ej.enc_ok hs4))) rfl fun a S=>lv S (Rm rfl) rfl fun a S=>Dl ?_)))
   replace S:=(S.nl [.map b6 (Ft Value.string (fun x=>Value.agg (Ee.enc x).toArray) ([] : List (ByteArray × Ee))) ([] : List (ByteArray × Ee)).length,.blk b1 (Em.enc As) 43] [true,true] rfl).k7 3 6 7 13 72 73 74 rfl
   obtain ⟨j2,hj2,h⟩:=Ey h
   refine Es (fun a w'=>∃ x2 : List (ByteArray × Ee),j2 x2 = some r ∧ Sx w [] φ2 [.map b6 (Ft Value.string (fun x=>Value.agg (Ee.enc x).toArray) x2) x2.length,.blk b1 (Em.enc As) 43] [(3,.pointer (some ⟨b1,0,none⟩)),(6,u4),(7,.map (some b2)),(13,.map (some b6))] 123 a w') ?_ ?_
   ·refine wp_block (Gz (fun (ys2 : List Ej) a w'=>∃ i2 : Nat,∃ x2 : List (ByteArray × Ee),(∃ dn,r3.1 = dn ++ ys2 ∧ dn.length = i2) ∧ Nj j2 ys2 i2 x2 = some r ∧ Sx w [] φ2 [.map b6 (Ft Value.string (fun x=>Value.agg (Ee.enc x).toArray) x2) x2.length,.blk b1 (Em.enc As) 43] [(3,.pointer (some ⟨b1,0,none⟩)),(6,u4),(7,.map (some b2)),(13,.map (some b6)),(72,u6),(73,iV (r3.1.length : Int)),(74,iV (i2 : Int))] 123 a w') List.length r3.1 ⟨0,([] : List (ByteArray × Ee)),⟨[],rfl,rfl⟩,h,S.nf [true,true] rfl (subR rfl)⟩ ?_)
    clear S h;rintro ys2 a w12 ⟨i2,x2,⟨dn,hd2,hi2⟩,h,S⟩
    cases ys2 with
    | nil =>
     rw [Nj.eq_1] at h
     refine Fr (Vb S Ev rfl rfl rfl fun a S=>Ld ?_)
     replace S:=S.k8 3 6 7 13 72 73 74 75 rfl
     exact Tn (Fs (wp_cond_false ((S.tm rfl).trans (congrArg Value.bool (Im hd2 hi2))) (wp_exit (Ep (Ep (Gr (Tn (⟨x2,h,S.nf [true,true] rfl (subR rfl)⟩))))))))
    | cons y2 ys2 =>
     rw [Nj.eq_2] at h
     refine Fr (Vb S Ev rfl rfl rfl fun a S=>Ld ?_)
     replace S:=S.k8 3 6 7 13 72 73 74 75 rfl
     refine Tn (Fs (wp_cond_true ((S.tm rfl).trans (congrArg Value.bool (Hr hd2 hi2))) (wp_skip (Tn (Fs (wp_block (Fs (Fg ?_))))))))
     obtain ⟨b7,o2,hm4,hr5⟩:=Fh (a:=a) (x:=.tmp 72) (y:=.tmp 74) (ty:=0) AL (Hg Ej.enc_ok hs4) (Iv hd2 hi2) rfl (S.tm rfl) (S.tm rfl)
     refine lv S (hr5 _) rfl ?_;clear S;intro a S
     clear hr5
     refine lv S (Fk isAgg57 sizeOf57 (off:=o2) (o:=0) (part:=(Ej.enc y2)) rfl rfl (S.tm rfl) (hm4.at S.emb)) rfl fun a S=>Hu S zeroValue57 (cs:=[sV An,iV 0,iV 0]) rfl rfl ?_;clear S;intro a w14 b8 hz7 hk10 S
     refine Fj S (S.tm rfl) (S.tm rfl) (i:=0) (off:=0) rfl sizeOf57 (vs:=(Ej.enc y2)) rfl rfl rfl rfl ?_;clear S;intro w15 hk11 S
     refine Dl (Fg (Vm S rfl rfl fun a S=>Vf NX S rfl rfl fun a S=>Vl isAgg9 0 S rfl rfl rfl rfl fun a S=>Vf fa_57_1 S rfl rfl fun a S=>lv S (Fk isAgg49 sizeOf49 (off:=0) (o:=1) (part:=(Ee.enc y2.Points)) rfl rfl (S.tm rfl) (S.cellsAt (i:=0) rfl)) rfl fun a S=>Oi (kv:=Value.string) (vv:=(fun x=>Value.agg (Ee.enc x).toArray)) (m:=x2) (key:=y2.Key) (val:=y2.Points) S (i:=1) rfl underlying135 (Mq underlying9) (S.tm rfl) (S.tm rfl) (S.tm rfl) ?_));clear S;intro w16 hk12 S
     refine Ld ?_
     replace S:=(S.nl [.map b6 (Ft Value.string (fun x=>Value.agg (Ee.enc x).toArray) (Gw x2 y2.Key y2.Points)) (Gw x2 y2.Key y2.Points).length,.blk b1 (Em.enc As) 43] [false,true,true] rfl).k7 3 6 7 13 72 73 74 rfl
     exact Hn (Tn (Fg (Vq S Gf rfl rfl rfl fun a S=>Vm S rfl rfl fun a S=>Dl (⟨ys2,⟨i2 + 1,(Gw x2 y2.Key y2.Points),⟨_,(hd2).trans (List.append_cons _ _ _),by simp [hi2]⟩,h,S.nf [true,true] rfl ⟨rfl,rfl,rfl,rfl,rfl,rfl,(congrArg (fun z=>some (Value.int .i64 z)) (Hs hd2 hi2 (Jg (Hg Ej.enc_ok hs4)))),trivial⟩⟩,Nat.lt_succ_self _⟩))))
   clear S h;rintro a w13 ⟨x2,h,S⟩;rw [hj2] at h;clear hj2 j2
   refine Tn (Fr (Vk S rfl rfl ?_));clear S;intro a S
   replace S:=S.nil 51 7
   refine Dl (Fs (Fr (Vm S rfl rfl fun a S=>lv S (Fq Te (S.tm rfl) (Fm (Hg Eb.enc_ok hs3))) rfl fun a S=>lv S (Rm rfl) rfl fun a S=>Dl ?_)))
   replace S:=(S.nl [.own (.slice none 0 0) 51 7 ([] : List Ih).length (([] : List Ih).flatMap Ih.enc),.map b6 (Ft Value.string (fun x=>Value.agg (Ee.enc x).toArray) x2) x2.length,.blk b1 (Em.enc As) 43] [true,true,true] rfl).k7 3 7 13 16 84 85 86 rfl
   obtain ⟨j3,hj3,h⟩:=Ey h
   refine Es (fun a w'=>∃ x3 : List Ih,∃ v6 : Value,j3 x3 = some r ∧ Sx w [] φ2 [.own v6 51 7 x3.length (x3.flatMap Ih.enc),.map b6 (Ft Value.string (fun x=>Value.agg (Ee.enc x).toArray) x2) x2.length,.blk b1 (Em.enc As) 43] [(16,v6)] 123 a w') ?_ ?_
   ·refine wp_block (Gz (fun (ys3 : List Eb) a w'=>∃ i3 : Nat,∃ x3 : List Ih,∃ v6 : Value,(∃ dn,r1.1 = dn ++ ys3 ∧ dn.length = i3) ∧ Mm As r1 x2 j3 ys3 i3 x3 = some r ∧ Sx w [] φ2 [.own v6 51 7 x3.length (x3.flatMap Ih.enc),.map b6 (Ft Value.string (fun x=>Value.agg (Ee.enc x).toArray) x2) x2.length,.blk b1 (Em.enc As) 43] [(3,.pointer (some ⟨b1,0,none⟩)),(7,.map (some b2)),(13,.map (some b6)),(16,v6),(84,u4),(85,iV (r1.1.length : Int)),(86,iV (i3 : Int))] 123 a w') List.length r1.1 ⟨0,([] : List Ih),(.slice none 0 0),⟨[],rfl,rfl⟩,h,S.nf [true,true,true] rfl (subR rfl)⟩ ?_)
    clear S h;rintro ys3 a w17 ⟨i3,x3,v6,⟨dn,hd3,hi3⟩,h,S⟩
    cases ys3 with
    | nil =>
     rw [Mm.eq_1] at h
     refine Fr (Vb S Ev rfl rfl rfl fun a S=>Ld ?_)
     replace S:=S.k8 3 7 13 16 84 85 86 87 rfl
     exact Tn (Fs (wp_cond_false ((S.tm rfl).trans (congrArg Value.bool (Im hd3 hi3))) (wp_exit (Ep (Ep (Gr (Tn (⟨x3,v6,h,S.nf [true,true,true] rfl ⟨rfl,trivial⟩⟩))))))))
    | cons y3 ys3 =>
     rw [Mm.eq_2] at h
     refine Fr (Vb S Ev rfl rfl rfl fun a S=>Ld ?_)
     replace S:=S.k8 3 7 13 16 84 85 86 87 rfl
     refine Tn (Fs (wp_cond_true ((S.tm rfl).trans (congrArg Value.bool (Hr hd3 hi3))) (wp_skip (Tn (Fs (wp_block (Fs (Fg ?_))))))))
     obtain ⟨b9,o3,hm5,hr6⟩:=Fh (a:=a) (x:=.tmp 84) (y:=.tmp 86) (ty:=0) Te (Hg Eb.enc_ok hs3) (Iv hd3 hi3) rfl (S.tm rfl) (S.tm rfl)
     refine lv S (hr6 _) rfl ?_;clear S;intro a S
     clear hr6
     refine lv S (Fk isAgg127 sizeOf127 (off:=o3) (o:=0) (part:=(Eb.enc y3)) rfl rfl (S.tm rfl) ((hm5.mono hl2).at S.emb)) rfl fun a S=>Hu S zeroValue127 (cs:=[sV An,iV 0,iV 0,iV 0]) rfl rfl ?_;clear S;intro a w19 b10 hz8 hk13 S
     refine Fj S (S.tm rfl) (S.tm rfl) (i:=0) (off:=0) rfl sizeOf127 (vs:=(Eb.enc y3)) rfl rfl rfl rfl ?_;clear S;intro w20 hk14 S
     refine Dz (Vm S rfl rfl fun a S=>Vf Ya S rfl rfl fun a S=>Vl isAgg9 3 S rfl rfl rfl rfl ?_);clear S;intro a S
     obtain ⟨hc2,h⟩:=Ij h
     refine lv S (JE (m:=As.Key) (n:=Qe) (S.tm rfl) rfl (by have:=Ob hc2;omega)) rfl ?_;clear S;intro a S
     refine Vf CZ S rfl rfl fun a S=>Vl isAgg9 0 S rfl rfl rfl rfl ?_;clear S;intro a S
     obtain ⟨hc3,h⟩:=Ij h
     refine lv S (JE (m:=(As.Key ++ Qe)) (n:=y3.Who) (S.tm rfl) (S.tm rfl) (by have:=Ob hc3;omega)) rfl ?_;clear S;intro a S
     refine lv S (BH (kv:=Value.string) (vv:=(fun x=>Value.agg (Ee.enc x).toArray)) (m:=x2) (key:=(As.Key ++ Qe) ++ y3.Who) (z:=(Ee.mk 0 0)) (S.map_at (i:=2) rfl) underlying135 (Mq underlying9) zeroValue49 (S.tm rfl) (S.tm rfl)) rfl fun a S=>Vm S rfl rfl fun a S=>Vq S Fy rfl rfl rfl fun a S=>Vq S Fy rfl rfl rfl fun a S=>Hu S zeroValue49 (cs:=[iV 0,iV 0]) rfl rfl ?_;clear S;intro a w21 b11 hz9 hk15 S
     refine Fj S (S.tm rfl) (S.tm rfl) (i:=0) (off:=0) rfl sizeOf49 (vs:=(Ee.enc (El x2 ((As.Key ++ Qe) ++ y3.Who) (Ee.mk 0 0)))) rfl rfl rfl rfl ?_;clear S;intro w22 hk16 S
     refine Va S rfl rfl fun a S=>Ld ?_
     replace S:=(S.nl [.blk b11 (Ee.enc (El x2 ((As.Key ++ Qe) ++ y3.Who) (Ee.mk 0 0))) 49,.blk b10 (Eb.enc y3) 127,.own v6 51 7 x3.length (x3.flatMap Ih.enc),.map b6 (Ft Value.string (fun x=>Value.agg (Ee.enc x).toArray) x2) x2.length,.blk b1 (Em.enc As) 43] [true,true,true,true,true] rfl).k10 3 7 13 16 18 19 20 84 85 86 rfl
     refine Tn (Fs (Fr (Vm S rfl rfl fun a S=>Vu S Hv rfl rfl fun a S=>Dl ?_)))
     obtain ⟨j4,hj4,h⟩:=Ey h
     refine Es (fun a w'=>∃ x4 : Int,∃ x5 : Int,j4 x4 x5 = some r ∧ Sx w [] φ2 [.blk b11 [iV x4,iV x5] 49,.blk b10 (Eb.enc y3) 127,.own v6 51 7 x3.length (x3.flatMap Ih.enc),.map b6 (Ft Value.string (fun x=>Value.agg (Ee.enc x).toArray) x2) x2.length,.blk b1 (Em.enc As) 43] [(3,.pointer (some ⟨b1,0,none⟩)),(7,.map (some b2)),(13,.map (some b6)),(16,v6),(18,.pointer (some ⟨b10,0,none⟩)),(19,.pointer (some ⟨b11,0,none⟩)),(84,u4),(85,iV (r1.1.length : Int)),(86,iV (i3 : Int))] 123 a w') ?_ ?_
     ·refine Fc h (S.tm rfl) (fun hb3 h=>?_) (fun hb3 h=>?_)
      ·refine Fg (lv S (Nl TL (pv:=[(0,iV 0),(1,iV 1)]) ⟨rfl,rfl,rfl,rfl,trivial⟩ (cs:=[iV 0,iV 1]) (by kernel_rfl)) rfl fun a S=>Fj S (S.tm rfl) (S.tm rfl) (i:=0) (off:=0) rfl sizeOf49 (vs:=[iV 0,iV 1]) rfl rfl rfl rfl ?_);clear S;intro w24 hk17 S
       exact Dl (⟨0,1,h,S.nf [true,true,true,true,true] rfl (subR rfl)⟩)
      ·exact wp_skip (Tn (⟨(El x2 ((As.Key ++ Qe) ++ y3.Who) (Ee.mk 0 0)).Num,(El x2 ((As.Key ++ Qe) ++ y3.Who) (Ee.mk 0 0)).Den,h,S.nf [true,true,true,true,true] rfl (subR rfl)⟩))
     clear S h;rintro a w23 ⟨x4,x5,h,S⟩;rw [hj4] at h;clear hj4 j4
     refine Tn (Fg (Vm S rfl rfl fun a S=>Vf DA S rfl rfl fun a S=>Vl isAgg3 1 S rfl rfl rfl rfl fun a S=>Vf CZ S rfl rfl fun a S=>Vl isAgg9 1 S rfl rfl rfl rfl fun a S=>Vm S rfl rfl fun a S=>Vf CZ S rfl rfl fun a S=>Vl isAgg9 1 S rfl rfl rfl rfl fun a S=>lv S (Qk (kv:=Value.string) (vv:=Value.string) (m:=r1.2.1) (key:=y3.Who) (z:=An) (S.emb _ _ (hl2 _ _ hq1)) underlying122 (Mq underlying9) zeroValue9 (S.tm rfl) (S.tm rfl)) rfl ?_));clear S;intro a S
     refine Vf AN S rfl rfl fun a S=>Vl isAgg3 1 S rfl rfl rfl rfl fun a S=>Vf PN S rfl rfl fun a S=>Vl isAgg3 1 S rfl rfl rfl rfl fun a S=>lv S (Fk isAgg49 sizeOf49 (off:=0) (o:=0) (part:=[iV x4,iV x5]) rfl rfl (S.tm rfl) (S.cellsAt (i:=0) rfl)) rfl fun a S=>lv S (Nl bt_51 (pv:=[(0,iV y3.Rank),(1,sV y3.Who),(2,sV (El r1.2.1 y3.Who An)),(3,iV y3.Time),(4,iV y3.Fault),(5,.agg #[iV x4,iV x5])]) ⟨rfl,(S.tm rfl),rfl,(S.tm rfl),rfl,(S.tm rfl),rfl,(S.tm rfl),rfl,(S.tm rfl),rfl,(S.tm rfl),trivial⟩ (cs:=[iV y3.Rank,sV y3.Who,sV (El r1.2.1 y3.Who An),iV y3.Time,iV y3.Fault,iV x4,iV x5]) (by kernel_rfl)) rfl fun a S=>Ff S underlying44 sizeOf51 zeroValue51 rfl rfl (pv:=[(0,.agg #[iV y3.Rank,sV y3.Who,sV (El r1.2.1 y3.Who An),iV y3.Time,iV y3.Fault,iV x4,iV x5])]) ⟨rfl,(S.tm rfl),trivial⟩ (cs:=[iV y3.Rank,sV y3.Who,sV (El r1.2.1 y3.Who An),iV y3.Time,iV y3.Fault,iV x4,iV x5]) (by kernel_rfl) rfl ?_;clear S;intro a w25 b12 hz10 hk18 S
     obtain ⟨hc4,h⟩:=Ij h
     refine Np PH Ih.enc_ok S (S.tm rfl) (i:=3) rfl (S.tm rfl) (j:=0) rfl (ys:=[(Ih.mk y3.Rank y3.Who (El r1.2.1 y3.Who An) y3.Time y3.Fault (Ee.mk x4 x5))]) rfl rfl rfl rfl (by have:=Ob hc4;omega) rfl ?_;clear S;intro v7 a w26 hk19 S
     refine Va S rfl rfl fun a S=>Ld ?_
     replace S:=(S.nl [.own v7 51 7 (x3 ++ [(Ih.mk y3.Rank y3.Who (El r1.2.1 y3.Who An) y3.Time y3.Fault (Ee.mk x4 x5))]).length ((x3 ++ [(Ih.mk y3.Rank y3.Who (El r1.2.1 y3.Who An) y3.Time y3.Fault (Ee.mk x4 x5))]).flatMap Ih.enc),.map b6 (Ft Value.string (fun x=>Value.agg (Ee.enc x).toArray) x2) x2.length,.blk b1 (Em.enc As) 43] [false,false,false,true,true,true] rfl).k7 3 7 13 16 84 85 86 rfl
     exact Hn (Tn (Fg (Vq S Gf rfl rfl rfl fun a S=>Vm S rfl rfl fun a S=>Dl (⟨ys3,⟨i3 + 1,(x3 ++ [(Ih.mk y3.Rank y3.Who (El r1.2.1 y3.Who An) y3.Time y3.Fault (Ee.mk x4 x5))]),v7,⟨_,(hd3).trans (List.append_cons _ _ _),by simp [hi3]⟩,h,S.nf [true,true,true] rfl ⟨rfl,rfl,rfl,rfl,rfl,rfl,(congrArg (fun z=>some (Value.int .i64 z)) (Hs hd3 hi3 (Jg (Hg Eb.enc_ok hs3)))),trivial⟩⟩,Nat.lt_succ_self _⟩))))
   clear S h;rintro a w18 ⟨x3,v6,h,S⟩;rw [hj3] at h;clear hj3 j3
   refine Tn (Fr (Vm S rfl rfl fun a S=>Va S rfl rfl fun a S=>Vk S rfl rfl fun a S=>Dl (wp_ret ?_)))
   obtain rfl:=Option.some.inj h
   exact Ln S results28 rfl rfl ⟨_,rfl,(Tt S (i:=0) rfl rfl)⟩
theorem JA (w : World) (Ad : Kq) (Ca : R32) (Cl : Tp (view w []) Ad Ca) (Ab : Value) (Ae : List Dx) (Ag : Slc (view w []) 11 Ab (Ae.map Dx.enc)) (Au : ByteArray) (Bf : Int) (r : (List Ih) × Int) (h : Wy Ad Ae Au Bf = some r) :
    Calls prog 8 [.agg (R32.enc Ca).toArray,Ab,sV Au,iV Bf].toArray w (Ret w [] fun τ v _=>∃ u1 : Value,v = .tuple #[u1,iV r.2] ∧ Up τ 51 7 u1 r.1.length (r.1.flatMap Ih.enc)):=by
 obtain ⟨u1,u2,rfl,hs1,⟨u3,rfl,hs2⟩⟩:=Cl
 refine Fe func8 rfl ntmps8 rfl fun a S=>?_
 unfold Wy at h
 replace S:=S.k4 0 1 2 3 rfl
 refine Fr (Mx S (S.tm rfl) (cs:=[u1.val,u3.val,iV Ad.Table.Relay,iV Ad.Table.Most,iV Ad.Final.Size,iV Ad.Final.Many,iV Ad.Final.Reserves]) rfl rfl ?_);clear S;intro a w1 b1 hz1 hk1 S
 refine Vk S rfl rfl fun a S=>Vk S rfl rfl fun a S=>Dz (lv S (Fk isAgg32 sizeOf32 (off:=0) (o:=0) (part:=[u1.val,u3.val,iV Ad.Table.Relay,iV Ad.Table.Most,iV Ad.Final.Size,iV Ad.Final.Many,iV Ad.Final.Reserves]) rfl rfl (S.tm rfl) (S.cellsAt (i:=0) rfl)) rfl ?_);clear S;intro a S
 iterate 3 (refine Vm S rfl rfl ?_;clear S;intro a S)
 obtain ⟨r1,hr1,h⟩:=Fd h
 have hz2:=S.keep.size
 refine Ei S (fun _=>Ea (vs:=[.agg (R32.enc (R32.mk u1 (R28.mk u3 Ad.Table.Relay Ad.Table.Most) Ad.Final)).toArray,Ab,sV Au,iV Bf]) ⟨(S.tm rfl),(S.tm rfl),(S.tm rfl),(S.tm rfl),trivial⟩ call27) (PV _ (join (view w []) nov) (Py (S.le_arg Er) (S.le_new Er)) Ad (R32.mk u1 (R28.mk u3 Ad.Table.Relay Ad.Table.Most) Ad.Final) ⟨u1,(R28.mk u3 Ad.Table.Relay Ad.Table.Most),rfl,(hs1.mono (le_join_left _ _)),⟨u3,rfl,(hs2.mono (le_join_left _ _))⟩⟩ Ab Ae (Ag.mono (le_join_left _ _)) Au Bf _ hr1) rfl ?_;clear S;intro v1 a w2 hv1 hk2 hn1 S
 obtain ⟨u4,rfl,ho1⟩:=hv1
 obtain ⟨φ1,hl1,hm1,S⟩:=S.see' hn1 hz2
 have hq1:=CR.mono (Sh (Tv hl1 hm1)) (Tv hl1 hm1) ho1
 refine Vm S rfl rfl ?_;clear S;intro a S
 iterate 3 (refine Vq S Fy rfl rfl rfl ?_;clear S;intro a S)
 refine Hu S zeroValue43 (cs:=[sV An,iV 0,iV 0,iV 0,iV 0,iV 0,iV 0,iV 0]) rfl rfl ?_;clear S;intro a w3 b2 hz3 hk3 S
 refine Va S rfl rfl fun a S=>Fj S (S.tm rfl) (S.tm rfl) (i:=0) (off:=0) rfl sizeOf43 (vs:=(Em.enc r1.2.1)) rfl rfl rfl rfl ?_;clear S;intro w4 hk4 S
 refine Va S rfl rfl fun a S=>Ld ?_
 replace S:=(S.nl [.blk b2 (Em.enc r1.2.1) 43] [true,false] rfl).k3 10 11 12 rfl
 refine Tn (Fs (Fr (Vm S rfl rfl fun a S=>Vq S Lf rfl rfl rfl fun a S=>Dl (Fc h (S.tm rfl) (fun hb1 h=>?_) (fun hb1 h=>?_)))))
 ·refine Fr (Vm S rfl rfl fun a S=>Vk S rfl rfl fun a S=>Va S rfl rfl fun a S=>Dl (wp_ret (Ec ?_)))
  obtain rfl:=Option.some.inj h
  exact Ln S results8 rfl rfl ⟨_,rfl,(Oz _ _ _)⟩
 ·refine wp_skip (Tn (Fr (Vm S rfl rfl fun a S=>lv S (Fk isAgg43 sizeOf43 (off:=0) (o:=0) (part:=(Em.enc r1.2.1)) rfl rfl (S.tm rfl) (S.cellsAt (i:=0) rfl)) rfl ?_)));clear S;intro a S
  obtain ⟨r2,hr2,h⟩:=Fd h
  obtain ⟨b3,q1,rfl,hq2,hb2⟩:=hq1.deref hr2
  obtain ⟨u5,u9,rfl,⟨u6,u7,rfl,hs3,⟨u8,rfl,hs4⟩⟩,hs5⟩:=hq2
  replace hb2 : (join (view w []) φ1) b3 = some (.cells [u6.val,u8.val,iV r2.p_.Table.Relay,iV r2.p_.Table.Most,iV r2.p_.Final.Size,iV r2.p_.Final.Many,iV r2.p_.Final.Reserves,u9.val].toArray 134 (0,0)):=hb2
  obtain ⟨r3,hr3,h⟩:=Fd h
  have hz4:=S.keep.size
  refine Ei S (fun _=>Ea (vs:=[.pointer (some ⟨b3,0,none⟩),.agg (Em.enc r1.2.1).toArray]) ⟨(S.tm rfl),(S.tm rfl),trivial⟩ call28) (AS _ b3 r2.p_ (R32.mk u6 (R28.mk u8 r2.p_.Table.Relay r2.p_.Table.Most) r2.p_.Final) ⟨u6,(R28.mk u8 r2.p_.Table.Relay r2.p_.Table.Most),rfl,(hs3.mono (Py (S.le_arg Er) (S.le_new Er))),⟨u8,rfl,(hs4.mono (Py (S.le_arg Er) (S.le_new Er)))⟩⟩ u9.val r2.deeds_ (hs5.mono (Py (S.le_arg Er) (S.le_new Er))) ((Py (S.le_arg Er) (S.le_new Er)) _ _ hb2) r1.2.1 _ hr3) rfl ?_;clear S;intro v2 a w5 hv2 hk5 hn2 S
  obtain ⟨u10,rfl,ho2⟩:=hv2
  obtain ⟨φ2,hl2,hm2,S⟩:=S.see' hn2 hz4
  have hs6:=ho2.mono hm2
  refine Vq S Fy rfl rfl rfl fun a S=>Vq S Fy rfl rfl rfl fun a S=>Va S rfl rfl fun a S=>Va S rfl rfl fun a S=>Dl (wp_ret ?_)
  obtain rfl:=Option.some.inj h
  exact Ln S results8 rfl rfl ⟨_,rfl,((hs6).mono S.le_newer)⟩
theorem AU (w : World) (Ab : Value) (Ae : List Ih) (Dg : (LEnt.own Ab 51 7 Ae.length (Ae.flatMap Ih.enc)).holds w) (r : (List Ih)) (h : Se Ae = some r) :
    Calls prog 9 [Ab].toArray w (Ret w (Ab.ownBlock.toList) fun _ v w'=>(LEnt.own Ab 51 7 r.length (r.flatMap Ih.enc)).holds w' ∧ v = .tuple #[]):=by
 refine Lb (Ab.ownBlock.toList) [.own Ab 51 7 Ae.length (Ae.flatMap Ih.enc)] func9 rfl ntmps9 rfl (fun e he=>by simp only [List.mem_singleton] at he;subst he;exact Dg) (Iu _) (Js _) fun a S=>?_
 unfold Se at h
 replace S:=(S.nl [.own Ab 51 7 Ae.length (Ae.flatMap Ih.enc)] [true] rfl).k1 0 rfl
 refine Fr (Hu S zeroValue51 (cs:=[iV 0,sV An,sV An,iV 0,iV 0,iV 0,iV 0]) rfl rfl ?_);clear S;intro a w1 b1 hz1 hk1 S
 refine Dz (Vm S rfl rfl fun a S=>lv S (Fq PH (S.tm rfl) (Oh (S.own_at (i:=1) rfl))) rfl fun a S=>lv S (Rm rfl) rfl fun a S=>Dl ?_)
 replace S:=(S.nl [.blk b1 [iV 0,sV An,sV An,iV 0,iV 0,iV 0,iV 0] 51,.own Ab 51 7 Ae.length (Ae.flatMap Ih.enc)] [true,true] rfl).k4 0 2 5 6 rfl
 have hm1:=JF (S.own_at (i:=1) rfl)
 obtain ⟨j1,hj1,h⟩:=Ey h
 refine Es (fun a w'=>∃ x1 : List Ih,j1 x1 = some r ∧ Sx w (Ab.ownBlock.toList) nov [.blk b1 [iV 0,sV An,sV An,iV 0,iV 0,iV 0,iV 0] 51,.own Ab 51 7 x1.length (x1.flatMap Ih.enc)] [] 14 a w') ?_ ?_
 ·refine wp_block (Gz (fun (ys1 : List Ih) a w'=>∃ i1 : Nat,∃ x1 : List Ih,(∃ dn,Ae = dn ++ ys1 ∧ dn.length = i1) ∧ Kb j1 ys1 i1 x1 = some r ∧ Sx w (Ab.ownBlock.toList) nov [.blk b1 [iV 0,sV An,sV An,iV 0,iV 0,iV 0,iV 0] 51,.own Ab 51 7 x1.length (x1.flatMap Ih.enc)] [(0,Ab),(2,.pointer (some ⟨b1,0,none⟩)),(5,iV (Ae.length : Int)),(6,iV (i1 : Int))] 14 a w') List.length Ae ⟨0,Ae,⟨[],rfl,rfl⟩,h,S.nf [true,true] rfl (subR rfl)⟩ ?_)
  clear S h;rintro ys1 a w2 ⟨i1,x1,⟨dn,hd1,hi1⟩,h,S⟩
  cases ys1 with
  | nil =>
   rw [Kb.eq_1] at h
   refine Fr (Vb S Ev rfl rfl rfl fun a S=>Ld ?_)
   replace S:=S.k5 0 2 5 6 7 rfl
   exact Tn (Fs (wp_cond_false ((S.tm rfl).trans (congrArg Value.bool (Im hd1 hi1))) (wp_exit (Ep (Ep (Gr (Tn (⟨x1,h,S.nf [true,true] rfl trivial⟩))))))))
  | cons y1 ys1 =>
   rw [Kb.eq_2] at h
   refine Fr (Vb S Ev rfl rfl rfl fun a S=>Ld ?_)
   replace S:=S.k5 0 2 5 6 7 rfl
   refine Tn (Fs (wp_cond_true ((S.tm rfl).trans (congrArg Value.bool (Hr hd1 hi1))) (wp_skip (Tn (Fs (wp_block (Fr (Vm S rfl rfl fun a S=>Va S rfl rfl ?_))))))));clear S;intro a S
   refine Dl (Fg (Vm S rfl rfl fun a S=>Vm S rfl rfl fun a S=>lv S (Fk isAgg51 sizeOf51 (off:=0) (o:=0) (part:=[iV 0,sV An,sV An,iV 0,iV 0,iV 0,iV 0]) rfl rfl (S.tm rfl) (S.cellsAt (i:=0) rfl)) rfl ?_));clear S;intro a S
   obtain ⟨hc1,h⟩:=Ij h
   obtain ⟨b2,hg1,hr1⟩:=Gx (a:=a) (x:=.tmp 9) (y:=.tmp 10) (ty:=0) PH Ih.enc_ok S (i:=1) rfl (Eh hc1).1 (Eh hc1).2 (S.tm rfl) (S.tm rfl)
   refine lv S (hr1 _) rfl ?_;clear S;intro a S
   clear hr1
   refine Oe (c:=0) (j:=(i1 : Int).toNat) (Ih.mk 0 An An 0 0 (Ee.mk 0 0)) Ih.enc_ok S (S.tm rfl) (S.tm rfl) (i:=1) rfl hg1 (Eh hc1).1 sizeOf51 (vs:=[iV 0,sV An,sV An,iV 0,iV 0,iV 0,iV 0]) rfl rfl rfl rfl rfl ?_;clear S;intro w5 hk3 S
   exact Ld (Hn (Tn (Fg (Vq S Gf rfl rfl rfl fun a S=>Vm S rfl rfl fun a S=>Dl (⟨ys1,⟨i1 + 1,(x1.set ((i1 : Int).toNat) (Ih.mk 0 An An 0 0 (Ee.mk 0 0))),⟨_,(hd1).trans (List.append_cons _ _ _),by simp [hi1]⟩,h,S.nf [true,true] rfl ⟨rfl,rfl,rfl,(congrArg (fun z=>some (Value.int .i64 z)) (Hs hd1 hi1 hm1)),trivial⟩⟩,Nat.lt_succ_self _⟩)))))
 clear S h;rintro a w3 ⟨x1,h,S⟩;rw [hj1] at h;clear hj1 j1
 obtain rfl:=Option.some.inj h
 exact Ri S results9 ⟨(S.holds _ (List.mem_of_getElem? (i:=1) rfl)),rfl⟩
theorem OE (w : World) (U : Nat) (Af : Kq) (Bl : R32) (Bv : Tp (view w []) Af Bl) (Ap : Value) (Ak : List Dx) (Bc : Slc (view w []) 11 Ap (Ak.map Dx.enc)) (Ar : (view w []) U = some (.cells (R32.enc Bl ++ [Ap]).toArray 134 (0,0))) (r : Int) (h : AK Af Ak = some r) :
    Calls prog 62 [.pointer (some ⟨U,0,none⟩)].toArray w (Ret w [] fun _ v _=>v = iV r):=by
 obtain ⟨u1,u2,rfl,hs1,⟨u3,rfl,hs2⟩⟩:=Bv
 replace Ar : (view w []) U = some (.cells [u1.val,u3.val,iV Af.Table.Relay,iV Af.Table.Most,iV Af.Final.Size,iV Af.Final.Many,iV Af.Final.Reserves,Ap].toArray 134 (0,0)):=Ar
 refine Fe func62 rfl ntmps62 rfl fun a S=>?_
 unfold AK at h
 replace S:=S.k1 0 rfl
 refine Fr (Vk S rfl rfl fun a S=>Dl (Fs (Fr (Vm S rfl rfl fun a S=>Vu S Lz rfl rfl fun a S=>Vf DC S rfl rfl ?_))));clear S;intro a S
 refine Vf Xc S rfl rfl fun a S=>lv S (Ic isAgg26 (off:=0) (o:=0) (S.tm rfl) ((Ti Ar).at S.emb0) rfl) rfl fun a S=>lv S (Fq Th (S.tm rfl) (Fm hs1)) rfl fun a S=>lv S (Rm rfl) rfl fun a S=>Dl ?_
 replace S:=S.k4 0 11 12 13 rfl
 obtain ⟨j1,hj1,h⟩:=Ey h
 refine Es (fun a w'=>j1 = some r ∧ Sx w [] nov [] [] 28 a w') ?_ ?_
 ·refine wp_block (Gz (fun (ys1 : List Em) a w'=>∃ i1 : Nat,(∃ dn,Af.Races = dn ++ ys1 ∧ dn.length = i1) ∧ Qb Af Ak j1 ys1 i1 = some r ∧ Sx w [] nov [] [(0,.pointer (some ⟨U,0,none⟩)),(11,u1.val),(12,iV (Af.Races.length : Int)),(13,iV (i1 : Int))] 28 a w') List.length Af.Races ⟨0,⟨[],rfl,rfl⟩,h,S.nf [] rfl (subR rfl)⟩ ?_)
  clear S h;rintro ys1 a w1 ⟨i1,⟨dn,hd1,hi1⟩,h,S⟩
  cases ys1 with
  | nil =>
   rw [Qb.eq_1] at h
   refine Fr (Vb S Ev rfl rfl rfl fun a S=>Ld ?_)
   replace S:=S.k5 0 11 12 13 14 rfl
   exact Tn (Fs (wp_cond_false ((S.tm rfl).trans (congrArg Value.bool (Im hd1 hi1))) (wp_exit (Ep (Ep (Gr (Tn (⟨h,S.nf [] rfl trivial⟩))))))))
  | cons y1 ys1 =>
   rw [Qb.eq_2] at h
   refine Fr (Vb S Ev rfl rfl rfl fun a S=>Ld ?_)
   replace S:=S.k5 0 11 12 13 14 rfl
   refine Tn (Fs (wp_cond_true ((S.tm rfl).trans (congrArg Value.bool (Hr hd1 hi1))) (wp_skip (Tn (Fs (wp_block (Fs (Fg ?_))))))))
   obtain ⟨b1,o1,hm1,hr1⟩:=Fh (a:=a) (x:=.tmp 11) (y:=.tmp 13) (ty:=0) Th hs1 (Iv hd1 hi1) rfl (S.tm rfl) (S.tm rfl)
   refine lv S (hr1 _) rfl ?_;clear S;intro a S
   clear hr1
   refine lv S (Fk isAgg43 sizeOf43 (off:=o1) (o:=0) (part:=(Em.enc y1)) rfl rfl (S.tm rfl) (hm1.at S.emb0)) rfl fun a S=>Hu S zeroValue43 (cs:=[sV An,iV 0,iV 0,iV 0,iV 0,iV 0,iV 0,iV 0]) rfl rfl ?_;clear S;intro a w3 b2 hz1 hk1 S
   refine Fj S (S.tm rfl) (S.tm rfl) (i:=0) (off:=0) rfl sizeOf43 (vs:=(Em.enc y1)) rfl rfl rfl rfl ?_;clear S;intro w4 hk2 S
   refine Dz (Vm S rfl rfl fun a S=>Vf Ya S rfl rfl fun a S=>Vl isAgg9 0 S rfl rfl rfl rfl ?_);clear S;intro a S
   obtain ⟨r1,hr2,h⟩:=Fd h
   refine Ei S (fun _=>Ea (vs:=[.pointer (some ⟨U,0,none⟩),sV y1.Key]) ⟨(S.tm rfl),(S.tm rfl),trivial⟩ call54) (FD _ U Af (R32.mk u1 (R28.mk u3 Af.Table.Relay Af.Table.Most) Af.Final) ⟨u1,(R28.mk u3 Af.Table.Relay Af.Table.Most),rfl,(hs1.mono (S.le_arg Er)),⟨u3,rfl,(hs2.mono (S.le_arg Er))⟩⟩ Ap Ak (Bc.mono (S.le_arg Er)) ((S.le_arg Er) _ _ Ar) y1.Key _ hr2) rfl ?_;clear S;intro v1 a w5 hv1 hk3 hn1 S
   subst hv1
   refine Vm S rfl rfl fun a S=>Vq S Fy rfl rfl rfl fun a S=>Vq S Fy rfl rfl rfl fun a S=>Hu S zeroValue43 (cs:=[sV An,iV 0,iV 0,iV 0,iV 0,iV 0,iV 0,iV 0]) rfl rfl ?_;clear S;intro a w6 b3 hz2 hk4 S
   refine Fj S (S.tm rfl) (S.tm rfl) (i:=0) (off:=0) rfl sizeOf43 (vs:=(Em.enc r1.1)) rfl rfl rfl rfl ?_;clear S;intro w7 hk5 S
   refine Va S rfl rfl fun a S=>Ld ?_
   replace S:=S.n0.k5 0 6 11 12 13 rfl
   refine Tn (Fr (Vm S rfl rfl fun a S=>Vq S Lf rfl rfl rfl fun a S=>Dl (Fc h (S.tm rfl) (fun hb1 h=>?_) (fun hb1 h=>?_))))
   ·refine Fr (Vm S rfl rfl fun a S=>Va S rfl rfl fun a S=>Dl (wp_ret (Ga (Ec (Ec (Ga ?_))))))
    refine Ec (Ec ?_)
    obtain rfl:=Option.some.inj h
    exact Eu S results62 rfl rfl
   ·exact wp_skip (Hn (Tn (Fg (Vq S Gf rfl rfl rfl fun a S=>Vm S rfl rfl fun a S=>Dl (⟨ys1,⟨i1 + 1,⟨_,(hd1).trans (List.append_cons _ _ _),by simp [hi1]⟩,h,S.nf [] rfl ⟨rfl,rfl,rfl,(congrArg (fun z=>some (Value.int .i64 z)) (Hs hd1 hi1 (Jg hs1))),trivial⟩⟩,Nat.lt_succ_self _⟩)))))
 clear S h;rintro a w2 ⟨h,S⟩;rw [hj1] at h;clear hj1 j1
 refine Tn (Fr (Vk S rfl rfl fun a S=>Dl (wp_ret ?_)))
 obtain rfl:=Option.some.inj h
 exact Eu S results62 rfl rfl
theorem PW (w : World) (Aj : Ee) (Al : Ee) (r : Ee) (h : CW Aj Al = some r) :
    Calls prog 64 [.agg (Ee.enc Aj).toArray,.agg (Ee.enc Al).toArray].toArray w (Ret w [] fun _ v _=>v = .agg (Ee.enc r).toArray):=by
 refine Fe func64 rfl ntmps64 rfl fun a S=>?_
 unfold CW at h
 replace S:=S.k2 0 1 rfl
 refine Fr (Mx S (S.tm rfl) (cs:=(Ee.enc Aj)) rfl rfl ?_);clear S;intro a w1 b1 hz1 hk1 S
 refine Mx S (S.tm rfl) (cs:=(Ee.enc Al)) rfl rfl ?_;clear S;intro a w2 b2 hz2 hk2 S
 refine Hu S zeroValue49 (cs:=[iV 0,iV 0]) rfl rfl ?_;clear S;intro a w3 b3 hz3 hk3 S
 refine Dz (Vf TF S rfl rfl fun a S=>Vl isAgg3 2 S rfl rfl rfl rfl fun a S=>Vf JJ S rfl rfl fun a S=>Vl isAgg3 1 S rfl rfl rfl rfl fun a S=>Vb S Xk rfl rfl rfl fun a S=>Vf TF S rfl rfl fun a S=>Vl isAgg3 1 S rfl rfl rfl rfl ?_);clear S;intro a S
 refine Vf JJ S rfl rfl fun a S=>Vl isAgg3 2 S rfl rfl rfl rfl fun a S=>Vb S Xk rfl rfl rfl fun a S=>Vb S Gf rfl rfl rfl fun a S=>Vf JJ S rfl rfl fun a S=>Vl isAgg3 2 S rfl rfl rfl rfl fun a S=>Vf JJ S rfl rfl fun a S=>Vl isAgg3 1 S rfl rfl rfl rfl fun a S=>Vb S Xk rfl rfl rfl ?_;clear S;intro a S
 obtain ⟨r1,hr1,h⟩:=Fd h
 refine Ei S (fun _=>Ea (vs:=[iV (W ((W (Aj.Num * Al.Den)) + (W (Al.Num * Aj.Den)))),iV (W (Aj.Den * Al.Den))]) ⟨(S.tm rfl),(S.tm rfl),trivial⟩ call114) (AA _ (W ((W (Aj.Num * Al.Den)) + (W (Al.Num * Aj.Den)))) (W (Aj.Den * Al.Den)) _ hr1) rfl ?_;clear S;intro v1 a w4 hv1 hk4 hn1 S
 subst hv1
 refine Fj S (S.tm rfl) (S.tm rfl) (i:=0) (off:=0) rfl sizeOf49 (vs:=(Ee.enc r1)) rfl rfl rfl rfl ?_;clear S;intro w5 hk5 S
 refine Ld ?_
 replace S:=(S.nl [.blk b3 (Ee.enc r1) 49] [true,false,false] rfl).k1 4 rfl
 refine Tn (wp_ret ?_)
 obtain rfl:=Option.some.inj h
 exact Yp S (rs:=[.cell 4 49]) (vs:=[.agg #[iV r1.Num,iV r1.Den]]) results64 ⟨(Tu (off:=0) S rfl isAgg49 sizeOf49 rfl (S.cellsAt (i:=0) rfl)),trivial⟩ rfl rfl
theorem GX (w : World) (Aj : Ej) (Al : Ej) (r : Int) (h : Qg Aj Al = r) :
    Calls prog 66 [.agg (Ej.enc Aj).toArray,.agg (Ej.enc Al).toArray].toArray w (Ret w [] fun _ v _=>v = iV r):=by
 refine Fe func66 rfl ntmps66 rfl fun a S=>?_
 unfold Qg at h
 replace S:=S.k2 0 1 rfl
 refine Fr (Mx S (S.tm rfl) (cs:=(Ej.enc Aj)) rfl rfl ?_);clear S;intro a w1 b1 hz1 hk1 S
 refine Mx S (S.tm rfl) (cs:=(Ej.enc Al)) rfl rfl ?_;clear S;intro a w2 b2 hz2 hk2 S
 refine Vk S rfl rfl fun a S=>Dz (Vf NX S rfl rfl fun a S=>Vl isAgg9 1 S rfl rfl rfl rfl fun a S=>Vf NX S rfl rfl fun a S=>Vl isAgg9 0 S rfl rfl rfl rfl fun a S=>Ei S (fun _=>Ea (vs:=[sV Aj.Key,sV Al.Key]) ⟨(S.tm rfl),(S.tm rfl),trivial⟩ call53) (Oy _ Aj.Key Al.Key _ rfl) rfl ?_);clear S;intro v1 a w3 hv1 hk3 hn1 S
 subst hv1
 refine Va S rfl rfl fun a S=>Dl (wp_ret ?_)
 subst h
 exact Eu S results66 rfl rfl
set_option maxRecDepth 20000 in
theorem Rf (w : World) (O : Value) (Ai : List Ej) (Be : (LEnt.own O 57 3 Ai.length (Ai.flatMap Ej.enc)).holds w) (Aj : Int) (Al : Int) (r : (List Ej)) (h : Iq Ai Aj Al = some r) :
    Calls prog 140 [O,iV Aj,iV Al,.func (.func 66) #[] #[]].toArray w (Ret w (O.ownBlock.toList) fun _ v w'=>(LEnt.own O 57 3 r.length (r.flatMap Ej.enc)).holds w' ∧ v = .tuple #[]):=by
 refine Lb (O.ownBlock.toList) [.own O 57 3 Ai.length (Ai.flatMap Ej.enc)] func140 rfl ntmps140 rfl (fun e he=>by simp only [List.mem_singleton] at he;subst he;exact Be) (Iu _) (Js _) fun a S=>?_
 unfold Iq at h
 replace S:=(S.nl [.own O 57 3 Ai.length (Ai.flatMap Ej.enc)] [true] rfl).k4 0 1 2 3 rfl
 refine Fr (Vm S rfl rfl fun a S=>Vq S Gf rfl rfl rfl fun a S=>Va S rfl rfl fun a S=>Dl ?_)
 replace S:=S.k5 0 1 2 3 8 rfl
 obtain ⟨j1,hj1,h⟩:=Ey h
 refine Es (fun a w'=>∃ x1 : List Ej,j1 x1 = some r ∧ Sx w (O.ownBlock.toList) nov [.own O 57 3 x1.length (x1.flatMap Ej.enc)] [] 53 a w') ?_ ?_
 ·refine wp_block (Gz (fun (m1 : Nat) a w'=>∃ x1 : List Ej,∃ x2 : Int,Fx Al Aj j1 m1 x1 x2 = some r ∧ Sx w (O.ownBlock.toList) nov [.own O 57 3 x1.length (x1.flatMap Ej.enc)] [(0,O),(1,iV Aj),(2,iV Al),(3,.func (.func 66) #[] #[]),(8,iV x2)] 53 a w') id ((Al - (W (Aj + 1))).toNat + 2) ⟨Ai,W (Aj + 1),h,S.nf [true] rfl (subR rfl)⟩ ?_)
  clear S h;rintro m1 a w1 ⟨x1,x2,h,S⟩
  cases m1 with
  | zero=>rw [Fx.eq_1] at h;cases h
  | succ m1 =>
   rw [Fx.eq_2] at h
   refine Fs (Fr (Vm S rfl rfl fun a S=>Vm S rfl rfl fun a S=>Vb S Ev rfl rfl rfl fun a S=>Dl (Fc h (S.tm rfl) (fun hb1 h=>?_) (fun hb1 h=>?_))))
   ·refine wp_skip (Tn (Fs (wp_block (Fr (Vm S rfl rfl fun a S=>Va S rfl rfl fun a S=>Dl ?_)))))
    replace S:=S.k6 0 1 2 3 8 9 rfl
    obtain ⟨j2,hj2,h⟩:=Ey h
    refine Es (fun a w'=>∃ x3 : List Ej,j2 x3 = some r ∧ Sx w (O.ownBlock.toList) nov [.own O 57 3 x3.length (x3.flatMap Ej.enc)] [(0,O),(1,iV Aj),(2,iV Al),(3,.func (.func 66) #[] #[]),(8,iV x2)] 53 a w') ?_ ?_
    ·refine wp_block (Gz (fun (m2 : Nat) a w'=>∃ x3 : List Ej,∃ x4 : Int,Fb Aj j2 m2 x3 x4 = some r ∧ Sx w (O.ownBlock.toList) nov [.own O 57 3 x3.length (x3.flatMap Ej.enc)] [(0,O),(1,iV Aj),(2,iV Al),(3,.func (.func 66) #[] #[]),(8,iV x2),(9,iV x4)] 53 a w') id ((x2 - Aj).toNat + 2) ⟨x1,x2,h,S.nf [true] rfl (subR rfl)⟩ ?_)
     clear S h;rintro m2 a w3 ⟨x3,x4,h,S⟩
     cases m2 with
     | zero=>rw [Fb.eq_1] at h;cases h
     | succ m2 =>
      rw [Fb.eq_2] at h
      refine Fs (Fs ?_)
      obtain ⟨j3,hj3,h⟩:=Ey h
      refine Es (fun a w'=>∃ x5 : Bool,j3 x5 = some r ∧ Sx w (O.ownBlock.toList) nov [.own O 57 3 x3.length (x3.flatMap Ej.enc)] [(0,O),(1,iV Aj),(2,iV Al),(3,.func (.func 66) #[] #[]),(8,iV x2),(9,iV x4),(34,bV x5)] 53 a w') ?_ ?_
      ·rcases Bool.eq_false_or_eq_true (decide (Aj < x4)) with hb2 | hb2
       ·replace h:=Rg h hb2
        obtain ⟨hc1,h⟩:=Ij h
        obtain ⟨hc2,h⟩:=Ij h
        refine Hd [] ([]) Tryz.mixed S rfl (by kernel_rfl) ?_;clear S;intro w7 hk2 hsel S
        refine Ek 0 S hsel rfl rfl rfl (by kernel_rfl) (by kernel_rfl) rfl (fun _ hw=>(Rm (S.tm rfl))) fun a S=>Ek 1 S hsel rfl rfl rfl (by kernel_rfl) (by kernel_rfl) rfl (fun _ hw=>(Rm (S.tm rfl))) fun a S=>Ek 2 S hsel rfl rfl rfl (by kernel_rfl) (by kernel_rfl) rfl (fun _ hw=>(Jj (S.tm rfl) (S.tm rfl))) fun a S=>Ek 3 S hsel rfl rfl rfl (by kernel_rfl) (by kernel_rfl) rfl (fun _ hw=>(Rm (S.tm rfl))) fun a S=>Et 4 S hsel rfl rfl rfl rfl hb2 rfl rfl (by kernel_rfl) (by kernel_rfl) rfl (fun _ hw=>(Rm (S.tm rfl))) fun a S=>Et 5 S hsel rfl rfl rfl rfl hb2 rfl rfl (by kernel_rfl) (by kernel_rfl) rfl (fun _ hw=>(Rm (S.tm rfl))) fun a S=>Et 6 S hsel rfl rfl rfl rfl hb2 rfl rfl (by kernel_rfl) (by kernel_rfl) rfl (fun _ hw=>(Rm (S.tm rfl))) ?_;clear S;intro a S
        obtain ⟨b3,hg3,hr3⟩:=Gx (a:=a) (x:=.tmp 23) (y:=.tmp 24) (ty:=0) AL Ej.enc_ok S (i:=0) rfl (Eh hc1).1 (Eh hc1).2 (S.tm rfl) (S.tm rfl)
        refine Et 7 S hsel rfl rfl rfl rfl hb2 rfl rfl (by kernel_rfl) (by kernel_rfl) rfl (fun _ hw=>(hr3 _)) ?_;clear S;intro a S
        clear hr3
        refine Et 8 S hsel rfl rfl rfl rfl hb2 rfl rfl (by kernel_rfl) (by kernel_rfl) rfl (fun _ hw=>(Fk isAgg57 sizeOf57 (off:=x4.toNat * 3) (o:=0) (part:=(Ej.enc (Ej.mk ((nth x3 x4).Key) ((nth x3 x4).Points)))) rfl rfl (S.tm rfl) ((Ns Ej.enc_ok S (i:=0) rfl hg3 (Eh hc1).1 (Ie (e':=.own O 57 3 x3.length (x3.flatMap Ej.enc)))).kept hw))) fun a S=>Et 9 S hsel rfl rfl rfl rfl hb2 rfl rfl (by kernel_rfl) (by kernel_rfl) rfl (fun _ hw=>(Rm (S.tm rfl))) fun a S=>Et 10 S hsel rfl rfl rfl rfl hb2 rfl rfl (by kernel_rfl) (by kernel_rfl) rfl (fun _ hw=>(Rm (S.tm rfl))) fun a S=>Et 11 S hsel rfl rfl rfl rfl hb2 rfl rfl (by kernel_rfl) (by kernel_rfl) rfl (fun _ hw=>(Iy (S.tm rfl) rfl)) ?_;clear S;intro a S
        obtain ⟨b4,hg4,hr4⟩:=Gx (a:=a) (x:=.tmp 27) (y:=.tmp 29) (ty:=0) AL Ej.enc_ok S (i:=0) rfl (Eh hc2).1 (Eh hc2).2 (S.tm rfl) (S.tm rfl)
        refine Et 12 S hsel rfl rfl rfl rfl hb2 rfl rfl (by kernel_rfl) (by kernel_rfl) rfl (fun _ hw=>(hr4 _)) ?_;clear S;intro a S
        clear hr4
        refine Et 13 S hsel rfl rfl rfl rfl hb2 rfl rfl (by kernel_rfl) (by kernel_rfl) rfl (fun _ hw=>(Fk isAgg57 sizeOf57 (off:=((W (x4 - 1)).toNat) * 3) (o:=0) (part:=(Ej.enc (Ej.mk ((nth x3 (W (x4 - 1))).Key) ((nth x3 (W (x4 - 1))).Points)))) rfl rfl (S.tm rfl) ((Ns Ej.enc_ok S (i:=0) rfl hg4 (Eh hc2).1 (Ie (e':=.own O 57 3 x3.length (x3.flatMap Ej.enc)))).kept hw))) fun a S=>Hi 14 (by kernel_rfl) rfl (Ef S rfl rfl rfl hb2 (Ei S (fun _=>Ud (cap:=[]) (S.tm rfl) (vs:=[.agg (Ej.enc (Ej.mk ((nth x3 x4).Key) ((nth x3 x4).Points))).toArray,.agg (Ej.enc (Ej.mk ((nth x3 (W (x4 - 1))).Key) ((nth x3 (W (x4 - 1))).Points))).toArray]) ⟨(S.tm rfl),(S.tm rfl),trivial⟩ call66) (GX _ (Ej.mk ((nth x3 x4).Key) ((nth x3 x4).Points)) (Ej.mk ((nth x3 (W (x4 - 1))).Key) ((nth x3 (W (x4 - 1))).Points)) _ rfl) rfl ?_));clear S;intro v2 a w8 hv2 hk3 hn2 S
        subst hv2
        refine Ld (Ik hk3 (Lg [15,16] hsel (by kernel_rfl) rfl ?_))
        clear hsel
        refine Gc S rfl rfl rfl rfl hb2 (Hm S (Ev (S.tm rfl) rfl) rfl fun a S=>Gp S rfl (Qi hb2 (S.tm rfl) (S.tm rfl)) rfl fun a S=>It ?_)
        replace S:=S.nk [.own O 57 3 x3.length (x3.flatMap Ej.enc)] [(0,O),(1,iV Aj),(2,iV Al),(3,.func (.func 66) #[] #[]),(8,iV x2),(9,iV x4),(22,.func (.func 66) #[] #[]),(23,O),(24,iV x4),(25,.pointer (some ⟨b3,x4.toNat * 3,none⟩)),(26,.agg (Ej.enc (Ej.mk ((nth x3 x4).Key) ((nth x3 x4).Points))).toArray),(27,O),(28,iV x4),(29,iV (W (x4 - 1))),(30,.pointer (some ⟨b4,((W (x4 - 1)).toNat) * 3,none⟩)),(31,.agg (Ej.enc (Ej.mk ((nth x3 (W (x4 - 1))).Key) ((nth x3 (W (x4 - 1))).Points))).toArray),(32,iV (Qg (Ej.mk ((nth x3 x4).Key) ((nth x3 x4).Points)) (Ej.mk ((nth x3 (W (x4 - 1))).Key) ((nth x3 (W (x4 - 1))).Points)))),(33,bV (decide ((Qg (Ej.mk ((nth x3 x4).Key) ((nth x3 x4).Points)) (Ej.mk ((nth x3 (W (x4 - 1))).Key) ((nth x3 (W (x4 - 1))).Points))) < 0))),(34,bV (decide ((Qg (Ej.mk ((nth x3 x4).Key) ((nth x3 x4).Points)) (Ej.mk ((nth x3 (W (x4 - 1))).Key) ((nth x3 (W (x4 - 1))).Points))) < 0)))] [true] rfl (subR rfl)
        exact Tn (⟨decide ((Qg (Ej.mk ((nth x3 x4).Key) ((nth x3 x4).Points)) (Ej.mk ((nth x3 (W (x4 - 1))).Key) ((nth x3 (W (x4 - 1))).Points))) < 0),h,S.nf [true] rfl (subR rfl)⟩)
       ·replace h:=Rh h hb2
        refine Hd [] ([]) Tryz.mixed S rfl (by kernel_rfl) ?_;clear S;intro w9 hk4 hsel S
        refine Lg [0,1,2,3,4,5,6,7,8,9,10,11,12,13,14,15,16] hsel (by kernel_rfl) rfl ?_
        clear hsel
        refine Gp S rfl (Rm (S.tm rfl)) rfl fun a S=>Gp S rfl (Rm (S.tm rfl)) rfl fun a S=>Gp S rfl (Jj (S.tm rfl) (S.tm rfl)) rfl fun a S=>Gp S rfl (Rm (S.tm rfl)) rfl ?_;clear S;intro a S
        iterate 12 (refine Qs S rfl rfl rfl rfl (Jw hb2) rfl ?_ rfl;clear S;intro a S)
        refine Gp S rfl (Qj hb2 (S.tm rfl) rfl) rfl fun a S=>It ?_
        replace S:=S.k7 0 1 2 3 8 9 34 rfl
        exact Tn (⟨false,h,S.nf [true] rfl (subR rfl)⟩)
      clear S h;rintro a w5 ⟨x5,h,S⟩;rw [hj3] at h;clear hj3 j3
      refine Tn (Fc h (S.tm rfl) (fun hb3 h=>?_) (fun hb3 h=>?_))
      ·refine wp_skip (Tn (Fs (wp_block ?_)))
       obtain ⟨hc3,h⟩:=Ij h
       obtain ⟨hc4,h⟩:=Ij h
       obtain ⟨hc5,h⟩:=Ij h
       obtain ⟨hc6,h⟩:=Ij h
       refine Hd [15,17] ([]) Tryz.mixed S rfl (by kernel_rfl) ?_;clear S;intro w14 hk9 hsel S
       refine Fz 0 S hsel rfl rfl (by kernel_rfl) (by kernel_rfl) rfl (fun _=>(Rm (S.tm rfl))) fun a S=>Fz 1 S hsel rfl rfl (by kernel_rfl) (by kernel_rfl) rfl (fun _=>(Rm (S.tm rfl))) fun a S=>Fz 2 S hsel rfl rfl (by kernel_rfl) (by kernel_rfl) rfl (fun _=>(Rm (S.tm rfl))) fun a S=>Fz 3 S hsel rfl rfl (by kernel_rfl) (by kernel_rfl) rfl (fun _=>(Rm (S.tm rfl))) fun a S=>Fz 4 S hsel rfl rfl (by kernel_rfl) (by kernel_rfl) rfl (fun _=>(Iy (S.tm rfl) rfl)) fun a S=>Fz 5 S hsel rfl rfl (by kernel_rfl) (by kernel_rfl) rfl (fun _=>(Rm (S.tm rfl))) fun a S=>Fz 6 S hsel rfl rfl (by kernel_rfl) (by kernel_rfl) rfl (fun _=>(Rm (S.tm rfl))) fun a S=>Fz 7 S hsel rfl rfl (by kernel_rfl) (by kernel_rfl) rfl (fun _=>(Iy (S.tm rfl) rfl)) ?_;clear S;intro a S
       obtain ⟨b9,hg9,hr9⟩:=Gx (a:=a) (x:=.tmp 42) (y:=.tmp 44) (ty:=0) AL Ej.enc_ok S (i:=0) rfl (Eh hc3).1 (Eh hc3).2 (S.tm rfl) (S.tm rfl)
       refine Fz 8 S hsel rfl rfl (by kernel_rfl) (by kernel_rfl) rfl (fun _=>(hr9 _)) ?_;clear S;intro a S
       clear hr9
       refine Ek 9 S hsel rfl (by kernel_rfl) (by kernel_rfl) (by kernel_rfl) (by kernel_rfl) rfl (fun _ hw=>(Fk isAgg57 sizeOf57 (off:=((W (x4 - 1)).toNat) * 3) (o:=0) (part:=(Ej.enc (Ej.mk ((nth x3 (W (x4 - 1))).Key) ((nth x3 (W (x4 - 1))).Points)))) rfl rfl (S.tm rfl) ((Ns Ej.enc_ok S (i:=0) rfl hg9 (Eh hc3).1 (Ie (e':=.own O 57 3 x3.length (x3.flatMap Ej.enc)))).kept hw))) fun a S=>Fz 10 S hsel rfl rfl (by kernel_rfl) (by kernel_rfl) rfl (fun _=>(Rm (S.tm rfl))) fun a S=>Fz 11 S hsel rfl rfl (by kernel_rfl) (by kernel_rfl) rfl (fun _=>(Rm (S.tm rfl))) ?_;clear S;intro a S
       obtain ⟨b10,hg10,hr10⟩:=Gx (a:=a) (x:=.tmp 47) (y:=.tmp 48) (ty:=0) AL Ej.enc_ok S (i:=0) rfl (Eh hc4).1 (Eh hc4).2 (S.tm rfl) (S.tm rfl)
       refine Fz 12 S hsel rfl rfl (by kernel_rfl) (by kernel_rfl) rfl (fun _=>(hr10 _)) ?_;clear S;intro a S
       clear hr10
       refine Ek 13 S hsel rfl (by kernel_rfl) (by kernel_rfl) (by kernel_rfl) (by kernel_rfl) rfl (fun _ hw=>(Fk isAgg57 sizeOf57 (off:=x4.toNat * 3) (o:=0) (part:=(Ej.enc (Ej.mk ((nth x3 x4).Key) ((nth x3 x4).Points)))) rfl rfl (S.tm rfl) ((Ns Ej.enc_ok S (i:=0) rfl hg10 (Eh hc4).1 (Ie (e':=.own O 57 3 x3.length (x3.flatMap Ej.enc)))).kept hw))) ?_;clear S;intro a S
       obtain ⟨b11,hg11,hr11⟩:=Gx (a:=a) (x:=.tmp 37) (y:=.tmp 38) (ty:=0) AL Ej.enc_ok S (i:=0) rfl (Eh hc5).1 (Eh hc5).2 (S.tm rfl) (S.tm rfl)
       refine Fz 14 S hsel rfl rfl (by kernel_rfl) (by kernel_rfl) rfl (fun _=>(hr11 _)) ?_;clear S;intro a S
       clear hr11
       refine Wq 15 (O.ownBlock.toList) rfl (by kernel_rfl) rfl (Oe (c:=0) (j:=x4.toNat) (Ej.mk ((nth x3 (W (x4 - 1))).Key) ((nth x3 (W (x4 - 1))).Points)) Ej.enc_ok S (S.tm rfl) (S.tm rfl) (i:=0) rfl hg11 (Eh hc5).1 sizeOf57 (vs:=[sV ((nth x3 (W (x4 - 1))).Key),iV (((nth x3 (W (x4 - 1))).Points).Num),iV (((nth x3 (W (x4 - 1))).Points).Den)]) rfl rfl rfl rfl rfl ?_);clear S;intro w16 hk11 S
       refine Ld (Wr ?_)
       obtain ⟨b12,hg12,hr12⟩:=Gx (a:=a) (x:=.tmp 39) (y:=.tmp 41) (ty:=0) AL Ej.enc_ok S (i:=0) rfl (Eh hc6).1 (Eh hc6).2 (S.tm rfl) (S.tm rfl)
       refine Ek 16 S hsel rfl rfl rfl (by kernel_rfl) (by kernel_rfl) rfl (fun _ hw=>(hr12 _)) ?_;clear S;intro a S
       clear hr12
       refine Hi 17 (by kernel_rfl) rfl (Oe (c:=0) (j:=(W (x4 - 1)).toNat) (Ej.mk ((nth x3 x4).Key) ((nth x3 x4).Points)) Ej.enc_ok S (S.tm rfl) (S.tm rfl) (i:=0) rfl hg12 (Eh hc6).1 sizeOf57 (vs:=[sV ((nth x3 x4).Key),iV (((nth x3 x4).Points).Num),iV (((nth x3 x4).Points).Den)]) rfl rfl rfl rfl rfl ?_);clear S;intro w18 hk13 S
       refine Ld (Ik hk13 (Wl (by kernel_rfl) ?_))
       clear hsel
       replace S:=(S.nl [.own O 57 3 ((x3.set x4.toNat (Ej.mk ((nth x3 (W (x4 - 1))).Key) ((nth x3 (W (x4 - 1))).Points))).set ((W (x4 - 1)).toNat) (Ej.mk ((nth x3 x4).Key) ((nth x3 x4).Points))).length (((x3.set x4.toNat (Ej.mk ((nth x3 (W (x4 - 1))).Key) ((nth x3 (W (x4 - 1))).Points))).set ((W (x4 - 1)).toNat) (Ej.mk ((nth x3 x4).Key) ((nth x3 x4).Points))).flatMap Ej.enc)] [true] rfl).k6 0 1 2 3 8 9 rfl
       exact Hn (Tn (Fg (Vm S rfl rfl fun a S=>Vq S Iy rfl rfl rfl fun a S=>Va S rfl rfl fun a S=>Dl (⟨m2,⟨((x3.set x4.toNat (Ej.mk ((nth x3 (W (x4 - 1))).Key) ((nth x3 (W (x4 - 1))).Points))).set ((W (x4 - 1)).toNat) (Ej.mk ((nth x3 x4).Key) ((nth x3 x4).Points))),W (x4 - 1),h,S.nf [true] rfl ⟨rfl,rfl,rfl,rfl,rfl,rfl,trivial⟩⟩,Nat.lt_succ_self _⟩))))
      ·exact wp_exit (Ep (Ep (Gr (Tn (⟨x3,h,S.nf [true] rfl (subR rfl)⟩)))))
    clear S h;rintro a w4 ⟨x3,h,S⟩;rw [hj2] at h;clear hj2 j2
    exact Hn (Tn (Fg (Vm S rfl rfl fun a S=>Vq S Gf rfl rfl rfl fun a S=>Va S rfl rfl fun a S=>Dl (⟨m1,⟨x3,W (x2 + 1),h,S.nf [true] rfl ⟨rfl,rfl,rfl,rfl,rfl,trivial⟩⟩,Nat.lt_succ_self _⟩))))
   ·exact wp_exit (Ep (Ep (Gr (Tn (⟨x1,h,S.nf [true] rfl trivial⟩)))))
 clear S h;rintro a w2 ⟨x1,h,S⟩;rw [hj1] at h;clear hj1 j1
 obtain rfl:=Option.some.inj h
 exact Ri S results140 ⟨(S.holds _ (List.mem_of_getElem? (i:=0) rfl)),rfl⟩
theorem Su (w : World) (O : Value) (Ai : List Ej) (Be : (LEnt.own O 57 3 Ai.length (Ai.flatMap Ej.enc)).holds w) (Aj : Int) (Al : Int) (Cd : Int) (r : (List Ej)) (h : Kl Ai Aj Al Cd = some r) :
    Calls prog 115 [O,iV Aj,iV Al,iV Cd,.func (.func 66) #[] #[]].toArray w (Ret w (O.ownBlock.toList) fun _ v w'=>(LEnt.own O 57 3 r.length (r.flatMap Ej.enc)).holds w' ∧ v = .tuple #[]):=by
 refine Lb (O.ownBlock.toList) [.own O 57 3 Ai.length (Ai.flatMap Ej.enc)] func115 rfl ntmps115 rfl (fun e he=>by simp only [List.mem_singleton] at he;subst he;exact Be) (Iu _) (Js _) fun a S=>?_
 unfold Kl at h
 replace S:=(S.nl [.own O 57 3 Ai.length (Ai.flatMap Ej.enc)] [true] rfl).k5 0 1 2 3 4 rfl
 refine Fr (Vk S rfl rfl fun a S=>Dz (Vk S rfl rfl fun a S=>Dl ?_))
 replace S:=S.k6 0 1 2 3 4 10 rfl
 refine Es (fun a w'=>False) ?_ ?_
 ·refine wp_block (Gz (fun (m1 : Nat) a w'=>∃ x1 : Int,∃ x2 : Int,∃ x3 : Int,∃ x4 : Bool,He Ai m1 x1 x2 x3 x4 = some r ∧ Sx w (O.ownBlock.toList) nov [.own O 57 3 Ai.length (Ai.flatMap Ej.enc)] [(0,O),(1,iV x1),(2,iV x2),(3,iV x3),(4,.func (.func 66) #[] #[]),(10,bV x4)] 148 a w') id 4611686018427387904 ⟨Aj,Al,Cd,true,h,S.nf [true] rfl (subR rfl)⟩ ?_)
  clear S h;rintro m1 a w1 ⟨x1,x2,x3,x4,h,S⟩
  cases m1 with
  | zero=>rw [He.eq_1] at h;cases h
  | succ m1 =>
   rw [He.eq_2] at h
   refine wp_block (Fr (Vm S rfl rfl fun a S=>Vm S rfl rfl fun a S=>Vb S Iy rfl rfl rfl fun a S=>Va S rfl rfl fun a S=>Dl (Fs (Fs ?_))))
   refine Fg (Vm S rfl rfl fun a S=>Vq S Us rfl rfl rfl fun a S=>Dl (Fc h (S.tm rfl) (fun hb1 h=>?_) (fun hb1 h=>?_)))
   ·refine Fs (Fg ?_)
    iterate 4 (refine Vm S rfl rfl ?_;clear S;intro a S)
    obtain ⟨r1,hr1,h⟩:=Fd h
    refine Mr 0 S rfl (fun _=>.own O 57 3 r1.length (r1.flatMap Ej.enc)) (fun _=>Ea (vs:=[O,iV x1,iV x2,.func (.func 66) #[] #[]]) ⟨(S.tm rfl),(S.tm rfl),(S.tm rfl),(S.tm rfl),trivial⟩ call140) (Rf _ O Ai (S.holds _ (List.mem_of_getElem? (i:=0) rfl)) x1 x2 _ hr1) rfl (fun _ _ _ h=>⟨h.1,fun _ hc=>hc⟩) ?_;clear S;intro v1 a w3 hv1 hk1 hn1 S
    replace hv1:=hv1.2
    subst hv1
    refine Ld ?_
    replace S:=(S.nl [.own O 57 3 r1.length (r1.flatMap Ej.enc)] [true] rfl).k0
    refine Tn (wp_ret (Ec (Ga (Ec (Ga (Ec ?_))))))
    obtain rfl:=Option.some.inj h
    exact Ri S results115 ⟨(S.holds _ (List.mem_of_getElem? (i:=0) rfl)),rfl⟩
   ·refine wp_skip (Tn (Fs (Fr (Vm S rfl rfl fun a S=>Vq S Jh rfl rfl rfl fun a S=>Dl (Fc h (S.tm rfl) (fun hb2 h=>?_) (fun hb2 h=>?_))))))
    ·refine Fs ?_
     cases h
    ·refine wp_skip (Tn (Fs (Fr (Vm S rfl rfl fun a S=>Vu S Hv rfl rfl fun a S=>Ld ?_))))
     replace S:=S.k1 39 rfl
     refine Tn (Fc h (S.tm rfl) (fun hb3 h=>?_) (fun hb3 h=>?_))
     ·refine Fs ?_
      cases h
     ·refine wp_skip (Tn (Fs ?_))
      cases h
 exact fun _ _ h=>h.elim
theorem Uq (w : World) (Ay : Value) (Ac : List Ej) (Ci : (LEnt.own Ay 57 3 Ac.length (Ac.flatMap Ej.enc)).holds w) (r : (List Ej)) (h : Jf Ac = some r) :
    Calls prog 65 [Ay,.func (.func 66) #[] #[]].toArray w (Ret w (Ay.ownBlock.toList) fun _ v w'=>(LEnt.own Ay 57 3 r.length (r.flatMap Ej.enc)).holds w' ∧ v = .tuple #[]):=by
 refine Lb (Ay.ownBlock.toList) [.own Ay 57 3 Ac.length (Ac.flatMap Ej.enc)] func65 rfl ntmps65 rfl (fun e he=>by simp only [List.mem_singleton] at he;subst he;exact Ci) (Iu _) (Js _) fun a S=>?_
 unfold Jf at h
 replace S:=(S.nl [.own Ay 57 3 Ac.length (Ac.flatMap Ej.enc)] [true] rfl).k2 0 1 rfl
 refine Fr (Vm S rfl rfl fun a S=>lv S (Fq AL (S.tm rfl) (Oh (S.own_at (i:=0) rfl))) rfl fun a S=>Va S rfl rfl fun a S=>Dl (Fg ?_))
 iterate 3 (refine Vm S rfl rfl ?_;clear S;intro a S)
 refine Vu S (Wb underlying3 underlying117) rfl rfl ?_;clear S;intro a S
 obtain ⟨r1,hr1,h⟩:=Fd h
 refine Ei S (fun _=>Ea (vs:=[.int .u64 (IntKind.wrap .u64 (Ac.length : Int))]) ⟨(S.tm rfl),trivial⟩ call50) (DJ _ (IntKind.wrap .u64 (Ac.length : Int)) _ hr1) rfl ?_;clear S;intro v1 a w1 hv1 hk1 hn1 S
 subst hv1
 refine Vm S rfl rfl ?_;clear S;intro a S
 obtain ⟨r2,hr2,h⟩:=Fd h
 refine Mr 0 S rfl (fun _=>.own Ay 57 3 r2.length (r2.flatMap Ej.enc)) (fun _=>Ea (vs:=[Ay,iV 0,iV (Ac.length : Int),iV r1,.func (.func 66) #[] #[]]) ⟨(S.tm rfl),rfl,(S.tm rfl),(S.tm rfl),(S.tm rfl),trivial⟩ call115) (Su _ Ay Ac (S.holds _ (List.mem_of_getElem? (i:=0) rfl)) 0 (Ac.length : Int) r1 _ hr2) rfl (fun _ _ _ h=>⟨h.1,fun _ hc=>hc⟩) ?_;clear S;intro v2 a w2 hv2 hk2 hn2 S
 replace hv2:=hv2.2
 subst hv2
 refine Ld ?_
 obtain rfl:=Option.some.inj h
 exact Ri S results65 ⟨(S.holds _ (List.mem_of_getElem? (i:=0) rfl)),rfl⟩
end Go.Proofs.YtancihamhcdboaaGreatDoor
