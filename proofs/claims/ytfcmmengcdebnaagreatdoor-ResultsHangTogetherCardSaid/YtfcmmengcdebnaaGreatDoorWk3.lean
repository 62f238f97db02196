/- Each Go function computes its plain twin,by program. -/
import Derived.Test.YtfcmmengcdebnaaGreatDoorWk2
namespace Go.Proofs.YtfcmmengcdebnaaGreatDoor
open Go
open Go.Proofs.Tryz
set_option maxRecDepth 20000 in
theorem JO (w : World) (Ab : Value) (Ah : List Gq) (Af : Slc (view w []) 2 Ab (Ah.map Gq.enc)) (Cc : Value) (Cd : List Ii) (Cl : List Sq) (Cg : Slc (view w []) 3 Cc (Cl.map Sq.enc)) (Ch : Lh (Uu (view w [])) Cd Cl) (Bx : Int) (r : (List Dq) × Int) (h : Zx Ah Cd Bx = some r) :
    Calls prog 109 [Ab,Cc,iV Bx].toArray w (Ret w [] fun τ v _=>∃ u1 : Value,v = .tuple #[u1,iV r.2] ∧ Tf τ 127 4 u1 r.1.length (r.1.flatMap Dq.enc)):=by
 refine Fe func109 rfl ntmps109 rfl fun a S=>?_
 unfold Zx at h
 replace S:=S.k3 0 1 2 rfl
 refine Fr (Mn S (S.tm rfl) (cs:=[iV Bx]) rfl rfl ?_);clear S;intro a w1 b1 hz1 hk1 S
 refine Vk S rfl rfl fun a S=>Vk S rfl rfl fun a S=>Dl (Fs (Fr (Vm S rfl rfl ?_)));clear S;intro a S
 obtain ⟨r1,hr1,h⟩:=Fa h
 refine Dw S (fun _=>Dp (vs:=[Ab]) ⟨(S.tm rfl),trivial⟩ call133) (DW _ Ab Ah (Af.mono (S.le_arg Ec)) _ hr1) rfl ?_;clear S;intro v1 a w2 hv1 hk2 hn1 S
 subst hv1
 refine Va S rfl rfl fun a S=>Dz (Vm S rfl rfl fun a S=>Vq S Kw rfl rfl rfl fun a S=>Dl (Fc h (S.tm rfl) (fun hb1 h=>?_) (fun hb1 h=>?_)))
 ·refine Fr (Vm S rfl rfl fun a S=>Vk S rfl rfl fun a S=>Va S rfl rfl fun a S=>Dl (wp_ret (Dt ?_)))
  obtain rfl:=Option.some.inj h
  exact Lg S results109 rfl rfl ⟨_,rfl,(Qf _ _ _)⟩
 ·refine wp_skip (Tn (Fs (Fr (Vm S rfl rfl ?_))));clear S;intro a S
  obtain ⟨r2,hr2,h⟩:=Fa h
  refine Dw S (fun _=>Dp (vs:=[Cc]) ⟨(S.tm rfl),trivial⟩ call134) (AG _ Cc Cd Cl (Cg.mono (S.le_arg Ec)) (IC (S.le_arg Ec) Ch) _ hr2) rfl ?_;clear S;intro v2 a w3 hv2 hk3 hn2 S
  subst hv2
  refine Va S rfl rfl fun a S=>Dz (Vm S rfl rfl fun a S=>Vq S Kw rfl rfl rfl fun a S=>Ld ?_)
  replace S:=(S.nl [.blk b1 [iV Bx] 3] [true] rfl).k5 0 1 5 9 27 rfl
  refine Tn (Fc h (S.tm rfl) (fun hb2 h=>?_) (fun hb2 h=>?_))
  ·refine Fr (Vm S rfl rfl fun a S=>Vk S rfl rfl fun a S=>Va S rfl rfl fun a S=>Dl (wp_ret (Dt ?_)))
   obtain rfl:=Option.some.inj h
   exact Lg S results109 rfl rfl ⟨_,rfl,(Qf _ _ _)⟩
  ·refine wp_skip (Tn (Fr (Rx (κ:=ByteArray) (ν:=Int) S rfl Value.string (Value.int .i64) ?_)));clear S;intro a w4 b2 hz2 hk4 S
   refine Va S rfl rfl fun a S=>Dl (Fs (Fr (Vm S rfl rfl fun a S=>lv S (Fq DQ (S.tm rfl) (Uj Cg Ch)) rfl fun a S=>lv S (Rm rfl) rfl fun a S=>Dl ?_)))
   replace S:=(S.nl [.map b2 (Gt Value.string (Value.int .i64) ([] : List (ByteArray × Int))) ([] : List (ByteArray × Int)).length,.blk b1 [iV Bx] 3] [true,true] rfl).k6 0 5 10 30 31 32 rfl
   obtain ⟨j1,hj1,h⟩:=Ep h
   refine Eg (fun a w'=>∃ x1 : List (ByteArray × Int),j1 x1 = some r ∧ Sx w [] nov [.map b2 (Gt Value.string (Value.int .i64) x1) x1.length,.blk b1 [iV Bx] 3] [(0,Ab),(5,.pointer (some ⟨b1,0,none⟩)),(10,.map (some b2))] 122 a w') ?_ ?_
   ·refine wp_block (Gx (fun (ys1 : List Ii) a w'=>∃ i1 : Nat,∃ x1 : List (ByteArray × Int),(∃ dn,Cd = dn ++ ys1 ∧ dn.length = i1) ∧ Oe j1 ys1 i1 x1 = some r ∧ Sx w [] nov [.map b2 (Gt Value.string (Value.int .i64) x1) x1.length,.blk b1 [iV Bx] 3] [(0,Ab),(5,.pointer (some ⟨b1,0,none⟩)),(10,.map (some b2)),(30,Cc),(31,iV (Cd.length : Int)),(32,iV (i1 : Int))] 122 a w') List.length Cd ⟨0,([] : List (ByteArray × Int)),⟨[],rfl,rfl⟩,h,S.nf [true,true] rfl (subR rfl)⟩ ?_)
    clear S h;rintro ys1 a w5 ⟨i1,x1,⟨dn,hd1,hi1⟩,h,S⟩
    cases ys1 with
    | nil =>
     rw [Oe.eq_1] at h
     refine Fr (Vb S Et rfl rfl rfl fun a S=>Ld ?_)
     replace S:=S.k7 0 5 10 30 31 32 33 rfl
     exact Tn (Fs (wp_cond_false ((S.tm rfl).trans (congrArg Value.bool (Il hd1 hi1))) (wp_exit (Ed (Ed (Gp (Tn (⟨x1,h,S.nf [true,true] rfl (subR rfl)⟩))))))))
    | cons y1 ys1 =>
     rw [Oe.eq_2] at h
     refine Fr (Vb S Et rfl rfl rfl fun a S=>Ld ?_)
     replace S:=S.k7 0 5 10 30 31 32 33 rfl
     refine Tn (Fs (wp_cond_true ((S.tm rfl).trans (congrArg Value.bool (Ht hd1 hi1))) (wp_skip (Tn (Fs (wp_block (Fs (Fg ?_))))))))
     obtain ⟨r3,hg1,hl1⟩:=Lh.at Ch (Io hd1 hi1)
     obtain ⟨u1,rfl,hs1⟩:=hl1
     obtain ⟨b3,o1,hm1,hr3⟩:=Ev (a:=a) (x:=.tmp 30) (y:=.tmp 32) (ty:=0) DQ Cg hg1 rfl (S.tm rfl) (S.tm rfl)
     refine lv S (hr3 _) rfl ?_;clear S;intro a S
     clear hr3
     refine lv S (Fp isAgg166 sizeOf166 (off:=o1) (o:=0) (part:=[sV y1.Who,iV y1.Fault,u1.val]) rfl rfl (S.tm rfl) (hm1.at S.emb0)) rfl fun a S=>Hs S zeroValue166 (cs:=[sV An,iV 0,.slice none 0 0]) rfl rfl ?_;clear S;intro a w7 b4 hz3 hk5 S
     refine Ex S (S.tm rfl) (S.tm rfl) (i:=0) (off:=0) rfl sizeOf166 (vs:=[sV y1.Who,iV y1.Fault,u1.val]) rfl rfl rfl (Qz rfl (Qz rfl (Qz (Kq.one (Fj hs1)) rfl))) ?_;clear S;intro w8 hk6 S
     refine Dl (Fg (Vm S rfl rfl fun a S=>Vf EU S rfl rfl fun a S=>Vl isAgg9 0 S rfl rfl rfl rfl fun a S=>Vf NG S rfl rfl fun a S=>Vl isAgg3 0 S rfl rfl rfl rfl fun a S=>Pc (kv:=Value.string) (vv:=(Value.int .i64)) (m:=x1) (key:=y1.Who) (val:=y1.Fault) S (i:=1) rfl underlying98 (Mx underlying9) (S.tm rfl) (S.tm rfl) (S.tm rfl) ?_));clear S;intro w9 hk7 S
     refine Ld ?_
     replace S:=(S.nl [.map b2 (Gt Value.string (Value.int .i64) (Gl x1 y1.Who y1.Fault)) (Gl x1 y1.Who y1.Fault).length,.blk b1 [iV Bx] 3] [false,true,true] rfl).k6 0 5 10 30 31 32 rfl
     exact Ho (Tn (Fg (Vq S Gc rfl rfl rfl fun a S=>Vm S rfl rfl fun a S=>Dl (⟨ys1,⟨i1 + 1,(Gl x1 y1.Who y1.Fault),⟨_,(hd1).trans (List.append_cons _ _ _),by simp [hi1]⟩,h,S.nf [true,true] rfl ⟨rfl,rfl,rfl,rfl,rfl,(congrArg (fun z=>some (Value.int .i64 z)) (Hu hd1 hi1 (Wy Cg Ch))),trivial⟩⟩,Nat.lt_succ_self _⟩))))
   clear S h;rintro a w6 ⟨x1,h,S⟩;rw [hj1] at h;clear hj1 j1
   refine Tn (Fr (Vk S rfl rfl ?_));clear S;intro a S
   replace S:=S.nil 127 4
   refine Vk S rfl rfl ?_;clear S;intro a S
   replace S:=S.nil 127 4
   refine Dl (Fs (Fr (Vm S rfl rfl fun a S=>lv S (Fq DE (S.tm rfl) (Fj Af)) rfl fun a S=>lv S (Rm rfl) rfl fun a S=>Dl ?_)))
   replace S:=(S.nl [.own (.slice none 0 0) 127 4 ([] : List Dq).length (([] : List Dq).flatMap Dq.enc),.own (.slice none 0 0) 127 4 ([] : List Dq).length (([] : List Dq).flatMap Dq.enc),.map b2 (Gt Value.string (Value.int .i64) x1) x1.length,.blk b1 [iV Bx] 3] [true,true,true,true] rfl).k7 5 10 13 14 42 43 44 rfl
   obtain ⟨j2,hj2,h⟩:=Ep h
   refine Eg (fun a w'=>∃ x2 : List Dq,∃ x3 : List Dq,∃ v3 : Value,∃ v4 : Value,j2 x2 x3 = some r ∧ Sx w [] nov [.own v3 127 4 x2.length (x2.flatMap Dq.enc),.own v4 127 4 x3.length (x3.flatMap Dq.enc),.map b2 (Gt Value.string (Value.int .i64) x1) x1.length,.blk b1 [iV Bx] 3] [(5,.pointer (some ⟨b1,0,none⟩)),(13,v4),(14,v3)] 122 a w') ?_ ?_
   ·refine wp_block (Gx (fun (ys2 : List Gq) a w'=>∃ i2 : Nat,∃ x2 : List Dq,∃ x3 : List Dq,∃ v3 : Value,∃ v4 : Value,(∃ dn,Ah = dn ++ ys2 ∧ dn.length = i2) ∧ Nl x1 j2 ys2 i2 x2 x3 = some r ∧ Sx w [] nov [.own v3 127 4 x2.length (x2.flatMap Dq.enc),.own v4 127 4 x3.length (x3.flatMap Dq.enc),.map b2 (Gt Value.string (Value.int .i64) x1) x1.length,.blk b1 [iV Bx] 3] [(5,.pointer (some ⟨b1,0,none⟩)),(10,.map (some b2)),(13,v4),(14,v3),(42,Ab),(43,iV (Ah.length : Int)),(44,iV (i2 : Int))] 122 a w') List.length Ah ⟨0,([] : List Dq),([] : List Dq),(.slice none 0 0),(.slice none 0 0),⟨[],rfl,rfl⟩,h,S.nf [true,true,true,true] rfl (subR rfl)⟩ ?_)
    clear S h;rintro ys2 a w10 ⟨i2,x2,x3,v3,v4,⟨dn,hd2,hi2⟩,h,S⟩
    cases ys2 with
    | nil =>
     rw [Nl.eq_1] at h
     refine Fr (Vb S Et rfl rfl rfl fun a S=>Ld ?_)
     replace S:=S.k8 5 10 13 14 42 43 44 45 rfl
     exact Tn (Fs (wp_cond_false ((S.tm rfl).trans (congrArg Value.bool (Il hd2 hi2))) (wp_exit (Ed (Ed (Gp (Tn (⟨x2,x3,v3,v4,h,S.nf [true,true,true,true] rfl (subR rfl)⟩))))))))
    | cons y2 ys2 =>
     rw [Nl.eq_2] at h
     refine Fr (Vb S Et rfl rfl rfl fun a S=>Ld ?_)
     replace S:=S.k8 5 10 13 14 42 43 44 45 rfl
     refine Tn (Fs (wp_cond_true ((S.tm rfl).trans (congrArg Value.bool (Ht hd2 hi2))) (wp_skip (Tn (Fs ?_)))))
     obtain ⟨j3,hj3,h⟩:=Ep h
     refine Eg (fun a w'=>∃ x4 : List Dq,∃ x5 : List Dq,∃ v5 : Value,∃ v6 : Value,j3 x4 x5 = some r ∧ Sx w [] nov [.own v5 127 4 x4.length (x4.flatMap Dq.enc),.own v6 127 4 x5.length (x5.flatMap Dq.enc),.map b2 (Gt Value.string (Value.int .i64) x1) x1.length,.blk b1 [iV Bx] 3] [(5,.pointer (some ⟨b1,0,none⟩)),(10,.map (some b2)),(13,v6),(14,v5),(42,Ab),(43,iV (Ah.length : Int)),(44,iV (i2 : Int))] 122 a w') ?_ ?_
     ·refine wp_block (Fs (Fg ?_))
      obtain ⟨b5,o2,hm2,hr4⟩:=Ev (a:=a) (x:=.tmp 42) (y:=.tmp 44) (ty:=0) DE Af (Io hd2 hi2) rfl (S.tm rfl) (S.tm rfl)
      refine lv S (hr4 _) rfl ?_;clear S;intro a S
      clear hr4
      refine lv S (Fp isAgg56 sizeOf56 (off:=o2) (o:=0) (part:=(Gq.enc y2)) rfl rfl (S.tm rfl) (hm2.at S.emb0)) rfl fun a S=>Hs S zeroValue56 (cs:=[sV An,iV 0]) rfl rfl ?_;clear S;intro a w13 b6 hz4 hk8 S
      refine Ex S (S.tm rfl) (S.tm rfl) (i:=0) (off:=0) rfl sizeOf56 (vs:=(Gq.enc y2)) rfl rfl rfl rfl ?_;clear S;intro w14 hk9 S
      refine Dz (Vf CK S rfl rfl fun a S=>Vl isAgg9 0 S rfl rfl rfl rfl fun a S=>Vf QL S rfl rfl fun a S=>Vl isAgg3 0 S rfl rfl rfl rfl fun a S=>Vm S rfl rfl fun a S=>Vf CK S rfl rfl fun a S=>Vl isAgg9 0 S rfl rfl rfl rfl ?_);clear S;intro a S
      refine lv S (Qa (kv:=Value.string) (vv:=(Value.int .i64)) (m:=x1) (key:=y2.Who) (z:=0) (S.map_at (i:=3) rfl) underlying98 (Mx underlying9) zeroValue3 (S.tm rfl) (S.tm rfl)) rfl fun a S=>lv S (Mr bt_127 (pv:=[(0,sV y2.Who),(2,iV y2.Time),(3,iV (Ea x1 y2.Who 0))]) ⟨rfl,(S.tm rfl),rfl,(S.tm rfl),rfl,(S.tm rfl),trivial⟩ (cs:=[sV y2.Who,iV 0,iV y2.Time,iV (Ea x1 y2.Who 0)]) (by kernel_rfl)) rfl fun a S=>Hs S zeroValue127 (cs:=[sV An,iV 0,iV 0,iV 0]) rfl rfl ?_;clear S;intro a w15 b7 hz5 hk10 S
      refine Ex S (S.tm rfl) (S.tm rfl) (i:=0) (off:=0) rfl sizeOf127 (vs:=[sV y2.Who,iV 0,iV y2.Time,iV (Ea x1 y2.Who 0)]) rfl rfl rfl rfl ?_;clear S;intro w16 hk11 S
      refine Ld ?_
      replace S:=(S.nl [.blk b7 [sV y2.Who,iV 0,iV y2.Time,iV (Ea x1 y2.Who 0)] 127,.own v3 127 4 x2.length (x2.flatMap Dq.enc),.own v4 127 4 x3.length (x3.flatMap Dq.enc),.map b2 (Gt Value.string (Value.int .i64) x1) x1.length,.blk b1 [iV Bx] 3] [true,false,true,true,true,true] rfl).k8 5 10 13 14 17 42 43 44 rfl
      refine Tn (Fr (Vf NF S rfl rfl fun a S=>Vl isAgg3 0 S rfl rfl rfl rfl fun a S=>Vq S Im rfl rfl rfl fun a S=>Vm S rfl rfl fun a S=>Hn 4 (fun a w'=>Keep [] w16 w' ∧ Sx w [] nov [.blk b7 [sV y2.Who,iV 0,iV y2.Time,iV (Ea x1 y2.Who 0)] 127,.own v3 127 4 x2.length (x2.flatMap Dq.enc),.own v4 127 4 x3.length (x3.flatMap Dq.enc),.map b2 (Gt Value.string (Value.int .i64) x1) x1.length,.blk b1 [iV Bx] 3] [(5,.pointer (some ⟨b1,0,none⟩)),(10,.map (some b2)),(13,v4),(14,v3),(17,.pointer (some ⟨b7,0,none⟩)),(42,Ab),(43,iV (Ah.length : Int)),(44,iV (i2 : Int)),(64,bV ((decide ((Ea x1 y2.Who 0) = 0)) && (decide (0 < y2.Time))))] 122 a w') ?_ ?_))
      ·rcases Bool.eq_false_or_eq_true (decide ((Ea x1 y2.Who 0) = 0)) with hb3 | hb3
       ·exact Du S rfl rfl rfl hb3 (Vf Ze S rfl rfl fun a S=>Du S rfl rfl rfl hb3 (Vl isAgg3 0 S rfl rfl rfl rfl fun a S=>Du S rfl rfl rfl hb3 (Vq S It rfl rfl rfl fun a S=>lv S (Hg hb3 (S.tm rfl) (S.tm rfl)) rfl fun a S=>Dl (⟨Keep.refl _ _,S.nf [true,true,true,true,true] rfl (subR rfl)⟩))))
       ·iterate 3 (refine Gn S rfl rfl rfl (Jh hb3) rfl ?_ rfl;clear S;intro a S)
        exact lv S (Hh (decide (0 < y2.Time)) hb3 (S.tm rfl) rfl) rfl fun a S=>Dl (⟨Keep.refl _ _,S.nf [true,true,true,true,true] rfl (subR rfl)⟩)
      clear S;rintro a w17 ⟨hk12,S⟩
      refine Dl ?_
      obtain ⟨j4,hj4,h⟩:=Ep h
      refine Eg (fun a w'=>∃ x6 : List Dq,∃ x7 : List Dq,∃ v7 : Value,∃ v8 : Value,j4 x6 x7 = some r ∧ Sx w [] nov [.own v7 127 4 x6.length (x6.flatMap Dq.enc),.own v8 127 4 x7.length (x7.flatMap Dq.enc),.map b2 (Gt Value.string (Value.int .i64) x1) x1.length,.blk b1 [iV Bx] 3] [(5,.pointer (some ⟨b1,0,none⟩)),(10,.map (some b2)),(13,v8),(14,v7),(42,Ab),(43,iV (Ah.length : Int)),(44,iV (i2 : Int))] 122 a w') ?_ ?_
      ·refine Fc h (S.tm rfl) (fun hb4 h=>?_) (fun hb4 h=>?_)
       ·refine Fg (Vm S rfl rfl fun a S=>lv S (Fp isAgg127 sizeOf127 (off:=0) (o:=0) (part:=[sV y2.Who,iV 0,iV y2.Time,iV (Ea x1 y2.Who 0)]) rfl rfl (S.tm rfl) (S.cellsAt (i:=0) rfl)) rfl fun a S=>Er S underlying121 sizeOf127 zeroValue127 rfl rfl (pv:=[(0,.agg #[sV y2.Who,iV 0,iV y2.Time,iV (Ea x1 y2.Who 0)])]) ⟨rfl,(S.tm rfl),trivial⟩ (cs:=[sV y2.Who,iV 0,iV y2.Time,iV (Ea x1 y2.Who 0)]) (by kernel_rfl) rfl ?_);clear S;intro a w19 b8 hz6 hk13 S
        obtain ⟨hc1,h⟩:=Ie h
        refine Ms Sb Dq.enc_ok S (S.tm rfl) (i:=3) rfl (S.tm rfl) (j:=0) rfl (ys:=[(Dq.mk y2.Who 0 y2.Time (Ea x1 y2.Who 0))]) rfl rfl rfl rfl (by have:=Nd hc1;omega) rfl ?_;clear S;intro v9 a w20 hk14 S
        refine Va S rfl rfl fun a S=>Ld ?_
        replace S:=(S.nl [.own v3 127 4 x2.length (x2.flatMap Dq.enc),.own v9 127 4 (x3 ++ [(Dq.mk y2.Who 0 y2.Time (Ea x1 y2.Who 0))]).length ((x3 ++ [(Dq.mk y2.Who 0 y2.Time (Ea x1 y2.Who 0))]).flatMap Dq.enc),.map b2 (Gt Value.string (Value.int .i64) x1) x1.length,.blk b1 [iV Bx] 3] [false,false,true,true,true,true] rfl).k7 5 10 13 14 42 43 44 rfl
        exact Tn (⟨x2,(x3 ++ [(Dq.mk y2.Who 0 y2.Time (Ea x1 y2.Who 0))]),v3,v9,h,S.nf [true,true,true,true] rfl (subR rfl)⟩)
       ·refine Fg (Vm S rfl rfl fun a S=>lv S (Fp isAgg127 sizeOf127 (off:=0) (o:=0) (part:=[sV y2.Who,iV 0,iV y2.Time,iV (Ea x1 y2.Who 0)]) rfl rfl (S.tm rfl) (S.cellsAt (i:=0) rfl)) rfl fun a S=>Er S underlying121 sizeOf127 zeroValue127 rfl rfl (pv:=[(0,.agg #[sV y2.Who,iV 0,iV y2.Time,iV (Ea x1 y2.Who 0)])]) ⟨rfl,(S.tm rfl),trivial⟩ (cs:=[sV y2.Who,iV 0,iV y2.Time,iV (Ea x1 y2.Who 0)]) (by kernel_rfl) rfl ?_);clear S;intro a w21 b9 hz7 hk15 S
        obtain ⟨hc2,h⟩:=Ie h
        refine Ms Sb Dq.enc_ok S (S.tm rfl) (i:=2) rfl (S.tm rfl) (j:=0) rfl (ys:=[(Dq.mk y2.Who 0 y2.Time (Ea x1 y2.Who 0))]) rfl rfl rfl rfl (by have:=Nd hc2;omega) rfl ?_;clear S;intro v10 a w22 hk16 S
        refine Va S rfl rfl fun a S=>Ld ?_
        replace S:=(S.nl [.own v10 127 4 (x2 ++ [(Dq.mk y2.Who 0 y2.Time (Ea x1 y2.Who 0))]).length ((x2 ++ [(Dq.mk y2.Who 0 y2.Time (Ea x1 y2.Who 0))]).flatMap Dq.enc),.own v4 127 4 x3.length (x3.flatMap Dq.enc),.map b2 (Gt Value.string (Value.int .i64) x1) x1.length,.blk b1 [iV Bx] 3] [false,false,true,true,true,true] rfl).k7 5 10 13 14 42 43 44 rfl
        exact Tn (⟨(x2 ++ [(Dq.mk y2.Who 0 y2.Time (Ea x1 y2.Who 0))]),x3,v10,v4,h,S.nf [true,true,true,true] rfl (subR rfl)⟩)
      clear S h;rintro a w18 ⟨x6,x7,v7,v8,h,S⟩;rw [hj4] at h;clear hj4 j4
      exact Ho (Tn (⟨x6,x7,v7,v8,h,S.nf [true,true,true,true] rfl (subR rfl)⟩))
     clear S h;rintro a w12 ⟨x4,x5,v5,v6,h,S⟩;rw [hj3] at h;clear hj3 j3
     exact Tn (Fg (Vq S Gc rfl rfl rfl fun a S=>Vm S rfl rfl fun a S=>Dl (⟨ys2,⟨i2 + 1,x4,x5,v5,v6,⟨_,(hd2).trans (List.append_cons _ _ _),by simp [hi2]⟩,h,S.nf [true,true,true,true] rfl ⟨rfl,rfl,rfl,rfl,rfl,rfl,(congrArg (fun z=>some (Value.int .i64 z)) (Hu hd2 hi2 (Iz Af))),trivial⟩⟩,Nat.lt_succ_self _⟩)))
   clear S h;rintro a w11 ⟨x2,x3,v3,v4,h,S⟩;rw [hj2] at h;clear hj2 j2
   refine Tn (Fr (Vm S rfl rfl fun a S=>lv S (Tg (us:=#[]) (xs:=[].toArray) (ys:=[.tmp 5].toArray) (by simp) (evA ⟨(S.tm rfl),trivial⟩ (vs:=[.pointer (some ⟨b1,0,none⟩)]))) rfl ?_));clear S;intro a S
   obtain ⟨r4,hr5,h⟩:=Fa h
   refine Pd 1 S rfl (fun _=>.own v4 127 4 r4.length (r4.flatMap Dq.enc)) (fun _=>Dp (vs:=[v4,.func (.func 136) #[] #[.pointer (some ⟨b1,0,none⟩)]]) ⟨(S.tm rfl),(S.tm rfl),trivial⟩ call135) (Rr _ v4 x3 (S.holds _ (List.mem_of_getElem? (i:=1) rfl)) b1 Bx (S.blk_view (i:=3) rfl ((Mo (i:=1) (j:=3) (e:=.own v4 127 4 x3.length (x3.flatMap Dq.enc)) (e':=.blk b1 [iV Bx] 3) S rfl rfl rfl) _ rfl)) _ hr5) rfl (fun _ _ _ h=>⟨h.1,fun _ hc=>hc⟩) ?_;clear S;intro v11 a w23 hv3 hk17 hn3 S
   replace hv3:=hv3.2
   subst hv3
   refine Dl (Fs (Fr (Vm S rfl rfl fun a S=>lv S (Fq Sb (S.tm rfl) (Ph (S.own_at (i:=1) rfl))) rfl fun a S=>lv S (Rm rfl) rfl fun a S=>Dl ?_)))
   replace S:=(S.nl [.own v3 127 4 x2.length (x2.flatMap Dq.enc),.own v4 127 4 r4.length (r4.flatMap Dq.enc),.blk b1 [iV Bx] 3] [true,true,false,true] rfl).k5 5 13 14 78 79 rfl
   have hm3:=own_max (S.own_at (i:=1) rfl)
   obtain ⟨j5,hj5,h⟩:=Ep h
   refine Eg (fun a w'=>∃ x8 : List Dq,∃ v12 : Value,j5 x8 = some r ∧ Sx w [] nov [.own v3 127 4 x2.length (x2.flatMap Dq.enc),.own v12 127 4 x8.length (x8.flatMap Dq.enc),.blk b1 [iV Bx] 3] [(13,v12),(14,v3)] 122 a w') ?_ ?_
   ·refine wp_block (Gx (fun (ys3 : List Dq) a w'=>∃ i3 : Nat,∃ x8 : List Dq,∃ v12 : Value,(∃ dn,r4 = dn ++ ys3 ∧ dn.length = i3) ∧ Nm Bx j5 ys3 i3 x8 = some r ∧ Sx w [] nov [.own v3 127 4 x2.length (x2.flatMap Dq.enc),.own v12 127 4 x8.length (x8.flatMap Dq.enc),.blk b1 [iV Bx] 3] [(5,.pointer (some ⟨b1,0,none⟩)),(13,v12),(14,v3),(78,iV (r4.length : Int)),(79,iV (i3 : Int))] 122 a w') List.length r4 ⟨0,r4,v4,⟨[],rfl,rfl⟩,h,S.nf [true,true,true] rfl (subR rfl)⟩ ?_)
    clear S h;rintro ys3 a w24 ⟨i3,x8,v12,⟨dn,hd3,hi3⟩,h,S⟩
    cases ys3 with
    | nil =>
     rw [Nm.eq_1] at h
     refine Fr (Vb S Et rfl rfl rfl fun a S=>Ld ?_)
     replace S:=S.k6 5 13 14 78 79 80 rfl
     exact Tn (Fs (wp_cond_false ((S.tm rfl).trans (congrArg Value.bool (Il hd3 hi3))) (wp_exit (Ed (Ed (Gp (Tn (⟨x8,v12,h,S.nf [true,true,true] rfl (subR rfl)⟩))))))))
    | cons y3 ys3 =>
     rw [Nm.eq_2] at h
     refine Fr (Vb S Et rfl rfl rfl fun a S=>Ld ?_)
     replace S:=S.k6 5 13 14 78 79 80 rfl
     refine Tn (Fs (wp_cond_true ((S.tm rfl).trans (congrArg Value.bool (Ht hd3 hi3))) (wp_skip (Tn (Fs ?_)))))
     obtain ⟨j6,hj6,h⟩:=Ep h
     refine Eg (fun a w'=>∃ x9 : List Dq,j6 x9 = some r ∧ Sx w [] nov [.own v3 127 4 x2.length (x2.flatMap Dq.enc),.own v12 127 4 x9.length (x9.flatMap Dq.enc),.blk b1 [iV Bx] 3] [(5,.pointer (some ⟨b1,0,none⟩)),(13,v12),(14,v3),(78,iV (r4.length : Int)),(79,iV (i3 : Int))] 122 a w') ?_ ?_
     ·refine wp_block (Fr (Vm S rfl rfl fun a S=>Va S rfl rfl fun a S=>Dl (Fs (Hd [] ([]) Tryz.mixed S rfl (by kernel_rfl) ?_))));clear S;intro w27 hk18 hsel S
      refine Lw [0,1,2,3,4,5,6,7,8,9,10,11,12,13,14,15,16,17,18,19] hsel (by kernel_rfl) rfl ?_
      clear hsel
      refine Gm S rfl (Rm (S.tm rfl)) rfl fun a S=>Gm S rfl (It (S.tm rfl) rfl) rfl fun a S=>Gm S rfl (Rm (S.tm rfl)) rfl ?_;clear S;intro a S
      obtain ⟨j7,hj7,h⟩:=Ep h
      refine Ue 17 (fun a w'=>∃ c1,j7 c1 = some r ∧ Keep [] w27 w' ∧ Sx w [] nov [.own v3 127 4 x2.length (x2.flatMap Dq.enc),.own v12 127 4 x8.length (x8.flatMap Dq.enc),.blk b1 [iV Bx] 3] [(5,.pointer (some ⟨b1,0,none⟩)),(13,v12),(14,v3),(18,iV (i3 : Int)),(78,iV (r4.length : Int)),(79,iV (i3 : Int)),(101,bV c1)] 122 a w') ?_ ?_
      ·rcases Bool.eq_false_or_eq_true (decide (0 < (i3 : Int))) with hb5 | hb5
       ·replace h:=Qc h hb5
        refine Ee S rfl rfl rfl rfl hb5 (Fb S (Rm (S.tm rfl)) rfl fun a S=>Ee S rfl rfl rfl rfl hb5 (Fb S (Rm (S.tm rfl)) rfl fun a S=>Ee S rfl rfl rfl rfl hb5 ?_))
        obtain ⟨hc3,h⟩:=Ie h
        obtain ⟨b10,hg2,hr6⟩:=Hq (a:=a) (x:=.tmp 85) (y:=.tmp 86) (ty:=0) Sb Dq.enc_ok S (i:=1) rfl (Dx hc3).1 (Dx hc3).2 (S.tm rfl) (S.tm rfl)
        refine Fb S (hr6 _) rfl ?_;clear S;intro a S
        clear hr6
        refine Ee S rfl rfl rfl rfl hb5 (Fb S (Fy Ze (S.tm rfl)) rfl fun a S=>Ee S rfl rfl rfl rfl hb5 (Fb S (Hm isAgg3 (off:=((i3 : Int).toNat) * 4) (o:=2) (S.tm rfl) (Tt Dq.enc_ok S (i:=1) rfl hg2 (Dx hc3).1) rfl) rfl fun a S=>Ee S rfl rfl rfl rfl hb5 (Fb S (La isAgg3 (S.tm rfl) (S.cell (i:=2) rfl rfl)) rfl fun a S=>Ee S rfl rfl rfl rfl hb5 ?_)))
        obtain ⟨hc4,h⟩:=Ie h
        refine Fb S (DL (S.tm rfl) (S.tm rfl) (Ud hc4)) rfl fun a S=>Ee S rfl rfl rfl rfl hb5 (Fb S (Rm (S.tm rfl)) rfl fun a S=>Ee S rfl rfl rfl rfl hb5 (Fb S (Rm (S.tm rfl)) rfl fun a S=>Ee S rfl rfl rfl rfl hb5 (Fb S (Iu (S.tm rfl) rfl) rfl fun a S=>Ee S rfl rfl rfl rfl hb5 ?_)))
        obtain ⟨hc5,h⟩:=Ie h
        obtain ⟨b11,hg3,hr7⟩:=Hq (a:=a) (x:=.tmp 92) (y:=.tmp 94) (ty:=0) Sb Dq.enc_ok S (i:=1) rfl (Dx hc5).1 (Dx hc5).2 (S.tm rfl) (S.tm rfl)
        refine Fb S (hr7 _) rfl ?_;clear S;intro a S
        clear hr7
        refine Ee S rfl rfl rfl rfl hb5 (Fb S (Fy Ze (S.tm rfl)) rfl fun a S=>Ee S rfl rfl rfl rfl hb5 (Fb S (Hm isAgg3 (off:=((W ((i3 : Int) - 1)).toNat) * 4) (o:=2) (S.tm rfl) (Tt Dq.enc_ok S (i:=1) rfl hg3 (Dx hc5).1) rfl) rfl fun a S=>Ee S rfl rfl rfl rfl hb5 (Fb S (La isAgg3 (S.tm rfl) (S.cell (i:=2) rfl rfl)) rfl fun a S=>Ee S rfl rfl rfl rfl hb5 ?_)))
        obtain ⟨hc6,h⟩:=Ie h
        exact Fb S (DL (S.tm rfl) (S.tm rfl) (Ud hc6)) rfl fun a S=>Ee S rfl rfl rfl rfl hb5 (Fb S (Im (S.tm rfl) (S.tm rfl)) rfl fun a S=>Gm S rfl (Hg hb5 (S.tm rfl) (S.tm rfl)) rfl fun a S=>Hv (⟨_,h,Keep.refl _ _,S.nf [true,true,true] rfl (subR rfl)⟩))
       ·replace h:=Qd h hb5
        iterate 16 (refine Nk S rfl rfl rfl rfl (Jh hb5) rfl ?_ rfl;clear S;intro a S)
        exact Gm S rfl (Hh true hb5 (S.tm rfl) rfl) rfl fun a S=>Hv (⟨_,h,Keep.refl _ _,S.nf [true,true,true] rfl (subR rfl)⟩)
      clear S h;rintro a w28 ⟨c1,h,hk19,S⟩;rw [hj7] at h;clear hj7 j7
      refine Hv ?_
      replace S:=S.k7 5 13 14 18 78 79 101 rfl
      refine Tn ?_
      obtain ⟨j8,hj8,h⟩:=Ep h
      refine Eg (fun a w'=>∃ x10 : List Dq,j8 x10 = some r ∧ Sx w [] nov [.own v3 127 4 x2.length (x2.flatMap Dq.enc),.own v12 127 4 x10.length (x10.flatMap Dq.enc),.blk b1 [iV Bx] 3] [(5,.pointer (some ⟨b1,0,none⟩)),(13,v12),(14,v3),(78,iV (r4.length : Int)),(79,iV (i3 : Int))] 122 a w') ?_ ?_
      ·refine Fc h (S.tm rfl) (fun hb6 h=>?_) (fun hb6 h=>?_)
       ·refine Fg ?_
        iterate 4 (refine Vm S rfl rfl ?_;clear S;intro a S)
        refine Vq S Iu rfl rfl rfl ?_;clear S;intro a S
        obtain ⟨hc7,h⟩:=Ie h
        obtain ⟨b12,hg4,hr8⟩:=Hq (a:=a) (x:=.tmp 104) (y:=.tmp 106) (ty:=0) Sb Dq.enc_ok S (i:=1) rfl (Dx hc7).1 (Dx hc7).2 (S.tm rfl) (S.tm rfl)
        refine lv S (hr8 _) rfl ?_;clear S;intro a S
        clear hr8
        refine Vf BL S rfl rfl fun a S=>lv S (Hm isAgg3 (off:=((W ((i3 : Int) - 1)).toNat) * 4) (o:=1) (S.tm rfl) (Tt Dq.enc_ok S (i:=1) rfl hg4 (Dx hc7).1) rfl) rfl ?_;clear S;intro a S
        obtain ⟨hc8,h⟩:=Ie h
        obtain ⟨b13,hg5,hr9⟩:=Hq (a:=a) (x:=.tmp 102) (y:=.tmp 103) (ty:=0) Sb Dq.enc_ok S (i:=1) rfl (Dx hc8).1 (Dx hc8).2 (S.tm rfl) (S.tm rfl)
        refine lv S (hr9 _) rfl ?_;clear S;intro a S
        clear hr9
        refine Vf BL S rfl rfl fun a S=>Qg (c:=1) (j:=(i3 : Int).toNat) (Dq.mk ((nth x8 (i3 : Int)).Who) ((nth x8 (W ((i3 : Int) - 1))).Rank) ((nth x8 (i3 : Int)).Time) ((nth x8 (i3 : Int)).Fault)) Dq.enc_ok S (S.tm rfl) (S.tm rfl) (i:=1) rfl hg5 (Dx hc8).1 sizeOf3 (vs:=[iV ((nth x8 (W ((i3 : Int) - 1))).Rank)]) rfl rfl rfl rfl rfl ?_;clear S;intro w31 hk21 S
        refine Ld ?_
        replace S:=(S.nl [.own v3 127 4 x2.length (x2.flatMap Dq.enc),.own v12 127 4 (x8.set ((i3 : Int).toNat) (Dq.mk ((nth x8 (i3 : Int)).Who) ((nth x8 (W ((i3 : Int) - 1))).Rank) ((nth x8 (i3 : Int)).Time) ((nth x8 (i3 : Int)).Fault))).length ((x8.set ((i3 : Int).toNat) (Dq.mk ((nth x8 (i3 : Int)).Who) ((nth x8 (W ((i3 : Int) - 1))).Rank) ((nth x8 (i3 : Int)).Time) ((nth x8 (i3 : Int)).Fault))).flatMap Dq.enc),.blk b1 [iV Bx] 3] [true,true,true] rfl).k5 5 13 14 78 79 rfl
        exact Tn (⟨(x8.set ((i3 : Int).toNat) (Dq.mk ((nth x8 (i3 : Int)).Who) ((nth x8 (W ((i3 : Int) - 1))).Rank) ((nth x8 (i3 : Int)).Time) ((nth x8 (i3 : Int)).Fault))),h,S.nf [true,true,true] rfl (subR rfl)⟩)
       ·refine Fg ?_
        iterate 3 (refine Vm S rfl rfl ?_;clear S;intro a S)
        refine Vq S Gc rfl rfl rfl ?_;clear S;intro a S
        obtain ⟨hc9,h⟩:=Ie h
        obtain ⟨b14,hg6,hr10⟩:=Hq (a:=a) (x:=.tmp 112) (y:=.tmp 113) (ty:=0) Sb Dq.enc_ok S (i:=1) rfl (Dx hc9).1 (Dx hc9).2 (S.tm rfl) (S.tm rfl)
        refine lv S (hr10 _) rfl ?_;clear S;intro a S
        clear hr10
        refine Vf BL S rfl rfl fun a S=>Qg (c:=1) (j:=(i3 : Int).toNat) (Dq.mk ((nth x8 (i3 : Int)).Who) (W ((i3 : Int) + 1)) ((nth x8 (i3 : Int)).Time) ((nth x8 (i3 : Int)).Fault)) Dq.enc_ok S (S.tm rfl) (S.tm rfl) (i:=1) rfl hg6 (Dx hc9).1 sizeOf3 (vs:=[iV (W ((i3 : Int) + 1))]) rfl rfl rfl rfl rfl ?_;clear S;intro w33 hk23 S
        exact Dl (⟨(x8.set ((i3 : Int).toNat) (Dq.mk ((nth x8 (i3 : Int)).Who) (W ((i3 : Int) + 1)) ((nth x8 (i3 : Int)).Time) ((nth x8 (i3 : Int)).Fault))),h,S.nf [true,true,true] rfl (subR rfl)⟩)
      clear S h;rintro a w29 ⟨x10,h,S⟩;rw [hj8] at h;clear hj8 j8
      exact Ho (Tn (⟨x10,h,S.nf [true,true,true] rfl (subR rfl)⟩))
     clear S h;rintro a w26 ⟨x9,h,S⟩;rw [hj6] at h;clear hj6 j6
     exact Tn (Fg (Vq S Gc rfl rfl rfl fun a S=>Vm S rfl rfl fun a S=>Dl (⟨ys3,⟨i3 + 1,x9,v12,⟨_,(hd3).trans (List.append_cons _ _ _),by simp [hi3]⟩,h,S.nf [true,true,true] rfl ⟨rfl,rfl,rfl,rfl,(congrArg (fun z=>some (Value.int .i64 z)) (Hu hd3 hi3 hm3)),trivial⟩⟩,Nat.lt_succ_self _⟩)))
   clear S h;rintro a w25 ⟨x8,v12,h,S⟩;rw [hj5] at h;clear hj5 j5
   refine Tn (Fr (Vm S rfl rfl fun a S=>Vm S rfl rfl ?_));clear S;intro a S
   obtain ⟨hc10,h⟩:=Ie h
   refine JZ (Y:=[]) Sb Dq.enc_ok S (S.tm rfl) (i:=1) rfl (S.tm rfl) (BB Dq.enc_ok S (i:=0) rfl (fun _ _ h=>by cases h)) rfl rfl (by have:=Nd hc10;omega) rfl ?_;clear S;intro v13 a w34 hk24 S
   refine Va S rfl rfl fun a S=>Vk S rfl rfl fun a S=>Dl (wp_ret ?_)
   obtain rfl:=Option.some.inj h
   exact Lg S results109 rfl rfl ⟨_,rfl,(Th S (i:=1) rfl rfl)⟩
theorem JP (w : World) (Ab : Value) (Ah : List Gq) (Af : Slc (view w []) 2 Ab (Ah.map Gq.enc)) (Cc : Value) (Cd : List Ii) (Cl : List Sq) (Cg : Slc (view w []) 3 Cc (Cl.map Sq.enc)) (Ch : Lh (Uu (view w [])) Cd Cl) (r : (List Dq) × Int) (h : Wi Ah Cd = some r) :
    Calls prog 87 [Ab,Cc].toArray w (Ret w [] fun τ v _=>∃ u1 : Value,v = .tuple #[u1,iV r.2] ∧ Tf τ 127 4 u1 r.1.length (r.1.flatMap Dq.enc)):=by
 refine Fe func87 rfl ntmps87 rfl fun a S=>?_
 unfold Wi at h
 replace S:=S.k2 0 1 rfl
 refine Fr (Vk S rfl rfl fun a S=>Vk S rfl rfl fun a S=>Dz (Vm S rfl rfl fun a S=>Vm S rfl rfl ?_));clear S;intro a S
 obtain ⟨r1,hr1,h⟩:=Fa h
 have hz1:=S.keep.size
 refine Dw S (fun _=>Dp (vs:=[Ab,Cc,iV 1]) ⟨(S.tm rfl),(S.tm rfl),rfl,trivial⟩ call109) (JO _ Ab Ah (Af.mono (S.le_arg Ec)) Cc Cd Cl (Cg.mono (S.le_arg Ec)) (IC (S.le_arg Ec) Ch) 1 _ hr1) rfl ?_;clear S;intro v1 a w1 hv1 hk1 hn1 S
 obtain ⟨u1,rfl,ho1⟩:=hv1
 obtain ⟨φ1,hl1,hm1,S⟩:=S.see' hn1 hz1
 have hs1:=ho1.mono hm1
 refine Vq S Gb rfl rfl rfl fun a S=>Vq S Gb rfl rfl rfl fun a S=>Va S rfl rfl fun a S=>Va S rfl rfl fun a S=>Dl (wp_ret ?_)
 obtain rfl:=Option.some.inj h
 exact Lg S results87 rfl rfl ⟨_,rfl,((hs1).mono S.le_newer)⟩
theorem HC (w : World) (O : Nat) (Ae : Iw) (Bi : R32) (Bu : Rk (view w []) Ae Bi) (Ak : Value) (Ai : List Dk) (Bb : Slc (view w []) 11 Ak (Ai.map Dk.enc)) (Ao : (view w []) O = some (.cells (R32.enc Bi ++ [Ak]).toArray 112 (0,0))) (Al : ByteArray) (r : (List Dq) × (List (ByteArray × ByteArray)) × Int) (h : Vr Ae Ai Al = some r) :
    Calls prog 50 [.pointer (some ⟨O,0,none⟩),sV Al].toArray w (Ret w [] fun τ v _=>∃ u1 : Value,∃ u2 : Value,v = .tuple #[u1,u2,iV r.2.2] ∧ Tf τ 127 4 u1 r.1.length (r.1.flatMap Dq.enc) ∧ (∃ b : Nat,u2 = .map (some b) ∧ τ b = some (.map (Gt Value.string Value.string r.2.1) r.2.1.length))):=by
 obtain ⟨u1,u2,rfl,hs1,⟨u3,rfl,hs2⟩⟩:=Bu
 replace Ao : (view w []) O = some (.cells [u1.val,u3.val,iV Ae.Table.Relay,iV Ae.Table.Most,iV Ae.Final.Size,iV Ae.Final.Many,iV Ae.Final.Reserves,Ak].toArray 112 (0,0)):=Ao
 refine Fe func50 rfl ntmps50 rfl fun a S=>?_
 unfold Vr at h
 replace S:=S.k2 0 1 rfl
 refine Fs (Fg ?_)
 iterate 3 (refine Vk S rfl rfl ?_;clear S;intro a S)
 refine Dz (Vm S rfl rfl fun a S=>Vm S rfl rfl ?_);clear S;intro a S
 have hz1:=S.keep.size
 refine Dw S (fun _=>Dp (vs:=[.pointer (some ⟨O,0,none⟩),sV Al]) ⟨(S.tm rfl),(S.tm rfl),trivial⟩ call47) (DJ _ O Ae (R32.mk u1 (R28.mk u3 Ae.Table.Relay Ae.Table.Most) Ae.Final) ⟨u1,(R28.mk u3 Ae.Table.Relay Ae.Table.Most),rfl,(hs1.mono (S.le_arg Ec)),⟨u3,rfl,(hs2.mono (S.le_arg Ec))⟩⟩ Ak Ai (Bb.mono (S.le_arg Ec)) ((S.le_arg Ec) _ _ Ao) Al _ rfl) rfl ?_;clear S;intro v1 a w1 hv1 hk1 hn1 S
 obtain ⟨φ1,hl1,hm1,S⟩:=S.see' hn1 hz1
 obtain ⟨b1,rfl,hq1⟩:=hv1
 replace hq1:=hm1 _ _ hq1
 refine Va S rfl rfl fun a S=>Dz (Rx (κ:=ByteArray) (ν:=ByteArray) S rfl Value.string Value.string ?_);clear S;intro a w2 b2 hz2 hk2 S
 refine Va S rfl rfl fun a S=>Dz (Vk S rfl rfl ?_);clear S;intro a S
 replace S:=S.nil 56 2
 refine Dz (Vk S rfl rfl ?_);clear S;intro a S
 replace S:=S.nil 166 3
 refine Dl (Fs (Fr (Vm S rfl rfl fun a S=>Vm S rfl rfl ?_)));clear S;intro a S
 obtain ⟨r1,hr1,h⟩:=Fa h
 have hz3:=S.keep.size
 refine Dw S (fun _=>Dp (vs:=[.pointer (some ⟨O,0,none⟩),sV Al]) ⟨(S.tm rfl),(S.tm rfl),trivial⟩ call48) (Tz _ O Ae (R32.mk u1 (R28.mk u3 Ae.Table.Relay Ae.Table.Most) Ae.Final) ⟨u1,(R28.mk u3 Ae.Table.Relay Ae.Table.Most),rfl,(hs1.mono (S.le_arg Ec)),⟨u3,rfl,(hs2.mono (S.le_arg Ec))⟩⟩ Ak Ai (Bb.mono (S.le_arg Ec)) ((S.le_arg Ec) _ _ Ao) Al _ hr1) rfl ?_;clear S;intro v2 a w3 hv2 hk3 hn2 S
 obtain ⟨φ2,hl2,hm2,S⟩:=S.see' hn2 hz3
 have hs3:=hv2.mono hm2
 refine lv S (Fq Nj (S.tm rfl) (Fj (Ga Dk.enc_ok hs3))) rfl fun a S=>lv S (Rm rfl) rfl fun a S=>Ld ?_
 replace S:=(S.nl [.own (.slice none 0 0) 166 3 ([] : List Sq).length (([] : List Sq).flatMap Sq.enc),.own (.slice none 0 0) 56 2 ([] : List Gq).length (([] : List Gq).flatMap Gq.enc),.map b2 (Gt Value.string Value.string ([] : List (ByteArray × ByteArray))) ([] : List (ByteArray × ByteArray)).length] [true,true,true] rfl).k7 7 8 9 10 23 24 25 rfl
 refine Tn ?_
 obtain ⟨j1,hj1,h⟩:=Ep h
 refine Eg (fun a w'=>∃ x1 : List Ii,∃ x2 : List Gq,∃ x3 : List (ByteArray × ByteArray),∃ v3 : Value,∃ rs1 : List Sq,∃ v4 : Value,j1 x1 x2 x3 = some r ∧ Lh (Uu φ2) x1 rs1 ∧ Sx w [] φ2 [.own v3 166 3 rs1.length (rs1.flatMap Sq.enc),.own v4 56 2 x2.length (x2.flatMap Gq.enc),.map b2 (Gt Value.string Value.string x3) x3.length] [(8,.map (some b2)),(9,v4),(10,v3)] 72 a w') ?_ ?_
 ·refine wp_block (Gx (fun (ys1 : List Dk) a w'=>∃ i1 : Nat,∃ x1 : List Ii,∃ x2 : List Gq,∃ x3 : List (ByteArray × ByteArray),∃ v3 : Value,∃ rs1 : List Sq,∃ v4 : Value,(∃ dn,r1 = dn ++ ys1 ∧ dn.length = i1) ∧ Md Ae Ai Al j1 ys1 i1 x1 x2 x3 = some r ∧ Lh (Uu φ2) x1 rs1 ∧ Sx w [] φ2 [.own v3 166 3 rs1.length (rs1.flatMap Sq.enc),.own v4 56 2 x2.length (x2.flatMap Gq.enc),.map b2 (Gt Value.string Value.string x3) x3.length] [(7,.map (some b1)),(8,.map (some b2)),(9,v4),(10,v3),(23,v2),(24,iV (r1.length : Int)),(25,iV (i1 : Int))] 72 a w') List.length r1 ⟨0,([] : List Ii),([] : List Gq),([] : List (ByteArray × ByteArray)),(.slice none 0 0),([] : List Sq),(.slice none 0 0),⟨[],rfl,rfl⟩,h,.nil,S.nf [true,true,true] rfl (subR rfl)⟩ ?_)
  clear S h;rintro ys1 a w4 ⟨i1,x1,x2,x3,v3,rs1,v4,⟨dn,hd1,hi1⟩,h,hr2,S⟩
  cases ys1 with
  | nil =>
   rw [Md.eq_1] at h
   refine Fr (Vb S Et rfl rfl rfl fun a S=>Ld ?_)
   replace S:=S.k8 7 8 9 10 23 24 25 26 rfl
   exact Tn (Fs (wp_cond_false ((S.tm rfl).trans (congrArg Value.bool (Il hd1 hi1))) (wp_exit (Ed (Ed (Gp (Tn (⟨x1,x2,x3,v3,rs1,v4,h,hr2,S.nf [true,true,true] rfl (subR rfl)⟩))))))))
  | cons y1 ys1 =>
   rw [Md.eq_2] at h
   refine Fr (Vb S Et rfl rfl rfl fun a S=>Ld ?_)
   replace S:=S.k8 7 8 9 10 23 24 25 26 rfl
   refine Tn (Fs (wp_cond_true ((S.tm rfl).trans (congrArg Value.bool (Ht hd1 hi1))) (wp_skip (Tn (Fs ?_)))))
   obtain ⟨j2,hj2,h⟩:=Ep h
   refine Eg (fun a w'=>∃ x4 : List Ii,∃ x5 : List Gq,∃ x6 : List (ByteArray × ByteArray),∃ v5 : Value,∃ rs2 : List Sq,∃ v6 : Value,j2 x4 x5 x6 = some r ∧ Lh (Uu φ2) x4 rs2 ∧ Sx w [] φ2 [.own v5 166 3 rs2.length (rs2.flatMap Sq.enc),.own v6 56 2 x5.length (x5.flatMap Gq.enc),.map b2 (Gt Value.string Value.string x6) x6.length] [(7,.map (some b1)),(8,.map (some b2)),(9,v6),(10,v5),(23,v2),(24,iV (r1.length : Int)),(25,iV (i1 : Int))] 72 a w') ?_ ?_
   ·refine wp_block (Fs (Fg ?_))
    obtain ⟨b3,o1,hm3,hr4⟩:=Ev (a:=a) (x:=.tmp 23) (y:=.tmp 25) (ty:=0) Nj (Ga Dk.enc_ok hs3) (Io hd1 hi1) rfl (S.tm rfl) (S.tm rfl)
    refine lv S (hr4 _) rfl ?_;clear S;intro a S
    clear hr4
    refine lv S (Fp isAgg101 sizeOf101 (off:=o1) (o:=0) (part:=(Dk.enc y1)) rfl rfl (S.tm rfl) (hm3.at S.emb)) rfl fun a S=>Hs S zeroValue101 (cs:=[sV An,iV 0,iV 0,iV 0,sV An,sV An,sV An,iV 0,iV 0,sV An,iV 0]) rfl rfl ?_;clear S;intro a w7 b4 hz4 hk4 S
    refine Ex S (S.tm rfl) (S.tm rfl) (i:=0) (off:=0) rfl sizeOf101 (vs:=(Dk.enc y1)) rfl rfl rfl rfl ?_;clear S;intro w8 hk5 S
    refine Dz (Vm S rfl rfl fun a S=>Vf Mq S rfl rfl fun a S=>Vl isAgg9 0 S rfl rfl rfl rfl fun a S=>lv S (DM (kv:=Value.string) (vv:=(fun x=>Value.agg (Dk.enc x).toArray)) (m:=(Hk Ae Ai Al)) (key:=y1.Who) (z:=(Dk.mk An 0 0 0 An An An 0 0 An 0)) (S.emb _ _ (hl2 _ _ hq1)) underlying113 (Mx underlying9) zeroValue101 (S.tm rfl) (S.tm rfl)) rfl fun a S=>Vm S rfl rfl fun a S=>Vq S Gb rfl rfl rfl fun a S=>Vq S Gb rfl rfl rfl ?_);clear S;intro a S
    refine Hs S zeroValue101 (cs:=[sV An,iV 0,iV 0,iV 0,sV An,sV An,sV An,iV 0,iV 0,sV An,iV 0]) rfl rfl ?_;clear S;intro a w9 b5 hz5 hk6 S
    refine Ex S (S.tm rfl) (S.tm rfl) (i:=0) (off:=0) rfl sizeOf101 (vs:=(Dk.enc (Ea (Hk Ae Ai Al) y1.Who (Dk.mk An 0 0 0 An An An 0 0 An 0)))) rfl rfl rfl rfl ?_;clear S;intro w10 hk7 S
    refine Va S rfl rfl fun a S=>Ld ?_
    replace S:=(S.nl [.blk b5 (Dk.enc (Ea (Hk Ae Ai Al) y1.Who (Dk.mk An 0 0 0 An An An 0 0 An 0))) 101,.blk b4 (Dk.enc y1) 101,.own v3 166 3 rs1.length (rs1.flatMap Sq.enc),.own v4 56 2 x2.length (x2.flatMap Gq.enc),.map b2 (Gt Value.string Value.string x3) x3.length] [true,true,true,true,true] rfl).k10 7 8 9 10 12 13 14 23 24 25 rfl
    refine Tn (Fs (Fr (Vm S rfl rfl fun a S=>Vu S Hj rfl rfl fun a S=>Dl (Fc h (S.tm rfl) (fun hb1 h=>?_) (fun hb1 h=>?_)))))
    ·exact wp_exit (Ed (Gp (Tn (⟨x1,x2,x3,v3,rs1,v4,h,hr2,S.nf [false,false,true,true,true] rfl (subR rfl)⟩))))
    ·refine wp_skip (Tn (Fr (Vm S rfl rfl fun a S=>Vf Mq S rfl rfl fun a S=>Vl isAgg9 1 S rfl rfl rfl rfl fun a S=>Vf Tp S rfl rfl fun a S=>Vl isAgg9 1 S rfl rfl rfl rfl fun a S=>Pc (kv:=Value.string) (vv:=Value.string) (m:=x3) (key:=y1.Who) (val:=y1.Club) S (i:=4) rfl underlying122 (Mx underlying9) (S.tm rfl) (S.tm rfl) (S.tm rfl) ?_)));clear S;intro w11 hk8 S
     refine Ld ?_
     replace S:=(S.nl [.blk b5 (Dk.enc (Ea (Hk Ae Ai Al) y1.Who (Dk.mk An 0 0 0 An An An 0 0 An 0))) 101,.blk b4 (Dk.enc y1) 101,.own v3 166 3 rs1.length (rs1.flatMap Sq.enc),.own v4 56 2 x2.length (x2.flatMap Gq.enc),.map b2 (Gt Value.string Value.string (Gl x3 y1.Who y1.Club)) (Gl x3 y1.Who y1.Club).length] [true,true,true,true,true] rfl).k9 7 8 9 10 12 13 23 24 25 rfl
     refine Tn (Fr (Vm S rfl rfl fun a S=>Vf Mq S rfl rfl fun a S=>Vl isAgg9 1 S rfl rfl rfl rfl fun a S=>Vf Sd S rfl rfl fun a S=>Vl isAgg3 0 S rfl rfl rfl rfl fun a S=>lv S (Mr bt_56 (pv:=[(0,sV y1.Who),(1,iV ((Ea (Hk Ae Ai Al) y1.Who (Dk.mk An 0 0 0 An An An 0 0 An 0)).Time))]) ⟨rfl,(S.tm rfl),rfl,(S.tm rfl),trivial⟩ (cs:=[sV y1.Who,iV ((Ea (Hk Ae Ai Al) y1.Who (Dk.mk An 0 0 0 An An An 0 0 An 0)).Time)]) (by kernel_rfl)) rfl fun a S=>Er S underlying43 sizeOf56 zeroValue56 rfl rfl (pv:=[(0,.agg #[sV y1.Who,iV ((Ea (Hk Ae Ai Al) y1.Who (Dk.mk An 0 0 0 An An An 0 0 An 0)).Time)])]) ⟨rfl,(S.tm rfl),trivial⟩ (cs:=[sV y1.Who,iV ((Ea (Hk Ae Ai Al) y1.Who (Dk.mk An 0 0 0 An An An 0 0 An 0)).Time)]) (by kernel_rfl) rfl ?_));clear S;intro a w12 b6 hz6 hk9 S
     obtain ⟨hc1,h⟩:=Ie h
     refine Ms DE Gq.enc_ok S (S.tm rfl) (i:=4) rfl (S.tm rfl) (j:=0) rfl (ys:=[(Gq.mk y1.Who ((Ea (Hk Ae Ai Al) y1.Who (Dk.mk An 0 0 0 An An An 0 0 An 0)).Time))]) rfl rfl rfl rfl (by have:=Nd hc1;omega) rfl ?_;clear S;intro v7 a w13 hk10 S
     refine Va S rfl rfl fun a S=>Ld ?_
     replace S:=(S.nl [.blk b5 (Dk.enc (Ea (Hk Ae Ai Al) y1.Who (Dk.mk An 0 0 0 An An An 0 0 An 0))) 101,.blk b4 (Dk.enc y1) 101,.own v3 166 3 rs1.length (rs1.flatMap Sq.enc),.own v7 56 2 (x2 ++ [(Gq.mk y1.Who ((Ea (Hk Ae Ai Al) y1.Who (Dk.mk An 0 0 0 An An An 0 0 An 0)).Time))]).length ((x2 ++ [(Gq.mk y1.Who ((Ea (Hk Ae Ai Al) y1.Who (Dk.mk An 0 0 0 An An An 0 0 An 0)).Time))]).flatMap Gq.enc),.map b2 (Gt Value.string Value.string (Gl x3 y1.Who y1.Club)) (Gl x3 y1.Who y1.Club).length] [false,true,true,true,true,true] rfl).k9 7 8 9 10 12 13 23 24 25 rfl
     refine Tn (Fr (Vf Uo S rfl rfl fun a S=>Vl isAgg3 0 S rfl rfl rfl rfl fun a S=>Vq S It rfl rfl rfl fun a S=>Dl ?_))
     obtain ⟨j3,hj3,h⟩:=Ep h
     refine Eg (fun a w'=>∃ x7 : List Ii,∃ v8 : Value,∃ rs3 : List Sq,j3 x7 = some r ∧ Lh (Uu φ2) x7 rs3 ∧ Sx w [] φ2 [.own v8 166 3 rs3.length (rs3.flatMap Sq.enc),.own v7 56 2 (x2 ++ [(Gq.mk y1.Who ((Ea (Hk Ae Ai Al) y1.Who (Dk.mk An 0 0 0 An An An 0 0 An 0)).Time))]).length ((x2 ++ [(Gq.mk y1.Who ((Ea (Hk Ae Ai Al) y1.Who (Dk.mk An 0 0 0 An An An 0 0 An 0)).Time))]).flatMap Gq.enc),.map b2 (Gt Value.string Value.string (Gl x3 y1.Who y1.Club)) (Gl x3 y1.Who y1.Club).length] [(7,.map (some b1)),(8,.map (some b2)),(9,v7),(10,v8),(23,v2),(24,iV (r1.length : Int)),(25,iV (i1 : Int))] 72 a w') ?_ ?_
     ·refine Fc h (S.tm rfl) (fun hb2 h=>?_) (fun hb2 h=>?_)
      ·refine Fg (Vm S rfl rfl fun a S=>Vf Mq S rfl rfl fun a S=>Vl isAgg9 1 S rfl rfl rfl rfl fun a S=>Vf Uo S rfl rfl fun a S=>Vl isAgg3 0 S rfl rfl rfl rfl fun a S=>lv S (Mr bt_166 (pv:=[(0,sV y1.Who),(1,iV ((Ea (Hk Ae Ai Al) y1.Who (Dk.mk An 0 0 0 An An An 0 0 An 0)).Fault))]) ⟨rfl,(S.tm rfl),rfl,(S.tm rfl),trivial⟩ (cs:=[sV y1.Who,iV ((Ea (Hk Ae Ai Al) y1.Who (Dk.mk An 0 0 0 An An An 0 0 An 0)).Fault),.slice none 0 0]) (by kernel_rfl)) rfl fun a S=>Er S underlying164 sizeOf166 zeroValue166 rfl rfl (pv:=[(0,.agg #[sV y1.Who,iV ((Ea (Hk Ae Ai Al) y1.Who (Dk.mk An 0 0 0 An An An 0 0 An 0)).Fault),.slice none 0 0])]) ⟨rfl,(S.tm rfl),trivial⟩ (cs:=[sV y1.Who,iV ((Ea (Hk Ae Ai Al) y1.Who (Dk.mk An 0 0 0 An An An 0 0 An 0)).Fault),.slice none 0 0]) (by kernel_rfl) rfl ?_);clear S;intro a w15 b7 hz7 hk11 S
       obtain ⟨hc2,h⟩:=Ie h
       have hr6 : Lh (Uu φ2) (x1 ++ [(Ii.mk y1.Who ((Ea (Hk Ae Ai Al) y1.Who (Dk.mk An 0 0 0 An An An 0 0 An 0)).Fault) ([] : List ByteArray))]) (rs1 ++ [(Sq.mk y1.Who ((Ea (Hk Ae Ai Al) y1.Who (Dk.mk An 0 0 0 An An An 0 0 An 0)).Fault) ⟨.slice none 0 0,rfl⟩)]):=Lh.app hr2 (Lh.cons ⟨⟨.slice none 0 0,rfl⟩,rfl,(HK _ _)⟩ Lh.nil)
       refine Ms DQ Sq.enc_ok S (S.tm rfl) (i:=3) rfl (S.tm rfl) (j:=0) rfl (ys:=[(Sq.mk y1.Who ((Ea (Hk Ae Ai Al) y1.Who (Dk.mk An 0 0 0 An An An 0 0 An 0)).Fault) ⟨.slice none 0 0,rfl⟩)]) rfl rfl rfl rfl (by have:=Nd hc2;have:=Lh.len hr2;simp at this ⊢;omega) rfl ?_;clear S;intro v9 a w16 hk12 S
       refine Va S rfl rfl fun a S=>Ld ?_
       replace S:=(S.nl [.own v9 166 3 (rs1 ++ [(Sq.mk y1.Who ((Ea (Hk Ae Ai Al) y1.Who (Dk.mk An 0 0 0 An An An 0 0 An 0)).Fault) ⟨.slice none 0 0,rfl⟩)]).length ((rs1 ++ [(Sq.mk y1.Who ((Ea (Hk Ae Ai Al) y1.Who (Dk.mk An 0 0 0 An An An 0 0 An 0)).Fault) ⟨.slice none 0 0,rfl⟩)]).flatMap Sq.enc),.own v7 56 2 (x2 ++ [(Gq.mk y1.Who ((Ea (Hk Ae Ai Al) y1.Who (Dk.mk An 0 0 0 An An An 0 0 An 0)).Time))]).length ((x2 ++ [(Gq.mk y1.Who ((Ea (Hk Ae Ai Al) y1.Who (Dk.mk An 0 0 0 An An An 0 0 An 0)).Time))]).flatMap Gq.enc),.map b2 (Gt Value.string Value.string (Gl x3 y1.Who y1.Club)) (Gl x3 y1.Who y1.Club).length] [false,false,false,true,true,true] rfl).k7 7 8 9 10 23 24 25 rfl
       exact Tn (⟨(x1 ++ [(Ii.mk y1.Who ((Ea (Hk Ae Ai Al) y1.Who (Dk.mk An 0 0 0 An An An 0 0 An 0)).Fault) ([] : List ByteArray))]),v9,(rs1 ++ [(Sq.mk y1.Who ((Ea (Hk Ae Ai Al) y1.Who (Dk.mk An 0 0 0 An An An 0 0 An 0)).Fault) ⟨.slice none 0 0,rfl⟩)]),h,hr6,S.nf [true,true,true] rfl (subR rfl)⟩)
      ·exact wp_skip (Tn (⟨x1,v3,rs1,h,hr2,S.nf [false,false,true,true,true] rfl (subR rfl)⟩))
     clear S h;rintro a w14 ⟨x7,v8,rs3,h,hr5,S⟩;rw [hj3] at h;clear hj3 j3
     exact Ho (Tn (⟨x7,(x2 ++ [(Gq.mk y1.Who ((Ea (Hk Ae Ai Al) y1.Who (Dk.mk An 0 0 0 An An An 0 0 An 0)).Time))]),(Gl x3 y1.Who y1.Club),v8,rs3,v7,h,hr5,S.nf [true,true,true] rfl (subR rfl)⟩))
   clear S h;rintro a w6 ⟨x4,x5,x6,v5,rs2,v6,h,hr3,S⟩;rw [hj2] at h;clear hj2 j2
   exact Tn (Fg (Vq S Gc rfl rfl rfl fun a S=>Vm S rfl rfl fun a S=>Dl (⟨ys1,⟨i1 + 1,x4,x5,x6,v5,rs2,v6,⟨_,(hd1).trans (List.append_cons _ _ _),by simp [hi1]⟩,h,hr3,S.nf [true,true,true] rfl ⟨rfl,rfl,rfl,rfl,rfl,rfl,(congrArg (fun z=>some (Value.int .i64 z)) (Hu hd1 hi1 (Iz (Ga Dk.enc_ok hs3)))),trivial⟩⟩,Nat.lt_succ_self _⟩)))
 clear S h;rintro a w5 ⟨x1,x2,x3,v3,rs1,v4,h,hr2,S⟩;rw [hj1] at h;clear hj1 j1
 refine Tn (Fr (Vm S rfl rfl fun a S=>Vm S rfl rfl ?_));clear S;intro a S
 obtain ⟨r2,hr7,h⟩:=Fa h
 have hz8:=S.keep.size
 refine Dw S (fun _=>Dp (vs:=[v4,v3]) ⟨(S.tm rfl),(S.tm rfl),trivial⟩ call87) (JP _ v4 x2 (BB Gq.enc_ok S (i:=1) rfl (Ia (e':=.own v4 56 2 x2.length (x2.flatMap Gq.enc)))) v3 x1 rs1 (BB Sq.enc_ok S (i:=0) rfl (Ia (e':=.own v3 166 3 rs1.length (rs1.flatMap Sq.enc)))) (IC (S.le_new Ec) hr2) _ hr7) rfl ?_;clear S;intro v10 a w17 hv3 hk13 hn3 S
 obtain ⟨u6,rfl,ho3⟩:=hv3
 obtain ⟨φ3,hl3,hm4,S⟩:=S.see' hn3 hz8
 have hs4:=ho3.mono hm4
 refine Vm S rfl rfl fun a S=>Vq S Gb rfl rfl rfl fun a S=>Vq S Gb rfl rfl rfl fun a S=>Va S rfl rfl fun a S=>Va S rfl rfl fun a S=>Dl (Fs (Fg ?_))
 iterate 3 (refine Vm S rfl rfl ?_;clear S;intro a S)
 iterate 3 (refine Va S rfl rfl ?_;clear S;intro a S)
 refine Ld ?_
 replace S:=S.d1.d0.k3 4 5 6 rfl
 refine Tn (wp_ret ?_)
 obtain rfl:=Option.some.inj h
 exact f_ret3 S results50 rfl rfl rfl ⟨_,_,rfl,((hs4).mono S.le_newer),⟨_,rfl,S.map_ret (i:=0) rfl rfl⟩⟩
theorem CX (w : World) (Ap : Dm) (Au : Dm) (r : Int) (h : Nc Ap Au = r) :
    Calls prog 52 [.agg (Dm.enc Ap).toArray,.agg (Dm.enc Au).toArray].toArray w (Ret w [] fun _ v _=>v = iV r):=by
 refine Fe func52 rfl ntmps52 rfl fun a S=>?_
 unfold Nc at h
 replace S:=S.k2 0 1 rfl
 refine Fr (Mn S (S.tm rfl) (cs:=(Dm.enc Ap)) rfl rfl ?_);clear S;intro a w1 b1 hz1 hk1 S
 refine Mn S (S.tm rfl) (cs:=(Dm.enc Au)) rfl rfl ?_;clear S;intro a w2 b2 hz2 hk2 S
 refine Vk S rfl rfl fun a S=>Dl (Fs (Fr (Vf Np S rfl rfl fun a S=>Vl isAgg3 1 S rfl rfl rfl rfl fun a S=>Vq S Im rfl rfl rfl fun a S=>Vf Np S rfl rfl fun a S=>Vl isAgg3 0 S rfl rfl rfl rfl ?_)));clear S;intro a S
 refine Vq S Im rfl rfl rfl fun a S=>lv S (HJ underlying4 (S.tm rfl) (S.tm rfl)) rfl fun a S=>Dl (Fc h (S.tm rfl) (fun hb1 h=>?_) (fun hb1 h=>?_))
 ·refine Fr (Vf Np S rfl rfl fun a S=>Vl isAgg3 0 S rfl rfl rfl rfl fun a S=>Vf Np S rfl rfl fun a S=>Vl isAgg3 1 S rfl rfl rfl rfl fun a S=>Vb S Iu rfl rfl rfl fun a S=>Va S rfl rfl fun a S=>Ld ?_)
  replace S:=S.n0.k1 4 rfl
  refine Tn (wp_ret (Dt ?_))
  subst h
  exact Ej S results52 rfl rfl
 ·refine wp_skip (Tn (Fs (Fr (Vf Np S rfl rfl fun a S=>Vl isAgg3 1 S rfl rfl rfl rfl fun a S=>Vf Np S rfl rfl fun a S=>Vl isAgg3 0 S rfl rfl rfl rfl fun a S=>Vb S Kw rfl rfl rfl fun a S=>Ld ?_))))
  replace S:=(S.nl [.blk b2 (Dm.enc Au) 129,.blk b1 (Dm.enc Ap) 129] [true,true] rfl).k3 2 3 21 rfl
  refine Tn (Fc h (S.tm rfl) (fun hb2 h=>?_) (fun hb2 h=>?_))
  ·refine Fr (Vf Np S rfl rfl fun a S=>Vl isAgg3 1 S rfl rfl rfl rfl fun a S=>Vf Np S rfl rfl fun a S=>Vl isAgg3 0 S rfl rfl rfl rfl fun a S=>Vb S Iu rfl rfl rfl fun a S=>Va S rfl rfl fun a S=>Dl (wp_ret ?_))
   refine Dt ?_
   subst h
   exact Ej S results52 rfl rfl
  ·refine wp_skip (Tn (Fr (Vf Xc S rfl rfl fun a S=>Vl isAgg9 1 S rfl rfl rfl rfl fun a S=>Vf Xc S rfl rfl fun a S=>Vl isAgg9 0 S rfl rfl rfl rfl fun a S=>Dw S (fun _=>Dp (vs:=[sV Ap.Who,sV Au.Who]) ⟨(S.tm rfl),(S.tm rfl),trivial⟩ call53) (Ot _ Ap.Who Au.Who _ rfl) rfl ?_)));clear S;intro v1 a w3 hv1 hk3 hn1 S
   subst hv1
   refine Va S rfl rfl fun a S=>Dl (wp_ret ?_)
   subst h
   exact Ej S results52 rfl rfl
set_option maxRecDepth 20000 in
theorem Mh (w : World) (Aa : Value) (Av : List Dm) (Bn : (LEnt.own Aa 129 5 Av.length (Av.flatMap Dm.enc)).holds w) (Ap : Int) (Au : Int) (r : (List Dm)) (h : Hb Av Ap Au = some r) :
    Calls prog 110 [Aa,iV Ap,iV Au,.func (.func 52) #[] #[]].toArray w (Ret w (Aa.ownBlock.toList) fun _ v w'=>(LEnt.own Aa 129 5 r.length (r.flatMap Dm.enc)).holds w' ∧ v = .tuple #[]):=by
 refine Mv (Aa.ownBlock.toList) [.own Aa 129 5 Av.length (Av.flatMap Dm.enc)] func110 rfl ntmps110 rfl (fun e he=>by simp only [List.mem_singleton] at he;subst he;exact Bn) (Lt _) (Nf _) fun a S=>?_
 unfold Hb at h
 replace S:=(S.nl [.own Aa 129 5 Av.length (Av.flatMap Dm.enc)] [true] rfl).k4 0 1 2 3 rfl
 refine Fr (Vm S rfl rfl fun a S=>Vq S Gc rfl rfl rfl fun a S=>Va S rfl rfl fun a S=>Dl ?_)
 replace S:=S.k5 0 1 2 3 8 rfl
 obtain ⟨j1,hj1,h⟩:=Ep h
 refine Eg (fun a w'=>∃ x1 : List Dm,j1 x1 = some r ∧ Sx w (Aa.ownBlock.toList) nov [.own Aa 129 5 x1.length (x1.flatMap Dm.enc)] [] 53 a w') ?_ ?_
 ·refine wp_block (Gx (fun (m1 : Nat) a w'=>∃ x1 : List Dm,∃ x2 : Int,Ez Au Ap j1 m1 x1 x2 = some r ∧ Sx w (Aa.ownBlock.toList) nov [.own Aa 129 5 x1.length (x1.flatMap Dm.enc)] [(0,Aa),(1,iV Ap),(2,iV Au),(3,.func (.func 52) #[] #[]),(8,iV x2)] 53 a w') id ((Au - (W (Ap + 1))).toNat + 2) ⟨Av,W (Ap + 1),h,S.nf [true] rfl (subR rfl)⟩ ?_)
  clear S h;rintro m1 a w1 ⟨x1,x2,h,S⟩
  cases m1 with
  | zero=>rw [Ez.eq_1] at h;cases h
  | succ m1 =>
   rw [Ez.eq_2] at h
   refine Fs (Fr (Vm S rfl rfl fun a S=>Vm S rfl rfl fun a S=>Vb S Et rfl rfl rfl fun a S=>Dl (Fc h (S.tm rfl) (fun hb1 h=>?_) (fun hb1 h=>?_))))
   ·refine wp_skip (Tn (Fs (wp_block (Fr (Vm S rfl rfl fun a S=>Va S rfl rfl fun a S=>Dl ?_)))))
    replace S:=S.k6 0 1 2 3 8 9 rfl
    obtain ⟨j2,hj2,h⟩:=Ep h
    refine Eg (fun a w'=>∃ x3 : List Dm,j2 x3 = some r ∧ Sx w (Aa.ownBlock.toList) nov [.own Aa 129 5 x3.length (x3.flatMap Dm.enc)] [(0,Aa),(1,iV Ap),(2,iV Au),(3,.func (.func 52) #[] #[]),(8,iV x2)] 53 a w') ?_ ?_
    ·refine wp_block (Gx (fun (m2 : Nat) a w'=>∃ x3 : List Dm,∃ x4 : Int,Ei Ap j2 m2 x3 x4 = some r ∧ Sx w (Aa.ownBlock.toList) nov [.own Aa 129 5 x3.length (x3.flatMap Dm.enc)] [(0,Aa),(1,iV Ap),(2,iV Au),(3,.func (.func 52) #[] #[]),(8,iV x2),(9,iV x4)] 53 a w') id ((x2 - Ap).toNat + 2) ⟨x1,x2,h,S.nf [true] rfl (subR rfl)⟩ ?_)
     clear S h;rintro m2 a w3 ⟨x3,x4,h,S⟩
     cases m2 with
     | zero=>rw [Ei.eq_1] at h;cases h
     | succ m2 =>
      rw [Ei.eq_2] at h
      refine Fs (Fs ?_)
      obtain ⟨j3,hj3,h⟩:=Ep h
      refine Eg (fun a w'=>∃ x5 : Bool,j3 x5 = some r ∧ Sx w (Aa.ownBlock.toList) nov [.own Aa 129 5 x3.length (x3.flatMap Dm.enc)] [(0,Aa),(1,iV Ap),(2,iV Au),(3,.func (.func 52) #[] #[]),(8,iV x2),(9,iV x4),(34,bV x5)] 53 a w') ?_ ?_
      ·rcases Bool.eq_false_or_eq_true (decide (Ap < x4)) with hb2 | hb2
       ·replace h:=Qc h hb2
        obtain ⟨hc1,h⟩:=Ie h
        obtain ⟨hc2,h⟩:=Ie h
        refine Hd [] ([]) Tryz.mixed S rfl (by kernel_rfl) ?_;clear S;intro w7 hk2 hsel S
        refine Eb 0 S hsel rfl rfl rfl (by kernel_rfl) (by kernel_rfl) rfl (fun _ hw=>(Rm (S.tm rfl))) fun a S=>Eb 1 S hsel rfl rfl rfl (by kernel_rfl) (by kernel_rfl) rfl (fun _ hw=>(Rm (S.tm rfl))) fun a S=>Eb 2 S hsel rfl rfl rfl (by kernel_rfl) (by kernel_rfl) rfl (fun _ hw=>(It (S.tm rfl) (S.tm rfl))) fun a S=>Eb 3 S hsel rfl rfl rfl (by kernel_rfl) (by kernel_rfl) rfl (fun _ hw=>(Rm (S.tm rfl))) fun a S=>Eu 4 S hsel rfl rfl rfl rfl hb2 rfl rfl (by kernel_rfl) (by kernel_rfl) rfl (fun _ hw=>(Rm (S.tm rfl))) fun a S=>Eu 5 S hsel rfl rfl rfl rfl hb2 rfl rfl (by kernel_rfl) (by kernel_rfl) rfl (fun _ hw=>(Rm (S.tm rfl))) fun a S=>Eu 6 S hsel rfl rfl rfl rfl hb2 rfl rfl (by kernel_rfl) (by kernel_rfl) rfl (fun _ hw=>(Rm (S.tm rfl))) ?_;clear S;intro a S
        obtain ⟨b3,hg3,hr3⟩:=Hq (a:=a) (x:=.tmp 23) (y:=.tmp 24) (ty:=0) Nn Dm.enc_ok S (i:=0) rfl (Dx hc1).1 (Dx hc1).2 (S.tm rfl) (S.tm rfl)
        refine Eu 7 S hsel rfl rfl rfl rfl hb2 rfl rfl (by kernel_rfl) (by kernel_rfl) rfl (fun _ hw=>(hr3 _)) ?_;clear S;intro a S
        clear hr3
        refine Eu 8 S hsel rfl rfl rfl rfl hb2 rfl rfl (by kernel_rfl) (by kernel_rfl) rfl (fun _ hw=>(Fp isAgg129 sizeOf129 (off:=x4.toNat * 5) (o:=0) (part:=(Dm.enc (nth x3 x4))) rfl rfl (S.tm rfl) ((Pi Dm.enc_ok S (i:=0) rfl hg3 (Dx hc1).1 (Ia (e':=.own Aa 129 5 x3.length (x3.flatMap Dm.enc)))).kept hw))) fun a S=>Eu 9 S hsel rfl rfl rfl rfl hb2 rfl rfl (by kernel_rfl) (by kernel_rfl) rfl (fun _ hw=>(Rm (S.tm rfl))) fun a S=>Eu 10 S hsel rfl rfl rfl rfl hb2 rfl rfl (by kernel_rfl) (by kernel_rfl) rfl (fun _ hw=>(Rm (S.tm rfl))) fun a S=>Eu 11 S hsel rfl rfl rfl rfl hb2 rfl rfl (by kernel_rfl) (by kernel_rfl) rfl (fun _ hw=>(Iu (S.tm rfl) rfl)) ?_;clear S;intro a S
        obtain ⟨b4,hg4,hr4⟩:=Hq (a:=a) (x:=.tmp 27) (y:=.tmp 29) (ty:=0) Nn Dm.enc_ok S (i:=0) rfl (Dx hc2).1 (Dx hc2).2 (S.tm rfl) (S.tm rfl)
        refine Eu 12 S hsel rfl rfl rfl rfl hb2 rfl rfl (by kernel_rfl) (by kernel_rfl) rfl (fun _ hw=>(hr4 _)) ?_;clear S;intro a S
        clear hr4
        refine Eu 13 S hsel rfl rfl rfl rfl hb2 rfl rfl (by kernel_rfl) (by kernel_rfl) rfl (fun _ hw=>(Fp isAgg129 sizeOf129 (off:=((W (x4 - 1)).toNat) * 5) (o:=0) (part:=(Dm.enc (nth x3 (W (x4 - 1))))) rfl rfl (S.tm rfl) ((Pi Dm.enc_ok S (i:=0) rfl hg4 (Dx hc2).1 (Ia (e':=.own Aa 129 5 x3.length (x3.flatMap Dm.enc)))).kept hw))) fun a S=>He 14 (by kernel_rfl) rfl (Du S rfl rfl rfl hb2 (Dw S (fun _=>Ts (cap:=[]) (S.tm rfl) (vs:=[.agg (Dm.enc (nth x3 x4)).toArray,.agg (Dm.enc (nth x3 (W (x4 - 1)))).toArray]) ⟨(S.tm rfl),(S.tm rfl),trivial⟩ call52) (CX _ (nth x3 x4) (nth x3 (W (x4 - 1))) _ rfl) rfl ?_));clear S;intro v2 a w8 hv2 hk3 hn2 S
        subst hv2
        refine Ld (Ig hk3 (Lw [15,16] hsel (by kernel_rfl) rfl ?_))
        clear hsel
        refine Ee S rfl rfl rfl rfl hb2 (Fb S (Et (S.tm rfl) rfl) rfl fun a S=>Gm S rfl (Qu hb2 (S.tm rfl) (S.tm rfl)) rfl fun a S=>Hv ?_)
        replace S:=S.nk [.own Aa 129 5 x3.length (x3.flatMap Dm.enc)] [(0,Aa),(1,iV Ap),(2,iV Au),(3,.func (.func 52) #[] #[]),(8,iV x2),(9,iV x4),(22,.func (.func 52) #[] #[]),(23,Aa),(24,iV x4),(25,.pointer (some ⟨b3,x4.toNat * 5,none⟩)),(26,.agg (Dm.enc (nth x3 x4)).toArray),(27,Aa),(28,iV x4),(29,iV (W (x4 - 1))),(30,.pointer (some ⟨b4,((W (x4 - 1)).toNat) * 5,none⟩)),(31,.agg (Dm.enc (nth x3 (W (x4 - 1)))).toArray),(32,iV (Nc (nth x3 x4) (nth x3 (W (x4 - 1))))),(33,bV (decide ((Nc (nth x3 x4) (nth x3 (W (x4 - 1)))) < 0))),(34,bV (decide ((Nc (nth x3 x4) (nth x3 (W (x4 - 1)))) < 0)))] [true] rfl (subR rfl)
        exact Tn (⟨decide ((Nc (nth x3 x4) (nth x3 (W (x4 - 1)))) < 0),h,S.nf [true] rfl (subR rfl)⟩)
       ·replace h:=Qd h hb2
        refine Hd [] ([]) Tryz.mixed S rfl (by kernel_rfl) ?_;clear S;intro w9 hk4 hsel S
        refine Lw [0,1,2,3,4,5,6,7,8,9,10,11,12,13,14,15,16] hsel (by kernel_rfl) rfl ?_
        clear hsel
        refine Gm S rfl (Rm (S.tm rfl)) rfl fun a S=>Gm S rfl (Rm (S.tm rfl)) rfl fun a S=>Gm S rfl (It (S.tm rfl) (S.tm rfl)) rfl fun a S=>Gm S rfl (Rm (S.tm rfl)) rfl ?_;clear S;intro a S
        iterate 12 (refine Nk S rfl rfl rfl rfl (Jh hb2) rfl ?_ rfl;clear S;intro a S)
        refine Gm S rfl (Qv hb2 (S.tm rfl) rfl) rfl fun a S=>Hv ?_
        replace S:=S.k7 0 1 2 3 8 9 34 rfl
        exact Tn (⟨false,h,S.nf [true] rfl (subR rfl)⟩)
      clear S h;rintro a w5 ⟨x5,h,S⟩;rw [hj3] at h;clear hj3 j3
      refine Tn (Fc h (S.tm rfl) (fun hb3 h=>?_) (fun hb3 h=>?_))
      ·refine wp_skip (Tn (Fs (wp_block ?_)))
       obtain ⟨hc3,h⟩:=Ie h
       obtain ⟨hc4,h⟩:=Ie h
       obtain ⟨hc5,h⟩:=Ie h
       obtain ⟨hc6,h⟩:=Ie h
       refine Hd [15,17] ([]) Tryz.mixed S rfl (by kernel_rfl) ?_;clear S;intro w14 hk9 hsel S
       refine Gy 0 S hsel rfl rfl (by kernel_rfl) (by kernel_rfl) rfl (fun _=>(Rm (S.tm rfl))) fun a S=>Gy 1 S hsel rfl rfl (by kernel_rfl) (by kernel_rfl) rfl (fun _=>(Rm (S.tm rfl))) fun a S=>Gy 2 S hsel rfl rfl (by kernel_rfl) (by kernel_rfl) rfl (fun _=>(Rm (S.tm rfl))) fun a S=>Gy 3 S hsel rfl rfl (by kernel_rfl) (by kernel_rfl) rfl (fun _=>(Rm (S.tm rfl))) fun a S=>Gy 4 S hsel rfl rfl (by kernel_rfl) (by kernel_rfl) rfl (fun _=>(Iu (S.tm rfl) rfl)) fun a S=>Gy 5 S hsel rfl rfl (by kernel_rfl) (by kernel_rfl) rfl (fun _=>(Rm (S.tm rfl))) fun a S=>Gy 6 S hsel rfl rfl (by kernel_rfl) (by kernel_rfl) rfl (fun _=>(Rm (S.tm rfl))) fun a S=>Gy 7 S hsel rfl rfl (by kernel_rfl) (by kernel_rfl) rfl (fun _=>(Iu (S.tm rfl) rfl)) ?_;clear S;intro a S
       obtain ⟨b9,hg9,hr9⟩:=Hq (a:=a) (x:=.tmp 42) (y:=.tmp 44) (ty:=0) Nn Dm.enc_ok S (i:=0) rfl (Dx hc3).1 (Dx hc3).2 (S.tm rfl) (S.tm rfl)
       refine Gy 8 S hsel rfl rfl (by kernel_rfl) (by kernel_rfl) rfl (fun _=>(hr9 _)) ?_;clear S;intro a S
       clear hr9
       refine Eb 9 S hsel rfl (by kernel_rfl) (by kernel_rfl) (by kernel_rfl) (by kernel_rfl) rfl (fun _ hw=>(Fp isAgg129 sizeOf129 (off:=((W (x4 - 1)).toNat) * 5) (o:=0) (part:=(Dm.enc (nth x3 (W (x4 - 1))))) rfl rfl (S.tm rfl) ((Pi Dm.enc_ok S (i:=0) rfl hg9 (Dx hc3).1 (Ia (e':=.own Aa 129 5 x3.length (x3.flatMap Dm.enc)))).kept hw))) fun a S=>Gy 10 S hsel rfl rfl (by kernel_rfl) (by kernel_rfl) rfl (fun _=>(Rm (S.tm rfl))) fun a S=>Gy 11 S hsel rfl rfl (by kernel_rfl) (by kernel_rfl) rfl (fun _=>(Rm (S.tm rfl))) ?_;clear S;intro a S
       obtain ⟨b10,hg10,hr10⟩:=Hq (a:=a) (x:=.tmp 47) (y:=.tmp 48) (ty:=0) Nn Dm.enc_ok S (i:=0) rfl (Dx hc4).1 (Dx hc4).2 (S.tm rfl) (S.tm rfl)
       refine Gy 12 S hsel rfl rfl (by kernel_rfl) (by kernel_rfl) rfl (fun _=>(hr10 _)) ?_;clear S;intro a S
       clear hr10
       refine Eb 13 S hsel rfl (by kernel_rfl) (by kernel_rfl) (by kernel_rfl) (by kernel_rfl) rfl (fun _ hw=>(Fp isAgg129 sizeOf129 (off:=x4.toNat * 5) (o:=0) (part:=(Dm.enc (nth x3 x4))) rfl rfl (S.tm rfl) ((Pi Dm.enc_ok S (i:=0) rfl hg10 (Dx hc4).1 (Ia (e':=.own Aa 129 5 x3.length (x3.flatMap Dm.enc)))).kept hw))) ?_;clear S;intro a S
       obtain ⟨b11,hg11,hr11⟩:=Hq (a:=a) (x:=.tmp 37) (y:=.tmp 38) (ty:=0) Nn Dm.enc_ok S (i:=0) rfl (Dx hc5).1 (Dx hc5).2 (S.tm rfl) (S.tm rfl)
       refine Gy 14 S hsel rfl rfl (by kernel_rfl) (by kernel_rfl) rfl (fun _=>(hr11 _)) ?_;clear S;intro a S
       clear hr11
       refine Ym 15 (Aa.ownBlock.toList) rfl (by kernel_rfl) rfl (Qg (c:=0) (j:=x4.toNat) (nth x3 (W (x4 - 1))) Dm.enc_ok S (S.tm rfl) (S.tm rfl) (i:=0) rfl hg11 (Dx hc5).1 sizeOf129 (vs:=[sV ((nth x3 (W (x4 - 1))).Race),sV ((nth x3 (W (x4 - 1))).Who),sV ((nth x3 (W (x4 - 1))).Club),iV ((nth x3 (W (x4 - 1))).Rank),bV ((nth x3 (W (x4 - 1))).Relay)]) rfl rfl rfl rfl rfl ?_);clear S;intro w16 hk11 S
       refine Ld (Yn ?_)
       obtain ⟨b12,hg12,hr12⟩:=Hq (a:=a) (x:=.tmp 39) (y:=.tmp 41) (ty:=0) Nn Dm.enc_ok S (i:=0) rfl (Dx hc6).1 (Dx hc6).2 (S.tm rfl) (S.tm rfl)
       refine Eb 16 S hsel rfl rfl rfl (by kernel_rfl) (by kernel_rfl) rfl (fun _ hw=>(hr12 _)) ?_;clear S;intro a S
       clear hr12
       refine He 17 (by kernel_rfl) rfl (Qg (c:=0) (j:=(W (x4 - 1)).toNat) (nth x3 x4) Dm.enc_ok S (S.tm rfl) (S.tm rfl) (i:=0) rfl hg12 (Dx hc6).1 sizeOf129 (vs:=[sV ((nth x3 x4).Race),sV ((nth x3 x4).Who),sV ((nth x3 x4).Club),iV ((nth x3 x4).Rank),bV ((nth x3 x4).Relay)]) rfl rfl rfl rfl rfl ?_);clear S;intro w18 hk13 S
       refine Ld (Ig hk13 (Xi (by kernel_rfl) ?_))
       clear hsel
       replace S:=(S.nl [.own Aa 129 5 ((x3.set x4.toNat (nth x3 (W (x4 - 1)))).set ((W (x4 - 1)).toNat) (nth x3 x4)).length (((x3.set x4.toNat (nth x3 (W (x4 - 1)))).set ((W (x4 - 1)).toNat) (nth x3 x4)).flatMap Dm.enc)] [true] rfl).k6 0 1 2 3 8 9 rfl
       exact Ho (Tn (Fg (Vm S rfl rfl fun a S=>Vq S Iu rfl rfl rfl fun a S=>Va S rfl rfl fun a S=>Dl (⟨m2,⟨((x3.set x4.toNat (nth x3 (W (x4 - 1)))).set ((W (x4 - 1)).toNat) (nth x3 x4)),W (x4 - 1),h,S.nf [true] rfl ⟨rfl,rfl,rfl,rfl,rfl,rfl,trivial⟩⟩,Nat.lt_succ_self _⟩))))
      ·exact wp_exit (Ed (Ed (Gp (Tn (⟨x3,h,S.nf [true] rfl (subR rfl)⟩)))))
    clear S h;rintro a w4 ⟨x3,h,S⟩;rw [hj2] at h;clear hj2 j2
    exact Ho (Tn (Fg (Vm S rfl rfl fun a S=>Vq S Gc rfl rfl rfl fun a S=>Va S rfl rfl fun a S=>Dl (⟨m1,⟨x3,W (x2 + 1),h,S.nf [true] rfl ⟨rfl,rfl,rfl,rfl,rfl,trivial⟩⟩,Nat.lt_succ_self _⟩))))
   ·exact wp_exit (Ed (Ed (Gp (Tn (⟨x1,h,S.nf [true] rfl trivial⟩)))))
 clear S h;rintro a w2 ⟨x1,h,S⟩;rw [hj1] at h;clear hj1 j1
 obtain rfl:=Option.some.inj h
 exact Vg S results110 ⟨(S.holds _ (List.mem_of_getElem? (i:=0) rfl)),rfl⟩
theorem Ri (w : World) (Aa : Value) (Av : List Dm) (Bn : (LEnt.own Aa 129 5 Av.length (Av.flatMap Dm.enc)).holds w) (Ba : Int) (r : (List Dm)) (h : Jk Av Ba = some r) :
    Calls prog 88 [Aa,iV Ba,.func (.func 52) #[] #[]].toArray w (Ret w (Aa.ownBlock.toList) fun _ v w'=>(LEnt.own Aa 129 5 r.length (r.flatMap Dm.enc)).holds w' ∧ v = .tuple #[]):=by
 refine Mv (Aa.ownBlock.toList) [.own Aa 129 5 Av.length (Av.flatMap Dm.enc)] func88 rfl ntmps88 rfl (fun e he=>by simp only [List.mem_singleton] at he;subst he;exact Bn) (Lt _) (Nf _) fun a S=>?_
 unfold Jk at h
 replace S:=(S.nl [.own Aa 129 5 Av.length (Av.flatMap Dm.enc)] [true] rfl).k3 0 1 2 rfl
 refine Fr (Vk S rfl rfl fun a S=>Dz (Vm S rfl rfl fun a S=>Vk S rfl rfl fun a S=>Va S rfl rfl fun a S=>Ld ?_))
 refine Tn (Fs ?_)
 replace S:=S.k6 0 1 2 6 7 8 rfl
 obtain ⟨j1,hj1,h⟩:=Ep h
 refine Eg (fun a w'=>∃ x1 : List Dm,∃ x2 : Int,j1 x1 x2 = some r ∧ Sx w (Aa.ownBlock.toList) nov [.own Aa 129 5 x1.length (x1.flatMap Dm.enc)] [(0,Aa),(1,iV Ba),(2,.func (.func 52) #[] #[]),(6,iV 20),(7,iV x2)] 63 a w') ?_ ?_
 ·refine wp_block (Gx (fun (m1 : Nat) a w'=>∃ x1 : List Dm,∃ x2 : Int,∃ x3 : Int,Fv Ba j1 m1 x1 x2 x3 = some r ∧ Sx w (Aa.ownBlock.toList) nov [.own Aa 129 5 x1.length (x1.flatMap Dm.enc)] [(0,Aa),(1,iV Ba),(2,.func (.func 52) #[] #[]),(6,iV 20),(7,iV x2),(8,iV x3)] 63 a w') id ((Ba - 20).toNat + 2) ⟨Av,0,20,h,S.nf [true] rfl (subR rfl)⟩ ?_)
  clear S h;rintro m1 a w1 ⟨x1,x2,x3,h,S⟩
  cases m1 with
  | zero=>rw [Fv.eq_1] at h;cases h
  | succ m1 =>
   rw [Fv.eq_2] at h
   refine Fs (Fr (Vm S rfl rfl fun a S=>Vm S rfl rfl fun a S=>Vb S Uv rfl rfl rfl fun a S=>Dl (Fc h (S.tm rfl) (fun hb1 h=>?_) (fun hb1 h=>?_))))
   ·refine wp_skip (Tn (wp_block (Fs (Fg ?_))))
    iterate 4 (refine Vm S rfl rfl ?_;clear S;intro a S)
    obtain ⟨r1,hr1,h⟩:=Fa h
    refine Pd 0 S rfl (fun _=>.own Aa 129 5 r1.length (r1.flatMap Dm.enc)) (fun _=>Dp (vs:=[Aa,iV x2,iV x3,.func (.func 52) #[] #[]]) ⟨(S.tm rfl),(S.tm rfl),(S.tm rfl),(S.tm rfl),trivial⟩ call110) (Mh _ Aa x1 (S.holds _ (List.mem_of_getElem? (i:=0) rfl)) x2 x3 _ hr1) rfl (fun _ _ _ h=>⟨h.1,fun _ hc=>hc⟩) ?_;clear S;intro v1 a w3 hv1 hk1 hn1 S
    replace hv1:=hv1.2
    subst hv1
    refine Dz (Vm S rfl rfl fun a S=>Va S rfl rfl fun a S=>Ld ?_)
    replace S:=(S.nl [.own Aa 129 5 r1.length (r1.flatMap Dm.enc)] [true] rfl).k6 0 1 2 6 7 8 rfl
    exact Tn (Fg (Vm S rfl rfl fun a S=>Vm S rfl rfl fun a S=>Vb S Gc rfl rfl rfl fun a S=>Va S rfl rfl fun a S=>Ld (Ho (Tn (⟨m1,⟨r1,x3,W (x3 + 20),h,S.nf [true] rfl ⟨rfl,rfl,rfl,rfl,rfl,rfl,trivial⟩⟩,Nat.lt_succ_self _⟩)))))
   ·exact wp_exit (Ed (Ed (Gp (Tn (⟨x1,x2,h,S.nf [true] rfl (subR rfl)⟩)))))
 clear S h;rintro a w2 ⟨x1,x2,h,S⟩;rw [hj1] at h;clear hj1 j1
 refine Tn (Fs (Fg ?_))
 iterate 4 (refine Vm S rfl rfl ?_;clear S;intro a S)
 obtain ⟨r2,hr2,h⟩:=Fa h
 refine Pd 0 S rfl (fun _=>.own Aa 129 5 r2.length (r2.flatMap Dm.enc)) (fun _=>Dp (vs:=[Aa,iV x2,iV Ba,.func (.func 52) #[] #[]]) ⟨(S.tm rfl),(S.tm rfl),(S.tm rfl),(S.tm rfl),trivial⟩ call110) (Mh _ Aa x1 (S.holds _ (List.mem_of_getElem? (i:=0) rfl)) x2 Ba _ hr2) rfl (fun _ _ _ h=>⟨h.1,fun _ hc=>hc⟩) ?_;clear S;intro v2 a w4 hv2 hk2 hn2 S
 replace hv2:=hv2.2
 subst hv2
 refine Dl ?_
 replace S:=(S.nl [.own Aa 129 5 r2.length (r2.flatMap Dm.enc)] [true] rfl).k2 1 6 rfl
 obtain ⟨j2,hj2,h⟩:=Ep h
 refine Eg (fun a w'=>j2 = some r ∧ Sx w (Aa.ownBlock.toList) nov [.own Aa 129 5 r2.length (r2.flatMap Dm.enc)] [] 63 a w') ?_ ?_
 ·refine wp_block (Gx (fun (m2 : Nat) a w'=>∃ x4 : Int,Fw Ba j2 m2 x4 = some r ∧ Sx w (Aa.ownBlock.toList) nov [.own Aa 129 5 r2.length (r2.flatMap Dm.enc)] [(1,iV Ba),(6,iV x4)] 63 a w') id ((Ba - 20).toNat + 2) ⟨20,h,S.nf [true] rfl (subR rfl)⟩ ?_)
  clear S h;rintro m2 a w5 ⟨x4,h,S⟩
  cases m2 with
  | zero=>rw [Fw.eq_1] at h;cases h
  | succ m2 =>
   rw [Fw.eq_2] at h
   refine Fs (Fr (Vm S rfl rfl fun a S=>Vm S rfl rfl fun a S=>Vb S Et rfl rfl rfl fun a S=>Dl (Fc h (S.tm rfl) (fun hb2 h=>?_) (fun hb2 h=>?_))))
   ·refine wp_skip (Tn (wp_block (Fr (Vm S rfl rfl fun a S=>Vu S (Yv rfl) rfl rfl fun a S=>Vk S rfl rfl fun a S=>Va S rfl rfl fun a S=>Dl ?_))))
    refine Fs ?_
    replace S:=S.k4 1 6 7 8 rfl
    obtain ⟨j3,hj3,h⟩:=Ep h
    refine Eg (fun a w'=>∃ x5 : Int,j3 x5 = some r ∧ Sx w (Aa.ownBlock.toList) nov [.own Aa 129 5 r2.length (r2.flatMap Dm.enc)] [(1,iV Ba),(6,iV x4),(7,iV x5)] 63 a w') ?_ ?_
    ·refine wp_block (Gx (fun (m3 : Nat) a w'=>∃ x5 : Int,∃ x6 : Int,Gv Ba j3 m3 x5 x6 = some r ∧ Sx w (Aa.ownBlock.toList) nov [.own Aa 129 5 r2.length (r2.flatMap Dm.enc)] [(1,iV Ba),(6,iV x4),(7,iV x5),(8,iV x6)] 63 a w') id ((Ba - (W (2 * x4))).toNat + 2) ⟨0,W (2 * x4),h,S.nf [true] rfl (subR rfl)⟩ ?_)
     clear S h;rintro m3 a w7 ⟨x5,x6,h,S⟩
     cases m3 with
     | zero=>rw [Gv.eq_1] at h;cases h
     | succ m3 =>
      rw [Gv.eq_2] at h
      refine Fs (Fr (Vm S rfl rfl fun a S=>Vm S rfl rfl fun a S=>Vb S Uv rfl rfl rfl fun a S=>Dl (Fc h (S.tm rfl) (fun hb3 h=>?_) (fun hb3 h=>?_))))
      ·refine wp_skip (Tn (wp_block (Fs ?_)))
       cases h
      ·exact wp_exit (Ed (Ed (Gp (Tn (⟨x5,h,S.nf [true] rfl (subR rfl)⟩)))))
    clear S h;rintro a w8 ⟨x5,h,S⟩;rw [hj3] at h;clear hj3 j3
    refine Tn (Fs (Fr (Vm S rfl rfl fun a S=>Vm S rfl rfl fun a S=>Vb S Gc rfl rfl rfl fun a S=>Va S rfl rfl fun a S=>Dl (Fs ?_))))
    refine Fg (Vm S rfl rfl fun a S=>Vm S rfl rfl fun a S=>Vb S Et rfl rfl rfl fun a S=>Dl (Fc h (S.tm rfl) (fun hb4 h=>?_) (fun hb4 h=>?_)))
    ·cases h
    ·exact wp_skip (Tn (Fg (Vm S rfl rfl fun a S=>Vq S Yv rfl rfl rfl fun a S=>Va S rfl rfl fun a S=>Ld (Ho (Tn (⟨m2,⟨W (x4 * 2),h,S.nf [true] rfl ⟨rfl,rfl,trivial⟩⟩,Nat.lt_succ_self _⟩))))))
   ·exact wp_exit (Ed (Ed (Gp (Tn (⟨h,S.nf [true] rfl trivial⟩)))))
 clear S h;rintro a w6 ⟨h,S⟩;rw [hj2] at h;clear hj2 j2
 obtain rfl:=Option.some.inj h
 exact Vg S results88 ⟨(S.holds _ (List.mem_of_getElem? (i:=0) rfl)),rfl⟩
theorem Qr (w : World) (Bd : Value) (Ac : List Dm) (Cq : (LEnt.own Bd 129 5 Ac.length (Ac.flatMap Dm.enc)).holds w) (r : (List Dm)) (h : Gz Ac = some r) :
    Calls prog 51 [Bd,.func (.func 52) #[] #[]].toArray w (Ret w (Bd.ownBlock.toList) fun _ v w'=>(LEnt.own Bd 129 5 r.length (r.flatMap Dm.enc)).holds w' ∧ v = .tuple #[]):=by
 refine Mv (Bd.ownBlock.toList) [.own Bd 129 5 Ac.length (Ac.flatMap Dm.enc)] func51 rfl ntmps51 rfl (fun e he=>by simp only [List.mem_singleton] at he;subst he;exact Cq) (Lt _) (Nf _) fun a S=>?_
 unfold Gz at h
 replace S:=(S.nl [.own Bd 129 5 Ac.length (Ac.flatMap Dm.enc)] [true] rfl).k2 0 1 rfl
 refine Fg (Vm S rfl rfl fun a S=>Vm S rfl rfl fun a S=>lv S (Fq Nn (S.tm rfl) (Ph (S.own_at (i:=0) rfl))) rfl fun a S=>Vm S rfl rfl ?_);clear S;intro a S
 obtain ⟨r1,hr1,h⟩:=Fa h
 refine Pd 0 S rfl (fun _=>.own Bd 129 5 r1.length (r1.flatMap Dm.enc)) (fun _=>Dp (vs:=[Bd,iV (Ac.length : Int),.func (.func 52) #[] #[]]) ⟨(S.tm rfl),(S.tm rfl),(S.tm rfl),trivial⟩ call88) (Ri _ Bd Ac (S.holds _ (List.mem_of_getElem? (i:=0) rfl)) (Ac.length : Int) _ hr1) rfl (fun _ _ _ h=>⟨h.1,fun _ hc=>hc⟩) ?_;clear S;intro v1 a w1 hv1 hk1 hn1 S
 replace hv1:=hv1.2
 subst hv1
 refine Ld ?_
 obtain rfl:=Option.some.inj h
 exact Vg S results51 ⟨(S.holds _ (List.mem_of_getElem? (i:=0) rfl)),rfl⟩
theorem AH (w : World) (Ap : Int) (Au : Int) (r : Int) (h : Le Ap Au = r) :
    Calls prog 158 [iV Ap,iV Au].toArray w (Ret w [] fun _ v _=>v = iV r):=by
 refine Fe func158 rfl ntmps158 rfl fun a S=>?_
 unfold Le at h
 replace S:=S.k2 0 1 rfl
 refine Fr (Vk S rfl rfl fun a S=>Dl (Fs (Fr (Vm S rfl rfl fun a S=>Vq S Im rfl rfl rfl fun a S=>Ld ?_))))
 refine Tn ?_
 obtain ⟨j1,hj1,h⟩:=Ep h
 refine Eg (fun a w'=>∃ x1 : Int,j1 x1 = r ∧ Sx w [] nov [] [(0,iV x1),(1,iV Au)] 12 a w') ?_ ?_
 ·refine Fc h (S.tm rfl) (fun hb1 h=>?_) (fun hb1 h=>?_)
  ·exact Fg (Vk S rfl rfl fun a S=>Dl (⟨301,h,S.nf [] rfl (subR rfl)⟩))
  ·exact wp_skip (Tn (⟨Ap,h,S.nf [] rfl (subR rfl)⟩))
 clear S h;rintro a w1 ⟨x1,h,S⟩;rw [hj1] at h;clear hj1 j1
 refine Tn (Fs (Fr (Vm S rfl rfl fun a S=>Vq S Im rfl rfl rfl fun a S=>Dl ?_)))
 obtain ⟨j2,hj2,h⟩:=Ep h
 refine Eg (fun a w'=>∃ x2 : Int,j2 x2 = r ∧ Sx w [] nov [] [(0,iV x1),(1,iV x2)] 12 a w') ?_ ?_
 ·refine Fc h (S.tm rfl) (fun hb2 h=>?_) (fun hb2 h=>?_)
  ·exact Fg (Vk S rfl rfl fun a S=>Dl (⟨301,h,S.nf [] rfl (subR rfl)⟩))
  ·exact wp_skip (Tn (⟨Au,h,S.nf [] rfl (subR rfl)⟩))
 clear S h;rintro a w2 ⟨x2,h,S⟩;rw [hj2] at h;clear hj2 j2
 refine Tn (Fr (Vm S rfl rfl fun a S=>Vm S rfl rfl fun a S=>Vb S Iu rfl rfl rfl fun a S=>Va S rfl rfl fun a S=>Dl (wp_ret ?_)))
 subst h
 exact Ej S results158 rfl rfl
set_option maxRecDepth 20000 in
theorem FA (w : World) (Ap : Dm) (Au : Dm) (r : Int) (h : Rz Ap Au = r) :
    Calls prog 138 [.agg (Dm.enc Ap).toArray,.agg (Dm.enc Au).toArray].toArray w (Ret w [] fun _ v _=>v = iV r):=by
 refine Fe func138 rfl ntmps138 rfl fun a S=>?_
 unfold Rz at h
 replace S:=S.k2 0 1 rfl
 refine Fr (Mn S (S.tm rfl) (cs:=(Dm.enc Ap)) rfl rfl ?_);clear S;intro a w1 b1 hz1 hk1 S
 refine Mn S (S.tm rfl) (cs:=(Dm.enc Au)) rfl rfl ?_;clear S;intro a w2 b2 hz2 hk2 S
 refine Vk S rfl rfl fun a S=>Dl (Fs (Hd [] ([]) Tryz.mixed S rfl (by kernel_rfl) ?_));clear S;intro w8 hk8 hsel S
 refine Eb 0 S hsel rfl rfl rfl (by kernel_rfl) (by kernel_rfl) rfl (fun _ hw=>(Fy Xb (S.tm rfl))) fun a S=>Eb 1 S hsel rfl rfl rfl (by kernel_rfl) (by kernel_rfl) rfl (fun _ hw=>(Hm isAgg9 (off:=0) (o:=0) (S.tm rfl) ((S.blk_mem (i:=1) (cells:=(Dm.enc Ap)) (b:=b1) (T:=129) rfl (Ia (e':=.blk b1 (Dm.enc Ap) 129))).kept hw) rfl)) fun a S=>Eb 2 S hsel rfl rfl rfl (by kernel_rfl) (by kernel_rfl) rfl (fun _ hw=>(Fy Xb (S.tm rfl))) fun a S=>Eb 3 S hsel rfl rfl rfl (by kernel_rfl) (by kernel_rfl) rfl (fun _ hw=>(Hm isAgg9 (off:=0) (o:=0) (S.tm rfl) ((S.blk_mem (i:=0) (cells:=(Dm.enc Au)) (b:=b2) (T:=129) rfl (Ia (e':=.blk b2 (Dm.enc Au) 129))).kept hw) rfl)) fun a S=>Eb 5 S hsel rfl rfl rfl (by kernel_rfl) (by kernel_rfl) rfl (fun _ hw=>(Fy Np (S.tm rfl))) fun a S=>Eb 6 S hsel rfl rfl rfl (by kernel_rfl) (by kernel_rfl) rfl (fun _ hw=>(Hm isAgg3 (off:=0) (o:=3) (S.tm rfl) ((S.blk_mem (i:=1) (cells:=(Dm.enc Ap)) (b:=b1) (T:=129) rfl (Ia (e':=.blk b1 (Dm.enc Ap) 129))).kept hw) rfl)) fun a S=>Eb 7 S hsel rfl rfl rfl (by kernel_rfl) (by kernel_rfl) rfl (fun _ hw=>(Fy Np (S.tm rfl))) fun a S=>Eb 8 S hsel rfl rfl rfl (by kernel_rfl) (by kernel_rfl) rfl (fun _ hw=>(Hm isAgg3 (off:=0) (o:=3) (S.tm rfl) ((S.blk_mem (i:=0) (cells:=(Dm.enc Au)) (b:=b2) (T:=129) rfl (Ia (e':=.blk b2 (Dm.enc Au) 129))).kept hw) rfl)) fun a S=>Eb 10 S hsel rfl rfl rfl (by kernel_rfl) (by kernel_rfl) rfl (fun _ hw=>(Fy Xc (S.tm rfl))) fun a S=>Eb 11 S hsel rfl rfl rfl (by kernel_rfl) (by kernel_rfl) rfl (fun _ hw=>(Hm isAgg9 (off:=0) (o:=1) (S.tm rfl) ((S.blk_mem (i:=1) (cells:=(Dm.enc Ap)) (b:=b1) (T:=129) rfl (Ia (e':=.blk b1 (Dm.enc Ap) 129))).kept hw) rfl)) ?_;clear S;intro a S
 refine Eb 12 S hsel rfl rfl rfl (by kernel_rfl) (by kernel_rfl) rfl (fun _ hw=>(Fy Xc (S.tm rfl))) fun a S=>Eb 13 S hsel rfl rfl rfl (by kernel_rfl) (by kernel_rfl) rfl (fun _ hw=>(Hm isAgg9 (off:=0) (o:=1) (S.tm rfl) ((S.blk_mem (i:=0) (cells:=(Dm.enc Au)) (b:=b2) (T:=129) rfl (Ia (e':=.blk b2 (Dm.enc Au) 129))).kept hw) rfl)) fun a S=>He 4 (by kernel_rfl) rfl (Dw S (fun _=>Dp (vs:=[sV Ap.Race,sV Au.Race]) ⟨(S.tm rfl),(S.tm rfl),trivial⟩ call53) (Ot _ Ap.Race Au.Race _ rfl) rfl ?_);clear S;intro v5 a w9 hv5 hk9 hn5 S
 subst hv5
 refine Ld (Ig hk9 (He 9 (by kernel_rfl) rfl (Dw S (fun _=>Dp (vs:=[iV Ap.Rank,iV Au.Rank]) ⟨(S.tm rfl),(S.tm rfl),trivial⟩ call158) (AH _ Ap.Rank Au.Rank _ rfl) rfl ?_)));clear S;intro v6 a w10 hv6 hk10 hn6 S
 subst hv6
 refine Ld (Ig hk10 (He 14 (by kernel_rfl) rfl (Dw S (fun _=>Dp (vs:=[sV Ap.Who,sV Au.Who]) ⟨(S.tm rfl),(S.tm rfl),trivial⟩ call53) (Ot _ Ap.Who Au.Who _ rfl) rfl ?_)));clear S;intro v7 a w11 hv7 hk11 hn7 S
 subst hv7
 refine Ld (Ig hk11 (He 15 (by kernel_rfl) rfl (Er S underlying22 sizeOf3 zeroValue3 rfl rfl (pv:=[(0,iV (Hp Ap.Race Au.Race)),(1,iV (Le Ap.Rank Au.Rank)),(2,iV (Hp Ap.Who Au.Who))]) ⟨rfl,(S.tm rfl),rfl,(S.tm rfl),rfl,(S.tm rfl),trivial⟩ (cs:=[iV (Hp Ap.Race Au.Race),iV (Le Ap.Rank Au.Rank),iV (Hp Ap.Who Au.Who)]) (by kernel_rfl) rfl ?_)));clear S;intro a w12 b4 hz4 hk12 S
 refine Ld (Ig hk12 (He 16 (by kernel_rfl) rfl (Dw S (fun _=>Dp (vs:=[.slice (some ⟨b4,0,none⟩) 3 3]) ⟨(S.tm rfl),trivial⟩ call103) (DF _ (.slice (some ⟨b4,0,none⟩) 3 3) [(Hp Ap.Race Au.Race),(Le Ap.Rank Au.Rank),(Hp Ap.Who Au.Who)] (Jx Ik S (i:=0) rfl rfl rfl rfl ((Ia (e':=.blk b4 [iV (Hp Ap.Race Au.Race),iV (Le Ap.Rank Au.Rank),iV (Hp Ap.Who Au.Who)] 3)) _ rfl)) _ rfl) rfl ?_)));clear S;intro v8 a w13 hv8 hk13 hn8 S
 subst hv8
 refine Ld (Ig hk13 (Lw [17] hsel (by kernel_rfl) rfl ?_))
 clear hsel
 refine Gm S rfl (Ra (S.tm rfl)) rfl fun a S=>Hv ?_
 replace S:=S.n0.k1 4 rfl
 refine Tn (wp_ret ?_)
 subst h
 exact Ej S results138 rfl rfl
set_option maxRecDepth 20000 in
theorem AM (w : World) (ψ : View) (hψ : View.le ψ (view w [])) (Ab : Value) (Ah : List Dm) (Af : Slc ψ 5 Ab (Ah.map Dm.enc)) (r : (List (List Dm))) (h : Sh Ah = some r) :
    Calls prog 114 [Ab].toArray w (Ret w [] fun τ v _=>SlcD (join ψ τ) 1 RS.enc Yt v r):=by
 refine Fe func114 rfl ntmps114 rfl fun a S=>?_
 unfold Sh at h
 replace S:=S.k1 0 rfl
 refine Fr (Vk S rfl rfl fun a S=>Dz (Vk S rfl rfl ?_));clear S;intro a S
 replace S:=S.nil 125 1
 refine Dl (Fs (Fr (Vk S rfl rfl fun a S=>Dl ?_)))
 replace S:=(S.nl [.own (.slice none 0 0) 125 1 ([] : List RS).length (([] : List RS).flatMap RS.enc)] [true] rfl).k3 0 3 4 rfl
 obtain ⟨j1,hj1,h⟩:=Ep h
 refine Eg (fun a w'=>∃ x1 : List (List Dm),∃ v1 : Value,∃ rs1 : List RS,j1 x1 = some r ∧ Lh (Yt (join ψ nov)) x1 rs1 ∧ Sx w [] nov [.own v1 125 1 rs1.length (rs1.flatMap RS.enc)] [(3,v1)] 41 a w') ?_ ?_
 ·refine wp_block (Gx (fun (m1 : Nat) a w'=>∃ x1 : List (List Dm),∃ x2 : Int,∃ v1 : Value,∃ rs1 : List RS,Lf Ah j1 m1 x1 x2 = some r ∧ Lh (Yt (join ψ nov)) x1 rs1 ∧ Sx w [] nov [.own v1 125 1 rs1.length (rs1.flatMap RS.enc)] [(0,Ab),(3,v1),(4,iV x2)] 41 a w') id (((Ah.length : Int) - 0).toNat + 2) ⟨([] : List (List Dm)),0,(.slice none 0 0),([] : List RS),h,.nil,S.nf [true] rfl (subR rfl)⟩ ?_)
  clear S h;rintro m1 a w1 ⟨x1,x2,v1,rs1,h,hr1,S⟩
  cases m1 with
  | zero=>rw [Lf.eq_1] at h;cases h
  | succ m1 =>
   rw [Lf.eq_2] at h
   refine Fs (Fr (Vm S rfl rfl fun a S=>Vm S rfl rfl fun a S=>lv S (Fq Nn (S.tm rfl) (Fj Af)) rfl fun a S=>Vb S Et rfl rfl rfl fun a S=>Dl (Fc h (S.tm rfl) (fun hb1 h=>?_) (fun hb1 h=>?_))))
   ·refine wp_skip (Tn (wp_block (Fr (Vm S rfl rfl fun a S=>Vq S Gc rfl rfl rfl fun a S=>Va S rfl rfl fun a S=>Dl (Fs ?_)))))
    replace S:=S.k4 0 3 4 5 rfl
    obtain ⟨j2,hj2,h⟩:=Ep h
    refine Eg (fun a w'=>∃ x3 : Int,j2 x3 = some r ∧ Sx w [] nov [.own v1 125 1 rs1.length (rs1.flatMap RS.enc)] [(0,Ab),(3,v1),(4,iV x2),(5,iV x3)] 41 a w') ?_ ?_
    ·refine wp_block (Gx (fun (m2 : Nat) a w'=>∃ x3 : Int,Na Ah x2 j2 m2 x3 = some r ∧ Sx w [] nov [.own v1 125 1 rs1.length (rs1.flatMap RS.enc)] [(0,Ab),(3,v1),(4,iV x2),(5,iV x3)] 41 a w') id (((Ah.length : Int) - (W (x2 + 1))).toNat + 2) ⟨W (x2 + 1),h,S.nf [true] rfl (subR rfl)⟩ ?_)
     clear S h;rintro m2 a w3 ⟨x3,h,S⟩
     cases m2 with
     | zero=>rw [Na.eq_1] at h;cases h
     | succ m2 =>
      rw [Na.eq_2] at h
      refine Fs (Fs (Hd [] ([]) Tryz.mixed S rfl (by kernel_rfl) ?_));clear S;intro w5 hk1 hsel S
      refine Lw [0,1,2,3,4,5,6,7,8,9,10,11,12,13,14,15,16] hsel (by kernel_rfl) rfl ?_
      clear hsel
      refine Gm S rfl (Rm (S.tm rfl)) rfl fun a S=>Gm S rfl (Rm (S.tm rfl)) rfl fun a S=>Gm S rfl (Fq Nn (S.tm rfl) (Fj Af)) rfl fun a S=>Gm S rfl (Et (S.tm rfl) (S.tm rfl)) rfl fun a S=>Gm S rfl (Rm (S.tm rfl)) rfl ?_;clear S;intro a S
      obtain ⟨j3,hj3,h⟩:=Ep h
      refine Ue 12 (fun a w'=>∃ c1,j3 c1 = some r ∧ Keep [] w5 w' ∧ Sx w [] nov [.own v1 125 1 rs1.length (rs1.flatMap RS.enc)] [(0,Ab),(3,v1),(4,iV x2),(5,iV x3),(28,bV c1)] 41 a w') ?_ ?_
      ·rcases Bool.eq_false_or_eq_true (decide (x3 < (Ah.length : Int))) with hb2 | hb2
       ·replace h:=Qc h hb2
        refine Ee S rfl rfl rfl rfl hb2 (Fb S (Rm (S.tm rfl)) rfl fun a S=>Ee S rfl rfl rfl rfl hb2 (Fb S (Rm (S.tm rfl)) rfl fun a S=>Ee S rfl rfl rfl rfl hb2 ?_))
        obtain ⟨hc1,h⟩:=Ie h
        obtain ⟨b1,o1,hm1,hr2⟩:=Ev (a:=a) (x:=.tmp 17) (y:=.tmp 18) (ty:=0) Nn Af (Dx hc1).1 (Dx hc1).2 (S.tm rfl) (S.tm rfl)
        refine Fb S (hr2 _) rfl ?_;clear S;intro a S
        clear hr2
        refine Ee S rfl rfl rfl rfl hb2 (Fb S (Fy Xb (S.tm rfl)) rfl fun a S=>Ee S rfl rfl rfl rfl hb2 (Fb S (Hm isAgg9 (off:=o1) (o:=0) (S.tm rfl) (hm1.at (OU hψ S.emb0)) rfl) rfl fun a S=>Ee S rfl rfl rfl rfl hb2 (Fb S (Rm (S.tm rfl)) rfl fun a S=>Ee S rfl rfl rfl rfl hb2 (Fb S (Rm (S.tm rfl)) rfl fun a S=>Ee S rfl rfl rfl rfl hb2 ?_))))
        obtain ⟨hc2,h⟩:=Ie h
        obtain ⟨b2,o2,hm2,hr3⟩:=Ev (a:=a) (x:=.tmp 22) (y:=.tmp 23) (ty:=0) Nn Af (Dx hc2).1 (Dx hc2).2 (S.tm rfl) (S.tm rfl)
        refine Fb S (hr3 _) rfl ?_;clear S;intro a S
        clear hr3
        exact Ee S rfl rfl rfl rfl hb2 (Fb S (Fy Xb (S.tm rfl)) rfl fun a S=>Ee S rfl rfl rfl rfl hb2 (Fb S (Hm isAgg9 (off:=o2) (o:=0) (S.tm rfl) (hm2.at (OU hψ S.emb0)) rfl) rfl fun a S=>Ee S rfl rfl rfl rfl hb2 (Fb S (Ve (S.tm rfl) (S.tm rfl)) rfl fun a S=>Gm S rfl (Hg hb2 (S.tm rfl) (S.tm rfl)) rfl fun a S=>Hv (⟨_,h,Keep.refl _ _,S.nf [true] rfl (subR rfl)⟩))))
       ·replace h:=Qd h hb2
        iterate 11 (refine Nk S rfl rfl rfl rfl (Jh hb2) rfl ?_ rfl;clear S;intro a S)
        exact Gm S rfl (Hh true hb2 (S.tm rfl) rfl) rfl fun a S=>Hv (⟨_,h,Keep.refl _ _,S.nf [true] rfl (subR rfl)⟩)
      clear S h;rintro a w6 ⟨c1,h,hk2,S⟩;rw [hj3] at h;clear hj3 j3
      refine Hv ?_
      replace S:=S.k5 0 3 4 5 28 rfl
      refine Tn (Fc h (S.tm rfl) (fun hb3 h=>?_) (fun hb3 h=>?_))
      ·exact wp_skip (Tn (wp_block (Fg (Vm S rfl rfl fun a S=>Vq S Gc rfl rfl rfl fun a S=>Va S rfl rfl fun a S=>Ld (Ho (Tn (⟨m2,⟨W (x3 + 1),h,S.nf [true] rfl ⟨rfl,rfl,rfl,rfl,trivial⟩⟩,Nat.lt_succ_self _⟩)))))))
      ·exact wp_exit (Ed (Ed (Gp (Tn (⟨x3,h,S.nf [true] rfl (subR rfl)⟩)))))
    clear S h;rintro a w4 ⟨x3,h,S⟩;rw [hj2] at h;clear hj2 j2
    refine Tn (Fs (Fg ?_))
    iterate 5 (refine Vm S rfl rfl ?_;clear S;intro a S)
    obtain ⟨hc3,h⟩:=Ie h
    obtain ⟨v2,hs1,hr4⟩:=UB (y2:=.tmp 35) (a:=a) (x:=.tmp 32) (y:=.tmp 33) (y':=.tmp 34) (ty:=125) Nn Af (S.tm rfl) (S.tm rfl) (S.tm rfl) (S.tm rfl) hc3
    refine lv S (hr4 _) rfl ?_;clear S;intro a S
    clear hr4
    refine Er S underlying198 sizeOf125 zeroValue125 rfl rfl (pv:=[(0,v2)]) ⟨rfl,(S.tm rfl),trivial⟩ (cs:=[v2]) (UA hs1) rfl ?_;clear S;intro a w7 b3 hz1 hk3 S
    obtain ⟨hc4,h⟩:=Ie h
    have hr5 : Lh (Yt (join ψ nov)) (x1 ++ [cut Ah x2 x3]) (rs1 ++ [⟨v2,Kq.one (Fj hs1)⟩]):=Lh.app hr1 (Lh.cons (hs1.mono (le_join_left _ _)) Lh.nil)
    refine Ms AB RS.enc_ok S (S.tm rfl) (i:=1) rfl (S.tm rfl) (j:=0) rfl (ys:=[⟨v2,Kq.one (Fj hs1)⟩]) rfl rfl rfl rfl (by have:=Nd hc4;have:=Lh.len hr1;simp at this ⊢;omega) rfl ?_;clear S;intro v3 a w8 hk4 S
    exact Va S rfl rfl fun a S=>Dl (Fg (Vm S rfl rfl fun a S=>Va S rfl rfl fun a S=>Ld (Ho (Tn (⟨m1,⟨(x1 ++ [cut Ah x2 x3]),x3,v3,(rs1 ++ [⟨v2,Kq.one (Fj hs1)⟩]),h,hr5,S.nf [false,true] rfl ⟨rfl,rfl,rfl,trivial⟩⟩,Nat.lt_succ_self _⟩)))))
   ·exact wp_exit (Ed (Ed (Gp (Tn (⟨x1,v1,rs1,h,hr1,S.nf [true] rfl ⟨rfl,trivial⟩⟩)))))
 clear S h;rintro a w2 ⟨x1,v1,rs1,h,hr1,S⟩;rw [hj1] at h;clear hj1 j1
 refine Tn (Fr (Vm S rfl rfl fun a S=>Va S rfl rfl fun a S=>Dl (wp_ret ?_)))
 obtain ⟨φ1,hl1,hs2,S⟩:=S.freezeT (xs:=rs1) (enc:=RS.enc) (i:=0) rfl (fun _ h=>by cases h)
 have hr6:=(EN (IB hl1) hr1)
 have hs3:=(Ga RS.enc_ok hs2).mono (S.all_right hψ)
 replace S:=S.nk [] [(2,v1),(3,v1),(40,v1)] [] rfl (subR rfl)
 obtain rfl:=Option.some.inj h
 exact Ej S results114 rfl ⟨_,(hs3.mono (Yo hψ S.le_newer)),EN (Yo hψ S.le_newer) hr6⟩
set_option maxRecDepth 20000 in
theorem AU (w : World) (Ac : Dm) (Ca : Nat) (De : Value) (Bk : List Dm) (Dg : Slc (view w []) 5 De (Bk.map Dm.enc)) (Cb : (view w []) Ca = some (.cells [De].toArray 125 (0,0))) (r : Bool) (h : Si Ac Bk = some r) :
    Calls prog 160 [.agg (Dm.enc Ac).toArray,.pointer (some ⟨Ca,0,none⟩)].toArray w (Ret w [] fun _ v _=>v = bV r):=by
 refine Fe func160 rfl ntmps160 rfl fun a S=>?_
 unfold Si at h
 replace S:=S.k2 0 1 rfl
 refine Fr (Mn S (S.tm rfl) (cs:=(Dm.enc Ac)) rfl rfl ?_);clear S;intro a w1 b1 hz1 hk1 S
 refine Vk S rfl rfl fun a S=>Dl (Fs (Hd [] ([]) Tryz.mixed S rfl (by kernel_rfl) ?_));clear S;intro w2 hk2 hsel S
 refine Lw [0,1,2,3,4,5,6,7] hsel (by kernel_rfl) rfl ?_
 clear hsel
 refine Gm S rfl (Fy ID (S.tm rfl)) rfl fun a S=>Gm S rfl (La isAgg4 (S.tm rfl) (S.cell (i:=0) rfl rfl)) rfl fun a S=>Gm S rfl (Hm isAgg125 (off:=0) (o:=0) (S.tm rfl) ((Ru Cb).at S.emb0) rfl) rfl ?_;clear S;intro a S
 obtain ⟨hc1,h⟩:=Ie h
 obtain ⟨b2,o1,hm1,hr1⟩:=Ev (a:=a) (x:=.tmp 6) (y:=.const (iV 0)) (ty:=0) Nn Dg (Dx hc1).1 (Dx hc1).2 (S.tm rfl) rfl
 refine Gm S rfl (hr1 _) rfl ?_;clear S;intro a S
 clear hr1
 refine Gm S rfl (Fy ID (S.tm rfl)) rfl fun a S=>Gm S rfl (Hm isAgg4 (off:=o1) (o:=4) (S.tm rfl) (hm1.at S.emb0) rfl) rfl fun a S=>Gm S rfl (HJ underlying4 (S.tm rfl) (S.tm rfl)) rfl fun a S=>Gm S rfl (Ra (S.tm rfl)) rfl fun a S=>Hv ?_
 replace S:=S.n0.k1 3 rfl
 refine Tn (wp_ret ?_)
 obtain rfl:=Option.some.inj h
 exact Ej S results160 rfl rfl
theorem Rs (w : World) (Ax : Value) (Ar : List Dm) (Bf : Slc (view w []) 5 Ax (Ar.map Dm.enc)) (Az : Nat) (Co : Value) (Aw : List Dm) (Cy : Slc (view w []) 5 Co (Aw.map Dm.enc)) (Bg : (view w []) Az = some (.cells [Co].toArray 125 (0,0))) (r : Int) (h : Jv Ar Aw = some r) :
    Calls prog 169 [Ax,.func (.func 160) #[] #[.pointer (some ⟨Az,0,none⟩)]].toArray w (Ret w [] fun _ v _=>v = iV r):=by
 refine Fe func169 rfl ntmps169 rfl fun a S=>?_
 unfold Jv at h
 replace S:=S.k2 0 1 rfl
 refine Fr (Vk S rfl rfl fun a S=>Dl (Fs (Fr (Vm S rfl rfl fun a S=>lv S (Fq Nn (S.tm rfl) (Fj Bf)) rfl fun a S=>lv S (Rm rfl) rfl ?_))));clear S;intro a S
 refine Dl ?_
 replace S:=S.k4 0 1 7 8 rfl
 obtain ⟨j1,hj1,h⟩:=Ep h
 refine Eg (fun a w'=>j1 = some r ∧ Sx w [] nov [] [] 19 a w') ?_ ?_
 ·refine wp_block (Gx (fun (ys1 : List Dm) a w'=>∃ i1 : Nat,(∃ dn,Ar = dn ++ ys1 ∧ dn.length = i1) ∧ Fk Aw j1 ys1 i1 = some r ∧ Sx w [] nov [] [(0,Ax),(1,.func (.func 160) #[] #[.pointer (some ⟨Az,0,none⟩)]),(7,iV (Ar.length : Int)),(8,iV (i1 : Int))] 19 a w') List.length Ar ⟨0,⟨[],rfl,rfl⟩,h,S.nf [] rfl (subR rfl)⟩ ?_)
  clear S h;rintro ys1 a w1 ⟨i1,⟨dn,hd1,hi1⟩,h,S⟩
  cases ys1 with
  | nil =>
   rw [Fk.eq_1] at h
   refine Fr (Vb S Et rfl rfl rfl fun a S=>Ld ?_)
   replace S:=S.k5 0 1 7 8 9 rfl
   exact Tn (Fs (wp_cond_false ((S.tm rfl).trans (congrArg Value.bool (Il hd1 hi1))) (wp_exit (Ed (Ed (Gp (Tn (⟨h,S.nf [] rfl trivial⟩))))))))
  | cons y1 ys1 =>
   rw [Fk.eq_2] at h
   refine Fr (Vb S Et rfl rfl rfl fun a S=>Ld ?_)
   replace S:=S.k5 0 1 7 8 9 rfl
   refine Tn (Fs (wp_cond_true ((S.tm rfl).trans (congrArg Value.bool (Ht hd1 hi1))) (wp_skip (Tn (Fs (wp_block (Fr (Vm S rfl rfl fun a S=>Va S rfl rfl ?_))))))));clear S;intro a S
   refine Dl (Fs (Fg ?_))
   iterate 3 (refine Vm S rfl rfl ?_;clear S;intro a S)
   obtain ⟨b1,o1,hm1,hr1⟩:=Ev (a:=a) (x:=.tmp 12) (y:=.tmp 13) (ty:=0) Nn Bf (Io hd1 hi1) rfl (S.tm rfl) (S.tm rfl)
   refine lv S (hr1 _) rfl ?_;clear S;intro a S
   clear hr1
   refine lv S (Fp isAgg129 sizeOf129 (off:=o1) (o:=0) (part:=(Dm.enc y1)) rfl rfl (S.tm rfl) (hm1.at S.emb0)) rfl ?_;clear S;intro a S
   obtain ⟨r1,hr2,h⟩:=Fa h
   refine Dw S (fun _=>Ts (cap:=[.pointer (some ⟨Az,0,none⟩)]) (S.tm rfl) (vs:=[.agg (Dm.enc y1).toArray]) ⟨(S.tm rfl),trivial⟩ call160) (AU _ y1 Az Co Aw (Cy.mono (S.le_arg Ec)) ((S.le_arg Ec) _ _ Bg) _ hr2) rfl ?_;clear S;intro v1 a w3 hv1 hk1 hn1 S
   subst hv1
   refine Dl (Fc h (S.tm rfl) (fun hb1 h=>?_) (fun hb1 h=>?_))
   ·refine Fr (Vm S rfl rfl fun a S=>Va S rfl rfl fun a S=>Ld ?_)
    replace S:=S.k1 4 rfl
    refine Tn (wp_ret (Fl (Dt (Dt (Fl (Dt (Dt ?_)))))))
    obtain rfl:=Option.some.inj h
    exact Ej S results169 rfl rfl
   ·exact wp_skip (Ho (Tn (Fg (Vq S Gc rfl rfl rfl fun a S=>Vm S rfl rfl fun a S=>Dl (⟨ys1,⟨i1 + 1,⟨_,(hd1).trans (List.append_cons _ _ _),by simp [hi1]⟩,h,S.nf [] rfl ⟨rfl,rfl,rfl,(congrArg (fun z=>some (Value.int .i64 z)) (Hu hd1 hi1 (Iz Bf))),trivial⟩⟩,Nat.lt_succ_self _⟩)))))
 clear S h;rintro a w2 ⟨h,S⟩;rw [hj1] at h;clear hj1 j1
 refine Tn (Fr (Vk S rfl rfl fun a S=>Dl (wp_ret ?_)))
 obtain rfl:=Option.some.inj h
 exact Ej S results169 rfl rfl
theorem Qs (w : World) (Ax : Value) (Ar : List Dm) (Bf : Slc (view w []) 5 Ax (Ar.map Dm.enc)) (Az : Nat) (Co : Value) (Aw : List Dm) (Cy : Slc (view w []) 5 Co (Aw.map Dm.enc)) (Bg : (view w []) Az = some (.cells [Co].toArray 125 (0,0))) (r : Bool) (h : Jg Ar Aw = some r) :
    Calls prog 159 [Ax,.func (.func 160) #[] #[.pointer (some ⟨Az,0,none⟩)]].toArray w (Ret w [] fun _ v _=>v = bV r):=by
 refine Fe func159 rfl ntmps159 rfl fun a S=>?_
 unfold Jg at h
 replace S:=S.k2 0 1 rfl
 refine Fr (Vk S rfl rfl fun a S=>Dz (Vm S rfl rfl fun a S=>Vm S rfl rfl ?_));clear S;intro a S
 obtain ⟨r1,hr1,h⟩:=Fa h
 refine Dw S (fun _=>Dp (vs:=[Ax,.func (.func 160) #[] #[.pointer (some ⟨Az,0,none⟩)]]) ⟨(S.tm rfl),(S.tm rfl),trivial⟩ call169) (Rs _ Ax Ar (Bf.mono (S.le_arg Ec)) Az Co Aw (Cy.mono (S.le_arg Ec)) ((S.le_arg Ec) _ _ Bg) _ hr1) rfl ?_;clear S;intro v1 a w1 hv1 hk1 hn1 S
 subst hv1
 refine Vq S Qe rfl rfl rfl fun a S=>Va S rfl rfl fun a S=>Dl (wp_ret ?_)
 obtain rfl:=Option.some.inj h
 exact Ej S results159 rfl rfl
set_option maxRecDepth 20000 in
theorem DX (w : World) (Ab : Value) (Ah : List Dm) (Af : Slc (view w []) 5 Ab (Ah.map Dm.enc)) (r : Int) (h : Qx Ah = some r) :
    Calls prog 139 [Ab].toArray w (Ret w [] fun _ v _=>v = iV r):=by
 refine Fe func139 rfl ntmps139 rfl fun a S=>?_
 unfold Qx at h
 replace S:=S.k1 0 rfl
 refine Fr (Vk S rfl rfl fun a S=>Dz (Rx (κ:=Fh) (ν:=Bool) S rfl (fun x=>Value.agg (Fh.enc x).toArray) Value.bool ?_));clear S;intro a w1 b1 hz1 hk1 S
 refine Va S rfl rfl fun a S=>Dl (Fs (Fr (Vm S rfl rfl fun a S=>lv S (Fq Nn (S.tm rfl) (Fj Af)) rfl fun a S=>lv S (Rm rfl) rfl fun a S=>Dl ?_)))
 replace S:=(S.nl [.map b1 (Gt (fun x=>Value.agg (Fh.enc x).toArray) Value.bool ([] : List (Fh × Bool))) ([] : List (Fh × Bool)).length] [true] rfl).k5 0 3 17 18 19 rfl
 obtain ⟨j1,hj1,h⟩:=Ep h
 refine Eg (fun a w'=>∃ x1 : List (Fh × Bool),j1 x1 = some r ∧ Sx w [] nov [.map b1 (Gt (fun x=>Value.agg (Fh.enc x).toArray) Value.bool x1) x1.length] [(0,Ab)] 122 a w') ?_ ?_
 ·refine wp_block (Gx (fun (ys1 : List Dm) a w'=>∃ i1 : Nat,∃ x1 : List (Fh × Bool),(∃ dn,Ah = dn ++ ys1 ∧ dn.length = i1) ∧ Ky j1 ys1 i1 x1 = some r ∧ Sx w [] nov [.map b1 (Gt (fun x=>Value.agg (Fh.enc x).toArray) Value.bool x1) x1.length] [(0,Ab),(3,.map (some b1)),(17,Ab),(18,iV (Ah.length : Int)),(19,iV (i1 : Int))] 122 a w') List.length Ah ⟨0,([] : List (Fh × Bool)),⟨[],rfl,rfl⟩,h,S.nf [true] rfl (subR rfl)⟩ ?_)
  clear S h;rintro ys1 a w2 ⟨i1,x1,⟨dn,hd1,hi1⟩,h,S⟩
  cases ys1 with
  | nil =>
   rw [Ky.eq_1] at h
   refine Fr (Vb S Et rfl rfl rfl fun a S=>Ld ?_)
   replace S:=S.k6 0 3 17 18 19 20 rfl
   exact Tn (Fs (wp_cond_false ((S.tm rfl).trans (congrArg Value.bool (Il hd1 hi1))) (wp_exit (Ed (Ed (Gp (Tn (⟨x1,h,S.nf [true] rfl ⟨rfl,trivial⟩⟩))))))))
  | cons y1 ys1 =>
   rw [Ky.eq_2] at h
   refine Fr (Vb S Et rfl rfl rfl fun a S=>Ld ?_)
   replace S:=S.k6 0 3 17 18 19 20 rfl
   refine Tn (Fs (wp_cond_true ((S.tm rfl).trans (congrArg Value.bool (Ht hd1 hi1))) (wp_skip (Tn (Fs (wp_block (Fs (Fg ?_))))))))
   obtain ⟨b2,o1,hm1,hr1⟩:=Ev (a:=a) (x:=.tmp 17) (y:=.tmp 19) (ty:=0) Nn Af (Io hd1 hi1) rfl (S.tm rfl) (S.tm rfl)
   refine lv S (hr1 _) rfl ?_;clear S;intro a S
   clear hr1
   refine lv S (Fp isAgg129 sizeOf129 (off:=o1) (o:=0) (part:=(Dm.enc y1)) rfl rfl (S.tm rfl) (hm1.at S.emb0)) rfl fun a S=>Hs S zeroValue129 (cs:=[sV An,sV An,sV An,iV 0,bV false]) rfl rfl ?_;clear S;intro a w4 b3 hz2 hk2 S
   refine Ex S (S.tm rfl) (S.tm rfl) (i:=0) (off:=0) rfl sizeOf129 (vs:=(Dm.enc y1)) rfl rfl rfl rfl ?_;clear S;intro w5 hk3 S
   refine Dl (Fs (Fr (Vm S rfl rfl fun a S=>Vf Xb S rfl rfl fun a S=>Vl isAgg9 0 S rfl rfl rfl rfl fun a S=>Vf Xc S rfl rfl fun a S=>Vl isAgg9 0 S rfl rfl rfl rfl fun a S=>lv S (Mr UP (pv:=[(0,sV y1.Race),(1,sV y1.Who)]) ⟨rfl,(S.tm rfl),rfl,(S.tm rfl),trivial⟩ (cs:=[sV y1.Race,sV y1.Who]) (by kernel_rfl)) rfl ?_)));clear S;intro a S
   refine lv S (Qa (kv:=(fun x=>Value.agg (Fh.enc x).toArray)) (vv:=Value.bool) (m:=x1) (key:=(Fh.mk y1.Race y1.Who)) (z:=false) (S.map_at (i:=1) rfl) underlying238 NI zeroValue4 (S.tm rfl) (S.tm rfl)) rfl fun a S=>Ld ?_
   replace S:=(S.nl [.blk b3 (Dm.enc y1) 129,.map b1 (Gt (fun x=>Value.agg (Fh.enc x).toArray) Value.bool x1) x1.length] [true,true] rfl).k7 0 3 5 17 18 19 29 rfl
   refine Tn (Fc h (S.tm rfl) (fun hb1 h=>?_) (fun hb1 h=>?_))
   ·refine Fr (Vk S rfl rfl fun a S=>Dl (wp_ret (Dt (Fl (Dt (Dt (Fl ?_)))))))
    refine Dt (Dt ?_)
    obtain rfl:=Option.some.inj h
    exact Ej S results139 rfl rfl
   ·refine wp_skip (Tn (Fg (Vm S rfl rfl fun a S=>Vf Xb S rfl rfl fun a S=>Vl isAgg9 0 S rfl rfl rfl rfl fun a S=>Vf Xc S rfl rfl fun a S=>Vl isAgg9 0 S rfl rfl rfl rfl fun a S=>lv S (Mr UP (pv:=[(0,sV y1.Race),(1,sV y1.Who)]) ⟨rfl,(S.tm rfl),rfl,(S.tm rfl),trivial⟩ (cs:=[sV y1.Race,sV y1.Who]) (by kernel_rfl)) rfl fun a S=>Pc (kv:=(fun x=>Value.agg (Fh.enc x).toArray)) (vv:=Value.bool) (m:=x1) (key:=(Fh.mk y1.Race y1.Who)) (val:=true) S (i:=1) rfl underlying238 NI (S.tm rfl) (S.tm rfl) rfl ?_)));clear S;intro w6 hk4 S
    exact Ld (Ho (Tn (Fg (Vq S Gc rfl rfl rfl fun a S=>Vm S rfl rfl fun a S=>Dl (⟨ys1,⟨i1 + 1,(Gl x1 (Fh.mk y1.Race y1.Who) true),⟨_,(hd1).trans (List.append_cons _ _ _),by simp [hi1]⟩,h,S.nf [false,true] rfl ⟨rfl,rfl,rfl,rfl,(congrArg (fun z=>some (Value.int .i64 z)) (Hu hd1 hi1 (Iz Af))),trivial⟩⟩,Nat.lt_succ_self _⟩)))))
 clear S h;rintro a w3 ⟨x1,h,S⟩;rw [hj1] at h;clear hj1 j1
 refine Tn (Fr (Vm S rfl rfl ?_));clear S;intro a S
 obtain ⟨r1,hr2,h⟩:=Fa h
 have hz3:=S.keep.size
 refine Dw S (fun _=>Dp (vs:=[Ab]) ⟨(S.tm rfl),trivial⟩ call114) (AM _ (join (view w []) nov) (Ng (S.le_arg Ec) (S.le_new Ec)) Ab Ah (Af.mono (le_join_left _ _)) _ hr2) rfl ?_;clear S;intro v1 a w7 hv1 hk5 hn1 S
 obtain ⟨φ1,hl1,hm2,S⟩:=S.see' hn1 hz3
 obtain ⟨rs1,ho2,hr3⟩:=hv1
 have hs1:=ho2.mono (Rb hl1 hm2)
 have hr4:=EN (Rb hl1 hm2) hr3
 refine Va S rfl rfl fun a S=>Dl (Fs (Fr (Vm S rfl rfl fun a S=>lv S (Fq AB (S.tm rfl) (Uj hs1 hr4)) rfl fun a S=>lv S (Rm rfl) rfl fun a S=>Dl ?_)))
 replace S:=S.n0.k4 6 39 40 41 rfl
 obtain ⟨j2,hj2,h⟩:=Ep h
 refine Eg (fun a w'=>j2 = some r ∧ Sx w [] φ1 [] [(6,v1)] 122 a w') ?_ ?_
 ·refine wp_block (Gx (fun (ys2 : List (List Dm)) a w'=>∃ i2 : Nat,(∃ dn,r1 = dn ++ ys2 ∧ dn.length = i2) ∧ Ke j2 ys2 i2 = some r ∧ Sx w [] φ1 [] [(6,v1),(39,v1),(40,iV (r1.length : Int)),(41,iV (i2 : Int))] 122 a w') List.length r1 ⟨0,⟨[],rfl,rfl⟩,h,S.nf [] rfl (subR rfl)⟩ ?_)
  clear S h;rintro ys2 a w8 ⟨i2,⟨dn,hd2,hi2⟩,h,S⟩
  cases ys2 with
  | nil =>
   rw [Ke.eq_1] at h
   refine Fr (Vb S Et rfl rfl rfl fun a S=>Ld ?_)
   replace S:=S.k5 6 39 40 41 42 rfl
   exact Tn (Fs (wp_cond_false ((S.tm rfl).trans (congrArg Value.bool (Il hd2 hi2))) (wp_exit (Ed (Ed (Gp (Tn (⟨h,S.nf [] rfl ⟨rfl,trivial⟩⟩))))))))
  | cons y2 ys2 =>
   rw [Ke.eq_2] at h
   refine Fr (Vb S Et rfl rfl rfl fun a S=>Ld ?_)
   replace S:=S.k5 6 39 40 41 42 rfl
   refine Tn (Fs (wp_cond_true ((S.tm rfl).trans (congrArg Value.bool (Ht hd2 hi2))) (wp_skip (Tn (Fs (wp_block (Fs (Fg ?_))))))))
   obtain ⟨r2,hg1,hl2⟩:=Lh.at hr4 (Io hd2 hi2)
   have hs2:=hl2
   obtain ⟨b4,o2,hm3,hr5⟩:=Ev (a:=a) (x:=.tmp 39) (y:=.tmp 41) (ty:=0) AB hs1 hg1 rfl (S.tm rfl) (S.tm rfl)
   refine lv S (hr5 _) rfl ?_;clear S;intro a S
   clear hr5
   refine lv S (Hm isAgg125 (off:=o2) (o:=0) (S.tm rfl) (hm3.at (Vh S.emb0 S.emb)) rfl) rfl fun a S=>Hs S zeroValue125 (cs:=[.slice none 0 0]) rfl rfl ?_;clear S;intro a w10 b5 hz4 hk6 S
   refine Ex S (S.tm rfl) (S.tm rfl) (i:=0) (off:=0) rfl sizeOf125 (vs:=[r2.val]) (Kq.cells (Fj hs2)) rfl rfl (Qz (Kq.one (Fj hs2)) rfl) ?_;clear S;intro w11 hk7 S
   refine Dz (Vl isAgg125 0 S rfl rfl rfl rfl fun a S=>lv S (Tg (us:=#[]) (xs:=[].toArray) (ys:=[.tmp 8].toArray) (by simp) (evA ⟨(S.tm rfl),trivial⟩ (vs:=[.pointer (some ⟨b5,0,none⟩)]))) rfl ?_);clear S;intro a S
   obtain ⟨r3,hr6,h⟩:=Fa h
   refine Dw S (fun _=>Dp (vs:=[r2.val,.func (.func 160) #[] #[.pointer (some ⟨b5,0,none⟩)]]) ⟨(S.tm rfl),(S.tm rfl),trivial⟩ call159) (Qs _ r2.val y2 (hs2.mono (Ng (S.le_arg Ec) (S.le_new Ec))) b5 r2.val y2 (hs2.mono (Ng (S.le_arg Ec) (S.le_new Ec))) (S.blk_view (i:=0) rfl ((Ia (e':=.blk b5 [r2.val] 125)) _ rfl)) _ hr6) rfl ?_;clear S;intro v2 a w12 hv2 hk8 hn2 S
   subst hv2
   refine Dl (Fc h (S.tm rfl) (fun hb2 h=>?_) (fun hb2 h=>?_))
   ·refine Fr (Vk S rfl rfl fun a S=>Dl (wp_ret (Fl (Dt (Dt (Fl (Dt ?_)))))))
    refine Dt ?_
    obtain rfl:=Option.some.inj h
    exact Ej S results139 rfl rfl
   ·exact wp_skip (Ho (Tn (Fg (Vq S Gc rfl rfl rfl fun a S=>Vm S rfl rfl fun a S=>Dl (⟨ys2,⟨i2 + 1,⟨_,(hd2).trans (List.append_cons _ _ _),by simp [hi2]⟩,h,S.nf [false] rfl ⟨rfl,rfl,rfl,(congrArg (fun z=>some (Value.int .i64 z)) (Hu hd2 hi2 (Wy hs1 hr4))),trivial⟩⟩,Nat.lt_succ_self _⟩)))))
 clear S h;rintro a w9 ⟨h,S⟩;rw [hj2] at h;clear hj2 j2
 refine Tn (Fs (Fr (Vm S rfl rfl fun a S=>lv S (Fq AB (S.tm rfl) (Uj hs1 hr4)) rfl fun a S=>lv S (Rm rfl) rfl fun a S=>Dl ?_)))
 replace S:=S.k4 6 49 50 51 rfl
 obtain ⟨j3,hj3,h⟩:=Ep h
 refine Eg (fun a w'=>j3 = some r ∧ Sx w [] φ1 [] [(6,v1)] 122 a w') ?_ ?_
 ·refine wp_block (Gx (fun (ys3 : List (List Dm)) a w'=>∃ i3 : Nat,(∃ dn,r1 = dn ++ ys3 ∧ dn.length = i3) ∧ Jo j3 ys3 i3 = some r ∧ Sx w [] φ1 [] [(6,v1),(49,v1),(50,iV (r1.length : Int)),(51,iV (i3 : Int))] 122 a w') List.length r1 ⟨0,⟨[],rfl,rfl⟩,h,S.nf [] rfl (subR rfl)⟩ ?_)
  clear S h;rintro ys3 a w13 ⟨i3,⟨dn,hd3,hi3⟩,h,S⟩
  cases ys3 with
  | nil =>
   rw [Jo.eq_1] at h
   refine Fr (Vb S Et rfl rfl rfl fun a S=>Ld ?_)
   replace S:=S.k5 6 49 50 51 52 rfl
   exact Tn (Fs (wp_cond_false ((S.tm rfl).trans (congrArg Value.bool (Il hd3 hi3))) (wp_exit (Ed (Ed (Gp (Tn (⟨h,S.nf [] rfl ⟨rfl,trivial⟩⟩))))))))
  | cons y3 ys3 =>
   rw [Jo.eq_2] at h
   refine Fr (Vb S Et rfl rfl rfl fun a S=>Ld ?_)
   replace S:=S.k5 6 49 50 51 52 rfl
   refine Tn (Fs (wp_cond_true ((S.tm rfl).trans (congrArg Value.bool (Ht hd3 hi3))) (wp_skip (Tn (Fs (wp_block (Fs (Fg ?_))))))))
   obtain ⟨r4,hg2,hl3⟩:=Lh.at hr4 (Io hd3 hi3)
   have hs3:=hl3
   obtain ⟨b6,o3,hm4,hr7⟩:=Ev (a:=a) (x:=.tmp 49) (y:=.tmp 51) (ty:=0) AB hs1 hg2 rfl (S.tm rfl) (S.tm rfl)
   refine lv S (hr7 _) rfl ?_;clear S;intro a S
   clear hr7
   refine lv S (Hm isAgg125 (off:=o3) (o:=0) (S.tm rfl) (hm4.at (Vh S.emb0 S.emb)) rfl) rfl fun a S=>Va S rfl rfl fun a S=>Dz (Vm S rfl rfl fun a S=>lv S (Fq Nn (S.tm rfl) (Fj hs3)) rfl fun a S=>lv S (Rm rfl) rfl fun a S=>Dl ?_)
   replace S:=S.k8 6 10 49 50 51 55 56 57 rfl
   obtain ⟨j4,hj4,h⟩:=Ep h
   refine Eg (fun a w'=>j4 = some r ∧ Sx w [] φ1 [] [(6,v1),(49,v1),(50,iV (r1.length : Int)),(51,iV (i3 : Int))] 122 a w') ?_ ?_
   ·refine wp_block (Gx (fun (ys4 : List Dm) a w'=>∃ i4 : Nat,(∃ dn,y3 = dn ++ ys4 ∧ dn.length = i4) ∧ Kz y3 j4 ys4 i4 = some r ∧ Sx w [] φ1 [] [(6,v1),(10,r4.val),(49,v1),(50,iV (r1.length : Int)),(51,iV (i3 : Int)),(55,r4.val),(56,iV (y3.length : Int)),(57,iV (i4 : Int))] 122 a w') List.length y3 ⟨0,⟨[],rfl,rfl⟩,h,S.nf [] rfl (subR rfl)⟩ ?_)
    clear S h;rintro ys4 a w15 ⟨i4,⟨dn,hd4,hi4⟩,h,S⟩
    cases ys4 with
    | nil =>
     rw [Kz.eq_1] at h
     refine Fr (Vb S Et rfl rfl rfl fun a S=>Ld ?_)
     replace S:=S.k9 6 10 49 50 51 55 56 57 58 rfl
     exact Tn (Fs (wp_cond_false ((S.tm rfl).trans (congrArg Value.bool (Il hd4 hi4))) (wp_exit (Ed (Ed (Gp (Tn (⟨h,S.nf [] rfl (subR rfl)⟩))))))))
    | cons y4 ys4 =>
     rw [Kz.eq_2] at h
     refine Fr (Vb S Et rfl rfl rfl fun a S=>Ld ?_)
     replace S:=S.k9 6 10 49 50 51 55 56 57 58 rfl
     refine Tn (Fs (wp_cond_true ((S.tm rfl).trans (congrArg Value.bool (Ht hd4 hi4))) (wp_skip (Tn (Fs (wp_block (Fr (Vm S rfl rfl ?_))))))));clear S;intro a S
     obtain ⟨b7,o4,hm5,hr8⟩:=Ev (a:=a) (x:=.tmp 55) (y:=.tmp 57) (ty:=0) Nn hs3 (Io hd4 hi4) rfl (S.tm rfl) (S.tm rfl)
     refine lv S (hr8 _) rfl ?_;clear S;intro a S
     clear hr8
     refine lv S (Fp isAgg129 sizeOf129 (off:=o4) (o:=0) (part:=(Dm.enc y4)) rfl rfl (S.tm rfl) (hm5.at (Vh S.emb0 S.emb))) rfl fun a S=>Hs S zeroValue129 (cs:=[sV An,sV An,sV An,iV 0,bV false]) rfl rfl ?_;clear S;intro a w17 b8 hz5 hk9 S
     refine Va S rfl rfl fun a S=>Ex S (S.tm rfl) (S.tm rfl) (i:=0) (off:=0) rfl sizeOf129 (vs:=(Dm.enc y4)) rfl rfl rfl rfl ?_;clear S;intro w18 hk10 S
     refine Dl (Fs (Hd [] ([]) Tryz.mixed S rfl (by kernel_rfl) ?_));clear S;intro w19 hk11 hsel S
     refine Lw [0,1,2,3,4,5,6,7,8,9,10,11,12,13,14,15,16,17,18,19,20,21,22,23,24] hsel (by kernel_rfl) rfl ?_
     clear hsel
     refine Gm S rfl (Fy Np (S.tm rfl)) rfl fun a S=>Gm S rfl (La isAgg3 (S.tm rfl) (S.cell (i:=0) rfl rfl)) rfl fun a S=>Gm S rfl (It (S.tm rfl) rfl) rfl fun a S=>Gm S rfl (Rm (S.tm rfl)) rfl fun a S=>Ue 6 (fun a w'=>Keep [] w19 w' ∧ Sx w [] φ1 [.blk b8 (Dm.enc y4) 129] [(6,v1),(10,r4.val),(11,iV (i4 : Int)),(12,.pointer (some ⟨b8,0,none⟩)),(49,v1),(50,iV (r1.length : Int)),(51,iV (i3 : Int)),(55,r4.val),(56,iV (y3.length : Int)),(57,iV (i4 : Int)),(71,bV ((decide (0 < y4.Rank)) && (!decide (y4.Rank = (W ((i4 : Int) + 1))))))] 122 a w') ?_ ?_
     ·rcases Bool.eq_false_or_eq_true (decide (0 < y4.Rank)) with hb3 | hb3
      ·refine Ee S rfl rfl rfl rfl hb3 (Fb S (Fy Np (S.tm rfl)) rfl fun a S=>Ee S rfl rfl rfl rfl hb3 (Fb S (La isAgg3 (S.tm rfl) (S.cell (i:=0) rfl rfl)) rfl fun a S=>Ee S rfl rfl rfl rfl hb3 (Fb S (Rm (S.tm rfl)) rfl fun a S=>Ee S rfl rfl rfl rfl hb3 (Fb S (Gc (S.tm rfl) rfl) rfl fun a S=>Ee S rfl rfl rfl rfl hb3 (Fb S (Kw (S.tm rfl) (S.tm rfl)) rfl fun a S=>Gm S rfl (Hg hb3 (S.tm rfl) (S.tm rfl)) rfl ?_)))));clear S;intro a S
       exact Hv (⟨Keep.refl _ _,S.nf [true] rfl (subR rfl)⟩)
      ·iterate 5 (refine Nk S rfl rfl rfl rfl (Jh hb3) rfl ?_ rfl;clear S;intro a S)
       exact Gm S rfl (Hh (!decide (y4.Rank = (W ((i4 : Int) + 1)))) hb3 (S.tm rfl) rfl) rfl fun a S=>Hv (⟨Keep.refl _ _,S.nf [true] rfl (subR rfl)⟩)
     clear S;rintro a w20 ⟨hk12,S⟩
     refine Gm S rfl (Rm (S.tm rfl)) rfl ?_;clear S;intro a S
     obtain ⟨j5,hj5,h⟩:=Ep h
     refine Ue 14 (fun a w'=>∃ c1,j5 c1 = some r ∧ Keep [] w20 w' ∧ Sx w [] φ1 [.blk b8 (Dm.enc y4) 129] [(6,v1),(10,r4.val),(49,v1),(50,iV (r1.length : Int)),(51,iV (i3 : Int)),(55,r4.val),(56,iV (y3.length : Int)),(57,iV (i4 : Int)),(86,bV c1)] 122 a w') ?_ ?_
     ·rcases Bool.eq_false_or_eq_true ((decide (0 < y4.Rank)) && (!decide (y4.Rank = (W ((i4 : Int) + 1))))) with hb4 | hb4
      ·replace h:=Qc h hb4
       refine Ee S rfl rfl rfl rfl hb4 (Fb S (Rm (S.tm rfl)) rfl fun a S=>Ee S rfl rfl rfl rfl hb4 (Fb S (Im (S.tm rfl) rfl) rfl fun a S=>Ee S rfl rfl rfl rfl hb4 (Fb S (Rm (S.tm rfl)) rfl ?_)));clear S;intro a S
       obtain ⟨j6,hj6,h⟩:=Ep h
       refine Ue 10 (fun a w'=>∃ c2,j6 c2 = some r ∧ Keep [] w20 w' ∧ Sx w [] φ1 [.blk b8 (Dm.enc y4) 129] [(6,v1),(10,r4.val),(49,v1),(50,iV (r1.length : Int)),(51,iV (i3 : Int)),(55,r4.val),(56,iV (y3.length : Int)),(57,iV (i4 : Int)),(72,bV ((decide (0 < y4.Rank)) && (!decide (y4.Rank = (W ((i4 : Int) + 1)))))),(73,iV (i4 : Int)),(74,bV (decide ((i4 : Int) = 0))),(75,bV (decide ((i4 : Int) = 0))),(85,bV c2)] 122 a w') ?_ ?_
       ·rcases Bool.eq_false_or_eq_true (decide ((i4 : Int) = 0)) with hb5 | hb5
        ·replace h:=Qc h hb5
         iterate 9 (refine Nk S rfl rfl rfl rfl (Kp hb5) rfl ?_ rfl;clear S;intro a S)
         exact Ee S rfl rfl rfl rfl hb4 (Fb S (Jq true hb5 (S.tm rfl) rfl) rfl fun a S=>Hv (⟨_,h,Keep.refl _ _,S.nf [true] rfl (subR rfl)⟩))
        ·replace h:=Qd h hb5
         refine Ee S rfl rfl rfl rfl hb5 (Fb S (Fy Np (S.tm rfl)) rfl fun a S=>Ee S rfl rfl rfl rfl hb5 (Fb S (La isAgg3 (S.tm rfl) (S.cell (i:=0) rfl rfl)) rfl fun a S=>Ee S rfl rfl rfl rfl hb5 (Fb S (Rm (S.tm rfl)) rfl fun a S=>Ee S rfl rfl rfl rfl hb5 (Fb S (Rm (S.tm rfl)) rfl fun a S=>Ee S rfl rfl rfl rfl hb5 (Fb S (Iu (S.tm rfl) rfl) rfl fun a S=>Ee S rfl rfl rfl rfl hb5 ?_)))))
         obtain ⟨hc1,h⟩:=Ie h
         obtain ⟨b9,o5,hm6,hr9⟩:=Ev (a:=a) (x:=.tmp 78) (y:=.tmp 80) (ty:=0) Nn hs3 (Dx hc1).1 (Dx hc1).2 (S.tm rfl) (S.tm rfl)
         refine Fb S (hr9 _) rfl ?_;clear S;intro a S
         clear hr9
         exact Ee S rfl rfl rfl rfl hb5 (Fb S (Fy Np (S.tm rfl)) rfl fun a S=>Ee S rfl rfl rfl rfl hb5 (Fb S (Hm isAgg3 (off:=o5) (o:=3) (S.tm rfl) (hm6.at (Vh S.emb0 S.emb)) rfl) rfl fun a S=>Ee S rfl rfl rfl rfl hb5 (Fb S (Kw (S.tm rfl) (S.tm rfl)) rfl fun a S=>Ee S rfl rfl rfl rfl hb4 (Fb S (Jr hb5 (S.tm rfl) (S.tm rfl)) rfl fun a S=>Hv (⟨_,h,Keep.refl _ _,S.nf [true] rfl (subR rfl)⟩)))))
       clear S h;rintro a w22 ⟨c2,h,hk13,S⟩;rw [hj6] at h;clear hj6 j6
       exact Gm S rfl (Hg hb4 (S.tm rfl) (S.tm rfl)) rfl fun a S=>Hv (⟨_,h,hk13,S.nf [true] rfl (subR rfl)⟩)
      ·replace h:=Qd h hb4
       iterate 3 (refine Nk S rfl rfl rfl rfl (Jh hb4) rfl ?_ rfl;clear S;intro a S)
       iterate 9 (refine HO S rfl rfl rfl rfl rfl ?_;clear S;intro a S)
       exact Nk S rfl rfl rfl rfl (Jh hb4) rfl (fun a S=>Gm S rfl (Hh true hb4 (S.tm rfl) rfl) rfl fun a S=>Hv (⟨_,h,Keep.refl _ _,S.nf [true] rfl (subR rfl)⟩)) rfl
     clear S h;rintro a w21 ⟨c1,h,hk14,S⟩;rw [hj5] at h;clear hj5 j5
     refine Hv ?_
     replace S:=S.n0.k9 6 10 49 50 51 55 56 57 86 rfl
     refine Tn (Fc h (S.tm rfl) (fun hb6 h=>?_) (fun hb6 h=>?_))
     ·refine Fr (Vk S rfl rfl fun a S=>Dl (wp_ret (Fl (Dt (Dt (Fl (Dt ?_)))))))
      refine Fl (Dt (Dt (Fl (Dt (Dt ?_)))))
      obtain rfl:=Option.some.inj h
      exact Ej S results139 rfl rfl
     ·exact wp_skip (Ho (Tn (Fg (Vq S Gc rfl rfl rfl fun a S=>Vm S rfl rfl fun a S=>Dl (⟨ys4,⟨i4 + 1,⟨_,(hd4).trans (List.append_cons _ _ _),by simp [hi4]⟩,h,S.nf [] rfl ⟨rfl,rfl,rfl,rfl,rfl,rfl,rfl,(congrArg (fun z=>some (Value.int .i64 z)) (Hu hd4 hi4 (Iz hs3))),trivial⟩⟩,Nat.lt_succ_self _⟩)))))
   clear S h;rintro a w16 ⟨h,S⟩;rw [hj4] at h;clear hj4 j4
   exact Ho (Tn (Fg (Vq S Gc rfl rfl rfl fun a S=>Vm S rfl rfl fun a S=>Dl (⟨ys3,⟨i3 + 1,⟨_,(hd3).trans (List.append_cons _ _ _),by simp [hi3]⟩,h,S.nf [] rfl ⟨rfl,rfl,rfl,(congrArg (fun z=>some (Value.int .i64 z)) (Hu hd3 hi3 (Wy hs1 hr4))),trivial⟩⟩,Nat.lt_succ_self _⟩))))
 clear S h;rintro a w14 ⟨h,S⟩;rw [hj3] at h;clear hj3 j3
 refine Tn (Fs (Fr (Vm S rfl rfl fun a S=>lv S (Fq AB (S.tm rfl) (Uj hs1 hr4)) rfl fun a S=>lv S (Rm rfl) rfl fun a S=>Dl ?_)))
 replace S:=S.k3 89 90 91 rfl
 obtain ⟨j7,hj7,h⟩:=Ep h
 refine Eg (fun a w'=>j7 = some r ∧ Sx w [] φ1 [] [] 122 a w') ?_ ?_
 ·refine wp_block (Gx (fun (ys5 : List (List Dm)) a w'=>∃ i5 : Nat,(∃ dn,r1 = dn ++ ys5 ∧ dn.length = i5) ∧ Kf j7 ys5 i5 = some r ∧ Sx w [] φ1 [] [(89,v1),(90,iV (r1.length : Int)),(91,iV (i5 : Int))] 122 a w') List.length r1 ⟨0,⟨[],rfl,rfl⟩,h,S.nf [] rfl (subR rfl)⟩ ?_)
  clear S h;rintro ys5 a w23 ⟨i5,⟨dn,hd5,hi5⟩,h,S⟩
  cases ys5 with
  | nil =>
   rw [Kf.eq_1] at h
   refine Fr (Vb S Et rfl rfl rfl fun a S=>Ld ?_)
   replace S:=S.k4 89 90 91 92 rfl
   exact Tn (Fs (wp_cond_false ((S.tm rfl).trans (congrArg Value.bool (Il hd5 hi5))) (wp_exit (Ed (Ed (Gp (Tn (⟨h,S.nf [] rfl trivial⟩))))))))
  | cons y5 ys5 =>
   rw [Kf.eq_2] at h
   refine Fr (Vb S Et rfl rfl rfl fun a S=>Ld ?_)
   replace S:=S.k4 89 90 91 92 rfl
   refine Tn (Fs (wp_cond_true ((S.tm rfl).trans (congrArg Value.bool (Ht hd5 hi5))) (wp_skip (Tn (Fs (wp_block (Fs (Fg ?_))))))))
   obtain ⟨r5,hg3,hl4⟩:=Lh.at hr4 (Io hd5 hi5)
   have hs4:=hl4
   obtain ⟨b10,o6,hm7,hr10⟩:=Ev (a:=a) (x:=.tmp 89) (y:=.tmp 91) (ty:=0) AB hs1 hg3 rfl (S.tm rfl) (S.tm rfl)
   refine lv S (hr10 _) rfl ?_;clear S;intro a S
   clear hr10
   refine lv S (Hm isAgg125 (off:=o6) (o:=0) (S.tm rfl) (hm7.at (Vh S.emb0 S.emb)) rfl) rfl fun a S=>Va S rfl rfl fun a S=>Dz (Vk S rfl rfl fun a S=>Dl ?_)
   replace S:=S.k5 14 15 89 90 91 rfl
   obtain ⟨j8,hj8,h⟩:=Ep h
   refine Eg (fun a w'=>j8 = some r ∧ Sx w [] φ1 [] [(89,v1),(90,iV (r1.length : Int)),(91,iV (i5 : Int))] 122 a w') ?_ ?_
   ·refine wp_block (Gx (fun (m1 : Nat) a w'=>∃ x2 : Int,Mb y5 j8 m1 x2 = some r ∧ Sx w [] φ1 [] [(14,r5.val),(15,iV x2),(89,v1),(90,iV (r1.length : Int)),(91,iV (i5 : Int))] 122 a w') id (((y5.length : Int) - 10).toNat + 2) ⟨10,h,S.nf [] rfl (subR rfl)⟩ ?_)
    clear S h;rintro m1 a w25 ⟨x2,h,S⟩
    cases m1 with
    | zero=>rw [Mb.eq_1] at h;cases h
    | succ m1 =>
     rw [Mb.eq_2] at h
     refine Fs (Fr (Vm S rfl rfl fun a S=>Vm S rfl rfl fun a S=>lv S (Fq Nn (S.tm rfl) (Fj hs4)) rfl fun a S=>Vb S Et rfl rfl rfl fun a S=>Dl (Fc h (S.tm rfl) (fun hb7 h=>?_) (fun hb7 h=>?_))))
     ·refine wp_skip (Tn (Fs (wp_block (Fs (Hd [] ([]) Tryz.mixed S rfl (by kernel_rfl) ?_)))));clear S;intro w27 hk15 hsel S
      refine Lw [0,1,2,3,4,5,6,7,8,9,10,11,12,13,14,15,16,17,18,19] hsel (by kernel_rfl) rfl ?_
      clear hsel
      refine Gm S rfl (Rm (S.tm rfl)) rfl fun a S=>Gm S rfl (Rm (S.tm rfl)) rfl ?_;clear S;intro a S
      obtain ⟨hc2,h⟩:=Ie h
      obtain ⟨b11,o7,hm8,hr11⟩:=Ev (a:=a) (x:=.tmp 101) (y:=.tmp 102) (ty:=0) Nn hs4 (Dx hc2).1 (Dx hc2).2 (S.tm rfl) (S.tm rfl)
      refine Gm S rfl (hr11 _) rfl ?_;clear S;intro a S
      clear hr11
      refine Gm S rfl (Fy Np (S.tm rfl)) rfl fun a S=>Gm S rfl (Hm isAgg3 (off:=o7) (o:=3) (S.tm rfl) (hm8.at (Vh S.emb0 S.emb)) rfl) rfl fun a S=>Gm S rfl (It (S.tm rfl) rfl) rfl fun a S=>Gm S rfl (Rm (S.tm rfl)) rfl ?_;clear S;intro a S
      obtain ⟨j9,hj9,h⟩:=Ep h
      refine Ue 13 (fun a w'=>∃ c3,j9 c3 = some r ∧ Keep [] w27 w' ∧ Sx w [] φ1 [] [(14,r5.val),(15,iV x2),(89,v1),(90,iV (r1.length : Int)),(91,iV (i5 : Int)),(120,bV c3)] 122 a w') ?_ ?_
      ·rcases Bool.eq_false_or_eq_true (decide (0 < ((nth y5 x2).Rank))) with hb8 | hb8
       ·replace h:=Qc h hb8
        refine Ee S rfl rfl rfl rfl hb8 (Fb S (Rm (S.tm rfl)) rfl fun a S=>Ee S rfl rfl rfl rfl hb8 (Fb S (Rm (S.tm rfl)) rfl fun a S=>Ee S rfl rfl rfl rfl hb8 ?_))
        obtain ⟨hc3,h⟩:=Ie h
        obtain ⟨b12,o8,hm9,hr12⟩:=Ev (a:=a) (x:=.tmp 108) (y:=.tmp 109) (ty:=0) Nn hs4 (Dx hc3).1 (Dx hc3).2 (S.tm rfl) (S.tm rfl)
        refine Fb S (hr12 _) rfl ?_;clear S;intro a S
        clear hr12
        refine Ee S rfl rfl rfl rfl hb8 (Fb S (Fy Np (S.tm rfl)) rfl fun a S=>Ee S rfl rfl rfl rfl hb8 (Fb S (Hm isAgg3 (off:=o8) (o:=3) (S.tm rfl) (hm9.at (Vh S.emb0 S.emb)) rfl) rfl fun a S=>Ee S rfl rfl rfl rfl hb8 (Fb S (Rm (S.tm rfl)) rfl fun a S=>Ee S rfl rfl rfl rfl hb8 (Fb S (Rm (S.tm rfl)) rfl fun a S=>Ee S rfl rfl rfl rfl hb8 (Fb S (Iu (S.tm rfl) rfl) rfl fun a S=>Ee S rfl rfl rfl rfl hb8 ?_)))))
        obtain ⟨hc4,h⟩:=Ie h
        obtain ⟨b13,o9,hm10,hr13⟩:=Ev (a:=a) (x:=.tmp 113) (y:=.tmp 115) (ty:=0) Nn hs4 (Dx hc4).1 (Dx hc4).2 (S.tm rfl) (S.tm rfl)
        refine Fb S (hr13 _) rfl ?_;clear S;intro a S
        clear hr13
        exact Ee S rfl rfl rfl rfl hb8 (Fb S (Fy Np (S.tm rfl)) rfl fun a S=>Ee S rfl rfl rfl rfl hb8 (Fb S (Hm isAgg3 (off:=o9) (o:=3) (S.tm rfl) (hm10.at (Vh S.emb0 S.emb)) rfl) rfl fun a S=>Ee S rfl rfl rfl rfl hb8 (Fb S (Im (S.tm rfl) (S.tm rfl)) rfl fun a S=>Gm S rfl (Hg hb8 (S.tm rfl) (S.tm rfl)) rfl fun a S=>Hv (⟨_,h,Keep.refl _ _,S.nf [] rfl (subR rfl)⟩))))
       ·replace h:=Qd h hb8
        iterate 12 (refine Nk S rfl rfl rfl rfl (Jh hb8) rfl ?_ rfl;clear S;intro a S)
        exact Gm S rfl (Hh true hb8 (S.tm rfl) rfl) rfl fun a S=>Hv (⟨_,h,Keep.refl _ _,S.nf [] rfl (subR rfl)⟩)
      clear S h;rintro a w28 ⟨c3,h,hk16,S⟩;rw [hj9] at h;clear hj9 j9
      refine Hv ?_
      replace S:=S.k6 14 15 89 90 91 120 rfl
      refine Tn (Fc h (S.tm rfl) (fun hb9 h=>?_) (fun hb9 h=>?_))
      ·refine Fr (Vk S rfl rfl fun a S=>Dl (wp_ret (Fl (Dt (Dt (Fl (Dt ?_)))))))
       refine Fl (Dt (Dt (Fl (Dt (Dt ?_)))))
       obtain rfl:=Option.some.inj h
       exact Ej S results139 rfl rfl
      ·exact wp_skip (Ho (Tn (Fg (Vm S rfl rfl fun a S=>Vq S Gc rfl rfl rfl fun a S=>Va S rfl rfl fun a S=>Dl (⟨m1,⟨W (x2 + 1),h,S.nf [] rfl ⟨rfl,rfl,rfl,rfl,rfl,trivial⟩⟩,Nat.lt_succ_self _⟩)))))
     ·exact wp_exit (Ed (Ed (Gp (Tn (⟨h,S.nf [] rfl (subR rfl)⟩)))))
   clear S h;rintro a w26 ⟨h,S⟩;rw [hj8] at h;clear hj8 j8
   exact Ho (Tn (Fg (Vq S Gc rfl rfl rfl fun a S=>Vm S rfl rfl fun a S=>Dl (⟨ys5,⟨i5 + 1,⟨_,(hd5).trans (List.append_cons _ _ _),by simp [hi5]⟩,h,S.nf [] rfl ⟨rfl,rfl,(congrArg (fun z=>some (Value.int .i64 z)) (Hu hd5 hi5 (Wy hs1 hr4))),trivial⟩⟩,Nat.lt_succ_self _⟩))))
 clear S h;rintro a w24 ⟨h,S⟩;rw [hj7] at h;clear hj7 j7
 refine Tn (Fr (Vk S rfl rfl fun a S=>Dl (wp_ret ?_)))
 obtain rfl:=Option.some.inj h
 exact Ej S results139 rfl rfl
set_option maxRecDepth 20000 in
theorem AV (w : World) (Ab : Value) (Ah : List Dm) (Af : Slc (view w []) 5 Ab (Ah.map Dm.enc)) (r : Int) (h : Ql Ah = some r) :
    Calls prog 113 [Ab].toArray w (Ret w [] fun _ v _=>v = iV r):=by
 refine Fe func113 rfl ntmps113 rfl fun a S=>?_
 unfold Ql at h
 replace S:=S.k1 0 rfl
 refine Fr (Vk S rfl rfl fun a S=>Dl (Fs (Fr (Vm S rfl rfl fun a S=>lv S (Fq Nn (S.tm rfl) (Fj Af)) rfl fun a S=>Vq S It rfl rfl rfl ?_))));clear S;intro a S
 refine Dl (Fc h (S.tm rfl) (fun hb1 h=>?_) (fun hb1 h=>?_))
 ·refine Fr (Vk S rfl rfl fun a S=>Dl (wp_ret (Dt ?_)))
  obtain rfl:=Option.some.inj h
  exact Ej S results113 rfl rfl
 ·refine wp_skip (Tn (Fs (Fr (Vm S rfl rfl fun a S=>lv S (Fq Nn (S.tm rfl) (Fj Af)) rfl fun a S=>lv S (Rm rfl) rfl fun a S=>Dl ?_))))
  replace S:=S.k4 0 8 9 10 rfl
  obtain ⟨j1,hj1,h⟩:=Ep h
  refine Eg (fun a w'=>j1 = some r ∧ Sx w [] nov [] [(0,Ab)] 58 a w') ?_ ?_
  ·refine wp_block (Gx (fun (ys1 : List Dm) a w'=>∃ i1 : Nat,(∃ dn,Ah = dn ++ ys1 ∧ dn.length = i1) ∧ Jm Ah j1 ys1 i1 = some r ∧ Sx w [] nov [] [(0,Ab),(8,Ab),(9,iV (Ah.length : Int)),(10,iV (i1 : Int))] 58 a w') List.length Ah ⟨0,⟨[],rfl,rfl⟩,h,S.nf [] rfl (subR rfl)⟩ ?_)
   clear S h;rintro ys1 a w1 ⟨i1,⟨dn,hd1,hi1⟩,h,S⟩
   cases ys1 with
   | nil =>
    rw [Jm.eq_1] at h
    refine Fr (Vb S Et rfl rfl rfl fun a S=>Ld ?_)
    replace S:=S.k5 0 8 9 10 11 rfl
    exact Tn (Fs (wp_cond_false ((S.tm rfl).trans (congrArg Value.bool (Il hd1 hi1))) (wp_exit (Ed (Ed (Gp (Tn (⟨h,S.nf [] rfl ⟨rfl,trivial⟩⟩))))))))
   | cons y1 ys1 =>
    rw [Jm.eq_2] at h
    refine Fr (Vb S Et rfl rfl rfl fun a S=>Ld ?_)
    replace S:=S.k5 0 8 9 10 11 rfl
    refine Tn (Fs (wp_cond_true ((S.tm rfl).trans (congrArg Value.bool (Ht hd1 hi1))) (wp_skip (Tn (Fs (wp_block (Fr (Vm S rfl rfl ?_))))))));clear S;intro a S
    obtain ⟨b1,o1,hm1,hr1⟩:=Ev (a:=a) (x:=.tmp 8) (y:=.tmp 10) (ty:=0) Nn Af (Io hd1 hi1) rfl (S.tm rfl) (S.tm rfl)
    refine lv S (hr1 _) rfl ?_;clear S;intro a S
    clear hr1
    refine lv S (Fp isAgg129 sizeOf129 (off:=o1) (o:=0) (part:=(Dm.enc y1)) rfl rfl (S.tm rfl) (hm1.at S.emb0)) rfl fun a S=>Hs S zeroValue129 (cs:=[sV An,sV An,sV An,iV 0,bV false]) rfl rfl ?_;clear S;intro a w3 b2 hz1 hk1 S
    refine Va S rfl rfl fun a S=>Ex S (S.tm rfl) (S.tm rfl) (i:=0) (off:=0) rfl sizeOf129 (vs:=(Dm.enc y1)) rfl rfl rfl rfl ?_;clear S;intro w4 hk2 S
    refine Dl (wp_block (Fr (Vf Xb S rfl rfl fun a S=>Vl isAgg9 0 S rfl rfl rfl rfl ?_)));clear S;intro a S
    obtain ⟨r1,hr2,h⟩:=Fa h
    refine Dw S (fun _=>Dp (vs:=[sV y1.Race]) ⟨(S.tm rfl),trivial⟩ call95) (Ij _ y1.Race _ hr2) rfl ?_;clear S;intro v1 a w5 hv1 hk3 hn1 S
    subst hv1
    refine Vu S Hj rfl rfl fun a S=>Vm S rfl rfl ?_;clear S;intro a S
    obtain ⟨j2,hj2,h⟩:=Ep h
    refine Hn 5 (fun a w'=>∃ c1,j2 c1 = some r ∧ Keep [] w5 w' ∧ Sx w [] nov [.blk b2 (Dm.enc y1) 129] [(0,Ab),(3,iV (i1 : Int)),(4,.pointer (some ⟨b2,0,none⟩)),(8,Ab),(9,iV (Ah.length : Int)),(10,iV (i1 : Int)),(25,bV c1)] 58 a w') ?_ ?_
    ·rcases Bool.eq_false_or_eq_true (!r1) with hb2 | hb2
     ·replace h:=Qc h hb2
      iterate 4 (refine Gn S rfl rfl rfl (Kp hb2) rfl ?_ rfl;clear S;intro a S)
      exact Vq S (Jq true hb2) rfl rfl rfl fun a S=>Dl (⟨_,h,Keep.refl _ _,S.nf [true] rfl (subR rfl)⟩)
     ·replace h:=Qd h hb2
      refine Du S rfl rfl rfl hb2 (Vf Xc S rfl rfl fun a S=>Du S rfl rfl rfl hb2 (Vl isAgg9 0 S rfl rfl rfl rfl fun a S=>Du S rfl rfl rfl hb2 ?_))
      obtain ⟨r2,hr3,h⟩:=Fa h
      refine Dw S (fun _=>Dp (vs:=[sV y1.Who]) ⟨(S.tm rfl),trivial⟩ call95) (Ij _ y1.Who _ hr3) rfl ?_;clear S;intro v2 a w7 hv2 hk4 hn2 S
      subst hv2
      exact Du S rfl rfl rfl hb2 (Vu S Hj rfl rfl fun a S=>lv S (Jr hb2 (S.tm rfl) (S.tm rfl)) rfl fun a S=>Dl (⟨_,h,hk4,S.nf [true] rfl (subR rfl)⟩))
    clear S h;rintro a w6 ⟨c1,h,hk5,S⟩;rw [hj2] at h;clear hj2 j2
    refine Vm S rfl rfl ?_;clear S;intro a S
    obtain ⟨j3,hj3,h⟩:=Ep h
    refine Hn 10 (fun a w'=>∃ c2,j3 c2 = some r ∧ Keep [] w6 w' ∧ Sx w [] nov [.blk b2 (Dm.enc y1) 129] [(0,Ab),(3,iV (i1 : Int)),(4,.pointer (some ⟨b2,0,none⟩)),(8,Ab),(9,iV (Ah.length : Int)),(10,iV (i1 : Int)),(36,bV c2)] 58 a w') ?_ ?_
    ·rcases Bool.eq_false_or_eq_true c1 with hb3 | hb3
     ·replace h:=Qc h hb3
      iterate 4 (refine Gn S rfl rfl rfl (Kp hb3) rfl ?_ rfl;clear S;intro a S)
      iterate 4 (refine Xl S rfl rfl rfl rfl ?_;clear S;intro a S)
      exact Gn S rfl rfl rfl (Kp hb3) rfl (fun a S=>Vq S (Jq true hb3) rfl rfl rfl fun a S=>Dl (⟨_,h,Keep.refl _ _,S.nf [true] rfl (subR rfl)⟩)) rfl
     ·replace h:=Qd h hb3
      refine Du S rfl rfl rfl hb3 (Vf BM S rfl rfl fun a S=>Du S rfl rfl rfl hb3 (Vl isAgg9 0 S rfl rfl rfl rfl fun a S=>Du S rfl rfl rfl hb3 (Vq S CE rfl rfl rfl fun a S=>Du S rfl rfl rfl hb3 (Vm S rfl rfl ?_))));clear S;intro a S
      obtain ⟨j4,hj4,h⟩:=Ep h
      refine Hn 5 (fun a w'=>∃ c3,j4 c3 = some r ∧ Keep [] w6 w' ∧ Sx w [] nov [.blk b2 (Dm.enc y1) 129] [(0,Ab),(3,iV (i1 : Int)),(4,.pointer (some ⟨b2,0,none⟩)),(8,Ab),(9,iV (Ah.length : Int)),(10,iV (i1 : Int)),(26,bV c1),(27,.pointer (some ⟨b2,2,none⟩)),(28,sV y1.Club),(29,bV (!decide (y1.Club = An))),(30,bV (!decide (y1.Club = An))),(35,bV c3)] 58 a w') ?_ ?_
      ·rcases Bool.eq_false_or_eq_true (!decide (y1.Club = An)) with hb4 | hb4
       ·replace h:=Qc h hb4
        refine Du S rfl rfl rfl hb4 (Vf BM S rfl rfl fun a S=>Du S rfl rfl rfl hb4 (Vl isAgg9 0 S rfl rfl rfl rfl fun a S=>Du S rfl rfl rfl hb4 ?_))
        obtain ⟨r3,hr4,h⟩:=Fa h
        refine Dw S (fun _=>Dp (vs:=[sV y1.Club]) ⟨(S.tm rfl),trivial⟩ call95) (Ij _ y1.Club _ hr4) rfl ?_;clear S;intro v3 a w10 hv3 hk6 hn3 S
        subst hv3
        exact Du S rfl rfl rfl hb4 (Vu S Hj rfl rfl fun a S=>Du S rfl rfl rfl hb3 (lv S (Hg hb4 (S.tm rfl) (S.tm rfl)) rfl fun a S=>Dl (⟨_,h,hk6,S.nf [true] rfl (subR rfl)⟩)))
       ·replace h:=Qd h hb4
        iterate 4 (refine Gn S rfl rfl rfl (Jh hb4) rfl ?_ rfl;clear S;intro a S)
        exact Du S rfl rfl rfl hb3 (Vq S (Hh true hb4) rfl rfl rfl fun a S=>Dl (⟨_,h,Keep.refl _ _,S.nf [true] rfl (subR rfl)⟩))
      clear S h;rintro a w9 ⟨c3,h,hk7,S⟩;rw [hj4] at h;clear hj4 j4
      exact lv S (Jr hb3 (S.tm rfl) (S.tm rfl)) rfl fun a S=>Dl (⟨_,h,hk7,S.nf [true] rfl (subR rfl)⟩)
    clear S h;rintro a w8 ⟨c2,h,hk8,S⟩;rw [hj3] at h;clear hj3 j3
    refine Va S rfl rfl fun a S=>Dl (Fc h (S.tm rfl) (fun hb5 h=>?_) (fun hb5 h=>?_))
    ·refine Fr (Vk S rfl rfl fun a S=>Dl (wp_ret (Fl (Fl (Dt (Dt (Fl ?_)))))))
     refine Dt (Dt ?_)
     obtain rfl:=Option.some.inj h
     exact Ej S results113 rfl rfl
    ·refine Fr (Vf Np S rfl rfl fun a S=>Vl isAgg3 0 S rfl rfl rfl rfl fun a S=>Dw S (fun _=>Dp (vs:=[iV y1.Rank,iV 0,iV 300]) ⟨(S.tm rfl),rfl,rfl,trivial⟩ call55) (Fm _ y1.Rank 0 300 _ rfl) rfl ?_);clear S;intro v4 a w11 hv4 hk9 hn4 S
     subst hv4
     refine Vu S Hj rfl rfl fun a S=>Va S rfl rfl fun a S=>Dl (Fc h (S.tm rfl) (fun hb6 h=>?_) (fun hb6 h=>?_))
     ·refine Fr (Vk S rfl rfl fun a S=>Dl (wp_ret (Fl (Fl (Dt (Dt (Fl ?_)))))))
      refine Dt (Dt ?_)
      obtain rfl:=Option.some.inj h
      exact Ej S results113 rfl rfl
     ·refine Fs ?_
      obtain ⟨j5,hj5,h⟩:=Ep h
      refine Eg (fun a w'=>∃ x1 : Bool,j5 x1 = some r ∧ Sx w [] nov [] [(0,Ab),(8,Ab),(9,iV (Ah.length : Int)),(10,iV (i1 : Int)),(42,bV x1)] 58 a w') ?_ ?_
      ·rcases Bool.eq_false_or_eq_true (decide (0 < (i1 : Int))) with hb7 | hb7
       ·replace h:=Qc h hb7
        obtain ⟨hc1,h⟩:=Ie h
        refine Hd [] ([]) Tryz.mixed S rfl (by kernel_rfl) ?_;clear S;intro w14 hk11 hsel S
        refine Eb 0 S hsel rfl rfl rfl (by kernel_rfl) (by kernel_rfl) rfl (fun _ hw=>(Rm (S.tm rfl))) fun a S=>Eb 1 S hsel rfl rfl rfl (by kernel_rfl) (by kernel_rfl) rfl (fun _ hw=>(It (S.tm rfl) rfl)) fun a S=>Eb 2 S hsel rfl rfl rfl (by kernel_rfl) (by kernel_rfl) rfl (fun _ hw=>(Rm (S.tm rfl))) fun a S=>Eu 3 S hsel rfl rfl rfl rfl hb7 rfl rfl (by kernel_rfl) (by kernel_rfl) rfl (fun _ hw=>(Rm (S.tm rfl))) fun a S=>Eu 4 S hsel rfl rfl rfl rfl hb7 rfl rfl (by kernel_rfl) (by kernel_rfl) rfl (fun _ hw=>(Rm (S.tm rfl))) fun a S=>Eu 5 S hsel rfl rfl rfl rfl hb7 rfl rfl (by kernel_rfl) (by kernel_rfl) rfl (fun _ hw=>(Iu (S.tm rfl) rfl)) ?_;clear S;intro a S
        obtain ⟨b4,o3,hm3,hr6⟩:=Ev (a:=a) (x:=.tmp 46) (y:=.tmp 48) (ty:=0) Nn (Af.mono (S.le_arg Ec)) (Dx hc1).1 (Dx hc1).2 (S.tm rfl) (S.tm rfl)
        refine Eu 6 S hsel rfl rfl rfl rfl hb7 rfl rfl (by kernel_rfl) (by kernel_rfl) rfl (fun _ hw=>hr6 _) ?_;clear S;intro a S
        clear hr6
        refine Eu 7 S hsel rfl rfl rfl rfl hb7 rfl rfl (by kernel_rfl) (by kernel_rfl) rfl (fun _ hw=>(Fp isAgg129 sizeOf129 (off:=o3) (o:=0) (part:=(Dm.enc (nth Ah (W ((i1 : Int) - 1))))) rfl rfl (S.tm rfl) (hm3.kept hw))) fun a S=>Eu 8 S hsel rfl rfl rfl rfl hb7 rfl rfl (by kernel_rfl) (by kernel_rfl) rfl (fun _ hw=>(Fp isAgg129 sizeOf129 (off:=0) (o:=0) (part:=(Dm.enc y1)) rfl rfl (S.tm rfl) ((S.blk_mem (i:=0) (cells:=(Dm.enc y1)) (b:=b2) (T:=129) rfl (Ia (e':=.blk b2 (Dm.enc y1) 129))).kept hw))) fun a S=>He 9 (by kernel_rfl) rfl (Du S rfl rfl rfl hb7 (Dw S (fun _=>Dp (vs:=[.agg (Dm.enc (nth Ah (W ((i1 : Int) - 1)))).toArray,.agg (Dm.enc y1).toArray]) ⟨(S.tm rfl),(S.tm rfl),trivial⟩ call138) (FA _ (nth Ah (W ((i1 : Int) - 1))) y1 _ rfl) rfl ?_));clear S;intro v6 a w15 hv6 hk12 hn6 S
        subst hv6
        refine Ld (Ig hk12 (Lw [10,11,12] hsel (by kernel_rfl) rfl ?_))
        clear hsel
        refine Ee S rfl rfl rfl rfl hb7 (Fb S (Qe (S.tm rfl) rfl) rfl fun a S=>Gm S rfl (Qu hb7 (S.tm rfl) (S.tm rfl)) rfl fun a S=>Gm S rfl (Ra (S.tm rfl)) rfl fun a S=>Hv ?_)
        replace S:=S.n0.k13 0 8 9 10 42 46 47 48 49 50 51 52 53 rfl
        exact Tn (⟨decide (0 ≤ (Rz (nth Ah (W ((i1 : Int) - 1))) y1)),h,S.nf [] rfl (subR rfl)⟩)
       ·replace h:=Qd h hb7
        refine Hd [] ([]) Tryz.mixed S rfl (by kernel_rfl) ?_;clear S;intro w16 hk13 hsel S
        refine Lw [0,1,2,3,4,5,6,7,8,9,10,11,12] hsel (by kernel_rfl) rfl ?_
        clear hsel
        refine Gm S rfl (Rm (S.tm rfl)) rfl fun a S=>Gm S rfl (It (S.tm rfl) rfl) rfl fun a S=>Gm S rfl (Rm (S.tm rfl)) rfl ?_;clear S;intro a S
        iterate 8 (refine Nk S rfl rfl rfl rfl (Jh hb7) rfl ?_ rfl;clear S;intro a S)
        refine Gm S rfl (Qv hb7 (S.tm rfl) rfl) rfl fun a S=>Gm S rfl (Ra (S.tm rfl)) rfl fun a S=>Hv ?_
        replace S:=S.n0.k5 0 8 9 10 42 rfl
        exact Tn (⟨false,h,S.nf [] rfl (subR rfl)⟩)
      clear S h;rintro a w12 ⟨x1,h,S⟩;rw [hj5] at h;clear hj5 j5
      refine Tn (Fc h (S.tm rfl) (fun hb8 h=>?_) (fun hb8 h=>?_))
      ·refine Fr (Vk S rfl rfl fun a S=>Dl (wp_ret (Fl (Fl (Dt (Dt (Fl ?_)))))))
       refine Dt (Dt ?_)
       obtain rfl:=Option.some.inj h
       exact Ej S results113 rfl rfl
      ·exact wp_skip (Ho (Ho (Tn (Fg (Vq S Gc rfl rfl rfl fun a S=>Vm S rfl rfl fun a S=>Dl (⟨ys1,⟨i1 + 1,⟨_,(hd1).trans (List.append_cons _ _ _),by simp [hi1]⟩,h,S.nf [] rfl ⟨rfl,rfl,rfl,(congrArg (fun z=>some (Value.int .i64 z)) (Hu hd1 hi1 (Iz Af))),trivial⟩⟩,Nat.lt_succ_self _⟩))))))
  clear S h;rintro a w2 ⟨h,S⟩;rw [hj1] at h;clear hj1 j1
  refine Tn (Fr (Vm S rfl rfl ?_));clear S;intro a S
  obtain ⟨r4,hr7,h⟩:=Fa h
  refine Dw S (fun _=>Dp (vs:=[Ab]) ⟨(S.tm rfl),trivial⟩ call139) (DX _ Ab Ah (Af.mono (S.le_arg Ec)) _ hr7) rfl ?_;clear S;intro v7 a w17 hv7 hk14 hn7 S
  subst hv7
  refine Va S rfl rfl fun a S=>Dl (wp_ret ?_)
  obtain rfl:=Option.some.inj h
  exact Ej S results113 rfl rfl
theorem CY (w : World) (Ay : Kr) (Ci : R28) (Cn : Xy (view w []) Ay Ci) (Ab : Value) (Ah : List Dm) (Af : Slc (view w []) 5 Ab (Ah.map Dm.enc)) (r : Int) (h : Sa Ay Ah = some r) :
    Calls prog 90 [.agg (R28.enc Ci).toArray,Ab].toArray w (Ret w [] fun _ v _=>v = iV r):=by
 obtain ⟨u1,rfl,hs1⟩:=Cn
 refine Fe func90 rfl ntmps90 rfl fun a S=>?_
 unfold Sa at h
 replace S:=S.k2 0 1 rfl
 refine Fr (Mn S (S.tm rfl) (cs:=[u1.val,iV Ay.Relay,iV Ay.Most]) rfl rfl ?_);clear S;intro a w1 b1 hz1 hk1 S
 refine Vk S rfl rfl fun a S=>Dl (Fs (Fr (lv S (Fp isAgg28 sizeOf28 (off:=0) (o:=0) (part:=[u1.val,iV Ay.Relay,iV Ay.Most]) rfl rfl (S.tm rfl) (S.cellsAt (i:=0) rfl)) rfl ?_)));clear S;intro a S
 obtain ⟨r1,hr1,h⟩:=Fa h
 refine Dw S (fun _=>Dp (vs:=[.agg (R28.enc (R28.mk u1 Ay.Relay Ay.Most)).toArray]) ⟨(S.tm rfl),trivial⟩ call77) (Xd _ Ay (R28.mk u1 Ay.Relay Ay.Most) ⟨u1,rfl,(hs1.mono (S.le_arg Ec))⟩ _ hr1) rfl ?_;clear S;intro v1 a w2 hv1 hk2 hn1 S
 subst hv1
 refine Va S rfl rfl fun a S=>Dz (Vm S rfl rfl fun a S=>Vq S Kw rfl rfl rfl fun a S=>Dl (Fc h (S.tm rfl) (fun hb1 h=>?_) (fun hb1 h=>?_)))
 ·refine Fr (Vm S rfl rfl fun a S=>Va S rfl rfl fun a S=>Dl (wp_ret (Dt ?_)))
  obtain rfl:=Option.some.inj h
  exact Ej S results90 rfl rfl
 ·refine wp_skip (Tn (Fr (Vm S rfl rfl ?_)));clear S;intro a S
  obtain ⟨r2,hr2,h⟩:=Fa h
  refine Dw S (fun _=>Dp (vs:=[Ab]) ⟨(S.tm rfl),trivial⟩ call113) (AV _ Ab Ah (Af.mono (S.le_arg Ec)) _ hr2) rfl ?_;clear S;intro v2 a w3 hv2 hk3 hn2 S
  subst hv2
  refine Va S rfl rfl fun a S=>Dl (wp_ret ?_)
  obtain rfl:=Option.some.inj h
  exact Ej S results90 rfl rfl
theorem II (w : World) (r : Em) (h : Kt = r) :
    Calls prog 140 [].toArray w (Ret w [] fun _ v _=>v = .agg (Em.enc r).toArray):=by
 refine Fe func140 rfl ntmps140 rfl fun a S=>?_
 unfold Kt at h
 replace S:=S.k0
 refine Fr (Hs S zeroValue51 (cs:=[iV 0,iV 0]) rfl rfl ?_);clear S;intro a w1 b1 hz1 hk1 S
 refine Dz (lv S (Mr UN (pv:=[(0,iV 0),(1,iV 1)]) ⟨rfl,rfl,rfl,rfl,trivial⟩ (cs:=[iV 0,iV 1]) (by kernel_rfl)) rfl fun a S=>Ex S (S.tm rfl) (S.tm rfl) (i:=0) (off:=0) rfl sizeOf51 (vs:=[iV 0,iV 1]) rfl rfl rfl rfl ?_);clear S;intro w2 hk2 S
 refine Dl (wp_ret ?_)
 subst h
 exact Xw S (rs:=[.cell 0 51]) (vs:=[.agg #[iV 0,iV 1]]) results140 ⟨(Ti (off:=0) S rfl isAgg51 sizeOf51 rfl (S.cellsAt (i:=0) rfl)),trivial⟩ rfl rfl
theorem FB (w : World) (Ap : Int) (Au : Int) (r : Em) (h : Qm Ap Au = some r) :
    Calls prog 141 [iV Ap,iV Au].toArray w (Ret w [] fun _ v _=>v = .agg (Em.enc r).toArray):=by
 refine Fe func141 rfl ntmps141 rfl fun a S=>?_
 unfold Qm at h
 replace S:=S.k2 0 1 rfl
 refine Fr (Hs S zeroValue51 (cs:=[iV 0,iV 0]) rfl rfl ?_);clear S;intro a w1 b1 hz1 hk1 S
 refine Dz (Vm S rfl rfl fun a S=>Vm S rfl rfl fun a S=>Va S rfl rfl fun a S=>Va S rfl rfl fun a S=>Dl (Fs ?_))
 replace S:=(S.nl [.blk b1 [iV 0,iV 0] 51] [true] rfl).k5 0 1 4 5 6 rfl
 obtain ⟨j1,hj1,h⟩:=Ep h
 refine Eg (fun a w'=>∃ x2 : Int,j1 x2 = some r ∧ Sx w [] nov [.blk b1 [iV 0,iV 0] 51] [(0,iV Ap),(1,iV Au),(4,.pointer (some ⟨b1,0,none⟩)),(6,iV x2)] 22 a w') ?_ ?_
 ·refine wp_block (Gx (fun (m1 : Nat) a w'=>∃ x1 : Int,∃ x2 : Int,Lv j1 m1 x1 x2 = some r ∧ Sx w [] nov [.blk b1 [iV 0,iV 0] 51] [(0,iV Ap),(1,iV Au),(4,.pointer (some ⟨b1,0,none⟩)),(5,iV x1),(6,iV x2)] 22 a w') id ((Ap - 0).toNat + 2) ⟨Ap,Au,h,S.nf [true] rfl (subR rfl)⟩ ?_)
  clear S h;rintro m1 a w2 ⟨x1,x2,h,S⟩
  cases m1 with
  | zero=>rw [Lv.eq_1] at h;cases h
  | succ m1 =>
   rw [Lv.eq_2] at h
   refine Fs (Fr (Vm S rfl rfl fun a S=>Vq S It rfl rfl rfl fun a S=>Dl (Fc h (S.tm rfl) (fun hb1 h=>?_) (fun hb1 h=>?_))))
   ·refine wp_skip (Tn (wp_block (Fg (Vm S rfl rfl fun a S=>Vm S rfl rfl ?_))));clear S;intro a S
    obtain ⟨hc1,h⟩:=Ie h
    exact lv S (AX (S.tm rfl) (S.tm rfl) (Ud hc1)) rfl fun a S=>Vm S rfl rfl fun a S=>Va S rfl rfl fun a S=>Va S rfl rfl fun a S=>Ld (Ho (Tn (⟨m1,⟨Int.tmod x2 x1,x1,h,S.nf [true] rfl ⟨rfl,rfl,rfl,rfl,rfl,trivial⟩⟩,Nat.lt_succ_self _⟩)))
   ·exact wp_exit (Ed (Ed (Gp (Tn (⟨x2,h,S.nf [true] rfl (subR rfl)⟩)))))
 clear S h;rintro a w3 ⟨x2,h,S⟩;rw [hj1] at h;clear hj1 j1
 refine Tn (Fs ?_)
 obtain ⟨hc2,h⟩:=Ie h
 obtain ⟨hc3,h⟩:=Ie h
 refine Hd [] ([b1]) Tryz.mixed S rfl (by kernel_rfl) ?_;clear S;intro w5 hk3 hsel S
 refine Eb 0 S hsel rfl rfl rfl (by kernel_rfl) (by kernel_rfl) rfl (fun _ hw=>(Rm (S.tm rfl))) fun a S=>Eb 1 S hsel rfl rfl rfl (by kernel_rfl) (by kernel_rfl) rfl (fun _ hw=>(Rm (S.tm rfl))) fun a S=>Eb 2 S hsel rfl rfl rfl (by kernel_rfl) (by kernel_rfl) rfl (fun _ hw=>(DL (S.tm rfl) (S.tm rfl) (Ud hc2))) fun a S=>Eb 3 S hsel rfl rfl rfl (by kernel_rfl) (by kernel_rfl) rfl (fun _ hw=>(Rm (S.tm rfl))) fun a S=>Eb 4 S hsel rfl rfl rfl (by kernel_rfl) (by kernel_rfl) rfl (fun _ hw=>(Rm (S.tm rfl))) fun a S=>Eb 5 S hsel rfl rfl rfl (by kernel_rfl) (by kernel_rfl) rfl (fun _ hw=>(DL (S.tm rfl) (S.tm rfl) (Ud hc3))) fun a S=>Eb 6 S hsel rfl rfl rfl (by kernel_rfl) (by kernel_rfl) rfl (fun _ hw=>(Mr UN (pv:=[(0,iV (W (Int.tdiv Ap x2))),(1,iV (W (Int.tdiv Au x2)))]) ⟨rfl,(S.tm rfl),rfl,(S.tm rfl),trivial⟩ (cs:=[iV (W (Int.tdiv Ap x2)),iV (W (Int.tdiv Au x2))]) (by kernel_rfl))) fun a S=>He 7 (by kernel_rfl) rfl (Ex S (S.tm rfl) (S.tm rfl) (i:=0) (off:=0) rfl sizeOf51 (vs:=[iV (W (Int.tdiv Ap x2)),iV (W (Int.tdiv Au x2))]) rfl rfl rfl rfl ?_);clear S;intro w6 hk4 S
 refine Ld (Ig hk4 (Xi (by kernel_rfl) ?_))
 clear hsel
 replace S:=(S.nl [.blk b1 [iV (W (Int.tdiv Ap x2)),iV (W (Int.tdiv Au x2))] 51] [true] rfl).k1 4 rfl
 refine Tn (wp_ret ?_)
 obtain rfl:=Option.some.inj h
 exact Xw S (rs:=[.cell 4 51]) (vs:=[.agg #[iV (W (Int.tdiv Ap x2)),iV (W (Int.tdiv Au x2))]]) results141 ⟨(Ti (off:=0) S rfl isAgg51 sizeOf51 rfl (S.cellsAt (i:=0) rfl)),trivial⟩ rfl rfl
set_option maxRecDepth 20000 in
theorem IJ (w : World) (Ay : Kr) (Ci : R28) (Cn : Xy (view w []) Ay Ci) (Ab : Value) (Ah : List Dm) (Af : Slc (view w []) 5 Ab (Ah.map Dm.enc)) (r : (List Ds)) (h : Tm Ay Ah = some r) :
    Calls prog 115 [.agg (R28.enc Ci).toArray,Ab].toArray w (Ret w [] fun τ v _=>Tf τ 174 7 v r.length (r.flatMap Ds.enc)):=by
 obtain ⟨u1,rfl,hs1⟩:=Cn
 refine Fe func115 rfl ntmps115 rfl fun a S=>?_
 unfold Tm at h
 replace S:=S.k2 0 1 rfl
 refine Fr (Mn S (S.tm rfl) (cs:=[u1.val,iV Ay.Relay,iV Ay.Most]) rfl rfl ?_);clear S;intro a w1 b1 hz1 hk1 S
 refine Vk S rfl rfl fun a S=>Dz (Vk S rfl rfl ?_);clear S;intro a S
 replace S:=S.nil 174 7
 refine Dz (Vk S rfl rfl ?_);clear S;intro a S
 replace S:=S.nil 3 1
 refine Dz (Rx (κ:=ByteArray) (ν:=Int) S rfl Value.string (Value.int .i64) ?_);clear S;intro a w2 b2 hz2 hk2 S
 refine Va S rfl rfl fun a S=>Dl (Fs (Fr (Vm S rfl rfl fun a S=>lv S (Fq Nn (S.tm rfl) (Fj Af)) rfl fun a S=>lv S (Rm rfl) rfl fun a S=>Dl ?_)))
 replace S:=(S.nl [.map b2 (Gt Value.string (Value.int .i64) ([] : List (ByteArray × Int))) ([] : List (ByteArray × Int)).length,.own (.slice none 0 0) 3 1 ([] : List Int).length (([] : List Int).flatMap eInt),.own (.slice none 0 0) 174 7 ([] : List Ds).length (([] : List Ds).flatMap Ds.enc),.blk b1 [u1.val,iV Ay.Relay,iV Ay.Most] 28] [true,true,true,true] rfl).k8 1 2 5 6 7 16 17 18 rfl
 obtain ⟨j1,hj1,h⟩:=Ep h
 refine Eg (fun a w'=>∃ x1 : List (ByteArray × Int),∃ x2 : List Int,∃ x3 : List Ds,∃ v1 : Value,∃ v2 : Value,j1 x1 x2 x3 = some r ∧ Sx w [] nov [.map b2 (Gt Value.string (Value.int .i64) x1) x1.length,.own v1 3 1 x2.length (x2.flatMap eInt),.own v2 174 7 x3.length (x3.flatMap Ds.enc),.blk b1 [u1.val,iV Ay.Relay,iV Ay.Most] 28] [(1,Ab),(2,.pointer (some ⟨b1,0,none⟩)),(5,v2),(6,v1)] 132 a w') ?_ ?_
 ·refine wp_block (Gx (fun (ys1 : List Dm) a w'=>∃ i1 : Nat,∃ x1 : List (ByteArray × Int),∃ x2 : List Int,∃ x3 : List Ds,∃ v1 : Value,∃ v2 : Value,(∃ dn,Ah = dn ++ ys1 ∧ dn.length = i1) ∧ Ku Ay j1 ys1 i1 x1 x2 x3 = some r ∧ Sx w [] nov [.map b2 (Gt Value.string (Value.int .i64) x1) x1.length,.own v1 3 1 x2.length (x2.flatMap eInt),.own v2 174 7 x3.length (x3.flatMap Ds.enc),.blk b1 [u1.val,iV Ay.Relay,iV Ay.Most] 28] [(1,Ab),(2,.pointer (some ⟨b1,0,none⟩)),(5,v2),(6,v1),(7,.map (some b2)),(16,Ab),(17,iV (Ah.length : Int)),(18,iV (i1 : Int))] 132 a w') List.length Ah ⟨0,([] : List (ByteArray × Int)),([] : List Int),([] : List Ds),(.slice none 0 0),(.slice none 0 0),⟨[],rfl,rfl⟩,h,S.nf [true,true,true,true] rfl (subR rfl)⟩ ?_)
  clear S h;rintro ys1 a w3 ⟨i1,x1,x2,x3,v1,v2,⟨dn,hd1,hi1⟩,h,S⟩
  cases ys1 with
  | nil =>
   rw [Ku.eq_1] at h
   refine Fr (Vb S Et rfl rfl rfl fun a S=>Ld ?_)
   replace S:=S.k9 1 2 5 6 7 16 17 18 19 rfl
   exact Tn (Fs (wp_cond_false ((S.tm rfl).trans (congrArg Value.bool (Il hd1 hi1))) (wp_exit (Ed (Ed (Gp (Tn (⟨x1,x2,x3,v1,v2,h,S.nf [true,true,true,true] rfl (subR rfl)⟩))))))))
  | cons y1 ys1 =>
   rw [Ku.eq_2] at h
   refine Fr (Vb S Et rfl rfl rfl fun a S=>Ld ?_)
   replace S:=S.k9 1 2 5 6 7 16 17 18 19 rfl
   refine Tn (Fs (wp_cond_true ((S.tm rfl).trans (congrArg Value.bool (Ht hd1 hi1))) (wp_skip (Tn (Fs ?_)))))
   obtain ⟨j2,hj2,h⟩:=Ep h
   refine Eg (fun a w'=>∃ x4 : List (ByteArray × Int),∃ x5 : List Int,∃ x6 : List Ds,∃ v3 : Value,∃ v4 : Value,j2 x4 x5 x6 = some r ∧ Sx w [] nov [.map b2 (Gt Value.string (Value.int .i64) x4) x4.length,.own v3 3 1 x5.length (x5.flatMap eInt),.own v4 174 7 x6.length (x6.flatMap Ds.enc),.blk b1 [u1.val,iV Ay.Relay,iV Ay.Most] 28] [(1,Ab),(2,.pointer (some ⟨b1,0,none⟩)),(5,v4),(6,v3),(7,.map (some b2)),(16,Ab),(17,iV (Ah.length : Int)),(18,iV (i1 : Int))] 132 a w') ?_ ?_
   ·refine wp_block (Fs (Fg ?_))
    obtain ⟨b3,o1,hm1,hr1⟩:=Ev (a:=a) (x:=.tmp 16) (y:=.tmp 18) (ty:=0) Nn Af (Io hd1 hi1) rfl (S.tm rfl) (S.tm rfl)
    refine lv S (hr1 _) rfl ?_;clear S;intro a S
    clear hr1
    refine lv S (Fp isAgg129 sizeOf129 (off:=o1) (o:=0) (part:=(Dm.enc y1)) rfl rfl (S.tm rfl) (hm1.at S.emb0)) rfl fun a S=>Hs S zeroValue129 (cs:=[sV An,sV An,sV An,iV 0,bV false]) rfl rfl ?_;clear S;intro a w6 b4 hz3 hk3 S
    refine Ex S (S.tm rfl) (S.tm rfl) (i:=0) (off:=0) rfl sizeOf129 (vs:=(Dm.enc y1)) rfl rfl rfl rfl ?_;clear S;intro w7 hk4 S
    refine Dl (Fs (Fr (Vf Np S rfl rfl fun a S=>Vl isAgg3 0 S rfl rfl rfl rfl fun a S=>Vq S Im rfl rfl rfl fun a S=>Vm S rfl rfl fun a S=>Hn 4 (fun a w'=>Keep [] w7 w' ∧ Sx w [] nov [.blk b4 (Dm.enc y1) 129,.map b2 (Gt Value.string (Value.int .i64) x1) x1.length,.own v1 3 1 x2.length (x2.flatMap eInt),.own v2 174 7 x3.length (x3.flatMap Ds.enc),.blk b1 [u1.val,iV Ay.Relay,iV Ay.Most] 28] [(1,Ab),(2,.pointer (some ⟨b1,0,none⟩)),(5,v2),(6,v1),(7,.map (some b2)),(9,.pointer (some ⟨b4,0,none⟩)),(16,Ab),(17,iV (Ah.length : Int)),(18,iV (i1 : Int)),(29,bV ((decide (y1.Rank = 0)) || (decide (y1.Club = An))))] 132 a w') ?_ ?_)))
    ·rcases Bool.eq_false_or_eq_true (decide (y1.Rank = 0)) with hb1 | hb1
     ·iterate 3 (refine Gn S rfl rfl rfl (Kp hb1) rfl ?_ rfl;clear S;intro a S)
      exact lv S (Jq (decide (y1.Club = An)) hb1 (S.tm rfl) rfl) rfl fun a S=>Dl (⟨Keep.refl _ _,S.nf [true,true,true,true,true] rfl (subR rfl)⟩)
     ·exact Du S rfl rfl rfl hb1 (Vf BM S rfl rfl fun a S=>Du S rfl rfl rfl hb1 (Vl isAgg9 0 S rfl rfl rfl rfl fun a S=>Du S rfl rfl rfl hb1 (Vq S Ve rfl rfl rfl fun a S=>lv S (Jr hb1 (S.tm rfl) (S.tm rfl)) rfl fun a S=>Dl (⟨Keep.refl _ _,S.nf [true,true,true,true,true] rfl (subR rfl)⟩))))
    clear S;rintro a w8 ⟨hk5,S⟩
    refine Dl (Fc h (S.tm rfl) (fun hb2 h=>?_) (fun hb2 h=>?_))
    ·exact wp_exit (Ed (Gp (Tn (⟨x1,x2,x3,v1,v2,h,S.nf [false,true,true,true,true] rfl (subR rfl)⟩))))
    ·refine wp_skip (Tn (Fs (Fr (Vm S rfl rfl fun a S=>Vf BM S rfl rfl fun a S=>Vl isAgg9 0 S rfl rfl rfl rfl fun a S=>lv S (Qa (kv:=Value.string) (vv:=(Value.int .i64)) (m:=x1) (key:=y1.Club) (z:=0) (S.map_at (i:=1) rfl) underlying98 (Mx underlying9) zeroValue3 (S.tm rfl) (S.tm rfl)) rfl fun a S=>Vq S Gc rfl rfl rfl fun a S=>Pc (kv:=Value.string) (vv:=(Value.int .i64)) (m:=x1) (key:=y1.Club) (val:=W ((Ea x1 y1.Club 0) + 1)) S (i:=1) rfl underlying98 (Mx underlying9) (S.tm rfl) (S.tm rfl) (S.tm rfl) ?_))));clear S;intro w9 hk6 S
     refine Ld ?_
     replace S:=(S.nl [.blk b4 (Dm.enc y1) 129,.map b2 (Gt Value.string (Value.int .i64) (Gl x1 y1.Club (W ((Ea x1 y1.Club 0) + 1)))) (Gl x1 y1.Club (W ((Ea x1 y1.Club 0) + 1))).length,.own v1 3 1 x2.length (x2.flatMap eInt),.own v2 174 7 x3.length (x3.flatMap Ds.enc),.blk b1 [u1.val,iV Ay.Relay,iV Ay.Most] 28] [true,true,true,true,true] rfl).k9 1 2 5 6 7 9 16 17 18 rfl
     refine Tn (Fr (Vf LO S rfl rfl fun a S=>Vl isAgg3 4 S rfl rfl rfl rfl fun a S=>Vq S Im rfl rfl rfl fun a S=>Vm S rfl rfl fun a S=>Hn 8 (fun a w'=>Keep [] w9 w' ∧ Sx w [] nov [.blk b4 (Dm.enc y1) 129,.map b2 (Gt Value.string (Value.int .i64) (Gl x1 y1.Club (W ((Ea x1 y1.Club 0) + 1)))) (Gl x1 y1.Club (W ((Ea x1 y1.Club 0) + 1))).length,.own v1 3 1 x2.length (x2.flatMap eInt),.own v2 174 7 x3.length (x3.flatMap Ds.enc),.blk b1 [u1.val,iV Ay.Relay,iV Ay.Most] 28] [(1,Ab),(2,.pointer (some ⟨b1,0,none⟩)),(5,v2),(6,v1),(7,.map (some b2)),(9,.pointer (some ⟨b4,0,none⟩)),(16,Ab),(17,iV (Ah.length : Int)),(18,iV (i1 : Int)),(46,bV ((decide (Ay.Most = 0)) || (decide ((Ea (Gl x1 y1.Club (W ((Ea x1 y1.Club 0) + 1))) y1.Club 0) ≤ Ay.Most))))] 132 a w') ?_ ?_))
     ·rcases Bool.eq_false_or_eq_true (decide (Ay.Most = 0)) with hb3 | hb3
      ·iterate 7 (refine Gn S rfl rfl rfl (Kp hb3) rfl ?_ rfl;clear S;intro a S)
       exact lv S (Jq (decide ((Ea (Gl x1 y1.Club (W ((Ea x1 y1.Club 0) + 1))) y1.Club 0) ≤ Ay.Most)) hb3 (S.tm rfl) rfl) rfl fun a S=>Dl (⟨Keep.refl _ _,S.nf [true,true,true,true,true] rfl (subR rfl)⟩)
      ·refine Du S rfl rfl rfl hb3 (Vm S rfl rfl fun a S=>Du S rfl rfl rfl hb3 (Vf BM S rfl rfl fun a S=>Du S rfl rfl rfl hb3 (Vl isAgg9 0 S rfl rfl rfl rfl fun a S=>Du S rfl rfl rfl hb3 (lv S (Qa (kv:=Value.string) (vv:=(Value.int .i64)) (m:=(Gl x1 y1.Club (W ((Ea x1 y1.Club 0) + 1)))) (key:=y1.Club) (z:=0) (S.map_at (i:=1) rfl) underlying98 (Mx underlying9) zeroValue3 (S.tm rfl) (S.tm rfl)) rfl fun a S=>Du S rfl rfl rfl hb3 (Vf LO S rfl rfl fun a S=>Du S rfl rfl rfl hb3 ?_)))))
       exact Vl isAgg3 4 S rfl rfl rfl rfl fun a S=>Du S rfl rfl rfl hb3 (Vb S Uv rfl rfl rfl fun a S=>lv S (Jr hb3 (S.tm rfl) (S.tm rfl)) rfl fun a S=>Dl (⟨Keep.refl _ _,S.nf [true,true,true,true,true] rfl (subR rfl)⟩))
     clear S;rintro a w10 ⟨hk7,S⟩
     refine Dl ?_
     obtain ⟨j3,hj3,h⟩:=Ep h
     refine Eg (fun a w'=>∃ x7 : List Int,∃ v5 : Value,j3 x7 = some r ∧ Sx w [] nov [.blk b4 (Dm.enc y1) 129,.map b2 (Gt Value.string (Value.int .i64) (Gl x1 y1.Club (W ((Ea x1 y1.Club 0) + 1)))) (Gl x1 y1.Club (W ((Ea x1 y1.Club 0) + 1))).length,.own v5 3 1 x7.length (x7.flatMap eInt),.own v2 174 7 x3.length (x3.flatMap Ds.enc),.blk b1 [u1.val,iV Ay.Relay,iV Ay.Most] 28] [(1,Ab),(2,.pointer (some ⟨b1,0,none⟩)),(5,v2),(6,v5),(7,.map (some b2)),(9,.pointer (some ⟨b4,0,none⟩)),(16,Ab),(17,iV (Ah.length : Int)),(18,iV (i1 : Int))] 132 a w') ?_ ?_
     ·refine Fc h (S.tm rfl) (fun hb4 h=>?_) (fun hb4 h=>?_)
      ·refine Fg (Vm S rfl rfl fun a S=>Vm S rfl rfl fun a S=>lv S (Fq BI (S.tm rfl) (Ph (S.own_at (i:=3) rfl))) rfl fun a S=>Er S underlying22 sizeOf3 zeroValue3 rfl rfl (pv:=[(0,iV (x3.length : Int))]) ⟨rfl,(S.tm rfl),trivial⟩ (cs:=[iV (x3.length : Int)]) (by kernel_rfl) rfl ?_);clear S;intro a w12 b5 hz4 hk8 S
       obtain ⟨hc1,h⟩:=Ie h
       refine Ms Pf Ik S (S.tm rfl) (i:=3) rfl (S.tm rfl) (j:=0) rfl (ys:=[(x3.length : Int)]) rfl rfl rfl rfl (by have:=Nd hc1;omega) rfl ?_;clear S;intro v6 a w13 hk9 S
       refine Va S rfl rfl fun a S=>Ld ?_
       replace S:=(S.nl [.blk b4 (Dm.enc y1) 129,.map b2 (Gt Value.string (Value.int .i64) (Gl x1 y1.Club (W ((Ea x1 y1.Club 0) + 1)))) (Gl x1 y1.Club (W ((Ea x1 y1.Club 0) + 1))).length,.own v6 3 1 (x2 ++ [(x3.length : Int)]).length ((x2 ++ [(x3.length : Int)]).flatMap eInt),.own v2 174 7 x3.length (x3.flatMap Ds.enc),.blk b1 [u1.val,iV Ay.Relay,iV Ay.Most] 28] [false,true,true,true,true,true] rfl).k9 1 2 5 6 7 9 16 17 18 rfl
       exact Tn (⟨(x2 ++ [(x3.length : Int)]),v6,h,S.nf [true,true,true,true,true] rfl (subR rfl)⟩)
      ·exact wp_skip (Tn (⟨x2,v1,h,S.nf [true,true,true,true,true] rfl (subR rfl)⟩))
     clear S h;rintro a w11 ⟨x7,v5,h,S⟩;rw [hj3] at h;clear hj3 j3
     refine Tn ?_
     obtain ⟨hc2,h⟩:=Ie h
     refine Hd [] (v2.ownBlock.toList) Tryz.mixed S rfl (by kernel_rfl) ?_;clear S;intro w17 hk13 hsel S
     refine Eb 0 S hsel rfl rfl rfl (by kernel_rfl) (by kernel_rfl) rfl (fun _ hw=>(Rm (S.tm rfl))) fun a S=>Eb 1 S hsel rfl rfl rfl (by kernel_rfl) (by kernel_rfl) rfl (fun _ hw=>(Fp isAgg129 sizeOf129 (off:=0) (o:=0) (part:=(Dm.enc y1)) rfl rfl (S.tm rfl) ((S.blk_mem (i:=0) (cells:=(Dm.enc y1)) (b:=b4) (T:=129) rfl (Mo (i:=3) (j:=0) (e:=.own v2 174 7 x3.length (x3.flatMap Ds.enc)) (e':=.blk b4 (Dm.enc y1) 129) S rfl rfl rfl)).kept hw))) fun a S=>He 2 (by kernel_rfl) rfl (Dw S (fun _=>Dp (vs:=[]) trivial call140) (II _ _ rfl) rfl ?_);clear S;intro v9 a w18 hv2 hk14 hn2 S
     subst hv2
     refine Ld (Ig (Keep.none hk14) (Eb 3 S hsel rfl rfl rfl (by kernel_rfl) (by kernel_rfl) rfl (fun _ hw=>(Mr bt_174 (pv:=[(0,.agg (Dm.enc y1).toArray),(1,.agg (Em.enc Kt).toArray)]) ⟨rfl,(S.tm rfl),rfl,(S.tm rfl),trivial⟩ (cs:=[sV y1.Race,sV y1.Who,sV y1.Club,iV y1.Rank,bV y1.Relay,iV Kt.Num,iV Kt.Den]) (by kernel_rfl))) fun a S=>He 4 (by kernel_rfl) rfl (Er S underlying171 sizeOf174 zeroValue174 rfl rfl (pv:=[(0,.agg (Ds.enc (Ds.mk y1 Kt)).toArray)]) ⟨rfl,(S.tm rfl),trivial⟩ (cs:=[sV y1.Race,sV y1.Who,sV y1.Club,iV y1.Rank,bV y1.Relay,iV Kt.Num,iV Kt.Den]) (by kernel_rfl) rfl ?_)));clear S;intro a w19 b7 hz6 hk15 S
     refine Ld (Ig (Keep.none hk15) (He 5 (by kernel_rfl) rfl ?_))
     refine Ms BI Ds.enc_ok S (S.tm rfl) (i:=4) rfl (S.tm rfl) (j:=0) rfl (ys:=[(Ds.mk y1 Kt)]) rfl rfl rfl rfl (by have:=Nd hc2;omega) rfl ?_;clear S;intro v10 a w20 hk16 S
     refine Ld (Ig hk16 (Lw [6] hsel (by kernel_rfl) rfl ?_))
     clear hsel
     refine Gm S rfl (Ra (S.tm rfl)) rfl fun a S=>Hv ?_
     replace S:=(S.nl [.map b2 (Gt Value.string (Value.int .i64) (Gl x1 y1.Club (W ((Ea x1 y1.Club 0) + 1)))) (Gl x1 y1.Club (W ((Ea x1 y1.Club 0) + 1))).length,.own v5 3 1 x7.length (x7.flatMap eInt),.own v10 174 7 (x3 ++ [(Ds.mk y1 Kt)]).length ((x3 ++ [(Ds.mk y1 Kt)]).flatMap Ds.enc),.blk b1 [u1.val,iV Ay.Relay,iV Ay.Most] 28] [false,false,true,true,true,true] rfl).k8 1 2 5 6 7 16 17 18 rfl
     exact Ho (Tn (⟨(Gl x1 y1.Club (W ((Ea x1 y1.Club 0) + 1))),x7,(x3 ++ [(Ds.mk y1 Kt)]),v5,v10,h,S.nf [true,true,true,true] rfl (subR rfl)⟩))
   clear S h;rintro a w5 ⟨x4,x5,x6,v3,v4,h,S⟩;rw [hj2] at h;clear hj2 j2
   exact Tn (Fg (Vq S Gc rfl rfl rfl fun a S=>Vm S rfl rfl fun a S=>Dl (⟨ys1,⟨i1 + 1,x4,x5,x6,v3,v4,⟨_,(hd1).trans (List.append_cons _ _ _),by simp [hi1]⟩,h,S.nf [true,true,true,true] rfl ⟨rfl,rfl,rfl,rfl,rfl,rfl,rfl,(congrArg (fun z=>some (Value.int .i64 z)) (Hu hd1 hi1 (Iz Af))),trivial⟩⟩,Nat.lt_succ_self _⟩)))
 clear S h;rintro a w4 ⟨x1,x2,x3,v1,v2,h,S⟩;rw [hj1] at h;clear hj1 j1
 refine Tn (Fs (Fr (Vk S rfl rfl fun a S=>Dl ?_)))
 replace S:=S.d0.k5 1 2 5 6 10 rfl
 obtain ⟨j4,hj4,h⟩:=Ep h
 refine Eg (fun a w'=>∃ x8 : List Ds,∃ v11 : Value,j4 x8 = some r ∧ Sx w [] nov [.own v1 3 1 x2.length (x2.flatMap eInt),.own v11 174 7 x8.length (x8.flatMap Ds.enc),.blk b1 [u1.val,iV Ay.Relay,iV Ay.Most] 28] [(5,v11)] 132 a w') ?_ ?_
 ·refine wp_block (Gx (fun (m1 : Nat) a w'=>∃ x8 : List Ds,∃ x9 : Int,∃ v11 : Value,Ix x2 Ah Ay j4 m1 x8 x9 = some r ∧ Sx w [] nov [.own v1 3 1 x2.length (x2.flatMap eInt),.own v11 174 7 x8.length (x8.flatMap Ds.enc),.blk b1 [u1.val,iV Ay.Relay,iV Ay.Most] 28] [(1,Ab),(2,.pointer (some ⟨b1,0,none⟩)),(5,v11),(6,v1),(10,iV x9)] 132 a w') id (((x2.length : Int) - 0).toNat + 2) ⟨x3,0,v2,h,S.nf [true,true,true] rfl (subR rfl)⟩ ?_)
  clear S h;rintro m1 a w21 ⟨x8,x9,v11,h,S⟩
  cases m1 with
  | zero=>rw [Ix.eq_1] at h;cases h
  | succ m1 =>
   rw [Ix.eq_2] at h
   refine Fs (Fr (Vm S rfl rfl fun a S=>Vm S rfl rfl fun a S=>lv S (Fq Pf (S.tm rfl) (Ph (S.own_at (i:=0) rfl))) rfl fun a S=>Vb S Et rfl rfl rfl fun a S=>Dl (Fc h (S.tm rfl) (fun hb5 h=>?_) (fun hb5 h=>?_))))
   ·refine wp_skip (Tn (wp_block (Fr (Vm S rfl rfl fun a S=>Va S rfl rfl fun a S=>Vk S rfl rfl fun a S=>Dl (Fs ?_)))))
    replace S:=S.k7 1 2 5 6 10 11 12 rfl
    obtain ⟨j5,hj5,h⟩:=Ep h
    refine Eg (fun a w'=>∃ x10 : Int,∃ x11 : Int,j5 x10 x11 = some r ∧ Sx w [] nov [.own v1 3 1 x2.length (x2.flatMap eInt),.own v11 174 7 x8.length (x8.flatMap Ds.enc),.blk b1 [u1.val,iV Ay.Relay,iV Ay.Most] 28] [(1,Ab),(2,.pointer (some ⟨b1,0,none⟩)),(5,v11),(6,v1),(10,iV x9),(11,iV x10),(12,iV x11)] 132 a w') ?_ ?_
    ·refine wp_block (Gx (fun (m2 : Nat) a w'=>∃ x10 : Int,∃ x11 : Int,Jt Ay x2 x8 x9 j5 m2 x10 x11 = some r ∧ Sx w [] nov [.own v1 3 1 x2.length (x2.flatMap eInt),.own v11 174 7 x8.length (x8.flatMap Ds.enc),.blk b1 [u1.val,iV Ay.Relay,iV Ay.Most] 28] [(1,Ab),(2,.pointer (some ⟨b1,0,none⟩)),(5,v11),(6,v1),(10,iV x9),(11,iV x10),(12,iV x11)] 132 a w') id (((x2.length : Int) - x9).toNat + 2) ⟨x9,0,h,S.nf [true,true,true] rfl (subR rfl)⟩ ?_)
     clear S h;rintro m2 a w23 ⟨x10,x11,h,S⟩
     cases m2 with
     | zero=>rw [Jt.eq_1] at h;cases h
     | succ m2 =>
      rw [Jt.eq_2] at h
      refine Fs (Fs (Hd [] ([]) Tryz.mixed S rfl (by kernel_rfl) ?_));clear S;intro w25 hk17 hsel S
      refine Lw [0,1,2,3,4,5,6,7,8,9,10,11,12,13,14,15,16,17,18,19,20,21,22,23,24] hsel (by kernel_rfl) rfl ?_
      clear hsel
      refine Gm S rfl (Rm (S.tm rfl)) rfl fun a S=>Gm S rfl (Rm (S.tm rfl)) rfl fun a S=>Gm S rfl (Fq Pf (S.tm rfl) (Ph (S.own_at (i:=0) rfl))) rfl fun a S=>Gm S rfl (Et (S.tm rfl) (S.tm rfl)) rfl fun a S=>Gm S rfl (Rm (S.tm rfl)) rfl ?_;clear S;intro a S
      obtain ⟨j6,hj6,h⟩:=Ep h
      refine Ue 20 (fun a w'=>∃ c1,j6 c1 = some r ∧ Keep [] w25 w' ∧ Sx w [] nov [.own v1 3 1 x2.length (x2.flatMap eInt),.own v11 174 7 x8.length (x8.flatMap Ds.enc),.blk b1 [u1.val,iV Ay.Relay,iV Ay.Most] 28] [(1,Ab),(2,.pointer (some ⟨b1,0,none⟩)),(5,v11),(6,v1),(10,iV x9),(11,iV x10),(12,iV x11),(88,bV c1)] 132 a w') ?_ ?_
      ·rcases Bool.eq_false_or_eq_true (decide (x10 < (x2.length : Int))) with hb6 | hb6
       ·replace h:=Qc h hb6
        refine Ee S rfl rfl rfl rfl hb6 (Fb S (Rm (S.tm rfl)) rfl fun a S=>Ee S rfl rfl rfl rfl hb6 (Fb S (Rm (S.tm rfl)) rfl fun a S=>Ee S rfl rfl rfl rfl hb6 (Fb S (Rm (S.tm rfl)) rfl fun a S=>Ee S rfl rfl rfl rfl hb6 ?_)))
        obtain ⟨hc3,h⟩:=Ie h
        obtain ⟨b8,hg1,hr2⟩:=Hq (a:=a) (x:=.tmp 70) (y:=.tmp 71) (ty:=0) Pf Ik S (i:=0) rfl (Dx hc3).1 (Dx hc3).2 (S.tm rfl) (S.tm rfl)
        refine Fb S (hr2 _) rfl ?_;clear S;intro a S
        clear hr2
        refine Ee S rfl rfl rfl rfl hb6 (Fb S (Hm isAgg3 (off:=x10.toNat * 1) (o:=0) (S.tm rfl) (Tt Ik S (i:=0) rfl hg1 (Dx hc3).1) rfl) rfl fun a S=>Ee S rfl rfl rfl rfl hb6 ?_)
        obtain ⟨hc4,h⟩:=Ie h
        obtain ⟨b9,hg2,hr3⟩:=Hq (a:=a) (x:=.tmp 69) (y:=.tmp 73) (ty:=0) BI Ds.enc_ok S (i:=1) rfl (Dx hc4).1 (Dx hc4).2 (S.tm rfl) (S.tm rfl)
        refine Fb S (hr3 _) rfl ?_;clear S;intro a S
        clear hr3
        refine Ee S rfl rfl rfl rfl hb6 (Fb S (Fy EV (S.tm rfl)) rfl fun a S=>Ee S rfl rfl rfl rfl hb6 (Fb S (Fy Np (S.tm rfl)) rfl fun a S=>Ee S rfl rfl rfl rfl hb6 (Fb S (Hm isAgg3 (off:=((nth x2 x10).toNat) * 7) (o:=3) (S.tm rfl) (Tt Ds.enc_ok S (i:=1) rfl hg2 (Dx hc4).1) rfl) rfl fun a S=>Ee S rfl rfl rfl rfl hb6 (Fb S (Rm (S.tm rfl)) rfl fun a S=>Ee S rfl rfl rfl rfl hb6 (Fb S (Rm (S.tm rfl)) rfl fun a S=>Ee S rfl rfl rfl rfl hb6 ?_)))))
        refine Fb S (Rm (S.tm rfl)) rfl fun a S=>Ee S rfl rfl rfl rfl hb6 ?_
        obtain ⟨hc5,h⟩:=Ie h
        obtain ⟨b10,hg3,hr4⟩:=Hq (a:=a) (x:=.tmp 79) (y:=.tmp 80) (ty:=0) Pf Ik S (i:=0) rfl (Dx hc5).1 (Dx hc5).2 (S.tm rfl) (S.tm rfl)
        refine Fb S (hr4 _) rfl ?_;clear S;intro a S
        clear hr4
        refine Ee S rfl rfl rfl rfl hb6 (Fb S (Hm isAgg3 (off:=x9.toNat * 1) (o:=0) (S.tm rfl) (Tt Ik S (i:=0) rfl hg3 (Dx hc5).1) rfl) rfl fun a S=>Ee S rfl rfl rfl rfl hb6 ?_)
        obtain ⟨hc6,h⟩:=Ie h
        obtain ⟨b11,hg4,hr5⟩:=Hq (a:=a) (x:=.tmp 78) (y:=.tmp 82) (ty:=0) BI Ds.enc_ok S (i:=1) rfl (Dx hc6).1 (Dx hc6).2 (S.tm rfl) (S.tm rfl)
        refine Fb S (hr5 _) rfl ?_;clear S;intro a S
        clear hr5
        exact Ee S rfl rfl rfl rfl hb6 (Fb S (Fy EV (S.tm rfl)) rfl fun a S=>Ee S rfl rfl rfl rfl hb6 (Fb S (Fy Np (S.tm rfl)) rfl fun a S=>Ee S rfl rfl rfl rfl hb6 (Fb S (Hm isAgg3 (off:=((nth x2 x9).toNat) * 7) (o:=3) (S.tm rfl) (Tt Ds.enc_ok S (i:=1) rfl hg4 (Dx hc6).1) rfl) rfl fun a S=>Ee S rfl rfl rfl rfl hb6 (Fb S (Im (S.tm rfl) (S.tm rfl)) rfl fun a S=>Gm S rfl (Hg hb6 (S.tm rfl) (S.tm rfl)) rfl fun a S=>Hv (⟨_,h,Keep.refl _ _,S.nf [true,true,true] rfl (subR rfl)⟩)))))
       ·replace h:=Qd h hb6
        iterate 19 (refine Nk S rfl rfl rfl rfl (Jh hb6) rfl ?_ rfl;clear S;intro a S)
        exact Gm S rfl (Hh true hb6 (S.tm rfl) rfl) rfl fun a S=>Hv (⟨_,h,Keep.refl _ _,S.nf [true,true,true] rfl (subR rfl)⟩)
      clear S h;rintro a w26 ⟨c1,h,hk18,S⟩;rw [hj6] at h;clear hj6 j6
      refine Hv ?_
      replace S:=S.k8 1 2 5 6 10 11 12 88 rfl
      refine Tn (Fc h (S.tm rfl) (fun hb7 h=>?_) (fun hb7 h=>?_))
      ·refine wp_skip (Tn (Fs ?_))
       obtain ⟨j7,hj7,h⟩:=Ep h
       refine Eg (fun a w'=>∃ x12 : Int,j7 x12 = some r ∧ Sx w [] nov [.own v1 3 1 x2.length (x2.flatMap eInt),.own v11 174 7 x8.length (x8.flatMap Ds.enc),.blk b1 [u1.val,iV Ay.Relay,iV Ay.Most] 28] [(1,Ab),(2,.pointer (some ⟨b1,0,none⟩)),(5,v11),(6,v1),(10,iV x9),(11,iV x10),(12,iV x12)] 132 a w') ?_ ?_
       ·refine wp_block (Fr (Vm S rfl rfl fun a S=>Vf AC S rfl rfl fun a S=>Vl isAgg22 2 S rfl rfl rfl rfl fun a S=>lv S (Fq Pf (S.tm rfl) (Fj hs1)) rfl fun a S=>Vb S Et rfl rfl rfl fun a S=>Dl ?_))
        obtain ⟨j8,hj8,h⟩:=Ep h
        refine Eg (fun a w'=>∃ x13 : Int,j8 x13 = some r ∧ Sx w [] nov [.own v1 3 1 x2.length (x2.flatMap eInt),.own v11 174 7 x8.length (x8.flatMap Ds.enc),.blk b1 [u1.val,iV Ay.Relay,iV Ay.Most] 28] [(1,Ab),(2,.pointer (some ⟨b1,0,none⟩)),(5,v11),(6,v1),(10,iV x9),(11,iV x10),(12,iV x13)] 132 a w') ?_ ?_
        ·refine Fc h (S.tm rfl) (fun hb8 h=>?_) (fun hb8 h=>?_)
         ·refine Fg (Vm S rfl rfl fun a S=>Vf AC S rfl rfl fun a S=>Vl isAgg22 2 S rfl rfl rfl rfl fun a S=>Vm S rfl rfl ?_);clear S;intro a S
          obtain ⟨hc7,h⟩:=Ie h
          obtain ⟨b12,o6,hm6,hr6⟩:=Ev (a:=a) (x:=.tmp 98) (y:=.tmp 99) (ty:=0) Pf hs1 (Dx hc7).1 (Dx hc7).2 (S.tm rfl) (S.tm rfl)
          refine lv S (hr6 _) rfl ?_;clear S;intro a S
          clear hr6
          refine lv S (Hm isAgg3 (off:=o6) (o:=0) (S.tm rfl) (hm6.at S.emb0) rfl) rfl fun a S=>Vb S Gc rfl rfl rfl fun a S=>Va S rfl rfl fun a S=>Ld ?_
          replace S:=S.k7 1 2 5 6 10 11 12 rfl
          exact Tn (⟨W (x11 + (nth Ay.Points x10)),h,S.nf [true,true,true] rfl (subR rfl)⟩)
         ·exact wp_skip (Tn (⟨x11,h,S.nf [true,true,true] rfl (subR rfl)⟩))
        clear S h;rintro a w28 ⟨x13,h,S⟩;rw [hj8] at h;clear hj8 j8
        exact Ho (Tn (⟨x13,h,S.nf [true,true,true] rfl (subR rfl)⟩))
       clear S h;rintro a w27 ⟨x12,h,S⟩;rw [hj7] at h;clear hj7 j7
       exact Tn (Fg (Vm S rfl rfl fun a S=>Vq S Gc rfl rfl rfl fun a S=>Va S rfl rfl fun a S=>Dl (⟨m2,⟨W (x10 + 1),x12,h,S.nf [true,true,true] rfl ⟨rfl,rfl,rfl,rfl,rfl,rfl,rfl,trivial⟩⟩,Nat.lt_succ_self _⟩)))
      ·exact wp_exit (Ed (Ed (Gp (Tn (⟨x10,x11,h,S.nf [true,true,true] rfl (subR rfl)⟩)))))
    clear S h;rintro a w24 ⟨x10,x11,h,S⟩;rw [hj5] at h;clear hj5 j5
    refine Tn (Fs (Fr (Vm S rfl rfl ?_)));clear S;intro a S
    obtain ⟨hc8,h⟩:=Ie h
    obtain ⟨b13,o7,hm7,hr7⟩:=Ev (a:=a) (x:=.tmp 103) (y:=.const (iV 0)) (ty:=0) Nn Af (Dx hc8).1 (Dx hc8).2 (S.tm rfl) rfl
    refine lv S (hr7 _) rfl ?_;clear S;intro a S
    clear hr7
    refine Vf ID S rfl rfl fun a S=>lv S (Hm isAgg4 (off:=o7) (o:=4) (S.tm rfl) (hm7.at S.emb0) rfl) rfl fun a S=>Dl ?_
    obtain ⟨j9,hj9,h⟩:=Ep h
    refine Eg (fun a w'=>∃ x14 : Int,j9 x14 = some r ∧ Sx w [] nov [.own v1 3 1 x2.length (x2.flatMap eInt),.own v11 174 7 x8.length (x8.flatMap Ds.enc),.blk b1 [u1.val,iV Ay.Relay,iV Ay.Most] 28] [(1,Ab),(2,.pointer (some ⟨b1,0,none⟩)),(5,v11),(6,v1),(10,iV x9),(11,iV x10),(12,iV x14)] 132 a w') ?_ ?_
    ·refine Fc h (S.tm rfl) (fun hb9 h=>?_) (fun hb9 h=>?_)
     ·refine Fg (Vm S rfl rfl fun a S=>Vf QJ S rfl rfl fun a S=>Vl isAgg3 2 S rfl rfl rfl rfl fun a S=>Vb S Yv rfl rfl rfl fun a S=>Va S rfl rfl fun a S=>Ld ?_)
      replace S:=S.k7 1 2 5 6 10 11 12 rfl
      exact Tn (⟨W (x11 * Ay.Relay),h,S.nf [true,true,true] rfl (subR rfl)⟩)
     ·exact wp_skip (Tn (⟨x11,h,S.nf [true,true,true] rfl (subR rfl)⟩))
    clear S h;rintro a w29 ⟨x14,h,S⟩;rw [hj9] at h;clear hj9 j9
    refine Tn (Fs (Fs (Fg ?_)))
    iterate 3 (refine Vm S rfl rfl ?_;clear S;intro a S)
    obtain ⟨hc9,h⟩:=Ie h
    obtain ⟨u2,hu1,hr8⟩:=rn_sub2 (a:=a) (x:=.tmp 111) (y:=.tmp 112) (y':=.tmp 113) (ty:=22) Pf S (i:=0) rfl (S.tm rfl) (S.tm rfl) (S.tm rfl) hc9
    refine lv S (hr8 _) rfl ?_;clear S;intro a S
    clear hr8
    refine lv S (Fq Pf (S.tm rfl) (subLen hu1)) rfl fun a S=>lv S (Rm rfl) rfl fun a S=>Dl ?_
    replace S:=S.k10 1 2 5 6 10 11 12 114 115 116 rfl
    obtain ⟨j10,hj10,h⟩:=Ep h
    refine Eg (fun a w'=>∃ x15 : List Ds,∃ v12 : Value,j10 x15 = some r ∧ Sx w [] nov [.own v1 3 1 x2.length (x2.flatMap eInt),.own v12 174 7 x15.length (x15.flatMap Ds.enc),.blk b1 [u1.val,iV Ay.Relay,iV Ay.Most] 28] [(1,Ab),(2,.pointer (some ⟨b1,0,none⟩)),(5,v12),(6,v1),(11,iV x10)] 132 a w') ?_ ?_
    ·refine wp_block (Gx (fun (m3 : Nat) a w'=>∃ x15 : List Ds,∃ x16 : Int,∃ v12 : Value,Ju x10 x9 x14 x2 j10 m3 x15 x16 = some r ∧ Sx w [] nov [.own v1 3 1 x2.length (x2.flatMap eInt),.own v12 174 7 x15.length (x15.flatMap Ds.enc),.blk b1 [u1.val,iV Ay.Relay,iV Ay.Most] 28] [(1,Ab),(2,.pointer (some ⟨b1,0,none⟩)),(5,v12),(6,v1),(10,iV x9),(11,iV x10),(12,iV x14),(114,u2),(115,iV ((x10.toNat - x9.toNat : Nat) : Int)),(116,iV x16)] 132 a w') id ((((x10.toNat - x9.toNat : Nat) : Int) - 0).toNat + 2) ⟨x8,0,v11,h,S.nf [true,true,true] rfl (subR rfl)⟩ ?_)
     clear S h;rintro m3 a w30 ⟨x15,x16,v12,h,S⟩
     cases m3 with
     | zero=>rw [Ju.eq_1] at h;cases h
     | succ m3 =>
      rw [Ju.eq_2] at h
      refine Fr (Vb S Et rfl rfl rfl fun a S=>Dl (Fs (Fc h (S.tm rfl) (fun hb10 h=>?_) (fun hb10 h=>?_))))
      ·refine wp_skip (Tn (Fs (wp_block (Fs (Fg ?_)))))
       obtain ⟨hc10,h⟩:=Ie h
       have hj11:=(sub_get (UF S (i:=0) rfl hu1) hc10).1
       obtain ⟨b14,hg5,hr9⟩:=NB (a:=a) (x:=.tmp 114) (y:=.tmp 116) (ty:=0) Pf Ik S (i:=0) rfl hu1 hc10 (S.tm rfl) (S.tm rfl)
       refine lv S (hr9 _) rfl ?_;clear S;intro a S
       clear hr9
       refine lv S (Hm isAgg3 (off:=(x9.toNat + x16.toNat) * 1) (o:=0) (S.tm rfl) (Tt Ik S (i:=0) rfl hg5 hj11) rfl) rfl fun a S=>Va S rfl rfl fun a S=>Dl (Fg ?_)
       iterate 5 (refine Vm S rfl rfl ?_;clear S;intro a S)
       refine Vb S Iu rfl rfl rfl ?_;clear S;intro a S
       obtain ⟨r1,hr10,h⟩:=Fa h
       refine Dw S (fun _=>Dp (vs:=[iV x14,iV (W (x10 - x9))]) ⟨(S.tm rfl),(S.tm rfl),trivial⟩ call141) (FB _ x14 (W (x10 - x9)) _ hr10) rfl ?_;clear S;intro v13 a w32 hv3 hk19 hn3 S
       subst hv3
       obtain ⟨hc11,h⟩:=Ie h
       obtain ⟨b15,hg6,hr11⟩:=Hq (a:=a) (x:=.tmp 120) (y:=.tmp 121) (ty:=0) BI Ds.enc_ok S (i:=1) rfl (Dx hc11).1 (Dx hc11).2 (S.tm rfl) (S.tm rfl)
       refine lv S (hr11 _) rfl ?_;clear S;intro a S
       clear hr11
       refine Vf NH S rfl rfl fun a S=>Qg (c:=5) (j:=(nth (cut x2 x9 x10) x16).toNat) (Ds.mk ((nth x15 (nth (cut x2 x9 x10) x16)).x_) r1) Ds.enc_ok S (S.tm rfl) (S.tm rfl) (i:=1) rfl hg6 (Dx hc11).1 sizeOf51 (vs:=[iV r1.Num,iV r1.Den]) rfl rfl rfl rfl rfl ?_;clear S;intro w34 hk21 S
       refine Ld ?_
       replace S:=(S.nl [.own v1 3 1 x2.length (x2.flatMap eInt),.own v12 174 7 (x15.set ((nth (cut x2 x9 x10) x16).toNat) (Ds.mk ((nth x15 (nth (cut x2 x9 x10) x16)).x_) r1)).length ((x15.set ((nth (cut x2 x9 x10) x16).toNat) (Ds.mk ((nth x15 (nth (cut x2 x9 x10) x16)).x_) r1)).flatMap Ds.enc),.blk b1 [u1.val,iV Ay.Relay,iV Ay.Most] 28] [true,true,true] rfl).k10 1 2 5 6 10 11 12 114 115 116 rfl
       exact Ho (Tn (Fg (Vq S Gc rfl rfl rfl fun a S=>Vm S rfl rfl fun a S=>Dl (⟨m3,⟨(x15.set ((nth (cut x2 x9 x10) x16).toNat) (Ds.mk ((nth x15 (nth (cut x2 x9 x10) x16)).x_) r1)),W (x16 + 1),v12,h,S.nf [true,true,true] rfl ⟨rfl,rfl,rfl,rfl,rfl,rfl,rfl,rfl,rfl,rfl,trivial⟩⟩,Nat.lt_succ_self _⟩))))
      ·exact wp_exit (Ed (Ed (Gp (Tn (⟨x15,v12,h,S.nf [true,true,true] rfl (subR rfl)⟩)))))
    clear S h;rintro a w31 ⟨x15,v12,h,S⟩;rw [hj10] at h;clear hj10 j10
    exact Tn (Fg (Vm S rfl rfl fun a S=>Va S rfl rfl fun a S=>Ld (Ho (Tn (⟨m1,⟨x15,x10,v12,h,S.nf [true,true,true] rfl ⟨rfl,rfl,rfl,rfl,rfl,trivial⟩⟩,Nat.lt_succ_self _⟩)))))
   ·exact wp_exit (Ed (Ed (Gp (Tn (⟨x8,v11,h,S.nf [true,true,true] rfl ⟨rfl,trivial⟩⟩)))))
 clear S h;rintro a w22 ⟨x8,v11,h,S⟩;rw [hj4] at h;clear hj4 j4
 refine Tn (Fr (Vm S rfl rfl fun a S=>Va S rfl rfl fun a S=>Dl (wp_ret ?_)))
 obtain rfl:=Option.some.inj h
 exact Ej S results115 rfl (Th S (i:=1) rfl rfl)
theorem IK (w : World) (Ay : Kr) (Ci : R28) (Cn : Xy (view w []) Ay Ci) (Ab : Value) (Ah : List Dm) (Af : Slc (view w []) 5 Ab (Ah.map Dm.enc)) (r : (List Ds)) (h : Pe Ay Ah = some r) :
    Calls prog 91 [.agg (R28.enc Ci).toArray,Ab].toArray w (Ret w [] fun τ v _=>Tf τ 174 7 v r.length (r.flatMap Ds.enc)):=by
 obtain ⟨u1,rfl,hs1⟩:=Cn
 refine Fe func91 rfl ntmps91 rfl fun a S=>?_
 unfold Pe at h
 replace S:=S.k2 0 1 rfl
 refine Fr (Mn S (S.tm rfl) (cs:=[u1.val,iV Ay.Relay,iV Ay.Most]) rfl rfl ?_);clear S;intro a w1 b1 hz1 hk1 S
 refine Vk S rfl rfl fun a S=>Dz (Vk S rfl rfl ?_);clear S;intro a S
 replace S:=S.nil 174 7
 refine Dl (Fs (Fr (Vm S rfl rfl ?_)));clear S;intro a S
 obtain ⟨r1,hr1,h⟩:=Fa h
 have hz2:=S.keep.size
 refine Dw S (fun _=>Dp (vs:=[Ab]) ⟨(S.tm rfl),trivial⟩ call114) (AM _ (join (view w []) nov) (Ng (S.le_arg Ec) (S.le_new Ec)) Ab Ah (Af.mono (le_join_left _ _)) _ hr1) rfl ?_;clear S;intro v1 a w2 hv1 hk2 hn1 S
 obtain ⟨φ1,hl1,hm1,S⟩:=S.see' hn1 hz2
 obtain ⟨rs1,ho2,hr2⟩:=hv1
 have hs2:=ho2.mono (Rb hl1 hm1)
 have hr3:=EN (Rb hl1 hm1) hr2
 refine lv S (Fq AB (S.tm rfl) (Uj hs2 hr3)) rfl fun a S=>lv S (Rm rfl) rfl fun a S=>Dl ?_
 replace S:=(S.nl [.own (.slice none 0 0) 174 7 ([] : List Ds).length (([] : List Ds).flatMap Ds.enc),.blk b1 [u1.val,iV Ay.Relay,iV Ay.Most] 28] [true,true] rfl).k5 2 5 9 10 11 rfl
 obtain ⟨j1,hj1,h⟩:=Ep h
 refine Eg (fun a w'=>∃ x1 : List Ds,∃ φ2 : View,∃ v2 : Value,j1 x1 = some r ∧ View.le φ1 φ2 ∧ Sx w [] φ2 [.own v2 174 7 x1.length (x1.flatMap Ds.enc),.blk b1 [u1.val,iV Ay.Relay,iV Ay.Most] 28] [(5,v2)] 22 a w') ?_ ?_
 ·refine wp_block (Gx (fun (ys1 : List (List Dm)) a w'=>∃ i1 : Nat,∃ x1 : List Ds,∃ φ2 : View,∃ v2 : Value,(∃ dn,r1 = dn ++ ys1 ∧ dn.length = i1) ∧ Me Ay j1 ys1 i1 x1 = some r ∧ View.le φ1 φ2 ∧ Sx w [] φ2 [.own v2 174 7 x1.length (x1.flatMap Ds.enc),.blk b1 [u1.val,iV Ay.Relay,iV Ay.Most] 28] [(2,.pointer (some ⟨b1,0,none⟩)),(5,v2),(9,v1),(10,iV (r1.length : Int)),(11,iV (i1 : Int))] 22 a w') List.length r1 ⟨0,([] : List Ds),φ1,(.slice none 0 0),⟨[],rfl,rfl⟩,h,View.le_refl _,S.nf [true,true] rfl (subR rfl)⟩ ?_)
  clear S h;rintro ys1 a w3 ⟨i1,x1,φ2,v2,⟨dn,hd1,hi1⟩,h,hl2,S⟩
  cases ys1 with
  | nil =>
   rw [Me.eq_1] at h
   refine Fr (Vb S Et rfl rfl rfl fun a S=>Ld ?_)
   replace S:=S.k6 2 5 9 10 11 12 rfl
   exact Tn (Fs (wp_cond_false ((S.tm rfl).trans (congrArg Value.bool (Il hd1 hi1))) (wp_exit (Ed (Ed (Gp (Tn (⟨x1,φ2,v2,h,hl2,S.nf [true,true] rfl ⟨rfl,trivial⟩⟩))))))))
  | cons y1 ys1 =>
   rw [Me.eq_2] at h
   refine Fr (Vb S Et rfl rfl rfl fun a S=>Ld ?_)
   replace S:=S.k6 2 5 9 10 11 12 rfl
   refine Tn (Fs (wp_cond_true ((S.tm rfl).trans (congrArg Value.bool (Ht hd1 hi1))) (wp_skip (Tn (Fs (wp_block (Fs (Fg ?_))))))))
   obtain ⟨r2,hg1,hl3⟩:=Lh.at hr3 (Io hd1 hi1)
   have hs3:=hl3
   obtain ⟨b2,o1,hm2,hr4⟩:=Ev (a:=a) (x:=.tmp 9) (y:=.tmp 11) (ty:=0) AB hs2 hg1 rfl (S.tm rfl) (S.tm rfl)
   refine lv S (hr4 _) rfl ?_;clear S;intro a S
   clear hr4
   refine lv S (Hm isAgg125 (off:=o1) (o:=0) (S.tm rfl) ((hm2.mono (IB hl2)).at (Vh S.emb0 S.emb)) rfl) rfl fun a S=>Va S rfl rfl fun a S=>Dl (Fg (Vm S rfl rfl fun a S=>lv S (Fp isAgg28 sizeOf28 (off:=0) (o:=0) (part:=[u1.val,iV Ay.Relay,iV Ay.Most]) rfl rfl (S.tm rfl) (S.cellsAt (i:=1) rfl)) rfl fun a S=>Vm S rfl rfl ?_));clear S;intro a S
   obtain ⟨r3,hr5,h⟩:=Fa h
   have hz3:=S.keep.size
   refine Dw S (fun _=>Dp (vs:=[.agg (R28.enc (R28.mk u1 Ay.Relay Ay.Most)).toArray,r2.val]) ⟨(S.tm rfl),(S.tm rfl),trivial⟩ call115) (IJ _ Ay (R28.mk u1 Ay.Relay Ay.Most) ⟨u1,rfl,(hs1.mono (S.le_arg Ec))⟩ r2.val y1 (hs3.mono (Ng (S.le_arg Ec) (View.le_trans hl2 (S.le_new Ec)))) _ hr5) rfl ?_;clear S;intro v3 a w5 hv2 hk3 hn2 S
   obtain ⟨φ3,hl4,hm3,S⟩:=S.see' hn2 hz3
   have hs4:=hv2.mono hm3
   obtain ⟨hc1,h⟩:=Ie h
   refine JZ (Y:=[]) BI Ds.enc_ok S (S.tm rfl) (i:=0) rfl (S.tm rfl) ((Ga Ds.enc_ok hs4).mono (S.le_new (fun _ h=>by cases h))) rfl rfl (by have:=Nd hc1;omega) rfl ?_;clear S;intro v4 a w6 hk4 S
   refine Va S rfl rfl fun a S=>Ld (Ho (Tn (Fg (Vq S Gc rfl rfl rfl fun a S=>Vm S rfl rfl fun a S=>Ld ?_))))
   replace S:=(S.nl [.own v4 174 7 (x1 ++ r3).length ((x1 ++ r3).flatMap Ds.enc),.blk b1 [u1.val,iV Ay.Relay,iV Ay.Most] 28] [true,true] rfl).k5 2 5 9 10 11 rfl
   exact Tn (⟨ys1,⟨i1 + 1,(x1 ++ r3),φ3,v4,⟨_,(hd1).trans (List.append_cons _ _ _),by simp [hi1]⟩,h,(View.le_trans hl2 hl4),S.nf [true,true] rfl ⟨rfl,rfl,rfl,rfl,(congrArg (fun z=>some (Value.int .i64 z)) (Hu hd1 hi1 (Wy hs2 hr3))),trivial⟩⟩,Nat.lt_succ_self _⟩)
 clear S h;rintro a w4 ⟨x1,φ2,v2,h,hl2,S⟩;rw [hj1] at h;clear hj1 j1
 refine Tn (Fr (Vm S rfl rfl fun a S=>Va S rfl rfl fun a S=>Dl (wp_ret ?_)))
 obtain rfl:=Option.some.inj h
 exact Ej S results91 rfl (Th S (i:=0) rfl rfl)
theorem HD (w : World) (Ay : Kr) (Ci : R28) (Cn : Xy (view w []) Ay Ci) (Ab : Value) (Ah : List Dm) (Af : Slc (view w []) 5 Ab (Ah.map Dm.enc)) (r : (List Km) × Int) (h : Tw Ay Ah = some r) :
    Calls prog 54 [.agg (R28.enc Ci).toArray,Ab].toArray w (Ret w [] fun τ v _=>∃ u1 : Value,v = .tuple #[u1,iV r.2] ∧ Tf τ 138 3 u1 r.1.length (r.1.flatMap Km.enc)):=by
 obtain ⟨u1,rfl,hs1⟩:=Cn
 refine Fe func54 rfl ntmps54 rfl fun a S=>?_
 unfold Tw at h
 replace S:=S.k2 0 1 rfl
 refine Fr (Mn S (S.tm rfl) (cs:=[u1.val,iV Ay.Relay,iV Ay.Most]) rfl rfl ?_);clear S;intro a w1 b1 hz1 hk1 S
 refine Vk S rfl rfl fun a S=>Vk S rfl rfl fun a S=>Dl (Fs (Fr (lv S (Fp isAgg28 sizeOf28 (off:=0) (o:=0) (part:=[u1.val,iV Ay.Relay,iV Ay.Most]) rfl rfl (S.tm rfl) (S.cellsAt (i:=0) rfl)) rfl fun a S=>Vm S rfl rfl ?_)));clear S;intro a S
 obtain ⟨r1,hr1,h⟩:=Fa h
 refine Dw S (fun _=>Dp (vs:=[.agg (R28.enc (R28.mk u1 Ay.Relay Ay.Most)).toArray,Ab]) ⟨(S.tm rfl),(S.tm rfl),trivial⟩ call90) (CY _ Ay (R28.mk u1 Ay.Relay Ay.Most) ⟨u1,rfl,(hs1.mono (S.le_arg Ec))⟩ Ab Ah (Af.mono (S.le_arg Ec)) _ hr1) rfl ?_;clear S;intro v1 a w2 hv1 hk2 hn1 S
 subst hv1
 refine Va S rfl rfl fun a S=>Dz (Vm S rfl rfl fun a S=>Vq S Kw rfl rfl rfl fun a S=>Dl (Fc h (S.tm rfl) (fun hb1 h=>?_) (fun hb1 h=>?_)))
 ·refine Fr (Vm S rfl rfl fun a S=>Vk S rfl rfl fun a S=>Va S rfl rfl fun a S=>Dl (wp_ret (Dt ?_)))
  obtain rfl:=Option.some.inj h
  exact Lg S results54 rfl rfl ⟨_,rfl,(Qf _ _ _)⟩
 ·refine wp_skip (Tn (Fr (Vk S rfl rfl ?_)));clear S;intro a S
  replace S:=S.nil 138 3
  refine Dl (Fs (Fr (lv S (Fp isAgg28 sizeOf28 (off:=0) (o:=0) (part:=[u1.val,iV Ay.Relay,iV Ay.Most]) rfl rfl (S.tm rfl) (S.cellsAt (i:=1) rfl)) rfl fun a S=>Vm S rfl rfl ?_)));clear S;intro a S
  obtain ⟨r2,hr2,h⟩:=Fa h
  have hz2:=S.keep.size
  refine Dw S (fun _=>Dp (vs:=[.agg (R28.enc (R28.mk u1 Ay.Relay Ay.Most)).toArray,Ab]) ⟨(S.tm rfl),(S.tm rfl),trivial⟩ call91) (IK _ Ay (R28.mk u1 Ay.Relay Ay.Most) ⟨u1,rfl,(hs1.mono (S.le_arg Ec))⟩ Ab Ah (Af.mono (S.le_arg Ec)) _ hr2) rfl ?_;clear S;intro v2 a w3 hv2 hk3 hn2 S
  obtain ⟨φ1,hl1,hm1,S⟩:=S.see' hn2 hz2
  have hs2:=hv2.mono hm1
  refine lv S (Fq BI (S.tm rfl) (Fj (Ga Ds.enc_ok hs2))) rfl fun a S=>lv S (Rm rfl) rfl fun a S=>Ld ?_
  replace S:=(S.nl [.own (.slice none 0 0) 138 3 ([] : List Km).length (([] : List Km).flatMap Km.enc)] [true,false] rfl).k4 7 18 19 20 rfl
  refine Tn ?_
  obtain ⟨j1,hj1,h⟩:=Ep h
  refine Eg (fun a w'=>∃ x1 : List Km,∃ v3 : Value,j1 x1 = some r ∧ Sx w [] φ1 [.own v3 138 3 x1.length (x1.flatMap Km.enc)] [(7,v3)] 40 a w') ?_ ?_
  ·refine wp_block (Gx (fun (ys1 : List Ds) a w'=>∃ i1 : Nat,∃ x1 : List Km,∃ v3 : Value,(∃ dn,r2 = dn ++ ys1 ∧ dn.length = i1) ∧ Mf j1 ys1 i1 x1 = some r ∧ Sx w [] φ1 [.own v3 138 3 x1.length (x1.flatMap Km.enc)] [(7,v3),(18,v2),(19,iV (r2.length : Int)),(20,iV (i1 : Int))] 40 a w') List.length r2 ⟨0,([] : List Km),(.slice none 0 0),⟨[],rfl,rfl⟩,h,S.nf [true] rfl (subR rfl)⟩ ?_)
   clear S h;rintro ys1 a w4 ⟨i1,x1,v3,⟨dn,hd1,hi1⟩,h,S⟩
   cases ys1 with
   | nil =>
    rw [Mf.eq_1] at h
    refine Fr (Vb S Et rfl rfl rfl fun a S=>Ld ?_)
    replace S:=S.k5 7 18 19 20 21 rfl
    exact Tn (Fs (wp_cond_false ((S.tm rfl).trans (congrArg Value.bool (Il hd1 hi1))) (wp_exit (Ed (Ed (Gp (Tn (⟨x1,v3,h,S.nf [true] rfl ⟨rfl,trivial⟩⟩))))))))
   | cons y1 ys1 =>
    rw [Mf.eq_2] at h
    refine Fr (Vb S Et rfl rfl rfl fun a S=>Ld ?_)
    replace S:=S.k5 7 18 19 20 21 rfl
    refine Tn (Fs (wp_cond_true ((S.tm rfl).trans (congrArg Value.bool (Ht hd1 hi1))) (wp_skip (Tn (Fs (wp_block (Fs (Fg ?_))))))))
    obtain ⟨b2,o1,hm2,hr3⟩:=Ev (a:=a) (x:=.tmp 18) (y:=.tmp 20) (ty:=0) BI (Ga Ds.enc_ok hs2) (Io hd1 hi1) rfl (S.tm rfl) (S.tm rfl)
    refine lv S (hr3 _) rfl ?_;clear S;intro a S
    clear hr3
    refine lv S (Fp isAgg174 sizeOf174 (off:=o1) (o:=0) (part:=(Ds.enc y1)) rfl rfl (S.tm rfl) (hm2.at S.emb)) rfl fun a S=>Hs S zeroValue174 (cs:=[sV An,sV An,sV An,iV 0,bV false,iV 0,iV 0]) rfl rfl ?_;clear S;intro a w6 b3 hz3 hk4 S
    refine Ex S (S.tm rfl) (S.tm rfl) (i:=0) (off:=0) rfl sizeOf174 (vs:=(Ds.enc y1)) rfl rfl rfl rfl ?_;clear S;intro w7 hk5 S
    refine Dl (Fg (Vm S rfl rfl fun a S=>Vf EV S rfl rfl fun a S=>Vf Xb S rfl rfl fun a S=>Vl isAgg9 0 S rfl rfl rfl rfl ?_));clear S;intro a S
    obtain ⟨hc1,h⟩:=Ie h
    refine lv S (HI (m:=y1.x_.Race) (n:=Oh) (S.tm rfl) rfl (by have:=Nd hc1;omega)) rfl ?_;clear S;intro a S
    refine Vf EV S rfl rfl fun a S=>Vf Xc S rfl rfl fun a S=>Vl isAgg9 0 S rfl rfl rfl rfl ?_;clear S;intro a S
    obtain ⟨hc2,h⟩:=Ie h
    refine lv S (HI (m:=(y1.x_.Race ++ Oh)) (n:=y1.x_.Who) (S.tm rfl) (S.tm rfl) (by have:=Nd hc2;omega)) rfl ?_;clear S;intro a S
    refine Vf NH S rfl rfl fun a S=>lv S (Fp isAgg51 sizeOf51 (off:=0) (o:=5) (part:=(Em.enc y1.points_)) rfl rfl (S.tm rfl) (S.cellsAt (i:=0) rfl)) rfl fun a S=>lv S (Mr bt_138 (pv:=[(0,sV ((y1.x_.Race ++ Oh) ++ y1.x_.Who)),(1,.agg (Em.enc y1.points_).toArray)]) ⟨rfl,(S.tm rfl),rfl,(S.tm rfl),trivial⟩ (cs:=[sV ((y1.x_.Race ++ Oh) ++ y1.x_.Who),iV y1.points_.Num,iV y1.points_.Den]) (by kernel_rfl)) rfl fun a S=>Er S underlying133 sizeOf138 zeroValue138 rfl rfl (pv:=[(0,.agg #[sV ((y1.x_.Race ++ Oh) ++ y1.x_.Who),iV y1.points_.Num,iV y1.points_.Den])]) ⟨rfl,(S.tm rfl),trivial⟩ (cs:=[sV ((y1.x_.Race ++ Oh) ++ y1.x_.Who),iV y1.points_.Num,iV y1.points_.Den]) (by kernel_rfl) rfl ?_;clear S;intro a w8 b4 hz4 hk6 S
    obtain ⟨hc3,h⟩:=Ie h
    refine Ms OY Km.enc_ok S (S.tm rfl) (i:=2) rfl (S.tm rfl) (j:=0) rfl (ys:=[(Km.mk ((y1.x_.Race ++ Oh) ++ y1.x_.Who) y1.points_)]) rfl rfl rfl rfl (by have:=Nd hc3;omega) rfl ?_;clear S;intro v4 a w9 hk7 S
    refine Va S rfl rfl fun a S=>Ld ?_
    replace S:=(S.nl [.own v4 138 3 (x1 ++ [(Km.mk ((y1.x_.Race ++ Oh) ++ y1.x_.Who) y1.points_)]).length ((x1 ++ [(Km.mk ((y1.x_.Race ++ Oh) ++ y1.x_.Who) y1.points_)]).flatMap Km.enc)] [false,false,true] rfl).k4 7 18 19 20 rfl
    exact Ho (Tn (Fg (Vq S Gc rfl rfl rfl fun a S=>Vm S rfl rfl fun a S=>Dl (⟨ys1,⟨i1 + 1,(x1 ++ [(Km.mk ((y1.x_.Race ++ Oh) ++ y1.x_.Who) y1.points_)]),v4,⟨_,(hd1).trans (List.append_cons _ _ _),by simp [hi1]⟩,h,S.nf [true] rfl ⟨rfl,rfl,rfl,(congrArg (fun z=>some (Value.int .i64 z)) (Hu hd1 hi1 (Iz (Ga Ds.enc_ok hs2)))),trivial⟩⟩,Nat.lt_succ_self _⟩))))
  clear S h;rintro a w5 ⟨x1,v3,h,S⟩;rw [hj1] at h;clear hj1 j1
  refine Tn (Fr (Vm S rfl rfl fun a S=>Va S rfl rfl fun a S=>Vk S rfl rfl fun a S=>Dl (wp_ret ?_)))
  obtain rfl:=Option.some.inj h
  exact Lg S results54 rfl rfl ⟨_,rfl,(Th S (i:=0) rfl rfl)⟩
theorem FV (w : World) (O : Nat) (Ae : Iw) (Bi : R32) (Bu : Rk (view w []) Ae Bi) (Ak : Value) (Ai : List Dk) (Bb : Slc (view w []) 11 Ak (Ai.map Dk.enc)) (Ao : (view w []) O = some (.cells (R32.enc Bi ++ [Ak]).toArray 112 (0,0))) (As : Dy) (r : (List Ic) × Int) (h : Pw Ae Ai As = some r) :
    Calls prog 24 [.pointer (some ⟨O,0,none⟩),.agg (Dy.enc As).toArray].toArray w (Ret w [] fun τ v _=>∃ u1 : Value,v = .tuple #[u1,iV r.2] ∧ Tf τ 53 7 u1 r.1.length (r.1.flatMap Ic.enc)):=by
 obtain ⟨u1,u2,rfl,hs1,⟨u3,rfl,hs2⟩⟩:=Bu
 replace Ao : (view w []) O = some (.cells [u1.val,u3.val,iV Ae.Table.Relay,iV Ae.Table.Most,iV Ae.Final.Size,iV Ae.Final.Many,iV Ae.Final.Reserves,Ak].toArray 112 (0,0)):=Ao
 refine Fe func24 rfl ntmps24 rfl fun a S=>?_
 unfold Pw at h
 replace S:=S.k2 0 1 rfl
 refine Fr (Mn S (S.tm rfl) (cs:=(Dy.enc As)) rfl rfl ?_);clear S;intro a w1 b1 hz1 hk1 S
 refine Vk S rfl rfl fun a S=>Vk S rfl rfl fun a S=>Dz (Vm S rfl rfl fun a S=>Vf Tx S rfl rfl fun a S=>Vl isAgg9 0 S rfl rfl rfl rfl ?_);clear S;intro a S
 obtain ⟨r1,hr1,h⟩:=Fa h
 have hz2:=S.keep.size
 refine Dw S (fun _=>Dp (vs:=[.pointer (some ⟨O,0,none⟩),sV As.Key]) ⟨(S.tm rfl),(S.tm rfl),trivial⟩ call50) (HC _ O Ae (R32.mk u1 (R28.mk u3 Ae.Table.Relay Ae.Table.Most) Ae.Final) ⟨u1,(R28.mk u3 Ae.Table.Relay Ae.Table.Most),rfl,(hs1.mono (S.le_arg Ec)),⟨u3,rfl,(hs2.mono (S.le_arg Ec))⟩⟩ Ak Ai (Bb.mono (S.le_arg Ec)) ((S.le_arg Ec) _ _ Ao) As.Key _ hr1) rfl ?_;clear S;intro v1 a w2 hv1 hk2 hn1 S
 obtain ⟨u4,u5,rfl,ho1,ho2⟩:=hv1
 obtain ⟨φ1,hl1,hm1,S⟩:=S.see' hn1 hz2
 have hs3:=ho1.mono hm1
 obtain ⟨b2,rfl,hq1⟩:=ho2
 replace hq1:=hm1 _ _ hq1
 refine Vm S rfl rfl ?_;clear S;intro a S
 iterate 3 (refine Vq S Gb rfl rfl rfl ?_;clear S;intro a S)
 iterate 3 (refine Va S rfl rfl ?_;clear S;intro a S)
 refine Ld ?_
 replace S:=(S.nl [.blk b1 (Dy.enc As) 42] [true] rfl).k5 0 3 6 7 8 rfl
 refine Tn (Fs (Fr (Vm S rfl rfl fun a S=>Vq S Kw rfl rfl rfl fun a S=>Dl (Fc h (S.tm rfl) (fun hb1 h=>?_) (fun hb1 h=>?_)))))
 ·refine Fr (Vm S rfl rfl fun a S=>Vk S rfl rfl fun a S=>Va S rfl rfl fun a S=>Dl (wp_ret (Dt ?_)))
  obtain rfl:=Option.some.inj h
  exact Lg S results24 rfl rfl ⟨_,rfl,(Qf _ _ _)⟩
 ·refine wp_skip (Tn (Fr (Vk S rfl rfl ?_)));clear S;intro a S
  replace S:=S.nil 129 5
  refine Dl (Fs (Fr (Vm S rfl rfl fun a S=>lv S (Fq Sb (S.tm rfl) (Fj (Ga Dq.enc_ok hs3))) rfl fun a S=>lv S (Rm rfl) rfl fun a S=>Dl ?_)))
  replace S:=(S.nl [.own (.slice none 0 0) 129 5 ([] : List Dm).length (([] : List Dm).flatMap Dm.enc),.blk b1 (Dy.enc As) 42] [true,true] rfl).k8 0 3 6 7 9 32 33 34 rfl
  obtain ⟨j1,hj1,h⟩:=Ep h
  refine Eg (fun a w'=>∃ x1 : List Dm,∃ v2 : Value,j1 x1 = some r ∧ Sx w [] φ1 [.own v2 129 5 x1.length (x1.flatMap Dm.enc),.blk b1 (Dy.enc As) 42] [(0,.pointer (some ⟨O,0,none⟩)),(3,.pointer (some ⟨b1,0,none⟩)),(6,u4),(7,.map (some b2)),(9,v2)] 123 a w') ?_ ?_
  ·refine wp_block (Gx (fun (ys1 : List Dq) a w'=>∃ i1 : Nat,∃ x1 : List Dm,∃ v2 : Value,(∃ dn,r1.1 = dn ++ ys1 ∧ dn.length = i1) ∧ Ln As r1 j1 ys1 i1 x1 = some r ∧ Sx w [] φ1 [.own v2 129 5 x1.length (x1.flatMap Dm.enc),.blk b1 (Dy.enc As) 42] [(0,.pointer (some ⟨O,0,none⟩)),(3,.pointer (some ⟨b1,0,none⟩)),(6,u4),(7,.map (some b2)),(9,v2),(32,u4),(33,iV (r1.1.length : Int)),(34,iV (i1 : Int))] 123 a w') List.length r1.1 ⟨0,([] : List Dm),(.slice none 0 0),⟨[],rfl,rfl⟩,h,S.nf [true,true] rfl (subR rfl)⟩ ?_)
   clear S h;rintro ys1 a w3 ⟨i1,x1,v2,⟨dn,hd1,hi1⟩,h,S⟩
   cases ys1 with
   | nil =>
    rw [Ln.eq_1] at h
    refine Fr (Vb S Et rfl rfl rfl fun a S=>Ld ?_)
    replace S:=S.k9 0 3 6 7 9 32 33 34 35 rfl
    exact Tn (Fs (wp_cond_false ((S.tm rfl).trans (congrArg Value.bool (Il hd1 hi1))) (wp_exit (Ed (Ed (Gp (Tn (⟨x1,v2,h,S.nf [true,true] rfl (subR rfl)⟩))))))))
   | cons y1 ys1 =>
    rw [Ln.eq_2] at h
    refine Fr (Vb S Et rfl rfl rfl fun a S=>Ld ?_)
    replace S:=S.k9 0 3 6 7 9 32 33 34 35 rfl
    refine Tn (Fs (wp_cond_true ((S.tm rfl).trans (congrArg Value.bool (Ht hd1 hi1))) (wp_skip (Tn (Fs (wp_block (Fs (Fg ?_))))))))
    obtain ⟨b3,o1,hm2,hr2⟩:=Ev (a:=a) (x:=.tmp 32) (y:=.tmp 34) (ty:=0) Sb (Ga Dq.enc_ok hs3) (Io hd1 hi1) rfl (S.tm rfl) (S.tm rfl)
    refine lv S (hr2 _) rfl ?_;clear S;intro a S
    clear hr2
    refine lv S (Fp isAgg127 sizeOf127 (off:=o1) (o:=0) (part:=(Dq.enc y1)) rfl rfl (S.tm rfl) (hm2.at S.emb)) rfl fun a S=>Hs S zeroValue127 (cs:=[sV An,iV 0,iV 0,iV 0]) rfl rfl ?_;clear S;intro a w5 b4 hz3 hk3 S
    refine Ex S (S.tm rfl) (S.tm rfl) (i:=0) (off:=0) rfl sizeOf127 (vs:=(Dq.enc y1)) rfl rfl rfl rfl ?_;clear S;intro w6 hk4 S
    refine Dl (Fg (Vm S rfl rfl fun a S=>Vf Tx S rfl rfl fun a S=>Vl isAgg9 2 S rfl rfl rfl rfl fun a S=>Vf BK S rfl rfl fun a S=>Vl isAgg9 0 S rfl rfl rfl rfl fun a S=>Vm S rfl rfl fun a S=>Vf BK S rfl rfl fun a S=>Vl isAgg9 0 S rfl rfl rfl rfl ?_));clear S;intro a S
    refine lv S (Qa (kv:=Value.string) (vv:=Value.string) (m:=r1.2.1) (key:=y1.Who) (z:=An) (S.emb _ _ hq1) underlying122 (Mx underlying9) zeroValue9 (S.tm rfl) (S.tm rfl)) rfl fun a S=>Vf BL S rfl rfl fun a S=>Vl isAgg3 0 S rfl rfl rfl rfl fun a S=>Vf EP S rfl rfl fun a S=>Vl isAgg3 2 S rfl rfl rfl rfl fun a S=>Vq S It rfl rfl rfl fun a S=>lv S (Mr bt_129 (pv:=[(0,sV As.Key),(1,sV y1.Who),(2,sV (Ea r1.2.1 y1.Who An)),(3,iV y1.Rank),(4,bV (decide (1 < As.Legs)))]) ⟨rfl,(S.tm rfl),rfl,(S.tm rfl),rfl,(S.tm rfl),rfl,(S.tm rfl),rfl,(S.tm rfl),trivial⟩ (cs:=[sV As.Key,sV y1.Who,sV (Ea r1.2.1 y1.Who An),iV y1.Rank,bV (decide (1 < As.Legs))]) (by kernel_rfl)) rfl fun a S=>Er S underlying125 sizeOf129 zeroValue129 rfl rfl (pv:=[(0,.agg #[sV As.Key,sV y1.Who,sV (Ea r1.2.1 y1.Who An),iV y1.Rank,bV (decide (1 < As.Legs))])]) ⟨rfl,(S.tm rfl),trivial⟩ (cs:=[sV As.Key,sV y1.Who,sV (Ea r1.2.1 y1.Who An),iV y1.Rank,bV (decide (1 < As.Legs))]) (by kernel_rfl) rfl ?_;clear S;intro a w7 b5 hz4 hk5 S
    obtain ⟨hc1,h⟩:=Ie h
    refine Ms Nn Dm.enc_ok S (S.tm rfl) (i:=2) rfl (S.tm rfl) (j:=0) rfl (ys:=[(Dm.mk As.Key y1.Who (Ea r1.2.1 y1.Who An) y1.Rank (decide (1 < As.Legs)))]) rfl rfl rfl rfl (by have:=Nd hc1;omega) rfl ?_;clear S;intro v3 a w8 hk6 S
    refine Va S rfl rfl fun a S=>Ld ?_
    replace S:=(S.nl [.own v3 129 5 (x1 ++ [(Dm.mk As.Key y1.Who (Ea r1.2.1 y1.Who An) y1.Rank (decide (1 < As.Legs)))]).length ((x1 ++ [(Dm.mk As.Key y1.Who (Ea r1.2.1 y1.Who An) y1.Rank (decide (1 < As.Legs)))]).flatMap Dm.enc),.blk b1 (Dy.enc As) 42] [false,false,true,true] rfl).k8 0 3 6 7 9 32 33 34 rfl
    exact Ho (Tn (Fg (Vq S Gc rfl rfl rfl fun a S=>Vm S rfl rfl fun a S=>Dl (⟨ys1,⟨i1 + 1,(x1 ++ [(Dm.mk As.Key y1.Who (Ea r1.2.1 y1.Who An) y1.Rank (decide (1 < As.Legs)))]),v3,⟨_,(hd1).trans (List.append_cons _ _ _),by simp [hi1]⟩,h,S.nf [true,true] rfl ⟨rfl,rfl,rfl,rfl,rfl,rfl,rfl,(congrArg (fun z=>some (Value.int .i64 z)) (Hu hd1 hi1 (Iz (Ga Dq.enc_ok hs3)))),trivial⟩⟩,Nat.lt_succ_self _⟩))))
  clear S h;rintro a w4 ⟨x1,v2,h,S⟩;rw [hj1] at h;clear hj1 j1
  refine Tn (Fr (Vm S rfl rfl ?_));clear S;intro a S
  obtain ⟨r2,hr3,h⟩:=Fa h
  refine Pd 0 S rfl (fun _=>.own v2 129 5 r2.length (r2.flatMap Dm.enc)) (fun _=>Dp (vs:=[v2,.func (.func 52) #[] #[]]) ⟨(S.tm rfl),rfl,trivial⟩ call51) (Qr _ v2 x1 (S.holds _ (List.mem_of_getElem? (i:=0) rfl)) _ hr3) rfl (fun _ _ _ h=>⟨h.1,fun _ hc=>hc⟩) ?_;clear S;intro v4 a w9 hv2 hk7 hn2 S
  replace hv2:=hv2.2
  subst hv2
  refine Dz (Vm S rfl rfl fun a S=>Vu S Lb rfl rfl fun a S=>Vf BJ S rfl rfl fun a S=>Vf QK S rfl rfl fun a S=>lv S (Fp isAgg28 sizeOf28 (off:=0) (o:=1) (part:=[u3.val,iV Ae.Table.Relay,iV Ae.Table.Most]) rfl rfl (S.tm rfl) ((Ru Ao).at S.emb0)) rfl fun a S=>Vm S rfl rfl ?_);clear S;intro a S
  obtain ⟨r3,hr4,h⟩:=Fa h
  have hz5:=S.keep.size
  refine Dw S (fun _=>Dp (vs:=[.agg (R28.enc (R28.mk u3 Ae.Table.Relay Ae.Table.Most)).toArray,v2]) ⟨(S.tm rfl),(S.tm rfl),trivial⟩ call54) (HD _ Ae.Table (R28.mk u3 Ae.Table.Relay Ae.Table.Most) ⟨u3,rfl,(hs2.mono (S.le_arg Ec))⟩ v2 r2 (BB Dm.enc_ok S (i:=0) rfl (Ia (e':=.own v2 129 5 r2.length (r2.flatMap Dm.enc)))) _ hr4) rfl ?_;clear S;intro v5 a w10 hv3 hk8 hn3 S
  obtain ⟨u6,rfl,ho3⟩:=hv3
  obtain ⟨φ2,hl2,hm3,S⟩:=S.see' hn3 hz5
  have hs4:=ho3.mono hm3
  refine Vm S rfl rfl fun a S=>Vq S Gb rfl rfl rfl fun a S=>Vq S Gb rfl rfl rfl fun a S=>Va S rfl rfl fun a S=>Va S rfl rfl fun a S=>Ld ?_
  replace S:=(S.nl [.blk b1 (Dy.enc As) 42] [false,true] rfl).k5 3 6 7 8 12 rfl
  refine Tn (Fs (Fr (Vm S rfl rfl fun a S=>Vq S Kw rfl rfl rfl fun a S=>Dl (Fc h (S.tm rfl) (fun hb2 h=>?_) (fun hb2 h=>?_)))))
  ·refine Fr (Vm S rfl rfl fun a S=>Vk S rfl rfl fun a S=>Va S rfl rfl fun a S=>Dl (wp_ret (Dt ?_)))
   obtain rfl:=Option.some.inj h
   exact Lg S results24 rfl rfl ⟨_,rfl,(Qf _ _ _)⟩
  ·refine wp_skip (Tn (Fr (Rx (κ:=ByteArray) (ν:=Em) S rfl Value.string (fun x=>Value.agg (Em.enc x).toArray) ?_)));clear S;intro a w11 b6 hz6 hk9 S
   refine Va S rfl rfl fun a S=>Dl (Fs (Fr (Vm S rfl rfl fun a S=>lv S (Fq OY (S.tm rfl) (Fj (Ga Km.enc_ok hs4))) rfl fun a S=>lv S (Rm rfl) rfl fun a S=>Dl ?_)))
   replace S:=(S.nl [.map b6 (Gt Value.string (fun x=>Value.agg (Em.enc x).toArray) ([] : List (ByteArray × Em))) ([] : List (ByteArray × Em)).length,.blk b1 (Dy.enc As) 42] [true,true] rfl).k7 3 6 7 13 72 73 74 rfl
   obtain ⟨j2,hj2,h⟩:=Ep h
   refine Eg (fun a w'=>∃ x2 : List (ByteArray × Em),j2 x2 = some r ∧ Sx w [] φ2 [.map b6 (Gt Value.string (fun x=>Value.agg (Em.enc x).toArray) x2) x2.length,.blk b1 (Dy.enc As) 42] [(3,.pointer (some ⟨b1,0,none⟩)),(6,u4),(7,.map (some b2)),(13,.map (some b6))] 123 a w') ?_ ?_
   ·refine wp_block (Gx (fun (ys2 : List Km) a w'=>∃ i2 : Nat,∃ x2 : List (ByteArray × Em),(∃ dn,r3.1 = dn ++ ys2 ∧ dn.length = i2) ∧ Mk j2 ys2 i2 x2 = some r ∧ Sx w [] φ2 [.map b6 (Gt Value.string (fun x=>Value.agg (Em.enc x).toArray) x2) x2.length,.blk b1 (Dy.enc As) 42] [(3,.pointer (some ⟨b1,0,none⟩)),(6,u4),(7,.map (some b2)),(13,.map (some b6)),(72,u6),(73,iV (r3.1.length : Int)),(74,iV (i2 : Int))] 123 a w') List.length r3.1 ⟨0,([] : List (ByteArray × Em)),⟨[],rfl,rfl⟩,h,S.nf [true,true] rfl (subR rfl)⟩ ?_)
    clear S h;rintro ys2 a w12 ⟨i2,x2,⟨dn,hd2,hi2⟩,h,S⟩
    cases ys2 with
    | nil =>
     rw [Mk.eq_1] at h
     refine Fr (Vb S Et rfl rfl rfl fun a S=>Ld ?_)
     replace S:=S.k8 3 6 7 13 72 73 74 75 rfl
     exact Tn (Fs (wp_cond_false ((S.tm rfl).trans (congrArg Value.bool (Il hd2 hi2))) (wp_exit (Ed (Ed (Gp (Tn (⟨x2,h,S.nf [true,true] rfl (subR rfl)⟩))))))))
    | cons y2 ys2 =>
     rw [Mk.eq_2] at h
     refine Fr (Vb S Et rfl rfl rfl fun a S=>Ld ?_)
     replace S:=S.k8 3 6 7 13 72 73 74 75 rfl
     refine Tn (Fs (wp_cond_true ((S.tm rfl).trans (congrArg Value.bool (Ht hd2 hi2))) (wp_skip (Tn (Fs (wp_block (Fs (Fg ?_))))))))
     obtain ⟨b7,o2,hm4,hr5⟩:=Ev (a:=a) (x:=.tmp 72) (y:=.tmp 74) (ty:=0) OY (Ga Km.enc_ok hs4) (Io hd2 hi2) rfl (S.tm rfl) (S.tm rfl)
     refine lv S (hr5 _) rfl ?_;clear S;intro a S
     clear hr5
     refine lv S (Fp isAgg138 sizeOf138 (off:=o2) (o:=0) (part:=(Km.enc y2)) rfl rfl (S.tm rfl) (hm4.at S.emb)) rfl fun a S=>Hs S zeroValue138 (cs:=[sV An,iV 0,iV 0]) rfl rfl ?_;clear S;intro a w14 b8 hz7 hk10 S
     refine Ex S (S.tm rfl) (S.tm rfl) (i:=0) (off:=0) rfl sizeOf138 (vs:=(Km.enc y2)) rfl rfl rfl rfl ?_;clear S;intro w15 hk11 S
     refine Dl (Fg (Vm S rfl rfl fun a S=>Vf UI S rfl rfl fun a S=>Vl isAgg9 0 S rfl rfl rfl rfl fun a S=>Vf UJ S rfl rfl fun a S=>lv S (Fp isAgg51 sizeOf51 (off:=0) (o:=1) (part:=(Em.enc y2.Points)) rfl rfl (S.tm rfl) (S.cellsAt (i:=0) rfl)) rfl fun a S=>Pc (kv:=Value.string) (vv:=(fun x=>Value.agg (Em.enc x).toArray)) (m:=x2) (key:=y2.Key) (val:=y2.Points) S (i:=1) rfl underlying136 (Mx underlying9) (S.tm rfl) (S.tm rfl) (S.tm rfl) ?_));clear S;intro w16 hk12 S
     refine Ld ?_
     replace S:=(S.nl [.map b6 (Gt Value.string (fun x=>Value.agg (Em.enc x).toArray) (Gl x2 y2.Key y2.Points)) (Gl x2 y2.Key y2.Points).length,.blk b1 (Dy.enc As) 42] [false,true,true] rfl).k7 3 6 7 13 72 73 74 rfl
     exact Ho (Tn (Fg (Vq S Gc rfl rfl rfl fun a S=>Vm S rfl rfl fun a S=>Dl (⟨ys2,⟨i2 + 1,(Gl x2 y2.Key y2.Points),⟨_,(hd2).trans (List.append_cons _ _ _),by simp [hi2]⟩,h,S.nf [true,true] rfl ⟨rfl,rfl,rfl,rfl,rfl,rfl,(congrArg (fun z=>some (Value.int .i64 z)) (Hu hd2 hi2 (Iz (Ga Km.enc_ok hs4)))),trivial⟩⟩,Nat.lt_succ_self _⟩))))
   clear S h;rintro a w13 ⟨x2,h,S⟩;rw [hj2] at h;clear hj2 j2
   refine Tn (Fr (Vk S rfl rfl ?_));clear S;intro a S
   replace S:=S.nil 53 7
   refine Dl (Fs (Fr (Vm S rfl rfl fun a S=>lv S (Fq Sb (S.tm rfl) (Fj (Ga Dq.enc_ok hs3))) rfl fun a S=>lv S (Rm rfl) rfl fun a S=>Dl ?_)))
   replace S:=(S.nl [.own (.slice none 0 0) 53 7 ([] : List Ic).length (([] : List Ic).flatMap Ic.enc),.map b6 (Gt Value.string (fun x=>Value.agg (Em.enc x).toArray) x2) x2.length,.blk b1 (Dy.enc As) 42] [true,true,true] rfl).k7 3 7 13 16 84 85 86 rfl
   obtain ⟨j3,hj3,h⟩:=Ep h
   refine Eg (fun a w'=>∃ x3 : List Ic,∃ v6 : Value,j3 x3 = some r ∧ Sx w [] φ2 [.own v6 53 7 x3.length (x3.flatMap Ic.enc),.map b6 (Gt Value.string (fun x=>Value.agg (Em.enc x).toArray) x2) x2.length,.blk b1 (Dy.enc As) 42] [(16,v6)] 123 a w') ?_ ?_
   ·refine wp_block (Gx (fun (ys3 : List Dq) a w'=>∃ i3 : Nat,∃ x3 : List Ic,∃ v6 : Value,(∃ dn,r1.1 = dn ++ ys3 ∧ dn.length = i3) ∧ Lo As r1 x2 j3 ys3 i3 x3 = some r ∧ Sx w [] φ2 [.own v6 53 7 x3.length (x3.flatMap Ic.enc),.map b6 (Gt Value.string (fun x=>Value.agg (Em.enc x).toArray) x2) x2.length,.blk b1 (Dy.enc As) 42] [(3,.pointer (some ⟨b1,0,none⟩)),(7,.map (some b2)),(13,.map (some b6)),(16,v6),(84,u4),(85,iV (r1.1.length : Int)),(86,iV (i3 : Int))] 123 a w') List.length r1.1 ⟨0,([] : List Ic),(.slice none 0 0),⟨[],rfl,rfl⟩,h,S.nf [true,true,true] rfl (subR rfl)⟩ ?_)
    clear S h;rintro ys3 a w17 ⟨i3,x3,v6,⟨dn,hd3,hi3⟩,h,S⟩
    cases ys3 with
    | nil =>
     rw [Lo.eq_1] at h
     refine Fr (Vb S Et rfl rfl rfl fun a S=>Ld ?_)
     replace S:=S.k8 3 7 13 16 84 85 86 87 rfl
     exact Tn (Fs (wp_cond_false ((S.tm rfl).trans (congrArg Value.bool (Il hd3 hi3))) (wp_exit (Ed (Ed (Gp (Tn (⟨x3,v6,h,S.nf [true,true,true] rfl ⟨rfl,trivial⟩⟩))))))))
    | cons y3 ys3 =>
     rw [Lo.eq_2] at h
     refine Fr (Vb S Et rfl rfl rfl fun a S=>Ld ?_)
     replace S:=S.k8 3 7 13 16 84 85 86 87 rfl
     refine Tn (Fs (wp_cond_true ((S.tm rfl).trans (congrArg Value.bool (Ht hd3 hi3))) (wp_skip (Tn (Fs (wp_block (Fs (Fg ?_))))))))
     obtain ⟨b9,o3,hm5,hr6⟩:=Ev (a:=a) (x:=.tmp 84) (y:=.tmp 86) (ty:=0) Sb (Ga Dq.enc_ok hs3) (Io hd3 hi3) rfl (S.tm rfl) (S.tm rfl)
     refine lv S (hr6 _) rfl ?_;clear S;intro a S
     clear hr6
     refine lv S (Fp isAgg127 sizeOf127 (off:=o3) (o:=0) (part:=(Dq.enc y3)) rfl rfl (S.tm rfl) ((hm5.mono hl2).at S.emb)) rfl fun a S=>Hs S zeroValue127 (cs:=[sV An,iV 0,iV 0,iV 0]) rfl rfl ?_;clear S;intro a w19 b10 hz8 hk13 S
     refine Ex S (S.tm rfl) (S.tm rfl) (i:=0) (off:=0) rfl sizeOf127 (vs:=(Dq.enc y3)) rfl rfl rfl rfl ?_;clear S;intro w20 hk14 S
     refine Dz (Vm S rfl rfl fun a S=>Vf Tx S rfl rfl fun a S=>Vl isAgg9 3 S rfl rfl rfl rfl ?_);clear S;intro a S
     obtain ⟨hc2,h⟩:=Ie h
     refine lv S (HI (m:=As.Key) (n:=Oh) (S.tm rfl) rfl (by have:=Nd hc2;omega)) rfl ?_;clear S;intro a S
     refine Vf BK S rfl rfl fun a S=>Vl isAgg9 0 S rfl rfl rfl rfl ?_;clear S;intro a S
     obtain ⟨hc3,h⟩:=Ie h
     refine lv S (HI (m:=(As.Key ++ Oh)) (n:=y3.Who) (S.tm rfl) (S.tm rfl) (by have:=Nd hc3;omega)) rfl ?_;clear S;intro a S
     refine lv S (DM (kv:=Value.string) (vv:=(fun x=>Value.agg (Em.enc x).toArray)) (m:=x2) (key:=(As.Key ++ Oh) ++ y3.Who) (z:=(Em.mk 0 0)) (S.map_at (i:=2) rfl) underlying136 (Mx underlying9) zeroValue51 (S.tm rfl) (S.tm rfl)) rfl fun a S=>Vm S rfl rfl fun a S=>Vq S Gb rfl rfl rfl fun a S=>Vq S Gb rfl rfl rfl fun a S=>Hs S zeroValue51 (cs:=[iV 0,iV 0]) rfl rfl ?_;clear S;intro a w21 b11 hz9 hk15 S
     refine Ex S (S.tm rfl) (S.tm rfl) (i:=0) (off:=0) rfl sizeOf51 (vs:=(Em.enc (Ea x2 ((As.Key ++ Oh) ++ y3.Who) (Em.mk 0 0)))) rfl rfl rfl rfl ?_;clear S;intro w22 hk16 S
     refine Va S rfl rfl fun a S=>Ld ?_
     replace S:=(S.nl [.blk b11 (Em.enc (Ea x2 ((As.Key ++ Oh) ++ y3.Who) (Em.mk 0 0))) 51,.blk b10 (Dq.enc y3) 127,.own v6 53 7 x3.length (x3.flatMap Ic.enc),.map b6 (Gt Value.string (fun x=>Value.agg (Em.enc x).toArray) x2) x2.length,.blk b1 (Dy.enc As) 42] [true,true,true,true,true] rfl).k10 3 7 13 16 18 19 20 84 85 86 rfl
     refine Tn (Fs (Fr (Vm S rfl rfl fun a S=>Vu S Hj rfl rfl fun a S=>Dl ?_)))
     obtain ⟨j4,hj4,h⟩:=Ep h
     refine Eg (fun a w'=>∃ x4 : Int,∃ x5 : Int,j4 x4 x5 = some r ∧ Sx w [] φ2 [.blk b11 [iV x4,iV x5] 51,.blk b10 (Dq.enc y3) 127,.own v6 53 7 x3.length (x3.flatMap Ic.enc),.map b6 (Gt Value.string (fun x=>Value.agg (Em.enc x).toArray) x2) x2.length,.blk b1 (Dy.enc As) 42] [(3,.pointer (some ⟨b1,0,none⟩)),(7,.map (some b2)),(13,.map (some b6)),(16,v6),(18,.pointer (some ⟨b10,0,none⟩)),(19,.pointer (some ⟨b11,0,none⟩)),(84,u4),(85,iV (r1.1.length : Int)),(86,iV (i3 : Int))] 123 a w') ?_ ?_
     ·refine Fc h (S.tm rfl) (fun hb3 h=>?_) (fun hb3 h=>?_)
      ·refine Fg (lv S (Mr UN (pv:=[(0,iV 0),(1,iV 1)]) ⟨rfl,rfl,rfl,rfl,trivial⟩ (cs:=[iV 0,iV 1]) (by kernel_rfl)) rfl fun a S=>Ex S (S.tm rfl) (S.tm rfl) (i:=0) (off:=0) rfl sizeOf51 (vs:=[iV 0,iV 1]) rfl rfl rfl rfl ?_);clear S;intro w24 hk17 S
       exact Dl (⟨0,1,h,S.nf [true,true,true,true,true] rfl (subR rfl)⟩)
      ·exact wp_skip (Tn (⟨(Ea x2 ((As.Key ++ Oh) ++ y3.Who) (Em.mk 0 0)).Num,(Ea x2 ((As.Key ++ Oh) ++ y3.Who) (Em.mk 0 0)).Den,h,S.nf [true,true,true,true,true] rfl (subR rfl)⟩))
     clear S h;rintro a w23 ⟨x4,x5,h,S⟩;rw [hj4] at h;clear hj4 j4
     refine Tn (Fg (Vm S rfl rfl fun a S=>Vf BL S rfl rfl fun a S=>Vl isAgg3 1 S rfl rfl rfl rfl fun a S=>Vf BK S rfl rfl fun a S=>Vl isAgg9 1 S rfl rfl rfl rfl fun a S=>Vm S rfl rfl fun a S=>Vf BK S rfl rfl fun a S=>Vl isAgg9 1 S rfl rfl rfl rfl fun a S=>lv S (Qa (kv:=Value.string) (vv:=Value.string) (m:=r1.2.1) (key:=y3.Who) (z:=An) (S.emb _ _ (hl2 _ _ hq1)) underlying122 (Mx underlying9) zeroValue9 (S.tm rfl) (S.tm rfl)) rfl ?_));clear S;intro a S
     refine Vf Ze S rfl rfl fun a S=>Vl isAgg3 1 S rfl rfl rfl rfl fun a S=>Vf NF S rfl rfl fun a S=>Vl isAgg3 1 S rfl rfl rfl rfl fun a S=>lv S (Fp isAgg51 sizeOf51 (off:=0) (o:=0) (part:=[iV x4,iV x5]) rfl rfl (S.tm rfl) (S.cellsAt (i:=0) rfl)) rfl fun a S=>lv S (Mr bt_53 (pv:=[(0,iV y3.Rank),(1,sV y3.Who),(2,sV (Ea r1.2.1 y3.Who An)),(3,iV y3.Time),(4,iV y3.Fault),(5,.agg #[iV x4,iV x5])]) ⟨rfl,(S.tm rfl),rfl,(S.tm rfl),rfl,(S.tm rfl),rfl,(S.tm rfl),rfl,(S.tm rfl),rfl,(S.tm rfl),trivial⟩ (cs:=[iV y3.Rank,sV y3.Who,sV (Ea r1.2.1 y3.Who An),iV y3.Time,iV y3.Fault,iV x4,iV x5]) (by kernel_rfl)) rfl fun a S=>Er S underlying46 sizeOf53 zeroValue53 rfl rfl (pv:=[(0,.agg #[iV y3.Rank,sV y3.Who,sV (Ea r1.2.1 y3.Who An),iV y3.Time,iV y3.Fault,iV x4,iV x5])]) ⟨rfl,(S.tm rfl),trivial⟩ (cs:=[iV y3.Rank,sV y3.Who,sV (Ea r1.2.1 y3.Who An),iV y3.Time,iV y3.Fault,iV x4,iV x5]) (by kernel_rfl) rfl ?_;clear S;intro a w25 b12 hz10 hk18 S
     obtain ⟨hc4,h⟩:=Ie h
     refine Ms GL Ic.enc_ok S (S.tm rfl) (i:=3) rfl (S.tm rfl) (j:=0) rfl (ys:=[(Ic.mk y3.Rank y3.Who (Ea r1.2.1 y3.Who An) y3.Time y3.Fault (Em.mk x4 x5))]) rfl rfl rfl rfl (by have:=Nd hc4;omega) rfl ?_;clear S;intro v7 a w26 hk19 S
     refine Va S rfl rfl fun a S=>Ld ?_
     replace S:=(S.nl [.own v7 53 7 (x3 ++ [(Ic.mk y3.Rank y3.Who (Ea r1.2.1 y3.Who An) y3.Time y3.Fault (Em.mk x4 x5))]).length ((x3 ++ [(Ic.mk y3.Rank y3.Who (Ea r1.2.1 y3.Who An) y3.Time y3.Fault (Em.mk x4 x5))]).flatMap Ic.enc),.map b6 (Gt Value.string (fun x=>Value.agg (Em.enc x).toArray) x2) x2.length,.blk b1 (Dy.enc As) 42] [false,false,false,true,true,true] rfl).k7 3 7 13 16 84 85 86 rfl
     exact Ho (Tn (Fg (Vq S Gc rfl rfl rfl fun a S=>Vm S rfl rfl fun a S=>Dl (⟨ys3,⟨i3 + 1,(x3 ++ [(Ic.mk y3.Rank y3.Who (Ea r1.2.1 y3.Who An) y3.Time y3.Fault (Em.mk x4 x5))]),v7,⟨_,(hd3).trans (List.append_cons _ _ _),by simp [hi3]⟩,h,S.nf [true,true,true] rfl ⟨rfl,rfl,rfl,rfl,rfl,rfl,(congrArg (fun z=>some (Value.int .i64 z)) (Hu hd3 hi3 (Iz (Ga Dq.enc_ok hs3)))),trivial⟩⟩,Nat.lt_succ_self _⟩))))
   clear S h;rintro a w18 ⟨x3,v6,h,S⟩;rw [hj3] at h;clear hj3 j3
   refine Tn (Fr (Vm S rfl rfl fun a S=>Va S rfl rfl fun a S=>Vk S rfl rfl fun a S=>Dl (wp_ret ?_)))
   obtain rfl:=Option.some.inj h
   exact Lg S results24 rfl rfl ⟨_,rfl,(Th S (i:=0) rfl rfl)⟩
theorem HE (w : World) (Ad : Iw) (By : R32) (Ce : Rk (view w []) Ad By) (Ab : Value) (Ah : List Dk) (Af : Slc (view w []) 11 Ab (Ah.map Dk.enc)) (Al : ByteArray) (Bc : Int) (r : (List Ic) × Int) (h : Vs Ad Ah Al Bc = some r) :
    Calls prog 9 [.agg (R32.enc By).toArray,Ab,sV Al,iV Bc].toArray w (Ret w [] fun τ v _=>∃ u1 : Value,v = .tuple #[u1,iV r.2] ∧ Tf τ 53 7 u1 r.1.length (r.1.flatMap Ic.enc)):=by
 obtain ⟨u1,u2,rfl,hs1,⟨u3,rfl,hs2⟩⟩:=Ce
 refine Fe func9 rfl ntmps9 rfl fun a S=>?_
 unfold Vs at h
 replace S:=S.k4 0 1 2 3 rfl
 refine Fr (Mn S (S.tm rfl) (cs:=[u1.val,u3.val,iV Ad.Table.Relay,iV Ad.Table.Most,iV Ad.Final.Size,iV Ad.Final.Many,iV Ad.Final.Reserves]) rfl rfl ?_);clear S;intro a w1 b1 hz1 hk1 S
 refine Vk S rfl rfl fun a S=>Vk S rfl rfl fun a S=>Dz (lv S (Fp isAgg32 sizeOf32 (off:=0) (o:=0) (part:=[u1.val,u3.val,iV Ad.Table.Relay,iV Ad.Table.Most,iV Ad.Final.Size,iV Ad.Final.Many,iV Ad.Final.Reserves]) rfl rfl (S.tm rfl) (S.cellsAt (i:=0) rfl)) rfl ?_);clear S;intro a S
 iterate 3 (refine Vm S rfl rfl ?_;clear S;intro a S)
 obtain ⟨r1,hr1,h⟩:=Fa h
 have hz2:=S.keep.size
 refine Dw S (fun _=>Dp (vs:=[.agg (R32.enc (R32.mk u1 (R28.mk u3 Ad.Table.Relay Ad.Table.Most) Ad.Final)).toArray,Ab,sV Al,iV Bc]) ⟨(S.tm rfl),(S.tm rfl),(S.tm rfl),(S.tm rfl),trivial⟩ call22) (GM _ (join (view w []) nov) (Ng (S.le_arg Ec) (S.le_new Ec)) Ad (R32.mk u1 (R28.mk u3 Ad.Table.Relay Ad.Table.Most) Ad.Final) ⟨u1,(R28.mk u3 Ad.Table.Relay Ad.Table.Most),rfl,(hs1.mono (le_join_left _ _)),⟨u3,rfl,(hs2.mono (le_join_left _ _))⟩⟩ Ab Ah (Af.mono (le_join_left _ _)) Al Bc _ hr1) rfl ?_;clear S;intro v1 a w2 hv1 hk2 hn1 S
 obtain ⟨u4,rfl,ho1⟩:=hv1
 obtain ⟨φ1,hl1,hm1,S⟩:=S.see' hn1 hz2
 have hq1:=AQ.mono (Pt (Rb hl1 hm1)) (Rb hl1 hm1) ho1
 refine Vm S rfl rfl ?_;clear S;intro a S
 iterate 3 (refine Vq S Gb rfl rfl rfl ?_;clear S;intro a S)
 refine Hs S zeroValue42 (cs:=[sV An,iV 0,iV 0,iV 0,iV 0,iV 0,iV 0,iV 0]) rfl rfl ?_;clear S;intro a w3 b2 hz3 hk3 S
 refine Va S rfl rfl fun a S=>Ex S (S.tm rfl) (S.tm rfl) (i:=0) (off:=0) rfl sizeOf42 (vs:=(Dy.enc r1.2.1)) rfl rfl rfl rfl ?_;clear S;intro w4 hk4 S
 refine Va S rfl rfl fun a S=>Ld ?_
 replace S:=(S.nl [.blk b2 (Dy.enc r1.2.1) 42] [true,false] rfl).k3 10 11 12 rfl
 refine Tn (Fs (Fr (Vm S rfl rfl fun a S=>Vq S Kw rfl rfl rfl fun a S=>Dl (Fc h (S.tm rfl) (fun hb1 h=>?_) (fun hb1 h=>?_)))))
 ·refine Fr (Vm S rfl rfl fun a S=>Vk S rfl rfl fun a S=>Va S rfl rfl fun a S=>Dl (wp_ret (Dt ?_)))
  obtain rfl:=Option.some.inj h
  exact Lg S results9 rfl rfl ⟨_,rfl,(Qf _ _ _)⟩
 ·refine wp_skip (Tn (Fr (Vm S rfl rfl fun a S=>lv S (Fp isAgg42 sizeOf42 (off:=0) (o:=0) (part:=(Dy.enc r1.2.1)) rfl rfl (S.tm rfl) (S.cellsAt (i:=0) rfl)) rfl ?_)));clear S;intro a S
  obtain ⟨r2,hr2,h⟩:=Fa h
  obtain ⟨b3,q1,rfl,hq2,hb2⟩:=hq1.deref hr2
  obtain ⟨u5,u9,rfl,⟨u6,u7,rfl,hs3,⟨u8,rfl,hs4⟩⟩,hs5⟩:=hq2
  replace hb2 : (join (view w []) φ1) b3 = some (.cells [u6.val,u8.val,iV r2.p_.Table.Relay,iV r2.p_.Table.Most,iV r2.p_.Final.Size,iV r2.p_.Final.Many,iV r2.p_.Final.Reserves,u9.val].toArray 112 (0,0)):=hb2
  obtain ⟨r3,hr3,h⟩:=Fa h
  have hz4:=S.keep.size
  refine Dw S (fun _=>Dp (vs:=[.pointer (some ⟨b3,0,none⟩),.agg (Dy.enc r1.2.1).toArray]) ⟨(S.tm rfl),(S.tm rfl),trivial⟩ call24) (FV _ b3 r2.p_ (R32.mk u6 (R28.mk u8 r2.p_.Table.Relay r2.p_.Table.Most) r2.p_.Final) ⟨u6,(R28.mk u8 r2.p_.Table.Relay r2.p_.Table.Most),rfl,(hs3.mono (Ng (S.le_arg Ec) (S.le_new Ec))),⟨u8,rfl,(hs4.mono (Ng (S.le_arg Ec) (S.le_new Ec)))⟩⟩ u9.val r2.deeds_ (hs5.mono (Ng (S.le_arg Ec) (S.le_new Ec))) ((Ng (S.le_arg Ec) (S.le_new Ec)) _ _ hb2) r1.2.1 _ hr3) rfl ?_;clear S;intro v2 a w5 hv2 hk5 hn2 S
  obtain ⟨u10,rfl,ho2⟩:=hv2
  obtain ⟨φ2,hl2,hm2,S⟩:=S.see' hn2 hz4
  have hs6:=ho2.mono hm2
  refine Vq S Gb rfl rfl rfl fun a S=>Vq S Gb rfl rfl rfl fun a S=>Va S rfl rfl fun a S=>Va S rfl rfl fun a S=>Dl (wp_ret ?_)
  obtain rfl:=Option.some.inj h
  exact Lg S results9 rfl rfl ⟨_,rfl,((hs6).mono S.le_newer)⟩
theorem Yu (w : World) (Ab : Value) (Ah : List Int) (Af : Slc (view w []) 1 Ab (Ah.map eInt)) (r : Int) (h : Lp Ah = r) :
    Calls prog 10 [Ab].toArray w (Ret w [] fun _ v _=>v = iV r):=by
 refine Fe func10 rfl ntmps10 rfl fun a S=>?_
 unfold Lp at h
 replace S:=S.k1 0 rfl
 refine Fr (Vk S rfl rfl fun a S=>Dl (Fs (Fr (Vm S rfl rfl fun a S=>lv S (Fq sl_73 (S.tm rfl) (Fj Af)) rfl fun a S=>lv S (Rm rfl) rfl ?_))));clear S;intro a S
 refine Dl ?_
 replace S:=S.k3 5 6 7 rfl
 obtain ⟨j1,hj1,h⟩:=Ep h
 refine Eg (fun a w'=>j1 = r ∧ Sx w [] nov [] [] 15 a w') ?_ ?_
 ·refine wp_block (Gx (fun (ys1 : List Int) a w'=>∃ i1 : Nat,(∃ dn,Ah = dn ++ ys1 ∧ dn.length = i1) ∧ Nh j1 ys1 i1 = r ∧ Sx w [] nov [] [(5,Ab),(6,iV (Ah.length : Int)),(7,iV (i1 : Int))] 15 a w') List.length Ah ⟨0,⟨[],rfl,rfl⟩,h,S.nf [] rfl (subR rfl)⟩ ?_)
  clear S h;rintro ys1 a w1 ⟨i1,⟨dn,hd1,hi1⟩,h,S⟩
  cases ys1 with
  | nil =>
   rw [Nh.eq_1] at h
   refine Fr (Vb S Et rfl rfl rfl fun a S=>Ld ?_)
   replace S:=S.k4 5 6 7 8 rfl
   exact Tn (Fs (wp_cond_false ((S.tm rfl).trans (congrArg Value.bool (Il hd1 hi1))) (wp_exit (Ed (Ed (Gp (Tn (⟨h,S.nf [] rfl trivial⟩))))))))
  | cons y1 ys1 =>
   rw [Nh.eq_2] at h
   refine Fr (Vb S Et rfl rfl rfl fun a S=>Ld ?_)
   replace S:=S.k4 5 6 7 8 rfl
   refine Tn (Fs (wp_cond_true ((S.tm rfl).trans (congrArg Value.bool (Ht hd1 hi1))) (wp_skip (Tn (Fs (wp_block (Fs (Fg ?_))))))))
   obtain ⟨b1,o1,hm1,hr1⟩:=Ev (a:=a) (x:=.tmp 5) (y:=.tmp 7) (ty:=0) sl_73 Af (Io hd1 hi1) rfl (S.tm rfl) (S.tm rfl)
   refine lv S (hr1 _) rfl ?_;clear S;intro a S
   clear hr1
   refine lv S (Hm isAgg38 (off:=o1) (o:=0) (S.tm rfl) (hm1.at S.emb0) rfl) rfl fun a S=>Va S rfl rfl fun a S=>Dz (Vm S rfl rfl fun a S=>Vq S Kw rfl rfl rfl fun a S=>Dl (Fc h (S.tm rfl) (fun hb1 h=>?_) (fun hb1 h=>?_)))
   ·refine Fr (Vm S rfl rfl fun a S=>Va S rfl rfl fun a S=>Dl (wp_ret (Fl (Dt (Dt (Fl ?_))))))
    refine Dt (Dt ?_)
    subst h
    exact Ej S results10 rfl rfl
   ·exact wp_skip (Ho (Tn (Fg (Vq S Gc rfl rfl rfl fun a S=>Vm S rfl rfl fun a S=>Dl (⟨ys1,⟨i1 + 1,⟨_,(hd1).trans (List.append_cons _ _ _),by simp [hi1]⟩,h,S.nf [] rfl ⟨rfl,rfl,(congrArg (fun z=>some (Value.int .i64 z)) (Hu hd1 hi1 (Iz Af))),trivial⟩⟩,Nat.lt_succ_self _⟩)))))
 clear S h;rintro a w2 ⟨h,S⟩;rw [hj1] at h;clear hj1 j1
 refine Tn (Fr (Vk S rfl rfl fun a S=>Dl (wp_ret ?_)))
 subst h
 exact Ej S results10 rfl rfl
theorem Uq (w : World) (Di : Gq) (Ca : Nat) (Bk : Ic) (Cb : (view w []) Ca = some (.cells [iV Bk.Rank,sV Bk.Who,sV Bk.Club,iV Bk.Time,iV Bk.Fault,iV Bk.Points.Num,iV Bk.Points.Den].toArray 53 (0,0))) (r : Bool) (h : Mp Di Bk = r) :
    Calls prog 12 [.agg (Gq.enc Di).toArray,.pointer (some ⟨Ca,0,none⟩)].toArray w (Ret w [] fun _ v _=>v = bV r):=by
 refine Fe func12 rfl ntmps12 rfl fun a S=>?_
 unfold Mp at h
 replace S:=S.k2 0 1 rfl
 refine Fr (Mn S (S.tm rfl) (cs:=(Gq.enc Di)) rfl rfl ?_);clear S;intro a w1 b1 hz1 hk1 S
 refine Vk S rfl rfl fun a S=>Dz (Vf CK S rfl rfl fun a S=>Vl isAgg9 0 S rfl rfl rfl rfl fun a S=>Vf fa_53_1 S rfl rfl fun a S=>lv S (Hm isAgg9 (off:=0) (o:=1) (S.tm rfl) ((Ru Cb).at S.emb0) rfl) rfl fun a S=>Vb S Ve rfl rfl rfl fun a S=>Va S rfl rfl ?_);clear S;intro a S
 refine Dl (wp_ret ?_)
 subst h
 exact Ej S results12 rfl rfl
theorem Pa (w : World) (Ax : Value) (Ar : List Gq) (Bf : Slc (view w []) 2 Ax (Ar.map Gq.enc)) (Az : Nat) (Aw : Ic) (Bg : (view w []) Az = some (.cells [iV Aw.Rank,sV Aw.Who,sV Aw.Club,iV Aw.Time,iV Aw.Fault,iV Aw.Points.Num,iV Aw.Points.Den].toArray 53 (0,0))) (r : Int) (h : Ih Ar Aw = r) :
    Calls prog 25 [Ax,.func (.func 12) #[] #[.pointer (some ⟨Az,0,none⟩)]].toArray w (Ret w [] fun _ v _=>v = iV r):=by
 refine Fe func25 rfl ntmps25 rfl fun a S=>?_
 unfold Ih at h
 replace S:=S.k2 0 1 rfl
 refine Fr (Vk S rfl rfl fun a S=>Dl (Fs (Fr (Vm S rfl rfl fun a S=>lv S (Fq DE (S.tm rfl) (Fj Bf)) rfl fun a S=>lv S (Rm rfl) rfl ?_))));clear S;intro a S
 refine Dl ?_
 replace S:=S.k4 0 1 7 8 rfl
 obtain ⟨j1,hj1,h⟩:=Ep h
 refine Eg (fun a w'=>j1 = r ∧ Sx w [] nov [] [] 19 a w') ?_ ?_
 ·refine wp_block (Gx (fun (ys1 : List Gq) a w'=>∃ i1 : Nat,(∃ dn,Ar = dn ++ ys1 ∧ dn.length = i1) ∧ Ek Aw j1 ys1 i1 = r ∧ Sx w [] nov [] [(0,Ax),(1,.func (.func 12) #[] #[.pointer (some ⟨Az,0,none⟩)]),(7,iV (Ar.length : Int)),(8,iV (i1 : Int))] 19 a w') List.length Ar ⟨0,⟨[],rfl,rfl⟩,h,S.nf [] rfl (subR rfl)⟩ ?_)
  clear S h;rintro ys1 a w1 ⟨i1,⟨dn,hd1,hi1⟩,h,S⟩
  cases ys1 with
  | nil =>
   rw [Ek.eq_1] at h
   refine Fr (Vb S Et rfl rfl rfl fun a S=>Ld ?_)
   replace S:=S.k5 0 1 7 8 9 rfl
   exact Tn (Fs (wp_cond_false ((S.tm rfl).trans (congrArg Value.bool (Il hd1 hi1))) (wp_exit (Ed (Ed (Gp (Tn (⟨h,S.nf [] rfl trivial⟩))))))))
  | cons y1 ys1 =>
   rw [Ek.eq_2] at h
   refine Fr (Vb S Et rfl rfl rfl fun a S=>Ld ?_)
   replace S:=S.k5 0 1 7 8 9 rfl
   refine Tn (Fs (wp_cond_true ((S.tm rfl).trans (congrArg Value.bool (Ht hd1 hi1))) (wp_skip (Tn (Fs (wp_block (Fr (Vm S rfl rfl fun a S=>Va S rfl rfl ?_))))))));clear S;intro a S
   refine Dl (Fs (Fg ?_))
   iterate 3 (refine Vm S rfl rfl ?_;clear S;intro a S)
   obtain ⟨b1,o1,hm1,hr1⟩:=Ev (a:=a) (x:=.tmp 12) (y:=.tmp 13) (ty:=0) DE Bf (Io hd1 hi1) rfl (S.tm rfl) (S.tm rfl)
   refine lv S (hr1 _) rfl ?_;clear S;intro a S
   clear hr1
   refine lv S (Fp isAgg56 sizeOf56 (off:=o1) (o:=0) (part:=(Gq.enc y1)) rfl rfl (S.tm rfl) (hm1.at S.emb0)) rfl fun a S=>Dw S (fun _=>Ts (cap:=[.pointer (some ⟨Az,0,none⟩)]) (S.tm rfl) (vs:=[.agg (Gq.enc y1).toArray]) ⟨(S.tm rfl),trivial⟩ call12) (Uq _ y1 Az Aw ((S.le_arg Ec) _ _ Bg) _ rfl) rfl ?_;clear S;intro v1 a w3 hv1 hk1 hn1 S
   subst hv1
   refine Dl (Fc h (S.tm rfl) (fun hb1 h=>?_) (fun hb1 h=>?_))
   ·refine Fr (Vm S rfl rfl fun a S=>Va S rfl rfl fun a S=>Ld ?_)
    replace S:=S.k1 4 rfl
    refine Tn (wp_ret (Fl (Dt (Dt (Fl (Dt (Dt ?_)))))))
    subst h
    exact Ej S results25 rfl rfl
   ·exact wp_skip (Ho (Tn (Fg (Vq S Gc rfl rfl rfl fun a S=>Vm S rfl rfl fun a S=>Dl (⟨ys1,⟨i1 + 1,⟨_,(hd1).trans (List.append_cons _ _ _),by simp [hi1]⟩,h,S.nf [] rfl ⟨rfl,rfl,rfl,(congrArg (fun z=>some (Value.int .i64 z)) (Hu hd1 hi1 (Iz Bf))),trivial⟩⟩,Nat.lt_succ_self _⟩)))))
 clear S h;rintro a w2 ⟨h,S⟩;rw [hj1] at h;clear hj1 j1
 refine Tn (Fr (Vk S rfl rfl fun a S=>Dl (wp_ret ?_)))
 subst h
 exact Ej S results25 rfl rfl
theorem Oo (w : World) (Ax : Value) (Ar : List Gq) (Bf : Slc (view w []) 2 Ax (Ar.map Gq.enc)) (Az : Nat) (Aw : Ic) (Bg : (view w []) Az = some (.cells [iV Aw.Rank,sV Aw.Who,sV Aw.Club,iV Aw.Time,iV Aw.Fault,iV Aw.Points.Num,iV Aw.Points.Den].toArray 53 (0,0))) (r : Bool) (h : Ef Ar Aw = r) :
    Calls prog 11 [Ax,.func (.func 12) #[] #[.pointer (some ⟨Az,0,none⟩)]].toArray w (Ret w [] fun _ v _=>v = bV r):=by
 refine Fe func11 rfl ntmps11 rfl fun a S=>?_
 unfold Ef at h
 replace S:=S.k2 0 1 rfl
 refine Fr (Vk S rfl rfl fun a S=>Dz (Vm S rfl rfl fun a S=>Vm S rfl rfl fun a S=>Dw S (fun _=>Dp (vs:=[Ax,.func (.func 12) #[] #[.pointer (some ⟨Az,0,none⟩)]]) ⟨(S.tm rfl),(S.tm rfl),trivial⟩ call25) (Pa _ Ax Ar (Bf.mono (S.le_arg Ec)) Az Aw ((S.le_arg Ec) _ _ Bg) _ rfl) rfl ?_));clear S;intro v1 a w1 hv1 hk1 hn1 S
 subst hv1
 refine Vq S Qe rfl rfl rfl fun a S=>Va S rfl rfl fun a S=>Dl (wp_ret ?_)
 subst h
 exact Ej S results11 rfl rfl
theorem AN (w : World) (Bo : Int) (r : Bool) (h : Xn Bo = r) :
    Calls prog 92 [iV Bo].toArray w (Ret w [] fun _ v _=>v = bV r):=by
 refine Fe func92 rfl ntmps92 rfl fun a S=>?_
 unfold Xn at h
 replace S:=S.k1 0 rfl
 refine Fr (Vk S rfl rfl fun a S=>Dz (Vm S rfl rfl fun a S=>lv S (AX (S.tm rfl) rfl (by decide)) rfl fun a S=>Vq S Im rfl rfl rfl fun a S=>Vm S rfl rfl ?_));clear S;intro a S
 refine Hn 9 (fun a w'=>Keep [] w w' ∧ Sx w [] nov [] [(15,bV ((decide ((Int.tmod Bo 4) = 0)) && ((!decide ((Int.tmod Bo 100) = 0)) || (decide ((Int.tmod Bo 400) = 0)))))] 16 a w') ?_ ?_
 ·rcases Bool.eq_false_or_eq_true (decide ((Int.tmod Bo 4) = 0)) with hb1 | hb1
  ·refine Du S rfl rfl rfl hb1 (Vm S rfl rfl fun a S=>Du S rfl rfl rfl hb1 (lv S (AX (S.tm rfl) rfl (by decide)) rfl fun a S=>Du S rfl rfl rfl hb1 (Vq S Kw rfl rfl rfl fun a S=>Du S rfl rfl rfl hb1 (Vm S rfl rfl fun a S=>Hn 4 (fun a w'=>Keep [] w w' ∧ Sx w [] nov [] [(6,bV (decide ((Int.tmod Bo 4) = 0))),(14,bV ((!decide ((Int.tmod Bo 100) = 0)) || (decide ((Int.tmod Bo 400) = 0))))] 16 a w') ?_ ?_))))
   ·rcases Bool.eq_false_or_eq_true (!decide ((Int.tmod Bo 100) = 0)) with hb2 | hb2
    ·iterate 3 (refine Gn S rfl rfl rfl (Kp hb2) rfl ?_ rfl;clear S;intro a S)
     exact Du S rfl rfl rfl hb1 (lv S (Jq (decide ((Int.tmod Bo 400) = 0)) hb2 (S.tm rfl) rfl) rfl fun a S=>Dl (⟨Keep.refl _ _,S.nf [] rfl (subR rfl)⟩))
    ·exact Du S rfl rfl rfl hb2 (Vm S rfl rfl fun a S=>Du S rfl rfl rfl hb2 (lv S (AX (S.tm rfl) rfl (by decide)) rfl fun a S=>Du S rfl rfl rfl hb2 (Vq S Im rfl rfl rfl fun a S=>Du S rfl rfl rfl hb1 (lv S (Jr hb2 (S.tm rfl) (S.tm rfl)) rfl fun a S=>Dl (⟨Keep.refl _ _,S.nf [] rfl (subR rfl)⟩)))))
   clear S;rintro a w2 ⟨hk1,S⟩
   exact lv S (Hg hb1 (S.tm rfl) (S.tm rfl)) rfl fun a S=>Dl (⟨hk1,S.nf [] rfl ⟨rfl,trivial⟩⟩)
  ·iterate 4 (refine Gn S rfl rfl rfl (Jh hb1) rfl ?_ rfl;clear S;intro a S)
   iterate 3 (refine Xl S rfl rfl rfl rfl ?_;clear S;intro a S)
   exact Gn S rfl rfl rfl (Jh hb1) rfl (fun a S=>lv S (Hh ((!decide ((Int.tmod Bo 100) = 0)) || (decide ((Int.tmod Bo 400) = 0))) hb1 (S.tm rfl) rfl) rfl fun a S=>Dl (⟨Keep.refl _ _,S.nf [] rfl ⟨rfl,trivial⟩⟩)) rfl
 clear S;rintro a w1 ⟨hk2,S⟩
 refine Va S rfl rfl fun a S=>Dl (wp_ret ?_)
 subst h
 exact Ej S results92 rfl rfl
theorem Xg (w : World) (Bo : Int) (Cp : Int) (r : Int) (h : Nr Bo Cp = r) :
    Calls prog 56 [iV Bo,iV Cp].toArray w (Ret w [] fun _ v _=>v = iV r):=by
 refine Fe func56 rfl ntmps56 rfl fun a S=>?_
 unfold Nr at h
 replace S:=S.k2 0 1 rfl
 refine Fr (Vk S rfl rfl fun a S=>Dl (Fs (Fr (Vm S rfl rfl fun a S=>Dl ?_))))
 refine wp_block (Fr (Vq S Im rfl rfl rfl fun a S=>Va S rfl rfl fun a S=>Dl (Fc h (S.tm rfl) (fun hb1 h=>?_) (fun hb1 h=>?_))))
 ·refine Fs (Fr (Vm S rfl rfl fun a S=>Dw S (fun _=>Dp (vs:=[iV Bo]) ⟨(S.tm rfl),trivial⟩ call92) (AN _ Bo _ rfl) rfl ?_));clear S;intro v1 a w1 hv1 hk1 hn1 S
  subst hv1
  refine Dl (Fc h (S.tm rfl) (fun hb2 h=>?_) (fun hb2 h=>?_))
  ·refine Fr (Vk S rfl rfl fun a S=>Dl (wp_ret (Dt (Fl (Dt ?_)))))
   subst h
   exact Ej S results56 rfl rfl
  ·refine wp_skip (Tn (Fr (Vk S rfl rfl fun a S=>Dl (wp_ret (Fl (Dt ?_))))))
   subst h
   exact Ej S results56 rfl rfl
 ·refine Fs (Fr (Vq S Im rfl rfl rfl fun a S=>Va S rfl rfl fun a S=>Dl ?_))
  obtain ⟨j1,hj1,h⟩:=Ep h
  refine Eg (fun a w'=>∃ x1 : Bool,j1 x1 = r ∧ Sx w [] nov [] [(10,bV x1)] 15 a w') ?_ ?_
  ·refine Fc h (S.tm rfl) (fun hb3 h=>?_) (fun hb3 h=>?_)
   ·exact wp_skip (Tn (⟨decide (Cp = 4),h,S.nf [] rfl ⟨rfl,trivial⟩⟩))
   ·refine Fr (Vq S Im rfl rfl rfl fun a S=>Va S rfl rfl fun a S=>Dl ?_)
    obtain ⟨j2,hj2,h⟩:=Ep h
    refine Eg (fun a w'=>∃ x2 : Bool,j2 x2 = r ∧ Sx w [] nov [] [(10,bV x2)] 15 a w') ?_ ?_
    ·refine Fc h (S.tm rfl) (fun hb4 h=>?_) (fun hb4 h=>?_)
     ·exact wp_skip (Tn (⟨decide (Cp = 6),h,S.nf [] rfl ⟨rfl,trivial⟩⟩))
     ·refine Fr (Vq S Im rfl rfl rfl fun a S=>Va S rfl rfl fun a S=>Dl ?_)
      obtain ⟨j3,hj3,h⟩:=Ep h
      refine Eg (fun a w'=>∃ x3 : Bool,j3 x3 = r ∧ Sx w [] nov [] [(10,bV x3)] 15 a w') ?_ ?_
      ·refine Fc h (S.tm rfl) (fun hb5 h=>?_) (fun hb5 h=>?_)
       ·exact wp_skip (Tn (⟨decide (Cp = 9),h,S.nf [] rfl ⟨rfl,trivial⟩⟩))
       ·exact Fg (Vq S Im rfl rfl rfl fun a S=>Va S rfl rfl fun a S=>Dl (⟨decide (Cp = 11),h,S.nf [] rfl ⟨rfl,trivial⟩⟩))
      clear S h;rintro a w4 ⟨x3,h,S⟩;rw [hj3] at h;clear hj3 j3
      exact Tn (⟨x3,h,S.nf [] rfl ⟨rfl,trivial⟩⟩)
    clear S h;rintro a w3 ⟨x2,h,S⟩;rw [hj2] at h;clear hj2 j2
    exact Tn (⟨x2,h,S.nf [] rfl ⟨rfl,trivial⟩⟩)
  clear S h;rintro a w2 ⟨x1,h,S⟩;rw [hj1] at h;clear hj1 j1
  refine Tn (Fc h (S.tm rfl) (fun hb6 h=>?_) (fun hb6 h=>?_))
  ·refine Fr (Vk S rfl rfl fun a S=>Dl (wp_ret (Fl (Dt ?_))))
   subst h
   exact Ej S results56 rfl rfl
  ·refine wp_skip (Ho (Tn (Fr (Vk S rfl rfl fun a S=>Dl (wp_ret ?_)))))
   subst h
   exact Ej S results56 rfl rfl
theorem Xj (w : World) (Bo : Int) (r : Int) (h : Qb Bo = r) :
    Calls prog 57 [iV Bo].toArray w (Ret w [] fun _ v _=>v = iV r):=by
 refine Fe func57 rfl ntmps57 rfl fun a S=>?_
 unfold Qb at h
 replace S:=S.k1 0 rfl
 refine Fr (Vk S rfl rfl fun a S=>Dl (Fs (Fr (Vm S rfl rfl fun a S=>Dw S (fun _=>Dp (vs:=[iV Bo]) ⟨(S.tm rfl),trivial⟩ call92) (AN _ Bo _ rfl) rfl ?_))));clear S;intro v1 a w1 hv1 hk1 hn1 S
 subst hv1
 refine Dl (Fc h (S.tm rfl) (fun hb1 h=>?_) (fun hb1 h=>?_))
 ·refine Fr (Vk S rfl rfl fun a S=>Dl (wp_ret (Dt ?_)))
  subst h
  exact Ej S results57 rfl rfl
 ·refine wp_skip (Tn (Fr (Vk S rfl rfl fun a S=>Dl (wp_ret ?_))))
  subst h
  exact Ej S results57 rfl rfl
theorem FW (w : World) (Ba : Int) (r : Bool) (h : Yw Ba = r) :
    Calls prog 58 [iV Ba].toArray w (Ret w [] fun _ v _=>v = bV r):=by
 refine Fe func58 rfl ntmps58 rfl fun a S=>?_
 unfold Yw at h
 replace S:=S.k1 0 rfl
 refine Fr (Vk S rfl rfl fun a S=>Dz (Vm S rfl rfl fun a S=>Dw S (fun _=>Dp (vs:=[iV Ba,iV (-40000),iV 4000]) ⟨(S.tm rfl),rfl,rfl,trivial⟩ call55) (Fm _ Ba (-40000) 4000 _ rfl) rfl ?_));clear S;intro v1 a w1 hv1 hk1 hn1 S
 subst hv1
 refine Va S rfl rfl fun a S=>Dl (wp_ret ?_)
 subst h
 exact Ej S results58 rfl rfl
set_option maxRecDepth 20000 in
theorem FX (w : World) (Ag : Mt) (r : Int × Int) (h : Yx Ag = some r) :
    Calls prog 26 [.agg (Mt.enc Ag).toArray].toArray w (Ret w [] fun _ v _=>v = .tuple #[iV r.1,iV r.2]):=by
 refine Fe func26 rfl ntmps26 rfl fun a S=>?_
 unfold Yx at h
 replace S:=S.k1 0 rfl
 refine Fr (Mn S (S.tm rfl) (cs:=(Mt.enc Ag)) rfl rfl ?_);clear S;intro a w1 b1 hz1 hk1 S
 refine Vk S rfl rfl fun a S=>Vk S rfl rfl fun a S=>Dl (Fs (Fs ?_))
 obtain ⟨j1,hj1,h⟩:=Ep h
 refine Eg (fun a w'=>∃ x1 : Bool,j1 x1 = some r ∧ Sx w [] nov [.blk b1 (Mt.enc Ag) 78] [(1,.pointer (some ⟨b1,0,none⟩)),(28,bV x1)] 68 a w') ?_ ?_
 ·rcases Bool.eq_false_or_eq_true (!(Dv Ag.Year 1900 2100)) with hb1 | hb1
  ·replace h:=Qc h hb1
   rcases Bool.eq_false_or_eq_true true with hb2 | hb2
   ·replace h:=Qc h hb2
    refine Hd [] ([]) Tryz.mixed S rfl (by kernel_rfl) ?_;clear S;intro w6 hk5 hsel S
    refine Eb 0 S hsel rfl rfl rfl (by kernel_rfl) (by kernel_rfl) rfl (fun _ hw=>(Fy Xp (S.tm rfl))) fun a S=>Eb 1 S hsel rfl rfl rfl (by kernel_rfl) (by kernel_rfl) rfl (fun _ hw=>(Hm isAgg3 (off:=0) (o:=0) (S.tm rfl) ((S.blk_mem (i:=0) (cells:=(Mt.enc Ag)) (b:=b1) (T:=78) rfl (Ia (e':=.blk b1 (Mt.enc Ag) 78))).kept hw) rfl)) fun a S=>He 2 (by kernel_rfl) rfl (Dw S (fun _=>Dp (vs:=[iV Ag.Year,iV 1900,iV 2100]) ⟨(S.tm rfl),rfl,rfl,trivial⟩ call55) (Fm _ Ag.Year 1900 2100 _ rfl) rfl ?_);clear S;intro v4 a w7 hv4 hk6 hn4 S
    subst hv4
    refine Ld (Ig hk6 (Lw [3,4,5,6,7,8,9,10,11,12,13,14,15,16,17,18,19,20] hsel (by kernel_rfl) rfl ?_))
    clear hsel
    refine Gm S rfl (Hj (S.tm rfl)) rfl fun a S=>Gm S rfl (Rm (S.tm rfl)) rfl ?_;clear S;intro a S
    iterate 4 (refine Nk S rfl rfl rfl rfl (Kp hb1) rfl ?_ rfl;clear S;intro a S)
    refine Gm S rfl (Qu hb1 (S.tm rfl) rfl) rfl fun a S=>Gm S rfl (Rm (S.tm rfl)) rfl ?_;clear S;intro a S
    iterate 9 (refine Nk S rfl rfl rfl rfl (Kp hb2) rfl ?_ rfl;clear S;intro a S)
    refine Gm S rfl (Qu hb2 (S.tm rfl) rfl) rfl fun a S=>Hv ?_
    replace S:=(S.nl [.blk b1 (Mt.enc Ag) 78] [true] rfl).k2 1 28 rfl
    exact Tn (⟨true,h,S.nf [true] rfl (subR rfl)⟩)
   ·replace h:=Qd h hb2
    refine Hd [] ([]) Tryz.mixed S rfl (by kernel_rfl) ?_;clear S;intro w11 hk10 hsel S
    refine Eb 0 S hsel rfl rfl rfl (by kernel_rfl) (by kernel_rfl) rfl (fun _ hw=>(Fy Xp (S.tm rfl))) fun a S=>Eb 1 S hsel rfl rfl rfl (by kernel_rfl) (by kernel_rfl) rfl (fun _ hw=>(Hm isAgg3 (off:=0) (o:=0) (S.tm rfl) ((S.blk_mem (i:=0) (cells:=(Mt.enc Ag)) (b:=b1) (T:=78) rfl (Ia (e':=.blk b1 (Mt.enc Ag) 78))).kept hw) rfl)) fun a S=>He 2 (by kernel_rfl) rfl (Dw S (fun _=>Dp (vs:=[iV Ag.Year,iV 1900,iV 2100]) ⟨(S.tm rfl),rfl,rfl,trivial⟩ call55) (Fm _ Ag.Year 1900 2100 _ rfl) rfl ?_);clear S;intro v8 a w12 hv8 hk11 hn8 S
    subst hv8
    refine Ld (Ig hk11 (Eb 3 S hsel rfl rfl rfl (by kernel_rfl) (by kernel_rfl) rfl (fun _ hw=>(Hj (S.tm rfl))) fun a S=>Eb 4 S hsel rfl rfl rfl (by kernel_rfl) (by kernel_rfl) rfl (fun _ hw=>(Rm (S.tm rfl))) fun a S=>LE 5 S hsel rfl rfl rfl rfl (Kp hb1) rfl (by kernel_rfl) (by kernel_rfl) rfl fun a S=>LE 6 S hsel rfl rfl rfl rfl (Kp hb1) rfl (by kernel_rfl) (by kernel_rfl) rfl fun a S=>LE 7 S hsel rfl rfl rfl rfl (Kp hb1) rfl (by kernel_rfl) (by kernel_rfl) rfl fun a S=>LE 8 S hsel rfl rfl rfl rfl (Kp hb1) rfl (by kernel_rfl) (by kernel_rfl) rfl fun a S=>Eb 9 S hsel rfl rfl rfl (by kernel_rfl) (by kernel_rfl) rfl (fun _ hw=>(Qu hb1 (S.tm rfl) rfl)) fun a S=>Eb 10 S hsel rfl rfl rfl (by kernel_rfl) (by kernel_rfl) rfl (fun _ hw=>(Rm (S.tm rfl))) fun a S=>Eu 11 S hsel rfl rfl rfl rfl hb2 rfl rfl (by kernel_rfl) (by kernel_rfl) rfl (fun _ hw=>(Fy LT (S.tm rfl))) ?_));clear S;intro a S
    refine Eu 12 S hsel rfl rfl rfl rfl hb2 rfl rfl (by kernel_rfl) (by kernel_rfl) rfl (fun _ hw=>(Hm isAgg3 (off:=0) (o:=2) (S.tm rfl) ((S.blk_mem (i:=0) (cells:=(Mt.enc Ag)) (b:=b1) (T:=78) rfl (Ia (e':=.blk b1 (Mt.enc Ag) 78))).kept hw) rfl)) fun a S=>Eu 13 S hsel rfl rfl rfl rfl hb2 rfl rfl (by kernel_rfl) (by kernel_rfl) rfl (fun _ hw=>(Fy Xp (S.tm rfl))) fun a S=>Eu 14 S hsel rfl rfl rfl rfl hb2 rfl rfl (by kernel_rfl) (by kernel_rfl) rfl (fun _ hw=>(Hm isAgg3 (off:=0) (o:=0) (S.tm rfl) ((S.blk_mem (i:=0) (cells:=(Mt.enc Ag)) (b:=b1) (T:=78) rfl (Ia (e':=.blk b1 (Mt.enc Ag) 78))).kept hw) rfl)) fun a S=>Eu 15 S hsel rfl rfl rfl rfl hb2 rfl rfl (by kernel_rfl) (by kernel_rfl) rfl (fun _ hw=>(Fy ER (S.tm rfl))) fun a S=>Eu 16 S hsel rfl rfl rfl rfl hb2 rfl rfl (by kernel_rfl) (by kernel_rfl) rfl (fun _ hw=>(Hm isAgg3 (off:=0) (o:=1) (S.tm rfl) ((S.blk_mem (i:=0) (cells:=(Mt.enc Ag)) (b:=b1) (T:=78) rfl (Ia (e':=.blk b1 (Mt.enc Ag) 78))).kept hw) rfl)) fun a S=>He 17 (by kernel_rfl) rfl (Du S rfl rfl rfl hb2 (Dw S (fun _=>Dp (vs:=[iV Ag.Year,iV Ag.Month]) ⟨(S.tm rfl),(S.tm rfl),trivial⟩ call56) (Xg _ Ag.Year Ag.Month _ rfl) rfl ?_));clear S;intro v9 a w13 hv9 hk12 hn9 S
    subst hv9
    refine Ld (Ig hk12 (He 18 (by kernel_rfl) rfl (Du S rfl rfl rfl hb2 (Dw S (fun _=>Dp (vs:=[iV Ag.Day,iV 1,iV (Nr Ag.Year Ag.Month)]) ⟨(S.tm rfl),rfl,(S.tm rfl),trivial⟩ call55) (Fm _ Ag.Day 1 (Nr Ag.Year Ag.Month) _ rfl) rfl ?_))));clear S;intro v10 a w14 hv10 hk13 hn10 S
    subst hv10
    refine Ld (Ig hk13 (Lw [19,20] hsel (by kernel_rfl) rfl ?_))
    clear hsel
    refine Ee S rfl rfl rfl rfl hb2 (Fb S (Hj (S.tm rfl)) rfl fun a S=>Gm S rfl (Qv hb2 (S.tm rfl) (S.tm rfl)) rfl fun a S=>Hv ?_)
    replace S:=(S.nl [.blk b1 (Mt.enc Ag) 78] [true] rfl).k2 1 28 rfl
    exact Tn (⟨!(Dv Ag.Day 1 (Nr Ag.Year Ag.Month)),h,S.nf [true] rfl (subR rfl)⟩)
  ·replace h:=Qd h hb1
   rcases Bool.eq_false_or_eq_true (!(Dv Ag.Month 1 12)) with hb3 | hb3
   ·replace h:=Qc h hb3
    refine Hd [] ([]) Tryz.mixed S rfl (by kernel_rfl) ?_;clear S;intro w19 hk18 hsel S
    refine Eb 0 S hsel rfl rfl rfl (by kernel_rfl) (by kernel_rfl) rfl (fun _ hw=>(Fy Xp (S.tm rfl))) fun a S=>Eb 1 S hsel rfl rfl rfl (by kernel_rfl) (by kernel_rfl) rfl (fun _ hw=>(Hm isAgg3 (off:=0) (o:=0) (S.tm rfl) ((S.blk_mem (i:=0) (cells:=(Mt.enc Ag)) (b:=b1) (T:=78) rfl (Ia (e':=.blk b1 (Mt.enc Ag) 78))).kept hw) rfl)) fun a S=>He 2 (by kernel_rfl) rfl (Dw S (fun _=>Dp (vs:=[iV Ag.Year,iV 1900,iV 2100]) ⟨(S.tm rfl),rfl,rfl,trivial⟩ call55) (Fm _ Ag.Year 1900 2100 _ rfl) rfl ?_);clear S;intro v15 a w20 hv15 hk19 hn15 S
    subst hv15
    refine Ld (Ig hk19 (Eb 3 S hsel rfl rfl rfl (by kernel_rfl) (by kernel_rfl) rfl (fun _ hw=>(Hj (S.tm rfl))) fun a S=>Eb 4 S hsel rfl rfl rfl (by kernel_rfl) (by kernel_rfl) rfl (fun _ hw=>(Rm (S.tm rfl))) fun a S=>Eu 5 S hsel rfl rfl rfl rfl hb1 rfl rfl (by kernel_rfl) (by kernel_rfl) rfl (fun _ hw=>(Fy ER (S.tm rfl))) fun a S=>Eu 6 S hsel rfl rfl rfl rfl hb1 rfl rfl (by kernel_rfl) (by kernel_rfl) rfl (fun _ hw=>(Hm isAgg3 (off:=0) (o:=1) (S.tm rfl) ((S.blk_mem (i:=0) (cells:=(Mt.enc Ag)) (b:=b1) (T:=78) rfl (Ia (e':=.blk b1 (Mt.enc Ag) 78))).kept hw) rfl)) fun a S=>He 7 (by kernel_rfl) rfl (Du S rfl rfl rfl hb1 (Dw S (fun _=>Dp (vs:=[iV Ag.Month,iV 1,iV 12]) ⟨(S.tm rfl),rfl,rfl,trivial⟩ call55) (Fm _ Ag.Month 1 12 _ rfl) rfl ?_))));clear S;intro v16 a w21 hv16 hk20 hn16 S
    subst hv16
    refine Ld (Ig hk20 (Lw [8,9,10,11,12,13,14,15,16,17,18,19,20] hsel (by kernel_rfl) rfl ?_))
    clear hsel
    refine Ee S rfl rfl rfl rfl hb1 (Fb S (Hj (S.tm rfl)) rfl fun a S=>Gm S rfl (Qv hb1 (S.tm rfl) (S.tm rfl)) rfl fun a S=>Gm S rfl (Rm (S.tm rfl)) rfl ?_);clear S;intro a S
    iterate 9 (refine Nk S rfl rfl rfl rfl (Kp hb3) rfl ?_ rfl;clear S;intro a S)
    refine Gm S rfl (Qu hb3 (S.tm rfl) rfl) rfl fun a S=>Hv ?_
    replace S:=(S.nl [.blk b1 (Mt.enc Ag) 78] [true] rfl).k2 1 28 rfl
    exact Tn (⟨true,h,S.nf [true] rfl (subR rfl)⟩)
   ·replace h:=Qd h hb3
    refine Hd [] ([]) Tryz.mixed S rfl (by kernel_rfl) ?_;clear S;intro w26 hk25 hsel S
    refine Eb 0 S hsel rfl rfl rfl (by kernel_rfl) (by kernel_rfl) rfl (fun _ hw=>(Fy Xp (S.tm rfl))) fun a S=>Eb 1 S hsel rfl rfl rfl (by kernel_rfl) (by kernel_rfl) rfl (fun _ hw=>(Hm isAgg3 (off:=0) (o:=0) (S.tm rfl) ((S.blk_mem (i:=0) (cells:=(Mt.enc Ag)) (b:=b1) (T:=78) rfl (Ia (e':=.blk b1 (Mt.enc Ag) 78))).kept hw) rfl)) fun a S=>He 2 (by kernel_rfl) rfl (Dw S (fun _=>Dp (vs:=[iV Ag.Year,iV 1900,iV 2100]) ⟨(S.tm rfl),rfl,rfl,trivial⟩ call55) (Fm _ Ag.Year 1900 2100 _ rfl) rfl ?_);clear S;intro v21 a w27 hv21 hk26 hn21 S
    subst hv21
    refine Ld (Ig hk26 (Eb 3 S hsel rfl rfl rfl (by kernel_rfl) (by kernel_rfl) rfl (fun _ hw=>(Hj (S.tm rfl))) fun a S=>Eb 4 S hsel rfl rfl rfl (by kernel_rfl) (by kernel_rfl) rfl (fun _ hw=>(Rm (S.tm rfl))) fun a S=>Eu 5 S hsel rfl rfl rfl rfl hb1 rfl rfl (by kernel_rfl) (by kernel_rfl) rfl (fun _ hw=>(Fy ER (S.tm rfl))) fun a S=>Eu 6 S hsel rfl rfl rfl rfl hb1 rfl rfl (by kernel_rfl) (by kernel_rfl) rfl (fun _ hw=>(Hm isAgg3 (off:=0) (o:=1) (S.tm rfl) ((S.blk_mem (i:=0) (cells:=(Mt.enc Ag)) (b:=b1) (T:=78) rfl (Ia (e':=.blk b1 (Mt.enc Ag) 78))).kept hw) rfl)) fun a S=>He 7 (by kernel_rfl) rfl (Du S rfl rfl rfl hb1 (Dw S (fun _=>Dp (vs:=[iV Ag.Month,iV 1,iV 12]) ⟨(S.tm rfl),rfl,rfl,trivial⟩ call55) (Fm _ Ag.Month 1 12 _ rfl) rfl ?_))));clear S;intro v22 a w28 hv22 hk27 hn22 S
    subst hv22
    refine Ld (Ig hk27 (Eu 8 S hsel rfl rfl rfl rfl hb1 rfl rfl (by kernel_rfl) (by kernel_rfl) rfl (fun _ hw=>(Hj (S.tm rfl))) fun a S=>Eb 9 S hsel rfl rfl rfl (by kernel_rfl) (by kernel_rfl) rfl (fun _ hw=>(Qv hb1 (S.tm rfl) (S.tm rfl))) fun a S=>Eb 10 S hsel rfl rfl rfl (by kernel_rfl) (by kernel_rfl) rfl (fun _ hw=>(Rm (S.tm rfl))) fun a S=>Eu 11 S hsel rfl rfl rfl rfl hb3 rfl rfl (by kernel_rfl) (by kernel_rfl) rfl (fun _ hw=>(Fy LT (S.tm rfl))) fun a S=>Eu 12 S hsel rfl rfl rfl rfl hb3 rfl rfl (by kernel_rfl) (by kernel_rfl) rfl (fun _ hw=>(Hm isAgg3 (off:=0) (o:=2) (S.tm rfl) ((S.blk_mem (i:=0) (cells:=(Mt.enc Ag)) (b:=b1) (T:=78) rfl (Ia (e':=.blk b1 (Mt.enc Ag) 78))).kept hw) rfl)) fun a S=>Eu 13 S hsel rfl rfl rfl rfl hb3 rfl rfl (by kernel_rfl) (by kernel_rfl) rfl (fun _ hw=>(Fy Xp (S.tm rfl))) fun a S=>Eu 14 S hsel rfl rfl rfl rfl hb3 rfl rfl (by kernel_rfl) (by kernel_rfl) rfl (fun _ hw=>(Hm isAgg3 (off:=0) (o:=0) (S.tm rfl) ((S.blk_mem (i:=0) (cells:=(Mt.enc Ag)) (b:=b1) (T:=78) rfl (Ia (e':=.blk b1 (Mt.enc Ag) 78))).kept hw) rfl)) fun a S=>Eu 15 S hsel rfl rfl rfl rfl hb3 rfl rfl (by kernel_rfl) (by kernel_rfl) rfl (fun _ hw=>(Fy ER (S.tm rfl))) fun a S=>Eu 16 S hsel rfl rfl rfl rfl hb3 rfl rfl (by kernel_rfl) (by kernel_rfl) rfl (fun _ hw=>(Hm isAgg3 (off:=0) (o:=1) (S.tm rfl) ((S.blk_mem (i:=0) (cells:=(Mt.enc Ag)) (b:=b1) (T:=78) rfl (Ia (e':=.blk b1 (Mt.enc Ag) 78))).kept hw) rfl)) ?_));clear S;intro a S
    refine He 17 (by kernel_rfl) rfl (Du S rfl rfl rfl hb3 (Dw S (fun _=>Dp (vs:=[iV Ag.Year,iV Ag.Month]) ⟨(S.tm rfl),(S.tm rfl),trivial⟩ call56) (Xg _ Ag.Year Ag.Month _ rfl) rfl ?_));clear S;intro v23 a w29 hv23 hk28 hn23 S
    subst hv23
    refine Ld (Ig hk28 (He 18 (by kernel_rfl) rfl (Du S rfl rfl rfl hb3 (Dw S (fun _=>Dp (vs:=[iV Ag.Day,iV 1,iV (Nr Ag.Year Ag.Month)]) ⟨(S.tm rfl),rfl,(S.tm rfl),trivial⟩ call55) (Fm _ Ag.Day 1 (Nr Ag.Year Ag.Month) _ rfl) rfl ?_))));clear S;intro v24 a w30 hv24 hk29 hn24 S
    subst hv24
    refine Ld (Ig hk29 (Lw [19,20] hsel (by kernel_rfl) rfl ?_))
    clear hsel
    refine Ee S rfl rfl rfl rfl hb3 (Fb S (Hj (S.tm rfl)) rfl fun a S=>Gm S rfl (Qv hb3 (S.tm rfl) (S.tm rfl)) rfl fun a S=>Hv ?_)
    replace S:=(S.nl [.blk b1 (Mt.enc Ag) 78] [true] rfl).k2 1 28 rfl
    exact Tn (⟨!(Dv Ag.Day 1 (Nr Ag.Year Ag.Month)),h,S.nf [true] rfl (subR rfl)⟩)
 clear S h;rintro a w2 ⟨x1,h,S⟩;rw [hj1] at h;clear hj1 j1
 refine Tn (Fc h (S.tm rfl) (fun hb4 h=>?_) (fun hb4 h=>?_))
 ·refine Fr (Vk S rfl rfl fun a S=>Vk S rfl rfl fun a S=>Dl (wp_ret (Dt ?_)))
  obtain rfl:=Option.some.inj h
  exact Lg S results26 rfl rfl rfl
 ·refine wp_skip (Tn (Fr (Vf LT S rfl rfl fun a S=>Vl isAgg3 0 S rfl rfl rfl rfl fun a S=>Vq S Iu rfl rfl rfl fun a S=>Va S rfl rfl fun a S=>Dl (Fs ?_))))
  refine Fr (Vk S rfl rfl fun a S=>Dl ?_)
  replace S:=S.k3 1 4 5 rfl
  obtain ⟨j2,hj2,h⟩:=Ep h
  refine Eg (fun a w'=>∃ x2 : Int,j2 x2 = some r ∧ Sx w [] nov [.blk b1 (Mt.enc Ag) 78] [(1,.pointer (some ⟨b1,0,none⟩)),(4,iV x2)] 68 a w') ?_ ?_
  ·refine wp_block (Gx (fun (m1 : Nat) a w'=>∃ x2 : Int,∃ x3 : Int,Ny Ag j2 m1 x2 x3 = some r ∧ Sx w [] nov [.blk b1 (Mt.enc Ag) 78] [(1,.pointer (some ⟨b1,0,none⟩)),(4,iV x2),(5,iV x3)] 68 a w') id ((Ag.Month - 1).toNat + 2) ⟨W (Ag.Day - 1),1,h,S.nf [true] rfl (subR rfl)⟩ ?_)
   clear S h;rintro m1 a w31 ⟨x2,x3,h,S⟩
   cases m1 with
   | zero=>rw [Ny.eq_1] at h;cases h
   | succ m1 =>
    rw [Ny.eq_2] at h
    refine Fs (Fr (Vm S rfl rfl fun a S=>Vf ER S rfl rfl fun a S=>Vl isAgg3 0 S rfl rfl rfl rfl fun a S=>Vb S Et rfl rfl rfl fun a S=>Dl (Fc h (S.tm rfl) (fun hb5 h=>?_) (fun hb5 h=>?_))))
    ·refine wp_skip (Tn (Fs (wp_block (Fg (Vm S rfl rfl fun a S=>Vf Xp S rfl rfl fun a S=>Vl isAgg3 0 S rfl rfl rfl rfl fun a S=>Vm S rfl rfl fun a S=>Dw S (fun _=>Dp (vs:=[iV Ag.Year,iV x3]) ⟨(S.tm rfl),(S.tm rfl),trivial⟩ call56) (Xg _ Ag.Year x3 _ rfl) rfl ?_)))));clear S;intro v25 a w33 hv25 hk30 hn25 S
     subst hv25
     refine Vb S Gc rfl rfl rfl fun a S=>Va S rfl rfl fun a S=>Ld (Ho (Tn (Fg (Vm S rfl rfl fun a S=>Vq S Gc rfl rfl rfl fun a S=>Va S rfl rfl fun a S=>Ld ?_))))
     replace S:=S.k3 1 4 5 rfl
     exact Tn (⟨m1,⟨W (x2 + (Nr Ag.Year x3)),W (x3 + 1),h,S.nf [true] rfl ⟨rfl,rfl,rfl,trivial⟩⟩,Nat.lt_succ_self _⟩)
    ·exact wp_exit (Ed (Ed (Gp (Tn (⟨x2,h,S.nf [true] rfl (subR rfl)⟩)))))
  clear S h;rintro a w32 ⟨x2,h,S⟩;rw [hj2] at h;clear hj2 j2
  refine Tn (Fs (Fr (Vk S rfl rfl fun a S=>Dl ?_)))
  replace S:=S.k3 1 4 6 rfl
  obtain ⟨j3,hj3,h⟩:=Ep h
  refine Eg (fun a w'=>∃ x4 : Int,j3 x4 = some r ∧ Sx w [] nov [.blk b1 (Mt.enc Ag) 78] [(1,.pointer (some ⟨b1,0,none⟩)),(4,iV x4)] 68 a w') ?_ ?_
  ·refine wp_block (Gx (fun (m2 : Nat) a w'=>∃ x4 : Int,∃ x5 : Int,Nz Ag j3 m2 x4 x5 = some r ∧ Sx w [] nov [.blk b1 (Mt.enc Ag) 78] [(1,.pointer (some ⟨b1,0,none⟩)),(4,iV x4),(6,iV x5)] 68 a w') id ((Ag.Year - 2024).toNat + 2) ⟨x2,2024,h,S.nf [true] rfl (subR rfl)⟩ ?_)
   clear S h;rintro m2 a w34 ⟨x4,x5,h,S⟩
   cases m2 with
   | zero=>rw [Nz.eq_1] at h;cases h
   | succ m2 =>
    rw [Nz.eq_2] at h
    refine Fs (Fr (Vm S rfl rfl fun a S=>Vf Xp S rfl rfl fun a S=>Vl isAgg3 0 S rfl rfl rfl rfl fun a S=>Vb S Et rfl rfl rfl fun a S=>Dl (Fc h (S.tm rfl) (fun hb6 h=>?_) (fun hb6 h=>?_))))
    ·refine wp_skip (Tn (Fs (wp_block (Fg (Vm S rfl rfl fun a S=>Vm S rfl rfl fun a S=>Dw S (fun _=>Dp (vs:=[iV x5]) ⟨(S.tm rfl),trivial⟩ call57) (Xj _ x5 _ rfl) rfl ?_)))));clear S;intro v26 a w36 hv26 hk31 hn26 S
     subst hv26
     refine Vb S Gc rfl rfl rfl fun a S=>Va S rfl rfl fun a S=>Ld (Ho (Tn (Fg (Vm S rfl rfl fun a S=>Vq S Gc rfl rfl rfl fun a S=>Va S rfl rfl fun a S=>Dl ?_))))
     exact ⟨m2,⟨W (x4 + (Qb x5)),W (x5 + 1),h,S.nf [true] rfl ⟨rfl,rfl,rfl,trivial⟩⟩,Nat.lt_succ_self _⟩
    ·exact wp_exit (Ed (Ed (Gp (Tn (⟨x4,h,S.nf [true] rfl (subR rfl)⟩)))))
  clear S h;rintro a w35 ⟨x4,h,S⟩;rw [hj3] at h;clear hj3 j3
  refine Tn (Fs (Fr (Vf Xp S rfl rfl fun a S=>Vl isAgg3 0 S rfl rfl rfl rfl fun a S=>Va S rfl rfl fun a S=>Dl ?_)))
  replace S:=S.n0.k2 4 7 rfl
  obtain ⟨j4,hj4,h⟩:=Ep h
  refine Eg (fun a w'=>∃ x6 : Int,j4 x6 = some r ∧ Sx w [] nov [] [(4,iV x6)] 68 a w') ?_ ?_
  ·refine wp_block (Gx (fun (m3 : Nat) a w'=>∃ x6 : Int,∃ x7 : Int,Oa j4 m3 x6 x7 = some r ∧ Sx w [] nov [] [(4,iV x6),(7,iV x7)] 68 a w') id ((2024 - Ag.Year).toNat + 2) ⟨x4,Ag.Year,h,S.nf [] rfl (subR rfl)⟩ ?_)
   clear S h;rintro m3 a w37 ⟨x6,x7,h,S⟩
   cases m3 with
   | zero=>rw [Oa.eq_1] at h;cases h
   | succ m3 =>
    rw [Oa.eq_2] at h
    refine Fs (Fr (Vm S rfl rfl fun a S=>Vq S Et rfl rfl rfl fun a S=>Dl (Fc h (S.tm rfl) (fun hb7 h=>?_) (fun hb7 h=>?_))))
    ·refine wp_skip (Tn (Fs (wp_block (Fg (Vm S rfl rfl fun a S=>Vm S rfl rfl fun a S=>Dw S (fun _=>Dp (vs:=[iV x7]) ⟨(S.tm rfl),trivial⟩ call57) (Xj _ x7 _ rfl) rfl ?_)))));clear S;intro v27 a w39 hv27 hk32 hn27 S
     subst hv27
     refine Vb S Iu rfl rfl rfl fun a S=>Va S rfl rfl fun a S=>Ld (Ho (Tn (Fg (Vm S rfl rfl fun a S=>Vq S Gc rfl rfl rfl fun a S=>Va S rfl rfl fun a S=>Dl ?_))))
     exact ⟨m3,⟨W (x6 - (Qb x7)),W (x7 + 1),h,S.nf [] rfl ⟨rfl,rfl,trivial⟩⟩,Nat.lt_succ_self _⟩
    ·exact wp_exit (Ed (Ed (Gp (Tn (⟨x6,h,S.nf [] rfl ⟨rfl,trivial⟩⟩)))))
  clear S h;rintro a w38 ⟨x6,h,S⟩;rw [hj4] at h;clear hj4 j4
  refine Tn (Fs (Fr (Vm S rfl rfl fun a S=>Dw S (fun _=>Dp (vs:=[iV x6]) ⟨(S.tm rfl),trivial⟩ call58) (FW _ x6 _ rfl) rfl ?_)));clear S;intro v28 a w40 hv28 hk33 hn28 S
  subst hv28
  refine Vu S Hj rfl rfl fun a S=>Dl (Fc h (S.tm rfl) (fun hb8 h=>?_) (fun hb8 h=>?_))
  ·refine Fr (Vk S rfl rfl fun a S=>Vk S rfl rfl fun a S=>Dl (wp_ret (Dt ?_)))
   obtain rfl:=Option.some.inj h
   exact Lg S results26 rfl rfl rfl
  ·refine wp_skip (Tn (Fr (Vm S rfl rfl fun a S=>Va S rfl rfl fun a S=>Vk S rfl rfl fun a S=>Dl (wp_ret ?_))))
   obtain rfl:=Option.some.inj h
   exact Lg S results26 rfl rfl rfl
end Go.Proofs.YtfcmmengcdebnaaGreatDoor
