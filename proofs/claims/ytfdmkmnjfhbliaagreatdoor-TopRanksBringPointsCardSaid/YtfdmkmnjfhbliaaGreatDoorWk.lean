/- Each Go function computes its plain twin,by program. -/
import Derived.Test.YtfdmkmnjfhbliaaGreatDoorWk3
namespace Go.Proofs.YtfdmkmnjfhbliaaGreatDoor
open Go
open Go.Proofs.Tryz
theorem Us (w : World) (Ay : Value) (Ab : List Dm) (Ce : (LEnt.own Ay 58 3 Ab.length (Ab.flatMap Dm.enc)).holds w) (r : (List Dm)) (h : Jj Ab = some r) :
    Calls prog 66 [Ay,.func (.func 78) #[] #[]].toArray w (Ret w (Ay.ownBlock.toList) fun _ v w'=>(LEnt.own Ay 58 3 r.length (r.flatMap Dm.enc)).holds w' ∧ v = .tuple #[]):=by
 refine Lb (Ay.ownBlock.toList) [.own Ay 58 3 Ab.length (Ab.flatMap Dm.enc)] func66 rfl ntmps66 rfl (fun e he=>by simp only [List.mem_singleton] at he;subst he;exact Ce) (Ix _) (Jw _) fun a S=>?_
 unfold Jj at h
 replace S:=(S.nl [.own Ay 58 3 Ab.length (Ab.flatMap Dm.enc)] [true] rfl).k2 0 1 rfl
 refine Fr (Vm S rfl rfl fun a S=>lv S (Gi Ss (S.tm rfl) (Pb (S.own_at (i:=0) rfl))) rfl fun a S=>Va S rfl rfl fun a S=>Dl (Fg ?_))
 iterate 3 (refine Vm S rfl rfl ?_;clear S;intro a S)
 refine Vu S (Ve underlying3 underlying71) rfl rfl ?_;clear S;intro a S
 obtain ⟨r1,hr1,h⟩:=Fa h
 refine Eb S (fun _=>Dq (vs:=[.int .u64 (IntKind.wrap .u64 (Ab.length : Int))]) ⟨(S.tm rfl),trivial⟩ call25) (AE _ (IntKind.wrap .u64 (Ab.length : Int)) _ hr1) rfl ?_;clear S;intro v1 a w1 hv1 hk1 hn1 S
 subst hv1
 refine Vm S rfl rfl ?_;clear S;intro a S
 obtain ⟨r2,hr2,h⟩:=Fa h
 refine Mj 0 S rfl (fun _=>.own Ay 58 3 r2.length (r2.flatMap Dm.enc)) (fun _=>Dq (vs:=[Ay,iV 0,iV (Ab.length : Int),iV r1,.func (.func 78) #[] #[]]) ⟨(S.tm rfl),rfl,(S.tm rfl),(S.tm rfl),(S.tm rfl),trivial⟩ call109) (Sz _ Ay Ab (S.holds _ (List.mem_of_getElem? (i:=0) rfl)) 0 (Ab.length : Int) r1 _ hr2) rfl (fun _ _ _ h=>⟨h.1,fun _ hc=>hc⟩) ?_;clear S;intro v2 a w2 hv2 hk2 hn2 S
 replace hv2:=hv2.2
 subst hv2
 refine Ld ?_
 obtain rfl:=Option.some.inj h
 exact Rp S results66 ⟨(S.holds _ (List.mem_of_getElem? (i:=0) rfl)),rfl⟩
theorem JY (w : World) (U : Nat) (Ae : Jr) (Bn : R32) (Bv : Tt (view w []) Ae Bn) (Aq : Value) (Al : List Di) (Bd : Slc (view w []) 11 Aq (Al.map Di.enc)) (As : (view w []) U = some (.cells (R32.enc Bn ++ [Aq]).toArray 133 (0,0))) (r : (List Dm) × Int) (h : Uy Ae Al = some r) :
    Calls prog 32 [.pointer (some ⟨U,0,none⟩)].toArray w (Ret w [] fun τ v _=>∃ u1 : Value,v = .tuple #[u1,iV r.2] ∧ Uq τ 58 3 u1 r.1.length (r.1.flatMap Dm.enc)):=by
 obtain ⟨u1,u2,rfl,hs1,⟨u3,rfl,hs2⟩⟩:=Bv
 replace As : (view w []) U = some (.cells [u1.val,u3.val,iV Ae.Table.Relay,iV Ae.Table.Most,iV Ae.Final.Size,iV Ae.Final.Many,iV Ae.Final.Reserves,Aq].toArray 133 (0,0)):=As
 refine Fe func32 rfl ntmps32 rfl fun a S=>?_
 unfold Uy at h
 replace S:=S.k1 0 rfl
 refine Fr (Vk S rfl rfl fun a S=>Vk S rfl rfl fun a S=>Dl (Fs (Fr (Vm S rfl rfl ?_))));clear S;intro a S
 obtain ⟨r1,hr1,h⟩:=Fa h
 refine Eb S (fun _=>Dq (vs:=[.pointer (some ⟨U,0,none⟩)]) ⟨(S.tm rfl),trivial⟩ call75) (NY _ U Ae (R32.mk u1 (R28.mk u3 Ae.Table.Relay Ae.Table.Most) Ae.Final) ⟨u1,(R28.mk u3 Ae.Table.Relay Ae.Table.Most),rfl,(hs1.mono (S.le_arg Eg)),⟨u3,rfl,(hs2.mono (S.le_arg Eg))⟩⟩ Aq Al (Bd.mono (S.le_arg Eg)) ((S.le_arg Eg) _ _ As) _ hr1) rfl ?_;clear S;intro v1 a w1 hv1 hk1 hn1 S
 subst hv1
 refine Va S rfl rfl fun a S=>Dz (Vm S rfl rfl fun a S=>Vq S Mn rfl rfl rfl fun a S=>Dl (Fc h (S.tm rfl) (fun hb1 h=>?_) (fun hb1 h=>?_)))
 ·refine Fr (Vm S rfl rfl fun a S=>Vk S rfl rfl fun a S=>Va S rfl rfl fun a S=>Dl (wp_ret (Dv ?_)))
  obtain rfl:=Option.some.inj h
  exact Mq S results32 rfl rfl ⟨_,rfl,(Ro _ _ _)⟩
 ·refine wp_skip (Tn (Fr (Rg (κ:=ByteArray) (ν:=Dk) S rfl Value.string (fun x=>Value.agg (Dk.enc x).toArray) ?_)));clear S;intro a w2 b1 hz1 hk2 S
  refine Va S rfl rfl fun a S=>Dl (Fs (Fr (Vm S rfl rfl fun a S=>Vu S Lv rfl rfl fun a S=>Vf DC S rfl rfl fun a S=>Vf Yu S rfl rfl fun a S=>lv S (Hx isAgg26 (off:=0) (o:=0) (S.tm rfl) ((Sc As).at S.emb0) rfl) rfl ?_)));clear S;intro a S
  refine lv S (Gi Sh (S.tm rfl) (Gf hs1)) rfl fun a S=>lv S (Rm rfl) rfl fun a S=>Ld ?_
  replace S:=(S.nl [.map b1 (Fi Value.string (fun x=>Value.agg (Dk.enc x).toArray) ([] : List (ByteArray × Dk))) ([] : List (ByteArray × Dk)).length] [true] rfl).k5 0 5 29 30 31 rfl
  refine Tn ?_
  obtain ⟨j1,hj1,h⟩:=Eu h
  refine Eh (fun a w'=>∃ x1 : List (ByteArray × Dk),∃ φ1 : View,j1 x1 = some r ∧ View.le nov φ1 ∧ Sx w [] φ1 [.map b1 (Fi Value.string (fun x=>Value.agg (Dk.enc x).toArray) x1) x1.length] [(5,.map (some b1))] 109 a w') ?_ ?_
  ·refine wp_block (Gr (fun (ys1 : List Du) a w'=>∃ i1 : Nat,∃ x1 : List (ByteArray × Dk),∃ φ1 : View,(∃ dn,Ae.Races = dn ++ ys1 ∧ dn.length = i1) ∧ Mw Ae Al j1 ys1 i1 x1 = some r ∧ View.le nov φ1 ∧ Sx w [] φ1 [.map b1 (Fi Value.string (fun x=>Value.agg (Dk.enc x).toArray) x1) x1.length] [(0,.pointer (some ⟨U,0,none⟩)),(5,.map (some b1)),(29,u1.val),(30,iV (Ae.Races.length : Int)),(31,iV (i1 : Int))] 109 a w') List.length Ae.Races ⟨0,([] : List (ByteArray × Dk)),nov,⟨[],rfl,rfl⟩,h,View.le_refl _,S.nf [true] rfl (subR rfl)⟩ ?_)
   clear S h;rintro ys1 a w3 ⟨i1,x1,φ1,⟨dn,hd1,hi1⟩,h,hl1,S⟩
   cases ys1 with
   | nil =>
    rw [Mw.eq_1] at h
    refine Fr (Vb S Es rfl rfl rfl fun a S=>Ld ?_)
    replace S:=S.k6 0 5 29 30 31 32 rfl
    exact Tn (Fs (wp_cond_false ((S.tm rfl).trans (congrArg Value.bool (Jd hd1 hi1))) (wp_exit (Ed (Ed (Gn (Tn (⟨x1,φ1,h,hl1,S.nf [true] rfl ⟨rfl,trivial⟩⟩))))))))
   | cons y1 ys1 =>
    rw [Mw.eq_2] at h
    refine Fr (Vb S Es rfl rfl rfl fun a S=>Ld ?_)
    replace S:=S.k6 0 5 29 30 31 32 rfl
    refine Tn (Fs (wp_cond_true ((S.tm rfl).trans (congrArg Value.bool (Ia hd1 hi1))) (wp_skip (Tn (Fs (wp_block (Fs (Fg ?_))))))))
    obtain ⟨b2,o1,hm1,hr2⟩:=Fk (a:=a) (x:=.tmp 29) (y:=.tmp 31) (ty:=0) Sh hs1 (Jc hd1 hi1) rfl (S.tm rfl) (S.tm rfl)
    refine lv S (hr2 _) rfl ?_;clear S;intro a S
    clear hr2
    refine lv S (Fb isAgg40 sizeOf40 (off:=o1) (o:=0) (part:=(Du.enc y1)) rfl rfl (S.tm rfl) (hm1.at S.emb0)) rfl fun a S=>Hq S zeroValue40 (cs:=[sV An,iV 0,iV 0,iV 0,iV 0,iV 0,iV 0,iV 0]) rfl rfl ?_;clear S;intro a w5 b3 hz2 hk3 S
    refine Ex S (S.tm rfl) (S.tm rfl) (i:=0) (off:=0) rfl sizeOf40 (vs:=(Du.enc y1)) rfl rfl rfl rfl ?_;clear S;intro w6 hk4 S
    refine Dl (Fs (Fr (Vm S rfl rfl fun a S=>Vf Vr S rfl rfl fun a S=>Vl isAgg9 0 S rfl rfl rfl rfl ?_)));clear S;intro a S
    obtain ⟨r2,hr3,h⟩:=Fa h
    have hz3:=S.keep.size
    refine Eb S (fun _=>Dq (vs:=[.pointer (some ⟨U,0,none⟩),sV y1.Key]) ⟨(S.tm rfl),(S.tm rfl),trivial⟩ call76) (Xu _ U Ae (R32.mk u1 (R28.mk u3 Ae.Table.Relay Ae.Table.Most) Ae.Final) ⟨u1,(R28.mk u3 Ae.Table.Relay Ae.Table.Most),rfl,(hs1.mono (S.le_arg Eg)),⟨u3,rfl,(hs2.mono (S.le_arg Eg))⟩⟩ Aq Al (Bd.mono (S.le_arg Eg)) ((S.le_arg Eg) _ _ As) y1.Key _ hr3) rfl ?_;clear S;intro v2 a w7 hv2 hk5 hn2 S
    obtain ⟨φ2,hl2,hm2,S⟩:=S.see' hn2 hz3
    have hs3:=hv2.mono hm2
    refine lv S (Gi Oo (S.tm rfl) (Gf (Ge Di.enc_ok hs3))) rfl fun a S=>lv S (Rm rfl) rfl fun a S=>Ld ?_
    replace S:=(S.nl [.blk b3 (Du.enc y1) 40,.map b1 (Fi Value.string (fun x=>Value.agg (Dk.enc x).toArray) x1) x1.length] [true,true] rfl).k9 0 5 7 29 30 31 38 39 40 rfl
    refine Tn ?_
    obtain ⟨j2,hj2,h⟩:=Eu h
    refine Eh (fun a w'=>∃ x2 : List (ByteArray × Dk),j2 x2 = some r ∧ Sx w [] φ2 [.blk b3 (Du.enc y1) 40,.map b1 (Fi Value.string (fun x=>Value.agg (Dk.enc x).toArray) x2) x2.length] [(0,.pointer (some ⟨U,0,none⟩)),(5,.map (some b1)),(7,.pointer (some ⟨b3,0,none⟩)),(29,u1.val),(30,iV (Ae.Races.length : Int)),(31,iV (i1 : Int))] 109 a w') ?_ ?_
    ·refine wp_block (Gr (fun (ys2 : List Di) a w'=>∃ i2 : Nat,∃ x2 : List (ByteArray × Dk),(∃ dn,r2 = dn ++ ys2 ∧ dn.length = i2) ∧ Og j2 ys2 i2 x2 = some r ∧ Sx w [] φ2 [.blk b3 (Du.enc y1) 40,.map b1 (Fi Value.string (fun x=>Value.agg (Dk.enc x).toArray) x2) x2.length] [(0,.pointer (some ⟨U,0,none⟩)),(5,.map (some b1)),(7,.pointer (some ⟨b3,0,none⟩)),(29,u1.val),(30,iV (Ae.Races.length : Int)),(31,iV (i1 : Int)),(38,v2),(39,iV (r2.length : Int)),(40,iV (i2 : Int))] 109 a w') List.length r2 ⟨0,x1,⟨[],rfl,rfl⟩,h,S.nf [true,true] rfl (subR rfl)⟩ ?_)
     clear S h;rintro ys2 a w8 ⟨i2,x2,⟨dn,hd2,hi2⟩,h,S⟩
     cases ys2 with
     | nil =>
      rw [Og.eq_1] at h
      refine Fr (Vb S Es rfl rfl rfl fun a S=>Ld ?_)
      replace S:=S.k10 0 5 7 29 30 31 38 39 40 41 rfl
      exact Tn (Fs (wp_cond_false ((S.tm rfl).trans (congrArg Value.bool (Jd hd2 hi2))) (wp_exit (Ed (Ed (Gn (Tn (⟨x2,h,S.nf [true,true] rfl (subR rfl)⟩))))))))
     | cons y2 ys2 =>
      rw [Og.eq_2] at h
      refine Fr (Vb S Es rfl rfl rfl fun a S=>Ld ?_)
      replace S:=S.k10 0 5 7 29 30 31 38 39 40 41 rfl
      refine Tn (Fs (wp_cond_true ((S.tm rfl).trans (congrArg Value.bool (Ia hd2 hi2))) (wp_skip (Tn (Fs ?_)))))
      obtain ⟨j3,hj3,h⟩:=Eu h
      refine Eh (fun a w'=>∃ x3 : List (ByteArray × Dk),j3 x3 = some r ∧ Sx w [] φ2 [.blk b3 (Du.enc y1) 40,.map b1 (Fi Value.string (fun x=>Value.agg (Dk.enc x).toArray) x3) x3.length] [(0,.pointer (some ⟨U,0,none⟩)),(5,.map (some b1)),(7,.pointer (some ⟨b3,0,none⟩)),(29,u1.val),(30,iV (Ae.Races.length : Int)),(31,iV (i1 : Int)),(38,v2),(39,iV (r2.length : Int)),(40,iV (i2 : Int))] 109 a w') ?_ ?_
      ·refine wp_block (Fs (Fg ?_))
       obtain ⟨b4,o2,hm3,hr4⟩:=Fk (a:=a) (x:=.tmp 38) (y:=.tmp 40) (ty:=0) Oo (Ge Di.enc_ok hs3) (Jc hd2 hi2) rfl (S.tm rfl) (S.tm rfl)
       refine lv S (hr4 _) rfl ?_;clear S;intro a S
       clear hr4
       refine lv S (Fb isAgg102 sizeOf102 (off:=o2) (o:=0) (part:=(Di.enc y2)) rfl rfl (S.tm rfl) (hm3.at S.emb)) rfl fun a S=>Hq S zeroValue102 (cs:=[sV An,iV 0,iV 0,iV 0,sV An,sV An,sV An,iV 0,iV 0,sV An,iV 0]) rfl rfl ?_;clear S;intro a w11 b5 hz4 hk6 S
       refine Ex S (S.tm rfl) (S.tm rfl) (i:=0) (off:=0) rfl sizeOf102 (vs:=(Di.enc y2)) rfl rfl rfl rfl ?_;clear S;intro w12 hk7 S
       refine Dz (Vm S rfl rfl fun a S=>Vf Si S rfl rfl fun a S=>Vl isAgg9 0 S rfl rfl rfl rfl fun a S=>lv S (FA (kv:=Value.string) (vv:=(fun x=>Value.agg (Dk.enc x).toArray)) (m:=x2) (key:=y2.Club) (z:=(Dk.mk 0 0)) (S.map_at (i:=2) rfl) underlying78 (Lm underlying9) zeroValue48 (S.tm rfl) (S.tm rfl)) rfl fun a S=>Vm S rfl rfl fun a S=>Vq S Fu rfl rfl rfl fun a S=>Vq S Fu rfl rfl rfl ?_);clear S;intro a S
       refine Hq S zeroValue48 (cs:=[iV 0,iV 0]) rfl rfl ?_;clear S;intro a w13 b6 hz5 hk8 S
       refine Ex S (S.tm rfl) (S.tm rfl) (i:=0) (off:=0) rfl sizeOf48 (vs:=(Dk.enc (Ec x2 y2.Club (Dk.mk 0 0)))) rfl rfl rfl rfl ?_;clear S;intro w14 hk9 S
       refine Va S rfl rfl fun a S=>Ld ?_
       replace S:=(S.nl [.blk b5 (Di.enc y2) 102,.blk b3 (Du.enc y1) 40,.map b1 (Fi Value.string (fun x=>Value.agg (Dk.enc x).toArray) x2) x2.length] [false,true,true,true] rfl).k11 0 5 7 9 11 29 30 31 38 39 40 rfl
       refine Tn (Fr (Vf Si S rfl rfl fun a S=>Vl isAgg9 0 S rfl rfl rfl rfl fun a S=>Vq S Zv rfl rfl rfl fun a S=>Vm S rfl rfl fun a S=>Iy 3 (fun a w'=>Keep [] w14 w' ∧ Sx w [] φ2 [.blk b5 (Di.enc y2) 102,.blk b3 (Du.enc y1) 40,.map b1 (Fi Value.string (fun x=>Value.agg (Dk.enc x).toArray) x2) x2.length] [(0,.pointer (some ⟨U,0,none⟩)),(5,.map (some b1)),(7,.pointer (some ⟨b3,0,none⟩)),(9,.pointer (some ⟨b5,0,none⟩)),(29,u1.val),(30,iV (Ae.Races.length : Int)),(31,iV (i1 : Int)),(38,v2),(39,iV (r2.length : Int)),(40,iV (i2 : Int)),(57,bV ((!decide (y2.Club = An)) && (!((Qm x2 y2.Club).isSome))))] 109 a w') ?_ ?_))
       ·rcases Bool.eq_false_or_eq_true (!decide (y2.Club = An)) with hb2 | hb2
        ·exact Dy S rfl rfl rfl hb2 (Vm S rfl rfl fun a S=>Dy S rfl rfl rfl hb2 (Vu S Ih rfl rfl fun a S=>lv S (Io hb2 (S.tm rfl) (S.tm rfl)) rfl fun a S=>Dl (⟨Keep.refl _ _,S.nf [true,true,true] rfl (subR rfl)⟩)))
        ·exact Ht S rfl rfl rfl (Kp hb2) rfl (fun a S=>Ht S rfl rfl rfl (Kp hb2) rfl (fun a S=>lv S (Ip (!((Qm x2 y2.Club).isSome)) hb2 (S.tm rfl) rfl) rfl fun a S=>Dl (⟨Keep.refl _ _,S.nf [true,true,true] rfl (subR rfl)⟩)) rfl) rfl
       clear S;rintro a w15 ⟨hk10,S⟩
       refine Dl ?_
       obtain ⟨j4,hj4,h⟩:=Eu h
       refine Eh (fun a w'=>∃ x4 : List (ByteArray × Dk),j4 x4 = some r ∧ Sx w [] φ2 [.blk b3 (Du.enc y1) 40,.map b1 (Fi Value.string (fun x=>Value.agg (Dk.enc x).toArray) x4) x4.length] [(0,.pointer (some ⟨U,0,none⟩)),(5,.map (some b1)),(7,.pointer (some ⟨b3,0,none⟩)),(29,u1.val),(30,iV (Ae.Races.length : Int)),(31,iV (i1 : Int)),(38,v2),(39,iV (r2.length : Int)),(40,iV (i2 : Int))] 109 a w') ?_ ?_
       ·refine Fc h (S.tm rfl) (fun hb3 h=>?_) (fun hb3 h=>?_)
        ·refine Fg (Vm S rfl rfl fun a S=>Vf Si S rfl rfl fun a S=>Vl isAgg9 0 S rfl rfl rfl rfl fun a S=>lv S (Nl TI (pv:=[(0,iV 0),(1,iV 1)]) ⟨rfl,rfl,rfl,rfl,trivial⟩ (cs:=[iV 0,iV 1]) (by kernel_rfl)) rfl fun a S=>Nm (kv:=Value.string) (vv:=(fun x=>Value.agg (Dk.enc x).toArray)) (m:=x2) (key:=y2.Club) (val:=(Dk.mk 0 1)) S (i:=2) rfl underlying78 (Lm underlying9) (S.tm rfl) (S.tm rfl) (S.tm rfl) ?_);clear S;intro w17 hk11 S
         refine Ld ?_
         replace S:=(S.nl [.blk b3 (Du.enc y1) 40,.map b1 (Fi Value.string (fun x=>Value.agg (Dk.enc x).toArray) (Gk x2 y2.Club (Dk.mk 0 1))) (Gk x2 y2.Club (Dk.mk 0 1)).length] [false,true,true] rfl).k9 0 5 7 29 30 31 38 39 40 rfl
         exact Tn (⟨(Gk x2 y2.Club (Dk.mk 0 1)),h,S.nf [true,true] rfl (subR rfl)⟩)
        ·exact wp_skip (Tn (⟨x2,h,S.nf [false,true,true] rfl (subR rfl)⟩))
       clear S h;rintro a w16 ⟨x4,h,S⟩;rw [hj4] at h;clear hj4 j4
       exact Hp (Tn (⟨x4,h,S.nf [true,true] rfl (subR rfl)⟩))
      clear S h;rintro a w10 ⟨x3,h,S⟩;rw [hj3] at h;clear hj3 j3
      exact Tn (Fg (Vq S Gc rfl rfl rfl fun a S=>Vm S rfl rfl fun a S=>Dl (⟨ys2,⟨i2 + 1,x3,⟨_,(hd2).trans (List.append_cons _ _ _),by simp [hi2]⟩,h,S.nf [true,true] rfl ⟨rfl,rfl,rfl,rfl,rfl,rfl,rfl,rfl,(congrArg (fun z=>some (Value.int .i64 z)) (Ib hd2 hi2 (Jp (Ge Di.enc_ok hs3)))),trivial⟩⟩,Nat.lt_succ_self _⟩)))
    clear S h;rintro a w9 ⟨x2,h,S⟩;rw [hj2] at h;clear hj2 j2
    refine Tn (Fr (Vm S rfl rfl fun a S=>lv S (Fb isAgg40 sizeOf40 (off:=0) (o:=0) (part:=(Du.enc y1)) rfl rfl (S.tm rfl) (S.cellsAt (i:=0) rfl)) rfl ?_));clear S;intro a S
    obtain ⟨r3,hr5,h⟩:=Fa h
    have hz6:=S.keep.size
    refine Eb S (fun _=>Dq (vs:=[.pointer (some ⟨U,0,none⟩),.agg (Du.enc y1).toArray]) ⟨(S.tm rfl),(S.tm rfl),trivial⟩ call27) (AX _ U Ae (R32.mk u1 (R28.mk u3 Ae.Table.Relay Ae.Table.Most) Ae.Final) ⟨u1,(R28.mk u3 Ae.Table.Relay Ae.Table.Most),rfl,(hs1.mono (S.le_arg Eg)),⟨u3,rfl,(hs2.mono (S.le_arg Eg))⟩⟩ Aq Al (Bd.mono (S.le_arg Eg)) ((S.le_arg Eg) _ _ As) y1 _ hr5) rfl ?_;clear S;intro v3 a w18 hv3 hk12 hn3 S
    obtain ⟨u5,rfl,ho2⟩:=hv3
    obtain ⟨φ3,hl3,hm4,S⟩:=S.see' hn3 hz6
    have hs4:=ho2.mono hm4
    refine Vm S rfl rfl fun a S=>Vq S Fu rfl rfl rfl fun a S=>Vq S Fu rfl rfl rfl fun a S=>Va S rfl rfl fun a S=>Va S rfl rfl fun a S=>Dl (Fs (Fr (Vm S rfl rfl ?_)));clear S;intro a S
    refine Vq S Mn rfl rfl rfl fun a S=>Ld ?_
    replace S:=S.d0.k8 0 5 12 13 29 30 31 70 rfl
    refine Tn (Fc h (S.tm rfl) (fun hb4 h=>?_) (fun hb4 h=>?_))
    ·refine Fr (Vm S rfl rfl fun a S=>Vk S rfl rfl fun a S=>Va S rfl rfl fun a S=>Dl (wp_ret (Dv (Gq (Dv ?_)))))
     refine Dv (Gq (Dv (Dv ?_)))
     obtain rfl:=Option.some.inj h
     exact Mq S results32 rfl rfl ⟨_,rfl,(Ro _ _ _)⟩
    ·refine wp_skip (Tn (Fr (Vm S rfl rfl fun a S=>lv S (Gi PE (S.tm rfl) (Gf (Ge Je.enc_ok hs4))) rfl fun a S=>lv S (Rm rfl) rfl fun a S=>Dl ?_)))
     replace S:=S.k8 0 5 29 30 31 72 73 74 rfl
     obtain ⟨j5,hj5,h⟩:=Eu h
     refine Eh (fun a w'=>∃ x5 : List (ByteArray × Dk),j5 x5 = some r ∧ Sx w [] φ3 [.map b1 (Fi Value.string (fun x=>Value.agg (Dk.enc x).toArray) x5) x5.length] [(0,.pointer (some ⟨U,0,none⟩)),(5,.map (some b1)),(29,u1.val),(30,iV (Ae.Races.length : Int)),(31,iV (i1 : Int))] 109 a w') ?_ ?_
     ·refine wp_block (Gr (fun (ys3 : List Je) a w'=>∃ i3 : Nat,∃ x5 : List (ByteArray × Dk),(∃ dn,r3.1 = dn ++ ys3 ∧ dn.length = i3) ∧ Np j5 ys3 i3 x5 = some r ∧ Sx w [] φ3 [.map b1 (Fi Value.string (fun x=>Value.agg (Dk.enc x).toArray) x5) x5.length] [(0,.pointer (some ⟨U,0,none⟩)),(5,.map (some b1)),(29,u1.val),(30,iV (Ae.Races.length : Int)),(31,iV (i1 : Int)),(72,u5),(73,iV (r3.1.length : Int)),(74,iV (i3 : Int))] 109 a w') List.length r3.1 ⟨0,x2,⟨[],rfl,rfl⟩,h,S.nf [true] rfl (subR rfl)⟩ ?_)
      clear S h;rintro ys3 a w19 ⟨i3,x5,⟨dn,hd3,hi3⟩,h,S⟩
      cases ys3 with
      | nil =>
       rw [Np.eq_1] at h
       refine Fr (Vb S Es rfl rfl rfl fun a S=>Ld ?_)
       replace S:=S.k9 0 5 29 30 31 72 73 74 75 rfl
       exact Tn (Fs (wp_cond_false ((S.tm rfl).trans (congrArg Value.bool (Jd hd3 hi3))) (wp_exit (Ed (Ed (Gn (Tn (⟨x5,h,S.nf [true] rfl (subR rfl)⟩))))))))
      | cons y3 ys3 =>
       rw [Np.eq_2] at h
       refine Fr (Vb S Es rfl rfl rfl fun a S=>Ld ?_)
       replace S:=S.k9 0 5 29 30 31 72 73 74 75 rfl
       refine Tn (Fs (wp_cond_true ((S.tm rfl).trans (congrArg Value.bool (Ia hd3 hi3))) (wp_skip (Tn (Fs ?_)))))
       obtain ⟨j6,hj6,h⟩:=Eu h
       refine Eh (fun a w'=>∃ x6 : List (ByteArray × Dk),j6 x6 = some r ∧ Sx w [] φ3 [.map b1 (Fi Value.string (fun x=>Value.agg (Dk.enc x).toArray) x6) x6.length] [(0,.pointer (some ⟨U,0,none⟩)),(5,.map (some b1)),(29,u1.val),(30,iV (Ae.Races.length : Int)),(31,iV (i1 : Int)),(72,u5),(73,iV (r3.1.length : Int)),(74,iV (i3 : Int))] 109 a w') ?_ ?_
       ·refine wp_block (Fs (Fg ?_))
        obtain ⟨b7,o3,hm5,hr6⟩:=Fk (a:=a) (x:=.tmp 72) (y:=.tmp 74) (ty:=0) PE (Ge Je.enc_ok hs4) (Jc hd3 hi3) rfl (S.tm rfl) (S.tm rfl)
        refine lv S (hr6 _) rfl ?_;clear S;intro a S
        clear hr6
        refine lv S (Fb isAgg50 sizeOf50 (off:=o3) (o:=0) (part:=(Je.enc y3)) rfl rfl (S.tm rfl) (hm5.at S.emb)) rfl fun a S=>Hq S zeroValue50 (cs:=[iV 0,sV An,sV An,iV 0,iV 0,iV 0,iV 0]) rfl rfl ?_;clear S;intro a w22 b8 hz7 hk13 S
        refine Ex S (S.tm rfl) (S.tm rfl) (i:=0) (off:=0) rfl sizeOf50 (vs:=(Je.enc y3)) rfl rfl rfl rfl ?_;clear S;intro w23 hk14 S
        refine Dz (Vf JD S rfl rfl fun a S=>Vl isAgg9 0 S rfl rfl rfl rfl fun a S=>Vq S Zv rfl rfl rfl fun a S=>Ld ?_)
        replace S:=(S.nl [.blk b8 (Je.enc y3) 50,.map b1 (Fi Value.string (fun x=>Value.agg (Dk.enc x).toArray) x5) x5.length] [true,true] rfl).k10 0 5 15 29 30 31 72 73 74 80 rfl
        refine Tn ?_
        obtain ⟨j7,hj7,h⟩:=Eu h
        refine Eh (fun a w'=>∃ x7 : List (ByteArray × Dk),j7 x7 = some r ∧ Sx w [] φ3 [.map b1 (Fi Value.string (fun x=>Value.agg (Dk.enc x).toArray) x7) x7.length] [(0,.pointer (some ⟨U,0,none⟩)),(5,.map (some b1)),(29,u1.val),(30,iV (Ae.Races.length : Int)),(31,iV (i1 : Int)),(72,u5),(73,iV (r3.1.length : Int)),(74,iV (i3 : Int))] 109 a w') ?_ ?_
        ·refine Fc h (S.tm rfl) (fun hb5 h=>?_) (fun hb5 h=>?_)
         ·obtain ⟨r4,hr7,h⟩:=Fa h
          refine Gt [10] ([]) Tryz.mixed S rfl (by kernel_rfl) ?_;clear S;intro w27 hk17 hsel S
          refine Ew 0 S hsel rfl rfl (by kernel_rfl) (by kernel_rfl) rfl (fun _=>(Rm (S.tm rfl))) fun a S=>Ew 1 S hsel rfl rfl (by kernel_rfl) (by kernel_rfl) rfl (fun _=>(Gd JD (S.tm rfl))) fun a S=>Ea 2 S hsel rfl (by kernel_rfl) (by kernel_rfl) (by kernel_rfl) (by kernel_rfl) rfl (fun _ hw=>(Hx isAgg9 (off:=0) (o:=2) (S.tm rfl) ((S.blk_mem (i:=0) (cells:=(Je.enc y3)) (b:=b8) (T:=50) rfl (Hg (e':=.blk b8 (Je.enc y3) 50))).kept hw) rfl)) fun a S=>Ew 3 S hsel rfl rfl (by kernel_rfl) (by kernel_rfl) rfl (fun _=>(Rm (S.tm rfl))) fun a S=>Ew 4 S hsel rfl rfl (by kernel_rfl) (by kernel_rfl) rfl (fun _=>(Gd JD (S.tm rfl))) fun a S=>Ea 5 S hsel rfl (by kernel_rfl) (by kernel_rfl) (by kernel_rfl) (by kernel_rfl) rfl (fun _ hw=>(Hx isAgg9 (off:=0) (o:=2) (S.tm rfl) ((S.blk_mem (i:=0) (cells:=(Je.enc y3)) (b:=b8) (T:=50) rfl (Hg (e':=.blk b8 (Je.enc y3) 50))).kept hw) rfl)) fun a S=>Ea 6 S hsel rfl (by kernel_rfl) (by kernel_rfl) (by kernel_rfl) (by kernel_rfl) rfl (fun _ hw=>(Pt (kv:=Value.string) (vv:=(fun x=>Value.agg (Dk.enc x).toArray)) (m:=x5) (key:=y3.Club) (z:=(Dk.mk 0 0)) (S.map_kept (i:=1) rfl (Hg (e':=.map b1 (Fi Value.string (fun x=>Value.agg (Dk.enc x).toArray) x5) x5.length)) hw) underlying78 (Lm underlying9) zeroValue48 (S.tm rfl) (S.tm rfl))) fun a S=>Ew 7 S hsel rfl rfl (by kernel_rfl) (by kernel_rfl) rfl (fun _=>(Gd fa_50_5 (S.tm rfl))) fun a S=>Ea 8 S hsel rfl (by kernel_rfl) (by kernel_rfl) (by kernel_rfl) (by kernel_rfl) rfl (fun _ hw=>(Fb isAgg48 sizeOf48 (off:=0) (o:=5) (part:=(Dk.enc y3.Points)) rfl rfl (S.tm rfl) ((S.blk_mem (i:=0) (cells:=(Je.enc y3)) (b:=b8) (T:=50) rfl (Hg (e':=.blk b8 (Je.enc y3) 50))).kept hw))) fun a S=>Hb 9 (by kernel_rfl) rfl ?_
          refine Eb S (fun _=>Dq (vs:=[.agg (Dk.enc (Ec x5 y3.Club (Dk.mk 0 0))).toArray,.agg (Dk.enc y3.Points).toArray]) ⟨(S.tm rfl),(S.tm rfl),trivial⟩ call77) (PO _ (Ec x5 y3.Club (Dk.mk 0 0)) y3.Points _ hr7) rfl ?_;clear S;intro v5 a w28 hv5 hk18 hn5 S
          subst hv5
          refine Ld (Hy hk18 (Vg 10 ([b1]) rfl (by kernel_rfl) rfl (Nm (kv:=Value.string) (vv:=(fun x=>Value.agg (Dk.enc x).toArray)) (m:=x5) (key:=y3.Club) (val:=r4) S (i:=1) rfl underlying78 (Lm underlying9) (S.tm rfl) (S.tm rfl) (S.tm rfl) ?_)));clear S;intro w29 hk19 S
          refine Ld (Vh (Vt (by kernel_rfl) ?_))
          clear hsel
          replace S:=(S.nl [.map b1 (Fi Value.string (fun x=>Value.agg (Dk.enc x).toArray) (Gk x5 y3.Club r4)) (Gk x5 y3.Club r4).length] [false,true] rfl).k8 0 5 29 30 31 72 73 74 rfl
          exact Tn (⟨(Gk x5 y3.Club r4),h,S.nf [true] rfl (subR rfl)⟩)
         ·exact wp_skip (Tn (⟨x5,h,S.nf [false,true] rfl (subR rfl)⟩))
        clear S h;rintro a w24 ⟨x7,h,S⟩;rw [hj7] at h;clear hj7 j7
        exact Hp (Tn (⟨x7,h,S.nf [true] rfl (subR rfl)⟩))
       clear S h;rintro a w21 ⟨x6,h,S⟩;rw [hj6] at h;clear hj6 j6
       exact Tn (Fg (Vq S Gc rfl rfl rfl fun a S=>Vm S rfl rfl fun a S=>Dl (⟨ys3,⟨i3 + 1,x6,⟨_,(hd3).trans (List.append_cons _ _ _),by simp [hi3]⟩,h,S.nf [true] rfl ⟨rfl,rfl,rfl,rfl,rfl,rfl,rfl,(congrArg (fun z=>some (Value.int .i64 z)) (Ib hd3 hi3 (Jp (Ge Je.enc_ok hs4)))),trivial⟩⟩,Nat.lt_succ_self _⟩)))
     clear S h;rintro a w20 ⟨x5,h,S⟩;rw [hj5] at h;clear hj5 j5
     exact Hp (Tn (Fg (Vq S Gc rfl rfl rfl fun a S=>Vm S rfl rfl fun a S=>Dl (⟨ys1,⟨i1 + 1,x5,φ3,⟨_,(hd1).trans (List.append_cons _ _ _),by simp [hi1]⟩,h,(View.le_trans hl1 (View.le_trans hl2 hl3)),S.nf [true] rfl ⟨rfl,rfl,rfl,rfl,(congrArg (fun z=>some (Value.int .i64 z)) (Ib hd1 hi1 (Jp hs1))),trivial⟩⟩,Nat.lt_succ_self _⟩))))
  clear S h;rintro a w4 ⟨x1,φ1,h,hl1,S⟩;rw [hj1] at h;clear hj1 j1
  refine Tn (Fr (Vk S rfl rfl ?_));clear S;intro a S
  replace S:=S.nil 58 3
  refine Dl (Fs (Fr (Vm S rfl rfl fun a S=>NH (es:=Fi Value.string (fun x=>Value.agg (Dk.enc x).toArray) x1) (clk:=x1.length) S (S.map_at (i:=1) rfl) underlying78 (S.tm rfl) rfl ?_)));clear S;intro a w30 b9 hz8 hk20 S
  refine Dl ?_
  replace S:=(S.nl [.iter b9 b1 x1.length #[] x1.length,.own (.slice none 0 0) 58 3 ([] : List Dm).length (([] : List Dm).flatMap Dm.enc),.map b1 (Fi Value.string (fun x=>Value.agg (Dk.enc x).toArray) x1) x1.length] [true,true,true] rfl).k2 16 94 rfl
  obtain ⟨j8,hj8,h⟩:=Eu h
  replace h:=allE h
  refine Eh (fun a w'=>∃ x8 : List Dm,∃ v6 : Value,j8 x8 = some r ∧ Sx w [] φ1 [.own v6 58 3 x8.length (x8.flatMap Dm.enc),.map b1 (Fi Value.string (fun x=>Value.agg (Dk.enc x).toArray) x1) x1.length] [(16,v6)] 109 a w') ?_ ?_
  ·refine wp_block (Gr (fun (q : List (ByteArray × Dk)) a w'=>∃ x8 : List Dm,∃ v6 : Value,∃ sn1 : Array Nat,CB x1 sn1 = q ∧ (∀ p,p.Perm q → Nq j8 p x8 = some r) ∧ Sx w [] φ1 [.iter b9 b1 x1.length sn1 x1.length,.own v6 58 3 x8.length (x8.flatMap Dm.enc),.map b1 (Fi Value.string (fun x=>Value.agg (Dk.enc x).toArray) x1) x1.length] [(16,v6),(94,.pointer (some ⟨b9,0,none⟩))] 109 a w') List.length x1 ⟨([] : List Dm),(.slice none 0 0),#[],(SU _),h,S.nf [true,true,true] rfl (subR rfl)⟩ ?_)
   clear S h;rintro q a w31 ⟨x8,v6,sn1,hq,h,S⟩
   refine Fr (WY (kv:=Value.string) (vv:=(fun x=>Value.agg (Dk.enc x).toArray)) (m:=x1) S (i:=0) rfl (S.map_at (i:=2) rfl) (S.tm rfl) rfl ?_ ?_)
   ·intro hn6;clear S;intro a S
    replace h:=JM h (hq.symm.trans hn6)
    rw [Nq.eq_1] at h
    refine Vq S Fu rfl rfl rfl fun a S=>Ld ?_
    replace S:=S.k3 16 94 96 rfl
    exact Tn (Fs (wp_cond_false (S.tm rfl) (wp_exit (Ed (Ed (Gn (Tn (⟨x8,v6,h,S.nf [false,true,true] rfl ⟨rfl,trivial⟩⟩))))))))
   ·clear S;intro y4 sn2 a w33 hp1 hl4 hk21 S
    obtain ⟨sq1,h,hn7⟩:=HB h (by rw [← hq];exact hp1) (fun _=>rfl)
    refine Vq S Fu rfl rfl rfl fun a S=>Ld ?_
    replace S:=(S.nl [.iter b9 b1 x1.length sn2 x1.length,.own v6 58 3 x8.length (x8.flatMap Dm.enc),.map b1 (Fi Value.string (fun x=>Value.agg (Dk.enc x).toArray) x1) x1.length] [true,true,true] rfl).k3 16 94 96 rfl
    refine Tn (Fs (wp_cond_true (S.tm rfl) (wp_skip (Tn (wp_block (Fr (lv S (OV (kv:=Value.string) (vv:=(fun x=>Value.agg (Dk.enc x).toArray)) (m:=x1) (e:=y4) (S.holds _ (List.mem_of_getElem? (i:=0) rfl)) (S.map_at (i:=2) rfl) hl4 (S.tm rfl)) rfl fun a S=>Vq S Fu rfl rfl rfl fun a S=>Vq S Fu rfl rfl rfl ?_)))))));clear S;intro a S
    refine Hq S zeroValue48 (cs:=[iV 0,iV 0]) rfl rfl ?_;clear S;intro a w34 b10 hz9 hk22 S
    refine Va S rfl rfl fun a S=>Ex S (S.tm rfl) (S.tm rfl) (i:=0) (off:=0) rfl sizeOf48 (vs:=(Dk.enc y4.2)) rfl rfl rfl rfl ?_;clear S;intro w35 hk23 S
    refine Dl (Fg (Vm S rfl rfl fun a S=>Vm S rfl rfl fun a S=>lv S (Fb isAgg48 sizeOf48 (off:=0) (o:=0) (part:=(Dk.enc y4.2)) rfl rfl (S.tm rfl) (S.cellsAt (i:=0) rfl)) rfl fun a S=>lv S (Nl XJ (pv:=[(0,sV y4.1),(1,.agg #[iV y4.2.Num,iV y4.2.Den])]) ⟨rfl,(S.tm rfl),rfl,(S.tm rfl),trivial⟩ (cs:=[sV y4.1,iV y4.2.Num,iV y4.2.Den]) (by kernel_rfl)) rfl fun a S=>Ey S underlying53 sizeOf58 zeroValue58 rfl rfl (pv:=[(0,.agg #[sV y4.1,iV y4.2.Num,iV y4.2.Den])]) ⟨rfl,(S.tm rfl),trivial⟩ (cs:=[sV y4.1,iV y4.2.Num,iV y4.2.Den]) (by kernel_rfl) rfl ?_));clear S;intro a w36 b11 hz10 hk24 S
    obtain ⟨hc1,h⟩:=Ig h
    refine Ni Ss Dm.enc_ok S (S.tm rfl) (i:=3) rfl (S.tm rfl) (j:=0) rfl (ys:=[(Dm.mk y4.1 y4.2)]) rfl rfl rfl rfl (by have:=Nu hc1;omega) rfl ?_;clear S;intro v7 a w37 hk25 S
    refine Va S rfl rfl fun a S=>Ld (Hp (Tn ?_))
    obtain rfl:=Option.some.inj h
    exact ⟨CB x1 sn2,⟨(x8 ++ [(Dm.mk y4.1 y4.2)]),v7,sn2,rfl,hn7,S.nf [false,false,true,true,true] rfl (subR rfl)⟩,by have:=hp1.length_eq;rw [hq] at this;simp only [List.length_cons] at this;omega⟩
  clear S h;rintro a w32 ⟨x8,v6,h,S⟩;rw [hj8] at h;clear hj8 j8
  refine Tn (Fr (Vm S rfl rfl ?_));clear S;intro a S
  obtain ⟨r5,hr8,h⟩:=Fa h
  refine Mj 0 S rfl (fun _=>.own v6 58 3 r5.length (r5.flatMap Dm.enc)) (fun _=>Dq (vs:=[v6,.func (.func 78) #[] #[]]) ⟨(S.tm rfl),rfl,trivial⟩ call66) (Us _ v6 x8 (S.holds _ (List.mem_of_getElem? (i:=0) rfl)) _ hr8) rfl (fun _ _ _ h=>⟨h.1,fun _ hc=>hc⟩) ?_;clear S;intro v8 a w38 hv6 hk26 hn8 S
  replace hv6:=hv6.2
  subst hv6
  refine Dz (Vm S rfl rfl fun a S=>Va S rfl rfl fun a S=>Vk S rfl rfl fun a S=>Dl (wp_ret ?_))
  obtain rfl:=Option.some.inj h
  exact Mq S results32 rfl rfl ⟨_,rfl,(Ut S (i:=0) rfl rfl)⟩
theorem LL (w : World) (Ad : Jr) (Cc : R32) (Cj : Tt (view w []) Ad Cc) (Ac : Value) (Aj : List Di) (Ai : Slc (view w []) 11 Ac (Aj.map Di.enc)) (Bg : Int) (r : (List Dm) × Int) (h : Zh Ad Aj Bg = some r) :
    Calls prog 12 [.agg (R32.enc Cc).toArray,Ac,iV Bg].toArray w (Ret w [] fun τ v _=>∃ u1 : Value,v = .tuple #[u1,iV r.2] ∧ Uq τ 58 3 u1 r.1.length (r.1.flatMap Dm.enc)):=by
 obtain ⟨u1,u2,rfl,hs1,⟨u3,rfl,hs2⟩⟩:=Cj
 refine Fe func12 rfl ntmps12 rfl fun a S=>?_
 unfold Zh at h
 replace S:=S.k3 0 1 2 rfl
 refine Fr (Lw S (S.tm rfl) (cs:=[u1.val,u3.val,iV Ad.Table.Relay,iV Ad.Table.Most,iV Ad.Final.Size,iV Ad.Final.Many,iV Ad.Final.Reserves]) rfl rfl ?_);clear S;intro a w1 b1 hz1 hk1 S
 refine Vk S rfl rfl fun a S=>Vk S rfl rfl fun a S=>Dz (lv S (Fb isAgg32 sizeOf32 (off:=0) (o:=0) (part:=[u1.val,u3.val,iV Ad.Table.Relay,iV Ad.Table.Most,iV Ad.Final.Size,iV Ad.Final.Many,iV Ad.Final.Reserves]) rfl rfl (S.tm rfl) (S.cellsAt (i:=0) rfl)) rfl fun a S=>Vm S rfl rfl fun a S=>Vm S rfl rfl fun a S=>Ey S underlying22 sizeOf3 zeroValue3 rfl rfl (pv:=[(0,iV Bg)]) ⟨rfl,(S.tm rfl),trivial⟩ (cs:=[iV Bg]) (by kernel_rfl) rfl ?_);clear S;intro a w2 b2 hz2 hk2 S
 replace S:=S.litOwn (i:=0) (xs:=[Bg]) rfl Jf rfl rfl rfl
 replace S:=S.nk [.own (.slice (some ⟨b2,0,none⟩) 1 1) 3 1 ([Bg] : List Int).length (([Bg] : List Int).flatMap eInt),.blk b1 [u1.val,u3.val,iV Ad.Table.Relay,iV Ad.Table.Most,iV Ad.Final.Size,iV Ad.Final.Many,iV Ad.Final.Reserves] 32] [(0,.agg #[u1.val,u3.val,iV Ad.Table.Relay,iV Ad.Table.Most,iV Ad.Final.Size,iV Ad.Final.Many,iV Ad.Final.Reserves]),(1,Ac),(2,iV Bg),(3,.pointer (some ⟨b1,0,none⟩)),(6,.slice none 0 0),(7,iV 0),(11,.agg #[u1.val,u3.val,iV Ad.Table.Relay,iV Ad.Table.Most,iV Ad.Final.Size,iV Ad.Final.Many,iV Ad.Final.Reserves]),(12,Ac),(13,iV Bg),(14,(.slice (some ⟨b2,0,none⟩) 1 1))] [] rfl (subR rfl)
 obtain ⟨φ1,hl1,hs3,S⟩:=S.freezeT (xs:=([Bg] : List Int)) (enc:=eInt) (i:=0) rfl (fun _ h=>by cases h)
 replace S:=S.nk [.blk b1 [u1.val,u3.val,iV Ad.Table.Relay,iV Ad.Table.Most,iV Ad.Final.Size,iV Ad.Final.Many,iV Ad.Final.Reserves] 32] [(0,.agg #[u1.val,u3.val,iV Ad.Table.Relay,iV Ad.Table.Most,iV Ad.Final.Size,iV Ad.Final.Many,iV Ad.Final.Reserves]),(1,Ac),(2,iV Bg),(3,.pointer (some ⟨b1,0,none⟩)),(6,.slice none 0 0),(7,iV 0),(11,.agg #[u1.val,u3.val,iV Ad.Table.Relay,iV Ad.Table.Most,iV Ad.Final.Size,iV Ad.Final.Many,iV Ad.Final.Reserves]),(12,Ac),(13,iV Bg),(14,(.slice (some ⟨b2,0,none⟩) 1 1))] [] rfl (subR rfl)
 obtain ⟨r1,hr1,h⟩:=Fa h
 have hz3:=S.keep.size
 refine Eb S (fun _=>Dq (vs:=[.agg (R32.enc (R32.mk u1 (R28.mk u3 Ad.Table.Relay Ad.Table.Most) Ad.Final)).toArray,Ac,(.slice (some ⟨b2,0,none⟩) 1 1)]) ⟨(S.tm rfl),(S.tm rfl),(S.tm rfl),trivial⟩ call31) (GH _ (join (view w []) φ1) (Pw (S.le_arg Eg) (S.le_new Eg)) Ad (R32.mk u1 (R28.mk u3 Ad.Table.Relay Ad.Table.Most) Ad.Final) ⟨u1,(R28.mk u3 Ad.Table.Relay Ad.Table.Most),rfl,(hs1.mono (le_join_left _ _)),⟨u3,rfl,(hs2.mono (le_join_left _ _))⟩⟩ Ac Aj (Ai.mono (le_join_left _ _)) (.slice (some ⟨b2,0,none⟩) 1 1) ([Bg] : List Int) ((Ge Jf hs3).mono (S.all_right (View.le_refl _))) _ hr1) rfl ?_;clear S;intro v1 a w3 hv1 hk3 hn1 S
 obtain ⟨u4,rfl,ho1⟩:=hv1
 obtain ⟨φ2,hl2,hm1,S⟩:=S.see' hn1 hz3
 have hq1:=CU.mono (Sg (Tx hl2 hm1)) (Tx hl2 hm1) ho1
 refine Vm S rfl rfl fun a S=>Vq S Fu rfl rfl rfl fun a S=>Vq S Fu rfl rfl rfl fun a S=>Va S rfl rfl fun a S=>Va S rfl rfl fun a S=>Ld ?_
 replace S:=S.n0.k2 8 9 rfl
 refine Tn (Fs (Fr (Vm S rfl rfl fun a S=>Vq S Mn rfl rfl rfl fun a S=>Dl (Fc h (S.tm rfl) (fun hb1 h=>?_) (fun hb1 h=>?_)))))
 ·refine Fr (Vm S rfl rfl fun a S=>Vk S rfl rfl fun a S=>Va S rfl rfl fun a S=>Dl (wp_ret (Dv ?_)))
  obtain rfl:=Option.some.inj h
  exact Mq S results12 rfl rfl ⟨_,rfl,(Ro _ _ _)⟩
 ·refine wp_skip (Tn (Fr (Vm S rfl rfl ?_)));clear S;intro a S
  obtain ⟨r2,hr2,h⟩:=Fa h
  obtain ⟨b3,q1,rfl,hq2,hb2⟩:=hq1.deref hr2
  obtain ⟨u5,u9,rfl,⟨u6,u7,rfl,hs4,⟨u8,rfl,hs5⟩⟩,hs6⟩:=hq2
  replace hb2 : (join (view w []) φ2) b3 = some (.cells [u6.val,u8.val,iV r2.p_.Table.Relay,iV r2.p_.Table.Most,iV r2.p_.Final.Size,iV r2.p_.Final.Many,iV r2.p_.Final.Reserves,u9.val].toArray 133 (0,0)):=hb2
  obtain ⟨r3,hr3,h⟩:=Fa h
  have hz4:=S.keep.size
  refine Eb S (fun _=>Dq (vs:=[.pointer (some ⟨b3,0,none⟩)]) ⟨(S.tm rfl),trivial⟩ call32) (JY _ b3 r2.p_ (R32.mk u6 (R28.mk u8 r2.p_.Table.Relay r2.p_.Table.Most) r2.p_.Final) ⟨u6,(R28.mk u8 r2.p_.Table.Relay r2.p_.Table.Most),rfl,(hs4.mono (Pw (S.le_arg Eg) (S.le_new Eg))),⟨u8,rfl,(hs5.mono (Pw (S.le_arg Eg) (S.le_new Eg)))⟩⟩ u9.val r2.deeds_ (hs6.mono (Pw (S.le_arg Eg) (S.le_new Eg))) ((Pw (S.le_arg Eg) (S.le_new Eg)) _ _ hb2) _ hr3) rfl ?_;clear S;intro v2 a w4 hv2 hk4 hn2 S
  obtain ⟨u10,rfl,ho2⟩:=hv2
  obtain ⟨φ3,hl3,hm2,S⟩:=S.see' hn2 hz4
  have hs7:=ho2.mono hm2
  refine Vq S Fu rfl rfl rfl fun a S=>Vq S Fu rfl rfl rfl fun a S=>Va S rfl rfl fun a S=>Va S rfl rfl fun a S=>Dl (wp_ret ?_)
  obtain rfl:=Option.some.inj h
  exact Mq S results12 rfl rfl ⟨_,rfl,((hs7).mono S.le_newer)⟩
theorem Wr (w : World) (Dc : Dm) (By : Nat) (Bj : Dm) (Bz : (view w []) By = some (.cells [sV Bj.Key,iV Bj.Points.Num,iV Bj.Points.Den].toArray 58 (0,0))) (r : Bool) (h : Ny Dc Bj = r) :
    Calls prog 14 [.agg (Dm.enc Dc).toArray,.pointer (some ⟨By,0,none⟩)].toArray w (Ret w [] fun _ v _=>v = bV r):=by
 refine Fe func14 rfl ntmps14 rfl fun a S=>?_
 unfold Ny at h
 replace S:=S.k2 0 1 rfl
 refine Fr (Lw S (S.tm rfl) (cs:=(Dm.enc Dc)) rfl rfl ?_);clear S;intro a w1 b1 hz1 hk1 S
 refine Vk S rfl rfl fun a S=>Dz (Vf Yw S rfl rfl fun a S=>Vl isAgg9 0 S rfl rfl rfl rfl fun a S=>Vf Yw S rfl rfl fun a S=>lv S (Hx isAgg9 (off:=0) (o:=0) (S.tm rfl) ((Sc Bz).at S.emb0) rfl) rfl fun a S=>Vb S Xy rfl rfl rfl fun a S=>Va S rfl rfl ?_);clear S;intro a S
 refine Dl (wp_ret ?_)
 subst h
 exact Et S results14 rfl rfl
theorem Qi (w : World) (Ax : Value) (Ba : List Dm) (Bf : Slc (view w []) 3 Ax (Ba.map Dm.enc)) (Az : Nat) (Aw : Dm) (Bh : (view w []) Az = some (.cells [sV Aw.Key,iV Aw.Points.Num,iV Aw.Points.Den].toArray 58 (0,0))) (r : Int) (h : Dx Ba Aw = r) :
    Calls prog 13 [Ax,.func (.func 14) #[] #[.pointer (some ⟨Az,0,none⟩)]].toArray w (Ret w [] fun _ v _=>v = iV r):=by
 refine Fe func13 rfl ntmps13 rfl fun a S=>?_
 unfold Dx at h
 replace S:=S.k2 0 1 rfl
 refine Fr (Vk S rfl rfl fun a S=>Dl (Fs (Fr (Vm S rfl rfl fun a S=>lv S (Gi Ss (S.tm rfl) (Gf Bf)) rfl fun a S=>lv S (Rm rfl) rfl ?_))));clear S;intro a S
 refine Dl ?_
 replace S:=S.k4 0 1 7 8 rfl
 obtain ⟨j1,hj1,h⟩:=Eu h
 refine Eh (fun a w'=>j1 = r ∧ Sx w [] nov [] [] 19 a w') ?_ ?_
 ·refine wp_block (Gr (fun (ys1 : List Dm) a w'=>∃ i1 : Nat,(∃ dn,Ba = dn ++ ys1 ∧ dn.length = i1) ∧ Ei Aw j1 ys1 i1 = r ∧ Sx w [] nov [] [(0,Ax),(1,.func (.func 14) #[] #[.pointer (some ⟨Az,0,none⟩)]),(7,iV (Ba.length : Int)),(8,iV (i1 : Int))] 19 a w') List.length Ba ⟨0,⟨[],rfl,rfl⟩,h,S.nf [] rfl (subR rfl)⟩ ?_)
  clear S h;rintro ys1 a w1 ⟨i1,⟨dn,hd1,hi1⟩,h,S⟩
  cases ys1 with
  | nil =>
   rw [Ei.eq_1] at h
   refine Fr (Vb S Es rfl rfl rfl fun a S=>Ld ?_)
   replace S:=S.k5 0 1 7 8 9 rfl
   exact Tn (Fs (wp_cond_false ((S.tm rfl).trans (congrArg Value.bool (Jd hd1 hi1))) (wp_exit (Ed (Ed (Gn (Tn (⟨h,S.nf [] rfl trivial⟩))))))))
  | cons y1 ys1 =>
   rw [Ei.eq_2] at h
   refine Fr (Vb S Es rfl rfl rfl fun a S=>Ld ?_)
   replace S:=S.k5 0 1 7 8 9 rfl
   refine Tn (Fs (wp_cond_true ((S.tm rfl).trans (congrArg Value.bool (Ia hd1 hi1))) (wp_skip (Tn (Fs (wp_block (Fr (Vm S rfl rfl fun a S=>Va S rfl rfl ?_))))))));clear S;intro a S
   refine Dl (Fs (Fg ?_))
   iterate 3 (refine Vm S rfl rfl ?_;clear S;intro a S)
   obtain ⟨b1,o1,hm1,hr1⟩:=Fk (a:=a) (x:=.tmp 12) (y:=.tmp 13) (ty:=0) Ss Bf (Jc hd1 hi1) rfl (S.tm rfl) (S.tm rfl)
   refine lv S (hr1 _) rfl ?_;clear S;intro a S
   clear hr1
   refine lv S (Fb isAgg58 sizeOf58 (off:=o1) (o:=0) (part:=(Dm.enc y1)) rfl rfl (S.tm rfl) (hm1.at S.emb0)) rfl fun a S=>Eb S (fun _=>Rf (cap:=[.pointer (some ⟨Az,0,none⟩)]) (S.tm rfl) (vs:=[.agg (Dm.enc y1).toArray]) ⟨(S.tm rfl),trivial⟩ call14) (Wr _ y1 Az Aw ((S.le_arg Eg) _ _ Bh) _ rfl) rfl ?_;clear S;intro v1 a w3 hv1 hk1 hn1 S
   subst hv1
   refine Dl (Fc h (S.tm rfl) (fun hb1 h=>?_) (fun hb1 h=>?_))
   ·refine Fr (Vm S rfl rfl fun a S=>Va S rfl rfl fun a S=>Ld ?_)
    replace S:=S.k1 4 rfl
    refine Tn (wp_ret (Gq (Dv (Dv (Gq (Dv (Dv ?_)))))))
    subst h
    exact Et S results13 rfl rfl
   ·exact wp_skip (Hp (Tn (Fg (Vq S Gc rfl rfl rfl fun a S=>Vm S rfl rfl fun a S=>Dl (⟨ys1,⟨i1 + 1,⟨_,(hd1).trans (List.append_cons _ _ _),by simp [hi1]⟩,h,S.nf [] rfl ⟨rfl,rfl,rfl,(congrArg (fun z=>some (Value.int .i64 z)) (Ib hd1 hi1 (Jp Bf))),trivial⟩⟩,Nat.lt_succ_self _⟩)))))
 clear S h;rintro a w2 ⟨h,S⟩;rw [hj1] at h;clear hj1 j1
 refine Tn (Fr (Vk S rfl rfl fun a S=>Dl (wp_ret ?_)))
 subst h
 exact Et S results13 rfl rfl
theorem Ws (w : World) (Dc : Dm) (By : Nat) (Bj : Dm) (Bz : (view w []) By = some (.cells [sV Bj.Key,iV Bj.Points.Num,iV Bj.Points.Den].toArray 58 (0,0))) (r : Bool) (h : Nz Dc Bj = r) :
    Calls prog 16 [.agg (Dm.enc Dc).toArray,.pointer (some ⟨By,0,none⟩)].toArray w (Ret w [] fun _ v _=>v = bV r):=by
 refine Fe func16 rfl ntmps16 rfl fun a S=>?_
 unfold Nz at h
 replace S:=S.k2 0 1 rfl
 refine Fr (Lw S (S.tm rfl) (cs:=(Dm.enc Dc)) rfl rfl ?_);clear S;intro a w1 b1 hz1 hk1 S
 refine Vk S rfl rfl fun a S=>Dz (Vf Yw S rfl rfl fun a S=>Vl isAgg9 0 S rfl rfl rfl rfl fun a S=>Vf Yw S rfl rfl fun a S=>lv S (Hx isAgg9 (off:=0) (o:=0) (S.tm rfl) ((Sc Bz).at S.emb0) rfl) rfl fun a S=>Vb S Xy rfl rfl rfl fun a S=>Va S rfl rfl ?_);clear S;intro a S
 refine Dl (wp_ret ?_)
 subst h
 exact Et S results16 rfl rfl
theorem Qj (w : World) (Ax : Value) (Ba : List Dm) (Bf : Slc (view w []) 3 Ax (Ba.map Dm.enc)) (Az : Nat) (Aw : Dm) (Bh : (view w []) Az = some (.cells [sV Aw.Key,iV Aw.Points.Num,iV Aw.Points.Den].toArray 58 (0,0))) (r : Int) (h : Ja Ba Aw = r) :
    Calls prog 13 [Ax,.func (.func 16) #[] #[.pointer (some ⟨Az,0,none⟩)]].toArray w (Ret w [] fun _ v _=>v = iV r):=by
 refine Fe func13 rfl ntmps13 rfl fun a S=>?_
 unfold Ja at h
 replace S:=S.k2 0 1 rfl
 refine Fr (Vk S rfl rfl fun a S=>Dl (Fs (Fr (Vm S rfl rfl fun a S=>lv S (Gi Ss (S.tm rfl) (Gf Bf)) rfl fun a S=>lv S (Rm rfl) rfl ?_))));clear S;intro a S
 refine Dl ?_
 replace S:=S.k4 0 1 7 8 rfl
 obtain ⟨j1,hj1,h⟩:=Eu h
 refine Eh (fun a w'=>j1 = r ∧ Sx w [] nov [] [] 19 a w') ?_ ?_
 ·refine wp_block (Gr (fun (ys1 : List Dm) a w'=>∃ i1 : Nat,(∃ dn,Ba = dn ++ ys1 ∧ dn.length = i1) ∧ En Aw j1 ys1 i1 = r ∧ Sx w [] nov [] [(0,Ax),(1,.func (.func 16) #[] #[.pointer (some ⟨Az,0,none⟩)]),(7,iV (Ba.length : Int)),(8,iV (i1 : Int))] 19 a w') List.length Ba ⟨0,⟨[],rfl,rfl⟩,h,S.nf [] rfl (subR rfl)⟩ ?_)
  clear S h;rintro ys1 a w1 ⟨i1,⟨dn,hd1,hi1⟩,h,S⟩
  cases ys1 with
  | nil =>
   rw [En.eq_1] at h
   refine Fr (Vb S Es rfl rfl rfl fun a S=>Ld ?_)
   replace S:=S.k5 0 1 7 8 9 rfl
   exact Tn (Fs (wp_cond_false ((S.tm rfl).trans (congrArg Value.bool (Jd hd1 hi1))) (wp_exit (Ed (Ed (Gn (Tn (⟨h,S.nf [] rfl trivial⟩))))))))
  | cons y1 ys1 =>
   rw [En.eq_2] at h
   refine Fr (Vb S Es rfl rfl rfl fun a S=>Ld ?_)
   replace S:=S.k5 0 1 7 8 9 rfl
   refine Tn (Fs (wp_cond_true ((S.tm rfl).trans (congrArg Value.bool (Ia hd1 hi1))) (wp_skip (Tn (Fs (wp_block (Fr (Vm S rfl rfl fun a S=>Va S rfl rfl ?_))))))));clear S;intro a S
   refine Dl (Fs (Fg ?_))
   iterate 3 (refine Vm S rfl rfl ?_;clear S;intro a S)
   obtain ⟨b1,o1,hm1,hr1⟩:=Fk (a:=a) (x:=.tmp 12) (y:=.tmp 13) (ty:=0) Ss Bf (Jc hd1 hi1) rfl (S.tm rfl) (S.tm rfl)
   refine lv S (hr1 _) rfl ?_;clear S;intro a S
   clear hr1
   refine lv S (Fb isAgg58 sizeOf58 (off:=o1) (o:=0) (part:=(Dm.enc y1)) rfl rfl (S.tm rfl) (hm1.at S.emb0)) rfl fun a S=>Eb S (fun _=>Rf (cap:=[.pointer (some ⟨Az,0,none⟩)]) (S.tm rfl) (vs:=[.agg (Dm.enc y1).toArray]) ⟨(S.tm rfl),trivial⟩ call16) (Ws _ y1 Az Aw ((S.le_arg Eg) _ _ Bh) _ rfl) rfl ?_;clear S;intro v1 a w3 hv1 hk1 hn1 S
   subst hv1
   refine Dl (Fc h (S.tm rfl) (fun hb1 h=>?_) (fun hb1 h=>?_))
   ·refine Fr (Vm S rfl rfl fun a S=>Va S rfl rfl fun a S=>Ld ?_)
    replace S:=S.k1 4 rfl
    refine Tn (wp_ret (Gq (Dv (Dv (Gq (Dv (Dv ?_)))))))
    subst h
    exact Et S results13 rfl rfl
   ·exact wp_skip (Hp (Tn (Fg (Vq S Gc rfl rfl rfl fun a S=>Vm S rfl rfl fun a S=>Dl (⟨ys1,⟨i1 + 1,⟨_,(hd1).trans (List.append_cons _ _ _),by simp [hi1]⟩,h,S.nf [] rfl ⟨rfl,rfl,rfl,(congrArg (fun z=>some (Value.int .i64 z)) (Ib hd1 hi1 (Jp Bf))),trivial⟩⟩,Nat.lt_succ_self _⟩)))))
 clear S h;rintro a w2 ⟨h,S⟩;rw [hj1] at h;clear hj1 j1
 refine Tn (Fr (Vk S rfl rfl fun a S=>Dl (wp_ret ?_)))
 subst h
 exact Et S results13 rfl rfl
theorem Pp (w : World) (Ax : Value) (Ba : List Dm) (Bf : Slc (view w []) 3 Ax (Ba.map Dm.enc)) (Az : Nat) (Aw : Dm) (Bh : (view w []) Az = some (.cells [sV Aw.Key,iV Aw.Points.Num,iV Aw.Points.Den].toArray 58 (0,0))) (r : Bool) (h : Hr Ba Aw = r) :
    Calls prog 15 [Ax,.func (.func 16) #[] #[.pointer (some ⟨Az,0,none⟩)]].toArray w (Ret w [] fun _ v _=>v = bV r):=by
 refine Fe func15 rfl ntmps15 rfl fun a S=>?_
 unfold Hr at h
 replace S:=S.k2 0 1 rfl
 refine Fr (Vk S rfl rfl fun a S=>Dz (Vm S rfl rfl fun a S=>Vm S rfl rfl fun a S=>Eb S (fun _=>Dq (vs:=[Ax,.func (.func 16) #[] #[.pointer (some ⟨Az,0,none⟩)]]) ⟨(S.tm rfl),(S.tm rfl),trivial⟩ call13) (Qj _ Ax Ba (Bf.mono (S.le_arg Eg)) Az Aw ((S.le_arg Eg) _ _ Bh) _ rfl) rfl ?_));clear S;intro v1 a w1 hv1 hk1 hn1 S
 subst hv1
 refine Vq S Rl rfl rfl rfl fun a S=>Va S rfl rfl fun a S=>Dl (wp_ret ?_)
 subst h
 exact Et S results15 rfl rfl
theorem CE (w : World) (Bo : Int) (r : Bool) (h : Yt Bo = r) :
    Calls prog 123 [iV Bo].toArray w (Ret w [] fun _ v _=>v = bV r):=by
 refine Fe func123 rfl ntmps123 rfl fun a S=>?_
 unfold Yt at h
 replace S:=S.k1 0 rfl
 refine Fr (Vk S rfl rfl fun a S=>Dz (Vm S rfl rfl fun a S=>lv S (CM (S.tm rfl) rfl (by decide)) rfl fun a S=>Vq S Jk rfl rfl rfl fun a S=>Vm S rfl rfl ?_));clear S;intro a S
 refine Iy 9 (fun a w'=>Keep [] w w' ∧ Sx w [] nov [] [(15,bV ((decide ((Int.tmod Bo 4) = 0)) && ((!decide ((Int.tmod Bo 100) = 0)) || (decide ((Int.tmod Bo 400) = 0)))))] 16 a w') ?_ ?_
 ·rcases Bool.eq_false_or_eq_true (decide ((Int.tmod Bo 4) = 0)) with hb1 | hb1
  ·refine Dy S rfl rfl rfl hb1 (Vm S rfl rfl fun a S=>Dy S rfl rfl rfl hb1 (lv S (CM (S.tm rfl) rfl (by decide)) rfl fun a S=>Dy S rfl rfl rfl hb1 (Vq S Mn rfl rfl rfl fun a S=>Dy S rfl rfl rfl hb1 (Vm S rfl rfl fun a S=>Iy 4 (fun a w'=>Keep [] w w' ∧ Sx w [] nov [] [(6,bV (decide ((Int.tmod Bo 4) = 0))),(14,bV ((!decide ((Int.tmod Bo 100) = 0)) || (decide ((Int.tmod Bo 400) = 0))))] 16 a w') ?_ ?_))))
   ·rcases Bool.eq_false_or_eq_true (!decide ((Int.tmod Bo 100) = 0)) with hb2 | hb2
    ·iterate 3 (refine Ht S rfl rfl rfl (Oa hb2) rfl ?_ rfl;clear S;intro a S)
     exact Dy S rfl rfl rfl hb1 (lv S (Mo (decide ((Int.tmod Bo 400) = 0)) hb2 (S.tm rfl) rfl) rfl fun a S=>Dl (⟨Keep.refl _ _,S.nf [] rfl (subR rfl)⟩))
    ·exact Dy S rfl rfl rfl hb2 (Vm S rfl rfl fun a S=>Dy S rfl rfl rfl hb2 (lv S (CM (S.tm rfl) rfl (by decide)) rfl fun a S=>Dy S rfl rfl rfl hb2 (Vq S Jk rfl rfl rfl fun a S=>Dy S rfl rfl rfl hb1 (lv S (Mp hb2 (S.tm rfl) (S.tm rfl)) rfl fun a S=>Dl (⟨Keep.refl _ _,S.nf [] rfl (subR rfl)⟩)))))
   clear S;rintro a w2 ⟨hk1,S⟩
   exact lv S (Io hb1 (S.tm rfl) (S.tm rfl)) rfl fun a S=>Dl (⟨hk1,S.nf [] rfl ⟨rfl,trivial⟩⟩)
  ·iterate 4 (refine Ht S rfl rfl rfl (Kp hb1) rfl ?_ rfl;clear S;intro a S)
   iterate 3 (refine FV S rfl rfl rfl rfl ?_;clear S;intro a S)
   exact Ht S rfl rfl rfl (Kp hb1) rfl (fun a S=>lv S (Ip ((!decide ((Int.tmod Bo 100) = 0)) || (decide ((Int.tmod Bo 400) = 0))) hb1 (S.tm rfl) rfl) rfl fun a S=>Dl (⟨Keep.refl _ _,S.nf [] rfl ⟨rfl,trivial⟩⟩)) rfl
 clear S;rintro a w1 ⟨hk2,S⟩
 refine Va S rfl rfl fun a S=>Dl (wp_ret ?_)
 subst h
 exact Et S results123 rfl rfl
theorem Yo (w : World) (Bo : Int) (Cq : Int) (r : Int) (h : Ol Bo Cq = r) :
    Calls prog 80 [iV Bo,iV Cq].toArray w (Ret w [] fun _ v _=>v = iV r):=by
 refine Fe func80 rfl ntmps80 rfl fun a S=>?_
 unfold Ol at h
 replace S:=S.k2 0 1 rfl
 refine Fr (Vk S rfl rfl fun a S=>Dl (Fs (Fr (Vm S rfl rfl fun a S=>Dl ?_))))
 refine wp_block (Fr (Vq S Jk rfl rfl rfl fun a S=>Va S rfl rfl fun a S=>Dl (Fc h (S.tm rfl) (fun hb1 h=>?_) (fun hb1 h=>?_))))
 ·refine Fs (Fr (Vm S rfl rfl fun a S=>Eb S (fun _=>Dq (vs:=[iV Bo]) ⟨(S.tm rfl),trivial⟩ call123) (CE _ Bo _ rfl) rfl ?_));clear S;intro v1 a w1 hv1 hk1 hn1 S
  subst hv1
  refine Dl (Fc h (S.tm rfl) (fun hb2 h=>?_) (fun hb2 h=>?_))
  ·refine Fr (Vk S rfl rfl fun a S=>Dl (wp_ret (Dv (Gq (Dv ?_)))))
   subst h
   exact Et S results80 rfl rfl
  ·refine wp_skip (Tn (Fr (Vk S rfl rfl fun a S=>Dl (wp_ret (Gq (Dv ?_))))))
   subst h
   exact Et S results80 rfl rfl
 ·refine Fs (Fr (Vq S Jk rfl rfl rfl fun a S=>Va S rfl rfl fun a S=>Dl ?_))
  obtain ⟨j1,hj1,h⟩:=Eu h
  refine Eh (fun a w'=>∃ x1 : Bool,j1 x1 = r ∧ Sx w [] nov [] [(10,bV x1)] 15 a w') ?_ ?_
  ·refine Fc h (S.tm rfl) (fun hb3 h=>?_) (fun hb3 h=>?_)
   ·exact wp_skip (Tn (⟨decide (Cq = 4),h,S.nf [] rfl ⟨rfl,trivial⟩⟩))
   ·refine Fr (Vq S Jk rfl rfl rfl fun a S=>Va S rfl rfl fun a S=>Dl ?_)
    obtain ⟨j2,hj2,h⟩:=Eu h
    refine Eh (fun a w'=>∃ x2 : Bool,j2 x2 = r ∧ Sx w [] nov [] [(10,bV x2)] 15 a w') ?_ ?_
    ·refine Fc h (S.tm rfl) (fun hb4 h=>?_) (fun hb4 h=>?_)
     ·exact wp_skip (Tn (⟨decide (Cq = 6),h,S.nf [] rfl ⟨rfl,trivial⟩⟩))
     ·refine Fr (Vq S Jk rfl rfl rfl fun a S=>Va S rfl rfl fun a S=>Dl ?_)
      obtain ⟨j3,hj3,h⟩:=Eu h
      refine Eh (fun a w'=>∃ x3 : Bool,j3 x3 = r ∧ Sx w [] nov [] [(10,bV x3)] 15 a w') ?_ ?_
      ·refine Fc h (S.tm rfl) (fun hb5 h=>?_) (fun hb5 h=>?_)
       ·exact wp_skip (Tn (⟨decide (Cq = 9),h,S.nf [] rfl ⟨rfl,trivial⟩⟩))
       ·exact Fg (Vq S Jk rfl rfl rfl fun a S=>Va S rfl rfl fun a S=>Dl (⟨decide (Cq = 11),h,S.nf [] rfl ⟨rfl,trivial⟩⟩))
      clear S h;rintro a w4 ⟨x3,h,S⟩;rw [hj3] at h;clear hj3 j3
      exact Tn (⟨x3,h,S.nf [] rfl ⟨rfl,trivial⟩⟩)
    clear S h;rintro a w3 ⟨x2,h,S⟩;rw [hj2] at h;clear hj2 j2
    exact Tn (⟨x2,h,S.nf [] rfl ⟨rfl,trivial⟩⟩)
  clear S h;rintro a w2 ⟨x1,h,S⟩;rw [hj1] at h;clear hj1 j1
  refine Tn (Fc h (S.tm rfl) (fun hb6 h=>?_) (fun hb6 h=>?_))
  ·refine Fr (Vk S rfl rfl fun a S=>Dl (wp_ret (Gq (Dv ?_))))
   subst h
   exact Et S results80 rfl rfl
  ·refine wp_skip (Hp (Tn (Fr (Vk S rfl rfl fun a S=>Dl (wp_ret ?_)))))
   subst h
   exact Et S results80 rfl rfl
theorem Yq (w : World) (Bo : Int) (r : Int) (h : Ri Bo = r) :
    Calls prog 81 [iV Bo].toArray w (Ret w [] fun _ v _=>v = iV r):=by
 refine Fe func81 rfl ntmps81 rfl fun a S=>?_
 unfold Ri at h
 replace S:=S.k1 0 rfl
 refine Fr (Vk S rfl rfl fun a S=>Dl (Fs (Fr (Vm S rfl rfl fun a S=>Eb S (fun _=>Dq (vs:=[iV Bo]) ⟨(S.tm rfl),trivial⟩ call123) (CE _ Bo _ rfl) rfl ?_))));clear S;intro v1 a w1 hv1 hk1 hn1 S
 subst hv1
 refine Dl (Fc h (S.tm rfl) (fun hb1 h=>?_) (fun hb1 h=>?_))
 ·refine Fr (Vk S rfl rfl fun a S=>Dl (wp_ret (Dv ?_)))
  subst h
  exact Et S results81 rfl rfl
 ·refine wp_skip (Tn (Fr (Vk S rfl rfl fun a S=>Dl (wp_ret ?_))))
  subst h
  exact Et S results81 rfl rfl
theorem HN (w : World) (Bb : Int) (r : Bool) (h : AH Bb = r) :
    Calls prog 82 [iV Bb].toArray w (Ret w [] fun _ v _=>v = bV r):=by
 refine Fe func82 rfl ntmps82 rfl fun a S=>?_
 unfold AH at h
 replace S:=S.k1 0 rfl
 refine Fr (Vk S rfl rfl fun a S=>Dz (Vm S rfl rfl fun a S=>Eb S (fun _=>Dq (vs:=[iV Bb,iV (-40000),iV 4000]) ⟨(S.tm rfl),rfl,rfl,trivial⟩ call79) (Gj _ Bb (-40000) 4000 _ rfl) rfl ?_));clear S;intro v1 a w1 hv1 hk1 hn1 S
 subst hv1
 refine Va S rfl rfl fun a S=>Dl (wp_ret ?_)
 subst h
 exact Et S results82 rfl rfl
set_option maxRecDepth 20000 in
theorem HO (w : World) (Ag : Nj) (r : Int × Int) (h : AI Ag = some r) :
    Calls prog 33 [.agg (Nj.enc Ag).toArray].toArray w (Ret w [] fun _ v _=>v = .tuple #[iV r.1,iV r.2]):=by
 refine Fe func33 rfl ntmps33 rfl fun a S=>?_
 unfold AI at h
 replace S:=S.k1 0 rfl
 refine Fr (Lw S (S.tm rfl) (cs:=(Nj.enc Ag)) rfl rfl ?_);clear S;intro a w1 b1 hz1 hk1 S
 refine Vk S rfl rfl fun a S=>Vk S rfl rfl fun a S=>Dl (Fs (Fs ?_))
 obtain ⟨j1,hj1,h⟩:=Eu h
 refine Eh (fun a w'=>∃ x1 : Bool,j1 x1 = some r ∧ Sx w [] nov [.blk b1 (Nj.enc Ag) 86] [(1,.pointer (some ⟨b1,0,none⟩)),(28,bV x1)] 68 a w') ?_ ?_
 ·rcases Bool.eq_false_or_eq_true (!(Dt Ag.Year 1900 2100)) with hb1 | hb1
  ·replace h:=Ti h hb1
   rcases Bool.eq_false_or_eq_true true with hb2 | hb2
   ·replace h:=Ti h hb2
    refine Gt [] ([]) Tryz.mixed S rfl (by kernel_rfl) ?_;clear S;intro w6 hk5 hsel S
    refine Ea 0 S hsel rfl rfl rfl (by kernel_rfl) (by kernel_rfl) rfl (fun _ hw=>(Gd Yx (S.tm rfl))) fun a S=>Ea 1 S hsel rfl rfl rfl (by kernel_rfl) (by kernel_rfl) rfl (fun _ hw=>(Hx isAgg3 (off:=0) (o:=0) (S.tm rfl) ((S.blk_mem (i:=0) (cells:=(Nj.enc Ag)) (b:=b1) (T:=86) rfl (Hg (e':=.blk b1 (Nj.enc Ag) 86))).kept hw) rfl)) fun a S=>Hb 2 (by kernel_rfl) rfl (Eb S (fun _=>Dq (vs:=[iV Ag.Year,iV 1900,iV 2100]) ⟨(S.tm rfl),rfl,rfl,trivial⟩ call79) (Gj _ Ag.Year 1900 2100 _ rfl) rfl ?_);clear S;intro v4 a w7 hv4 hk6 hn4 S
    subst hv4
    refine Ld (Hy hk6 (Li [3,4,5,6,7,8,9,10,11,12,13,14,15,16,17,18,19,20] hsel (by kernel_rfl) rfl ?_))
    clear hsel
    refine Gp S rfl (Ih (S.tm rfl)) rfl fun a S=>Gp S rfl (Rm (S.tm rfl)) rfl ?_;clear S;intro a S
    iterate 4 (refine Pn S rfl rfl rfl rfl (Oa hb1) rfl ?_ rfl;clear S;intro a S)
    refine Gp S rfl (Pq hb1 (S.tm rfl) rfl) rfl fun a S=>Gp S rfl (Rm (S.tm rfl)) rfl ?_;clear S;intro a S
    iterate 9 (refine Pn S rfl rfl rfl rfl (Oa hb2) rfl ?_ rfl;clear S;intro a S)
    refine Gp S rfl (Pq hb2 (S.tm rfl) rfl) rfl fun a S=>Ij ?_
    replace S:=(S.nl [.blk b1 (Nj.enc Ag) 86] [true] rfl).k2 1 28 rfl
    exact Tn (⟨true,h,S.nf [true] rfl (subR rfl)⟩)
   ·replace h:=Tj h hb2
    refine Gt [] ([]) Tryz.mixed S rfl (by kernel_rfl) ?_;clear S;intro w11 hk10 hsel S
    refine Ea 0 S hsel rfl rfl rfl (by kernel_rfl) (by kernel_rfl) rfl (fun _ hw=>(Gd Yx (S.tm rfl))) fun a S=>Ea 1 S hsel rfl rfl rfl (by kernel_rfl) (by kernel_rfl) rfl (fun _ hw=>(Hx isAgg3 (off:=0) (o:=0) (S.tm rfl) ((S.blk_mem (i:=0) (cells:=(Nj.enc Ag)) (b:=b1) (T:=86) rfl (Hg (e':=.blk b1 (Nj.enc Ag) 86))).kept hw) rfl)) fun a S=>Hb 2 (by kernel_rfl) rfl (Eb S (fun _=>Dq (vs:=[iV Ag.Year,iV 1900,iV 2100]) ⟨(S.tm rfl),rfl,rfl,trivial⟩ call79) (Gj _ Ag.Year 1900 2100 _ rfl) rfl ?_);clear S;intro v8 a w12 hv8 hk11 hn8 S
    subst hv8
    refine Ld (Hy hk11 (Ea 3 S hsel rfl rfl rfl (by kernel_rfl) (by kernel_rfl) rfl (fun _ hw=>(Ih (S.tm rfl))) fun a S=>Ea 4 S hsel rfl rfl rfl (by kernel_rfl) (by kernel_rfl) rfl (fun _ hw=>(Rm (S.tm rfl))) fun a S=>NE 5 S hsel rfl rfl rfl rfl (Oa hb1) rfl (by kernel_rfl) (by kernel_rfl) rfl fun a S=>NE 6 S hsel rfl rfl rfl rfl (Oa hb1) rfl (by kernel_rfl) (by kernel_rfl) rfl fun a S=>NE 7 S hsel rfl rfl rfl rfl (Oa hb1) rfl (by kernel_rfl) (by kernel_rfl) rfl fun a S=>NE 8 S hsel rfl rfl rfl rfl (Oa hb1) rfl (by kernel_rfl) (by kernel_rfl) rfl fun a S=>Ea 9 S hsel rfl rfl rfl (by kernel_rfl) (by kernel_rfl) rfl (fun _ hw=>(Pq hb1 (S.tm rfl) rfl)) fun a S=>Ea 10 S hsel rfl rfl rfl (by kernel_rfl) (by kernel_rfl) rfl (fun _ hw=>(Rm (S.tm rfl))) fun a S=>Ef 11 S hsel rfl rfl rfl rfl hb2 rfl rfl (by kernel_rfl) (by kernel_rfl) rfl (fun _ hw=>(Gd NU (S.tm rfl))) ?_));clear S;intro a S
    refine Ef 12 S hsel rfl rfl rfl rfl hb2 rfl rfl (by kernel_rfl) (by kernel_rfl) rfl (fun _ hw=>(Hx isAgg3 (off:=0) (o:=2) (S.tm rfl) ((S.blk_mem (i:=0) (cells:=(Nj.enc Ag)) (b:=b1) (T:=86) rfl (Hg (e':=.blk b1 (Nj.enc Ag) 86))).kept hw) rfl)) fun a S=>Ef 13 S hsel rfl rfl rfl rfl hb2 rfl rfl (by kernel_rfl) (by kernel_rfl) rfl (fun _ hw=>(Gd Yx (S.tm rfl))) fun a S=>Ef 14 S hsel rfl rfl rfl rfl hb2 rfl rfl (by kernel_rfl) (by kernel_rfl) rfl (fun _ hw=>(Hx isAgg3 (off:=0) (o:=0) (S.tm rfl) ((S.blk_mem (i:=0) (cells:=(Nj.enc Ag)) (b:=b1) (T:=86) rfl (Hg (e':=.blk b1 (Nj.enc Ag) 86))).kept hw) rfl)) fun a S=>Ef 15 S hsel rfl rfl rfl rfl hb2 rfl rfl (by kernel_rfl) (by kernel_rfl) rfl (fun _ hw=>(Gd GB (S.tm rfl))) fun a S=>Ef 16 S hsel rfl rfl rfl rfl hb2 rfl rfl (by kernel_rfl) (by kernel_rfl) rfl (fun _ hw=>(Hx isAgg3 (off:=0) (o:=1) (S.tm rfl) ((S.blk_mem (i:=0) (cells:=(Nj.enc Ag)) (b:=b1) (T:=86) rfl (Hg (e':=.blk b1 (Nj.enc Ag) 86))).kept hw) rfl)) fun a S=>Hb 17 (by kernel_rfl) rfl (Dy S rfl rfl rfl hb2 (Eb S (fun _=>Dq (vs:=[iV Ag.Year,iV Ag.Month]) ⟨(S.tm rfl),(S.tm rfl),trivial⟩ call80) (Yo _ Ag.Year Ag.Month _ rfl) rfl ?_));clear S;intro v9 a w13 hv9 hk12 hn9 S
    subst hv9
    refine Ld (Hy hk12 (Hb 18 (by kernel_rfl) rfl (Dy S rfl rfl rfl hb2 (Eb S (fun _=>Dq (vs:=[iV Ag.Day,iV 1,iV (Ol Ag.Year Ag.Month)]) ⟨(S.tm rfl),rfl,(S.tm rfl),trivial⟩ call79) (Gj _ Ag.Day 1 (Ol Ag.Year Ag.Month) _ rfl) rfl ?_))));clear S;intro v10 a w14 hv10 hk13 hn10 S
    subst hv10
    refine Ld (Hy hk13 (Li [19,20] hsel (by kernel_rfl) rfl ?_))
    clear hsel
    refine Fj S rfl rfl rfl rfl hb2 (Ha S (Ih (S.tm rfl)) rfl fun a S=>Gp S rfl (Ps hb2 (S.tm rfl) (S.tm rfl)) rfl fun a S=>Ij ?_)
    replace S:=(S.nl [.blk b1 (Nj.enc Ag) 86] [true] rfl).k2 1 28 rfl
    exact Tn (⟨!(Dt Ag.Day 1 (Ol Ag.Year Ag.Month)),h,S.nf [true] rfl (subR rfl)⟩)
  ·replace h:=Tj h hb1
   rcases Bool.eq_false_or_eq_true (!(Dt Ag.Month 1 12)) with hb3 | hb3
   ·replace h:=Ti h hb3
    refine Gt [] ([]) Tryz.mixed S rfl (by kernel_rfl) ?_;clear S;intro w19 hk18 hsel S
    refine Ea 0 S hsel rfl rfl rfl (by kernel_rfl) (by kernel_rfl) rfl (fun _ hw=>(Gd Yx (S.tm rfl))) fun a S=>Ea 1 S hsel rfl rfl rfl (by kernel_rfl) (by kernel_rfl) rfl (fun _ hw=>(Hx isAgg3 (off:=0) (o:=0) (S.tm rfl) ((S.blk_mem (i:=0) (cells:=(Nj.enc Ag)) (b:=b1) (T:=86) rfl (Hg (e':=.blk b1 (Nj.enc Ag) 86))).kept hw) rfl)) fun a S=>Hb 2 (by kernel_rfl) rfl (Eb S (fun _=>Dq (vs:=[iV Ag.Year,iV 1900,iV 2100]) ⟨(S.tm rfl),rfl,rfl,trivial⟩ call79) (Gj _ Ag.Year 1900 2100 _ rfl) rfl ?_);clear S;intro v15 a w20 hv15 hk19 hn15 S
    subst hv15
    refine Ld (Hy hk19 (Ea 3 S hsel rfl rfl rfl (by kernel_rfl) (by kernel_rfl) rfl (fun _ hw=>(Ih (S.tm rfl))) fun a S=>Ea 4 S hsel rfl rfl rfl (by kernel_rfl) (by kernel_rfl) rfl (fun _ hw=>(Rm (S.tm rfl))) fun a S=>Ef 5 S hsel rfl rfl rfl rfl hb1 rfl rfl (by kernel_rfl) (by kernel_rfl) rfl (fun _ hw=>(Gd GB (S.tm rfl))) fun a S=>Ef 6 S hsel rfl rfl rfl rfl hb1 rfl rfl (by kernel_rfl) (by kernel_rfl) rfl (fun _ hw=>(Hx isAgg3 (off:=0) (o:=1) (S.tm rfl) ((S.blk_mem (i:=0) (cells:=(Nj.enc Ag)) (b:=b1) (T:=86) rfl (Hg (e':=.blk b1 (Nj.enc Ag) 86))).kept hw) rfl)) fun a S=>Hb 7 (by kernel_rfl) rfl (Dy S rfl rfl rfl hb1 (Eb S (fun _=>Dq (vs:=[iV Ag.Month,iV 1,iV 12]) ⟨(S.tm rfl),rfl,rfl,trivial⟩ call79) (Gj _ Ag.Month 1 12 _ rfl) rfl ?_))));clear S;intro v16 a w21 hv16 hk20 hn16 S
    subst hv16
    refine Ld (Hy hk20 (Li [8,9,10,11,12,13,14,15,16,17,18,19,20] hsel (by kernel_rfl) rfl ?_))
    clear hsel
    refine Fj S rfl rfl rfl rfl hb1 (Ha S (Ih (S.tm rfl)) rfl fun a S=>Gp S rfl (Ps hb1 (S.tm rfl) (S.tm rfl)) rfl fun a S=>Gp S rfl (Rm (S.tm rfl)) rfl ?_);clear S;intro a S
    iterate 9 (refine Pn S rfl rfl rfl rfl (Oa hb3) rfl ?_ rfl;clear S;intro a S)
    refine Gp S rfl (Pq hb3 (S.tm rfl) rfl) rfl fun a S=>Ij ?_
    replace S:=(S.nl [.blk b1 (Nj.enc Ag) 86] [true] rfl).k2 1 28 rfl
    exact Tn (⟨true,h,S.nf [true] rfl (subR rfl)⟩)
   ·replace h:=Tj h hb3
    refine Gt [] ([]) Tryz.mixed S rfl (by kernel_rfl) ?_;clear S;intro w26 hk25 hsel S
    refine Ea 0 S hsel rfl rfl rfl (by kernel_rfl) (by kernel_rfl) rfl (fun _ hw=>(Gd Yx (S.tm rfl))) fun a S=>Ea 1 S hsel rfl rfl rfl (by kernel_rfl) (by kernel_rfl) rfl (fun _ hw=>(Hx isAgg3 (off:=0) (o:=0) (S.tm rfl) ((S.blk_mem (i:=0) (cells:=(Nj.enc Ag)) (b:=b1) (T:=86) rfl (Hg (e':=.blk b1 (Nj.enc Ag) 86))).kept hw) rfl)) fun a S=>Hb 2 (by kernel_rfl) rfl (Eb S (fun _=>Dq (vs:=[iV Ag.Year,iV 1900,iV 2100]) ⟨(S.tm rfl),rfl,rfl,trivial⟩ call79) (Gj _ Ag.Year 1900 2100 _ rfl) rfl ?_);clear S;intro v21 a w27 hv21 hk26 hn21 S
    subst hv21
    refine Ld (Hy hk26 (Ea 3 S hsel rfl rfl rfl (by kernel_rfl) (by kernel_rfl) rfl (fun _ hw=>(Ih (S.tm rfl))) fun a S=>Ea 4 S hsel rfl rfl rfl (by kernel_rfl) (by kernel_rfl) rfl (fun _ hw=>(Rm (S.tm rfl))) fun a S=>Ef 5 S hsel rfl rfl rfl rfl hb1 rfl rfl (by kernel_rfl) (by kernel_rfl) rfl (fun _ hw=>(Gd GB (S.tm rfl))) fun a S=>Ef 6 S hsel rfl rfl rfl rfl hb1 rfl rfl (by kernel_rfl) (by kernel_rfl) rfl (fun _ hw=>(Hx isAgg3 (off:=0) (o:=1) (S.tm rfl) ((S.blk_mem (i:=0) (cells:=(Nj.enc Ag)) (b:=b1) (T:=86) rfl (Hg (e':=.blk b1 (Nj.enc Ag) 86))).kept hw) rfl)) fun a S=>Hb 7 (by kernel_rfl) rfl (Dy S rfl rfl rfl hb1 (Eb S (fun _=>Dq (vs:=[iV Ag.Month,iV 1,iV 12]) ⟨(S.tm rfl),rfl,rfl,trivial⟩ call79) (Gj _ Ag.Month 1 12 _ rfl) rfl ?_))));clear S;intro v22 a w28 hv22 hk27 hn22 S
    subst hv22
    refine Ld (Hy hk27 (Ef 8 S hsel rfl rfl rfl rfl hb1 rfl rfl (by kernel_rfl) (by kernel_rfl) rfl (fun _ hw=>(Ih (S.tm rfl))) fun a S=>Ea 9 S hsel rfl rfl rfl (by kernel_rfl) (by kernel_rfl) rfl (fun _ hw=>(Ps hb1 (S.tm rfl) (S.tm rfl))) fun a S=>Ea 10 S hsel rfl rfl rfl (by kernel_rfl) (by kernel_rfl) rfl (fun _ hw=>(Rm (S.tm rfl))) fun a S=>Ef 11 S hsel rfl rfl rfl rfl hb3 rfl rfl (by kernel_rfl) (by kernel_rfl) rfl (fun _ hw=>(Gd NU (S.tm rfl))) fun a S=>Ef 12 S hsel rfl rfl rfl rfl hb3 rfl rfl (by kernel_rfl) (by kernel_rfl) rfl (fun _ hw=>(Hx isAgg3 (off:=0) (o:=2) (S.tm rfl) ((S.blk_mem (i:=0) (cells:=(Nj.enc Ag)) (b:=b1) (T:=86) rfl (Hg (e':=.blk b1 (Nj.enc Ag) 86))).kept hw) rfl)) fun a S=>Ef 13 S hsel rfl rfl rfl rfl hb3 rfl rfl (by kernel_rfl) (by kernel_rfl) rfl (fun _ hw=>(Gd Yx (S.tm rfl))) fun a S=>Ef 14 S hsel rfl rfl rfl rfl hb3 rfl rfl (by kernel_rfl) (by kernel_rfl) rfl (fun _ hw=>(Hx isAgg3 (off:=0) (o:=0) (S.tm rfl) ((S.blk_mem (i:=0) (cells:=(Nj.enc Ag)) (b:=b1) (T:=86) rfl (Hg (e':=.blk b1 (Nj.enc Ag) 86))).kept hw) rfl)) fun a S=>Ef 15 S hsel rfl rfl rfl rfl hb3 rfl rfl (by kernel_rfl) (by kernel_rfl) rfl (fun _ hw=>(Gd GB (S.tm rfl))) fun a S=>Ef 16 S hsel rfl rfl rfl rfl hb3 rfl rfl (by kernel_rfl) (by kernel_rfl) rfl (fun _ hw=>(Hx isAgg3 (off:=0) (o:=1) (S.tm rfl) ((S.blk_mem (i:=0) (cells:=(Nj.enc Ag)) (b:=b1) (T:=86) rfl (Hg (e':=.blk b1 (Nj.enc Ag) 86))).kept hw) rfl)) ?_));clear S;intro a S
    refine Hb 17 (by kernel_rfl) rfl (Dy S rfl rfl rfl hb3 (Eb S (fun _=>Dq (vs:=[iV Ag.Year,iV Ag.Month]) ⟨(S.tm rfl),(S.tm rfl),trivial⟩ call80) (Yo _ Ag.Year Ag.Month _ rfl) rfl ?_));clear S;intro v23 a w29 hv23 hk28 hn23 S
    subst hv23
    refine Ld (Hy hk28 (Hb 18 (by kernel_rfl) rfl (Dy S rfl rfl rfl hb3 (Eb S (fun _=>Dq (vs:=[iV Ag.Day,iV 1,iV (Ol Ag.Year Ag.Month)]) ⟨(S.tm rfl),rfl,(S.tm rfl),trivial⟩ call79) (Gj _ Ag.Day 1 (Ol Ag.Year Ag.Month) _ rfl) rfl ?_))));clear S;intro v24 a w30 hv24 hk29 hn24 S
    subst hv24
    refine Ld (Hy hk29 (Li [19,20] hsel (by kernel_rfl) rfl ?_))
    clear hsel
    refine Fj S rfl rfl rfl rfl hb3 (Ha S (Ih (S.tm rfl)) rfl fun a S=>Gp S rfl (Ps hb3 (S.tm rfl) (S.tm rfl)) rfl fun a S=>Ij ?_)
    replace S:=(S.nl [.blk b1 (Nj.enc Ag) 86] [true] rfl).k2 1 28 rfl
    exact Tn (⟨!(Dt Ag.Day 1 (Ol Ag.Year Ag.Month)),h,S.nf [true] rfl (subR rfl)⟩)
 clear S h;rintro a w2 ⟨x1,h,S⟩;rw [hj1] at h;clear hj1 j1
 refine Tn (Fc h (S.tm rfl) (fun hb4 h=>?_) (fun hb4 h=>?_))
 ·refine Fr (Vk S rfl rfl fun a S=>Vk S rfl rfl fun a S=>Dl (wp_ret (Dv ?_)))
  obtain rfl:=Option.some.inj h
  exact Mq S results33 rfl rfl rfl
 ·refine wp_skip (Tn (Fr (Vf NU S rfl rfl fun a S=>Vl isAgg3 0 S rfl rfl rfl rfl fun a S=>Vq S Iw rfl rfl rfl fun a S=>Va S rfl rfl fun a S=>Dl (Fs ?_))))
  refine Fr (Vk S rfl rfl fun a S=>Dl ?_)
  replace S:=S.k3 1 4 5 rfl
  obtain ⟨j2,hj2,h⟩:=Eu h
  refine Eh (fun a w'=>∃ x2 : Int,j2 x2 = some r ∧ Sx w [] nov [.blk b1 (Nj.enc Ag) 86] [(1,.pointer (some ⟨b1,0,none⟩)),(4,iV x2)] 68 a w') ?_ ?_
  ·refine wp_block (Gr (fun (m1 : Nat) a w'=>∃ x2 : Int,∃ x3 : Int,Ox Ag j2 m1 x2 x3 = some r ∧ Sx w [] nov [.blk b1 (Nj.enc Ag) 86] [(1,.pointer (some ⟨b1,0,none⟩)),(4,iV x2),(5,iV x3)] 68 a w') id ((Ag.Month - 1).toNat + 2) ⟨W (Ag.Day - 1),1,h,S.nf [true] rfl (subR rfl)⟩ ?_)
   clear S h;rintro m1 a w31 ⟨x2,x3,h,S⟩
   cases m1 with
   | zero=>rw [Ox.eq_1] at h;cases h
   | succ m1 =>
    rw [Ox.eq_2] at h
    refine Fs (Fr (Vm S rfl rfl fun a S=>Vf GB S rfl rfl fun a S=>Vl isAgg3 0 S rfl rfl rfl rfl fun a S=>Vb S Es rfl rfl rfl fun a S=>Dl (Fc h (S.tm rfl) (fun hb5 h=>?_) (fun hb5 h=>?_))))
    ·refine wp_skip (Tn (Fs (wp_block (Fg (Vm S rfl rfl fun a S=>Vf Yx S rfl rfl fun a S=>Vl isAgg3 0 S rfl rfl rfl rfl fun a S=>Vm S rfl rfl fun a S=>Eb S (fun _=>Dq (vs:=[iV Ag.Year,iV x3]) ⟨(S.tm rfl),(S.tm rfl),trivial⟩ call80) (Yo _ Ag.Year x3 _ rfl) rfl ?_)))));clear S;intro v25 a w33 hv25 hk30 hn25 S
     subst hv25
     refine Vb S Gc rfl rfl rfl fun a S=>Va S rfl rfl fun a S=>Ld (Hp (Tn (Fg (Vm S rfl rfl fun a S=>Vq S Gc rfl rfl rfl fun a S=>Va S rfl rfl fun a S=>Ld ?_))))
     replace S:=S.k3 1 4 5 rfl
     exact Tn (⟨m1,⟨W (x2 + (Ol Ag.Year x3)),W (x3 + 1),h,S.nf [true] rfl ⟨rfl,rfl,rfl,trivial⟩⟩,Nat.lt_succ_self _⟩)
    ·exact wp_exit (Ed (Ed (Gn (Tn (⟨x2,h,S.nf [true] rfl (subR rfl)⟩)))))
  clear S h;rintro a w32 ⟨x2,h,S⟩;rw [hj2] at h;clear hj2 j2
  refine Tn (Fs (Fr (Vk S rfl rfl fun a S=>Dl ?_)))
  replace S:=S.k3 1 4 6 rfl
  obtain ⟨j3,hj3,h⟩:=Eu h
  refine Eh (fun a w'=>∃ x4 : Int,j3 x4 = some r ∧ Sx w [] nov [.blk b1 (Nj.enc Ag) 86] [(1,.pointer (some ⟨b1,0,none⟩)),(4,iV x4)] 68 a w') ?_ ?_
  ·refine wp_block (Gr (fun (m2 : Nat) a w'=>∃ x4 : Int,∃ x5 : Int,Oy Ag j3 m2 x4 x5 = some r ∧ Sx w [] nov [.blk b1 (Nj.enc Ag) 86] [(1,.pointer (some ⟨b1,0,none⟩)),(4,iV x4),(6,iV x5)] 68 a w') id ((Ag.Year - 2024).toNat + 2) ⟨x2,2024,h,S.nf [true] rfl (subR rfl)⟩ ?_)
   clear S h;rintro m2 a w34 ⟨x4,x5,h,S⟩
   cases m2 with
   | zero=>rw [Oy.eq_1] at h;cases h
   | succ m2 =>
    rw [Oy.eq_2] at h
    refine Fs (Fr (Vm S rfl rfl fun a S=>Vf Yx S rfl rfl fun a S=>Vl isAgg3 0 S rfl rfl rfl rfl fun a S=>Vb S Es rfl rfl rfl fun a S=>Dl (Fc h (S.tm rfl) (fun hb6 h=>?_) (fun hb6 h=>?_))))
    ·refine wp_skip (Tn (Fs (wp_block (Fg (Vm S rfl rfl fun a S=>Vm S rfl rfl fun a S=>Eb S (fun _=>Dq (vs:=[iV x5]) ⟨(S.tm rfl),trivial⟩ call81) (Yq _ x5 _ rfl) rfl ?_)))));clear S;intro v26 a w36 hv26 hk31 hn26 S
     subst hv26
     refine Vb S Gc rfl rfl rfl fun a S=>Va S rfl rfl fun a S=>Ld (Hp (Tn (Fg (Vm S rfl rfl fun a S=>Vq S Gc rfl rfl rfl fun a S=>Va S rfl rfl fun a S=>Dl ?_))))
     exact ⟨m2,⟨W (x4 + (Ri x5)),W (x5 + 1),h,S.nf [true] rfl ⟨rfl,rfl,rfl,trivial⟩⟩,Nat.lt_succ_self _⟩
    ·exact wp_exit (Ed (Ed (Gn (Tn (⟨x4,h,S.nf [true] rfl (subR rfl)⟩)))))
  clear S h;rintro a w35 ⟨x4,h,S⟩;rw [hj3] at h;clear hj3 j3
  refine Tn (Fs (Fr (Vf Yx S rfl rfl fun a S=>Vl isAgg3 0 S rfl rfl rfl rfl fun a S=>Va S rfl rfl fun a S=>Dl ?_)))
  replace S:=S.n0.k2 4 7 rfl
  obtain ⟨j4,hj4,h⟩:=Eu h
  refine Eh (fun a w'=>∃ x6 : Int,j4 x6 = some r ∧ Sx w [] nov [] [(4,iV x6)] 68 a w') ?_ ?_
  ·refine wp_block (Gr (fun (m3 : Nat) a w'=>∃ x6 : Int,∃ x7 : Int,Oz j4 m3 x6 x7 = some r ∧ Sx w [] nov [] [(4,iV x6),(7,iV x7)] 68 a w') id ((2024 - Ag.Year).toNat + 2) ⟨x4,Ag.Year,h,S.nf [] rfl (subR rfl)⟩ ?_)
   clear S h;rintro m3 a w37 ⟨x6,x7,h,S⟩
   cases m3 with
   | zero=>rw [Oz.eq_1] at h;cases h
   | succ m3 =>
    rw [Oz.eq_2] at h
    refine Fs (Fr (Vm S rfl rfl fun a S=>Vq S Es rfl rfl rfl fun a S=>Dl (Fc h (S.tm rfl) (fun hb7 h=>?_) (fun hb7 h=>?_))))
    ·refine wp_skip (Tn (Fs (wp_block (Fg (Vm S rfl rfl fun a S=>Vm S rfl rfl fun a S=>Eb S (fun _=>Dq (vs:=[iV x7]) ⟨(S.tm rfl),trivial⟩ call81) (Yq _ x7 _ rfl) rfl ?_)))));clear S;intro v27 a w39 hv27 hk32 hn27 S
     subst hv27
     refine Vb S Iw rfl rfl rfl fun a S=>Va S rfl rfl fun a S=>Ld (Hp (Tn (Fg (Vm S rfl rfl fun a S=>Vq S Gc rfl rfl rfl fun a S=>Va S rfl rfl fun a S=>Dl ?_))))
     exact ⟨m3,⟨W (x6 - (Ri x7)),W (x7 + 1),h,S.nf [] rfl ⟨rfl,rfl,trivial⟩⟩,Nat.lt_succ_self _⟩
    ·exact wp_exit (Ed (Ed (Gn (Tn (⟨x6,h,S.nf [] rfl ⟨rfl,trivial⟩⟩)))))
  clear S h;rintro a w38 ⟨x6,h,S⟩;rw [hj4] at h;clear hj4 j4
  refine Tn (Fs (Fr (Vm S rfl rfl fun a S=>Eb S (fun _=>Dq (vs:=[iV x6]) ⟨(S.tm rfl),trivial⟩ call82) (HN _ x6 _ rfl) rfl ?_)));clear S;intro v28 a w40 hv28 hk33 hn28 S
  subst hv28
  refine Vu S Ih rfl rfl fun a S=>Dl (Fc h (S.tm rfl) (fun hb8 h=>?_) (fun hb8 h=>?_))
  ·refine Fr (Vk S rfl rfl fun a S=>Vk S rfl rfl fun a S=>Dl (wp_ret (Dv ?_)))
   obtain rfl:=Option.some.inj h
   exact Mq S results33 rfl rfl rfl
  ·refine wp_skip (Tn (Fr (Vm S rfl rfl fun a S=>Va S rfl rfl fun a S=>Vk S rfl rfl fun a S=>Dl (wp_ret ?_))))
   obtain rfl:=Option.some.inj h
   exact Mq S results33 rfl rfl rfl
theorem CK (w : World) (Ac : Value) (Aj : List Om) (Ai : Slc (view w []) 5 Ac (Aj.map Om.enc)) (r : Int) (h : Wm Aj = some r) :
    Calls prog 124 [Ac].toArray w (Ret w [] fun _ v _=>v = iV r):=by
 refine Fe func124 rfl ntmps124 rfl fun a S=>?_
 unfold Wm at h
 replace S:=S.k1 0 rfl
 refine Fr (Vk S rfl rfl fun a S=>Dl (Fs (Fr (Vm S rfl rfl fun a S=>lv S (Gi PF (S.tm rfl) (Gf Ai)) rfl fun a S=>Vq S Kb rfl rfl rfl ?_))));clear S;intro a S
 refine Dl (Fc h (S.tm rfl) (fun hb1 h=>?_) (fun hb1 h=>?_))
 ·refine Fr (Vk S rfl rfl fun a S=>Dl (wp_ret (Dv ?_)))
  obtain rfl:=Option.some.inj h
  exact Et S results124 rfl rfl
 ·refine wp_skip (Tn (Fr (Rg (κ:=ByteArray) (ν:=Bool) S rfl Value.string Value.bool ?_)));clear S;intro a w1 b1 hz1 hk1 S
  refine Va S rfl rfl fun a S=>Dl (Fs (Fr (Vm S rfl rfl fun a S=>lv S (Gi PF (S.tm rfl) (Gf Ai)) rfl fun a S=>lv S (Rm rfl) rfl fun a S=>Dl ?_)))
  replace S:=(S.nl [.map b1 (Fi Value.string Value.bool ([] : List (ByteArray × Bool))) ([] : List (ByteArray × Bool)).length] [true] rfl).k4 3 10 11 12 rfl
  obtain ⟨j1,hj1,h⟩:=Eu h
  refine Eh (fun a w'=>∃ x1 : List (ByteArray × Bool),j1 x1 = some r ∧ Sx w [] nov [.map b1 (Fi Value.string Value.bool x1) x1.length] [] 53 a w') ?_ ?_
  ·refine wp_block (Gr (fun (ys1 : List Om) a w'=>∃ i1 : Nat,∃ x1 : List (ByteArray × Bool),(∃ dn,Aj = dn ++ ys1 ∧ dn.length = i1) ∧ Lx j1 ys1 i1 x1 = some r ∧ Sx w [] nov [.map b1 (Fi Value.string Value.bool x1) x1.length] [(3,.map (some b1)),(10,Ac),(11,iV (Aj.length : Int)),(12,iV (i1 : Int))] 53 a w') List.length Aj ⟨0,([] : List (ByteArray × Bool)),⟨[],rfl,rfl⟩,h,S.nf [true] rfl (subR rfl)⟩ ?_)
   clear S h;rintro ys1 a w2 ⟨i1,x1,⟨dn,hd1,hi1⟩,h,S⟩
   cases ys1 with
   | nil =>
    rw [Lx.eq_1] at h
    refine Fr (Vb S Es rfl rfl rfl fun a S=>Ld ?_)
    replace S:=S.k5 3 10 11 12 13 rfl
    exact Tn (Fs (wp_cond_false ((S.tm rfl).trans (congrArg Value.bool (Jd hd1 hi1))) (wp_exit (Ed (Ed (Gn (Tn (⟨x1,h,S.nf [true] rfl trivial⟩))))))))
   | cons y1 ys1 =>
    rw [Lx.eq_2] at h
    refine Fr (Vb S Es rfl rfl rfl fun a S=>Ld ?_)
    replace S:=S.k5 3 10 11 12 13 rfl
    refine Tn (Fs (wp_cond_true ((S.tm rfl).trans (congrArg Value.bool (Ia hd1 hi1))) (wp_skip (Tn (Fs (wp_block (Fs (Fg ?_))))))))
    obtain ⟨b2,o1,hm1,hr1⟩:=Fk (a:=a) (x:=.tmp 10) (y:=.tmp 12) (ty:=0) PF Ai (Jc hd1 hi1) rfl (S.tm rfl) (S.tm rfl)
    refine lv S (hr1 _) rfl ?_;clear S;intro a S
    clear hr1
    refine lv S (Fb isAgg89 sizeOf89 (off:=o1) (o:=0) (part:=(Om.enc y1)) rfl rfl (S.tm rfl) (hm1.at S.emb0)) rfl fun a S=>Hq S zeroValue89 (cs:=[sV An,iV 0,iV 0,iV 0,iV 0]) rfl rfl ?_;clear S;intro a w4 b3 hz2 hk2 S
    refine Ex S (S.tm rfl) (S.tm rfl) (i:=0) (off:=0) rfl sizeOf89 (vs:=(Om.enc y1)) rfl rfl rfl rfl ?_;clear S;intro w5 hk3 S
    refine Dl (Fs (wp_block (Fr (Vf JF S rfl rfl fun a S=>Vl isAgg9 0 S rfl rfl rfl rfl ?_))));clear S;intro a S
    obtain ⟨r1,hr2,h⟩:=Fa h
    refine Eb S (fun _=>Dq (vs:=[sV y1.Key]) ⟨(S.tm rfl),trivial⟩ call106) (Mf _ y1.Key _ hr2) rfl ?_;clear S;intro v1 a w6 hv1 hk4 hn1 S
    subst hv1
    refine Vu S Ih rfl rfl fun a S=>Va S rfl rfl fun a S=>Dl (Fc h (S.tm rfl) (fun hb2 h=>?_) (fun hb2 h=>?_))
    ·refine Fr (Vk S rfl rfl fun a S=>Dl (wp_ret (Gq (Dv (Gq (Dv (Dv ?_)))))))
     refine Gq (Dv (Dv ?_))
     obtain rfl:=Option.some.inj h
     exact Et S results124 rfl rfl
    ·refine Fr (Vm S rfl rfl fun a S=>Vf JF S rfl rfl fun a S=>Vl isAgg9 0 S rfl rfl rfl rfl fun a S=>lv S (Pt (kv:=Value.string) (vv:=Value.bool) (m:=x1) (key:=y1.Key) (z:=false) (S.map_at (i:=1) rfl) underlying223 (Lm underlying9) zeroValue4 (S.tm rfl) (S.tm rfl)) rfl fun a S=>Va S rfl rfl fun a S=>Ld ?_)
     replace S:=(S.nl [.blk b3 (Om.enc y1) 89,.map b1 (Fi Value.string Value.bool x1) x1.length] [true,true] rfl).k6 3 5 10 11 12 21 rfl
     refine Tn (Fc h (S.tm rfl) (fun hb3 h=>?_) (fun hb3 h=>?_))
     ·refine Fr (Vk S rfl rfl fun a S=>Dl (wp_ret (Gq (Dv (Gq (Dv (Dv ?_)))))))
      refine Gq (Dv (Dv ?_))
      obtain rfl:=Option.some.inj h
      exact Et S results124 rfl rfl
     ·refine Fr (Vf NV S rfl rfl fun a S=>Vl isAgg3 0 S rfl rfl rfl rfl fun a S=>Eb S (fun _=>Dq (vs:=[iV y1.Heats,iV 1,iV 60]) ⟨(S.tm rfl),rfl,rfl,trivial⟩ call79) (Gj _ y1.Heats 1 60 _ rfl) rfl ?_);clear S;intro v2 a w7 hv2 hk5 hn2 S
      subst hv2
      refine Vu S Ih rfl rfl fun a S=>Vm S rfl rfl fun a S=>Iy 5 (fun a w'=>Keep [] w7 w' ∧ Sx w [] nov [.blk b3 (Om.enc y1) 89,.map b1 (Fi Value.string Value.bool x1) x1.length] [(3,.map (some b1)),(5,.pointer (some ⟨b3,0,none⟩)),(10,Ac),(11,iV (Aj.length : Int)),(12,iV (i1 : Int)),(36,bV ((!(Dt y1.Heats 1 60)) || (!(Dt y1.Long 1 3600000))))] 53 a w') ?_ ?_
      ·rcases Bool.eq_false_or_eq_true (!(Dt y1.Heats 1 60)) with hb4 | hb4
       ·iterate 4 (refine Ht S rfl rfl rfl (Oa hb4) rfl ?_ rfl;clear S;intro a S)
        exact lv S (Mo (!(Dt y1.Long 1 3600000)) hb4 (S.tm rfl) rfl) rfl fun a S=>Dl (⟨Keep.refl _ _,S.nf [true,true] rfl (subR rfl)⟩)
       ·refine Dy S rfl rfl rfl hb4 (Vf NW S rfl rfl fun a S=>Dy S rfl rfl rfl hb4 (Vl isAgg3 0 S rfl rfl rfl rfl fun a S=>Dy S rfl rfl rfl hb4 (Eb S (fun _=>Dq (vs:=[iV y1.Long,iV 1,iV 3600000]) ⟨(S.tm rfl),rfl,rfl,trivial⟩ call79) (Gj _ y1.Long 1 3600000 _ rfl) rfl ?_)));clear S;intro v3 a w9 hv3 hk6 hn3 S
        subst hv3
        exact Dy S rfl rfl rfl hb4 (Vu S Ih rfl rfl fun a S=>lv S (Mp hb4 (S.tm rfl) (S.tm rfl)) rfl fun a S=>Dl (⟨hk6,S.nf [true,true] rfl (subR rfl)⟩))
      clear S;rintro a w8 ⟨hk7,S⟩
      refine Vm S rfl rfl fun a S=>Iy 5 (fun a w'=>Keep [] w8 w' ∧ Sx w [] nov [.blk b3 (Om.enc y1) 89,.map b1 (Fi Value.string Value.bool x1) x1.length] [(3,.map (some b1)),(5,.pointer (some ⟨b3,0,none⟩)),(10,Ac),(11,iV (Aj.length : Int)),(12,iV (i1 : Int)),(42,bV (((!(Dt y1.Heats 1 60)) || (!(Dt y1.Long 1 3600000))) || (!(Dt y1.Gap 0 3600000))))] 53 a w') ?_ ?_
      ·rcases Bool.eq_false_or_eq_true ((!(Dt y1.Heats 1 60)) || (!(Dt y1.Long 1 3600000))) with hb5 | hb5
       ·iterate 4 (refine Ht S rfl rfl rfl (Oa hb5) rfl ?_ rfl;clear S;intro a S)
        exact lv S (Mo (!(Dt y1.Gap 0 3600000)) hb5 (S.tm rfl) rfl) rfl fun a S=>Dl (⟨Keep.refl _ _,S.nf [true,true] rfl (subR rfl)⟩)
       ·refine Dy S rfl rfl rfl hb5 (Vf TD S rfl rfl fun a S=>Dy S rfl rfl rfl hb5 (Vl isAgg3 0 S rfl rfl rfl rfl fun a S=>Dy S rfl rfl rfl hb5 (Eb S (fun _=>Dq (vs:=[iV y1.Gap,iV 0,iV 3600000]) ⟨(S.tm rfl),rfl,rfl,trivial⟩ call79) (Gj _ y1.Gap 0 3600000 _ rfl) rfl ?_)));clear S;intro v4 a w11 hv4 hk8 hn4 S
        subst hv4
        exact Dy S rfl rfl rfl hb5 (Vu S Ih rfl rfl fun a S=>lv S (Mp hb5 (S.tm rfl) (S.tm rfl)) rfl fun a S=>Dl (⟨hk8,S.nf [true,true] rfl (subR rfl)⟩))
      clear S;rintro a w10 ⟨hk9,S⟩
      refine Vm S rfl rfl fun a S=>Iy 5 (fun a w'=>Keep [] w10 w' ∧ Sx w [] nov [.blk b3 (Om.enc y1) 89,.map b1 (Fi Value.string Value.bool x1) x1.length] [(3,.map (some b1)),(5,.pointer (some ⟨b3,0,none⟩)),(10,Ac),(11,iV (Aj.length : Int)),(12,iV (i1 : Int)),(48,bV ((((!(Dt y1.Heats 1 60)) || (!(Dt y1.Long 1 3600000))) || (!(Dt y1.Gap 0 3600000))) || (!(Dt y1.Break 0 3600000))))] 53 a w') ?_ ?_
      ·rcases Bool.eq_false_or_eq_true (((!(Dt y1.Heats 1 60)) || (!(Dt y1.Long 1 3600000))) || (!(Dt y1.Gap 0 3600000))) with hb6 | hb6
       ·iterate 4 (refine Ht S rfl rfl rfl (Oa hb6) rfl ?_ rfl;clear S;intro a S)
        exact lv S (Mo (!(Dt y1.Break 0 3600000)) hb6 (S.tm rfl) rfl) rfl fun a S=>Dl (⟨Keep.refl _ _,S.nf [true,true] rfl (subR rfl)⟩)
       ·refine Dy S rfl rfl rfl hb6 (Vf TF S rfl rfl fun a S=>Dy S rfl rfl rfl hb6 (Vl isAgg3 0 S rfl rfl rfl rfl fun a S=>Dy S rfl rfl rfl hb6 (Eb S (fun _=>Dq (vs:=[iV y1.Break,iV 0,iV 3600000]) ⟨(S.tm rfl),rfl,rfl,trivial⟩ call79) (Gj _ y1.Break 0 3600000 _ rfl) rfl ?_)));clear S;intro v5 a w13 hv5 hk10 hn5 S
        subst hv5
        exact Dy S rfl rfl rfl hb6 (Vu S Ih rfl rfl fun a S=>lv S (Mp hb6 (S.tm rfl) (S.tm rfl)) rfl fun a S=>Dl (⟨hk10,S.nf [true,true] rfl (subR rfl)⟩))
      clear S;rintro a w12 ⟨hk11,S⟩
      refine Va S rfl rfl fun a S=>Dl (Fc h (S.tm rfl) (fun hb7 h=>?_) (fun hb7 h=>?_))
      ·refine Fr (Vk S rfl rfl fun a S=>Dl (wp_ret (Gq (Dv (Gq (Dv (Dv ?_)))))))
       refine Gq (Dv (Dv ?_))
       obtain rfl:=Option.some.inj h
       exact Et S results124 rfl rfl
      ·refine wp_skip (Hp (Tn (Fg (Vm S rfl rfl fun a S=>Vf JF S rfl rfl fun a S=>Vl isAgg9 0 S rfl rfl rfl rfl fun a S=>Nm (kv:=Value.string) (vv:=Value.bool) (m:=x1) (key:=y1.Key) (val:=true) S (i:=1) rfl underlying223 (Lm underlying9) (S.tm rfl) (S.tm rfl) rfl ?_))));clear S;intro w14 hk12 S
       exact Ld (Hp (Tn (Fg (Vq S Gc rfl rfl rfl fun a S=>Vm S rfl rfl fun a S=>Dl (⟨ys1,⟨i1 + 1,(Gk x1 y1.Key true),⟨_,(hd1).trans (List.append_cons _ _ _),by simp [hi1]⟩,h,S.nf [false,true] rfl ⟨rfl,rfl,rfl,(congrArg (fun z=>some (Value.int .i64 z)) (Ib hd1 hi1 (Jp Ai))),trivial⟩⟩,Nat.lt_succ_self _⟩)))))
  clear S h;rintro a w3 ⟨x1,h,S⟩;rw [hj1] at h;clear hj1 j1
  refine Tn (Fr (Vk S rfl rfl fun a S=>Dl (wp_ret ?_)))
  obtain rfl:=Option.some.inj h
  exact Et S results124 rfl rfl
theorem DN (w : World) (Ac : Value) (Aj : List Om) (Ai : Slc (view w []) 5 Ac (Aj.map Om.enc)) (Bk : Int) (r : (List Ln)) (h : Xd Aj Bk = some r) :
    Calls prog 153 [Ac,iV Bk].toArray w (Ret w [] fun τ v _=>Uq τ 195 4 v r.length (r.flatMap Ln.enc)):=by
 refine Fe func153 rfl ntmps153 rfl fun a S=>?_
 unfold Xd at h
 replace S:=S.k2 0 1 rfl
 refine Fr (Vk S rfl rfl fun a S=>Dz (Vk S rfl rfl ?_));clear S;intro a S
 replace S:=S.nil 195 4
 refine Dz (Vm S rfl rfl fun a S=>Va S rfl rfl fun a S=>Dl (Fs (Fs (Fg ?_))))
 refine Vm S rfl rfl fun a S=>lv S (Gi PF (S.tm rfl) (Gf Ai)) rfl fun a S=>lv S (Rm rfl) rfl fun a S=>Dl ?_
 replace S:=(S.nl [.own (.slice none 0 0) 195 4 ([] : List Ln).length (([] : List Ln).flatMap Ln.enc)] [true] rfl).k5 5 6 11 12 13 rfl
 obtain ⟨j1,hj1,h⟩:=Eu h
 refine Eh (fun a w'=>∃ x1 : List Ln,∃ v1 : Value,j1 x1 = some r ∧ Sx w [] nov [.own v1 195 4 x1.length (x1.flatMap Ln.enc)] [(5,v1)] 54 a w') ?_ ?_
 ·refine wp_block (Gr (fun (ys1 : List Om) a w'=>∃ i1 : Nat,∃ x1 : List Ln,∃ x2 : Int,∃ v1 : Value,(∃ dn,Aj = dn ++ ys1 ∧ dn.length = i1) ∧ Ml j1 ys1 i1 x1 x2 = some r ∧ Sx w [] nov [.own v1 195 4 x1.length (x1.flatMap Ln.enc)] [(5,v1),(6,iV x2),(11,Ac),(12,iV (Aj.length : Int)),(13,iV (i1 : Int))] 54 a w') List.length Aj ⟨0,([] : List Ln),Bk,(.slice none 0 0),⟨[],rfl,rfl⟩,h,S.nf [true] rfl (subR rfl)⟩ ?_)
  clear S h;rintro ys1 a w1 ⟨i1,x1,x2,v1,⟨dn,hd1,hi1⟩,h,S⟩
  cases ys1 with
  | nil =>
   rw [Ml.eq_1] at h
   refine Fr (Vb S Es rfl rfl rfl fun a S=>Ld ?_)
   replace S:=S.k6 5 6 11 12 13 14 rfl
   exact Tn (Fs (wp_cond_false ((S.tm rfl).trans (congrArg Value.bool (Jd hd1 hi1))) (wp_exit (Ed (Ed (Gn (Tn (⟨x1,v1,h,S.nf [true] rfl ⟨rfl,trivial⟩⟩))))))))
  | cons y1 ys1 =>
   rw [Ml.eq_2] at h
   refine Fr (Vb S Es rfl rfl rfl fun a S=>Ld ?_)
   replace S:=S.k6 5 6 11 12 13 14 rfl
   refine Tn (Fs (wp_cond_true ((S.tm rfl).trans (congrArg Value.bool (Ia hd1 hi1))) (wp_skip (Tn (Fs (wp_block (Fs (Fg ?_))))))))
   obtain ⟨b1,o1,hm1,hr1⟩:=Fk (a:=a) (x:=.tmp 11) (y:=.tmp 13) (ty:=0) PF Ai (Jc hd1 hi1) rfl (S.tm rfl) (S.tm rfl)
   refine lv S (hr1 _) rfl ?_;clear S;intro a S
   clear hr1
   refine lv S (Fb isAgg89 sizeOf89 (off:=o1) (o:=0) (part:=(Om.enc y1)) rfl rfl (S.tm rfl) (hm1.at S.emb0)) rfl fun a S=>Hq S zeroValue89 (cs:=[sV An,iV 0,iV 0,iV 0,iV 0]) rfl rfl ?_;clear S;intro a w3 b2 hz1 hk1 S
   refine Ex S (S.tm rfl) (S.tm rfl) (i:=0) (off:=0) rfl sizeOf89 (vs:=(Om.enc y1)) rfl rfl rfl rfl ?_;clear S;intro w4 hk2 S
   refine Dl (Fs (Fr (Vk S rfl rfl fun a S=>Dl ?_)))
   replace S:=(S.nl [.blk b2 (Om.enc y1) 89,.own v1 195 4 x1.length (x1.flatMap Ln.enc)] [true,true] rfl).k7 5 6 8 9 11 12 13 rfl
   obtain ⟨j2,hj2,h⟩:=Eu h
   refine Eh (fun a w'=>∃ x3 : List Ln,∃ x4 : Int,∃ v2 : Value,j2 x3 x4 = some r ∧ Sx w [] nov [.blk b2 (Om.enc y1) 89,.own v2 195 4 x3.length (x3.flatMap Ln.enc)] [(5,v2),(6,iV x4),(8,.pointer (some ⟨b2,0,none⟩)),(11,Ac),(12,iV (Aj.length : Int)),(13,iV (i1 : Int))] 54 a w') ?_ ?_
   ·refine wp_block (Gr (fun (m1 : Nat) a w'=>∃ x3 : List Ln,∃ x4 : Int,∃ x5 : Int,∃ v2 : Value,Mk y1 j2 m1 x3 x4 x5 = some r ∧ Sx w [] nov [.blk b2 (Om.enc y1) 89,.own v2 195 4 x3.length (x3.flatMap Ln.enc)] [(5,v2),(6,iV x4),(8,.pointer (some ⟨b2,0,none⟩)),(9,iV x5),(11,Ac),(12,iV (Aj.length : Int)),(13,iV (i1 : Int))] 54 a w') id ((y1.Heats - 1).toNat + 2) ⟨x1,x2,1,v1,h,S.nf [true,true] rfl (subR rfl)⟩ ?_)
    clear S h;rintro m1 a w5 ⟨x3,x4,x5,v2,h,S⟩
    cases m1 with
    | zero=>rw [Mk.eq_1] at h;cases h
    | succ m1 =>
     rw [Mk.eq_2] at h
     refine Fs (Fr (Vm S rfl rfl fun a S=>Vf NV S rfl rfl fun a S=>Vl isAgg3 0 S rfl rfl rfl rfl fun a S=>Vb S Uj rfl rfl rfl fun a S=>Dl (Fc h (S.tm rfl) (fun hb1 h=>?_) (fun hb1 h=>?_))))
     ·refine wp_skip (Tn (Fs ?_))
      obtain ⟨j3,hj3,h⟩:=Eu h
      refine Eh (fun a w'=>∃ x6 : List Ln,∃ x7 : Int,∃ v3 : Value,j3 x6 x7 = some r ∧ Sx w [] nov [.blk b2 (Om.enc y1) 89,.own v3 195 4 x6.length (x6.flatMap Ln.enc)] [(5,v3),(6,iV x7),(8,.pointer (some ⟨b2,0,none⟩)),(9,iV x5),(11,Ac),(12,iV (Aj.length : Int)),(13,iV (i1 : Int))] 54 a w') ?_ ?_
      ·refine wp_block (Fr (Vm S rfl rfl fun a S=>Vf JF S rfl rfl fun a S=>Vl isAgg9 0 S rfl rfl rfl rfl ?_));clear S;intro a S
       iterate 3 (refine Vm S rfl rfl ?_;clear S;intro a S)
       refine Vf NW S rfl rfl fun a S=>Vl isAgg3 0 S rfl rfl rfl rfl fun a S=>Vb S Gc rfl rfl rfl fun a S=>lv S (Nl bt_193 (pv:=[(0,iV x4),(1,iV (W (x4 + y1.Long)))]) ⟨rfl,(S.tm rfl),rfl,(S.tm rfl),trivial⟩ (cs:=[iV x4,iV (W (x4 + y1.Long))]) (by kernel_rfl)) rfl fun a S=>lv S (Nl bt_195 (pv:=[(0,sV y1.Key),(1,iV x5),(2,.agg #[iV x4,iV (W (x4 + y1.Long))])]) ⟨rfl,(S.tm rfl),rfl,(S.tm rfl),rfl,(S.tm rfl),trivial⟩ (cs:=[sV y1.Key,iV x5,iV x4,iV (W (x4 + y1.Long))]) (by kernel_rfl)) rfl fun a S=>Ey S underlying150 sizeOf195 zeroValue195 rfl rfl (pv:=[(0,.agg #[sV y1.Key,iV x5,iV x4,iV (W (x4 + y1.Long))])]) ⟨rfl,(S.tm rfl),trivial⟩ (cs:=[sV y1.Key,iV x5,iV x4,iV (W (x4 + y1.Long))]) (by kernel_rfl) rfl ?_;clear S;intro a w8 b3 hz2 hk3 S
       obtain ⟨hc1,h⟩:=Ig h
       refine Ni NM Ln.enc_ok S (S.tm rfl) (i:=2) rfl (S.tm rfl) (j:=0) rfl (ys:=[(Ln.mk y1.Key x5 (Vj.mk x4 (W (x4 + y1.Long))))]) rfl rfl rfl rfl (by have:=Nu hc1;omega) rfl ?_;clear S;intro v4 a w9 hk4 S
       refine Va S rfl rfl fun a S=>Ld ?_
       replace S:=(S.nl [.blk b2 (Om.enc y1) 89,.own v4 195 4 (x3 ++ [(Ln.mk y1.Key x5 (Vj.mk x4 (W (x4 + y1.Long))))]).length ((x3 ++ [(Ln.mk y1.Key x5 (Vj.mk x4 (W (x4 + y1.Long))))]).flatMap Ln.enc)] [false,true,true] rfl).k7 5 6 8 9 11 12 13 rfl
       refine Tn (Fr (Vm S rfl rfl fun a S=>Vf NW S rfl rfl fun a S=>Vl isAgg3 0 S rfl rfl rfl rfl fun a S=>Vb S Gc rfl rfl rfl fun a S=>Va S rfl rfl fun a S=>Dl (Fs ?_)))
       refine Fg (Vm S rfl rfl fun a S=>Vf NV S rfl rfl fun a S=>Vl isAgg3 0 S rfl rfl rfl rfl fun a S=>Vb S Es rfl rfl rfl fun a S=>Ld ?_)
       replace S:=S.k8 5 6 8 9 11 12 13 43 rfl
       refine Tn ?_
       obtain ⟨j4,hj4,h⟩:=Eu h
       refine Eh (fun a w'=>∃ x8 : Int,j4 x8 = some r ∧ Sx w [] nov [.blk b2 (Om.enc y1) 89,.own v4 195 4 (x3 ++ [(Ln.mk y1.Key x5 (Vj.mk x4 (W (x4 + y1.Long))))]).length ((x3 ++ [(Ln.mk y1.Key x5 (Vj.mk x4 (W (x4 + y1.Long))))]).flatMap Ln.enc)] [(5,v4),(6,iV x8),(8,.pointer (some ⟨b2,0,none⟩)),(9,iV x5),(11,Ac),(12,iV (Aj.length : Int)),(13,iV (i1 : Int))] 54 a w') ?_ ?_
       ·refine Fc h (S.tm rfl) (fun hb2 h=>?_) (fun hb2 h=>?_)
        ·exact Fg (Vm S rfl rfl fun a S=>Vf TD S rfl rfl fun a S=>Vl isAgg3 0 S rfl rfl rfl rfl fun a S=>Vb S Gc rfl rfl rfl fun a S=>Va S rfl rfl fun a S=>Dl (⟨W ((W (x4 + y1.Long)) + y1.Gap),h,S.nf [true,true] rfl (subR rfl)⟩))
        ·exact wp_skip (Tn (⟨W (x4 + y1.Long),h,S.nf [true,true] rfl (subR rfl)⟩))
       clear S h;rintro a w10 ⟨x8,h,S⟩;rw [hj4] at h;clear hj4 j4
       exact Hp (Tn (⟨(x3 ++ [(Ln.mk y1.Key x5 (Vj.mk x4 (W (x4 + y1.Long))))]),x8,v4,h,S.nf [true,true] rfl (subR rfl)⟩))
      clear S h;rintro a w7 ⟨x6,x7,v3,h,S⟩;rw [hj3] at h;clear hj3 j3
      exact Tn (Fg (Vm S rfl rfl fun a S=>Vq S Gc rfl rfl rfl fun a S=>Va S rfl rfl fun a S=>Dl (⟨m1,⟨x6,x7,W (x5 + 1),v3,h,S.nf [true,true] rfl ⟨rfl,rfl,rfl,rfl,rfl,rfl,rfl,trivial⟩⟩,Nat.lt_succ_self _⟩)))
     ·exact wp_exit (Ed (Ed (Gn (Tn (⟨x3,x4,v2,h,S.nf [true,true] rfl (subR rfl)⟩)))))
   clear S h;rintro a w6 ⟨x3,x4,v2,h,S⟩;rw [hj2] at h;clear hj2 j2
   refine Tn (Fg (Vm S rfl rfl fun a S=>Vf TF S rfl rfl fun a S=>Vl isAgg3 0 S rfl rfl rfl rfl fun a S=>Vb S Gc rfl rfl rfl fun a S=>Va S rfl rfl fun a S=>Ld (Hp (Tn (Fg ?_)))))
   exact Vq S Gc rfl rfl rfl fun a S=>Vm S rfl rfl fun a S=>Dl (⟨ys1,⟨i1 + 1,x3,W (x4 + y1.Break),v2,⟨_,(hd1).trans (List.append_cons _ _ _),by simp [hi1]⟩,h,S.nf [false,true] rfl ⟨rfl,rfl,rfl,rfl,(congrArg (fun z=>some (Value.int .i64 z)) (Ib hd1 hi1 (Jp Ai))),trivial⟩⟩,Nat.lt_succ_self _⟩)
 clear S h;rintro a w2 ⟨x1,v1,h,S⟩;rw [hj1] at h;clear hj1 j1
 refine Tn (Fr (Vm S rfl rfl fun a S=>Va S rfl rfl fun a S=>Dl (wp_ret ?_)))
 obtain rfl:=Option.some.inj h
 exact Et S results153 rfl (Ut S (i:=0) rfl rfl)
theorem DO (w : World) (Ac : Value) (Aj : List Ln) (Ai : Slc (view w []) 4 Ac (Aj.map Ln.enc)) (Bk : Int) (r : Int) (h : Zy Aj Bk = some r) :
    Calls prog 84 [Ac,iV Bk].toArray w (Ret w [] fun _ v _=>v = iV r):=by
 refine Fe func84 rfl ntmps84 rfl fun a S=>?_
 unfold Zy at h
 replace S:=S.k2 0 1 rfl
 refine Fr (Vk S rfl rfl fun a S=>Dl (Fs (Fr (Vm S rfl rfl fun a S=>lv S (Gi NM (S.tm rfl) (Gf Ai)) rfl fun a S=>Vq S Jk rfl rfl rfl ?_))));clear S;intro a S
 refine Dl (Fc h (S.tm rfl) (fun hb1 h=>?_) (fun hb1 h=>?_))
 ·refine Fr (Vm S rfl rfl fun a S=>Va S rfl rfl fun a S=>Dl (wp_ret (Dv ?_)))
  obtain rfl:=Option.some.inj h
  exact Et S results84 rfl rfl
 ·refine wp_skip (Tn (Fr (Vm S rfl rfl fun a S=>Vm S rfl rfl fun a S=>lv S (Gi NM (S.tm rfl) (Gf Ai)) rfl fun a S=>Vq S Iw rfl rfl rfl ?_)));clear S;intro a S
  obtain ⟨hc1,h⟩:=Ig h
  obtain ⟨b1,o1,hm1,hr1⟩:=Fk (a:=a) (x:=.tmp 9) (y:=.tmp 12) (ty:=0) NM Ai (Dw hc1).1 (Dw hc1).2 (S.tm rfl) (S.tm rfl)
  refine lv S (hr1 _) rfl ?_;clear S;intro a S
  clear hr1
  refine Vf XH S rfl rfl fun a S=>Vf XG S rfl rfl fun a S=>lv S (Hx isAgg3 (off:=o1) (o:=3) (S.tm rfl) (hm1.at S.emb0) rfl) rfl fun a S=>Va S rfl rfl fun a S=>Dl (wp_ret ?_)
  obtain rfl:=Option.some.inj h
  exact Et S results84 rfl rfl
theorem HP (w : World) (Ac : Value) (Aj : List Om) (Ai : Slc (view w []) 5 Ac (Aj.map Om.enc)) (Bk : Int) (r : (List Ln) × Int) (h : AJ Aj Bk = some r) :
    Calls prog 125 [Ac,iV Bk].toArray w (Ret w [] fun τ v _=>∃ u1 : Value,v = .tuple #[u1,iV r.2] ∧ Uq τ 195 4 u1 r.1.length (r.1.flatMap Ln.enc)):=by
 refine Fe func125 rfl ntmps125 rfl fun a S=>?_
 unfold AJ at h
 replace S:=S.k2 0 1 rfl
 refine Fr (Vk S rfl rfl fun a S=>Vk S rfl rfl fun a S=>Dl (Fs (Fr (Vm S rfl rfl fun a S=>Eb S (fun _=>Dq (vs:=[iV Bk]) ⟨(S.tm rfl),trivial⟩ call73) (Xh _ Bk _ rfl) rfl ?_))));clear S;intro v1 a w1 hv1 hk1 hn1 S
 subst hv1
 refine Vu S Ih rfl rfl fun a S=>Dl (Fc h (S.tm rfl) (fun hb1 h=>?_) (fun hb1 h=>?_))
 ·refine Fr (Vk S rfl rfl fun a S=>Vk S rfl rfl fun a S=>Dl (wp_ret (Dv ?_)))
  obtain rfl:=Option.some.inj h
  exact Mq S results125 rfl rfl ⟨_,rfl,(Ro _ _ _)⟩
 ·refine wp_skip (Tn (Fr (Vm S rfl rfl fun a S=>Vm S rfl rfl ?_)));clear S;intro a S
  obtain ⟨r1,hr1,h⟩:=Fa h
  have hz1:=S.keep.size
  refine Eb S (fun _=>Dq (vs:=[Ac,iV Bk]) ⟨(S.tm rfl),(S.tm rfl),trivial⟩ call153) (DN _ Ac Aj (Ai.mono (S.le_arg Eg)) Bk _ hr1) rfl ?_;clear S;intro v2 a w2 hv2 hk2 hn2 S
  obtain ⟨φ1,hl1,hm1,S⟩:=S.see' hn2 hz1
  have hs1:=hv2.mono hm1
  refine Va S rfl rfl fun a S=>Dl (Fs (Fr (Vm S rfl rfl fun a S=>Vm S rfl rfl ?_)));clear S;intro a S
  obtain ⟨r2,hr2,h⟩:=Fa h
  refine Eb S (fun _=>Dq (vs:=[v2,iV Bk]) ⟨(S.tm rfl),(S.tm rfl),trivial⟩ call84) (DO _ v2 r1 ((Ge Ln.enc_ok hs1).mono (S.le_new Eg)) Bk _ hr2) rfl ?_;clear S;intro v3 a w3 hv3 hk3 hn3 S
  subst hv3
  refine Vq S Kb rfl rfl rfl fun a S=>Ld ?_
  replace S:=S.k2 6 16 rfl
  refine Tn (Fc h (S.tm rfl) (fun hb2 h=>?_) (fun hb2 h=>?_))
  ·refine Fr (Vk S rfl rfl fun a S=>Vk S rfl rfl fun a S=>Dl (wp_ret (Dv ?_)))
   obtain rfl:=Option.some.inj h
   exact Mq S results125 rfl rfl ⟨_,rfl,(Ro _ _ _)⟩
  ·refine wp_skip (Tn (Fr (Vm S rfl rfl fun a S=>Va S rfl rfl fun a S=>Vk S rfl rfl fun a S=>Dl (wp_ret ?_))))
   obtain rfl:=Option.some.inj h
   exact Mq S results125 rfl rfl ⟨_,rfl,((hs1).mono S.le_newer)⟩
theorem DP (w : World) (Ac : Value) (Aj : List Om) (Ai : Slc (view w []) 5 Ac (Aj.map Om.enc)) (Bk : Int) (r : (List Ln) × Int) (h : Xe Aj Bk = some r) :
    Calls prog 83 [Ac,iV Bk].toArray w (Ret w [] fun τ v _=>∃ u1 : Value,v = .tuple #[u1,iV r.2] ∧ Uq τ 195 4 u1 r.1.length (r.1.flatMap Ln.enc)):=by
 refine Fe func83 rfl ntmps83 rfl fun a S=>?_
 unfold Xe at h
 replace S:=S.k2 0 1 rfl
 refine Fr (Vk S rfl rfl fun a S=>Vk S rfl rfl fun a S=>Dl (Fs (Fr (Vm S rfl rfl ?_))));clear S;intro a S
 obtain ⟨r1,hr1,h⟩:=Fa h
 refine Eb S (fun _=>Dq (vs:=[Ac]) ⟨(S.tm rfl),trivial⟩ call124) (CK _ Ac Aj (Ai.mono (S.le_arg Eg)) _ hr1) rfl ?_;clear S;intro v1 a w1 hv1 hk1 hn1 S
 subst hv1
 refine Va S rfl rfl fun a S=>Dz (Vm S rfl rfl fun a S=>Vq S Mn rfl rfl rfl fun a S=>Dl (Fc h (S.tm rfl) (fun hb1 h=>?_) (fun hb1 h=>?_)))
 ·refine Fr (Vm S rfl rfl fun a S=>Vk S rfl rfl fun a S=>Va S rfl rfl fun a S=>Dl (wp_ret (Dv ?_)))
  obtain rfl:=Option.some.inj h
  exact Mq S results83 rfl rfl ⟨_,rfl,(Ro _ _ _)⟩
 ·refine wp_skip (Tn (Fr (Vm S rfl rfl fun a S=>Vm S rfl rfl ?_)));clear S;intro a S
  obtain ⟨r2,hr2,h⟩:=Fa h
  have hz1:=S.keep.size
  refine Eb S (fun _=>Dq (vs:=[Ac,iV Bk]) ⟨(S.tm rfl),(S.tm rfl),trivial⟩ call125) (HP _ Ac Aj (Ai.mono (S.le_arg Eg)) Bk _ hr2) rfl ?_;clear S;intro v2 a w2 hv2 hk2 hn2 S
  obtain ⟨u1,rfl,ho1⟩:=hv2
  obtain ⟨φ1,hl1,hm1,S⟩:=S.see' hn2 hz1
  have hs1:=ho1.mono hm1
  refine Vq S Fu rfl rfl rfl fun a S=>Vq S Fu rfl rfl rfl fun a S=>Va S rfl rfl fun a S=>Va S rfl rfl fun a S=>Dl (wp_ret ?_)
  obtain rfl:=Option.some.inj h
  exact Mq S results83 rfl rfl ⟨_,rfl,((hs1).mono S.le_newer)⟩
theorem IV (w : World) (Ac : Value) (Aj : List Om) (Ai : Slc (view w []) 5 Ac (Aj.map Om.enc)) (Bk : Int) (r : Int × Int) (h : BQ Aj Bk = some r) :
    Calls prog 34 [Ac,iV Bk].toArray w (Ret w [] fun _ v _=>v = .tuple #[iV r.1,iV r.2]):=by
 refine Fe func34 rfl ntmps34 rfl fun a S=>?_
 unfold BQ at h
 replace S:=S.k2 0 1 rfl
 refine Fr (Vk S rfl rfl fun a S=>Vk S rfl rfl fun a S=>Dz (Vm S rfl rfl fun a S=>Vm S rfl rfl ?_));clear S;intro a S
 obtain ⟨r1,hr1,h⟩:=Fa h
 have hz1:=S.keep.size
 refine Eb S (fun _=>Dq (vs:=[Ac,iV Bk]) ⟨(S.tm rfl),(S.tm rfl),trivial⟩ call83) (DP _ Ac Aj (Ai.mono (S.le_arg Eg)) Bk _ hr1) rfl ?_;clear S;intro v1 a w1 hv1 hk1 hn1 S
 obtain ⟨u1,rfl,ho1⟩:=hv1
 obtain ⟨φ1,hl1,hm1,S⟩:=S.see' hn1 hz1
 have hs1:=ho1.mono hm1
 refine Vm S rfl rfl fun a S=>Vq S Fu rfl rfl rfl fun a S=>Vq S Fu rfl rfl rfl fun a S=>Va S rfl rfl fun a S=>Va S rfl rfl fun a S=>Dl (Fs (Fr (Vm S rfl rfl ?_)));clear S;intro a S
 refine Vq S Mn rfl rfl rfl fun a S=>Dl (Fc h (S.tm rfl) (fun hb1 h=>?_) (fun hb1 h=>?_))
 ·refine Fr (Vm S rfl rfl fun a S=>Vk S rfl rfl fun a S=>Va S rfl rfl fun a S=>Ld ?_)
  replace S:=S.k2 4 5 rfl
  refine Tn (wp_ret (Dv ?_))
  obtain rfl:=Option.some.inj h
  exact Mq S results34 rfl rfl rfl
 ·refine wp_skip (Tn (Fr (Vm S rfl rfl fun a S=>Vm S rfl rfl ?_)));clear S;intro a S
  obtain ⟨r2,hr2,h⟩:=Fa h
  refine Eb S (fun _=>Dq (vs:=[u1,iV Bk]) ⟨(S.tm rfl),(S.tm rfl),trivial⟩ call84) (DO _ u1 r1.1 ((Ge Ln.enc_ok hs1).mono (S.le_new Eg)) Bk _ hr2) rfl ?_;clear S;intro v2 a w2 hv2 hk2 hn2 S
  subst hv2
  refine Va S rfl rfl fun a S=>Vk S rfl rfl fun a S=>Ld ?_
  replace S:=S.k2 4 5 rfl
  refine Tn (wp_ret ?_)
  obtain rfl:=Option.some.inj h
  exact Mq S results34 rfl rfl rfl
theorem AY (w : World) (Bb : Int) (r : Bool) (h : Yb Bb = r) :
    Calls prog 87 [iV Bb].toArray w (Ret w [] fun _ v _=>v = bV r):=by
 refine Fe func87 rfl ntmps87 rfl fun a S=>?_
 unfold Yb at h
 replace S:=S.k1 0 rfl
 refine Fr (Vk S rfl rfl fun a S=>Dz (Vm S rfl rfl fun a S=>Eb S (fun _=>Dq (vs:=[iV Bb,iV 1,iV 360000]) ⟨(S.tm rfl),rfl,rfl,trivial⟩ call79) (Gj _ Bb 1 360000 _ rfl) rfl ?_));clear S;intro v1 a w1 hv1 hk1 hn1 S
 subst hv1
 refine Va S rfl rfl fun a S=>Dl (wp_ret ?_)
 subst h
 exact Et S results87 rfl rfl
set_option maxRecDepth 20000 in
theorem EM (w : World) (Ac : Value) (Aj : List Sr) (Ai : Slc (view w []) 2 Ac (Aj.map Sr.enc)) (r : Int) (h : Xs Aj = some r) :
    Calls prog 85 [Ac].toArray w (Ret w [] fun _ v _=>v = iV r):=by
 refine Fe func85 rfl ntmps85 rfl fun a S=>?_
 unfold Xs at h
 replace S:=S.k1 0 rfl
 refine Fr (Vk S rfl rfl fun a S=>Dl (Fs (Fr (Vm S rfl rfl fun a S=>lv S (Gi MG (S.tm rfl) (Gf Ai)) rfl fun a S=>Vq S Kb rfl rfl rfl ?_))));clear S;intro a S
 refine Dl (Fc h (S.tm rfl) (fun hb1 h=>?_) (fun hb1 h=>?_))
 ·refine Fr (Vk S rfl rfl fun a S=>Dl (wp_ret (Dv ?_)))
  obtain rfl:=Option.some.inj h
  exact Et S results85 rfl rfl
 ·refine wp_skip (Tn (Fs (Fr (Vm S rfl rfl fun a S=>lv S (Gi MG (S.tm rfl) (Gf Ai)) rfl fun a S=>lv S (Rm rfl) rfl fun a S=>Dl ?_))))
  replace S:=S.k4 0 8 9 10 rfl
  obtain ⟨j1,hj1,h⟩:=Eu h
  refine Eh (fun a w'=>j1 = some r ∧ Sx w [] nov [] [] 40 a w') ?_ ?_
  ·refine wp_block (Gr (fun (ys1 : List Sr) a w'=>∃ i1 : Nat,(∃ dn,Aj = dn ++ ys1 ∧ dn.length = i1) ∧ Nd Aj j1 ys1 i1 = some r ∧ Sx w [] nov [] [(0,Ac),(8,Ac),(9,iV (Aj.length : Int)),(10,iV (i1 : Int))] 40 a w') List.length Aj ⟨0,⟨[],rfl,rfl⟩,h,S.nf [] rfl (subR rfl)⟩ ?_)
   clear S h;rintro ys1 a w1 ⟨i1,⟨dn,hd1,hi1⟩,h,S⟩
   cases ys1 with
   | nil =>
    rw [Nd.eq_1] at h
    refine Fr (Vb S Es rfl rfl rfl fun a S=>Ld ?_)
    replace S:=S.k5 0 8 9 10 11 rfl
    exact Tn (Fs (wp_cond_false ((S.tm rfl).trans (congrArg Value.bool (Jd hd1 hi1))) (wp_exit (Ed (Ed (Gn (Tn (⟨h,S.nf [] rfl trivial⟩))))))))
   | cons y1 ys1 =>
    rw [Nd.eq_2] at h
    refine Fr (Vb S Es rfl rfl rfl fun a S=>Ld ?_)
    replace S:=S.k5 0 8 9 10 11 rfl
    refine Tn (Fs (wp_cond_true ((S.tm rfl).trans (congrArg Value.bool (Ia hd1 hi1))) (wp_skip (Tn (Fs (wp_block (Fr (Vm S rfl rfl ?_))))))));clear S;intro a S
    obtain ⟨b1,o1,hm1,hr1⟩:=Fk (a:=a) (x:=.tmp 8) (y:=.tmp 10) (ty:=0) MG Ai (Jc hd1 hi1) rfl (S.tm rfl) (S.tm rfl)
    refine lv S (hr1 _) rfl ?_;clear S;intro a S
    clear hr1
    refine lv S (Fb isAgg93 sizeOf93 (off:=o1) (o:=0) (part:=(Sr.enc y1)) rfl rfl (S.tm rfl) (hm1.at S.emb0)) rfl fun a S=>Hq S zeroValue93 (cs:=[sV An,iV 0]) rfl rfl ?_;clear S;intro a w3 b2 hz1 hk1 S
    refine Va S rfl rfl fun a S=>Ex S (S.tm rfl) (S.tm rfl) (i:=0) (off:=0) rfl sizeOf93 (vs:=(Sr.enc y1)) rfl rfl rfl rfl ?_;clear S;intro w4 hk2 S
    refine Dl (wp_block (Fr (Vf JG S rfl rfl fun a S=>Vl isAgg9 0 S rfl rfl rfl rfl ?_)));clear S;intro a S
    obtain ⟨r1,hr2,h⟩:=Fa h
    refine Eb S (fun _=>Dq (vs:=[sV y1.Race]) ⟨(S.tm rfl),trivial⟩ call106) (Mf _ y1.Race _ hr2) rfl ?_;clear S;intro v1 a w5 hv1 hk3 hn1 S
    subst hv1
    refine Vu S Ih rfl rfl fun a S=>Va S rfl rfl fun a S=>Ld ?_
    replace S:=(S.nl [.blk b2 (Sr.enc y1) 93] [true] rfl).k7 0 3 4 8 9 10 15 rfl
    refine Tn (Fc h (S.tm rfl) (fun hb2 h=>?_) (fun hb2 h=>?_))
    ·refine Fr (Vk S rfl rfl fun a S=>Dl (wp_ret (Gq (Gq (Dv (Dv (Gq ?_)))))))
     refine Dv (Dv ?_)
     obtain rfl:=Option.some.inj h
     exact Et S results85 rfl rfl
    ·refine Fs (Gt [] ([]) Tryz.mixed S rfl (by kernel_rfl) ?_);clear S;intro w6 hk4 hsel S
     refine Li [0,1,2,3,4,5,6,7,8,9,10,11,12,13] hsel (by kernel_rfl) rfl ?_
     clear hsel
     refine Gp S rfl (Rm (S.tm rfl)) rfl fun a S=>Gp S rfl (Kb (S.tm rfl) rfl) rfl fun a S=>Gp S rfl (Rm (S.tm rfl)) rfl ?_;clear S;intro a S
     obtain ⟨j2,hj2,h⟩:=Eu h
     refine Ym 10 (fun a w'=>∃ c1,j2 c1 = some r ∧ Keep [] w6 w' ∧ Sx w [] nov [.blk b2 (Sr.enc y1) 93] [(0,Ac),(4,.pointer (some ⟨b2,0,none⟩)),(8,Ac),(9,iV (Aj.length : Int)),(10,iV (i1 : Int)),(33,bV c1)] 40 a w') ?_ ?_
     ·rcases Bool.eq_false_or_eq_true (decide (0 < (i1 : Int))) with hb3 | hb3
      ·replace h:=Ti h hb3
       refine Fj S rfl rfl rfl rfl hb3 (Ha S (Gd JG (S.tm rfl)) rfl fun a S=>Fj S rfl rfl rfl rfl hb3 (Ha S (Nf isAgg9 (S.tm rfl) (S.cell (i:=0) rfl rfl)) rfl fun a S=>Fj S rfl rfl rfl rfl hb3 (Ha S (Rm (S.tm rfl)) rfl fun a S=>Fj S rfl rfl rfl rfl hb3 (Ha S (Rm (S.tm rfl)) rfl fun a S=>Fj S rfl rfl rfl rfl hb3 (Ha S (Iw (S.tm rfl) rfl) rfl fun a S=>Fj S rfl rfl rfl rfl hb3 ?_)))))
       obtain ⟨hc1,h⟩:=Ig h
       obtain ⟨b3,o2,hm2,hr3⟩:=Fk (a:=a) (x:=.tmp 26) (y:=.tmp 28) (ty:=0) MG Ai (Dw hc1).1 (Dw hc1).2 (S.tm rfl) (S.tm rfl)
       refine Ha S (hr3 _) rfl ?_;clear S;intro a S
       clear hr3
       exact Fj S rfl rfl rfl rfl hb3 (Ha S (Gd JG (S.tm rfl)) rfl fun a S=>Fj S rfl rfl rfl rfl hb3 (Ha S (Hx isAgg9 (off:=o2) (o:=0) (S.tm rfl) (hm2.at S.emb0) rfl) rfl fun a S=>Fj S rfl rfl rfl rfl hb3 (Ha S (SN (S.tm rfl) (S.tm rfl)) rfl fun a S=>Gp S rfl (Io hb3 (S.tm rfl) (S.tm rfl)) rfl fun a S=>Ij (⟨_,h,Keep.refl _ _,S.nf [true] rfl (subR rfl)⟩))))
      ·replace h:=Tj h hb3
       iterate 9 (refine Pn S rfl rfl rfl rfl (Kp hb3) rfl ?_ rfl;clear S;intro a S)
       exact Gp S rfl (Ip true hb3 (S.tm rfl) rfl) rfl fun a S=>Ij (⟨_,h,Keep.refl _ _,S.nf [true] rfl (subR rfl)⟩)
     clear S h;rintro a w7 ⟨c1,h,hk5,S⟩;rw [hj2] at h;clear hj2 j2
     refine Gp S rfl (Ra (S.tm rfl)) rfl fun a S=>Ij ?_
     replace S:=S.k6 0 4 8 9 10 20 rfl
     refine Tn (Fc h (S.tm rfl) (fun hb4 h=>?_) (fun hb4 h=>?_))
     ·refine Fr (Vk S rfl rfl fun a S=>Dl (wp_ret (Gq (Gq (Dv (Dv (Gq ?_)))))))
      refine Dv (Dv ?_)
      obtain rfl:=Option.some.inj h
      exact Et S results85 rfl rfl
     ·refine Fr (Vf TG S rfl rfl fun a S=>Vl isAgg3 0 S rfl rfl rfl rfl fun a S=>Eb S (fun _=>Dq (vs:=[iV y1.Time]) ⟨(S.tm rfl),trivial⟩ call87) (AY _ y1.Time _ rfl) rfl ?_);clear S;intro v2 a w8 hv2 hk6 hn2 S
      subst hv2
      refine Vu S Ih rfl rfl fun a S=>Va S rfl rfl fun a S=>Dl (Fc h (S.tm rfl) (fun hb5 h=>?_) (fun hb5 h=>?_))
      ·refine Fr (Vk S rfl rfl fun a S=>Dl (wp_ret (Gq (Gq (Dv (Dv (Gq ?_)))))))
       refine Dv (Dv ?_)
       obtain rfl:=Option.some.inj h
       exact Et S results85 rfl rfl
      ·exact wp_skip (Hp (Hp (Tn (Fg (Vq S Gc rfl rfl rfl fun a S=>Vm S rfl rfl fun a S=>Dl (⟨ys1,⟨i1 + 1,⟨_,(hd1).trans (List.append_cons _ _ _),by simp [hi1]⟩,h,S.nf [false] rfl ⟨rfl,rfl,rfl,(congrArg (fun z=>some (Value.int .i64 z)) (Ib hd1 hi1 (Jp Ai))),trivial⟩⟩,Nat.lt_succ_self _⟩))))))
  clear S h;rintro a w2 ⟨h,S⟩;rw [hj1] at h;clear hj1 j1
  refine Tn (Fr (Vk S rfl rfl fun a S=>Dl (wp_ret ?_)))
  obtain rfl:=Option.some.inj h
  exact Et S results85 rfl rfl
theorem HQ (w : World) (Ac : Value) (Aj : List Sr) (Ai : Slc (view w []) 2 Ac (Aj.map Sr.enc)) (Av : ByteArray) (r : Int) (h : Ui Aj Av = r) :
    Calls prog 86 [Ac,sV Av].toArray w (Ret w [] fun _ v _=>v = iV r):=by
 refine Fe func86 rfl ntmps86 rfl fun a S=>?_
 unfold Ui at h
 replace S:=S.k2 0 1 rfl
 refine Fr (Vk S rfl rfl fun a S=>Dl (Fs (Fr (Vm S rfl rfl fun a S=>lv S (Gi MG (S.tm rfl) (Gf Ai)) rfl fun a S=>lv S (Rm rfl) rfl ?_))));clear S;intro a S
 refine Dl ?_
 replace S:=S.k4 1 7 8 9 rfl
 obtain ⟨j1,hj1,h⟩:=Eu h
 refine Eh (fun a w'=>j1 = r ∧ Sx w [] nov [] [] 20 a w') ?_ ?_
 ·refine wp_block (Gr (fun (ys1 : List Sr) a w'=>∃ i1 : Nat,(∃ dn,Aj = dn ++ ys1 ∧ dn.length = i1) ∧ Pa Av j1 ys1 i1 = r ∧ Sx w [] nov [] [(1,sV Av),(7,Ac),(8,iV (Aj.length : Int)),(9,iV (i1 : Int))] 20 a w') List.length Aj ⟨0,⟨[],rfl,rfl⟩,h,S.nf [] rfl (subR rfl)⟩ ?_)
  clear S h;rintro ys1 a w1 ⟨i1,⟨dn,hd1,hi1⟩,h,S⟩
  cases ys1 with
  | nil =>
   rw [Pa.eq_1] at h
   refine Fr (Vb S Es rfl rfl rfl fun a S=>Ld ?_)
   replace S:=S.k5 1 7 8 9 10 rfl
   exact Tn (Fs (wp_cond_false ((S.tm rfl).trans (congrArg Value.bool (Jd hd1 hi1))) (wp_exit (Ed (Ed (Gn (Tn (⟨h,S.nf [] rfl trivial⟩))))))))
  | cons y1 ys1 =>
   rw [Pa.eq_2] at h
   refine Fr (Vb S Es rfl rfl rfl fun a S=>Ld ?_)
   replace S:=S.k5 1 7 8 9 10 rfl
   refine Tn (Fs (wp_cond_true ((S.tm rfl).trans (congrArg Value.bool (Ia hd1 hi1))) (wp_skip (Tn (Fs (wp_block (Fs (Fg ?_))))))))
   obtain ⟨b1,o1,hm1,hr1⟩:=Fk (a:=a) (x:=.tmp 7) (y:=.tmp 9) (ty:=0) MG Ai (Jc hd1 hi1) rfl (S.tm rfl) (S.tm rfl)
   refine lv S (hr1 _) rfl ?_;clear S;intro a S
   clear hr1
   refine lv S (Fb isAgg93 sizeOf93 (off:=o1) (o:=0) (part:=(Sr.enc y1)) rfl rfl (S.tm rfl) (hm1.at S.emb0)) rfl fun a S=>Hq S zeroValue93 (cs:=[sV An,iV 0]) rfl rfl ?_;clear S;intro a w3 b2 hz1 hk1 S
   refine Ex S (S.tm rfl) (S.tm rfl) (i:=0) (off:=0) rfl sizeOf93 (vs:=(Sr.enc y1)) rfl rfl rfl rfl ?_;clear S;intro w4 hk2 S
   refine Dz (Vf JG S rfl rfl fun a S=>Vl isAgg9 0 S rfl rfl rfl rfl fun a S=>Vm S rfl rfl fun a S=>Vb S Xy rfl rfl rfl fun a S=>Dl (Fc h (S.tm rfl) (fun hb1 h=>?_) (fun hb1 h=>?_)))
   ·refine Fr (Vf TG S rfl rfl fun a S=>Vl isAgg3 0 S rfl rfl rfl rfl fun a S=>Va S rfl rfl fun a S=>Ld ?_)
    replace S:=S.n0.k1 4 rfl
    refine Tn (wp_ret (Gq (Dv (Dv (Gq (Dv (Dv ?_)))))))
    subst h
    exact Et S results86 rfl rfl
   ·exact wp_skip (Hp (Tn (Fg (Vq S Gc rfl rfl rfl fun a S=>Vm S rfl rfl fun a S=>Dl (⟨ys1,⟨i1 + 1,⟨_,(hd1).trans (List.append_cons _ _ _),by simp [hi1]⟩,h,S.nf [false] rfl ⟨rfl,rfl,rfl,(congrArg (fun z=>some (Value.int .i64 z)) (Ib hd1 hi1 (Jp Ai))),trivial⟩⟩,Nat.lt_succ_self _⟩)))))
 clear S h;rintro a w2 ⟨h,S⟩;rw [hj1] at h;clear hj1 j1
 refine Tn (Fr (Vk S rfl rfl fun a S=>Dl (wp_ret ?_)))
 subst h
 exact Et S results86 rfl rfl
theorem LM (w : World) (Ab : Int) (Bl : Int) (r : Int × Int) (h : Ts Ab Bl = r) :
    Calls prog 126 [.int .u64 Ab,.int .u64 Bl].toArray w (Ret w [] fun _ v _=>v = .tuple #[.int .u64 r.1,.int .u64 r.2]):=by
 refine Fe func126 rfl ntmps126 rfl fun a S=>?_
 unfold Ts at h
 replace S:=S.k2 0 1 rfl
 refine Fr (Vk S rfl rfl fun a S=>Vk S rfl rfl fun a S=>Dz (Vm S rfl rfl fun a S=>Vq S Fzs rfl rfl rfl fun a S=>Va S rfl rfl ?_));clear S;intro a S
 refine Dz (Vm S rfl rfl fun a S=>lv S (Wv (S.tm rfl) rfl (by decide)) rfl fun a S=>Va S rfl rfl fun a S=>Dl (Fs (Fg ?_)))
 refine Vm S rfl rfl fun a S=>Vq S Fzs rfl rfl rfl fun a S=>Va S rfl rfl fun a S=>Dz (Vm S rfl rfl fun a S=>lv S (Wv (S.tm rfl) rfl (by decide)) rfl fun a S=>Va S rfl rfl fun a S=>Ld ?_)
 replace S:=S.k6 0 1 6 7 8 9 rfl
 refine Tn (Fr (Vm S rfl rfl fun a S=>Vm S rfl rfl fun a S=>Vb S Qn rfl rfl rfl fun a S=>Va S rfl rfl fun a S=>Dl (Fs (Fg ?_))))
 refine Vm S rfl rfl fun a S=>Vm S rfl rfl fun a S=>Vb S Qn rfl rfl rfl fun a S=>Vm S rfl rfl fun a S=>lv S (Wv (S.tm rfl) rfl (by decide)) rfl fun a S=>Vb S Wu rfl rfl rfl fun a S=>Va S rfl rfl fun a S=>Ld ?_
 replace S:=S.k6 0 1 6 7 9 11 rfl
 refine Tn (Fr (Vm S rfl rfl fun a S=>Vq S Fzs rfl rfl rfl fun a S=>Va S rfl rfl fun a S=>Dz (Vm S rfl rfl ?_)));clear S;intro a S
 refine lv S (Wv (S.tm rfl) rfl (by decide)) rfl fun a S=>Va S rfl rfl fun a S=>Dl (Fs (Fg ?_))
 iterate 3 (refine Vm S rfl rfl ?_;clear S;intro a S)
 refine Vb S Qn rfl rfl rfl fun a S=>Vb S Wu rfl rfl rfl fun a S=>Va S rfl rfl fun a S=>Ld ?_
 replace S:=S.k6 0 1 7 9 12 13 rfl
 refine Tn (Fr (Vm S rfl rfl fun a S=>Vm S rfl rfl fun a S=>Vb S Qn rfl rfl rfl fun a S=>Vm S rfl rfl fun a S=>Vb S Wu rfl rfl rfl fun a S=>Vm S rfl rfl fun a S=>lv S (Wv (S.tm rfl) rfl (by decide)) rfl fun a S=>Vb S Wu rfl rfl rfl ?_));clear S;intro a S
 refine Va S rfl rfl fun a S=>Ld ?_
 replace S:=S.k3 0 1 4 rfl
 refine Tn (Fr (Vm S rfl rfl fun a S=>Vm S rfl rfl fun a S=>Vb S Qn rfl rfl rfl fun a S=>Va S rfl rfl fun a S=>Dl (wp_ret ?_)))
 subst h
 exact Mq S results126 rfl rfl rfl
theorem BY (w : World) (Ab : Int) (r : Int) (h : Vz Ab = some r) :
    Calls prog 154 [.int .u64 Ab].toArray w (Ret w [] fun _ v _=>v = iV r):=by
 refine Fe func154 rfl ntmps154 rfl fun a S=>?_
 unfold Vz at h
 replace S:=S.k1 0 rfl
 refine Fr (Vk S rfl rfl fun a S=>Dz (Vm S rfl rfl ?_));clear S;intro a S
 obtain ⟨r1,hr1,h⟩:=Fa h
 refine Eb S (fun _=>Dq (vs:=[.int .u64 Ab]) ⟨(S.tm rfl),trivial⟩ call57) (ET _ Ab _ hr1) rfl ?_;clear S;intro v1 a w1 hv1 hk1 hn1 S
 subst hv1
 refine Vu S (Iw rfl) rfl rfl fun a S=>Va S rfl rfl fun a S=>Dl (wp_ret ?_)
 obtain rfl:=Option.some.inj h
 exact Et S results154 rfl rfl
set_option maxRecDepth 20000 in
theorem LN (w : World) (Ck : Int) (Bm : Int) (Bl : Int) (r : Int × Int) (h : FC Ck Bm Bl = some r) :
    Calls prog 127 [.int .u64 Ck,.int .u64 Bm,.int .u64 Bl].toArray w (Ret w [] fun _ v _=>v = .tuple #[.int .u64 r.1,.int .u64 r.2]):=by
 refine Fe func127 rfl ntmps127 rfl fun a S=>?_
 unfold FC at h
 replace S:=S.k3 0 1 2 rfl
 refine Fr (Vk S rfl rfl fun a S=>Vk S rfl rfl fun a S=>Dl (Fs (Fr (Vm S rfl rfl fun a S=>Vq S Jk rfl rfl rfl ?_))));clear S;intro a S
 refine Dl (Fc h (S.tm rfl) (fun hb1 h=>?_) (fun hb1 h=>?_))
 ·cases h
 ·refine wp_skip (Tn (Fs (Fr (Vm S rfl rfl fun a S=>Vm S rfl rfl fun a S=>Vb S Uj rfl rfl rfl fun a S=>Dl (Fc h (S.tm rfl) (fun hb2 h=>?_) (fun hb2 h=>?_))))))
  ·cases h
  ·refine wp_skip (Tn (Fs (Fr (Vm S rfl rfl fun a S=>Vq S Jk rfl rfl rfl fun a S=>Dl (Fc h (S.tm rfl) (fun hb3 h=>?_) (fun hb3 h=>?_))))))
   ·refine Fs (Gt [] ([]) Tryz.mixed S rfl (by kernel_rfl) ?_);clear S;intro w1 hk1 hsel S
    refine Li [0,1,2,3,4,5,6,7] hsel (by kernel_rfl) rfl ?_
    clear hsel
    refine Gp S rfl (Rm (S.tm rfl)) rfl fun a S=>Gp S rfl (Rm (S.tm rfl)) rfl ?_;clear S;intro a S
    obtain ⟨hc1,h⟩:=Ig h
    refine Gp S rfl (MZ (S.tm rfl) (S.tm rfl) (Vy hc1)) rfl fun a S=>Gp S rfl (Rm (S.tm rfl)) rfl fun a S=>Gp S rfl (Rm (S.tm rfl)) rfl ?_;clear S;intro a S
    obtain ⟨hc2,h⟩:=Ig h
    refine Gp S rfl (rn_remk (S.tm rfl) (S.tm rfl) (Vy hc2)) rfl fun a S=>Gp S rfl (Ra (S.tm rfl)) rfl fun a S=>Gp S rfl (Ra (S.tm rfl)) rfl fun a S=>Ij ?_
    replace S:=S.k2 6 7 rfl
    refine Tn (wp_ret (Dv ?_))
    obtain rfl:=Option.some.inj h
    exact Mq S results127 rfl rfl rfl
   ·refine wp_skip (Tn (Fr (Vm S rfl rfl ?_)));clear S;intro a S
    obtain ⟨r1,hr1,h⟩:=Fa h
    refine Eb S (fun _=>Dq (vs:=[.int .u64 Bl]) ⟨(S.tm rfl),trivial⟩ call154) (BY _ Bl _ hr1) rfl ?_;clear S;intro v1 a w2 hv1 hk2 hn1 S
    subst hv1
    refine Vu S (Ve underlying3 underlying71) rfl rfl fun a S=>Va S rfl rfl fun a S=>Ld ?_
    replace S:=S.k4 0 1 2 8 rfl
    refine Tn (Fr (Vm S rfl rfl fun a S=>Vm S rfl rfl ?_));clear S;intro a S
    obtain ⟨hc3,h⟩:=Ig h
    refine lv S (QY (S.tm rfl) (S.tm rfl) (of_decide_eq_true hc3)) rfl fun a S=>Va S rfl rfl fun a S=>Dz (Vm S rfl rfl fun a S=>lv S (Wv (S.tm rfl) rfl (by decide)) rfl fun a S=>Va S rfl rfl fun a S=>Dl ?_)
    refine Fr (Vm S rfl rfl fun a S=>Vq S Fzs rfl rfl rfl fun a S=>Va S rfl rfl fun a S=>Dz (Vm S rfl rfl fun a S=>Vm S rfl rfl ?_));clear S;intro a S
    obtain ⟨hc4,h⟩:=Ig h
    refine lv S (QY (S.tm rfl) (S.tm rfl) (of_decide_eq_true hc4)) rfl fun a S=>Vm S rfl rfl fun a S=>Vm S rfl rfl fun a S=>Vu S (BI rfl) rfl rfl ?_;clear S;intro a S
    obtain ⟨hc5,h⟩:=Ig h
    refine lv S (Wv (S.tm rfl) (S.tm rfl) (of_decide_eq_true hc5)) rfl fun a S=>Vb S rn_or_ rfl rfl rfl fun a S=>Va S rfl rfl fun a S=>Ld ?_
    replace S:=S.k6 1 2 8 9 10 11 rfl
    refine Tn (Fr (Vm S rfl rfl fun a S=>Vm S rfl rfl ?_));clear S;intro a S
    obtain ⟨hc6,h⟩:=Ig h
    refine lv S (QY (S.tm rfl) (S.tm rfl) (of_decide_eq_true hc6)) rfl fun a S=>Va S rfl rfl fun a S=>Dz (Vm S rfl rfl fun a S=>lv S (Wv (S.tm rfl) rfl (by decide)) rfl fun a S=>Va S rfl rfl fun a S=>Dl ?_)
    refine Fr (Vm S rfl rfl fun a S=>Vq S Fzs rfl rfl rfl fun a S=>Va S rfl rfl fun a S=>Ld ?_)
    replace S:=S.k7 2 8 9 10 11 13 14 rfl
    refine Tn (Fr (Vm S rfl rfl fun a S=>Vm S rfl rfl ?_));clear S;intro a S
    obtain ⟨hc7,h⟩:=Ig h
    refine lv S (MZ (S.tm rfl) (S.tm rfl) (Vy hc7)) rfl fun a S=>Va S rfl rfl fun a S=>Dl (Fs (Fg ?_))
    iterate 3 (refine Vm S rfl rfl ?_;clear S;intro a S)
    refine Vb S Qn rfl rfl rfl fun a S=>Vb S BI rfl rfl rfl fun a S=>Va S rfl rfl fun a S=>Ld ?_
    replace S:=S.k9 2 8 9 10 11 13 14 15 16 rfl
    refine Tn (Fs ?_)
    obtain ⟨j1,hj1,h⟩:=Eu h
    refine Eh (fun a w'=>∃ x1 : Int,j1 x1 = some r ∧ Sx w [] nov [] [(2,.int .u64 (Fw .u64 Bl (IntKind.wrap .u64 r1))),(8,.int .u64 (IntKind.wrap .u64 r1)),(9,.int .u64 (Hc .u64 (Fw .u64 Bl (IntKind.wrap .u64 r1)) 32)),(10,.int .u64 (Oq .u64 (Fw .u64 Bl (IntKind.wrap .u64 r1)) 4294967295)),(11,.int .u64 (Tw .u64 (Fw .u64 Ck (IntKind.wrap .u64 r1)) (Hc .u64 Bm (IntKind.wrap .u64 (64 - (IntKind.wrap .u64 r1)))))),(13,.int .u64 (Hc .u64 (Fw .u64 Bm (IntKind.wrap .u64 r1)) 32)),(14,.int .u64 (Oq .u64 (Fw .u64 Bm (IntKind.wrap .u64 r1)) 4294967295)),(15,.int .u64 x1)] 135 a w') ?_ ?_
    ·refine wp_block (Gr (fun (m1 : Nat) a w'=>∃ x1 : Int,∃ x2 : Int,Rd Bm r1 Bl j1 m1 x1 x2 = some r ∧ Sx w [] nov [] [(2,.int .u64 (Fw .u64 Bl (IntKind.wrap .u64 r1))),(8,.int .u64 (IntKind.wrap .u64 r1)),(9,.int .u64 (Hc .u64 (Fw .u64 Bl (IntKind.wrap .u64 r1)) 32)),(10,.int .u64 (Oq .u64 (Fw .u64 Bl (IntKind.wrap .u64 r1)) 4294967295)),(11,.int .u64 (Tw .u64 (Fw .u64 Ck (IntKind.wrap .u64 r1)) (Hc .u64 Bm (IntKind.wrap .u64 (64 - (IntKind.wrap .u64 r1)))))),(13,.int .u64 (Hc .u64 (Fw .u64 Bm (IntKind.wrap .u64 r1)) 32)),(14,.int .u64 (Oq .u64 (Fw .u64 Bm (IntKind.wrap .u64 r1)) 4294967295)),(15,.int .u64 x1),(16,.int .u64 x2)] 135 a w') id (((IntKind.wrap .u64 (Int.tdiv (Tw .u64 (Fw .u64 Ck (IntKind.wrap .u64 r1)) (Hc .u64 Bm (IntKind.wrap .u64 (64 - (IntKind.wrap .u64 r1))))) (Hc .u64 (Fw .u64 Bl (IntKind.wrap .u64 r1)) 32))) - 4294967296).toNat + 2) ⟨IntKind.wrap .u64 (Int.tdiv (Tw .u64 (Fw .u64 Ck (IntKind.wrap .u64 r1)) (Hc .u64 Bm (IntKind.wrap .u64 (64 - (IntKind.wrap .u64 r1))))) (Hc .u64 (Fw .u64 Bl (IntKind.wrap .u64 r1)) 32)),IntKind.wrap .u64 ((Tw .u64 (Fw .u64 Ck (IntKind.wrap .u64 r1)) (Hc .u64 Bm (IntKind.wrap .u64 (64 - (IntKind.wrap .u64 r1))))) - (IntKind.wrap .u64 ((IntKind.wrap .u64 (Int.tdiv (Tw .u64 (Fw .u64 Ck (IntKind.wrap .u64 r1)) (Hc .u64 Bm (IntKind.wrap .u64 (64 - (IntKind.wrap .u64 r1))))) (Hc .u64 (Fw .u64 Bl (IntKind.wrap .u64 r1)) 32))) * (Hc .u64 (Fw .u64 Bl (IntKind.wrap .u64 r1)) 32)))),h,S.nf [] rfl (subR rfl)⟩ ?_)
     clear S h;rintro m1 a w3 ⟨x1,x2,h,S⟩
     cases m1 with
     | zero=>rw [Rd.eq_1] at h;cases h
     | succ m1 =>
      rw [Rd.eq_2] at h
      refine Fs (Fr (Vm S rfl rfl fun a S=>Vq S Rl rfl rfl rfl fun a S=>Vm S rfl rfl fun a S=>Iy 9 (fun a w'=>Keep [] w3 w' ∧ Sx w [] nov [] [(2,.int .u64 (Fw .u64 Bl (IntKind.wrap .u64 r1))),(8,.int .u64 (IntKind.wrap .u64 r1)),(9,.int .u64 (Hc .u64 (Fw .u64 Bl (IntKind.wrap .u64 r1)) 32)),(10,.int .u64 (Oq .u64 (Fw .u64 Bl (IntKind.wrap .u64 r1)) 4294967295)),(11,.int .u64 (Tw .u64 (Fw .u64 Ck (IntKind.wrap .u64 r1)) (Hc .u64 Bm (IntKind.wrap .u64 (64 - (IntKind.wrap .u64 r1)))))),(13,.int .u64 (Hc .u64 (Fw .u64 Bm (IntKind.wrap .u64 r1)) 32)),(14,.int .u64 (Oq .u64 (Fw .u64 Bm (IntKind.wrap .u64 r1)) 4294967295)),(15,.int .u64 x1),(16,.int .u64 x2),(78,bV ((decide (4294967296 ≤ x1)) || (decide ((IntKind.wrap .u64 ((IntKind.wrap .u64 (4294967296 * x2)) + (Hc .u64 (Fw .u64 Bm (IntKind.wrap .u64 r1)) 32))) < (IntKind.wrap .u64 (x1 * (Oq .u64 (Fw .u64 Bl (IntKind.wrap .u64 r1)) 4294967295)))))))] 135 a w') ?_ ?_))
      ·rcases Bool.eq_false_or_eq_true (decide (4294967296 ≤ x1)) with hb4 | hb4
       ·iterate 8 (refine Ht S rfl rfl rfl (Oa hb4) rfl ?_ rfl;clear S;intro a S)
        exact lv S (Mo (decide ((IntKind.wrap .u64 ((IntKind.wrap .u64 (4294967296 * x2)) + (Hc .u64 (Fw .u64 Bm (IntKind.wrap .u64 r1)) 32))) < (IntKind.wrap .u64 (x1 * (Oq .u64 (Fw .u64 Bl (IntKind.wrap .u64 r1)) 4294967295))))) hb4 (S.tm rfl) rfl) rfl fun a S=>Dl (⟨Keep.refl _ _,S.nf [] rfl (subR rfl)⟩)
       ·refine Dy S rfl rfl rfl hb4 (Vm S rfl rfl fun a S=>Dy S rfl rfl rfl hb4 (Vm S rfl rfl fun a S=>Dy S rfl rfl rfl hb4 (Vb S Qn rfl rfl rfl fun a S=>Dy S rfl rfl rfl hb4 (Vm S rfl rfl fun a S=>Dy S rfl rfl rfl hb4 (Vu S (Qn rfl) rfl rfl fun a S=>Dy S rfl rfl rfl hb4 ?_)))))
        exact Vm S rfl rfl fun a S=>Dy S rfl rfl rfl hb4 (Vb S Wu rfl rfl rfl fun a S=>Dy S rfl rfl rfl hb4 (Vb S Kb rfl rfl rfl fun a S=>lv S (Mp hb4 (S.tm rfl) (S.tm rfl)) rfl fun a S=>Dl (⟨Keep.refl _ _,S.nf [] rfl (subR rfl)⟩)))
      clear S;rintro a w5 ⟨hk3,S⟩
      refine Dl (Fc h (S.tm rfl) (fun hb5 h=>?_) (fun hb5 h=>?_))
      ·refine wp_skip (Tn (wp_block (Fr (Vm S rfl rfl fun a S=>Vq S BI rfl rfl rfl fun a S=>Va S rfl rfl fun a S=>Dl (Fs ?_)))))
       refine Fg (Vm S rfl rfl fun a S=>Vm S rfl rfl fun a S=>Vb S Wu rfl rfl rfl fun a S=>Va S rfl rfl fun a S=>Ld ?_)
       replace S:=S.k9 2 8 9 10 11 13 14 15 16 rfl
       refine Tn (Fr (Vm S rfl rfl fun a S=>Vq S Rl rfl rfl rfl fun a S=>Dl (Fc h (S.tm rfl) (fun hb6 h=>?_) (fun hb6 h=>?_))))
       ·exact wp_exit (SQ rfl (Ed (Gn (Tn (⟨IntKind.wrap .u64 (x1 - 1),h,S.nf [] rfl (subR rfl)⟩)))))
       ·exact wp_skip (Hp (Tn (⟨m1,⟨IntKind.wrap .u64 (x1 - 1),IntKind.wrap .u64 (x2 + (Hc .u64 (Fw .u64 Bl (IntKind.wrap .u64 r1)) 32)),h,S.nf [] rfl ⟨rfl,rfl,rfl,rfl,rfl,rfl,rfl,rfl,rfl,trivial⟩⟩,Nat.lt_succ_self _⟩)))
      ·exact wp_exit (Ed (Ed (Gn (Tn (⟨x1,h,S.nf [] rfl (subR rfl)⟩)))))
    clear S h;rintro a w4 ⟨x1,h,S⟩;rw [hj1] at h;clear hj1 j1
    refine Tn (Fr (Vm S rfl rfl fun a S=>Vq S Qn rfl rfl rfl fun a S=>Vm S rfl rfl fun a S=>Vb S Wu rfl rfl rfl fun a S=>Vm S rfl rfl fun a S=>Vm S rfl rfl fun a S=>Vb S Qn rfl rfl rfl fun a S=>Vb S BI rfl rfl rfl ?_));clear S;intro a S
    refine Va S rfl rfl fun a S=>Ld ?_
    replace S:=S.k7 2 8 9 10 14 15 17 rfl
    refine Tn (Fr (Vm S rfl rfl fun a S=>Vm S rfl rfl ?_));clear S;intro a S
    obtain ⟨hc8,h⟩:=Ig h
    refine lv S (MZ (S.tm rfl) (S.tm rfl) (Vy hc8)) rfl fun a S=>Va S rfl rfl fun a S=>Dl (Fs (Fg ?_))
    iterate 3 (refine Vm S rfl rfl ?_;clear S;intro a S)
    refine Vb S Qn rfl rfl rfl fun a S=>Vb S BI rfl rfl rfl fun a S=>Va S rfl rfl fun a S=>Ld ?_
    replace S:=S.k9 2 8 9 10 14 15 16 17 18 rfl
    refine Tn (Fs ?_)
    obtain ⟨j2,hj2,h⟩:=Eu h
    refine Eh (fun a w'=>∃ x4 : Int,j2 x4 = some r ∧ Sx w [] nov [] [(2,.int .u64 (Fw .u64 Bl (IntKind.wrap .u64 r1))),(8,.int .u64 (IntKind.wrap .u64 r1)),(14,.int .u64 (Oq .u64 (Fw .u64 Bm (IntKind.wrap .u64 r1)) 4294967295)),(15,.int .u64 x1),(17,.int .u64 (IntKind.wrap .u64 ((IntKind.wrap .u64 ((IntKind.wrap .u64 ((Tw .u64 (Fw .u64 Ck (IntKind.wrap .u64 r1)) (Hc .u64 Bm (IntKind.wrap .u64 (64 - (IntKind.wrap .u64 r1))))) * 4294967296)) + (Hc .u64 (Fw .u64 Bm (IntKind.wrap .u64 r1)) 32))) - (IntKind.wrap .u64 (x1 * (Fw .u64 Bl (IntKind.wrap .u64 r1))))))),(18,.int .u64 x4)] 135 a w') ?_ ?_
    ·refine wp_block (Gr (fun (m2 : Nat) a w'=>∃ x3 : Int,∃ x4 : Int,Re Bm r1 Bl j2 m2 x3 x4 = some r ∧ Sx w [] nov [] [(2,.int .u64 (Fw .u64 Bl (IntKind.wrap .u64 r1))),(8,.int .u64 (IntKind.wrap .u64 r1)),(9,.int .u64 (Hc .u64 (Fw .u64 Bl (IntKind.wrap .u64 r1)) 32)),(10,.int .u64 (Oq .u64 (Fw .u64 Bl (IntKind.wrap .u64 r1)) 4294967295)),(14,.int .u64 (Oq .u64 (Fw .u64 Bm (IntKind.wrap .u64 r1)) 4294967295)),(15,.int .u64 x1),(16,.int .u64 x3),(17,.int .u64 (IntKind.wrap .u64 ((IntKind.wrap .u64 ((IntKind.wrap .u64 ((Tw .u64 (Fw .u64 Ck (IntKind.wrap .u64 r1)) (Hc .u64 Bm (IntKind.wrap .u64 (64 - (IntKind.wrap .u64 r1))))) * 4294967296)) + (Hc .u64 (Fw .u64 Bm (IntKind.wrap .u64 r1)) 32))) - (IntKind.wrap .u64 (x1 * (Fw .u64 Bl (IntKind.wrap .u64 r1))))))),(18,.int .u64 x4)] 135 a w') id (((IntKind.wrap .u64 (Int.tdiv (IntKind.wrap .u64 ((IntKind.wrap .u64 ((IntKind.wrap .u64 ((Tw .u64 (Fw .u64 Ck (IntKind.wrap .u64 r1)) (Hc .u64 Bm (IntKind.wrap .u64 (64 - (IntKind.wrap .u64 r1))))) * 4294967296)) + (Hc .u64 (Fw .u64 Bm (IntKind.wrap .u64 r1)) 32))) - (IntKind.wrap .u64 (x1 * (Fw .u64 Bl (IntKind.wrap .u64 r1)))))) (Hc .u64 (Fw .u64 Bl (IntKind.wrap .u64 r1)) 32))) - 4294967296).toNat + 2) ⟨IntKind.wrap .u64 ((IntKind.wrap .u64 ((IntKind.wrap .u64 ((IntKind.wrap .u64 ((Tw .u64 (Fw .u64 Ck (IntKind.wrap .u64 r1)) (Hc .u64 Bm (IntKind.wrap .u64 (64 - (IntKind.wrap .u64 r1))))) * 4294967296)) + (Hc .u64 (Fw .u64 Bm (IntKind.wrap .u64 r1)) 32))) - (IntKind.wrap .u64 (x1 * (Fw .u64 Bl (IntKind.wrap .u64 r1)))))) - (IntKind.wrap .u64 ((IntKind.wrap .u64 (Int.tdiv (IntKind.wrap .u64 ((IntKind.wrap .u64 ((IntKind.wrap .u64 ((Tw .u64 (Fw .u64 Ck (IntKind.wrap .u64 r1)) (Hc .u64 Bm (IntKind.wrap .u64 (64 - (IntKind.wrap .u64 r1))))) * 4294967296)) + (Hc .u64 (Fw .u64 Bm (IntKind.wrap .u64 r1)) 32))) - (IntKind.wrap .u64 (x1 * (Fw .u64 Bl (IntKind.wrap .u64 r1)))))) (Hc .u64 (Fw .u64 Bl (IntKind.wrap .u64 r1)) 32))) * (Hc .u64 (Fw .u64 Bl (IntKind.wrap .u64 r1)) 32)))),IntKind.wrap .u64 (Int.tdiv (IntKind.wrap .u64 ((IntKind.wrap .u64 ((IntKind.wrap .u64 ((Tw .u64 (Fw .u64 Ck (IntKind.wrap .u64 r1)) (Hc .u64 Bm (IntKind.wrap .u64 (64 - (IntKind.wrap .u64 r1))))) * 4294967296)) + (Hc .u64 (Fw .u64 Bm (IntKind.wrap .u64 r1)) 32))) - (IntKind.wrap .u64 (x1 * (Fw .u64 Bl (IntKind.wrap .u64 r1)))))) (Hc .u64 (Fw .u64 Bl (IntKind.wrap .u64 r1)) 32)),h,S.nf [] rfl (subR rfl)⟩ ?_)
     clear S h;rintro m2 a w6 ⟨x3,x4,h,S⟩
     cases m2 with
     | zero=>rw [Re.eq_1] at h;cases h
     | succ m2 =>
      rw [Re.eq_2] at h
      refine Fs (Fr (Vm S rfl rfl fun a S=>Vq S Rl rfl rfl rfl fun a S=>Vm S rfl rfl fun a S=>Iy 9 (fun a w'=>Keep [] w6 w' ∧ Sx w [] nov [] [(2,.int .u64 (Fw .u64 Bl (IntKind.wrap .u64 r1))),(8,.int .u64 (IntKind.wrap .u64 r1)),(9,.int .u64 (Hc .u64 (Fw .u64 Bl (IntKind.wrap .u64 r1)) 32)),(10,.int .u64 (Oq .u64 (Fw .u64 Bl (IntKind.wrap .u64 r1)) 4294967295)),(14,.int .u64 (Oq .u64 (Fw .u64 Bm (IntKind.wrap .u64 r1)) 4294967295)),(15,.int .u64 x1),(16,.int .u64 x3),(17,.int .u64 (IntKind.wrap .u64 ((IntKind.wrap .u64 ((IntKind.wrap .u64 ((Tw .u64 (Fw .u64 Ck (IntKind.wrap .u64 r1)) (Hc .u64 Bm (IntKind.wrap .u64 (64 - (IntKind.wrap .u64 r1))))) * 4294967296)) + (Hc .u64 (Fw .u64 Bm (IntKind.wrap .u64 r1)) 32))) - (IntKind.wrap .u64 (x1 * (Fw .u64 Bl (IntKind.wrap .u64 r1))))))),(18,.int .u64 x4),(113,bV ((decide (4294967296 ≤ x4)) || (decide ((IntKind.wrap .u64 ((IntKind.wrap .u64 (4294967296 * x3)) + (Oq .u64 (Fw .u64 Bm (IntKind.wrap .u64 r1)) 4294967295))) < (IntKind.wrap .u64 (x4 * (Oq .u64 (Fw .u64 Bl (IntKind.wrap .u64 r1)) 4294967295)))))))] 135 a w') ?_ ?_))
      ·rcases Bool.eq_false_or_eq_true (decide (4294967296 ≤ x4)) with hb7 | hb7
       ·iterate 8 (refine Ht S rfl rfl rfl (Oa hb7) rfl ?_ rfl;clear S;intro a S)
        exact lv S (Mo (decide ((IntKind.wrap .u64 ((IntKind.wrap .u64 (4294967296 * x3)) + (Oq .u64 (Fw .u64 Bm (IntKind.wrap .u64 r1)) 4294967295))) < (IntKind.wrap .u64 (x4 * (Oq .u64 (Fw .u64 Bl (IntKind.wrap .u64 r1)) 4294967295))))) hb7 (S.tm rfl) rfl) rfl fun a S=>Dl (⟨Keep.refl _ _,S.nf [] rfl (subR rfl)⟩)
       ·refine Dy S rfl rfl rfl hb7 (Vm S rfl rfl fun a S=>Dy S rfl rfl rfl hb7 (Vm S rfl rfl fun a S=>Dy S rfl rfl rfl hb7 (Vb S Qn rfl rfl rfl fun a S=>Dy S rfl rfl rfl hb7 (Vm S rfl rfl fun a S=>Dy S rfl rfl rfl hb7 (Vu S (Qn rfl) rfl rfl fun a S=>Dy S rfl rfl rfl hb7 ?_)))))
        exact Vm S rfl rfl fun a S=>Dy S rfl rfl rfl hb7 (Vb S Wu rfl rfl rfl fun a S=>Dy S rfl rfl rfl hb7 (Vb S Kb rfl rfl rfl fun a S=>lv S (Mp hb7 (S.tm rfl) (S.tm rfl)) rfl fun a S=>Dl (⟨Keep.refl _ _,S.nf [] rfl (subR rfl)⟩)))
      clear S;rintro a w8 ⟨hk4,S⟩
      refine Dl (Fc h (S.tm rfl) (fun hb8 h=>?_) (fun hb8 h=>?_))
      ·refine wp_skip (Tn (wp_block (Fr (Vm S rfl rfl fun a S=>Vq S BI rfl rfl rfl fun a S=>Va S rfl rfl fun a S=>Dl (Fs ?_)))))
       refine Fg (Vm S rfl rfl fun a S=>Vm S rfl rfl fun a S=>Vb S Wu rfl rfl rfl fun a S=>Va S rfl rfl fun a S=>Ld ?_)
       replace S:=S.k9 2 8 9 10 14 15 16 17 18 rfl
       refine Tn (Fr (Vm S rfl rfl fun a S=>Vq S Rl rfl rfl rfl fun a S=>Dl (Fc h (S.tm rfl) (fun hb9 h=>?_) (fun hb9 h=>?_))))
       ·exact wp_exit (SQ rfl (Ed (Gn (Tn (⟨IntKind.wrap .u64 (x4 - 1),h,S.nf [] rfl (subR rfl)⟩)))))
       ·exact wp_skip (Hp (Tn (⟨m2,⟨IntKind.wrap .u64 (x3 + (Hc .u64 (Fw .u64 Bl (IntKind.wrap .u64 r1)) 32)),IntKind.wrap .u64 (x4 - 1),h,S.nf [] rfl ⟨rfl,rfl,rfl,rfl,rfl,rfl,rfl,rfl,rfl,trivial⟩⟩,Nat.lt_succ_self _⟩)))
      ·exact wp_exit (Ed (Ed (Gn (Tn (⟨x4,h,S.nf [] rfl (subR rfl)⟩)))))
    clear S h;rintro a w7 ⟨x4,h,S⟩;rw [hj2] at h;clear hj2 j2
    refine Tn (Fr (Vm S rfl rfl fun a S=>Vq S Qn rfl rfl rfl fun a S=>Vm S rfl rfl fun a S=>Vb S Wu rfl rfl rfl fun a S=>Vm S rfl rfl fun a S=>Vq S Qn rfl rfl rfl fun a S=>Vm S rfl rfl fun a S=>Vb S Wu rfl rfl rfl ?_));clear S;intro a S
    refine Vm S rfl rfl fun a S=>Vm S rfl rfl fun a S=>Vb S Qn rfl rfl rfl fun a S=>Vb S BI rfl rfl rfl fun a S=>Vm S rfl rfl ?_;clear S;intro a S
    obtain ⟨hc9,h⟩:=Ig h
    refine lv S (Wv (S.tm rfl) (S.tm rfl) (of_decide_eq_true hc9)) rfl fun a S=>Va S rfl rfl fun a S=>Va S rfl rfl fun a S=>Ld ?_
    replace S:=S.k2 6 7 rfl
    refine Tn (wp_ret ?_)
    obtain rfl:=Option.some.inj h
    exact Mq S results127 rfl rfl rfl
theorem HR (w : World) (Bt : Int) (Cb : Int) (r : Int) (h : AK Bt Cb = some r) :
    Calls prog 88 [iV Bt,iV Cb].toArray w (Ret w [] fun _ v _=>v = iV r):=by
 refine Fe func88 rfl ntmps88 rfl fun a S=>?_
 unfold AK at h
 replace S:=S.k2 0 1 rfl
 refine Fr (Vk S rfl rfl fun a S=>Dz (Vm S rfl rfl fun a S=>Vu S (Ve underlying3 underlying120) rfl rfl fun a S=>Vm S rfl rfl fun a S=>Vu S (Ve underlying3 underlying120) rfl rfl ?_));clear S;intro a S
 refine Va S rfl rfl fun a S=>Va S rfl rfl fun a S=>Dz (Vm S rfl rfl fun a S=>Vm S rfl rfl fun a S=>Vb S Qn rfl rfl rfl fun a S=>Vm S rfl rfl fun a S=>Vb S Qn rfl rfl rfl ?_);clear S;intro a S
 refine Eb S (fun _=>Dq (vs:=[.int .u64 (IntKind.wrap .u64 ((IntKind.wrap .u64 ((IntKind.wrap .u64 Bt) * (IntKind.wrap .u64 Bt))) * (IntKind.wrap .u64 Bt))),.int .u64 1000]) ⟨(S.tm rfl),rfl,trivial⟩ call126) (LM _ (IntKind.wrap .u64 ((IntKind.wrap .u64 ((IntKind.wrap .u64 Bt) * (IntKind.wrap .u64 Bt))) * (IntKind.wrap .u64 Bt))) 1000 _ rfl) rfl ?_;clear S;intro v1 a w1 hv1 hk1 hn1 S
 subst hv1
 refine Vm S rfl rfl fun a S=>Vq S Fu rfl rfl rfl fun a S=>Vq S Fu rfl rfl rfl fun a S=>Va S rfl rfl fun a S=>Va S rfl rfl fun a S=>Ld ?_
 replace S:=S.k3 6 7 8 rfl
 refine Tn (Fr (Vm S rfl rfl fun a S=>Vm S rfl rfl fun a S=>Vb S Qn rfl rfl rfl fun a S=>Vm S rfl rfl fun a S=>Vb S Qn rfl rfl rfl fun a S=>Va S rfl rfl fun a S=>Dl ?_))
 refine Fs (Fr (Vm S rfl rfl fun a S=>Vm S rfl rfl fun a S=>Vb S Rl rfl rfl rfl fun a S=>Dl (Fc h (S.tm rfl) (fun hb1 h=>?_) (fun hb1 h=>?_))))
 ·refine Fr (Vk S rfl rfl fun a S=>Dl (wp_ret (Dv ?_)))
  obtain rfl:=Option.some.inj h
  exact Et S results88 rfl rfl
 ·refine wp_skip (Tn (Fs (Fg ?_)))
  iterate 3 (refine Vm S rfl rfl ?_;clear S;intro a S)
  obtain ⟨r1,hr1,h⟩:=Fa h
  refine Eb S (fun _=>Dq (vs:=[.int .u64 ((Ts (IntKind.wrap .u64 ((IntKind.wrap .u64 ((IntKind.wrap .u64 Bt) * (IntKind.wrap .u64 Bt))) * (IntKind.wrap .u64 Bt))) 1000).1),.int .u64 ((Ts (IntKind.wrap .u64 ((IntKind.wrap .u64 ((IntKind.wrap .u64 Bt) * (IntKind.wrap .u64 Bt))) * (IntKind.wrap .u64 Bt))) 1000).2),.int .u64 (IntKind.wrap .u64 ((IntKind.wrap .u64 ((IntKind.wrap .u64 Cb) * (IntKind.wrap .u64 Cb))) * (IntKind.wrap .u64 Cb)))]) ⟨(S.tm rfl),(S.tm rfl),(S.tm rfl),trivial⟩ call127) (LN _ ((Ts (IntKind.wrap .u64 ((IntKind.wrap .u64 ((IntKind.wrap .u64 Bt) * (IntKind.wrap .u64 Bt))) * (IntKind.wrap .u64 Bt))) 1000).1) ((Ts (IntKind.wrap .u64 ((IntKind.wrap .u64 ((IntKind.wrap .u64 Bt) * (IntKind.wrap .u64 Bt))) * (IntKind.wrap .u64 Bt))) 1000).2) (IntKind.wrap .u64 ((IntKind.wrap .u64 ((IntKind.wrap .u64 Cb) * (IntKind.wrap .u64 Cb))) * (IntKind.wrap .u64 Cb))) _ hr1) rfl ?_;clear S;intro v2 a w2 hv2 hk2 hn2 S
  subst hv2
  refine Vm S rfl rfl fun a S=>Vq S Fu rfl rfl rfl fun a S=>Vq S Fu rfl rfl rfl fun a S=>Va S rfl rfl fun a S=>Va S rfl rfl fun a S=>Ld ?_
  replace S:=S.k1 9 rfl
  refine Tn (Fr (Vm S rfl rfl fun a S=>Vq S rn_min2 rfl rfl rfl fun a S=>Vu S (Ve underlying120 underlying3) rfl rfl fun a S=>Va S rfl rfl fun a S=>Dl (wp_ret ?_)))
  obtain rfl:=Option.some.inj h
  exact Et S results88 rfl rfl
theorem HS (w : World) (Ac : Value) (Aj : List Sr) (Ai : Slc (view w []) 2 Ac (Aj.map Sr.enc)) (Av : ByteArray) (Cb : Int) (r : Int × Int) (h : AL Aj Av Cb = some r) :
    Calls prog 35 [Ac,sV Av,iV Cb].toArray w (Ret w [] fun _ v _=>v = .tuple #[iV r.1,iV r.2]):=by
 refine Fe func35 rfl ntmps35 rfl fun a S=>?_
 unfold AL at h
 replace S:=S.k3 0 1 2 rfl
 refine Fr (Vk S rfl rfl fun a S=>Vk S rfl rfl fun a S=>Dl (Fs (Fr (Vm S rfl rfl ?_))));clear S;intro a S
 obtain ⟨r1,hr1,h⟩:=Fa h
 refine Eb S (fun _=>Dq (vs:=[Ac]) ⟨(S.tm rfl),trivial⟩ call85) (EM _ Ac Aj (Ai.mono (S.le_arg Eg)) _ hr1) rfl ?_;clear S;intro v1 a w1 hv1 hk1 hn1 S
 subst hv1
 refine Va S rfl rfl fun a S=>Dz (Vm S rfl rfl fun a S=>Vq S Mn rfl rfl rfl fun a S=>Dl (Fc h (S.tm rfl) (fun hb1 h=>?_) (fun hb1 h=>?_)))
 ·refine Fr (Vm S rfl rfl fun a S=>Vk S rfl rfl fun a S=>Va S rfl rfl fun a S=>Dl (wp_ret (Dv ?_)))
  obtain rfl:=Option.some.inj h
  exact Mq S results35 rfl rfl rfl
 ·refine wp_skip (Tn (Fr (Vm S rfl rfl fun a S=>Vm S rfl rfl fun a S=>Eb S (fun _=>Dq (vs:=[Ac,sV Av]) ⟨(S.tm rfl),(S.tm rfl),trivial⟩ call86) (HQ _ Ac Aj (Ai.mono (S.le_arg Eg)) Av _ rfl) rfl ?_)));clear S;intro v2 a w2 hv2 hk2 hn2 S
  subst hv2
  refine Va S rfl rfl fun a S=>Dl (Fs (Fr (Vm S rfl rfl fun a S=>Vq S Jk rfl rfl rfl fun a S=>Ld ?_)))
  replace S:=S.k3 2 9 19 rfl
  refine Tn (Fc h (S.tm rfl) (fun hb2 h=>?_) (fun hb2 h=>?_))
  ·refine Fr (Vk S rfl rfl fun a S=>Vk S rfl rfl fun a S=>Dl (wp_ret (Dv ?_)))
   obtain rfl:=Option.some.inj h
   exact Mq S results35 rfl rfl rfl
  ·refine wp_skip (Tn (Fs (Fr (Vm S rfl rfl fun a S=>Eb S (fun _=>Dq (vs:=[iV Cb]) ⟨(S.tm rfl),trivial⟩ call87) (AY _ Cb _ rfl) rfl ?_))));clear S;intro v3 a w3 hv3 hk3 hn3 S
   subst hv3
   refine Vu S Ih rfl rfl fun a S=>Dl (Fc h (S.tm rfl) (fun hb3 h=>?_) (fun hb3 h=>?_))
   ·refine Fr (Vk S rfl rfl fun a S=>Vk S rfl rfl fun a S=>Dl (wp_ret (Dv ?_)))
    obtain rfl:=Option.some.inj h
    exact Mq S results35 rfl rfl rfl
   ·refine wp_skip (Tn (Fr (Vm S rfl rfl fun a S=>Vm S rfl rfl ?_)));clear S;intro a S
    obtain ⟨r2,hr2,h⟩:=Fa h
    refine Eb S (fun _=>Dq (vs:=[iV (Ui Aj Av),iV Cb]) ⟨(S.tm rfl),(S.tm rfl),trivial⟩ call88) (HR _ (Ui Aj Av) Cb _ hr2) rfl ?_;clear S;intro v4 a w4 hv4 hk4 hn4 S
    subst hv4
    refine Va S rfl rfl fun a S=>Vk S rfl rfl fun a S=>Dl (wp_ret ?_)
    obtain rfl:=Option.some.inj h
    exact Mq S results35 rfl rfl rfl
theorem EN (w : World) (r : Bool) (h : Vp = some r) :
    Calls prog 17 [].toArray w (Ret w [] fun _ v _=>v = bV r):=by
 refine Fe func17 rfl ntmps17 rfl fun a S=>?_
 unfold Vp at h
 replace S:=S.k0
 refine Fr (Vk S rfl rfl fun a S=>Dz (lv S (Nl bt_86 (pv:=[(0,iV 2024),(1,iV 3),(2,iV 1)]) ⟨rfl,rfl,rfl,rfl,rfl,rfl,trivial⟩ (cs:=[iV 2024,iV 3,iV 1]) (by kernel_rfl)) rfl ?_));clear S;intro a S
 obtain ⟨r1,hr1,h⟩:=Fa h
 refine Eb S (fun _=>Dq (vs:=[.agg (Nj.enc (Nj.mk 2024 3 1)).toArray]) ⟨(S.tm rfl),trivial⟩ call33) (HO _ (Nj.mk 2024 3 1) _ hr1) rfl ?_;clear S;intro v1 a w1 hv1 hk1 hn1 S
 subst hv1
 refine Vm S rfl rfl fun a S=>Vq S Fu rfl rfl rfl fun a S=>Vq S Fu rfl rfl rfl fun a S=>Va S rfl rfl fun a S=>Va S rfl rfl fun a S=>Dz (lv S (Nl bt_89 (pv:=[(0,sV k_a),(1,iV 2),(2,iV 10),(3,iV 5)]) ⟨rfl,rfl,rfl,rfl,rfl,rfl,rfl,rfl,trivial⟩ (cs:=[sV k_a,iV 2,iV 10,iV 5,iV 0]) (by kernel_rfl)) rfl fun a S=>Ey S underlying90 sizeOf89 zeroValue89 rfl rfl (pv:=[(0,.agg #[sV k_a,iV 2,iV 10,iV 5,iV 0])]) ⟨rfl,(S.tm rfl),trivial⟩ (cs:=[sV k_a,iV 2,iV 10,iV 5,iV 0]) (by kernel_rfl) rfl ?_);clear S;intro a w2 b1 hz1 hk2 S
 obtain ⟨r2,hr2,h⟩:=Fa h
 refine Eb S (fun _=>Dq (vs:=[.slice (some ⟨b1,0,none⟩) 1 1,iV 0]) ⟨(S.tm rfl),rfl,trivial⟩ call34) (IV _ (.slice (some ⟨b1,0,none⟩) 1 1) [(Om.mk k_a 2 10 5 0)] (Lg Om.enc_ok S (i:=0) rfl rfl rfl rfl ((Hg (e':=.blk b1 [sV k_a,iV 2,iV 10,iV 5,iV 0] 89)) _ rfl)) 0 _ hr2) rfl ?_;clear S;intro v2 a w3 hv2 hk3 hn2 S
 subst hv2
 refine Vm S rfl rfl fun a S=>Vq S Fu rfl rfl rfl fun a S=>Vq S Fu rfl rfl rfl fun a S=>Va S rfl rfl fun a S=>Va S rfl rfl fun a S=>Ld ?_
 replace S:=S.n0.k4 1 2 3 4 rfl
 refine Tn (Fr (lv S (Nl bt_93 (pv:=[(0,sV k_r),(1,iV 3000)]) ⟨rfl,rfl,rfl,rfl,trivial⟩ (cs:=[sV k_r,iV 3000]) (by kernel_rfl)) rfl fun a S=>Ey S underlying94 sizeOf93 zeroValue93 rfl rfl (pv:=[(0,.agg #[sV k_r,iV 3000])]) ⟨rfl,(S.tm rfl),trivial⟩ (cs:=[sV k_r,iV 3000]) (by kernel_rfl) rfl ?_));clear S;intro a w4 b2 hz2 hk4 S
 obtain ⟨r3,hr3,h⟩:=Fa h
 refine Eb S (fun _=>Dq (vs:=[.slice (some ⟨b2,0,none⟩) 1 1,sV k_r,iV 6000]) ⟨(S.tm rfl),rfl,rfl,trivial⟩ call35) (HS _ (.slice (some ⟨b2,0,none⟩) 1 1) [(Sr.mk k_r 3000)] (Lg Sr.enc_ok S (i:=0) rfl rfl rfl rfl ((Hg (e':=.blk b2 [sV k_r,iV 3000] 93)) _ rfl)) k_r 6000 _ hr3) rfl ?_;clear S;intro v3 a w5 hv3 hk5 hn3 S
 subst hv3
 refine Vm S rfl rfl fun a S=>Vq S Fu rfl rfl rfl fun a S=>Vq S Fu rfl rfl rfl fun a S=>Va S rfl rfl fun a S=>Va S rfl rfl fun a S=>Dz (Vm S rfl rfl fun a S=>Vq S Jk rfl rfl rfl ?_);clear S;intro a S
 refine Vm S rfl rfl fun a S=>Iy 3 (fun a w'=>Keep [] w5 w' ∧ Sx w [] nov [.blk b2 [sV k_r,iV 3000] 93] [(1,iV r1.1),(3,iV r2.1),(5,iV r3.1),(6,iV r3.2),(29,bV ((decide (r1.2 = 0)) && (decide (r2.2 = 0))))] 46 a w') ?_ ?_
 ·rcases Bool.eq_false_or_eq_true (decide (r1.2 = 0)) with hb1 | hb1
  ·exact Dy S rfl rfl rfl hb1 (Vm S rfl rfl fun a S=>Dy S rfl rfl rfl hb1 (Vq S Jk rfl rfl rfl fun a S=>lv S (Io hb1 (S.tm rfl) (S.tm rfl)) rfl fun a S=>Dl (⟨Keep.refl _ _,S.nf [true] rfl (subR rfl)⟩)))
  ·exact Ht S rfl rfl rfl (Kp hb1) rfl (fun a S=>Ht S rfl rfl rfl (Kp hb1) rfl (fun a S=>lv S (Ip (decide (r2.2 = 0)) hb1 (S.tm rfl) rfl) rfl fun a S=>Dl (⟨Keep.refl _ _,S.nf [true] rfl (subR rfl)⟩)) rfl) rfl
 clear S;rintro a w6 ⟨hk6,S⟩
 refine Vm S rfl rfl fun a S=>Iy 3 (fun a w'=>Keep [] w6 w' ∧ Sx w [] nov [.blk b2 [sV k_r,iV 3000] 93] [(1,iV r1.1),(3,iV r2.1),(5,iV r3.1),(33,bV (((decide (r1.2 = 0)) && (decide (r2.2 = 0))) && (decide (r3.2 = 0))))] 46 a w') ?_ ?_
 ·rcases Bool.eq_false_or_eq_true ((decide (r1.2 = 0)) && (decide (r2.2 = 0))) with hb2 | hb2
  ·exact Dy S rfl rfl rfl hb2 (Vm S rfl rfl fun a S=>Dy S rfl rfl rfl hb2 (Vq S Jk rfl rfl rfl fun a S=>lv S (Io hb2 (S.tm rfl) (S.tm rfl)) rfl fun a S=>Dl (⟨Keep.refl _ _,S.nf [true] rfl (subR rfl)⟩)))
  ·exact Ht S rfl rfl rfl (Kp hb2) rfl (fun a S=>Ht S rfl rfl rfl (Kp hb2) rfl (fun a S=>lv S (Ip (decide (r3.2 = 0)) hb2 (S.tm rfl) rfl) rfl fun a S=>Dl (⟨Keep.refl _ _,S.nf [true] rfl (subR rfl)⟩)) rfl) rfl
 clear S;rintro a w7 ⟨hk7,S⟩
 refine Vm S rfl rfl fun a S=>Iy 3 (fun a w'=>Keep [] w7 w' ∧ Sx w [] nov [.blk b2 [sV k_r,iV 3000] 93] [(3,iV r2.1),(5,iV r3.1),(37,bV ((((decide (r1.2 = 0)) && (decide (r2.2 = 0))) && (decide (r3.2 = 0))) && (decide (r1.1 = 60))))] 46 a w') ?_ ?_
 ·rcases Bool.eq_false_or_eq_true (((decide (r1.2 = 0)) && (decide (r2.2 = 0))) && (decide (r3.2 = 0))) with hb3 | hb3
  ·exact Dy S rfl rfl rfl hb3 (Vm S rfl rfl fun a S=>Dy S rfl rfl rfl hb3 (Vq S Jk rfl rfl rfl fun a S=>lv S (Io hb3 (S.tm rfl) (S.tm rfl)) rfl fun a S=>Dl (⟨Keep.refl _ _,S.nf [true] rfl (subR rfl)⟩)))
  ·exact Ht S rfl rfl rfl (Kp hb3) rfl (fun a S=>Ht S rfl rfl rfl (Kp hb3) rfl (fun a S=>lv S (Ip (decide (r1.1 = 60)) hb3 (S.tm rfl) rfl) rfl fun a S=>Dl (⟨Keep.refl _ _,S.nf [true] rfl (subR rfl)⟩)) rfl) rfl
 clear S;rintro a w8 ⟨hk8,S⟩
 refine Vm S rfl rfl fun a S=>Iy 3 (fun a w'=>Keep [] w8 w' ∧ Sx w [] nov [.blk b2 [sV k_r,iV 3000] 93] [(5,iV r3.1),(41,bV (((((decide (r1.2 = 0)) && (decide (r2.2 = 0))) && (decide (r3.2 = 0))) && (decide (r1.1 = 60))) && (decide (r2.1 = 25))))] 46 a w') ?_ ?_
 ·rcases Bool.eq_false_or_eq_true ((((decide (r1.2 = 0)) && (decide (r2.2 = 0))) && (decide (r3.2 = 0))) && (decide (r1.1 = 60))) with hb4 | hb4
  ·exact Dy S rfl rfl rfl hb4 (Vm S rfl rfl fun a S=>Dy S rfl rfl rfl hb4 (Vq S Jk rfl rfl rfl fun a S=>lv S (Io hb4 (S.tm rfl) (S.tm rfl)) rfl fun a S=>Dl (⟨Keep.refl _ _,S.nf [true] rfl (subR rfl)⟩)))
  ·exact Ht S rfl rfl rfl (Kp hb4) rfl (fun a S=>Ht S rfl rfl rfl (Kp hb4) rfl (fun a S=>lv S (Ip (decide (r2.1 = 25)) hb4 (S.tm rfl) rfl) rfl fun a S=>Dl (⟨Keep.refl _ _,S.nf [true] rfl (subR rfl)⟩)) rfl) rfl
 clear S;rintro a w9 ⟨hk9,S⟩
 refine Vm S rfl rfl fun a S=>Iy 3 (fun a w'=>Keep [] w9 w' ∧ Sx w [] nov [.blk b2 [sV k_r,iV 3000] 93] [(45,bV ((((((decide (r1.2 = 0)) && (decide (r2.2 = 0))) && (decide (r3.2 = 0))) && (decide (r1.1 = 60))) && (decide (r2.1 = 25))) && (decide (r3.1 = 125))))] 46 a w') ?_ ?_
 ·rcases Bool.eq_false_or_eq_true (((((decide (r1.2 = 0)) && (decide (r2.2 = 0))) && (decide (r3.2 = 0))) && (decide (r1.1 = 60))) && (decide (r2.1 = 25))) with hb5 | hb5
  ·exact Dy S rfl rfl rfl hb5 (Vm S rfl rfl fun a S=>Dy S rfl rfl rfl hb5 (Vq S Jk rfl rfl rfl fun a S=>lv S (Io hb5 (S.tm rfl) (S.tm rfl)) rfl fun a S=>Dl (⟨Keep.refl _ _,S.nf [true] rfl ⟨rfl,trivial⟩⟩)))
  ·exact Ht S rfl rfl rfl (Kp hb5) rfl (fun a S=>Ht S rfl rfl rfl (Kp hb5) rfl (fun a S=>lv S (Ip (decide (r3.1 = 125)) hb5 (S.tm rfl) rfl) rfl fun a S=>Dl (⟨Keep.refl _ _,S.nf [true] rfl ⟨rfl,trivial⟩⟩)) rfl) rfl
 clear S;rintro a w10 ⟨hk10,S⟩
 refine Va S rfl rfl fun a S=>Dl (wp_ret ?_)
 obtain rfl:=Option.some.inj h
 exact Et S results17 rfl rfl
set_option maxRecDepth 20000 in
theorem Xv (w : World) (Ac : Value) (Aj : List Int) (Ai : Slc (view w []) 1 Ac (Aj.map eInt)) (r : Bool) (h : Pc Aj = some r) :
    Calls prog 3 [Ac].toArray w (Ret w [] fun _ v _=>v = bV r):=by
 refine Fe func3 rfl ntmps3 rfl fun a S=>?_
 unfold Pc at h
 replace S:=S.k1 0 rfl
 refine Fr (Vk S rfl rfl fun a S=>Dz (Vm S rfl rfl ?_));clear S;intro a S
 refine lv S (Nl bt_25 (pv:=[(0,Ac)]) ⟨rfl,(S.tm rfl),trivial⟩ (cs:=[Ac,iV 0]) (by obtain ⟨_,_,hv⟩:=(Gf Ai);rw [hv];clear hv;kernel_rfl)) rfl ?_;clear S;intro a S
 refine Lw S (S.tm rfl) (cs:=[Ac,iV 0]) rfl rfl ?_;clear S;intro a w1 b1 hz1 hk1 S
 refine Va S rfl rfl fun a S=>Dz (Vm S rfl rfl ?_);clear S;intro a S
 obtain ⟨r1,hr1,h⟩:=Fa h
 have hz2:=S.keep.size
 refine Hu 0 S (b:=b1) rfl rfl (fun _=>.blk b1 [Ac,iV r1.2] 25) (fun _=>Dq (vs:=[.pointer (some ⟨b1,0,none⟩)]) ⟨(S.tm rfl),trivial⟩ call4) (EI _ b1 Ac Aj (Ai.mono (S.le_arg (Jn (i:=0) (e:=.blk b1 [Ac,iV 0] 25) rfl))) 0 (S.holds _ (List.mem_of_getElem? (i:=0) rfl)) _ hr1) rfl (fun _ _ _ h=>⟨h.1,fun _ hc=>by cases hc;rfl⟩) ?_;clear S;intro v1 a w2 hv1 hk2 hn1 S
 replace hv1:=hv1.2
 obtain ⟨q1,rfl,hq1⟩:=hv1
 obtain ⟨φ1,hl1,hm1,S⟩:=S.see' hn1 hz2
 obtain ⟨u2,u3,rfl,hs1,⟨u4,rfl,hs2⟩⟩:=AA hm1 _ _ hq1
 refine Vm S rfl rfl fun a S=>Vm S rfl rfl ?_;clear S;intro a S
 obtain ⟨r2,hr2,h⟩:=Fa h
 refine Hu 0 S (b:=b1) rfl rfl (fun _=>.blk b1 [Ac,iV r2.2] 25) (fun _=>Dq (vs:=[.pointer (some ⟨b1,0,none⟩),iV 4,iV 16]) ⟨(S.tm rfl),rfl,rfl,trivial⟩ call6) (Qr _ b1 Ac Aj (Ai.mono (S.le_arg (Jn (i:=0) (e:=.blk b1 [Ac,iV r1.2] 25) rfl))) r1.2 (S.holds _ (List.mem_of_getElem? (i:=0) rfl)) 4 16 _ hr2) rfl (fun _ _ _ h=>⟨h.1,fun _ hc=>by cases hc;rfl⟩) ?_;clear S;intro v2 a w3 hv2 hk3 hn2 S
 replace hv2:=hv2.2
 subst hv2
 obtain ⟨r3,hr3,h⟩:=Fa h
 have hz3:=S.keep.size
 refine Hu 0 S (b:=b1) rfl rfl (fun _=>.blk b1 [Ac,iV r3.2] 25) (fun _=>Dq (vs:=[.pointer (some ⟨b1,0,none⟩),iV r2.1]) ⟨(S.tm rfl),(S.tm rfl),trivial⟩ call5) (DI _ b1 Ac Aj (Ai.mono (S.le_arg (Jn (i:=0) (e:=.blk b1 [Ac,iV r2.2] 25) rfl))) r2.2 (S.holds _ (List.mem_of_getElem? (i:=0) rfl)) r2.1 _ hr3) rfl (fun _ _ _ h=>⟨h.1,fun _ hc=>by cases hc;rfl⟩) ?_;clear S;intro v3 a w4 hv3 hk4 hn3 S
 replace hv3:=hv3.2
 obtain ⟨φ2,hl2,hm2,S⟩:=S.see' hn3 hz3
 have hs3:=hv3.mono hm2
 refine Hq S zeroValue32 (cs:=[.slice none 0 0,.slice none 0 0,iV 0,iV 0,iV 0,iV 0,iV 0]) rfl rfl ?_;clear S;intro a w5 b2 hz4 hk5 S
 refine Ex S (S.tm rfl) (S.tm rfl) (i:=0) (off:=0) rfl sizeOf32 (vs:=[u2.val,u4.val,iV r1.1.Table.Relay,iV r1.1.Table.Most,iV r1.1.Final.Size,iV r1.1.Final.Many,iV r1.1.Final.Reserves]) rfl rfl rfl (Vi (Lp.one (Gf hs1)) (Vi (Lp.one (Gf hs2)) (Vi rfl (Vi rfl (Vi rfl (Vi rfl (Vi rfl rfl))))))) ?_;clear S;intro w6 hk6 S
 refine Va S rfl rfl fun a S=>Dz (Vk S rfl rfl ?_);clear S;intro a S
 replace S:=S.nil 52 5
 refine Ld ?_
 replace S:=(S.nl [.own (.slice none 0 0) 52 5 ([] : List Dj).length (([] : List Dj).flatMap Dj.enc),.blk b2 [u2.val,u4.val,iV r1.1.Table.Relay,iV r1.1.Table.Most,iV r1.1.Final.Size,iV r1.1.Final.Many,iV r1.1.Final.Reserves] 32] [true,true,false] rfl).k3 4 5 6 rfl
 refine Tn (Fr (Vf Yu S rfl rfl fun a S=>Vl isAgg26 1 S rfl rfl rfl rfl ?_));clear S;intro a S
 obtain ⟨r4,hr4,h⟩:=Fa h
 have hz5:=S.keep.size
 refine Eb S (fun _=>Dq (vs:=[u2.val]) ⟨(S.tm rfl),trivial⟩ call7) (DJ _ u2.val r1.1.Races (hs1.mono (View.le_trans hl2 (S.le_new Eg))) _ hr4) rfl ?_;clear S;intro v4 a w7 hv4 hk7 hn4 S
 replace S:=S.take hn4 hz5 hv4
 refine Va S rfl rfl fun a S=>Dz (Vm S rfl rfl ?_);clear S;intro a S
 obtain ⟨r5,hr5,h⟩:=Fa h
 refine Mj 0 S rfl (fun _=>.own v4 40 8 r5.length (r5.flatMap Du.enc)) (fun _=>Dq (vs:=[v4,.func (.func 9) #[] #[]]) ⟨(S.tm rfl),rfl,trivial⟩ call8) (Qs _ v4 r4 (S.holds _ (List.mem_of_getElem? (i:=0) rfl)) _ hr5) rfl (fun _ _ _ h=>⟨h.1,fun _ hc=>hc⟩) ?_;clear S;intro v5 a w8 hv5 hk8 hn5 S
 replace hv5:=hv5.2
 subst hv5
 refine Dl (Fs (Fr (Vm S rfl rfl fun a S=>lv S (Gi Sh (S.tm rfl) (Pb (S.own_at (i:=0) rfl))) rfl fun a S=>lv S (Rm rfl) rfl fun a S=>Dl ?_)))
 replace S:=(S.nl [.own v4 40 8 r5.length (r5.flatMap Du.enc),.own (.slice none 0 0) 52 5 ([] : List Dj).length (([] : List Dj).flatMap Dj.enc),.blk b2 [u2.val,u4.val,iV r1.1.Table.Relay,iV r1.1.Table.Most,iV r1.1.Final.Size,iV r1.1.Final.Many,iV r1.1.Final.Reserves] 32] [true,true,true] rfl).k6 4 5 6 37 38 39 rfl
 have hm3:=ST (S.own_at (i:=0) rfl)
 obtain ⟨j1,hj1,h⟩:=Eu h
 refine Eh (fun a w'=>∃ x1 : List Dj,∃ φ3 : View,∃ v6 : Value,j1 x1 = some r ∧ View.le φ2 φ3 ∧ Sx w [] φ3 [.own v4 40 8 r5.length (r5.flatMap Du.enc),.own v6 52 5 x1.length (x1.flatMap Dj.enc),.blk b2 [u2.val,u4.val,iV r1.1.Table.Relay,iV r1.1.Table.Most,iV r1.1.Final.Size,iV r1.1.Final.Many,iV r1.1.Final.Reserves] 32] [(4,.pointer (some ⟨b2,0,none⟩)),(5,v3),(6,v6)] 139 a w') ?_ ?_
 ·refine wp_block (Gr (fun (ys1 : List Du) a w'=>∃ i1 : Nat,∃ x1 : List Dj,∃ φ3 : View,∃ v6 : Value,(∃ dn,r5 = dn ++ ys1 ∧ dn.length = i1) ∧ Ho r1 r3 j1 ys1 i1 x1 = some r ∧ View.le φ2 φ3 ∧ Sx w [] φ3 [.own v4 40 8 r5.length (r5.flatMap Du.enc),.own v6 52 5 x1.length (x1.flatMap Dj.enc),.blk b2 [u2.val,u4.val,iV r1.1.Table.Relay,iV r1.1.Table.Most,iV r1.1.Final.Size,iV r1.1.Final.Many,iV r1.1.Final.Reserves] 32] [(4,.pointer (some ⟨b2,0,none⟩)),(5,v3),(6,v6),(37,v4),(38,iV (r5.length : Int)),(39,iV (i1 : Int))] 139 a w') List.length r5 ⟨0,([] : List Dj),φ2,(.slice none 0 0),⟨[],rfl,rfl⟩,h,View.le_refl _,S.nf [true,true,true] rfl (subR rfl)⟩ ?_)
  clear S h;rintro ys1 a w9 ⟨i1,x1,φ3,v6,⟨dn,hd1,hi1⟩,h,hl3,S⟩
  cases ys1 with
  | nil =>
   rw [Ho.eq_1] at h
   refine Fr (Vb S Es rfl rfl rfl fun a S=>Ld ?_)
   replace S:=S.k7 4 5 6 37 38 39 40 rfl
   exact Tn (Fs (wp_cond_false ((S.tm rfl).trans (congrArg Value.bool (Jd hd1 hi1))) (wp_exit (Ed (Ed (Gn (Tn (⟨x1,φ3,v6,h,hl3,S.nf [true,true,true] rfl (subR rfl)⟩))))))))
  | cons y1 ys1 =>
   rw [Ho.eq_2] at h
   refine Fr (Vb S Es rfl rfl rfl fun a S=>Ld ?_)
   replace S:=S.k7 4 5 6 37 38 39 40 rfl
   refine Tn (Fs (wp_cond_true ((S.tm rfl).trans (congrArg Value.bool (Ia hd1 hi1))) (wp_skip (Tn (Fs (wp_block (Fs (Fg ?_))))))))
   obtain ⟨b3,hg1,hr6⟩:=Gh (a:=a) (x:=.tmp 37) (y:=.tmp 39) (ty:=0) Sh Du.enc_ok S (i:=0) rfl (Jc hd1 hi1) rfl (S.tm rfl) (S.tm rfl)
   refine lv S (hr6 _) rfl ?_;clear S;intro a S
   clear hr6
   refine lv S (Fb isAgg40 sizeOf40 (off:=i1 * 8) (o:=0) (part:=(Du.enc y1)) rfl rfl (S.tm rfl) (Uf Du.enc_ok S (i:=0) rfl hg1 (Jc hd1 hi1))) rfl fun a S=>Hq S zeroValue40 (cs:=[sV An,iV 0,iV 0,iV 0,iV 0,iV 0,iV 0,iV 0]) rfl rfl ?_;clear S;intro a w11 b4 hz6 hk9 S
   refine Ex S (S.tm rfl) (S.tm rfl) (i:=0) (off:=0) rfl sizeOf40 (vs:=(Du.enc y1)) rfl rfl rfl rfl ?_;clear S;intro w12 hk10 S
   refine Dz (lv S (Fb isAgg32 sizeOf32 (off:=0) (o:=0) (part:=[u2.val,u4.val,iV r1.1.Table.Relay,iV r1.1.Table.Most,iV r1.1.Final.Size,iV r1.1.Final.Many,iV r1.1.Final.Reserves]) rfl rfl (S.tm rfl) (S.cellsAt (i:=3) rfl)) rfl fun a S=>Vm S rfl rfl fun a S=>Vf Vr S rfl rfl fun a S=>Vl isAgg9 0 S rfl rfl rfl rfl ?_);clear S;intro a S
   obtain ⟨r6,hr7,h⟩:=Fa h
   have hz7:=S.keep.size
   refine Eb S (fun _=>Dq (vs:=[.agg (R32.enc (R32.mk u2 (R28.mk u4 r1.1.Table.Relay r1.1.Table.Most) r1.1.Final)).toArray,v3,sV y1.Key,iV 60]) ⟨(S.tm rfl),(S.tm rfl),(S.tm rfl),rfl,trivial⟩ call10) (IS _ r1.1 (R32.mk u2 (R28.mk u4 r1.1.Table.Relay r1.1.Table.Most) r1.1.Final) ⟨u2,(R28.mk u4 r1.1.Table.Relay r1.1.Table.Most),rfl,(hs1.mono (View.le_trans (View.le_trans hl2 hl3) (S.le_new Eg))),⟨u4,rfl,(hs2.mono (View.le_trans (View.le_trans hl2 hl3) (S.le_new Eg)))⟩⟩ v3 r3.1 ((Ge Di.enc_ok hs3).mono (View.le_trans hl3 (S.le_new Eg))) y1.Key 60 _ hr7) rfl ?_;clear S;intro v7 a w13 hv6 hk11 hn6 S
   obtain ⟨u7,rfl,ho4⟩:=hv6
   obtain ⟨φ4,hl4,hm5,S⟩:=S.see' hn6 hz7
   have hs4:=ho4.mono hm5
   refine Vm S rfl rfl fun a S=>Vq S Fu rfl rfl rfl fun a S=>Vq S Fu rfl rfl rfl fun a S=>Va S rfl rfl fun a S=>Va S rfl rfl fun a S=>Ld ?_
   replace S:=(S.nl [.blk b4 (Du.enc y1) 40,.own v4 40 8 r5.length (r5.flatMap Du.enc),.own v6 52 5 x1.length (x1.flatMap Dj.enc),.blk b2 [u2.val,u4.val,iV r1.1.Table.Relay,iV r1.1.Table.Most,iV r1.1.Final.Size,iV r1.1.Final.Many,iV r1.1.Final.Reserves] 32] [true,true,true,true] rfl).k9 4 5 6 9 10 11 37 38 39 rfl
   refine Tn (Fs (Fr (Vm S rfl rfl fun a S=>Vq S Mn rfl rfl rfl fun a S=>Dl (Fc h (S.tm rfl) (fun hb1 h=>?_) (fun hb1 h=>?_)))))
   ·refine Fr (Vk S rfl rfl fun a S=>Dl (wp_ret (Dv (Gq (Dv (Dv (Gq ?_)))))))
    refine Dv (Dv ?_)
    obtain rfl:=Option.some.inj h
    exact Et S results3 rfl rfl
   ·refine wp_skip (Tn (Fr (Vm S rfl rfl fun a S=>lv S (Gi PE (S.tm rfl) (Gf (Ge Je.enc_ok hs4))) rfl fun a S=>lv S (Rm rfl) rfl fun a S=>Dl ?_)))
    replace S:=S.k10 4 5 6 9 37 38 39 53 54 55 rfl
    obtain ⟨j2,hj2,h⟩:=Eu h
    refine Eh (fun a w'=>∃ x2 : List Dj,∃ v8 : Value,j2 x2 = some r ∧ Sx w [] φ4 [.blk b4 (Du.enc y1) 40,.own v4 40 8 r5.length (r5.flatMap Du.enc),.own v8 52 5 x2.length (x2.flatMap Dj.enc),.blk b2 [u2.val,u4.val,iV r1.1.Table.Relay,iV r1.1.Table.Most,iV r1.1.Final.Size,iV r1.1.Final.Many,iV r1.1.Final.Reserves] 32] [(4,.pointer (some ⟨b2,0,none⟩)),(5,v3),(6,v8),(37,v4),(38,iV (r5.length : Int)),(39,iV (i1 : Int))] 139 a w') ?_ ?_
    ·refine wp_block (Gr (fun (ys2 : List Je) a w'=>∃ i2 : Nat,∃ x2 : List Dj,∃ v8 : Value,(∃ dn,r6.1 = dn ++ ys2 ∧ dn.length = i2) ∧ Hn y1 j2 ys2 i2 x2 = some r ∧ Sx w [] φ4 [.blk b4 (Du.enc y1) 40,.own v4 40 8 r5.length (r5.flatMap Du.enc),.own v8 52 5 x2.length (x2.flatMap Dj.enc),.blk b2 [u2.val,u4.val,iV r1.1.Table.Relay,iV r1.1.Table.Most,iV r1.1.Final.Size,iV r1.1.Final.Many,iV r1.1.Final.Reserves] 32] [(4,.pointer (some ⟨b2,0,none⟩)),(5,v3),(6,v8),(9,.pointer (some ⟨b4,0,none⟩)),(37,v4),(38,iV (r5.length : Int)),(39,iV (i1 : Int)),(53,u7),(54,iV (r6.1.length : Int)),(55,iV (i2 : Int))] 139 a w') List.length r6.1 ⟨0,x1,v6,⟨[],rfl,rfl⟩,h,S.nf [true,true,true,true] rfl (subR rfl)⟩ ?_)
     clear S h;rintro ys2 a w14 ⟨i2,x2,v8,⟨dn,hd2,hi2⟩,h,S⟩
     cases ys2 with
     | nil =>
      rw [Hn.eq_1] at h
      refine Fr (Vb S Es rfl rfl rfl fun a S=>Ld ?_)
      replace S:=S.k11 4 5 6 9 37 38 39 53 54 55 56 rfl
      exact Tn (Fs (wp_cond_false ((S.tm rfl).trans (congrArg Value.bool (Jd hd2 hi2))) (wp_exit (Ed (Ed (Gn (Tn (⟨x2,v8,h,S.nf [true,true,true,true] rfl (subR rfl)⟩))))))))
     | cons y2 ys2 =>
      rw [Hn.eq_2] at h
      refine Fr (Vb S Es rfl rfl rfl fun a S=>Ld ?_)
      replace S:=S.k11 4 5 6 9 37 38 39 53 54 55 56 rfl
      refine Tn (Fs (wp_cond_true ((S.tm rfl).trans (congrArg Value.bool (Ia hd2 hi2))) (wp_skip (Tn (Fs (wp_block (Fs (Fg ?_))))))))
      obtain ⟨b5,o2,hm6,hr8⟩:=Fk (a:=a) (x:=.tmp 53) (y:=.tmp 55) (ty:=0) PE (Ge Je.enc_ok hs4) (Jc hd2 hi2) rfl (S.tm rfl) (S.tm rfl)
      refine lv S (hr8 _) rfl ?_;clear S;intro a S
      clear hr8
      refine lv S (Fb isAgg50 sizeOf50 (off:=o2) (o:=0) (part:=(Je.enc y2)) rfl rfl (S.tm rfl) (hm6.at S.emb)) rfl fun a S=>Hq S zeroValue50 (cs:=[iV 0,sV An,sV An,iV 0,iV 0,iV 0,iV 0]) rfl rfl ?_;clear S;intro a w16 b6 hz8 hk12 S
      refine Ex S (S.tm rfl) (S.tm rfl) (i:=0) (off:=0) rfl sizeOf50 (vs:=(Je.enc y2)) rfl rfl rfl rfl ?_;clear S;intro w17 hk13 S
      refine Dl (Fg (Vm S rfl rfl fun a S=>Vf Vr S rfl rfl fun a S=>Vl isAgg9 1 S rfl rfl rfl rfl fun a S=>Vf fa_50_1 S rfl rfl fun a S=>Vl isAgg9 0 S rfl rfl rfl rfl fun a S=>Vf JD S rfl rfl fun a S=>Vl isAgg9 0 S rfl rfl rfl rfl fun a S=>Vf fa_50_0 S rfl rfl ?_));clear S;intro a S
      refine Vl isAgg3 0 S rfl rfl rfl rfl fun a S=>Vf EA S rfl rfl fun a S=>Vl isAgg3 1 S rfl rfl rfl rfl fun a S=>Vq S Kb rfl rfl rfl fun a S=>lv S (Nl bt_52 (pv:=[(0,sV y1.Key),(1,sV y2.Who),(2,sV y2.Club),(3,iV y2.Rank),(4,bV (decide (1 < y1.Legs)))]) ⟨rfl,(S.tm rfl),rfl,(S.tm rfl),rfl,(S.tm rfl),rfl,(S.tm rfl),rfl,(S.tm rfl),trivial⟩ (cs:=[sV y1.Key,sV y2.Who,sV y2.Club,iV y2.Rank,bV (decide (1 < y1.Legs))]) (by kernel_rfl)) rfl fun a S=>Ey S underlying37 sizeOf52 zeroValue52 rfl rfl (pv:=[(0,.agg #[sV y1.Key,sV y2.Who,sV y2.Club,iV y2.Rank,bV (decide (1 < y1.Legs))])]) ⟨rfl,(S.tm rfl),trivial⟩ (cs:=[sV y1.Key,sV y2.Who,sV y2.Club,iV y2.Rank,bV (decide (1 < y1.Legs))]) (by kernel_rfl) rfl ?_;clear S;intro a w18 b7 hz9 hk14 S
      obtain ⟨hc1,h⟩:=Ig h
      refine Ni Qh Dj.enc_ok S (S.tm rfl) (i:=4) rfl (S.tm rfl) (j:=0) rfl (ys:=[(Dj.mk y1.Key y2.Who y2.Club y2.Rank (decide (1 < y1.Legs)))]) rfl rfl rfl rfl (by have:=Nu hc1;omega) rfl ?_;clear S;intro v9 a w19 hk15 S
      refine Va S rfl rfl fun a S=>Ld ?_
      replace S:=(S.nl [.blk b4 (Du.enc y1) 40,.own v4 40 8 r5.length (r5.flatMap Du.enc),.own v9 52 5 (x2 ++ [(Dj.mk y1.Key y2.Who y2.Club y2.Rank (decide (1 < y1.Legs)))]).length ((x2 ++ [(Dj.mk y1.Key y2.Who y2.Club y2.Rank (decide (1 < y1.Legs)))]).flatMap Dj.enc),.blk b2 [u2.val,u4.val,iV r1.1.Table.Relay,iV r1.1.Table.Most,iV r1.1.Final.Size,iV r1.1.Final.Many,iV r1.1.Final.Reserves] 32] [false,false,true,true,true,true] rfl).k10 4 5 6 9 37 38 39 53 54 55 rfl
      exact Hp (Tn (Fg (Vq S Gc rfl rfl rfl fun a S=>Vm S rfl rfl fun a S=>Dl (⟨ys2,⟨i2 + 1,(x2 ++ [(Dj.mk y1.Key y2.Who y2.Club y2.Rank (decide (1 < y1.Legs)))]),v9,⟨_,(hd2).trans (List.append_cons _ _ _),by simp [hi2]⟩,h,S.nf [true,true,true,true] rfl ⟨rfl,rfl,rfl,rfl,rfl,rfl,rfl,rfl,rfl,(congrArg (fun z=>some (Value.int .i64 z)) (Ib hd2 hi2 (Jp (Ge Je.enc_ok hs4)))),trivial⟩⟩,Nat.lt_succ_self _⟩))))
    clear S h;rintro a w15 ⟨x2,v8,h,S⟩;rw [hj2] at h;clear hj2 j2
    exact Hp (Tn (Fg (Vq S Gc rfl rfl rfl fun a S=>Vm S rfl rfl fun a S=>Dl (⟨ys1,⟨i1 + 1,x2,φ4,v8,⟨_,(hd1).trans (List.append_cons _ _ _),by simp [hi1]⟩,h,(View.le_trans hl3 hl4),S.nf [false,true,true,true] rfl ⟨rfl,rfl,rfl,rfl,rfl,(congrArg (fun z=>some (Value.int .i64 z)) (Ib hd1 hi1 hm3)),trivial⟩⟩,Nat.lt_succ_self _⟩))))
 clear S h;rintro a w10 ⟨x1,φ3,v6,h,hl3,S⟩;rw [hj1] at h;clear hj1 j1
 refine Tn (Fr (Vf NO S rfl rfl fun a S=>lv S (Fb isAgg28 sizeOf28 (off:=0) (o:=1) (part:=[u4.val,iV r1.1.Table.Relay,iV r1.1.Table.Most]) rfl rfl (S.tm rfl) (S.cellsAt (i:=2) rfl)) rfl fun a S=>Vm S rfl rfl ?_));clear S;intro a S
 obtain ⟨r7,hr9,h⟩:=Fa h
 have hz10:=S.keep.size
 refine Eb S (fun _=>Dq (vs:=[.agg (R28.enc (R28.mk u4 r1.1.Table.Relay r1.1.Table.Most)).toArray,v6]) ⟨(S.tm rfl),(S.tm rfl),trivial⟩ call11) (IU _ r1.1.Table (R28.mk u4 r1.1.Table.Relay r1.1.Table.Most) ⟨u4,rfl,(hs2.mono (View.le_trans (View.le_trans hl2 hl3) (S.le_new Eg)))⟩ v6 x1 (CQ Dj.enc_ok S (i:=1) rfl (Hg (e':=.own v6 52 5 x1.length (x1.flatMap Dj.enc)))) _ hr9) rfl ?_;clear S;intro v10 a w20 hv7 hk16 hn7 S
 obtain ⟨u8,rfl,ho5⟩:=hv7
 obtain ⟨φ5,hl5,hm7,S⟩:=S.see' hn7 hz10
 have hs5:=ho5.mono hm7
 refine Vm S rfl rfl fun a S=>Vq S Fu rfl rfl rfl fun a S=>Vq S Fu rfl rfl rfl fun a S=>Va S rfl rfl fun a S=>Va S rfl rfl fun a S=>Dz (lv S (Fb isAgg32 sizeOf32 (off:=0) (o:=0) (part:=[u2.val,u4.val,iV r1.1.Table.Relay,iV r1.1.Table.Most,iV r1.1.Final.Size,iV r1.1.Final.Many,iV r1.1.Final.Reserves]) rfl rfl (S.tm rfl) (S.cellsAt (i:=2) rfl)) rfl fun a S=>Vm S rfl rfl ?_);clear S;intro a S
 obtain ⟨r8,hr10,h⟩:=Fa h
 have hz11:=S.keep.size
 refine Eb S (fun _=>Dq (vs:=[.agg (R32.enc (R32.mk u2 (R28.mk u4 r1.1.Table.Relay r1.1.Table.Most) r1.1.Final)).toArray,v3,iV 60]) ⟨(S.tm rfl),(S.tm rfl),rfl,trivial⟩ call12) (LL _ r1.1 (R32.mk u2 (R28.mk u4 r1.1.Table.Relay r1.1.Table.Most) r1.1.Final) ⟨u2,(R28.mk u4 r1.1.Table.Relay r1.1.Table.Most),rfl,(hs1.mono (View.le_trans (View.le_trans (View.le_trans hl2 hl3) hl5) (S.le_new Eg))),⟨u4,rfl,(hs2.mono (View.le_trans (View.le_trans (View.le_trans hl2 hl3) hl5) (S.le_new Eg)))⟩⟩ v3 r3.1 ((Ge Di.enc_ok hs3).mono (View.le_trans (View.le_trans hl3 hl5) (S.le_new Eg))) 60 _ hr10) rfl ?_;clear S;intro v11 a w21 hv8 hk17 hn8 S
 obtain ⟨u9,rfl,ho6⟩:=hv8
 obtain ⟨φ6,hl6,hm8,S⟩:=S.see' hn8 hz11
 have hs6:=ho6.mono hm8
 refine Vm S rfl rfl fun a S=>Vq S Fu rfl rfl rfl fun a S=>Vq S Fu rfl rfl rfl fun a S=>Va S rfl rfl fun a S=>Va S rfl rfl fun a S=>Ld ?_
 replace S:=S.n0.k4 14 15 16 17 rfl
 refine Tn (Fs (Fr (Vm S rfl rfl fun a S=>Vq S Mn rfl rfl rfl fun a S=>Vm S rfl rfl fun a S=>Iy 3 (fun a w'=>Keep [] w21 w' ∧ Sx w [] φ6 [] [(14,u8),(16,u9),(94,bV ((!decide (r7.2 = 0)) || (!decide (r8.2 = 0))))] 139 a w') ?_ ?_)))
 ·rcases Bool.eq_false_or_eq_true (!decide (r7.2 = 0)) with hb2 | hb2
  ·exact Ht S rfl rfl rfl (Oa hb2) rfl (fun a S=>Ht S rfl rfl rfl (Oa hb2) rfl (fun a S=>lv S (Mo (!decide (r8.2 = 0)) hb2 (S.tm rfl) rfl) rfl fun a S=>Dl (⟨Keep.refl _ _,S.nf [] rfl (subR rfl)⟩)) rfl) rfl
  ·exact Dy S rfl rfl rfl hb2 (Vm S rfl rfl fun a S=>Dy S rfl rfl rfl hb2 (Vq S Mn rfl rfl rfl fun a S=>lv S (Mp hb2 (S.tm rfl) (S.tm rfl)) rfl fun a S=>Dl (⟨Keep.refl _ _,S.nf [] rfl (subR rfl)⟩)))
 clear S;rintro a w22 ⟨hk18,S⟩
 refine Dl (Fc h (S.tm rfl) (fun hb3 h=>?_) (fun hb3 h=>?_))
 ·refine Fr (Vk S rfl rfl fun a S=>Dl (wp_ret (Dv ?_)))
  obtain rfl:=Option.some.inj h
  exact Et S results3 rfl rfl
 ·refine wp_skip (Tn (Fs (Fr (Vm S rfl rfl fun a S=>lv S (Gi Ss (S.tm rfl) (Gf (Ge Dm.enc_ok hs6))) rfl fun a S=>lv S (Rm rfl) rfl fun a S=>Dl ?_))))
  replace S:=S.k5 14 16 95 96 97 rfl
  obtain ⟨j3,hj3,h⟩:=Eu h
  refine Eh (fun a w'=>j3 = some r ∧ Sx w [] φ6 [] [(14,u8),(16,u9)] 139 a w') ?_ ?_
  ·refine wp_block (Gr (fun (ys3 : List Dm) a w'=>∃ i3 : Nat,(∃ dn,r8.1 = dn ++ ys3 ∧ dn.length = i3) ∧ Hv r7 j3 ys3 i3 = some r ∧ Sx w [] φ6 [] [(14,u8),(16,u9),(95,u9),(96,iV (r8.1.length : Int)),(97,iV (i3 : Int))] 139 a w') List.length r8.1 ⟨0,⟨[],rfl,rfl⟩,h,S.nf [] rfl (subR rfl)⟩ ?_)
   clear S h;rintro ys3 a w23 ⟨i3,⟨dn,hd3,hi3⟩,h,S⟩
   cases ys3 with
   | nil =>
    rw [Hv.eq_1] at h
    refine Fr (Vb S Es rfl rfl rfl fun a S=>Ld ?_)
    replace S:=S.k6 14 16 95 96 97 98 rfl
    exact Tn (Fs (wp_cond_false ((S.tm rfl).trans (congrArg Value.bool (Jd hd3 hi3))) (wp_exit (Ed (Ed (Gn (Tn (⟨h,S.nf [] rfl (subR rfl)⟩))))))))
   | cons y3 ys3 =>
    rw [Hv.eq_2] at h
    refine Fr (Vb S Es rfl rfl rfl fun a S=>Ld ?_)
    replace S:=S.k6 14 16 95 96 97 98 rfl
    refine Tn (Fs (wp_cond_true ((S.tm rfl).trans (congrArg Value.bool (Ia hd3 hi3))) (wp_skip (Tn (Fs (wp_block (Fs (Fg ?_))))))))
    obtain ⟨b8,o3,hm9,hr11⟩:=Fk (a:=a) (x:=.tmp 95) (y:=.tmp 97) (ty:=0) Ss (Ge Dm.enc_ok hs6) (Jc hd3 hi3) rfl (S.tm rfl) (S.tm rfl)
    refine lv S (hr11 _) rfl ?_;clear S;intro a S
    clear hr11
    refine lv S (Fb isAgg58 sizeOf58 (off:=o3) (o:=0) (part:=(Dm.enc y3)) rfl rfl (S.tm rfl) (hm9.at S.emb)) rfl fun a S=>Hq S zeroValue58 (cs:=[sV An,iV 0,iV 0]) rfl rfl ?_;clear S;intro a w25 b9 hz12 hk19 S
    refine Ex S (S.tm rfl) (S.tm rfl) (i:=0) (off:=0) rfl sizeOf58 (vs:=(Dm.enc y3)) rfl rfl rfl rfl ?_;clear S;intro w26 hk20 S
    refine Dz (Vm S rfl rfl fun a S=>lv S (Tk (us:=#[]) (xs:=[].toArray) (ys:=[.tmp 19].toArray) (by simp) (evA ⟨(S.tm rfl),trivial⟩ (vs:=[.pointer (some ⟨b9,0,none⟩)]))) rfl fun a S=>Eb S (fun _=>Dq (vs:=[u8,.func (.func 14) #[] #[.pointer (some ⟨b9,0,none⟩)]]) ⟨(S.tm rfl),(S.tm rfl),trivial⟩ call13) (Qi _ u8 r7.1 ((Ge Dm.enc_ok hs5).mono (View.le_trans hl6 (S.le_new Eg))) b9 y3 (S.blk_view (i:=0) rfl ((Hg (e':=.blk b9 (Dm.enc y3) 58)) _ rfl)) _ rfl) rfl ?_);clear S;intro v12 a w27 hv9 hk21 hn9 S
    subst hv9
    refine Va S rfl rfl fun a S=>Dl (Fs (Gt [] ([]) Tryz.mixed S rfl (by kernel_rfl) ?_));clear S;intro w28 hk22 hsel S
    refine Li [0,1,2,3,4,5,6,7,8,9,10,11,12,13,14,15,16,17,18,19,20,21] hsel (by kernel_rfl) rfl ?_
    clear hsel
    refine Gp S rfl (Rm (S.tm rfl)) rfl fun a S=>Gp S rfl (Rl (S.tm rfl) rfl) rfl fun a S=>Gp S rfl (Rm (S.tm rfl)) rfl ?_;clear S;intro a S
    obtain ⟨j4,hj4,h⟩:=Eu h
    refine Ym 9 (fun a w'=>∃ c1,j4 c1 = some r ∧ Keep [] w28 w' ∧ Sx w [] φ6 [.blk b9 (Dm.enc y3) 58] [(14,u8),(16,u9),(19,.pointer (some ⟨b9,0,none⟩)),(20,iV (Dx r7.1 y3)),(95,u9),(96,iV (r8.1.length : Int)),(97,iV (i3 : Int)),(115,bV c1)] 139 a w') ?_ ?_
    ·rcases Bool.eq_false_or_eq_true (decide (0 ≤ (Dx r7.1 y3))) with hb4 | hb4
     ·replace h:=Ti h hb4
      refine Fj S rfl rfl rfl rfl hb4 (Ha S (Rm (S.tm rfl)) rfl fun a S=>Fj S rfl rfl rfl rfl hb4 (Ha S (Rm (S.tm rfl)) rfl fun a S=>Fj S rfl rfl rfl rfl hb4 ?_))
      obtain ⟨hc2,h⟩:=Ig h
      obtain ⟨b10,o4,hm10,hr12⟩:=Fk (a:=a) (x:=.tmp 107) (y:=.tmp 108) (ty:=0) Ss (Ge Dm.enc_ok hs5) (Dw hc2).1 (Dw hc2).2 (S.tm rfl) (S.tm rfl)
      refine Ha S (hr12 _) rfl ?_;clear S;intro a S
      clear hr12
      refine Fj S rfl rfl rfl rfl hb4 (Ha S (Gd JE (S.tm rfl)) rfl fun a S=>Fj S rfl rfl rfl rfl hb4 (Ha S (Fb isAgg48 sizeOf48 (off:=o4) (o:=1) (part:=(Dk.enc ((nth r7.1 (Dx r7.1 y3)).Points))) rfl rfl (S.tm rfl) ((hm10.mono hl6).at S.emb)) rfl fun a S=>Fj S rfl rfl rfl rfl hb4 (Ha S (Gd JE (S.tm rfl)) rfl fun a S=>Fj S rfl rfl rfl rfl hb4 (Ha S (Fb isAgg48 sizeOf48 (off:=0) (o:=1) (part:=(Dk.enc y3.Points)) rfl rfl (S.tm rfl) (S.cellsAt (i:=0) rfl)) rfl fun a S=>Fj S rfl rfl rfl rfl hb4 (Ha S (VJ (m:=((nth r7.1 (Dx r7.1 y3)).Points)) (n:=y3.Points) (S.tm rfl) (S.tm rfl)) rfl fun a S=>Gp S rfl (Io hb4 (S.tm rfl) (S.tm rfl)) rfl ?_)))));clear S;intro a S
      exact Ij (⟨_,h,Keep.refl _ _,S.nf [true] rfl (subR rfl)⟩)
     ·replace h:=Tj h hb4
      iterate 8 (refine Pn S rfl rfl rfl rfl (Kp hb4) rfl ?_ rfl;clear S;intro a S)
      exact Gp S rfl (Ip true hb4 (S.tm rfl) rfl) rfl fun a S=>Ij (⟨_,h,Keep.refl _ _,S.nf [true] rfl (subR rfl)⟩)
    clear S h;rintro a w29 ⟨c1,h,hk23,S⟩;rw [hj4] at h;clear hj4 j4
    refine Gp S rfl (Rm (S.tm rfl)) rfl fun a S=>Ym 9 (fun a w'=>Keep [] w29 w' ∧ Sx w [] φ6 [.blk b9 (Dm.enc y3) 58] [(14,u8),(16,u9),(95,u9),(96,iV (r8.1.length : Int)),(97,iV (i3 : Int)),(125,bV (c1 || ((decide ((Dx r7.1 y3) < 0)) && (!decide (y3.Points.Num = 0)))))] 139 a w') ?_ ?_
    ·rcases Bool.eq_false_or_eq_true c1 with hb5 | hb5
     ·iterate 3 (refine Pn S rfl rfl rfl rfl (Oa hb5) rfl ?_ rfl;clear S;intro a S)
      iterate 4 (refine SX S rfl rfl rfl rfl rfl ?_;clear S;intro a S)
      exact Pn S rfl rfl rfl rfl (Oa hb5) rfl (fun a S=>Gp S rfl (Mo ((decide ((Dx r7.1 y3) < 0)) && (!decide (y3.Points.Num = 0))) hb5 (S.tm rfl) rfl) rfl fun a S=>Ij (⟨Keep.refl _ _,S.nf [true] rfl (subR rfl)⟩)) rfl
     ·refine Fj S rfl rfl rfl rfl hb5 (Ha S (Rm (S.tm rfl)) rfl fun a S=>Fj S rfl rfl rfl rfl hb5 (Ha S (Es (S.tm rfl) rfl) rfl fun a S=>Fj S rfl rfl rfl rfl hb5 (Ha S (Rm (S.tm rfl)) rfl fun a S=>Ym 5 (fun a w'=>Keep [] w29 w' ∧ Sx w [] φ6 [.blk b9 (Dm.enc y3) 58] [(14,u8),(16,u9),(95,u9),(96,iV (r8.1.length : Int)),(97,iV (i3 : Int)),(116,bV c1),(117,iV (Dx r7.1 y3)),(118,bV (decide ((Dx r7.1 y3) < 0))),(119,bV (decide ((Dx r7.1 y3) < 0))),(124,bV ((decide ((Dx r7.1 y3) < 0)) && (!decide (y3.Points.Num = 0))))] 139 a w') ?_ ?_)))
      ·rcases Bool.eq_false_or_eq_true (decide ((Dx r7.1 y3) < 0)) with hb6 | hb6
       ·refine Fj S rfl rfl rfl rfl hb6 (Ha S (Gd JE (S.tm rfl)) rfl fun a S=>Fj S rfl rfl rfl rfl hb6 (Ha S (Gd GA (S.tm rfl)) rfl fun a S=>Fj S rfl rfl rfl rfl hb6 (Ha S (Nf isAgg3 (S.tm rfl) (S.cell (i:=0) rfl rfl)) rfl fun a S=>Fj S rfl rfl rfl rfl hb6 (Ha S (Mn (S.tm rfl) rfl) rfl fun a S=>Fj S rfl rfl rfl rfl hb5 (Ha S (Io hb6 (S.tm rfl) (S.tm rfl)) rfl fun a S=>Ij ?_)))))
        exact ⟨Keep.refl _ _,S.nf [true] rfl (subR rfl)⟩
       ·iterate 4 (refine Pn S rfl rfl rfl rfl (Kp hb6) rfl ?_ rfl;clear S;intro a S)
        exact Fj S rfl rfl rfl rfl hb5 (Ha S (Ip (!decide (y3.Points.Num = 0)) hb6 (S.tm rfl) rfl) rfl fun a S=>Ij (⟨Keep.refl _ _,S.nf [true] rfl (subR rfl)⟩))
      clear S;rintro a w31 ⟨hk24,S⟩
      exact Gp S rfl (Mp hb5 (S.tm rfl) (S.tm rfl)) rfl fun a S=>Ij (⟨hk24,S.nf [true] rfl (subR rfl)⟩)
    clear S;rintro a w30 ⟨hk25,S⟩
    refine Ij ?_
    replace S:=S.n0.k6 14 16 95 96 97 125 rfl
    refine Tn (Fc h (S.tm rfl) (fun hb7 h=>?_) (fun hb7 h=>?_))
    ·refine Fr (Vk S rfl rfl fun a S=>Dl (wp_ret (Gq (Dv (Dv (Gq (Dv ?_)))))))
     refine Dv ?_
     obtain rfl:=Option.some.inj h
     exact Et S results3 rfl rfl
    ·exact wp_skip (Hp (Tn (Fg (Vq S Gc rfl rfl rfl fun a S=>Vm S rfl rfl fun a S=>Dl (⟨ys3,⟨i3 + 1,⟨_,(hd3).trans (List.append_cons _ _ _),by simp [hi3]⟩,h,S.nf [] rfl ⟨rfl,rfl,rfl,rfl,(congrArg (fun z=>some (Value.int .i64 z)) (Ib hd3 hi3 (Jp (Ge Dm.enc_ok hs6)))),trivial⟩⟩,Nat.lt_succ_self _⟩)))))
  clear S h;rintro a w24 ⟨h,S⟩;rw [hj3] at h;clear hj3 j3
  refine Tn (Fs (Fr (Vm S rfl rfl fun a S=>lv S (Gi Ss (S.tm rfl) (Gf (Ge Dm.enc_ok hs5))) rfl fun a S=>lv S (Rm rfl) rfl fun a S=>Dl ?_)))
  replace S:=S.k4 16 127 128 129 rfl
  obtain ⟨j5,hj5,h⟩:=Eu h
  refine Eh (fun a w'=>j5 = some r ∧ Sx w [] φ6 [] [] 139 a w') ?_ ?_
  ·refine wp_block (Gr (fun (ys4 : List Dm) a w'=>∃ i4 : Nat,(∃ dn,r7.1 = dn ++ ys4 ∧ dn.length = i4) ∧ Hw r8 j5 ys4 i4 = some r ∧ Sx w [] φ6 [] [(16,u9),(127,u8),(128,iV (r7.1.length : Int)),(129,iV (i4 : Int))] 139 a w') List.length r7.1 ⟨0,⟨[],rfl,rfl⟩,h,S.nf [] rfl (subR rfl)⟩ ?_)
   clear S h;rintro ys4 a w32 ⟨i4,⟨dn,hd4,hi4⟩,h,S⟩
   cases ys4 with
   | nil =>
    rw [Hw.eq_1] at h
    refine Fr (Vb S Es rfl rfl rfl fun a S=>Ld ?_)
    replace S:=S.k5 16 127 128 129 130 rfl
    exact Tn (Fs (wp_cond_false ((S.tm rfl).trans (congrArg Value.bool (Jd hd4 hi4))) (wp_exit (Ed (Ed (Gn (Tn (⟨h,S.nf [] rfl trivial⟩))))))))
   | cons y4 ys4 =>
    rw [Hw.eq_2] at h
    refine Fr (Vb S Es rfl rfl rfl fun a S=>Ld ?_)
    replace S:=S.k5 16 127 128 129 130 rfl
    refine Tn (Fs (wp_cond_true ((S.tm rfl).trans (congrArg Value.bool (Ia hd4 hi4))) (wp_skip (Tn (Fs (wp_block (Fs (Fg ?_))))))))
    obtain ⟨b11,o5,hm11,hr13⟩:=Fk (a:=a) (x:=.tmp 127) (y:=.tmp 129) (ty:=0) Ss (Ge Dm.enc_ok hs5) (Jc hd4 hi4) rfl (S.tm rfl) (S.tm rfl)
    refine lv S (hr13 _) rfl ?_;clear S;intro a S
    clear hr13
    refine lv S (Fb isAgg58 sizeOf58 (off:=o5) (o:=0) (part:=(Dm.enc y4)) rfl rfl (S.tm rfl) ((hm11.mono hl6).at S.emb)) rfl fun a S=>Hq S zeroValue58 (cs:=[sV An,iV 0,iV 0]) rfl rfl ?_;clear S;intro a w34 b12 hz13 hk26 S
    refine Ex S (S.tm rfl) (S.tm rfl) (i:=0) (off:=0) rfl sizeOf58 (vs:=(Dm.enc y4)) rfl rfl rfl rfl ?_;clear S;intro w35 hk27 S
    refine Dz (Vm S rfl rfl fun a S=>lv S (Tk (us:=#[]) (xs:=[].toArray) (ys:=[.tmp 22].toArray) (by simp) (evA ⟨(S.tm rfl),trivial⟩ (vs:=[.pointer (some ⟨b12,0,none⟩)]))) rfl fun a S=>Eb S (fun _=>Dq (vs:=[u9,.func (.func 16) #[] #[.pointer (some ⟨b12,0,none⟩)]]) ⟨(S.tm rfl),(S.tm rfl),trivial⟩ call15) (Pp _ u9 r8.1 ((Ge Dm.enc_ok hs6).mono (S.le_new Eg)) b12 y4 (S.blk_view (i:=0) rfl ((Hg (e':=.blk b12 (Dm.enc y4) 58)) _ rfl)) _ rfl) rfl ?_);clear S;intro v13 a w36 hv10 hk28 hn10 S
    subst hv10
    refine Vu S Ih rfl rfl fun a S=>Dl (Fc h (S.tm rfl) (fun hb8 h=>?_) (fun hb8 h=>?_))
    ·refine Fr (Vk S rfl rfl fun a S=>Dl (wp_ret (Gq (Dv (Dv (Gq (Dv ?_)))))))
     refine Dv ?_
     obtain rfl:=Option.some.inj h
     exact Et S results3 rfl rfl
    ·exact wp_skip (Hp (Tn (Fg (Vq S Gc rfl rfl rfl fun a S=>Vm S rfl rfl fun a S=>Dl (⟨ys4,⟨i4 + 1,⟨_,(hd4).trans (List.append_cons _ _ _),by simp [hi4]⟩,h,S.nf [false] rfl ⟨rfl,rfl,rfl,(congrArg (fun z=>some (Value.int .i64 z)) (Ib hd4 hi4 (Jp (Ge Dm.enc_ok hs5)))),trivial⟩⟩,Nat.lt_succ_self _⟩)))))
  clear S h;rintro a w33 ⟨h,S⟩;rw [hj5] at h;clear hj5 j5
  refine Tn (Fs (Fg ?_))
  obtain ⟨r9,hr14,h⟩:=Fa h
  refine Eb S (fun _=>Dq (vs:=[]) trivial call17) (EN _ _ hr14) rfl ?_;clear S;intro v14 a w37 hv11 hk29 hn11 S
  subst hv11
  refine Va S rfl rfl fun a S=>Dl (wp_ret ?_)
  obtain rfl:=Option.some.inj h
  exact Et S results3 rfl rfl
end Go.Proofs.YtfdmkmnjfhbliaaGreatDoor
