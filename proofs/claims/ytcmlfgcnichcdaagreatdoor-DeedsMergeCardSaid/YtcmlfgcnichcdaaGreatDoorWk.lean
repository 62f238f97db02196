/- Each Go function computes its plain twin,by program. -/
import Derived.Test.YtcmlfgcnichcdaaGreatDoorWk2
namespace Go.Proofs.YtcmlfgcnichcdaaGreatDoor
open Go
open Go.Proofs.Tryz
set_option maxRecDepth 20000 in
theorem AW (w : World) (ψ : View) (hψ : View.le ψ (view w [])) (Ab : Lt) (Br : R75) (By : Pk ψ Ab Br) (Aa : Value) (Ae : List An) (Ad : Slc ψ 11 Aa (Ae.map An.enc)) (Bd : ByteArray) (Au : Int) (r : (Option Ib) × Ed × Int) (h : Uv Ab Ae Bd Au = some r) :
    Calls prog 58 [.agg (R75.enc Br).toArray,Aa,sV Bd,iV Au].toArray w (Ret w [] fun τ v _=>∃ u1 : Value,v = .tuple #[u1,.agg (Ed.enc r.2.1).toArray,iV r.2.2] ∧ Rp (join ψ τ) 135 Uw.enc Si u1 r.1):=by
 obtain ⟨u1,u2,rfl,hs1,⟨u3,rfl,hs2⟩⟩:=By
 refine Fe func58 rfl ntmps58 rfl fun a S=>?_
 unfold Uv at h
 replace S:=S.k4 0 1 2 3 rfl
 refine Fr (Kw S (S.tm rfl) (cs:=[u1.val,u3.val,iV Ab.Table.Relay,iV Ab.Table.Most,iV Ab.Final.Size,iV Ab.Final.Many,iV Ab.Final.Reserves]) rfl rfl ?_);clear S;intro a w1 b1 hz1 hk1 S
 refine Vk S rfl rfl fun a S=>It S zeroValue68 (cs:=[sV Cw,iV 0,iV 0,iV 0,iV 0,iV 0,iV 0,iV 0]) rfl rfl ?_;clear S;intro a w2 b2 hz2 hk2 S
 refine Vk S rfl rfl fun a S=>Dz (lv S (Ev isAgg75 sizeOf75 (off:=0) (o:=0) (part:=[u1.val,u3.val,iV Ab.Table.Relay,iV Ab.Table.Most,iV Ab.Final.Size,iV Ab.Final.Many,iV Ab.Final.Reserves]) rfl rfl (S.tm rfl) (S.cellsAt (i:=1) rfl)) rfl fun a S=>Vm S rfl rfl fun a S=>Vm S rfl rfl fun a S=>Eg S underlying22 sizeOf3 zeroValue3 rfl rfl (pv:=[(0,iV Au)]) ⟨rfl,(S.tm rfl),trivial⟩ (cs:=[iV Au]) (by kernel_rfl) rfl ?_);clear S;intro a w3 b3 hz3 hk3 S
 replace S:=S.litOwn (i:=0) (xs:=[Au]) rfl Iu rfl rfl rfl
 replace S:=S.nk [.own (.slice (some ⟨b3,0,none⟩) 1 1) 3 1 ([Au] : List Int).length (([Au] : List Int).flatMap eInt),.blk b2 (Ed.enc (Ed.mk Cw 0 0 0 0 0 0 0)) 68,.blk b1 [u1.val,u3.val,iV Ab.Table.Relay,iV Ab.Table.Most,iV Ab.Final.Size,iV Ab.Final.Many,iV Ab.Final.Reserves] 75] [(0,.agg #[u1.val,u3.val,iV Ab.Table.Relay,iV Ab.Table.Most,iV Ab.Final.Size,iV Ab.Final.Many,iV Ab.Final.Reserves]),(1,Aa),(2,sV Bd),(3,iV Au),(4,.pointer (some ⟨b1,0,none⟩)),(8,.pointer none),(9,.pointer (some ⟨b2,0,none⟩)),(10,iV 0),(15,.agg #[u1.val,u3.val,iV Ab.Table.Relay,iV Ab.Table.Most,iV Ab.Final.Size,iV Ab.Final.Many,iV Ab.Final.Reserves]),(16,Aa),(17,iV Au),(18,(.slice (some ⟨b3,0,none⟩) 1 1))] [] rfl (subR rfl)
 obtain ⟨φ1,hl1,hs3,S⟩:=S.freezeT (xs:=([Au] : List Int)) (enc:=eInt) (i:=0) rfl (fun _ h=>by cases h)
 replace S:=S.nk [.blk b2 (Ed.enc (Ed.mk Cw 0 0 0 0 0 0 0)) 68,.blk b1 [u1.val,u3.val,iV Ab.Table.Relay,iV Ab.Table.Most,iV Ab.Final.Size,iV Ab.Final.Many,iV Ab.Final.Reserves] 75] [(0,.agg #[u1.val,u3.val,iV Ab.Table.Relay,iV Ab.Table.Most,iV Ab.Final.Size,iV Ab.Final.Many,iV Ab.Final.Reserves]),(1,Aa),(2,sV Bd),(3,iV Au),(4,.pointer (some ⟨b1,0,none⟩)),(8,.pointer none),(9,.pointer (some ⟨b2,0,none⟩)),(10,iV 0),(15,.agg #[u1.val,u3.val,iV Ab.Table.Relay,iV Ab.Table.Most,iV Ab.Final.Size,iV Ab.Final.Many,iV Ab.Final.Reserves]),(16,Aa),(17,iV Au),(18,(.slice (some ⟨b3,0,none⟩) 1 1))] [] rfl (subR rfl)
 obtain ⟨r1,hr1,h⟩:=El h
 have hz4:=S.keep.size
 refine De S (fun _=>Cy (vs:=[.agg (R75.enc (R75.mk u1 (R71.mk u3 Ab.Table.Relay Ab.Table.Most) Ab.Final)).toArray,Aa,(.slice (some ⟨b3,0,none⟩) 1 1)]) ⟨(S.tm rfl),(S.tm rfl),(S.tm rfl),trivial⟩ call76) (Zz _ (join ψ φ1) (Ou (View.le_trans hψ (S.le_arg Dj)) (S.le_new Dj)) Ab (R75.mk u1 (R71.mk u3 Ab.Table.Relay Ab.Table.Most) Ab.Final) ⟨u1,(R71.mk u3 Ab.Table.Relay Ab.Table.Most),rfl,(hs1.mono (le_join_left _ _)),⟨u3,rfl,(hs2.mono (le_join_left _ _))⟩⟩ Aa Ae (Ad.mono (le_join_left _ _)) (.slice (some ⟨b3,0,none⟩) 1 1) ([Au] : List Int) ((Fq Iu hs3).mono (S.all_right hψ)) _ hr1) rfl ?_;clear S;intro v1 a w4 hv1 hk4 hn1 S
 obtain ⟨u4,rfl,ho1⟩:=hv1
 obtain ⟨φ2,hl2,hm1,S⟩:=S.see' hn1 hz4
 have hq1:=Rp.mono (Mu (Ro hl2 hm1)) (Ro hl2 hm1) ho1
 refine Vm S rfl rfl fun a S=>Vq S He rfl rfl rfl fun a S=>Vq S He rfl rfl rfl fun a S=>Va S rfl rfl fun a S=>Va S rfl rfl fun a S=>Ld ?_
 replace S:=(S.nl [.blk b2 (Ed.enc (Ed.mk Cw 0 0 0 0 0 0 0)) 68] [true,false] rfl).k4 2 9 11 12 rfl
 refine Tn (Fs (Fr (Vm S rfl rfl fun a S=>Vq S Io rfl rfl rfl fun a S=>Dl (Fc h (S.tm rfl) (fun hb1 h=>?_) (fun hb1 h=>?_)))))
 ·refine Fr (lv S (Nw CX (pv:=[]) trivial (cs:=[sV Cw,iV 0,iV 0,iV 0,iV 0,iV 0,iV 0,iV 0]) (by kernel_rfl)) rfl fun a S=>Vm S rfl rfl fun a S=>Vk S rfl rfl fun a S=>Ef S (S.tm rfl) (S.tm rfl) (i:=0) (off:=0) rfl sizeOf68 (vs:=(Ed.enc (Ed.mk Cw 0 0 0 0 0 0 0))) rfl rfl rfl rfl ?_);clear S;intro w5 hk5 S
  refine Va S rfl rfl fun a S=>Dl (wp_ret (Dc ?_))
  obtain rfl:=Option.some.inj h
  exact Vo S (rs:=[.tmp 8,.cell 9 68,.tmp 10]) (vs:=[.pointer none,.agg (Ed.enc (Ed.mk Cw 0 0 0 0 0 0 0)).toArray,iV r1.2]) results58 ⟨(Sf S rfl),(Ri (off:=0) S rfl isAgg68 sizeOf68 rfl (S.cellsAt (i:=0) rfl)),(Sf S rfl),trivial⟩ rfl ⟨_,rfl,rfl⟩
 ·refine wp_skip (Tn (Fr (Vm S rfl rfl fun a S=>Vm S rfl rfl ?_)));clear S;intro a S
  obtain ⟨r2,hr2,h⟩:=El h
  obtain ⟨b4,q1,rfl,hq2,hb2⟩:=hq1.deref hr2
  obtain ⟨u5,u9,rfl,⟨u6,u7,rfl,hs4,⟨u8,rfl,hs5⟩⟩,hs6⟩:=hq2
  replace hb2 : (join ψ φ2) b4 = some (.cells [u6.val,u8.val,iV r2.p_.Table.Relay,iV r2.p_.Table.Most,iV r2.p_.Final.Size,iV r2.p_.Final.Many,iV r2.p_.Final.Reserves,u9.val].toArray 135 (0,0)):=hb2
  obtain ⟨r3,hr3,h⟩:=El h
  refine De S (fun _=>Cy (vs:=[.pointer (some ⟨b4,0,none⟩),sV Bd]) ⟨(S.tm rfl),(S.tm rfl),trivial⟩ call77) (Yh _ b4 r2.p_ (R75.mk u6 (R71.mk u8 r2.p_.Table.Relay r2.p_.Table.Most) r2.p_.Final) ⟨u6,(R71.mk u8 r2.p_.Table.Relay r2.p_.Table.Most),rfl,(hs4.mono (Ou (View.le_trans hψ (S.le_arg Dj)) (S.le_new Dj))),⟨u8,rfl,(hs5.mono (Ou (View.le_trans hψ (S.le_arg Dj)) (S.le_new Dj)))⟩⟩ u9.val r2.deeds_ (hs6.mono (Ou (View.le_trans hψ (S.le_arg Dj)) (S.le_new Dj))) ((Ou (View.le_trans hψ (S.le_arg Dj)) (S.le_new Dj)) _ _ hb2) Bd _ hr3) rfl ?_;clear S;intro v2 a w6 hv2 hk6 hn2 S
  subst hv2
  refine Vm S rfl rfl fun a S=>Vq S He rfl rfl rfl fun a S=>Vq S He rfl rfl rfl fun a S=>It S zeroValue68 (cs:=[sV Cw,iV 0,iV 0,iV 0,iV 0,iV 0,iV 0,iV 0]) rfl rfl ?_;clear S;intro a w7 b5 hz5 hk7 S
  refine Ef S (S.tm rfl) (S.tm rfl) (i:=0) (off:=0) rfl sizeOf68 (vs:=(Ed.enc r3.1)) rfl rfl rfl rfl ?_;clear S;intro w8 hk8 S
  refine Va S rfl rfl fun a S=>Dl (Fs (Fm [] ([b2]) Tryz.mixed S rfl (by kernel_rfl) ?_));clear S;intro w10 hk10 hsel S
  refine Da 0 S hsel rfl rfl rfl (by kernel_rfl) (by kernel_rfl) rfl (fun _ hw=>(Rm (S.tm rfl))) fun a S=>Da 1 S hsel rfl rfl rfl (by kernel_rfl) (by kernel_rfl) rfl (fun _ hw=>(Ev isAgg68 sizeOf68 (off:=0) (o:=0) (part:=(Ed.enc r3.1)) rfl rfl (S.tm rfl) ((S.blk_mem (i:=0) (cells:=(Ed.enc r3.1)) (b:=b5) (T:=68) rfl (Kd (i:=1) (j:=0) (e:=.blk b2 (Ed.enc (Ed.mk Cw 0 0 0 0 0 0 0)) 68) (e':=.blk b5 (Ed.enc r3.1) 68) S rfl rfl rfl)).kept hw))) fun a S=>Da 2 S hsel rfl rfl rfl (by kernel_rfl) (by kernel_rfl) rfl (fun _ hw=>(Rm (S.tm rfl))) fun a S=>Da 3 S hsel rfl rfl rfl (by kernel_rfl) (by kernel_rfl) rfl (fun _ hw=>(Ra (S.tm rfl))) fun a S=>Ey 4 (by kernel_rfl) rfl (Ef S (S.tm rfl) (S.tm rfl) (i:=1) (off:=0) rfl sizeOf68 (vs:=(Ed.enc r3.1)) rfl rfl rfl rfl ?_);clear S;intro w11 hk11 S
  refine Ld (Fz hk11 (Ip [5] hsel (by kernel_rfl) rfl ?_))
  clear hsel
  refine Er S rfl (Ra (S.tm rfl)) rfl fun a S=>Iq ?_
  replace S:=(S.nl [.blk b2 (Ed.enc r3.1) 68] [false,true] rfl).k3 8 9 10 rfl
  refine Tn (wp_ret ?_)
  obtain rfl:=Option.some.inj h
  exact Vo S (rs:=[.tmp 8,.cell 9 68,.tmp 10]) (vs:=[.pointer (some ⟨b4,0,none⟩),.agg (Ed.enc r3.1).toArray,iV r3.2]) results58 ⟨(Sf S rfl),(Ri (off:=0) S rfl isAgg68 sizeOf68 rfl (S.cellsAt (i:=0) rfl)),(Sf S rfl),trivial⟩ rfl ⟨_,rfl,(Rp.mk (Uw.mk (R75.mk u6 (R71.mk u8 r2.p_.Table.Relay r2.p_.Table.Most) r2.p_.Final) u9) (Mu (Tq hψ S.le_newer) _ _ ⟨(R75.mk u6 (R71.mk u8 r2.p_.Table.Relay r2.p_.Table.Most) r2.p_.Final),u9,rfl,⟨u6,(R71.mk u8 r2.p_.Table.Relay r2.p_.Table.Most),rfl,hs4,⟨u8,rfl,hs5⟩⟩,hs6⟩) ((Tq hψ S.le_newer) _ _ hb2))⟩
theorem Xm (w : World) (U : Nat) (Ax : Lt) (Bx : R75) (Cf : Pk (view w []) Ax Bx) (Az : Value) (Bf : List An) (Bn : Slc (view w []) 11 Az (Bf.map An.enc)) (Ar : (view w []) U = some (.cells (R75.enc Bx ++ [Az]).toArray 135 (0,0))) (Bd : ByteArray) (r : (List Kx)) (h : Qx Ax Bf Bd = some r) :
    Calls prog 59 [.pointer (some ⟨U,0,none⟩),sV Bd].toArray w (Ret w [] fun τ v _=>Mq τ 80 2 v r.length (r.flatMap Kx.enc)):=by
 obtain ⟨u1,u2,rfl,hs1,⟨u3,rfl,hs2⟩⟩:=Cf
 replace Ar : (view w []) U = some (.cells [u1.val,u3.val,iV Ax.Table.Relay,iV Ax.Table.Most,iV Ax.Final.Size,iV Ax.Final.Many,iV Ax.Final.Reserves,Az].toArray 135 (0,0)):=Ar
 refine Fe func59 rfl ntmps59 rfl fun a S=>?_
 unfold Qx at h
 replace S:=S.k2 0 1 rfl
 refine Fr (Vk S rfl rfl fun a S=>Dz (Vk S rfl rfl ?_));clear S;intro a S
 replace S:=S.nil 80 2
 refine Dl (Fs (Fr (Vm S rfl rfl fun a S=>Vm S rfl rfl ?_)));clear S;intro a S
 obtain ⟨r1,hr1,h⟩:=El h
 have hz1:=S.keep.size
 refine De S (fun _=>Cy (vs:=[.pointer (some ⟨U,0,none⟩),sV Bd]) ⟨(S.tm rfl),(S.tm rfl),trivial⟩ call78) (Rw _ U Ax (R75.mk u1 (R71.mk u3 Ax.Table.Relay Ax.Table.Most) Ax.Final) ⟨u1,(R71.mk u3 Ax.Table.Relay Ax.Table.Most),rfl,(hs1.mono (S.le_arg Dj)),⟨u3,rfl,(hs2.mono (S.le_arg Dj))⟩⟩ Az Bf (Bn.mono (S.le_arg Dj)) ((S.le_arg Dj) _ _ Ar) Bd _ hr1) rfl ?_;clear S;intro v1 a w1 hv1 hk1 hn1 S
 obtain ⟨φ1,hl1,hm1,S⟩:=S.see' hn1 hz1
 have hs3:=hv1.mono hm1
 refine lv S (Fd Es (S.tm rfl) (Fb (Fq An.enc_ok hs3))) rfl fun a S=>lv S (Rm rfl) rfl fun a S=>Dl ?_
 replace S:=(S.nl [.own (.slice none 0 0) 80 2 ([] : List Kx).length (([] : List Kx).flatMap Kx.enc)] [true] rfl).k4 5 10 11 12 rfl
 obtain ⟨j1,hj1,h⟩:=En h
 refine Ec (fun a w'=>∃ x1 : List Kx,∃ v2 : Value,j1 x1 = some r ∧ Sx w [] φ1 [.own v2 80 2 x1.length (x1.flatMap Kx.enc)] [(5,v2)] 26 a w') ?_ ?_
 ·refine wp_block (Hx (fun (ys1 : List An) a w'=>∃ i1 : Nat,∃ x1 : List Kx,∃ v2 : Value,(∃ dn,r1 = dn ++ ys1 ∧ dn.length = i1) ∧ Jo j1 ys1 i1 x1 = some r ∧ Sx w [] φ1 [.own v2 80 2 x1.length (x1.flatMap Kx.enc)] [(5,v2),(10,v1),(11,iV (r1.length : Int)),(12,iV (i1 : Int))] 26 a w') List.length r1 ⟨0,([] : List Kx),(.slice none 0 0),⟨[],rfl,rfl⟩,h,S.nf [true] rfl (subR rfl)⟩ ?_)
  clear S h;rintro ys1 a w2 ⟨i1,x1,v2,⟨dn,hd1,hi1⟩,h,S⟩
  cases ys1 with
  | nil =>
   rw [Jo.eq_1] at h
   refine Fr (Vb S Fa rfl rfl rfl fun a S=>Ld ?_)
   replace S:=S.k5 5 10 11 12 13 rfl
   exact Tn (Fs (wp_cond_false ((S.tm rfl).trans (congrArg Value.bool (Jk hd1 hi1))) (wp_exit (Et (Et (Hp (Tn (⟨x1,v2,h,S.nf [true] rfl ⟨rfl,trivial⟩⟩))))))))
  | cons y1 ys1 =>
   rw [Jo.eq_2] at h
   refine Fr (Vb S Fa rfl rfl rfl fun a S=>Ld ?_)
   replace S:=S.k5 5 10 11 12 13 rfl
   refine Tn (Fs (wp_cond_true ((S.tm rfl).trans (congrArg Value.bool (Hy hd1 hi1))) (wp_skip (Tn (Fs (wp_block (Fs (Fg ?_))))))))
   obtain ⟨b1,o1,hm2,hr2⟩:=Dt (a:=a) (x:=.tmp 10) (y:=.tmp 12) (ty:=0) Es (Fq An.enc_ok hs3) (Jp hd1 hi1) rfl (S.tm rfl) (S.tm rfl)
   refine lv S (hr2 _) rfl ?_;clear S;intro a S
   clear hr2
   refine lv S (Ev isAgg33 sizeOf33 (off:=o1) (o:=0) (part:=(An.enc y1)) rfl rfl (S.tm rfl) (hm2.at S.emb)) rfl fun a S=>It S zeroValue33 (cs:=[sV Cw,iV 0,iV 0,iV 0,sV Cw,sV Cw,sV Cw,iV 0,iV 0,sV Cw,iV 0]) rfl rfl ?_;clear S;intro a w4 b2 hz2 hk2 S
   refine Ef S (S.tm rfl) (S.tm rfl) (i:=0) (off:=0) rfl sizeOf33 (vs:=(An.enc y1)) rfl rfl rfl rfl ?_;clear S;intro w5 hk3 S
   refine Dl (Fg (Vm S rfl rfl fun a S=>Vf Lv S rfl rfl fun a S=>Vl isAgg9 0 S rfl rfl rfl rfl fun a S=>Vf Od S rfl rfl fun a S=>Vl isAgg3 0 S rfl rfl rfl rfl fun a S=>lv S (Nw bt_80 (pv:=[(0,sV y1.Who),(1,iV y1.Time)]) ⟨rfl,(S.tm rfl),rfl,(S.tm rfl),trivial⟩ (cs:=[sV y1.Who,iV y1.Time]) (by kernel_rfl)) rfl fun a S=>Eg S underlying76 sizeOf80 zeroValue80 rfl rfl (pv:=[(0,.agg #[sV y1.Who,iV y1.Time])]) ⟨rfl,(S.tm rfl),trivial⟩ (cs:=[sV y1.Who,iV y1.Time]) (by kernel_rfl) rfl ?_));clear S;intro a w6 b3 hz3 hk4 S
   obtain ⟨hc1,h⟩:=Hw h
   refine Li FC Kx.enc_ok S (S.tm rfl) (i:=2) rfl (S.tm rfl) (j:=0) rfl (ys:=[(Kx.mk y1.Who y1.Time)]) rfl rfl rfl rfl (by have:=Nh hc1;omega) rfl ?_;clear S;intro v3 a w7 hk5 S
   refine Va S rfl rfl fun a S=>Ld ?_
   replace S:=(S.nl [.own v3 80 2 (x1 ++ [(Kx.mk y1.Who y1.Time)]).length ((x1 ++ [(Kx.mk y1.Who y1.Time)]).flatMap Kx.enc)] [false,false,true] rfl).k4 5 10 11 12 rfl
   exact Ia (Tn (Fg (Vq S Ge rfl rfl rfl fun a S=>Vm S rfl rfl fun a S=>Dl (⟨ys1,⟨i1 + 1,(x1 ++ [(Kx.mk y1.Who y1.Time)]),v3,⟨_,(hd1).trans (List.append_cons _ _ _),by simp [hi1]⟩,h,S.nf [true] rfl ⟨rfl,rfl,rfl,(congrArg (fun z=>some (Value.int .i64 z)) (Hz hd1 hi1 (Iz (Fq An.enc_ok hs3)))),trivial⟩⟩,Nat.lt_succ_self _⟩))))
 clear S h;rintro a w3 ⟨x1,v2,h,S⟩;rw [hj1] at h;clear hj1 j1
 refine Tn (Fr (Vm S rfl rfl fun a S=>Va S rfl rfl fun a S=>Dl (wp_ret ?_)))
 obtain rfl:=Option.some.inj h
 exact Dx S results59 rfl (Oq S (i:=0) rfl rfl)
theorem Wn (w : World) (Ab : Lt) (Br : R75) (By : Pk (view w []) Ab Br) (Aa : Value) (Ae : List An) (Ad : Slc (view w []) 11 Aa (Ae.map An.enc)) (Bd : ByteArray) (Au : Int) (r : (List Kx) × Int) (h : Qd Ab Ae Bd Au = some r) :
    Calls prog 44 [.agg (R75.enc Br).toArray,Aa,sV Bd,iV Au].toArray w (Ret w [] fun τ v _=>∃ u1 : Value,v = .tuple #[u1,iV r.2] ∧ Mq τ 80 2 u1 r.1.length (r.1.flatMap Kx.enc)):=by
 obtain ⟨u1,u2,rfl,hs1,⟨u3,rfl,hs2⟩⟩:=By
 refine Fe func44 rfl ntmps44 rfl fun a S=>?_
 unfold Qd at h
 replace S:=S.k4 0 1 2 3 rfl
 refine Fr (Kw S (S.tm rfl) (cs:=[u1.val,u3.val,iV Ab.Table.Relay,iV Ab.Table.Most,iV Ab.Final.Size,iV Ab.Final.Many,iV Ab.Final.Reserves]) rfl rfl ?_);clear S;intro a w1 b1 hz1 hk1 S
 refine Vk S rfl rfl fun a S=>Vk S rfl rfl fun a S=>Dz (lv S (Ev isAgg75 sizeOf75 (off:=0) (o:=0) (part:=[u1.val,u3.val,iV Ab.Table.Relay,iV Ab.Table.Most,iV Ab.Final.Size,iV Ab.Final.Many,iV Ab.Final.Reserves]) rfl rfl (S.tm rfl) (S.cellsAt (i:=0) rfl)) rfl ?_);clear S;intro a S
 iterate 3 (refine Vm S rfl rfl ?_;clear S;intro a S)
 obtain ⟨r1,hr1,h⟩:=El h
 have hz2:=S.keep.size
 refine De S (fun _=>Cy (vs:=[.agg (R75.enc (R75.mk u1 (R71.mk u3 Ab.Table.Relay Ab.Table.Most) Ab.Final)).toArray,Aa,sV Bd,iV Au]) ⟨(S.tm rfl),(S.tm rfl),(S.tm rfl),(S.tm rfl),trivial⟩ call58) (AW _ (join (view w []) nov) (Ou (S.le_arg Dj) (S.le_new Dj)) Ab (R75.mk u1 (R71.mk u3 Ab.Table.Relay Ab.Table.Most) Ab.Final) ⟨u1,(R71.mk u3 Ab.Table.Relay Ab.Table.Most),rfl,(hs1.mono (le_join_left _ _)),⟨u3,rfl,(hs2.mono (le_join_left _ _))⟩⟩ Aa Ae (Ad.mono (le_join_left _ _)) Bd Au _ hr1) rfl ?_;clear S;intro v1 a w2 hv1 hk2 hn1 S
 obtain ⟨u4,rfl,ho1⟩:=hv1
 obtain ⟨φ1,hl1,hm1,S⟩:=S.see' hn1 hz2
 have hq1:=Rp.mono (Mu (Ro hl1 hm1)) (Ro hl1 hm1) ho1
 refine Vm S rfl rfl ?_;clear S;intro a S
 iterate 3 (refine Vq S He rfl rfl rfl ?_;clear S;intro a S)
 refine It S zeroValue68 (cs:=[sV Cw,iV 0,iV 0,iV 0,iV 0,iV 0,iV 0,iV 0]) rfl rfl ?_;clear S;intro a w3 b2 hz3 hk3 S
 refine Va S rfl rfl fun a S=>Ef S (S.tm rfl) (S.tm rfl) (i:=0) (off:=0) rfl sizeOf68 (vs:=(Ed.enc r1.2.1)) rfl rfl rfl rfl ?_;clear S;intro w4 hk4 S
 refine Va S rfl rfl fun a S=>Ld ?_
 replace S:=S.n0.k3 2 10 12 rfl
 refine Tn (Fs (Fr (Vm S rfl rfl fun a S=>Vq S Io rfl rfl rfl fun a S=>Dl (Fc h (S.tm rfl) (fun hb1 h=>?_) (fun hb1 h=>?_)))))
 ·refine Fr (Vm S rfl rfl fun a S=>Vk S rfl rfl fun a S=>Va S rfl rfl fun a S=>Dl (wp_ret (Dc ?_)))
  obtain rfl:=Option.some.inj h
  exact Ki S results44 rfl rfl ⟨_,rfl,(Jg _ _ _)⟩
 ·refine wp_skip (Tn (Fr (Vm S rfl rfl fun a S=>Vm S rfl rfl ?_)));clear S;intro a S
  obtain ⟨r2,hr2,h⟩:=El h
  obtain ⟨b3,q1,rfl,hq2,hb2⟩:=hq1.deref hr2
  obtain ⟨u5,u9,rfl,⟨u6,u7,rfl,hs3,⟨u8,rfl,hs4⟩⟩,hs5⟩:=hq2
  replace hb2 : (join (view w []) φ1) b3 = some (.cells [u6.val,u8.val,iV r2.p_.Table.Relay,iV r2.p_.Table.Most,iV r2.p_.Final.Size,iV r2.p_.Final.Many,iV r2.p_.Final.Reserves,u9.val].toArray 135 (0,0)):=hb2
  obtain ⟨r3,hr3,h⟩:=El h
  have hz4:=S.keep.size
  refine De S (fun _=>Cy (vs:=[.pointer (some ⟨b3,0,none⟩),sV Bd]) ⟨(S.tm rfl),(S.tm rfl),trivial⟩ call59) (Xm _ b3 r2.p_ (R75.mk u6 (R71.mk u8 r2.p_.Table.Relay r2.p_.Table.Most) r2.p_.Final) ⟨u6,(R71.mk u8 r2.p_.Table.Relay r2.p_.Table.Most),rfl,(hs3.mono (Ou (S.le_arg Dj) (S.le_new Dj))),⟨u8,rfl,(hs4.mono (Ou (S.le_arg Dj) (S.le_new Dj)))⟩⟩ u9.val r2.deeds_ (hs5.mono (Ou (S.le_arg Dj) (S.le_new Dj))) ((Ou (S.le_arg Dj) (S.le_new Dj)) _ _ hb2) Bd _ hr3) rfl ?_;clear S;intro v2 a w5 hv2 hk5 hn2 S
  obtain ⟨φ2,hl2,hm2,S⟩:=S.see' hn2 hz4
  have hs6:=hv2.mono hm2
  refine Va S rfl rfl fun a S=>Vk S rfl rfl fun a S=>Dl (wp_ret ?_)
  obtain rfl:=Option.some.inj h
  exact Ki S results44 rfl rfl ⟨_,rfl,((hs6).mono S.le_newer)⟩
theorem Wo (w : World) (r : Bool) (h : Lu = some r) :
    Calls prog 22 [].toArray w (Ret w [] fun _ v _=>v = bV r):=by
 refine Fe func22 rfl ntmps22 rfl fun a S=>?_
 unfold Lu at h
 replace S:=S.k0
 refine Fr (Vk S rfl rfl fun a S=>Dz (lv S (Nw CX (pv:=[(0,sV k_r),(1,iV 50),(2,iV 1),(3,iV 50),(4,iV 1)]) ⟨rfl,rfl,rfl,rfl,rfl,rfl,rfl,rfl,rfl,rfl,trivial⟩ (cs:=[sV k_r,iV 50,iV 1,iV 50,iV 1,iV 0,iV 0,iV 0]) (by kernel_rfl)) rfl fun a S=>Eg S underlying69 sizeOf68 zeroValue68 rfl rfl (pv:=[(0,.agg (Ed.enc (Ed.mk k_r 50 1 50 1 0 0 0)).toArray)]) ⟨rfl,(S.tm rfl),trivial⟩ (cs:=[sV k_r,iV 50,iV 1,iV 50,iV 1,iV 0,iV 0,iV 0]) (by kernel_rfl) rfl ?_));clear S;intro a w1 b1 hz1 hk1 S
 refine lv S (Nw bt_71 (pv:=[(1,iV 1)]) ⟨rfl,rfl,trivial⟩ (cs:=[.slice none 0 0,iV 1,iV 0]) (by kernel_rfl)) rfl fun a S=>lv S (Nw bt_73 (pv:=[(0,iV 1),(1,iV 1)]) ⟨rfl,rfl,rfl,rfl,trivial⟩ (cs:=[iV 1,iV 1,iV 0]) (by kernel_rfl)) rfl fun a S=>lv S (Nw bt_75 (pv:=[(0,.slice (some ⟨b1,0,none⟩) 1 1),(1,.agg #[.slice none 0 0,iV 1,iV 0]),(2,.agg #[iV 1,iV 1,iV 0])]) ⟨rfl,(S.tm rfl),rfl,(S.tm rfl),rfl,(S.tm rfl),trivial⟩ (cs:=[.slice (some ⟨b1,0,none⟩) 1 1,.slice none 0 0,iV 1,iV 0,iV 1,iV 1,iV 0]) (by kernel_rfl)) rfl fun a S=>It S zeroValue75 (cs:=[.slice none 0 0,.slice none 0 0,iV 0,iV 0,iV 0,iV 0,iV 0]) rfl rfl ?_;clear S;intro a w2 b2 hz2 hk2 S
 refine Ef S (S.tm rfl) (S.tm rfl) (i:=0) (off:=0) rfl sizeOf75 (vs:=[.slice (some ⟨b1,0,none⟩) 1 1,.slice none 0 0,iV 1,iV 0,iV 1,iV 1,iV 0]) rfl rfl rfl rfl ?_;clear S;intro w3 hk3 S
 refine Dz (lv S (Ev isAgg75 sizeOf75 (off:=0) (o:=0) (part:=[.slice (some ⟨b1,0,none⟩) 1 1,.slice none 0 0,iV 1,iV 0,iV 1,iV 1,iV 0]) rfl rfl (S.tm rfl) (S.cellsAt (i:=0) rfl)) rfl fun a S=>lv S (Nw CW (pv:=[(0,sV k_s),(1,iV 1),(3,iV 1),(4,sV k_a),(6,sV k_r),(7,iV 5)]) ⟨rfl,rfl,rfl,rfl,rfl,rfl,rfl,rfl,rfl,rfl,rfl,rfl,trivial⟩ (cs:=[sV k_s,iV 1,iV 0,iV 1,sV k_a,sV Cw,sV k_r,iV 5,iV 0,sV Cw,iV 0]) (by kernel_rfl)) rfl fun a S=>Eg S underlying26 sizeOf33 zeroValue33 rfl rfl (pv:=[(0,.agg (An.enc (An.mk k_s 1 0 1 k_a Cw k_r 5 0 Cw 0)).toArray)]) ⟨rfl,(S.tm rfl),trivial⟩ (cs:=[sV k_s,iV 1,iV 0,iV 1,sV k_a,sV Cw,sV k_r,iV 5,iV 0,sV Cw,iV 0]) (by kernel_rfl) rfl ?_);clear S;intro a w4 b3 hz3 hk4 S
 replace S:=S.litOwn (i:=2) (xs:=[(Ed.mk k_r 50 1 50 1 0 0 0)]) rfl Ed.enc_ok rfl rfl rfl
 replace S:=S.nk [.blk b3 (An.enc (An.mk k_s 1 0 1 k_a Cw k_r 5 0 Cw 0)) 33,.blk b2 [(.slice (some ⟨b1,0,none⟩) 1 1),.slice none 0 0,iV 1,iV 0,iV 1,iV 1,iV 0] 75,.own (.slice (some ⟨b1,0,none⟩) 1 1) 68 8 ([(Ed.mk k_r 50 1 50 1 0 0 0)] : List Ed).length (([(Ed.mk k_r 50 1 50 1 0 0 0)] : List Ed).flatMap Ed.enc)] [(0,bV false),(1,.pointer (some ⟨b2,0,none⟩)),(4,.agg (Ed.enc (Ed.mk k_r 50 1 50 1 0 0 0)).toArray),(5,(.slice (some ⟨b1,0,none⟩) 1 1)),(6,.agg #[.slice none 0 0,iV 1,iV 0]),(7,.agg #[iV 1,iV 1,iV 0]),(8,.agg #[(.slice (some ⟨b1,0,none⟩) 1 1),.slice none 0 0,iV 1,iV 0,iV 1,iV 1,iV 0]),(10,.agg #[(.slice (some ⟨b1,0,none⟩) 1 1),.slice none 0 0,iV 1,iV 0,iV 1,iV 1,iV 0]),(11,.agg (An.enc (An.mk k_s 1 0 1 k_a Cw k_r 5 0 Cw 0)).toArray),(12,.slice (some ⟨b3,0,none⟩) 1 1)] [] rfl (subR rfl)
 obtain ⟨r1,hr1,h⟩:=El h
 have hz4:=S.keep.size
 refine De S (fun _=>Cy (vs:=[.agg (R75.enc (R75.mk ⟨(.slice (some ⟨b1,0,none⟩) 1 1),Jd.one (Mr (S.own_at (i:=2) rfl))⟩ (R71.mk ⟨.slice none 0 0,rfl⟩ 1 0) (Lq.mk 1 1 0))).toArray,.slice (some ⟨b3,0,none⟩) 1 1,sV k_r,iV 0]) ⟨(S.tm rfl),(S.tm rfl),rfl,rfl,trivial⟩ call44) (Wn _ (Lt.mk ([(Ed.mk k_r 50 1 50 1 0 0 0)] : List Ed) (Pz.mk ([] : List Int) 1 0) (Lq.mk 1 1 0)) (R75.mk ⟨(.slice (some ⟨b1,0,none⟩) 1 1),Jd.one (Mr (S.own_at (i:=2) rfl))⟩ (R71.mk ⟨.slice none 0 0,rfl⟩ 1 0) (Lq.mk 1 1 0)) ⟨⟨(.slice (some ⟨b1,0,none⟩) 1 1),Jd.one (Mr (S.own_at (i:=2) rfl))⟩,(R71.mk ⟨.slice none 0 0,rfl⟩ 1 0),rfl,(Rh Ed.enc_ok S (i:=2) rfl (Gs (e':=.own (.slice (some ⟨b1,0,none⟩) 1 1) 68 8 ([(Ed.mk k_r 50 1 50 1 0 0 0)] : List Ed).length (([(Ed.mk k_r 50 1 50 1 0 0 0)] : List Ed).flatMap Ed.enc)))),⟨⟨.slice none 0 0,rfl⟩,rfl,(Up _ _)⟩⟩ (.slice (some ⟨b3,0,none⟩) 1 1) [(An.mk k_s 1 0 1 k_a Cw k_r 5 0 Cw 0)] (Jh An.enc_ok S (i:=0) rfl rfl rfl rfl ((Gs (e':=.blk b3 (An.enc (An.mk k_s 1 0 1 k_a Cw k_r 5 0 Cw 0)) 33)) _ rfl)) k_r 0 _ hr1) rfl ?_;clear S;intro v1 a w5 hv1 hk5 hn1 S
 obtain ⟨u1,rfl,ho1⟩:=hv1
 obtain ⟨φ1,hl1,hm1,S⟩:=S.see' hn1 hz4
 have hs1:=ho1.mono hm1
 refine Vm S rfl rfl fun a S=>Vq S He rfl rfl rfl fun a S=>Vq S He rfl rfl rfl fun a S=>Va S rfl rfl fun a S=>Va S rfl rfl fun a S=>Ld ?_
 replace S:=S.n0.k2 2 3 rfl
 refine Tn (Fr (Vm S rfl rfl fun a S=>Vq S Hi rfl rfl rfl fun a S=>Vm S rfl rfl fun a S=>Gr 4 (fun a w'=>Keep [] w5 w' ∧ Sx w [] φ1 [] [(2,u1),(22,bV ((decide (r1.2 = 0)) && (decide ((r1.1.length : Int) = 1))))] 30 a w') ?_ ?_))
 ·rcases Bool.eq_false_or_eq_true (decide (r1.2 = 0)) with hb1 | hb1
  ·exact Db S rfl rfl rfl hb1 (Vm S rfl rfl fun a S=>Db S rfl rfl rfl hb1 (lv S (Fd FC (S.tm rfl) (Fb (Fq Kx.enc_ok hs1))) rfl fun a S=>Db S rfl rfl rfl hb1 (Vq S Hi rfl rfl rfl fun a S=>lv S (Hn hb1 (S.tm rfl) (S.tm rfl)) rfl fun a S=>Dl (⟨Keep.refl _ _,S.nf [] rfl (subR rfl)⟩))))
  ·iterate 3 (refine Gd S rfl rfl rfl (Fl hb1) rfl ?_ rfl;clear S;intro a S)
   exact lv S (Ho (decide ((r1.1.length : Int) = 1)) hb1 (S.tm rfl) rfl) rfl fun a S=>Dl (⟨Keep.refl _ _,S.nf [] rfl (subR rfl)⟩)
 clear S;rintro a w6 ⟨hk6,S⟩
 refine Vm S rfl rfl ?_;clear S;intro a S
 obtain ⟨j1,hj1,h⟩:=En h
 refine Gr 6 (fun a w'=>∃ c1,j1 c1 = some r ∧ Keep [] w6 w' ∧ Sx w [] φ1 [] [(29,bV c1)] 30 a w') ?_ ?_
 ·rcases Bool.eq_false_or_eq_true ((decide (r1.2 = 0)) && (decide ((r1.1.length : Int) = 1))) with hb2 | hb2
  ·replace h:=Nq h hb2
   refine Db S rfl rfl rfl hb2 (Vm S rfl rfl fun a S=>Db S rfl rfl rfl hb2 ?_)
   obtain ⟨hc1,h⟩:=Hw h
   obtain ⟨b4,o1,hm2,hr2⟩:=Dt (a:=a) (x:=.tmp 24) (y:=.const (iV 0)) (ty:=0) FC (Fq Kx.enc_ok hs1) (Dg hc1).1 (Dg hc1).2 (S.tm rfl) rfl
   refine lv S (hr2 _) rfl ?_;clear S;intro a S
   clear hr2
   exact Db S rfl rfl rfl hb2 (Vf fa_80_1 S rfl rfl fun a S=>Db S rfl rfl rfl hb2 (lv S (Ep isAgg3 (off:=o1) (o:=1) (S.tm rfl) (hm2.at S.emb) rfl) rfl fun a S=>Db S rfl rfl rfl hb2 (Vq S Hi rfl rfl rfl fun a S=>lv S (Hn hb2 (S.tm rfl) (S.tm rfl)) rfl fun a S=>Dl (⟨_,h,Keep.refl _ _,S.nf [] rfl ⟨rfl,trivial⟩⟩))))
  ·replace h:=Nr h hb2
   iterate 5 (refine Gd S rfl rfl rfl (Fl hb2) rfl ?_ rfl;clear S;intro a S)
   exact Vq S (Ho true hb2) rfl rfl rfl fun a S=>Dl (⟨_,h,Keep.refl _ _,S.nf [] rfl ⟨rfl,trivial⟩⟩)
 clear S h;rintro a w7 ⟨c1,h,hk7,S⟩;rw [hj1] at h;clear hj1 j1
 refine Va S rfl rfl fun a S=>Dl (wp_ret ?_)
 obtain rfl:=Option.some.inj h
 exact Dx S results22 rfl rfl
theorem Sl (w : World) (Aa : Value) (Ae : List Int) (Ad : Slc (view w []) 1 Aa (Ae.map eInt)) (r : Bool) (h : Mc Ae = some r) :
    Calls prog 3 [Aa].toArray w (Ret w [] fun _ v _=>v = bV r):=by
 refine Fe func3 rfl ntmps3 rfl fun a S=>?_
 unfold Mc at h
 replace S:=S.k1 0 rfl
 refine Fr (Vk S rfl rfl fun a S=>Dz (Vm S rfl rfl ?_));clear S;intro a S
 refine lv S (Nw bt_25 (pv:=[(0,Aa)]) ⟨rfl,(S.tm rfl),trivial⟩ (cs:=[Aa,iV 0]) (by obtain ⟨_,_,hv⟩:=(Fb Ad);rw [hv];clear hv;kernel_rfl)) rfl ?_;clear S;intro a S
 refine Kw S (S.tm rfl) (cs:=[Aa,iV 0]) rfl rfl ?_;clear S;intro a w1 b1 hz1 hk1 S
 refine Va S rfl rfl fun a S=>Dz (Vm S rfl rfl fun a S=>Vm S rfl rfl ?_);clear S;intro a S
 obtain ⟨r1,hr1,h⟩:=El h
 refine Fw 0 S (b:=b1) rfl rfl (fun _=>.blk b1 [Aa,iV r1.2] 25) (fun _=>Cy (vs:=[.pointer (some ⟨b1,0,none⟩),iV 0,iV 14]) ⟨(S.tm rfl),rfl,rfl,trivial⟩ call5) (Og _ b1 Aa Ae (Ad.mono (S.le_arg (Hq (i:=0) (e:=.blk b1 [Aa,iV 0] 25) rfl))) 0 (S.holds _ (List.mem_of_getElem? (i:=0) rfl)) 0 14 _ hr1) rfl (fun _ _ _ h=>⟨h.1,fun _ hc=>by cases hc;rfl⟩) ?_;clear S;intro v1 a w2 hv1 hk2 hn1 S
 replace hv1:=hv1.2
 subst hv1
 obtain ⟨r2,hr2,h⟩:=El h
 have hz2:=S.keep.size
 refine Fw 0 S (b:=b1) rfl rfl (fun _=>.blk b1 [Aa,iV r2.2] 25) (fun _=>Cy (vs:=[.pointer (some ⟨b1,0,none⟩),iV r1.1]) ⟨(S.tm rfl),(S.tm rfl),trivial⟩ call4) (Qb _ b1 Aa Ae (Ad.mono (S.le_arg (Hq (i:=0) (e:=.blk b1 [Aa,iV r1.2] 25) rfl))) r1.2 (S.holds _ (List.mem_of_getElem? (i:=0) rfl)) r1.1 _ hr2) rfl (fun _ _ _ h=>⟨h.1,fun _ hc=>by cases hc;rfl⟩) ?_;clear S;intro v2 a w3 hv2 hk3 hn2 S
 replace hv2:=hv2.2
 obtain ⟨φ1,hl1,hm1,S⟩:=S.see' hn2 hz2
 have hs1:=hv2.mono hm1
 refine Vm S rfl rfl fun a S=>Vm S rfl rfl ?_;clear S;intro a S
 obtain ⟨r3,hr3,h⟩:=El h
 refine Fw 0 S (b:=b1) rfl rfl (fun _=>.blk b1 [Aa,iV r3.2] 25) (fun _=>Cy (vs:=[.pointer (some ⟨b1,0,none⟩),iV 0,iV 6]) ⟨(S.tm rfl),rfl,rfl,trivial⟩ call5) (Og _ b1 Aa Ae (Ad.mono (S.le_arg (Hq (i:=0) (e:=.blk b1 [Aa,iV r2.2] 25) rfl))) r2.2 (S.holds _ (List.mem_of_getElem? (i:=0) rfl)) 0 6 _ hr3) rfl (fun _ _ _ h=>⟨h.1,fun _ hc=>by cases hc;rfl⟩) ?_;clear S;intro v3 a w4 hv3 hk4 hn3 S
 replace hv3:=hv3.2
 subst hv3
 obtain ⟨r4,hr4,h⟩:=El h
 have hz3:=S.keep.size
 refine Fw 0 S (b:=b1) rfl rfl (fun _=>.blk b1 [Aa,iV r4.2] 25) (fun _=>Cy (vs:=[.pointer (some ⟨b1,0,none⟩),iV r3.1]) ⟨(S.tm rfl),(S.tm rfl),trivial⟩ call4) (Qb _ b1 Aa Ae (Ad.mono (S.le_arg (Hq (i:=0) (e:=.blk b1 [Aa,iV r3.2] 25) rfl))) r3.2 (S.holds _ (List.mem_of_getElem? (i:=0) rfl)) r3.1 _ hr4) rfl (fun _ _ _ h=>⟨h.1,fun _ hc=>by cases hc;rfl⟩) ?_;clear S;intro v4 a w5 hv4 hk5 hn4 S
 replace hv4:=hv4.2
 replace S:=S.take hn4 hz3 hv4
 refine Vm S rfl rfl ?_;clear S;intro a S
 obtain ⟨r5,hr5,h⟩:=El h
 refine Fw 1 S (b:=b1) rfl rfl (fun _=>.blk b1 [Aa,iV r5.2] 25) (fun _=>Cy (vs:=[.pointer (some ⟨b1,0,none⟩)]) ⟨(S.tm rfl),trivial⟩ call6) (Uj _ b1 Aa Ae (Ad.mono (S.le_arg (Hq (i:=1) (e:=.blk b1 [Aa,iV r4.2] 25) rfl))) r4.2 (S.holds _ (List.mem_of_getElem? (i:=1) rfl)) _ hr5) rfl (fun _ _ _ h=>⟨h.1,fun _ hc=>by cases hc;rfl⟩) ?_;clear S;intro v5 a w6 hv5 hk6 hn5 S
 replace hv5:=hv5.2
 subst hv5
 iterate 3 (refine Va S rfl rfl ?_;clear S;intro a S)
 refine Ld ?_
 replace S:=(S.nl [.own v4 33 11 r4.1.length (r4.1.flatMap An.enc),.blk b1 [Aa,iV r5.2] 25] [true,true] rfl).k4 3 4 5 6 rfl
 refine Tn (Fs (Fr (Vm S rfl rfl fun a S=>lv S (Fd Es (S.tm rfl) (Fb (Fq An.enc_ok hs1))) rfl fun a S=>Vq S Jn rfl rfl rfl fun a S=>Vm S rfl rfl ?_)));clear S;intro a S
 obtain ⟨j1,hj1,h⟩:=En h
 refine Gr 3 (fun a w'=>∃ x1 : Int,∃ x2 : Bool,j1 x1 x2 = some r ∧ Sx w [] φ1 [.own v4 33 11 r4.1.length (r4.1.flatMap An.enc),.blk b1 [Aa,iV x1] 25] [(3,.pointer (some ⟨b1,0,none⟩)),(4,v2),(5,v4),(6,iV r5.1),(41,bV x2)] 164 a w') ?_ ?_
 ·rcases Bool.eq_false_or_eq_true (decide (0 < (r2.1.length : Int))) with hb1 | hb1
  ·replace h:=Nq h hb1
   refine Db S rfl rfl rfl hb1 (Vm S rfl rfl fun a S=>Db S rfl rfl rfl hb1 ?_)
   obtain ⟨r6,hr6,h⟩:=El h
   refine Fw 1 S (b:=b1) rfl rfl (fun _=>.blk b1 [Aa,iV r6.2] 25) (fun _=>Cy (vs:=[.pointer (some ⟨b1,0,none⟩),iV 2]) ⟨(S.tm rfl),rfl,trivial⟩ call7) (Mk _ b1 Aa Ae (Ad.mono (S.le_arg (Hq (i:=1) (e:=.blk b1 [Aa,iV r5.2] 25) rfl))) r5.2 (S.holds _ (List.mem_of_getElem? (i:=1) rfl)) 2 _ hr6) rfl (fun _ _ _ h=>⟨h.1,fun _ hc=>by cases hc;rfl⟩) ?_;clear S;intro v6 a w8 hv6 hk7 hn6 S
   replace hv6:=hv6.2
   subst hv6
   exact lv S (Ix hb1 (S.tm rfl) (S.tm rfl)) rfl fun a S=>Dl (⟨r6.2,r6.1,h,S.nf [true,true] rfl (subR rfl)⟩)
  ·replace h:=Nr h hb1
   exact Gd S rfl rfl rfl (Fl hb1) rfl (fun a S=>Gd S rfl rfl rfl (Fl hb1) rfl (fun a S=>Vq S (Iy hb1) rfl rfl rfl fun a S=>Dl (⟨r5.2,false,h,S.nf [true,true] rfl (subR rfl)⟩)) rfl) rfl
 clear S h;rintro a w7 ⟨x1,x2,h,S⟩;rw [hj1] at h;clear hj1 j1
 refine Dl ?_
 obtain ⟨j2,hj2,h⟩:=En h
 refine Ec (fun a w'=>∃ x3 : Int,∃ x4 : List An,∃ v7 : Value,j2 x3 x4 = some r ∧ Sx w [] φ1 [.own v7 33 11 x4.length (x4.flatMap An.enc),.blk b1 [Aa,iV x3] 25] [(3,.pointer (some ⟨b1,0,none⟩)),(4,v2),(5,v7),(6,iV r5.1)] 164 a w') ?_ ?_
 ·refine Fc h (S.tm rfl) (fun hb2 h=>?_) (fun hb2 h=>?_)
  ·refine Fs (Fg ?_)
   iterate 3 (refine Vm S rfl rfl ?_;clear S;intro a S)
   refine lv S (Fd Es (S.tm rfl) (Fb (Fq An.enc_ok hs1))) rfl ?_;clear S;intro a S
   obtain ⟨r7,hr7,h⟩:=El h
   refine Fw 1 S (b:=b1) rfl rfl (fun _=>.blk b1 [Aa,iV r7.2] 25) (fun _=>Cy (vs:=[.pointer (some ⟨b1,0,none⟩),iV (r2.1.length : Int)]) ⟨(S.tm rfl),(S.tm rfl),trivial⟩ call9) (Mj _ b1 Aa Ae (Ad.mono (S.le_arg (Hq (i:=1) (e:=.blk b1 [Aa,iV x1] 25) rfl))) x1 (S.holds _ (List.mem_of_getElem? (i:=1) rfl)) (r2.1.length : Int) _ hr7) rfl (fun _ _ _ h=>⟨h.1,fun _ hc=>by cases hc;rfl⟩) ?_;clear S;intro v8 a w10 hv7 hk8 hn7 S
   replace hv7:=hv7.2
   subst hv7
   obtain ⟨hc1,h⟩:=Hw h
   obtain ⟨v9,hs2,hr8⟩:=ET (a:=a) (x:=.tmp 42) (y:=.tmp 46) (ty:=26) Es (Fq An.enc_ok hs1) (S.tm rfl) (S.tm rfl) hc1
   refine lv S (hr8 _) rfl ?_;clear S;intro a S
   clear hr8
   obtain ⟨r8,hr9,h⟩:=El h
   have hz4:=S.keep.size
   refine De S (fun _=>Cy (vs:=[v9]) ⟨(S.tm rfl),trivial⟩ call8) (Ja _ v9 (cut r2.1 r7.1 r2.1.length) (hs2.mono (S.le_new Dj)) _ hr9) rfl ?_;clear S;intro v10 a w11 hv8 hk9 hn8 S
   replace S:=S.take hn8 hz4 hv8
   refine Va S rfl rfl fun a S=>Dz (Vm S rfl rfl ?_);clear S;intro a S
   obtain ⟨r9,hr10,h⟩:=El h
   refine Fw 2 S (b:=b1) rfl rfl (fun _=>.blk b1 [Aa,iV r9.2] 25) (fun _=>Cy (vs:=[.pointer (some ⟨b1,0,none⟩),iV 4]) ⟨(S.tm rfl),rfl,trivial⟩ call7) (Mk _ b1 Aa Ae (Ad.mono (S.le_arg (Hq (i:=2) (e:=.blk b1 [Aa,iV r7.2] 25) rfl))) r7.2 (S.holds _ (List.mem_of_getElem? (i:=2) rfl)) 4 _ hr10) rfl (fun _ _ _ h=>⟨h.1,fun _ hc=>by cases hc;rfl⟩) ?_;clear S;intro v11 a w12 hv9 hk10 hn9 S
   replace hv9:=hv9.2
   subst hv9
   refine Dl ?_
   obtain ⟨j3,hj3,h⟩:=En h
   refine Ec (fun a w'=>∃ x5 : List An,j3 x5 = some r ∧ Sx w [] φ1 [.own v10 33 11 x5.length (x5.flatMap An.enc),.blk b1 [Aa,iV r9.2] 25] [(3,.pointer (some ⟨b1,0,none⟩)),(4,v2),(5,v10),(6,iV r5.1)] 164 a w') ?_ ?_
   ·refine Fc h (S.tm rfl) (fun hb3 h=>?_) (fun hb3 h=>?_)
    ·refine Fg (Vm S rfl rfl ?_);clear S;intro a S
     obtain ⟨hc2,h⟩:=Hw h
     obtain ⟨b2,hg1,hr11⟩:=Jf (a:=a) (x:=.tmp 51) (y:=.const (iV 0)) (ty:=0) Es An.enc_ok S (i:=0) rfl (Dg hc2).1 (Dg hc2).2 (S.tm rfl) rfl
     refine lv S (hr11 _) rfl ?_;clear S;intro a S
     clear hr11
     refine Vf Jv S rfl rfl fun a S=>lv S (Ep isAgg3 (off:=((0 : Int).toNat) * 11) (o:=2) (S.tm rfl) (Vp An.enc_ok S (i:=0) rfl hg1 (Dg hc2).1) rfl) rfl fun a S=>Vq S Ge rfl rfl rfl ?_;clear S;intro a S
     obtain ⟨hc3,h⟩:=Hw h
     obtain ⟨b3,hg2,hr12⟩:=Jf (a:=a) (x:=.tmp 51) (y:=.const (iV 0)) (ty:=0) Es An.enc_ok S (i:=0) rfl (Dg hc3).1 (Dg hc3).2 (S.tm rfl) rfl
     refine lv S (hr12 _) rfl ?_;clear S;intro a S
     clear hr12
     refine Vf Jv S rfl rfl fun a S=>Qj (c:=2) (j:=(0 : Int).toNat) (An.mk ((nth r8 0).Site) ((nth r8 0).No) (W (((nth r8 0).At) + 1)) ((nth r8 0).Kind) ((nth r8 0).Who) ((nth r8 0).Club) ((nth r8 0).Race) ((nth r8 0).Time) ((nth r8 0).Fault) ((nth r8 0).Of) ((nth r8 0).Other)) An.enc_ok S (S.tm rfl) (S.tm rfl) (i:=0) rfl hg2 (Dg hc3).1 sizeOf3 (vs:=[iV (W (((nth r8 0).At) + 1))]) rfl rfl rfl rfl rfl ?_;clear S;intro w15 hk12 S
     refine Ld ?_
     replace S:=(S.nl [.own v10 33 11 (r8.set ((0 : Int).toNat) (An.mk ((nth r8 0).Site) ((nth r8 0).No) (W (((nth r8 0).At) + 1)) ((nth r8 0).Kind) ((nth r8 0).Who) ((nth r8 0).Club) ((nth r8 0).Race) ((nth r8 0).Time) ((nth r8 0).Fault) ((nth r8 0).Of) ((nth r8 0).Other))).length ((r8.set ((0 : Int).toNat) (An.mk ((nth r8 0).Site) ((nth r8 0).No) (W (((nth r8 0).At) + 1)) ((nth r8 0).Kind) ((nth r8 0).Who) ((nth r8 0).Club) ((nth r8 0).Race) ((nth r8 0).Time) ((nth r8 0).Fault) ((nth r8 0).Of) ((nth r8 0).Other))).flatMap An.enc),.blk b1 [Aa,iV r9.2] 25] [true,false,true] rfl).k4 3 4 5 6 rfl
     exact Tn (⟨(r8.set ((0 : Int).toNat) (An.mk ((nth r8 0).Site) ((nth r8 0).No) (W (((nth r8 0).At) + 1)) ((nth r8 0).Kind) ((nth r8 0).Who) ((nth r8 0).Club) ((nth r8 0).Race) ((nth r8 0).Time) ((nth r8 0).Fault) ((nth r8 0).Of) ((nth r8 0).Other))),h,S.nf [true,true] rfl (subR rfl)⟩)
    ·exact wp_skip (Tn (⟨r8,h,S.nf [true,false,true] rfl (subR rfl)⟩))
   clear S h;rintro a w13 ⟨x5,h,S⟩;rw [hj3] at h;clear hj3 j3
   exact Tn (⟨r9.2,x5,v10,h,S.nf [true,true] rfl (subR rfl)⟩)
  ·exact wp_skip (Tn (⟨x1,r4.1,v4,h,S.nf [true,true] rfl (subR rfl)⟩))
 clear S h;rintro a w9 ⟨x3,x4,v7,h,S⟩;rw [hj2] at h;clear hj2 j2
 refine Tn (Fr (Vm S rfl rfl ?_));clear S;intro a S
 obtain ⟨r10,hr13,h⟩:=El h
 refine De S (fun _=>Cy (vs:=[v2]) ⟨(S.tm rfl),trivial⟩ call10) (Pc _ v2 r2.1 ((Fq An.enc_ok hs1).mono (S.le_new Dj)) _ hr13) rfl ?_;clear S;intro v12 a w16 hv10 hk13 hn10 S
 subst hv10
 refine Va S rfl rfl fun a S=>Dz (Vm S rfl rfl fun a S=>Vm S rfl rfl ?_);clear S;intro a S
 obtain ⟨r11,hr14,h⟩:=El h
 have hz5:=S.keep.size
 refine De S (fun _=>Cy (vs:=[v2,v7]) ⟨(S.tm rfl),(S.tm rfl),trivial⟩ call11) (Yd _ v2 r2.1 ((Fq An.enc_ok hs1).mono (S.le_new Dj)) v7 x4 (Rh An.enc_ok S (i:=0) rfl (Gs (e':=.own v7 33 11 x4.length (x4.flatMap An.enc)))) _ hr14) rfl ?_;clear S;intro v13 a w17 hv11 hk14 hn11 S
 obtain ⟨u4,rfl,ho4⟩:=hv11
 obtain ⟨φ2,hl2,hm4,S⟩:=S.see' hn11 hz5
 have hs3:=ho4.mono hm4
 refine Vm S rfl rfl fun a S=>Vq S He rfl rfl rfl fun a S=>Vq S He rfl rfl rfl fun a S=>Va S rfl rfl fun a S=>Va S rfl rfl fun a S=>Ld ?_
 replace S:=S.k7 3 4 5 6 7 8 9 rfl
 refine Tn (Fr (Vm S rfl rfl fun a S=>Vm S rfl rfl ?_));clear S;intro a S
 obtain ⟨r12,hr15,h⟩:=El h
 have hz6:=S.keep.size
 refine De S (fun _=>Cy (vs:=[v2,iV r5.1]) ⟨(S.tm rfl),(S.tm rfl),trivial⟩ call12) (Vw _ v2 r2.1 ((Fq An.enc_ok hs1).mono (View.le_trans hl2 (S.le_new Dj))) r5.1 _ hr15) rfl ?_;clear S;intro v14 a w18 hv12 hk15 hn12 S
 obtain ⟨u5,rfl,ho5⟩:=hv12
 obtain ⟨φ3,hl3,hm5,S⟩:=S.see' hn12 hz6
 have hs4:=ho5.mono hm5
 refine Vm S rfl rfl fun a S=>Vq S He rfl rfl rfl fun a S=>Vq S He rfl rfl rfl fun a S=>Va S rfl rfl fun a S=>Va S rfl rfl fun a S=>Ld ?_
 replace S:=S.k9 3 4 5 6 7 8 9 10 11 rfl
 refine Tn (Fr (Vm S rfl rfl fun a S=>Vm S rfl rfl ?_));clear S;intro a S
 obtain ⟨r13,hr16,h⟩:=El h
 refine De S (fun _=>Cy (vs:=[v7]) ⟨(S.tm rfl),trivial⟩ call10) (Pc _ v7 x4 (Rh An.enc_ok S (i:=0) rfl (Gs (e':=.own v7 33 11 x4.length (x4.flatMap An.enc)))) _ hr16) rfl ?_;clear S;intro v15 a w19 hv13 hk16 hn13 S
 subst hv13
 refine Eg S underlying63 sizeOf35 zeroValue35 rfl rfl (pv:=[(0,iV r10),(1,iV r13)]) ⟨rfl,(S.tm rfl),rfl,(S.tm rfl),trivial⟩ (cs:=[iV r10,iV r13]) (by kernel_rfl) rfl ?_;clear S;intro a w20 b4 hz7 hk17 S
 refine De S (fun _=>Cy (vs:=[.slice (some ⟨b4,0,none⟩) 2 2]) ⟨(S.tm rfl),trivial⟩ call13) (Ru _ (.slice (some ⟨b4,0,none⟩) 2 2) [r10,r13] (Jh Iu S (i:=0) rfl rfl rfl rfl ((Gs (e':=.blk b4 [iV r10,iV r13] 35)) _ rfl)) _ rfl) rfl ?_;clear S;intro v16 a w21 hv14 hk18 hn14 S
 subst hv14
 refine Vm S rfl rfl fun a S=>Vm S rfl rfl fun a S=>De S (fun _=>Cy (vs:=[iV r5.1]) ⟨(S.tm rfl),trivial⟩ call14) (Rv _ r5.1 _ rfl) rfl ?_;clear S;intro v17 a w22 hv15 hk19 hn15 S
 subst hv15
 refine Eg S underlying63 sizeOf35 zeroValue35 rfl rfl (pv:=[(0,iV r10),(1,iV (Dm r5.1))]) ⟨rfl,(S.tm rfl),rfl,(S.tm rfl),trivial⟩ (cs:=[iV r10,iV (Dm r5.1)]) (by kernel_rfl) rfl ?_;clear S;intro a w23 b5 hz8 hk20 S
 refine De S (fun _=>Cy (vs:=[.slice (some ⟨b5,0,none⟩) 2 2]) ⟨(S.tm rfl),trivial⟩ call13) (Ru _ (.slice (some ⟨b5,0,none⟩) 2 2) [r10,(Dm r5.1)] (Jh Iu S (i:=0) rfl rfl rfl rfl ((Gs (e':=.blk b5 [iV r10,iV (Dm r5.1)] 35)) _ rfl)) _ rfl) rfl ?_;clear S;intro v18 a w24 hv16 hk21 hn16 S
 subst hv16
 refine Va S rfl rfl fun a S=>Va S rfl rfl fun a S=>Ld ?_
 replace S:=(S.nl [.own v7 33 11 x4.length (x4.flatMap An.enc),.blk b1 [Aa,iV x3] 25] [false,false,true,true] rfl).k11 3 4 5 6 7 8 9 10 11 12 13 rfl
 refine Tn (Fr (Vk S rfl rfl fun a S=>Dl (Fs (Fr (Vm S rfl rfl fun a S=>Vq S Hi rfl rfl rfl ?_)))));clear S;intro a S
 refine Dl ?_
 obtain ⟨j4,hj4,h⟩:=En h
 refine Ec (fun a w'=>∃ x6 : Int,∃ x7 : List An,∃ φ4 : View,∃ v19 : Value,j4 x6 x7 = some r ∧ View.le φ3 φ4 ∧ Mq φ4 33 11 v19 x7.length (x7.flatMap An.enc) ∧ Sx w [] φ4 [.blk b1 [Aa,iV x3] 25] [(3,.pointer (some ⟨b1,0,none⟩)),(4,v2),(6,iV r5.1),(7,iV r10),(8,u4),(9,iV r11.2),(10,u5),(11,iV r12.2),(12,iV x6),(13,iV (Eb [r10,(Dm r5.1)])),(14,v19)] 164 a w') ?_ ?_
 ·refine Fc h (S.tm rfl) (fun hb4 h=>?_) (fun hb4 h=>?_)
  ·refine Fg (Vm S rfl rfl fun a S=>Vm S rfl rfl ?_);clear S;intro a S
   obtain ⟨r14,hr17,h⟩:=El h
   have hz9:=S.keep.size
   refine De S (fun _=>Cy (vs:=[v2,v7]) ⟨(S.tm rfl),(S.tm rfl),trivial⟩ call15) (Ty _ v2 r2.1 ((Fq An.enc_ok hs1).mono (View.le_trans (View.le_trans hl2 hl3) (S.le_new Dj))) v7 x4 (Rh An.enc_ok S (i:=0) rfl (Gs (e':=.own v7 33 11 x4.length (x4.flatMap An.enc)))) _ hr17) rfl ?_;clear S;intro v20 a w26 hv17 hk22 hn17 S
   obtain ⟨u6,rfl,ho6⟩:=hv17
   obtain ⟨φ5,hl5,hm6,S⟩:=S.see' hn17 hz9
   have hs6:=ho6.mono hm6
   refine Vm S rfl rfl fun a S=>Vq S He rfl rfl rfl fun a S=>Vq S He rfl rfl rfl fun a S=>Va S rfl rfl fun a S=>Va S rfl rfl fun a S=>Ld ?_
   replace S:=S.d0.k11 3 4 6 7 8 9 10 11 12 13 14 rfl
   exact Tn (⟨r14.2,r14.1,φ5,u6,h,hl5,hs6,S.nf [true] rfl (subR rfl)⟩)
  ·exact wp_skip (Tn (⟨(Eb [r10,r13]),([] : List An),φ3,.slice none 0 0,h,(View.le_refl _),(Jg _ _ _),S.nf [false,true] rfl (subR rfl)⟩))
 clear S h;rintro a w25 ⟨x6,x7,φ4,v19,h,hl4,hs5,S⟩;rw [hj4] at h;clear hj4 j4
 refine Tn (Fr (Vk S rfl rfl fun a S=>Dl (Fs (Fr (Vm S rfl rfl fun a S=>Vq S Hi rfl rfl rfl ?_)))));clear S;intro a S
 refine Dl ?_
 obtain ⟨j5,hj5,h⟩:=En h
 refine Ec (fun a w'=>∃ x8 : List Int,∃ φ6 : View,∃ v21 : Value,j5 x8 = some r ∧ View.le φ4 φ6 ∧ Mq φ6 3 1 v21 x8.length (x8.flatMap eInt) ∧ Sx w [] φ6 [.blk b1 [Aa,iV x3] 25] [(3,.pointer (some ⟨b1,0,none⟩)),(4,v2),(7,iV r10),(8,u4),(9,iV r11.2),(10,u5),(11,iV r12.2),(12,iV x6),(13,iV (Eb [r10,(Dm r5.1)])),(14,v19),(15,v21)] 164 a w') ?_ ?_
 ·refine Fc h (S.tm rfl) (fun hb5 h=>?_) (fun hb5 h=>?_)
  ·refine Fg (Vm S rfl rfl fun a S=>Vm S rfl rfl ?_);clear S;intro a S
   obtain ⟨r15,hr18,h⟩:=El h
   have hz10:=S.keep.size
   refine De S (fun _=>Cy (vs:=[v2,iV r5.1]) ⟨(S.tm rfl),(S.tm rfl),trivial⟩ call16) (Sk _ v2 r2.1 ((Fq An.enc_ok hs1).mono (View.le_trans (View.le_trans (View.le_trans hl2 hl3) hl4) (S.le_new Dj))) r5.1 _ hr18) rfl ?_;clear S;intro v22 a w28 hv18 hk23 hn18 S
   obtain ⟨φ7,hl7,hm7,S⟩:=S.see' hn18 hz10
   have hs8:=hv18.mono hm7
   refine Va S rfl rfl fun a S=>Ld ?_
   replace S:=S.k11 3 4 7 8 9 10 11 12 13 14 15 rfl
   exact Tn (⟨r15,φ7,v22,h,hl7,hs8,S.nf [true] rfl (subR rfl)⟩)
  ·exact wp_skip (Tn (⟨([] : List Int),φ4,.slice none 0 0,h,(View.le_refl _),(Jg _ _ _),S.nf [true] rfl (subR rfl)⟩))
 clear S h;rintro a w27 ⟨x8,φ6,v21,h,hl6,hs7,S⟩;rw [hj5] at h;clear hj5 j5
 refine Tn (Fs (Fr (Vm S rfl rfl ?_)));clear S;intro a S
 obtain ⟨r16,hr19,h⟩:=El h
 refine De S (fun _=>Cy (vs:=[v2]) ⟨(S.tm rfl),trivial⟩ call17) (Kp _ v2 r2.1 ((Fq An.enc_ok hs1).mono (View.le_trans (View.le_trans (View.le_trans (View.le_trans hl2 hl3) hl4) hl6) (S.le_new Dj))) _ hr19) rfl ?_;clear S;intro v23 a w29 hv19 hk24 hn19 S
 subst hv19
 refine Vm S rfl rfl fun a S=>Vb S Io rfl rfl rfl fun a S=>Vm S rfl rfl fun a S=>Gr 4 (fun a w'=>Keep [] w29 w' ∧ Sx w [] φ6 [.blk b1 [Aa,iV x3] 25] [(3,.pointer (some ⟨b1,0,none⟩)),(4,v2),(7,iV r10),(8,u4),(10,u5),(11,iV r12.2),(13,iV (Eb [r10,(Dm r5.1)])),(14,v19),(15,v21),(103,bV ((!decide (r16 = r10)) || (!decide (r11.2 = x6))))] 164 a w') ?_ ?_
 ·rcases Bool.eq_false_or_eq_true (!decide (r16 = r10)) with hb6 | hb6
  ·iterate 3 (refine Gd S rfl rfl rfl (Mn hb6) rfl ?_ rfl;clear S;intro a S)
   exact lv S (Kj (!decide (r11.2 = x6)) hb6 (S.tm rfl) rfl) rfl fun a S=>Dl (⟨Keep.refl _ _,S.nf [true] rfl (subR rfl)⟩)
  ·exact Db S rfl rfl rfl hb6 (Vm S rfl rfl fun a S=>Db S rfl rfl rfl hb6 (Vm S rfl rfl fun a S=>Db S rfl rfl rfl hb6 (Vb S Io rfl rfl rfl fun a S=>lv S (Kk hb6 (S.tm rfl) (S.tm rfl)) rfl fun a S=>Dl (⟨Keep.refl _ _,S.nf [true] rfl (subR rfl)⟩))))
 clear S;rintro a w30 ⟨hk25,S⟩
 refine Vm S rfl rfl ?_;clear S;intro a S
 obtain ⟨j6,hj6,h⟩:=En h
 refine Gr 5 (fun a w'=>∃ c1,j6 c1 = some r ∧ Keep [] w30 w' ∧ Sx w [] φ6 [.blk b1 [Aa,iV x3] 25] [(3,.pointer (some ⟨b1,0,none⟩)),(4,v2),(7,iV r10),(10,u5),(11,iV r12.2),(13,iV (Eb [r10,(Dm r5.1)])),(15,v21),(109,bV c1)] 164 a w') ?_ ?_
 ·rcases Bool.eq_false_or_eq_true ((!decide (r16 = r10)) || (!decide (r11.2 = x6))) with hb7 | hb7
  ·replace h:=Nq h hb7
   iterate 4 (refine Gd S rfl rfl rfl (Mn hb7) rfl ?_ rfl;clear S;intro a S)
   exact Vq S (Kj true hb7) rfl rfl rfl fun a S=>Dl (⟨_,h,Keep.refl _ _,S.nf [true] rfl (subR rfl)⟩)
  ·replace h:=Nr h hb7
   refine Db S rfl rfl rfl hb7 (Vm S rfl rfl fun a S=>Db S rfl rfl rfl hb7 (Vm S rfl rfl fun a S=>Db S rfl rfl rfl hb7 ?_))
   obtain ⟨r17,hr20,h⟩:=El h
   refine De S (fun _=>Cy (vs:=[u4,v19]) ⟨(S.tm rfl),(S.tm rfl),trivial⟩ call18) (Pv _ u4 r11.1 ((Fq An.enc_ok hs3).mono (View.le_trans (View.le_trans (View.le_trans hl3 hl4) hl6) (S.le_new Dj))) v19 x7 ((Fq An.enc_ok hs5).mono (View.le_trans hl6 (S.le_new Dj))) _ hr20) rfl ?_;clear S;intro v24 a w32 hv20 hk26 hn20 S
   subst hv20
   exact Db S rfl rfl rfl hb7 (Vu S Hl rfl rfl fun a S=>lv S (Kk hb7 (S.tm rfl) (S.tm rfl)) rfl fun a S=>Dl (⟨_,h,hk26,S.nf [true] rfl (subR rfl)⟩))
 clear S h;rintro a w31 ⟨c1,h,hk27,S⟩;rw [hj6] at h;clear hj6 j6
 refine Vm S rfl rfl fun a S=>Gr 4 (fun a w'=>Keep [] w31 w' ∧ Sx w [] φ6 [.blk b1 [Aa,iV x3] 25] [(3,.pointer (some ⟨b1,0,none⟩)),(4,v2),(7,iV r10),(10,u5),(15,v21),(114,bV (c1 || (!decide (r12.2 = (Eb [r10,(Dm r5.1)])))))] 164 a w') ?_ ?_
 ·rcases Bool.eq_false_or_eq_true c1 with hb8 | hb8
  ·iterate 3 (refine Gd S rfl rfl rfl (Mn hb8) rfl ?_ rfl;clear S;intro a S)
   exact lv S (Kj (!decide (r12.2 = (Eb [r10,(Dm r5.1)]))) hb8 (S.tm rfl) rfl) rfl fun a S=>Dl (⟨Keep.refl _ _,S.nf [true] rfl (subR rfl)⟩)
  ·exact Db S rfl rfl rfl hb8 (Vm S rfl rfl fun a S=>Db S rfl rfl rfl hb8 (Vm S rfl rfl fun a S=>Db S rfl rfl rfl hb8 (Vb S Io rfl rfl rfl fun a S=>lv S (Kk hb8 (S.tm rfl) (S.tm rfl)) rfl fun a S=>Dl (⟨Keep.refl _ _,S.nf [true] rfl (subR rfl)⟩))))
 clear S;rintro a w33 ⟨hk28,S⟩
 refine Vm S rfl rfl ?_;clear S;intro a S
 obtain ⟨j7,hj7,h⟩:=En h
 refine Gr 5 (fun a w'=>∃ c2,j7 c2 = some r ∧ Keep [] w33 w' ∧ Sx w [] φ6 [.blk b1 [Aa,iV x3] 25] [(3,.pointer (some ⟨b1,0,none⟩)),(4,v2),(7,iV r10),(120,bV c2)] 164 a w') ?_ ?_
 ·rcases Bool.eq_false_or_eq_true (c1 || (!decide (r12.2 = (Eb [r10,(Dm r5.1)])))) with hb9 | hb9
  ·replace h:=Nq h hb9
   iterate 4 (refine Gd S rfl rfl rfl (Mn hb9) rfl ?_ rfl;clear S;intro a S)
   exact Vq S (Kj true hb9) rfl rfl rfl fun a S=>Dl (⟨_,h,Keep.refl _ _,S.nf [true] rfl (subR rfl)⟩)
  ·replace h:=Nr h hb9
   refine Db S rfl rfl rfl hb9 (Vm S rfl rfl fun a S=>Db S rfl rfl rfl hb9 (Vm S rfl rfl fun a S=>Db S rfl rfl rfl hb9 ?_))
   obtain ⟨r18,hr21,h⟩:=El h
   refine De S (fun _=>Cy (vs:=[u5,v21]) ⟨(S.tm rfl),(S.tm rfl),trivial⟩ call19) (Tz _ u5 r12.1 ((Fq Iu hs4).mono (View.le_trans (View.le_trans hl4 hl6) (S.le_new Dj))) v21 x8 ((Fq Iu hs7).mono (S.le_new Dj)) _ hr21) rfl ?_;clear S;intro v25 a w35 hv21 hk29 hn21 S
   subst hv21
   exact Db S rfl rfl rfl hb9 (Vu S Hl rfl rfl fun a S=>lv S (Kk hb9 (S.tm rfl) (S.tm rfl)) rfl fun a S=>Dl (⟨_,h,hk29,S.nf [true] rfl (subR rfl)⟩))
 clear S h;rintro a w34 ⟨c2,h,hk30,S⟩;rw [hj7] at h;clear hj7 j7
 refine Dl (Fc h (S.tm rfl) (fun hb10 h=>?_) (fun hb10 h=>?_))
 ·refine Fr (Vk S rfl rfl fun a S=>Dl (wp_ret (Dc ?_)))
  obtain rfl:=Option.some.inj h
  exact Dx S results3 rfl rfl
 ·refine wp_skip (Tn (Fs (Fr (Vm S rfl rfl ?_))));clear S;intro a S
  obtain ⟨r19,hr22,h⟩:=El h
  have hz11:=S.keep.size
  refine Fw 0 S (b:=b1) rfl rfl (fun _=>.blk b1 [Aa,iV r19.2] 25) (fun _=>Cy (vs:=[.pointer (some ⟨b1,0,none⟩),iV 2]) ⟨(S.tm rfl),rfl,trivial⟩ call4) (Qb _ b1 Aa Ae (Ad.mono (S.le_arg (Hq (i:=0) (e:=.blk b1 [Aa,iV x3] 25) rfl))) x3 (S.holds _ (List.mem_of_getElem? (i:=0) rfl)) 2 _ hr22) rfl (fun _ _ _ h=>⟨h.1,fun _ hc=>by cases hc;rfl⟩) ?_;clear S;intro v26 a w36 hv22 hk31 hn22 S
  replace hv22:=hv22.2
  obtain ⟨φ8,hl8,hm8,S⟩:=S.see' hn22 hz11
  have hs9:=hv22.mono hm8
  refine lv S (Fd Es (S.tm rfl) (Fb (Fq An.enc_ok hs9))) rfl fun a S=>lv S (Rm rfl) rfl fun a S=>Dl ?_
  replace S:=(S.nl [.blk b1 [Aa,iV r19.2] 25] [true] rfl).k6 3 4 7 122 123 124 rfl
  obtain ⟨j8,hj8,h⟩:=En h
  refine Ec (fun a w'=>∃ x9 : Int,∃ φ9 : View,j8 x9 = some r ∧ View.le φ8 φ9 ∧ Sx w [] φ9 [.blk b1 [Aa,iV x9] 25] [] 164 a w') ?_ ?_
  ·refine wp_block (Hx (fun (ys1 : List An) a w'=>∃ i1 : Nat,∃ x9 : Int,∃ φ9 : View,(∃ dn,r19.1 = dn ++ ys1 ∧ dn.length = i1) ∧ Ek Ae r2 r10 j8 ys1 i1 x9 = some r ∧ View.le φ8 φ9 ∧ Sx w [] φ9 [.blk b1 [Aa,iV x9] 25] [(3,.pointer (some ⟨b1,0,none⟩)),(4,v2),(7,iV r10),(122,v26),(123,iV (r19.1.length : Int)),(124,iV (i1 : Int))] 164 a w') List.length r19.1 ⟨0,r19.2,φ8,⟨[],rfl,rfl⟩,h,View.le_refl _,S.nf [true] rfl (subR rfl)⟩ ?_)
   clear S h;rintro ys1 a w37 ⟨i1,x9,φ9,⟨dn,hd1,hi1⟩,h,hl9,S⟩
   cases ys1 with
   | nil =>
    rw [Ek.eq_1] at h
    refine Fr (Vb S Fa rfl rfl rfl fun a S=>Ld ?_)
    replace S:=S.k7 3 4 7 122 123 124 125 rfl
    exact Tn (Fs (wp_cond_false ((S.tm rfl).trans (congrArg Value.bool (Jk hd1 hi1))) (wp_exit (Et (Et (Hp (Tn (⟨x9,φ9,h,hl9,S.nf [true] rfl trivial⟩))))))))
   | cons y1 ys1 =>
    rw [Ek.eq_2] at h
    refine Fr (Vb S Fa rfl rfl rfl fun a S=>Ld ?_)
    replace S:=S.k7 3 4 7 122 123 124 125 rfl
    refine Tn (Fs (wp_cond_true ((S.tm rfl).trans (congrArg Value.bool (Hy hd1 hi1))) (wp_skip (Tn (Fs (wp_block (Fs (Fg ?_))))))))
    obtain ⟨b6,o3,hm9,hr23⟩:=Dt (a:=a) (x:=.tmp 122) (y:=.tmp 124) (ty:=0) Es (Fq An.enc_ok hs9) (Jp hd1 hi1) rfl (S.tm rfl) (S.tm rfl)
    refine lv S (hr23 _) rfl ?_;clear S;intro a S
    clear hr23
    refine lv S (Ev isAgg33 sizeOf33 (off:=o3) (o:=0) (part:=(An.enc y1)) rfl rfl (S.tm rfl) ((hm9.mono hl9).at S.emb)) rfl fun a S=>It S zeroValue33 (cs:=[sV Cw,iV 0,iV 0,iV 0,sV Cw,sV Cw,sV Cw,iV 0,iV 0,sV Cw,iV 0]) rfl rfl ?_;clear S;intro a w39 b7 hz12 hk32 S
    refine Ef S (S.tm rfl) (S.tm rfl) (i:=0) (off:=0) rfl sizeOf33 (vs:=(An.enc y1)) rfl rfl rfl rfl ?_;clear S;intro w40 hk33 S
    refine Dl (Fs (Fr (Vf Hd S rfl rfl fun a S=>Ef S (S.tm rfl) rfl (i:=0) (off:=1) rfl sizeOf3 (vs:=[iV 0]) rfl rfl rfl rfl ?_)));clear S;intro w41 hk34 S
    refine Dz (Vm S rfl rfl ?_);clear S;intro a S
    obtain ⟨r20,hr24,h⟩:=El h
    refine Fw 1 S (b:=b1) rfl rfl (fun _=>.blk b1 [Aa,iV r20.2] 25) (fun _=>Cy (vs:=[.pointer (some ⟨b1,0,none⟩),iV 12]) ⟨(S.tm rfl),rfl,trivial⟩ call7) (Mk _ b1 Aa Ae (Ad.mono (S.le_arg (Hq (i:=1) (e:=.blk b1 [Aa,iV x9] 25) rfl))) x9 (S.holds _ (List.mem_of_getElem? (i:=1) rfl)) 12 _ hr24) rfl (fun _ _ _ h=>⟨h.1,fun _ hc=>by cases hc;rfl⟩) ?_;clear S;intro v27 a w42 hv23 hk35 hn23 S
    replace hv23:=hv23.2
    subst hv23
    refine Dl ?_
    obtain ⟨j9,hj9,h⟩:=En h
    refine Ec (fun a w'=>∃ x10 : Int,j9 x10 = some r ∧ Sx w [] φ9 [.blk b7 (An.enc (An.mk y1.Site x10 y1.At y1.Kind y1.Who y1.Club y1.Race y1.Time y1.Fault y1.Of y1.Other)) 33,.blk b1 [Aa,iV r20.2] 25] [(3,.pointer (some ⟨b1,0,none⟩)),(4,v2),(7,iV r10),(17,.pointer (some ⟨b7,0,none⟩)),(122,v26),(123,iV (r19.1.length : Int)),(124,iV (i1 : Int))] 164 a w') ?_ ?_
    ·refine Fc h (S.tm rfl) (fun hb11 h=>?_) (fun hb11 h=>?_)
     ·refine Fg (Vf Hd S rfl rfl fun a S=>Ef S (S.tm rfl) rfl (i:=0) (off:=1) rfl sizeOf3 (vs:=[iV 1]) rfl rfl rfl rfl ?_);clear S;intro w44 hk36 S
      exact Dl (⟨1,h,S.nf [true,true] rfl (subR rfl)⟩)
     ·exact wp_skip (Tn (⟨0,h,S.nf [true,true] rfl (subR rfl)⟩))
    clear S h;rintro a w43 ⟨x10,h,S⟩;rw [hj9] at h;clear hj9 j9
    refine Tn (Fs (Fr (Vm S rfl rfl ?_)));clear S;intro a S
    obtain ⟨r21,hr25,h⟩:=El h
    refine Fw 1 S (b:=b1) rfl rfl (fun _=>.blk b1 [Aa,iV r21.2] 25) (fun _=>Cy (vs:=[.pointer (some ⟨b1,0,none⟩),iV 2]) ⟨(S.tm rfl),rfl,trivial⟩ call7) (Mk _ b1 Aa Ae (Ad.mono (S.le_arg (Hq (i:=1) (e:=.blk b1 [Aa,iV r20.2] 25) rfl))) r20.2 (S.holds _ (List.mem_of_getElem? (i:=1) rfl)) 2 _ hr25) rfl (fun _ _ _ h=>⟨h.1,fun _ hc=>by cases hc;rfl⟩) ?_;clear S;intro v28 a w45 hv24 hk37 hn24 S
    replace hv24:=hv24.2
    subst hv24
    refine Dl ?_
    obtain ⟨j10,hj10,h⟩:=En h
    refine Ec (fun a w'=>∃ x11 : Int,j10 x11 = some r ∧ Sx w [] φ9 [.blk b7 (An.enc (An.mk y1.Site x10 x11 y1.Kind y1.Who y1.Club y1.Race y1.Time y1.Fault y1.Of y1.Other)) 33,.blk b1 [Aa,iV r21.2] 25] [(3,.pointer (some ⟨b1,0,none⟩)),(4,v2),(7,iV r10),(17,.pointer (some ⟨b7,0,none⟩)),(122,v26),(123,iV (r19.1.length : Int)),(124,iV (i1 : Int))] 164 a w') ?_ ?_
    ·refine Fc h (S.tm rfl) (fun hb12 h=>?_) (fun hb12 h=>?_)
     ·refine Fg (Vf Jv S rfl rfl fun a S=>Vl isAgg3 0 S rfl rfl rfl rfl fun a S=>Vq S Ge rfl rfl rfl fun a S=>Vf Jv S rfl rfl fun a S=>Ef S (S.tm rfl) (S.tm rfl) (i:=0) (off:=2) rfl sizeOf3 (vs:=[iV (W (y1.At + 80))]) rfl rfl rfl rfl ?_);clear S;intro w47 hk38 S
      exact Dl (⟨W (y1.At + 80),h,S.nf [true,true] rfl (subR rfl)⟩)
     ·exact wp_skip (Tn (⟨y1.At,h,S.nf [true,true] rfl (subR rfl)⟩))
    clear S h;rintro a w46 ⟨x11,h,S⟩;rw [hj10] at h;clear hj10 j10
    refine Tn (Fr (Vm S rfl rfl fun a S=>lv S (Ev isAgg33 sizeOf33 (off:=0) (o:=0) (part:=(An.enc (An.mk y1.Site x10 x11 y1.Kind y1.Who y1.Club y1.Race y1.Time y1.Fault y1.Of y1.Other))) rfl rfl (S.tm rfl) (S.cellsAt (i:=0) rfl)) rfl ?_));clear S;intro a S
    obtain ⟨r22,hr26,h⟩:=El h
    have hz13:=S.keep.size
    refine De S (fun _=>Cy (vs:=[v2,.agg (An.enc (An.mk y1.Site x10 x11 y1.Kind y1.Who y1.Club y1.Race y1.Time y1.Fault y1.Of y1.Other)).toArray]) ⟨(S.tm rfl),(S.tm rfl),trivial⟩ call20) (Ye _ v2 r2.1 ((Fq An.enc_ok hs1).mono (View.le_trans (View.le_trans (View.le_trans (View.le_trans (View.le_trans (View.le_trans hl2 hl3) hl4) hl6) hl8) hl9) (S.le_new Dj))) (An.mk y1.Site x10 x11 y1.Kind y1.Who y1.Club y1.Race y1.Time y1.Fault y1.Of y1.Other) _ hr26) rfl ?_;clear S;intro v29 a w48 hv25 hk39 hn25 S
    obtain ⟨u9,rfl,ho9⟩:=hv25
    obtain ⟨φ10,hl10,hm10,S⟩:=S.see' hn25 hz13
    have hs10:=ho9.mono hm10
    refine Vm S rfl rfl fun a S=>Vq S He rfl rfl rfl fun a S=>Vq S He rfl rfl rfl fun a S=>Va S rfl rfl fun a S=>Va S rfl rfl fun a S=>Ld ?_
    replace S:=S.k9 3 4 7 17 18 19 122 123 124 rfl
    refine Tn (Fr (Vm S rfl rfl fun a S=>Va S rfl rfl fun a S=>Dz (Vk S rfl rfl fun a S=>Ld ?_)))
    refine Tn (Fs (Fr (Vm S rfl rfl fun a S=>Vq S Hi rfl rfl rfl fun a S=>Dl ?_)))
    obtain ⟨j11,hj11,h⟩:=En h
    refine Ec (fun a w'=>∃ x12 : Int,∃ x13 : List An,∃ φ11 : View,∃ v30 : Value,j11 x12 x13 = some r ∧ View.le φ10 φ11 ∧ Mq φ11 33 11 v30 x13.length (x13.flatMap An.enc) ∧ Sx w [] φ11 [.blk b1 [Aa,iV r21.2] 25] [(3,.pointer (some ⟨b1,0,none⟩)),(4,v2),(7,iV r10),(18,u9),(19,iV r22.2),(20,iV x12),(21,v30),(122,v26),(123,iV (r19.1.length : Int)),(124,iV (i1 : Int))] 164 a w') ?_ ?_
    ·refine Fc h (S.tm rfl) (fun hb13 h=>?_) (fun hb13 h=>?_)
     ·refine Fg (Vm S rfl rfl fun a S=>lv S (Ev isAgg33 sizeOf33 (off:=0) (o:=0) (part:=(An.enc (An.mk y1.Site x10 x11 y1.Kind y1.Who y1.Club y1.Race y1.Time y1.Fault y1.Of y1.Other))) rfl rfl (S.tm rfl) (S.cellsAt (i:=0) rfl)) rfl ?_);clear S;intro a S
      obtain ⟨r23,hr27,h⟩:=El h
      have hz14:=S.keep.size
      refine De S (fun _=>Cy (vs:=[v2,.agg (An.enc (An.mk y1.Site x10 x11 y1.Kind y1.Who y1.Club y1.Race y1.Time y1.Fault y1.Of y1.Other)).toArray]) ⟨(S.tm rfl),(S.tm rfl),trivial⟩ call21) (Sw _ v2 r2.1 ((Fq An.enc_ok hs1).mono (View.le_trans (View.le_trans (View.le_trans (View.le_trans (View.le_trans (View.le_trans (View.le_trans hl2 hl3) hl4) hl6) hl8) hl9) hl10) (S.le_new Dj))) (An.mk y1.Site x10 x11 y1.Kind y1.Who y1.Club y1.Race y1.Time y1.Fault y1.Of y1.Other) _ hr27) rfl ?_;clear S;intro v31 a w50 hv26 hk40 hn26 S
      obtain ⟨u10,rfl,ho10⟩:=hv26
      obtain ⟨φ12,hl12,hm11,S⟩:=S.see' hn26 hz14
      have hs12:=ho10.mono hm11
      refine Vm S rfl rfl fun a S=>Vq S He rfl rfl rfl fun a S=>Vq S He rfl rfl rfl fun a S=>Va S rfl rfl fun a S=>Va S rfl rfl fun a S=>Ld ?_
      replace S:=S.d0.k10 3 4 7 18 19 20 21 122 123 124 rfl
      exact Tn (⟨r23.2,r23.1,φ12,u10,h,hl12,hs12,S.nf [true] rfl (subR rfl)⟩)
     ·exact wp_skip (Tn (⟨r10,([] : List An),φ10,.slice none 0 0,h,(View.le_refl _),(Jg _ _ _),S.nf [false,true] rfl (subR rfl)⟩))
    clear S h;rintro a w49 ⟨x12,x13,φ11,v30,h,hl11,hs11,S⟩;rw [hj11] at h;clear hj11 j11
    refine Tn (Fr (Vm S rfl rfl fun a S=>Vm S rfl rfl fun a S=>Vb S Io rfl rfl rfl fun a S=>Vm S rfl rfl ?_));clear S;intro a S
    obtain ⟨j12,hj12,h⟩:=En h
    refine Gr 5 (fun a w'=>∃ c3,j12 c3 = some r ∧ Keep [] w49 w' ∧ Sx w [] φ11 [.blk b1 [Aa,iV r21.2] 25] [(3,.pointer (some ⟨b1,0,none⟩)),(4,v2),(7,iV r10),(122,v26),(123,iV (r19.1.length : Int)),(124,iV (i1 : Int)),(161,bV c3)] 164 a w') ?_ ?_
    ·rcases Bool.eq_false_or_eq_true (!decide (r22.2 = x12)) with hb14 | hb14
     ·replace h:=Nq h hb14
      iterate 4 (refine Gd S rfl rfl rfl (Mn hb14) rfl ?_ rfl;clear S;intro a S)
      exact Vq S (Kj true hb14) rfl rfl rfl fun a S=>Dl (⟨_,h,Keep.refl _ _,S.nf [true] rfl (subR rfl)⟩)
     ·replace h:=Nr h hb14
      refine Db S rfl rfl rfl hb14 (Vm S rfl rfl fun a S=>Db S rfl rfl rfl hb14 (Vm S rfl rfl fun a S=>Db S rfl rfl rfl hb14 ?_))
      obtain ⟨r24,hr28,h⟩:=El h
      refine De S (fun _=>Cy (vs:=[u9,v30]) ⟨(S.tm rfl),(S.tm rfl),trivial⟩ call18) (Pv _ u9 r22.1 ((Fq An.enc_ok hs10).mono (View.le_trans hl11 (S.le_new Dj))) v30 x13 ((Fq An.enc_ok hs11).mono (S.le_new Dj)) _ hr28) rfl ?_;clear S;intro v32 a w52 hv27 hk41 hn27 S
      subst hv27
      exact Db S rfl rfl rfl hb14 (Vu S Hl rfl rfl fun a S=>lv S (Kk hb14 (S.tm rfl) (S.tm rfl)) rfl fun a S=>Dl (⟨_,h,hk41,S.nf [true] rfl (subR rfl)⟩))
    clear S h;rintro a w51 ⟨c3,h,hk42,S⟩;rw [hj12] at h;clear hj12 j12
    refine Dl (Fc h (S.tm rfl) (fun hb15 h=>?_) (fun hb15 h=>?_))
    ·refine Fr (Vk S rfl rfl fun a S=>Dl (wp_ret (Gg (Dc (Dc (Gg (Dc ?_)))))))
     refine Dc ?_
     obtain rfl:=Option.some.inj h
     exact Dx S results3 rfl rfl
    ·exact wp_skip (Ia (Tn (Fg (Vq S Ge rfl rfl rfl fun a S=>Vm S rfl rfl fun a S=>Dl (⟨ys1,⟨i1 + 1,r21.2,φ11,⟨_,(hd1).trans (List.append_cons _ _ _),by simp [hi1]⟩,h,(View.le_trans hl9 (View.le_trans hl10 hl11)),S.nf [true] rfl ⟨rfl,rfl,rfl,rfl,rfl,(congrArg (fun z=>some (Value.int .i64 z)) (Hz hd1 hi1 (Iz (Fq An.enc_ok hs9)))),trivial⟩⟩,Nat.lt_succ_self _⟩)))))
  clear S h;rintro a w38 ⟨x9,φ9,h,hl9,S⟩;rw [hj8] at h;clear hj8 j8
  refine Tn (Fs (Fg ?_))
  obtain ⟨r25,hr29,h⟩:=El h
  refine De S (fun _=>Cy (vs:=[]) trivial call22) (Wo _ _ hr29) rfl ?_;clear S;intro v33 a w53 hv28 hk43 hn28 S
  subst hv28
  refine Va S rfl rfl fun a S=>Dl (wp_ret ?_)
  obtain rfl:=Option.some.inj h
  exact Dx S results3 rfl rfl
end Go.Proofs.YtcmlfgcnichcdaaGreatDoor
