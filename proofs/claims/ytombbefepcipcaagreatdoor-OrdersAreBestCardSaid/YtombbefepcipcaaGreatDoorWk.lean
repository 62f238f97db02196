/- Each Go function computes its plain twin,by program. -/
import Derived.Test.YtombbefepcipcaaGreatDoorWk2
namespace Go.Proofs.YtombbefepcipcaaGreatDoor
open Go
open Go.Proofs.Tryz
theorem Ye (w : World) (Ad : Value) (Ao : List An) (Am : Slc (view w []) 5 Ad (Ao.map An.enc)) (Bh : Int) (r : Int × Int) (h : Tb Ao Bh = some r) :
    Calls prog 34 [Ad,iV Bh].toArray w (Ret w [] fun _ v _=>v = .tuple #[iV r.1,iV r.2]):=by
 refine Fe func34 rfl ntmps34 rfl fun a S=>?_
 unfold Tb at h
 replace S:=S.k2 0 1 rfl
 refine Fr (Vk S rfl rfl fun a S=>Vk S rfl rfl fun a S=>Dz (Vm S rfl rfl fun a S=>Vm S rfl rfl ?_));clear S;intro a S
 obtain ⟨r1,hr1,h⟩:=Gs h
 have hz1:=S.keep.size
 refine Eg S (fun _=>Eb (vs:=[Ad,iV Bh]) ⟨(S.tm rfl),(S.tm rfl),trivial⟩ call57) (Uh _ Ad Ao (Am.mono (S.le_arg Fk)) Bh _ hr1) rfl ?_;clear S;intro v1 a w1 hv1 hk1 hn1 S
 obtain ⟨u1,rfl,ho1⟩:=hv1
 obtain ⟨φ1,hl1,hm1,S⟩:=S.see' hn1 hz1
 have hs1:=ho1.mono hm1
 refine Vm S rfl rfl fun a S=>Vq S Gu rfl rfl rfl fun a S=>Vq S Gu rfl rfl rfl fun a S=>Va S rfl rfl fun a S=>Va S rfl rfl fun a S=>Dl (Fs (Fr (Vm S rfl rfl ?_)));clear S;intro a S
 refine Vq S Mj rfl rfl rfl fun a S=>Dl (Fc h (S.tm rfl) (fun hb1 h=>?_) (fun hb1 h=>?_))
 ·refine Fr (Vm S rfl rfl fun a S=>Vk S rfl rfl fun a S=>Va S rfl rfl fun a S=>Ld ?_)
  replace S:=S.k2 4 5 rfl
  refine Tn (wp_ret (Ee ?_))
  obtain rfl:=Option.some.inj h
  exact Jx S results34 rfl rfl rfl
 ·refine wp_skip (Tn (Fr (Vm S rfl rfl fun a S=>Vm S rfl rfl ?_)));clear S;intro a S
  obtain ⟨r2,hr2,h⟩:=Gs h
  refine Eg S (fun _=>Eb (vs:=[u1,iV Bh]) ⟨(S.tm rfl),(S.tm rfl),trivial⟩ call21) (Rr _ u1 r1.1 ((Fw Dx.enc_ok hs1).mono (S.le_new Fk)) Bh _ hr2) rfl ?_;clear S;intro v2 a w2 hv2 hk2 hn2 S
  subst hv2
  refine Va S rfl rfl fun a S=>Vk S rfl rfl fun a S=>Ld ?_
  replace S:=S.k2 4 5 rfl
  refine Tn (wp_ret ?_)
  obtain rfl:=Option.some.inj h
  exact Jx S results34 rfl rfl rfl
theorem Qo (w : World) (Bo : Int) (r : Bool) (h : Mn Bo = r) :
    Calls prog 60 [iV Bo].toArray w (Ret w [] fun _ v _=>v = bV r):=by
 refine Fe func60 rfl ntmps60 rfl fun a S=>?_
 unfold Mn at h
 replace S:=S.k1 0 rfl
 refine Fr (Vk S rfl rfl fun a S=>Dz (Vm S rfl rfl fun a S=>Eg S (fun _=>Eb (vs:=[iV Bo,iV 1,iV 360000]) ⟨(S.tm rfl),rfl,rfl,trivial⟩ call20) (Gq _ Bo 1 360000 _ rfl) rfl ?_));clear S;intro v1 a w1 hv1 hk1 hn1 S
 subst hv1
 refine Va S rfl rfl fun a S=>Dl (wp_ret ?_)
 subst h
 exact Fz S results60 rfl rfl
set_option maxRecDepth 20000 in
theorem Uw (w : World) (Ad : Value) (Ao : List Mq) (Am : Slc (view w []) 2 Ad (Ao.map Mq.enc)) (r : Int) (h : Qk Ao = some r) :
    Calls prog 58 [Ad].toArray w (Ret w [] fun _ v _=>v = iV r):=by
 refine Fe func58 rfl ntmps58 rfl fun a S=>?_
 unfold Qk at h
 replace S:=S.k1 0 rfl
 refine Fr (Vk S rfl rfl fun a S=>Dl (Fs (Fr (Vm S rfl rfl fun a S=>lv S (Gc AX (S.tm rfl) (Dy Am)) rfl fun a S=>Vq S Kp rfl rfl rfl ?_))));clear S;intro a S
 refine Dl (Fc h (S.tm rfl) (fun hb1 h=>?_) (fun hb1 h=>?_))
 ·refine Fr (Vk S rfl rfl fun a S=>Dl (wp_ret (Ee ?_)))
  obtain rfl:=Option.some.inj h
  exact Fz S results58 rfl rfl
 ·refine wp_skip (Tn (Fs (Fr (Vm S rfl rfl fun a S=>lv S (Gc AX (S.tm rfl) (Dy Am)) rfl fun a S=>lv S (Rm rfl) rfl fun a S=>Dl ?_))))
  replace S:=S.k4 0 8 9 10 rfl
  obtain ⟨j1,hj1,h⟩:=Gh h
  refine Fv (fun a w'=>j1 = some r ∧ Sx w [] nov [] [] 40 a w') ?_ ?_
  ·refine wp_block (Hr (fun (ys1 : List Mq) a w'=>∃ i1 : Nat,(∃ dn,Ao = dn ++ ys1 ∧ dn.length = i1) ∧ Ji Ao j1 ys1 i1 = some r ∧ Sx w [] nov [] [(0,Ad),(8,Ad),(9,iV (Ao.length : Int)),(10,iV (i1 : Int))] 40 a w') List.length Ao ⟨0,⟨[],rfl,rfl⟩,h,S.nf [] rfl (subR rfl)⟩ ?_)
   clear S h;rintro ys1 a w1 ⟨i1,⟨dn,hd1,hi1⟩,h,S⟩
   cases ys1 with
   | nil =>
    rw [Ji.eq_1] at h
    refine Fr (Vb S Fu rfl rfl rfl fun a S=>Ld ?_)
    replace S:=S.k5 0 8 9 10 11 rfl
    exact Tn (Fs (wp_cond_false ((S.tm rfl).trans (congrArg Value.bool (Jd hd1 hi1))) (wp_exit (Fj (Fj (Hp (Tn (⟨h,S.nf [] rfl trivial⟩))))))))
   | cons y1 ys1 =>
    rw [Ji.eq_2] at h
    refine Fr (Vb S Fu rfl rfl rfl fun a S=>Ld ?_)
    replace S:=S.k5 0 8 9 10 11 rfl
    refine Tn (Fs (wp_cond_true ((S.tm rfl).trans (congrArg Value.bool (Hx hd1 hi1))) (wp_skip (Tn (Fs (wp_block (Fr (Vm S rfl rfl ?_))))))));clear S;intro a S
    obtain ⟨b1,o1,hm1,hr1⟩:=Fo (a:=a) (x:=.tmp 8) (y:=.tmp 10) (ty:=0) AX Am (Il hd1 hi1) rfl (S.tm rfl) (S.tm rfl)
    refine lv S (hr1 _) rfl ?_;clear S;intro a S
    clear hr1
    refine lv S (Ie isAgg86 sizeOf86 (off:=o1) (o:=0) (part:=(Mq.enc y1)) rfl rfl (S.tm rfl) (hm1.at S.emb0)) rfl fun a S=>Nw S zeroValue86 (cs:=[sV Eo,iV 0]) rfl rfl ?_;clear S;intro a w3 b2 hz1 hk1 S
    refine Va S rfl rfl fun a S=>Kq S (S.tm rfl) (S.tm rfl) (i:=0) (off:=0) rfl sizeOf86 (vs:=(Mq.enc y1)) rfl rfl rfl rfl ?_;clear S;intro w4 hk2 S
    refine Dl (wp_block (Fr (Vf Ym S rfl rfl fun a S=>Vl isAgg9 0 S rfl rfl rfl rfl ?_)));clear S;intro a S
    obtain ⟨r1,hr2,h⟩:=Gs h
    refine Eg S (fun _=>Eb (vs:=[sV y1.Race]) ⟨(S.tm rfl),trivial⟩ call40) (Jt _ y1.Race _ hr2) rfl ?_;clear S;intro v1 a w5 hv1 hk3 hn1 S
    subst hv1
    refine Vu S Ip rfl rfl fun a S=>Va S rfl rfl fun a S=>Ld ?_
    replace S:=(S.nl [.blk b2 (Mq.enc y1) 86] [true] rfl).k7 0 3 4 8 9 10 15 rfl
    refine Tn (Fc h (S.tm rfl) (fun hb2 h=>?_) (fun hb2 h=>?_))
    ·refine Fr (Vk S rfl rfl fun a S=>Dl (wp_ret (Gy (Gy (Ee (Ee (Gy ?_)))))))
     refine Ee (Ee ?_)
     obtain rfl:=Option.some.inj h
     exact Fz S results58 rfl rfl
    ·refine Fs (Gz [] ([]) Tryz.mixed S rfl (by kernel_rfl) ?_);clear S;intro w6 hk4 hsel S
     refine Jy [0,1,2,3,4,5,6,7,8,9,10,11,12,13] hsel (by kernel_rfl) rfl ?_
     clear hsel
     refine Gb S rfl (Rm (S.tm rfl)) rfl fun a S=>Gb S rfl (Kp (S.tm rfl) rfl) rfl fun a S=>Gb S rfl (Rm (S.tm rfl)) rfl ?_;clear S;intro a S
     obtain ⟨j2,hj2,h⟩:=Gh h
     refine CG 10 (fun a w'=>∃ c1,j2 c1 = some r ∧ Keep [] w6 w' ∧ Sx w [] nov [.blk b2 (Mq.enc y1) 86] [(0,Ad),(4,.pointer (some ⟨b2,0,none⟩)),(8,Ad),(9,iV (Ao.length : Int)),(10,iV (i1 : Int)),(33,bV c1)] 40 a w') ?_ ?_
     ·rcases Bool.eq_false_or_eq_true (decide (0 < (i1 : Int))) with hb3 | hb3
      ·replace h:=Qr h hb3
       refine Ig S rfl rfl rfl rfl hb3 (Jq S (Gi Ym (S.tm rfl)) rfl fun a S=>Ig S rfl rfl rfl rfl hb3 (Jq S (Ky isAgg9 (S.tm rfl) (S.cell (i:=0) rfl rfl)) rfl fun a S=>Ig S rfl rfl rfl rfl hb3 (Jq S (Rm (S.tm rfl)) rfl fun a S=>Ig S rfl rfl rfl rfl hb3 (Jq S (Rm (S.tm rfl)) rfl fun a S=>Ig S rfl rfl rfl rfl hb3 (Jq S (Iw (S.tm rfl) rfl) rfl fun a S=>Ig S rfl rfl rfl rfl hb3 ?_)))))
       obtain ⟨hc1,h⟩:=Hs h
       obtain ⟨b3,o2,hm2,hr3⟩:=Fo (a:=a) (x:=.tmp 26) (y:=.tmp 28) (ty:=0) AX Am (Ef hc1).1 (Ef hc1).2 (S.tm rfl) (S.tm rfl)
       refine Jq S (hr3 _) rfl ?_;clear S;intro a S
       clear hr3
       exact Ig S rfl rfl rfl rfl hb3 (Jq S (Gi Ym (S.tm rfl)) rfl fun a S=>Ig S rfl rfl rfl rfl hb3 (Jq S (Ha isAgg9 (off:=o2) (o:=0) (S.tm rfl) (hm2.at S.emb0) rfl) rfl fun a S=>Ig S rfl rfl rfl rfl hb3 (Jq S (BU (S.tm rfl) (S.tm rfl)) rfl fun a S=>Gb S rfl (Jk hb3 (S.tm rfl) (S.tm rfl)) rfl fun a S=>Ix (⟨_,h,Keep.refl _ _,S.nf [true] rfl (subR rfl)⟩))))
      ·replace h:=Qs h hb3
       iterate 9 (refine Rb S rfl rfl rfl rfl (Lg hb3) rfl ?_ rfl;clear S;intro a S)
       exact Gb S rfl (Jl true hb3 (S.tm rfl) rfl) rfl fun a S=>Ix (⟨_,h,Keep.refl _ _,S.nf [true] rfl (subR rfl)⟩)
     clear S h;rintro a w7 ⟨c1,h,hk5,S⟩;rw [hj2] at h;clear hj2 j2
     refine Gb S rfl (Ra (S.tm rfl)) rfl fun a S=>Ix ?_
     replace S:=S.k6 0 4 8 9 10 20 rfl
     refine Tn (Fc h (S.tm rfl) (fun hb4 h=>?_) (fun hb4 h=>?_))
     ·refine Fr (Vk S rfl rfl fun a S=>Dl (wp_ret (Gy (Gy (Ee (Ee (Gy ?_)))))))
      refine Ee (Ee ?_)
      obtain rfl:=Option.some.inj h
      exact Fz S results58 rfl rfl
     ·refine Fr (Vf GH S rfl rfl fun a S=>Vl isAgg3 0 S rfl rfl rfl rfl fun a S=>Eg S (fun _=>Eb (vs:=[iV y1.Time]) ⟨(S.tm rfl),trivial⟩ call60) (Qo _ y1.Time _ rfl) rfl ?_);clear S;intro v2 a w8 hv2 hk6 hn2 S
      subst hv2
      refine Vu S Ip rfl rfl fun a S=>Va S rfl rfl fun a S=>Dl (Fc h (S.tm rfl) (fun hb5 h=>?_) (fun hb5 h=>?_))
      ·refine Fr (Vk S rfl rfl fun a S=>Dl (wp_ret (Gy (Gy (Ee (Ee (Gy ?_)))))))
       refine Ee (Ee ?_)
       obtain rfl:=Option.some.inj h
       exact Fz S results58 rfl rfl
      ·exact wp_skip (Ja (Ja (Tn (Fg (Vq S Gf rfl rfl rfl fun a S=>Vm S rfl rfl fun a S=>Dl (⟨ys1,⟨i1 + 1,⟨_,(hd1).trans (List.append_cons _ _ _),by simp [hi1]⟩,h,S.nf [false] rfl ⟨rfl,rfl,rfl,(congrArg (fun z=>some (Value.int .i64 z)) (Hy hd1 hi1 (Km Am))),trivial⟩⟩,Nat.lt_succ_self _⟩))))))
  clear S h;rintro a w2 ⟨h,S⟩;rw [hj1] at h;clear hj1 j1
  refine Tn (Fr (Vk S rfl rfl fun a S=>Dl (wp_ret ?_)))
  obtain rfl:=Option.some.inj h
  exact Fz S results58 rfl rfl
theorem Xk (w : World) (Ad : Value) (Ao : List Mq) (Am : Slc (view w []) 2 Ad (Ao.map Mq.enc)) (Ci : ByteArray) (r : Int) (h : Nr Ao Ci = r) :
    Calls prog 59 [Ad,sV Ci].toArray w (Ret w [] fun _ v _=>v = iV r):=by
 refine Fe func59 rfl ntmps59 rfl fun a S=>?_
 unfold Nr at h
 replace S:=S.k2 0 1 rfl
 refine Fr (Vk S rfl rfl fun a S=>Dl (Fs (Fr (Vm S rfl rfl fun a S=>lv S (Gc AX (S.tm rfl) (Dy Am)) rfl fun a S=>lv S (Rm rfl) rfl ?_))));clear S;intro a S
 refine Dl ?_
 replace S:=S.k4 1 7 8 9 rfl
 obtain ⟨j1,hj1,h⟩:=Gh h
 refine Fv (fun a w'=>j1 = r ∧ Sx w [] nov [] [] 20 a w') ?_ ?_
 ·refine wp_block (Hr (fun (ys1 : List Mq) a w'=>∃ i1 : Nat,(∃ dn,Ao = dn ++ ys1 ∧ dn.length = i1) ∧ Ke Ci j1 ys1 i1 = r ∧ Sx w [] nov [] [(1,sV Ci),(7,Ad),(8,iV (Ao.length : Int)),(9,iV (i1 : Int))] 20 a w') List.length Ao ⟨0,⟨[],rfl,rfl⟩,h,S.nf [] rfl (subR rfl)⟩ ?_)
  clear S h;rintro ys1 a w1 ⟨i1,⟨dn,hd1,hi1⟩,h,S⟩
  cases ys1 with
  | nil =>
   rw [Ke.eq_1] at h
   refine Fr (Vb S Fu rfl rfl rfl fun a S=>Ld ?_)
   replace S:=S.k5 1 7 8 9 10 rfl
   exact Tn (Fs (wp_cond_false ((S.tm rfl).trans (congrArg Value.bool (Jd hd1 hi1))) (wp_exit (Fj (Fj (Hp (Tn (⟨h,S.nf [] rfl trivial⟩))))))))
  | cons y1 ys1 =>
   rw [Ke.eq_2] at h
   refine Fr (Vb S Fu rfl rfl rfl fun a S=>Ld ?_)
   replace S:=S.k5 1 7 8 9 10 rfl
   refine Tn (Fs (wp_cond_true ((S.tm rfl).trans (congrArg Value.bool (Hx hd1 hi1))) (wp_skip (Tn (Fs (wp_block (Fs (Fg ?_))))))))
   obtain ⟨b1,o1,hm1,hr1⟩:=Fo (a:=a) (x:=.tmp 7) (y:=.tmp 9) (ty:=0) AX Am (Il hd1 hi1) rfl (S.tm rfl) (S.tm rfl)
   refine lv S (hr1 _) rfl ?_;clear S;intro a S
   clear hr1
   refine lv S (Ie isAgg86 sizeOf86 (off:=o1) (o:=0) (part:=(Mq.enc y1)) rfl rfl (S.tm rfl) (hm1.at S.emb0)) rfl fun a S=>Nw S zeroValue86 (cs:=[sV Eo,iV 0]) rfl rfl ?_;clear S;intro a w3 b2 hz1 hk1 S
   refine Kq S (S.tm rfl) (S.tm rfl) (i:=0) (off:=0) rfl sizeOf86 (vs:=(Mq.enc y1)) rfl rfl rfl rfl ?_;clear S;intro w4 hk2 S
   refine Dz (Vf Ym S rfl rfl fun a S=>Vl isAgg9 0 S rfl rfl rfl rfl fun a S=>Vm S rfl rfl fun a S=>Vb S Sv rfl rfl rfl fun a S=>Dl (Fc h (S.tm rfl) (fun hb1 h=>?_) (fun hb1 h=>?_)))
   ·refine Fr (Vf GH S rfl rfl fun a S=>Vl isAgg3 0 S rfl rfl rfl rfl fun a S=>Va S rfl rfl fun a S=>Ld ?_)
    replace S:=S.n0.k1 4 rfl
    refine Tn (wp_ret (Gy (Ee (Ee (Gy (Ee (Ee ?_)))))))
    subst h
    exact Fz S results59 rfl rfl
   ·exact wp_skip (Ja (Tn (Fg (Vq S Gf rfl rfl rfl fun a S=>Vm S rfl rfl fun a S=>Dl (⟨ys1,⟨i1 + 1,⟨_,(hd1).trans (List.append_cons _ _ _),by simp [hi1]⟩,h,S.nf [false] rfl ⟨rfl,rfl,rfl,(congrArg (fun z=>some (Value.int .i64 z)) (Hy hd1 hi1 (Km Am))),trivial⟩⟩,Nat.lt_succ_self _⟩)))))
 clear S h;rintro a w2 ⟨h,S⟩;rw [hj1] at h;clear hj1 j1
 refine Tn (Fr (Vk S rfl rfl fun a S=>Dl (wp_ret ?_)))
 subst h
 exact Fz S results59 rfl rfl
theorem Zz (w : World) (Av : Int) (Bq : Int) (r : Int × Int) (h : Mz Av Bq = r) :
    Calls prog 83 [.int .u64 Av,.int .u64 Bq].toArray w (Ret w [] fun _ v _=>v = .tuple #[.int .u64 r.1,.int .u64 r.2]):=by
 refine Fe func83 rfl ntmps83 rfl fun a S=>?_
 unfold Mz at h
 replace S:=S.k2 0 1 rfl
 refine Fr (Vk S rfl rfl fun a S=>Vk S rfl rfl fun a S=>Dz (Vm S rfl rfl fun a S=>Vq S Vz rfl rfl rfl fun a S=>Va S rfl rfl ?_));clear S;intro a S
 refine Dz (Vm S rfl rfl fun a S=>lv S (Ps (S.tm rfl) rfl (by decide)) rfl fun a S=>Va S rfl rfl fun a S=>Dl (Fs (Fg ?_)))
 refine Vm S rfl rfl fun a S=>Vq S Vz rfl rfl rfl fun a S=>Va S rfl rfl fun a S=>Dz (Vm S rfl rfl fun a S=>lv S (Ps (S.tm rfl) rfl (by decide)) rfl fun a S=>Va S rfl rfl fun a S=>Ld ?_)
 replace S:=S.k6 0 1 6 7 8 9 rfl
 refine Tn (Fr (Vm S rfl rfl fun a S=>Vm S rfl rfl fun a S=>Vb S Kx rfl rfl rfl fun a S=>Va S rfl rfl fun a S=>Dl (Fs (Fg ?_))))
 refine Vm S rfl rfl fun a S=>Vm S rfl rfl fun a S=>Vb S Kx rfl rfl rfl fun a S=>Vm S rfl rfl fun a S=>lv S (Ps (S.tm rfl) rfl (by decide)) rfl fun a S=>Vb S Pr rfl rfl rfl fun a S=>Va S rfl rfl fun a S=>Ld ?_
 replace S:=S.k6 0 1 6 7 9 11 rfl
 refine Tn (Fr (Vm S rfl rfl fun a S=>Vq S Vz rfl rfl rfl fun a S=>Va S rfl rfl fun a S=>Dz (Vm S rfl rfl ?_)));clear S;intro a S
 refine lv S (Ps (S.tm rfl) rfl (by decide)) rfl fun a S=>Va S rfl rfl fun a S=>Dl (Fs (Fg ?_))
 iterate 3 (refine Vm S rfl rfl ?_;clear S;intro a S)
 refine Vb S Kx rfl rfl rfl fun a S=>Vb S Pr rfl rfl rfl fun a S=>Va S rfl rfl fun a S=>Ld ?_
 replace S:=S.k6 0 1 7 9 12 13 rfl
 refine Tn (Fr (Vm S rfl rfl fun a S=>Vm S rfl rfl fun a S=>Vb S Kx rfl rfl rfl fun a S=>Vm S rfl rfl fun a S=>Vb S Pr rfl rfl rfl fun a S=>Vm S rfl rfl fun a S=>lv S (Ps (S.tm rfl) rfl (by decide)) rfl fun a S=>Vb S Pr rfl rfl rfl ?_));clear S;intro a S
 refine Va S rfl rfl fun a S=>Ld ?_
 replace S:=S.k3 0 1 4 rfl
 refine Tn (Fr (Vm S rfl rfl fun a S=>Vm S rfl rfl fun a S=>Vb S Kx rfl rfl rfl fun a S=>Va S rfl rfl fun a S=>Dl (wp_ret ?_)))
 subst h
 exact Jx S results83 rfl rfl rfl
theorem Tg (w : World) (Av : Int) (r : Int) (h : Ov Av = some r) :
    Calls prog 100 [.int .u64 Av].toArray w (Ret w [] fun _ v _=>v = iV r):=by
 refine Fe func100 rfl ntmps100 rfl fun a S=>?_
 unfold Ov at h
 replace S:=S.k1 0 rfl
 refine Fr (Vk S rfl rfl fun a S=>Dz (Vm S rfl rfl ?_));clear S;intro a S
 obtain ⟨r1,hr1,h⟩:=Gs h
 refine Eg S (fun _=>Eb (vs:=[.int .u64 Av]) ⟨(S.tm rfl),trivial⟩ call74) (Ve _ Av _ hr1) rfl ?_;clear S;intro v1 a w1 hv1 hk1 hn1 S
 subst hv1
 refine Vu S (Iw rfl) rfl rfl fun a S=>Va S rfl rfl fun a S=>Dl (wp_ret ?_)
 obtain rfl:=Option.some.inj h
 exact Fz S results100 rfl rfl
set_option maxRecDepth 20000 in
theorem AA (w : World) (Ck : Int) (Br : Int) (Bq : Int) (r : Int × Int) (h : Vp Ck Br Bq = some r) :
    Calls prog 84 [.int .u64 Ck,.int .u64 Br,.int .u64 Bq].toArray w (Ret w [] fun _ v _=>v = .tuple #[.int .u64 r.1,.int .u64 r.2]):=by
 refine Fe func84 rfl ntmps84 rfl fun a S=>?_
 unfold Vp at h
 replace S:=S.k3 0 1 2 rfl
 refine Fr (Vk S rfl rfl fun a S=>Vk S rfl rfl fun a S=>Dl (Fs (Fr (Vm S rfl rfl fun a S=>Vq S Ko rfl rfl rfl ?_))));clear S;intro a S
 refine Dl (Fc h (S.tm rfl) (fun hb1 h=>?_) (fun hb1 h=>?_))
 ·cases h
 ·refine wp_skip (Tn (Fs (Fr (Vm S rfl rfl fun a S=>Vm S rfl rfl fun a S=>Vb S St rfl rfl rfl fun a S=>Dl (Fc h (S.tm rfl) (fun hb2 h=>?_) (fun hb2 h=>?_))))))
  ·cases h
  ·refine wp_skip (Tn (Fs (Fr (Vm S rfl rfl fun a S=>Vq S Ko rfl rfl rfl fun a S=>Dl (Fc h (S.tm rfl) (fun hb3 h=>?_) (fun hb3 h=>?_))))))
   ·refine Fs (Gz [] ([]) Tryz.mixed S rfl (by kernel_rfl) ?_);clear S;intro w1 hk1 hsel S
    refine Jy [0,1,2,3,4,5,6,7] hsel (by kernel_rfl) rfl ?_
    clear hsel
    refine Gb S rfl (Rm (S.tm rfl)) rfl fun a S=>Gb S rfl (Rm (S.tm rfl)) rfl ?_;clear S;intro a S
    obtain ⟨hc1,h⟩:=Hs h
    refine Gb S rfl (BT (S.tm rfl) (S.tm rfl) (Vi hc1)) rfl fun a S=>Gb S rfl (Rm (S.tm rfl)) rfl fun a S=>Gb S rfl (Rm (S.tm rfl)) rfl ?_;clear S;intro a S
    obtain ⟨hc2,h⟩:=Hs h
    refine Gb S rfl (rn_remk (S.tm rfl) (S.tm rfl) (Vi hc2)) rfl fun a S=>Gb S rfl (Ra (S.tm rfl)) rfl fun a S=>Gb S rfl (Ra (S.tm rfl)) rfl fun a S=>Ix ?_
    replace S:=S.k2 6 7 rfl
    refine Tn (wp_ret (Ee ?_))
    obtain rfl:=Option.some.inj h
    exact Jx S results84 rfl rfl rfl
   ·refine wp_skip (Tn (Fr (Vm S rfl rfl ?_)));clear S;intro a S
    obtain ⟨r1,hr1,h⟩:=Gs h
    refine Eg S (fun _=>Eb (vs:=[.int .u64 Bq]) ⟨(S.tm rfl),trivial⟩ call100) (Tg _ Bq _ hr1) rfl ?_;clear S;intro v1 a w2 hv1 hk2 hn1 S
    subst hv1
    refine Vu S (Pe underlying3 underlying97) rfl rfl fun a S=>Va S rfl rfl fun a S=>Ld ?_
    replace S:=S.k4 0 1 2 8 rfl
    refine Tn (Fr (Vm S rfl rfl fun a S=>Vm S rfl rfl ?_));clear S;intro a S
    obtain ⟨hc3,h⟩:=Hs h
    refine lv S (EY (S.tm rfl) (S.tm rfl) (of_decide_eq_true hc3)) rfl fun a S=>Va S rfl rfl fun a S=>Dz (Vm S rfl rfl fun a S=>lv S (Ps (S.tm rfl) rfl (by decide)) rfl fun a S=>Va S rfl rfl fun a S=>Dl ?_)
    refine Fr (Vm S rfl rfl fun a S=>Vq S Vz rfl rfl rfl fun a S=>Va S rfl rfl fun a S=>Dz (Vm S rfl rfl fun a S=>Vm S rfl rfl ?_));clear S;intro a S
    obtain ⟨hc4,h⟩:=Hs h
    refine lv S (EY (S.tm rfl) (S.tm rfl) (of_decide_eq_true hc4)) rfl fun a S=>Vm S rfl rfl fun a S=>Vm S rfl rfl fun a S=>Vu S (Su rfl) rfl rfl ?_;clear S;intro a S
    obtain ⟨hc5,h⟩:=Hs h
    refine lv S (Ps (S.tm rfl) (S.tm rfl) (of_decide_eq_true hc5)) rfl fun a S=>Vb S rn_or_ rfl rfl rfl fun a S=>Va S rfl rfl fun a S=>Ld ?_
    replace S:=S.k6 1 2 8 9 10 11 rfl
    refine Tn (Fr (Vm S rfl rfl fun a S=>Vm S rfl rfl ?_));clear S;intro a S
    obtain ⟨hc6,h⟩:=Hs h
    refine lv S (EY (S.tm rfl) (S.tm rfl) (of_decide_eq_true hc6)) rfl fun a S=>Va S rfl rfl fun a S=>Dz (Vm S rfl rfl fun a S=>lv S (Ps (S.tm rfl) rfl (by decide)) rfl fun a S=>Va S rfl rfl fun a S=>Dl ?_)
    refine Fr (Vm S rfl rfl fun a S=>Vq S Vz rfl rfl rfl fun a S=>Va S rfl rfl fun a S=>Ld ?_)
    replace S:=S.k7 2 8 9 10 11 13 14 rfl
    refine Tn (Fr (Vm S rfl rfl fun a S=>Vm S rfl rfl ?_));clear S;intro a S
    obtain ⟨hc7,h⟩:=Hs h
    refine lv S (BT (S.tm rfl) (S.tm rfl) (Vi hc7)) rfl fun a S=>Va S rfl rfl fun a S=>Dl (Fs (Fg ?_))
    iterate 3 (refine Vm S rfl rfl ?_;clear S;intro a S)
    refine Vb S Kx rfl rfl rfl fun a S=>Vb S Su rfl rfl rfl fun a S=>Va S rfl rfl fun a S=>Ld ?_
    replace S:=S.k9 2 8 9 10 11 13 14 15 16 rfl
    refine Tn (Fs ?_)
    obtain ⟨j1,hj1,h⟩:=Gh h
    refine Fv (fun a w'=>∃ x1 : Int,j1 x1 = some r ∧ Sx w [] nov [] [(2,.int .u64 (Ev .u64 Bq (IntKind.wrap .u64 r1))),(8,.int .u64 (IntKind.wrap .u64 r1)),(9,.int .u64 (Fl .u64 (Ev .u64 Bq (IntKind.wrap .u64 r1)) 32)),(10,.int .u64 (Jw .u64 (Ev .u64 Bq (IntKind.wrap .u64 r1)) 4294967295)),(11,.int .u64 (Nd .u64 (Ev .u64 Ck (IntKind.wrap .u64 r1)) (Fl .u64 Br (IntKind.wrap .u64 (64 - (IntKind.wrap .u64 r1)))))),(13,.int .u64 (Fl .u64 (Ev .u64 Br (IntKind.wrap .u64 r1)) 32)),(14,.int .u64 (Jw .u64 (Ev .u64 Br (IntKind.wrap .u64 r1)) 4294967295)),(15,.int .u64 x1)] 135 a w') ?_ ?_
    ·refine wp_block (Hr (fun (m1 : Nat) a w'=>∃ x1 : Int,∃ x2 : Int,Lo Br r1 Bq j1 m1 x1 x2 = some r ∧ Sx w [] nov [] [(2,.int .u64 (Ev .u64 Bq (IntKind.wrap .u64 r1))),(8,.int .u64 (IntKind.wrap .u64 r1)),(9,.int .u64 (Fl .u64 (Ev .u64 Bq (IntKind.wrap .u64 r1)) 32)),(10,.int .u64 (Jw .u64 (Ev .u64 Bq (IntKind.wrap .u64 r1)) 4294967295)),(11,.int .u64 (Nd .u64 (Ev .u64 Ck (IntKind.wrap .u64 r1)) (Fl .u64 Br (IntKind.wrap .u64 (64 - (IntKind.wrap .u64 r1)))))),(13,.int .u64 (Fl .u64 (Ev .u64 Br (IntKind.wrap .u64 r1)) 32)),(14,.int .u64 (Jw .u64 (Ev .u64 Br (IntKind.wrap .u64 r1)) 4294967295)),(15,.int .u64 x1),(16,.int .u64 x2)] 135 a w') id (((IntKind.wrap .u64 (Int.tdiv (Nd .u64 (Ev .u64 Ck (IntKind.wrap .u64 r1)) (Fl .u64 Br (IntKind.wrap .u64 (64 - (IntKind.wrap .u64 r1))))) (Fl .u64 (Ev .u64 Bq (IntKind.wrap .u64 r1)) 32))) - 4294967296).toNat + 2) ⟨IntKind.wrap .u64 (Int.tdiv (Nd .u64 (Ev .u64 Ck (IntKind.wrap .u64 r1)) (Fl .u64 Br (IntKind.wrap .u64 (64 - (IntKind.wrap .u64 r1))))) (Fl .u64 (Ev .u64 Bq (IntKind.wrap .u64 r1)) 32)),IntKind.wrap .u64 ((Nd .u64 (Ev .u64 Ck (IntKind.wrap .u64 r1)) (Fl .u64 Br (IntKind.wrap .u64 (64 - (IntKind.wrap .u64 r1))))) - (IntKind.wrap .u64 ((IntKind.wrap .u64 (Int.tdiv (Nd .u64 (Ev .u64 Ck (IntKind.wrap .u64 r1)) (Fl .u64 Br (IntKind.wrap .u64 (64 - (IntKind.wrap .u64 r1))))) (Fl .u64 (Ev .u64 Bq (IntKind.wrap .u64 r1)) 32))) * (Fl .u64 (Ev .u64 Bq (IntKind.wrap .u64 r1)) 32)))),h,S.nf [] rfl (subR rfl)⟩ ?_)
     clear S h;rintro m1 a w3 ⟨x1,x2,h,S⟩
     cases m1 with
     | zero=>rw [Lo.eq_1] at h;cases h
     | succ m1 =>
      rw [Lo.eq_2] at h
      refine Fs (Fr (Vm S rfl rfl fun a S=>Vq S Ns rfl rfl rfl fun a S=>Vm S rfl rfl fun a S=>Jm 9 (fun a w'=>Keep [] w3 w' ∧ Sx w [] nov [] [(2,.int .u64 (Ev .u64 Bq (IntKind.wrap .u64 r1))),(8,.int .u64 (IntKind.wrap .u64 r1)),(9,.int .u64 (Fl .u64 (Ev .u64 Bq (IntKind.wrap .u64 r1)) 32)),(10,.int .u64 (Jw .u64 (Ev .u64 Bq (IntKind.wrap .u64 r1)) 4294967295)),(11,.int .u64 (Nd .u64 (Ev .u64 Ck (IntKind.wrap .u64 r1)) (Fl .u64 Br (IntKind.wrap .u64 (64 - (IntKind.wrap .u64 r1)))))),(13,.int .u64 (Fl .u64 (Ev .u64 Br (IntKind.wrap .u64 r1)) 32)),(14,.int .u64 (Jw .u64 (Ev .u64 Br (IntKind.wrap .u64 r1)) 4294967295)),(15,.int .u64 x1),(16,.int .u64 x2),(78,bV ((decide (4294967296 ≤ x1)) || (decide ((IntKind.wrap .u64 ((IntKind.wrap .u64 (4294967296 * x2)) + (Fl .u64 (Ev .u64 Br (IntKind.wrap .u64 r1)) 32))) < (IntKind.wrap .u64 (x1 * (Jw .u64 (Ev .u64 Bq (IntKind.wrap .u64 r1)) 4294967295)))))))] 135 a w') ?_ ?_))
      ·rcases Bool.eq_false_or_eq_true (decide (4294967296 ≤ x1)) with hb4 | hb4
       ·iterate 8 (refine Ik S rfl rfl rfl (Nf hb4) rfl ?_ rfl;clear S;intro a S)
        exact lv S (Mv (decide ((IntKind.wrap .u64 ((IntKind.wrap .u64 (4294967296 * x2)) + (Fl .u64 (Ev .u64 Br (IntKind.wrap .u64 r1)) 32))) < (IntKind.wrap .u64 (x1 * (Jw .u64 (Ev .u64 Bq (IntKind.wrap .u64 r1)) 4294967295))))) hb4 (S.tm rfl) rfl) rfl fun a S=>Dl (⟨Keep.refl _ _,S.nf [] rfl (subR rfl)⟩)
       ·refine Ej S rfl rfl rfl hb4 (Vm S rfl rfl fun a S=>Ej S rfl rfl rfl hb4 (Vm S rfl rfl fun a S=>Ej S rfl rfl rfl hb4 (Vb S Kx rfl rfl rfl fun a S=>Ej S rfl rfl rfl hb4 (Vm S rfl rfl fun a S=>Ej S rfl rfl rfl hb4 (Vu S (Kx rfl) rfl rfl fun a S=>Ej S rfl rfl rfl hb4 ?_)))))
        exact Vm S rfl rfl fun a S=>Ej S rfl rfl rfl hb4 (Vb S Pr rfl rfl rfl fun a S=>Ej S rfl rfl rfl hb4 (Vb S Kp rfl rfl rfl fun a S=>lv S (Mw hb4 (S.tm rfl) (S.tm rfl)) rfl fun a S=>Dl (⟨Keep.refl _ _,S.nf [] rfl (subR rfl)⟩)))
      clear S;rintro a w5 ⟨hk3,S⟩
      refine Dl (Fc h (S.tm rfl) (fun hb5 h=>?_) (fun hb5 h=>?_))
      ·refine wp_skip (Tn (wp_block (Fr (Vm S rfl rfl fun a S=>Vq S Su rfl rfl rfl fun a S=>Va S rfl rfl fun a S=>Dl (Fs ?_)))))
       refine Fg (Vm S rfl rfl fun a S=>Vm S rfl rfl fun a S=>Vb S Pr rfl rfl rfl fun a S=>Va S rfl rfl fun a S=>Ld ?_)
       replace S:=S.k9 2 8 9 10 11 13 14 15 16 rfl
       refine Tn (Fr (Vm S rfl rfl fun a S=>Vq S Ns rfl rfl rfl fun a S=>Dl (Fc h (S.tm rfl) (fun hb6 h=>?_) (fun hb6 h=>?_))))
       ·exact wp_exit (FV rfl (Fj (Hp (Tn (⟨IntKind.wrap .u64 (x1 - 1),h,S.nf [] rfl (subR rfl)⟩)))))
       ·exact wp_skip (Ja (Tn (⟨m1,⟨IntKind.wrap .u64 (x1 - 1),IntKind.wrap .u64 (x2 + (Fl .u64 (Ev .u64 Bq (IntKind.wrap .u64 r1)) 32)),h,S.nf [] rfl ⟨rfl,rfl,rfl,rfl,rfl,rfl,rfl,rfl,rfl,trivial⟩⟩,Nat.lt_succ_self _⟩)))
      ·exact wp_exit (Fj (Fj (Hp (Tn (⟨x1,h,S.nf [] rfl (subR rfl)⟩)))))
    clear S h;rintro a w4 ⟨x1,h,S⟩;rw [hj1] at h;clear hj1 j1
    refine Tn (Fr (Vm S rfl rfl fun a S=>Vq S Kx rfl rfl rfl fun a S=>Vm S rfl rfl fun a S=>Vb S Pr rfl rfl rfl fun a S=>Vm S rfl rfl fun a S=>Vm S rfl rfl fun a S=>Vb S Kx rfl rfl rfl fun a S=>Vb S Su rfl rfl rfl ?_));clear S;intro a S
    refine Va S rfl rfl fun a S=>Ld ?_
    replace S:=S.k7 2 8 9 10 14 15 17 rfl
    refine Tn (Fr (Vm S rfl rfl fun a S=>Vm S rfl rfl ?_));clear S;intro a S
    obtain ⟨hc8,h⟩:=Hs h
    refine lv S (BT (S.tm rfl) (S.tm rfl) (Vi hc8)) rfl fun a S=>Va S rfl rfl fun a S=>Dl (Fs (Fg ?_))
    iterate 3 (refine Vm S rfl rfl ?_;clear S;intro a S)
    refine Vb S Kx rfl rfl rfl fun a S=>Vb S Su rfl rfl rfl fun a S=>Va S rfl rfl fun a S=>Ld ?_
    replace S:=S.k9 2 8 9 10 14 15 16 17 18 rfl
    refine Tn (Fs ?_)
    obtain ⟨j2,hj2,h⟩:=Gh h
    refine Fv (fun a w'=>∃ x4 : Int,j2 x4 = some r ∧ Sx w [] nov [] [(2,.int .u64 (Ev .u64 Bq (IntKind.wrap .u64 r1))),(8,.int .u64 (IntKind.wrap .u64 r1)),(14,.int .u64 (Jw .u64 (Ev .u64 Br (IntKind.wrap .u64 r1)) 4294967295)),(15,.int .u64 x1),(17,.int .u64 (IntKind.wrap .u64 ((IntKind.wrap .u64 ((IntKind.wrap .u64 ((Nd .u64 (Ev .u64 Ck (IntKind.wrap .u64 r1)) (Fl .u64 Br (IntKind.wrap .u64 (64 - (IntKind.wrap .u64 r1))))) * 4294967296)) + (Fl .u64 (Ev .u64 Br (IntKind.wrap .u64 r1)) 32))) - (IntKind.wrap .u64 (x1 * (Ev .u64 Bq (IntKind.wrap .u64 r1))))))),(18,.int .u64 x4)] 135 a w') ?_ ?_
    ·refine wp_block (Hr (fun (m2 : Nat) a w'=>∃ x3 : Int,∃ x4 : Int,Lp Br r1 Bq j2 m2 x3 x4 = some r ∧ Sx w [] nov [] [(2,.int .u64 (Ev .u64 Bq (IntKind.wrap .u64 r1))),(8,.int .u64 (IntKind.wrap .u64 r1)),(9,.int .u64 (Fl .u64 (Ev .u64 Bq (IntKind.wrap .u64 r1)) 32)),(10,.int .u64 (Jw .u64 (Ev .u64 Bq (IntKind.wrap .u64 r1)) 4294967295)),(14,.int .u64 (Jw .u64 (Ev .u64 Br (IntKind.wrap .u64 r1)) 4294967295)),(15,.int .u64 x1),(16,.int .u64 x3),(17,.int .u64 (IntKind.wrap .u64 ((IntKind.wrap .u64 ((IntKind.wrap .u64 ((Nd .u64 (Ev .u64 Ck (IntKind.wrap .u64 r1)) (Fl .u64 Br (IntKind.wrap .u64 (64 - (IntKind.wrap .u64 r1))))) * 4294967296)) + (Fl .u64 (Ev .u64 Br (IntKind.wrap .u64 r1)) 32))) - (IntKind.wrap .u64 (x1 * (Ev .u64 Bq (IntKind.wrap .u64 r1))))))),(18,.int .u64 x4)] 135 a w') id (((IntKind.wrap .u64 (Int.tdiv (IntKind.wrap .u64 ((IntKind.wrap .u64 ((IntKind.wrap .u64 ((Nd .u64 (Ev .u64 Ck (IntKind.wrap .u64 r1)) (Fl .u64 Br (IntKind.wrap .u64 (64 - (IntKind.wrap .u64 r1))))) * 4294967296)) + (Fl .u64 (Ev .u64 Br (IntKind.wrap .u64 r1)) 32))) - (IntKind.wrap .u64 (x1 * (Ev .u64 Bq (IntKind.wrap .u64 r1)))))) (Fl .u64 (Ev .u64 Bq (IntKind.wrap .u64 r1)) 32))) - 4294967296).toNat + 2) ⟨IntKind.wrap .u64 ((IntKind.wrap .u64 ((IntKind.wrap .u64 ((IntKind.wrap .u64 ((Nd .u64 (Ev .u64 Ck (IntKind.wrap .u64 r1)) (Fl .u64 Br (IntKind.wrap .u64 (64 - (IntKind.wrap .u64 r1))))) * 4294967296)) + (Fl .u64 (Ev .u64 Br (IntKind.wrap .u64 r1)) 32))) - (IntKind.wrap .u64 (x1 * (Ev .u64 Bq (IntKind.wrap .u64 r1)))))) - (IntKind.wrap .u64 ((IntKind.wrap .u64 (Int.tdiv (IntKind.wrap .u64 ((IntKind.wrap .u64 ((IntKind.wrap .u64 ((Nd .u64 (Ev .u64 Ck (IntKind.wrap .u64 r1)) (Fl .u64 Br (IntKind.wrap .u64 (64 - (IntKind.wrap .u64 r1))))) * 4294967296)) + (Fl .u64 (Ev .u64 Br (IntKind.wrap .u64 r1)) 32))) - (IntKind.wrap .u64 (x1 * (Ev .u64 Bq (IntKind.wrap .u64 r1)))))) (Fl .u64 (Ev .u64 Bq (IntKind.wrap .u64 r1)) 32))) * (Fl .u64 (Ev .u64 Bq (IntKind.wrap .u64 r1)) 32)))),IntKind.wrap .u64 (Int.tdiv (IntKind.wrap .u64 ((IntKind.wrap .u64 ((IntKind.wrap .u64 ((Nd .u64 (Ev .u64 Ck (IntKind.wrap .u64 r1)) (Fl .u64 Br (IntKind.wrap .u64 (64 - (IntKind.wrap .u64 r1))))) * 4294967296)) + (Fl .u64 (Ev .u64 Br (IntKind.wrap .u64 r1)) 32))) - (IntKind.wrap .u64 (x1 * (Ev .u64 Bq (IntKind.wrap .u64 r1)))))) (Fl .u64 (Ev .u64 Bq (IntKind.wrap .u64 r1)) 32)),h,S.nf [] rfl (subR rfl)⟩ ?_)
     clear S h;rintro m2 a w6 ⟨x3,x4,h,S⟩
     cases m2 with
     | zero=>rw [Lp.eq_1] at h;cases h
     | succ m2 =>
      rw [Lp.eq_2] at h
      refine Fs (Fr (Vm S rfl rfl fun a S=>Vq S Ns rfl rfl rfl fun a S=>Vm S rfl rfl fun a S=>Jm 9 (fun a w'=>Keep [] w6 w' ∧ Sx w [] nov [] [(2,.int .u64 (Ev .u64 Bq (IntKind.wrap .u64 r1))),(8,.int .u64 (IntKind.wrap .u64 r1)),(9,.int .u64 (Fl .u64 (Ev .u64 Bq (IntKind.wrap .u64 r1)) 32)),(10,.int .u64 (Jw .u64 (Ev .u64 Bq (IntKind.wrap .u64 r1)) 4294967295)),(14,.int .u64 (Jw .u64 (Ev .u64 Br (IntKind.wrap .u64 r1)) 4294967295)),(15,.int .u64 x1),(16,.int .u64 x3),(17,.int .u64 (IntKind.wrap .u64 ((IntKind.wrap .u64 ((IntKind.wrap .u64 ((Nd .u64 (Ev .u64 Ck (IntKind.wrap .u64 r1)) (Fl .u64 Br (IntKind.wrap .u64 (64 - (IntKind.wrap .u64 r1))))) * 4294967296)) + (Fl .u64 (Ev .u64 Br (IntKind.wrap .u64 r1)) 32))) - (IntKind.wrap .u64 (x1 * (Ev .u64 Bq (IntKind.wrap .u64 r1))))))),(18,.int .u64 x4),(113,bV ((decide (4294967296 ≤ x4)) || (decide ((IntKind.wrap .u64 ((IntKind.wrap .u64 (4294967296 * x3)) + (Jw .u64 (Ev .u64 Br (IntKind.wrap .u64 r1)) 4294967295))) < (IntKind.wrap .u64 (x4 * (Jw .u64 (Ev .u64 Bq (IntKind.wrap .u64 r1)) 4294967295)))))))] 135 a w') ?_ ?_))
      ·rcases Bool.eq_false_or_eq_true (decide (4294967296 ≤ x4)) with hb7 | hb7
       ·iterate 8 (refine Ik S rfl rfl rfl (Nf hb7) rfl ?_ rfl;clear S;intro a S)
        exact lv S (Mv (decide ((IntKind.wrap .u64 ((IntKind.wrap .u64 (4294967296 * x3)) + (Jw .u64 (Ev .u64 Br (IntKind.wrap .u64 r1)) 4294967295))) < (IntKind.wrap .u64 (x4 * (Jw .u64 (Ev .u64 Bq (IntKind.wrap .u64 r1)) 4294967295))))) hb7 (S.tm rfl) rfl) rfl fun a S=>Dl (⟨Keep.refl _ _,S.nf [] rfl (subR rfl)⟩)
       ·refine Ej S rfl rfl rfl hb7 (Vm S rfl rfl fun a S=>Ej S rfl rfl rfl hb7 (Vm S rfl rfl fun a S=>Ej S rfl rfl rfl hb7 (Vb S Kx rfl rfl rfl fun a S=>Ej S rfl rfl rfl hb7 (Vm S rfl rfl fun a S=>Ej S rfl rfl rfl hb7 (Vu S (Kx rfl) rfl rfl fun a S=>Ej S rfl rfl rfl hb7 ?_)))))
        exact Vm S rfl rfl fun a S=>Ej S rfl rfl rfl hb7 (Vb S Pr rfl rfl rfl fun a S=>Ej S rfl rfl rfl hb7 (Vb S Kp rfl rfl rfl fun a S=>lv S (Mw hb7 (S.tm rfl) (S.tm rfl)) rfl fun a S=>Dl (⟨Keep.refl _ _,S.nf [] rfl (subR rfl)⟩)))
      clear S;rintro a w8 ⟨hk4,S⟩
      refine Dl (Fc h (S.tm rfl) (fun hb8 h=>?_) (fun hb8 h=>?_))
      ·refine wp_skip (Tn (wp_block (Fr (Vm S rfl rfl fun a S=>Vq S Su rfl rfl rfl fun a S=>Va S rfl rfl fun a S=>Dl (Fs ?_)))))
       refine Fg (Vm S rfl rfl fun a S=>Vm S rfl rfl fun a S=>Vb S Pr rfl rfl rfl fun a S=>Va S rfl rfl fun a S=>Ld ?_)
       replace S:=S.k9 2 8 9 10 14 15 16 17 18 rfl
       refine Tn (Fr (Vm S rfl rfl fun a S=>Vq S Ns rfl rfl rfl fun a S=>Dl (Fc h (S.tm rfl) (fun hb9 h=>?_) (fun hb9 h=>?_))))
       ·exact wp_exit (FV rfl (Fj (Hp (Tn (⟨IntKind.wrap .u64 (x4 - 1),h,S.nf [] rfl (subR rfl)⟩)))))
       ·exact wp_skip (Ja (Tn (⟨m2,⟨IntKind.wrap .u64 (x3 + (Fl .u64 (Ev .u64 Bq (IntKind.wrap .u64 r1)) 32)),IntKind.wrap .u64 (x4 - 1),h,S.nf [] rfl ⟨rfl,rfl,rfl,rfl,rfl,rfl,rfl,rfl,rfl,trivial⟩⟩,Nat.lt_succ_self _⟩)))
      ·exact wp_exit (Fj (Fj (Hp (Tn (⟨x4,h,S.nf [] rfl (subR rfl)⟩)))))
    clear S h;rintro a w7 ⟨x4,h,S⟩;rw [hj2] at h;clear hj2 j2
    refine Tn (Fr (Vm S rfl rfl fun a S=>Vq S Kx rfl rfl rfl fun a S=>Vm S rfl rfl fun a S=>Vb S Pr rfl rfl rfl fun a S=>Vm S rfl rfl fun a S=>Vq S Kx rfl rfl rfl fun a S=>Vm S rfl rfl fun a S=>Vb S Pr rfl rfl rfl ?_));clear S;intro a S
    refine Vm S rfl rfl fun a S=>Vm S rfl rfl fun a S=>Vb S Kx rfl rfl rfl fun a S=>Vb S Su rfl rfl rfl fun a S=>Vm S rfl rfl ?_;clear S;intro a S
    obtain ⟨hc9,h⟩:=Hs h
    refine lv S (Ps (S.tm rfl) (S.tm rfl) (of_decide_eq_true hc9)) rfl fun a S=>Va S rfl rfl fun a S=>Va S rfl rfl fun a S=>Ld ?_
    replace S:=S.k2 6 7 rfl
    refine Tn (wp_ret ?_)
    obtain rfl:=Option.some.inj h
    exact Jx S results84 rfl rfl rfl
theorem Xl (w : World) (Bv : Int) (By : Int) (r : Int) (h : Sd Bv By = some r) :
    Calls prog 61 [iV Bv,iV By].toArray w (Ret w [] fun _ v _=>v = iV r):=by
 refine Fe func61 rfl ntmps61 rfl fun a S=>?_
 unfold Sd at h
 replace S:=S.k2 0 1 rfl
 refine Fr (Vk S rfl rfl fun a S=>Dz (Vm S rfl rfl fun a S=>Vu S (Pe underlying3 underlying131) rfl rfl fun a S=>Vm S rfl rfl fun a S=>Vu S (Pe underlying3 underlying131) rfl rfl ?_));clear S;intro a S
 refine Va S rfl rfl fun a S=>Va S rfl rfl fun a S=>Dz (Vm S rfl rfl fun a S=>Vm S rfl rfl fun a S=>Vb S Kx rfl rfl rfl fun a S=>Vm S rfl rfl fun a S=>Vb S Kx rfl rfl rfl ?_);clear S;intro a S
 refine Eg S (fun _=>Eb (vs:=[.int .u64 (IntKind.wrap .u64 ((IntKind.wrap .u64 ((IntKind.wrap .u64 Bv) * (IntKind.wrap .u64 Bv))) * (IntKind.wrap .u64 Bv))),.int .u64 1000]) ⟨(S.tm rfl),rfl,trivial⟩ call83) (Zz _ (IntKind.wrap .u64 ((IntKind.wrap .u64 ((IntKind.wrap .u64 Bv) * (IntKind.wrap .u64 Bv))) * (IntKind.wrap .u64 Bv))) 1000 _ rfl) rfl ?_;clear S;intro v1 a w1 hv1 hk1 hn1 S
 subst hv1
 refine Vm S rfl rfl fun a S=>Vq S Gu rfl rfl rfl fun a S=>Vq S Gu rfl rfl rfl fun a S=>Va S rfl rfl fun a S=>Va S rfl rfl fun a S=>Ld ?_
 replace S:=S.k3 6 7 8 rfl
 refine Tn (Fr (Vm S rfl rfl fun a S=>Vm S rfl rfl fun a S=>Vb S Kx rfl rfl rfl fun a S=>Vm S rfl rfl fun a S=>Vb S Kx rfl rfl rfl fun a S=>Va S rfl rfl fun a S=>Dl ?_))
 refine Fs (Fr (Vm S rfl rfl fun a S=>Vm S rfl rfl fun a S=>Vb S Ns rfl rfl rfl fun a S=>Dl (Fc h (S.tm rfl) (fun hb1 h=>?_) (fun hb1 h=>?_))))
 ·refine Fr (Vk S rfl rfl fun a S=>Dl (wp_ret (Ee ?_)))
  obtain rfl:=Option.some.inj h
  exact Fz S results61 rfl rfl
 ·refine wp_skip (Tn (Fs (Fg ?_)))
  iterate 3 (refine Vm S rfl rfl ?_;clear S;intro a S)
  obtain ⟨r1,hr1,h⟩:=Gs h
  refine Eg S (fun _=>Eb (vs:=[.int .u64 ((Mz (IntKind.wrap .u64 ((IntKind.wrap .u64 ((IntKind.wrap .u64 Bv) * (IntKind.wrap .u64 Bv))) * (IntKind.wrap .u64 Bv))) 1000).1),.int .u64 ((Mz (IntKind.wrap .u64 ((IntKind.wrap .u64 ((IntKind.wrap .u64 Bv) * (IntKind.wrap .u64 Bv))) * (IntKind.wrap .u64 Bv))) 1000).2),.int .u64 (IntKind.wrap .u64 ((IntKind.wrap .u64 ((IntKind.wrap .u64 By) * (IntKind.wrap .u64 By))) * (IntKind.wrap .u64 By)))]) ⟨(S.tm rfl),(S.tm rfl),(S.tm rfl),trivial⟩ call84) (AA _ ((Mz (IntKind.wrap .u64 ((IntKind.wrap .u64 ((IntKind.wrap .u64 Bv) * (IntKind.wrap .u64 Bv))) * (IntKind.wrap .u64 Bv))) 1000).1) ((Mz (IntKind.wrap .u64 ((IntKind.wrap .u64 ((IntKind.wrap .u64 Bv) * (IntKind.wrap .u64 Bv))) * (IntKind.wrap .u64 Bv))) 1000).2) (IntKind.wrap .u64 ((IntKind.wrap .u64 ((IntKind.wrap .u64 By) * (IntKind.wrap .u64 By))) * (IntKind.wrap .u64 By))) _ hr1) rfl ?_;clear S;intro v2 a w2 hv2 hk2 hn2 S
  subst hv2
  refine Vm S rfl rfl fun a S=>Vq S Gu rfl rfl rfl fun a S=>Vq S Gu rfl rfl rfl fun a S=>Va S rfl rfl fun a S=>Va S rfl rfl fun a S=>Ld ?_
  replace S:=S.k1 9 rfl
  refine Tn (Fr (Vm S rfl rfl fun a S=>Vq S FU rfl rfl rfl fun a S=>Vu S (Pe underlying131 underlying3) rfl rfl fun a S=>Va S rfl rfl fun a S=>Dl (wp_ret ?_)))
  obtain rfl:=Option.some.inj h
  exact Fz S results61 rfl rfl
theorem Xm (w : World) (Ad : Value) (Ao : List Mq) (Am : Slc (view w []) 2 Ad (Ao.map Mq.enc)) (Ci : ByteArray) (By : Int) (r : Int × Int) (h : Se Ao Ci By = some r) :
    Calls prog 35 [Ad,sV Ci,iV By].toArray w (Ret w [] fun _ v _=>v = .tuple #[iV r.1,iV r.2]):=by
 refine Fe func35 rfl ntmps35 rfl fun a S=>?_
 unfold Se at h
 replace S:=S.k3 0 1 2 rfl
 refine Fr (Vk S rfl rfl fun a S=>Vk S rfl rfl fun a S=>Dl (Fs (Fr (Vm S rfl rfl ?_))));clear S;intro a S
 obtain ⟨r1,hr1,h⟩:=Gs h
 refine Eg S (fun _=>Eb (vs:=[Ad]) ⟨(S.tm rfl),trivial⟩ call58) (Uw _ Ad Ao (Am.mono (S.le_arg Fk)) _ hr1) rfl ?_;clear S;intro v1 a w1 hv1 hk1 hn1 S
 subst hv1
 refine Va S rfl rfl fun a S=>Dz (Vm S rfl rfl fun a S=>Vq S Mj rfl rfl rfl fun a S=>Dl (Fc h (S.tm rfl) (fun hb1 h=>?_) (fun hb1 h=>?_)))
 ·refine Fr (Vm S rfl rfl fun a S=>Vk S rfl rfl fun a S=>Va S rfl rfl fun a S=>Dl (wp_ret (Ee ?_)))
  obtain rfl:=Option.some.inj h
  exact Jx S results35 rfl rfl rfl
 ·refine wp_skip (Tn (Fr (Vm S rfl rfl fun a S=>Vm S rfl rfl fun a S=>Eg S (fun _=>Eb (vs:=[Ad,sV Ci]) ⟨(S.tm rfl),(S.tm rfl),trivial⟩ call59) (Xk _ Ad Ao (Am.mono (S.le_arg Fk)) Ci _ rfl) rfl ?_)));clear S;intro v2 a w2 hv2 hk2 hn2 S
  subst hv2
  refine Va S rfl rfl fun a S=>Dl (Fs (Fr (Vm S rfl rfl fun a S=>Vq S Ko rfl rfl rfl fun a S=>Ld ?_)))
  replace S:=S.k3 2 9 19 rfl
  refine Tn (Fc h (S.tm rfl) (fun hb2 h=>?_) (fun hb2 h=>?_))
  ·refine Fr (Vk S rfl rfl fun a S=>Vk S rfl rfl fun a S=>Dl (wp_ret (Ee ?_)))
   obtain rfl:=Option.some.inj h
   exact Jx S results35 rfl rfl rfl
  ·refine wp_skip (Tn (Fs (Fr (Vm S rfl rfl fun a S=>Eg S (fun _=>Eb (vs:=[iV By]) ⟨(S.tm rfl),trivial⟩ call60) (Qo _ By _ rfl) rfl ?_))));clear S;intro v3 a w3 hv3 hk3 hn3 S
   subst hv3
   refine Vu S Ip rfl rfl fun a S=>Dl (Fc h (S.tm rfl) (fun hb3 h=>?_) (fun hb3 h=>?_))
   ·refine Fr (Vk S rfl rfl fun a S=>Vk S rfl rfl fun a S=>Dl (wp_ret (Ee ?_)))
    obtain rfl:=Option.some.inj h
    exact Jx S results35 rfl rfl rfl
   ·refine wp_skip (Tn (Fr (Vm S rfl rfl fun a S=>Vm S rfl rfl ?_)));clear S;intro a S
    obtain ⟨r2,hr2,h⟩:=Gs h
    refine Eg S (fun _=>Eb (vs:=[iV (Nr Ao Ci),iV By]) ⟨(S.tm rfl),(S.tm rfl),trivial⟩ call61) (Xl _ (Nr Ao Ci) By _ hr2) rfl ?_;clear S;intro v4 a w4 hv4 hk4 hn4 S
    subst hv4
    refine Va S rfl rfl fun a S=>Vk S rfl rfl fun a S=>Dl (wp_ret ?_)
    obtain rfl:=Option.some.inj h
    exact Jx S results35 rfl rfl rfl
set_option maxRecDepth 20000 in
theorem Ui (w : World) (Ad : Value) (Ao : List Pc) (Cv : List R91) (Am : Slc (view w []) 5 Ad (Cv.map R91.enc)) (Cl : Ii (Tz (view w [])) Ao Cv) (r : Int) (h : Px Ao = some r) :
    Calls prog 62 [Ad].toArray w (Ret w [] fun _ v _=>v = iV r):=by
 refine Fe func62 rfl ntmps62 rfl fun a S=>?_
 unfold Px at h
 replace S:=S.k1 0 rfl
 refine Fr (Vk S rfl rfl fun a S=>Dl (Fs (Fr (Vm S rfl rfl fun a S=>lv S (Gc AY (S.tm rfl) (Sh Am Cl)) rfl fun a S=>Vq S Kp rfl rfl rfl ?_))));clear S;intro a S
 refine Dl (Fc h (S.tm rfl) (fun hb1 h=>?_) (fun hb1 h=>?_))
 ·refine Fr (Vk S rfl rfl fun a S=>Dl (wp_ret (Ee ?_)))
  obtain rfl:=Option.some.inj h
  exact Fz S results62 rfl rfl
 ·refine wp_skip (Tn (Fs (Fr (Vm S rfl rfl fun a S=>lv S (Gc AY (S.tm rfl) (Sh Am Cl)) rfl fun a S=>lv S (Rm rfl) rfl fun a S=>Dl ?_))))
  replace S:=S.k4 0 10 11 12 rfl
  obtain ⟨j1,hj1,h⟩:=Gh h
  refine Fv (fun a w'=>j1 = some r ∧ Sx w [] nov [] [] 87 a w') ?_ ?_
  ·refine wp_block (Hr (fun (ys1 : List Pc) a w'=>∃ i1 : Nat,(∃ dn,Ao = dn ++ ys1 ∧ dn.length = i1) ∧ Ir Ao j1 ys1 i1 = some r ∧ Sx w [] nov [] [(0,Ad),(10,Ad),(11,iV (Ao.length : Int)),(12,iV (i1 : Int))] 87 a w') List.length Ao ⟨0,⟨[],rfl,rfl⟩,h,S.nf [] rfl (subR rfl)⟩ ?_)
   clear S h;rintro ys1 a w1 ⟨i1,⟨dn,hd1,hi1⟩,h,S⟩
   cases ys1 with
   | nil =>
    rw [Ir.eq_1] at h
    refine Fr (Vb S Fu rfl rfl rfl fun a S=>Ld ?_)
    replace S:=S.k5 0 10 11 12 13 rfl
    exact Tn (Fs (wp_cond_false ((S.tm rfl).trans (congrArg Value.bool (Jd hd1 hi1))) (wp_exit (Fj (Fj (Hp (Tn (⟨h,S.nf [] rfl trivial⟩))))))))
   | cons y1 ys1 =>
    rw [Ir.eq_2] at h
    refine Fr (Vb S Fu rfl rfl rfl fun a S=>Ld ?_)
    replace S:=S.k5 0 10 11 12 13 rfl
    refine Tn (Fs (wp_cond_true ((S.tm rfl).trans (congrArg Value.bool (Hx hd1 hi1))) (wp_skip (Tn (Fs (wp_block (Fr (Vm S rfl rfl ?_))))))));clear S;intro a S
    obtain ⟨r1,hg1,hl1⟩:=Ii.at Cl (Il hd1 hi1)
    obtain ⟨u1,rfl,hs1⟩:=hl1
    obtain ⟨b1,o1,hm1,hr1⟩:=Fo (a:=a) (x:=.tmp 10) (y:=.tmp 12) (ty:=0) AY Am hg1 rfl (S.tm rfl) (S.tm rfl)
    refine lv S (hr1 _) rfl ?_;clear S;intro a S
    clear hr1
    refine lv S (Ie isAgg91 sizeOf91 (off:=o1) (o:=0) (part:=[sV y1.Key,sV y1.Race,u1.val,iV y1.Young,iV y1.Old]) rfl rfl (S.tm rfl) (hm1.at S.emb0)) rfl fun a S=>Nw S zeroValue91 (cs:=[sV Eo,sV Eo,.slice none 0 0,iV 0,iV 0]) rfl rfl ?_;clear S;intro a w3 b2 hz1 hk1 S
    refine Va S rfl rfl fun a S=>Kq S (S.tm rfl) (S.tm rfl) (i:=0) (off:=0) rfl sizeOf91 (vs:=[sV y1.Key,sV y1.Race,u1.val,iV y1.Young,iV y1.Old]) rfl rfl rfl (Ya rfl (Ya rfl (Ya (Ei.one (Dy hs1)) (Ya rfl (Ya rfl rfl))))) ?_;clear S;intro w4 hk2 S
    refine Dl (Fs (wp_block (Fr (Vf Yn S rfl rfl fun a S=>Vl isAgg9 0 S rfl rfl rfl rfl ?_))));clear S;intro a S
    obtain ⟨r2,hr2,h⟩:=Gs h
    refine Eg S (fun _=>Eb (vs:=[sV y1.Key]) ⟨(S.tm rfl),trivial⟩ call40) (Jt _ y1.Key _ hr2) rfl ?_;clear S;intro v1 a w5 hv1 hk3 hn1 S
    subst hv1
    refine Vu S Ip rfl rfl fun a S=>Vm S rfl rfl ?_;clear S;intro a S
    obtain ⟨j2,hj2,h⟩:=Gh h
    refine Jm 5 (fun a w'=>∃ c1,j2 c1 = some r ∧ Keep [] w5 w' ∧ Sx w [] nov [.blk b2 [sV y1.Key,sV y1.Race,u1.val,iV y1.Young,iV y1.Old] 91] [(0,Ad),(3,iV (i1 : Int)),(4,.pointer (some ⟨b2,0,none⟩)),(10,Ad),(11,iV (Ao.length : Int)),(12,iV (i1 : Int)),(27,bV c1)] 87 a w') ?_ ?_
    ·rcases Bool.eq_false_or_eq_true (!r2) with hb2 | hb2
     ·replace h:=Qr h hb2
      iterate 4 (refine Ik S rfl rfl rfl (Nf hb2) rfl ?_ rfl;clear S;intro a S)
      exact Vq S (Mv true hb2) rfl rfl rfl fun a S=>Dl (⟨_,h,Keep.refl _ _,S.nf [true] rfl (subR rfl)⟩)
     ·replace h:=Qs h hb2
      refine Ej S rfl rfl rfl hb2 (Vf GI S rfl rfl fun a S=>Ej S rfl rfl rfl hb2 (Vl isAgg9 0 S rfl rfl rfl rfl fun a S=>Ej S rfl rfl rfl hb2 ?_))
      obtain ⟨r3,hr3,h⟩:=Gs h
      refine Eg S (fun _=>Eb (vs:=[sV y1.Race]) ⟨(S.tm rfl),trivial⟩ call40) (Jt _ y1.Race _ hr3) rfl ?_;clear S;intro v2 a w7 hv2 hk4 hn2 S
      subst hv2
      exact Ej S rfl rfl rfl hb2 (Vu S Ip rfl rfl fun a S=>lv S (Mw hb2 (S.tm rfl) (S.tm rfl)) rfl fun a S=>Dl (⟨_,h,hk4,S.nf [true] rfl (subR rfl)⟩))
    clear S h;rintro a w6 ⟨c1,h,hk5,S⟩;rw [hj2] at h;clear hj2 j2
    refine Va S rfl rfl fun a S=>Dl (Fc h (S.tm rfl) (fun hb3 h=>?_) (fun hb3 h=>?_))
    ·refine Fr (Vk S rfl rfl fun a S=>Dl (wp_ret (Gy (Ee (Gy (Ee (Ee ?_)))))))
     refine Gy (Ee (Ee ?_))
     obtain rfl:=Option.some.inj h
     exact Fz S results62 rfl rfl
    ·refine Fs (Gz [] ([]) Tryz.mixed S rfl (by kernel_rfl) ?_);clear S;intro w8 hk6 hsel S
     refine Jy [0,1,2,3,4,5,6,7,8,9,10,11,12,13] hsel (by kernel_rfl) rfl ?_
     clear hsel
     refine Gb S rfl (Rm (S.tm rfl)) rfl fun a S=>Gb S rfl (Kp (S.tm rfl) rfl) rfl fun a S=>Gb S rfl (Rm (S.tm rfl)) rfl ?_;clear S;intro a S
     obtain ⟨j3,hj3,h⟩:=Gh h
     refine CG 10 (fun a w'=>∃ c2,j3 c2 = some r ∧ Keep [] w8 w' ∧ Sx w [] nov [.blk b2 [sV y1.Key,sV y1.Race,u1.val,iV y1.Young,iV y1.Old] 91] [(0,Ad),(4,.pointer (some ⟨b2,0,none⟩)),(10,Ad),(11,iV (Ao.length : Int)),(12,iV (i1 : Int)),(41,bV c2)] 87 a w') ?_ ?_
     ·rcases Bool.eq_false_or_eq_true (decide (0 < (i1 : Int))) with hb4 | hb4
      ·replace h:=Qr h hb4
       refine Ig S rfl rfl rfl rfl hb4 (Jq S (Gi Yn (S.tm rfl)) rfl fun a S=>Ig S rfl rfl rfl rfl hb4 (Jq S (Ky isAgg9 (S.tm rfl) (S.cell (i:=0) rfl rfl)) rfl fun a S=>Ig S rfl rfl rfl rfl hb4 (Jq S (Rm (S.tm rfl)) rfl fun a S=>Ig S rfl rfl rfl rfl hb4 (Jq S (Rm (S.tm rfl)) rfl fun a S=>Ig S rfl rfl rfl rfl hb4 (Jq S (Iw (S.tm rfl) rfl) rfl fun a S=>Ig S rfl rfl rfl rfl hb4 ?_)))))
       obtain ⟨hc1,h⟩:=Hs h
       obtain ⟨r4,hg2,hl2⟩:=IS Cl hc1
       obtain ⟨u2,rfl,hs2⟩:=hl2
       obtain ⟨b3,o2,hm2,hr4⟩:=Fo (a:=a) (x:=.tmp 34) (y:=.tmp 36) (ty:=0) AY Am hg2 (Ef hc1).2 (S.tm rfl) (S.tm rfl)
       refine Jq S (hr4 _) rfl ?_;clear S;intro a S
       clear hr4
       exact Ig S rfl rfl rfl rfl hb4 (Jq S (Gi Yn (S.tm rfl)) rfl fun a S=>Ig S rfl rfl rfl rfl hb4 (Jq S (Ha isAgg9 (off:=o2) (o:=0) (S.tm rfl) (hm2.at S.emb0) rfl) rfl fun a S=>Ig S rfl rfl rfl rfl hb4 (Jq S (BU (S.tm rfl) (S.tm rfl)) rfl fun a S=>Gb S rfl (Jk hb4 (S.tm rfl) (S.tm rfl)) rfl fun a S=>Ix (⟨_,h,Keep.refl _ _,S.nf [true] rfl (subR rfl)⟩))))
      ·replace h:=Qs h hb4
       iterate 9 (refine Rb S rfl rfl rfl rfl (Lg hb4) rfl ?_ rfl;clear S;intro a S)
       exact Gb S rfl (Jl true hb4 (S.tm rfl) rfl) rfl fun a S=>Ix (⟨_,h,Keep.refl _ _,S.nf [true] rfl (subR rfl)⟩)
     clear S h;rintro a w9 ⟨c2,h,hk7,S⟩;rw [hj3] at h;clear hj3 j3
     refine Gb S rfl (Ra (S.tm rfl)) rfl fun a S=>Ix ?_
     replace S:=(S.nl [.blk b2 [sV y1.Key,sV y1.Race,u1.val,iV y1.Young,iV y1.Old] 91] [true] rfl).k6 0 4 10 11 12 28 rfl
     refine Tn (Fc h (S.tm rfl) (fun hb5 h=>?_) (fun hb5 h=>?_))
     ·refine Fr (Vk S rfl rfl fun a S=>Dl (wp_ret (Gy (Ee (Gy (Ee (Ee ?_)))))))
      refine Gy (Ee (Ee ?_))
      obtain rfl:=Option.some.inj h
      exact Fz S results62 rfl rfl
     ·refine Fr (Vf Wo S rfl rfl fun a S=>Vl isAgg31 0 S rfl rfl rfl rfl fun a S=>lv S (Gc Pn (S.tm rfl) (Dy hs1)) rfl fun a S=>Vq S Kp rfl rfl rfl fun a S=>Va S rfl rfl fun a S=>Dl (Fc h (S.tm rfl) (fun hb6 h=>?_) (fun hb6 h=>?_)))
      ·refine Fr (Vk S rfl rfl fun a S=>Dl (wp_ret (Gy (Ee (Gy (Ee (Ee ?_)))))))
       refine Gy (Ee (Ee ?_))
       obtain rfl:=Option.some.inj h
       exact Fz S results62 rfl rfl
      ·refine wp_skip (Ja (Tn (Fs (Fr (Vf Wo S rfl rfl fun a S=>Vl isAgg31 0 S rfl rfl rfl rfl fun a S=>lv S (Gc Pn (S.tm rfl) (Dy hs1)) rfl fun a S=>lv S (Rm rfl) rfl fun a S=>Ld ?_)))))
       replace S:=S.k8 0 4 10 11 12 48 49 50 rfl
       refine Tn ?_
       obtain ⟨j4,hj4,h⟩:=Gh h
       refine Fv (fun a w'=>j4 = some r ∧ Sx w [] nov [.blk b2 [sV y1.Key,sV y1.Race,u1.val,iV y1.Young,iV y1.Old] 91] [(0,Ad),(4,.pointer (some ⟨b2,0,none⟩)),(10,Ad),(11,iV (Ao.length : Int)),(12,iV (i1 : Int))] 87 a w') ?_ ?_
       ·refine wp_block (Hr (fun (ys2 : List ByteArray) a w'=>∃ i2 : Nat,(∃ dn,y1.Clubs = dn ++ ys2 ∧ dn.length = i2) ∧ Iq y1 j4 ys2 i2 = some r ∧ Sx w [] nov [.blk b2 [sV y1.Key,sV y1.Race,u1.val,iV y1.Young,iV y1.Old] 91] [(0,Ad),(4,.pointer (some ⟨b2,0,none⟩)),(10,Ad),(11,iV (Ao.length : Int)),(12,iV (i1 : Int)),(48,u1.val),(49,iV (y1.Clubs.length : Int)),(50,iV (i2 : Int))] 87 a w') List.length y1.Clubs ⟨0,⟨[],rfl,rfl⟩,h,S.nf [true] rfl (subR rfl)⟩ ?_)
        clear S h;rintro ys2 a w10 ⟨i2,⟨dn,hd2,hi2⟩,h,S⟩
        cases ys2 with
        | nil =>
         rw [Iq.eq_1] at h
         refine Fr (Vb S Fu rfl rfl rfl fun a S=>Ld ?_)
         replace S:=S.k9 0 4 10 11 12 48 49 50 51 rfl
         exact Tn (Fs (wp_cond_false ((S.tm rfl).trans (congrArg Value.bool (Jd hd2 hi2))) (wp_exit (Fj (Fj (Hp (Tn (⟨h,S.nf [true] rfl (subR rfl)⟩))))))))
        | cons y2 ys2 =>
         rw [Iq.eq_2] at h
         refine Fr (Vb S Fu rfl rfl rfl fun a S=>Ld ?_)
         replace S:=S.k9 0 4 10 11 12 48 49 50 51 rfl
         refine Tn (Fs (wp_cond_true ((S.tm rfl).trans (congrArg Value.bool (Hx hd2 hi2))) (wp_skip (Tn (Fs (wp_block (Fr (Vm S rfl rfl ?_))))))));clear S;intro a S
         obtain ⟨b4,o3,hm3,hr5⟩:=Fo (a:=a) (x:=.tmp 48) (y:=.tmp 50) (ty:=0) Pn hs1 (Il hd2 hi2) rfl (S.tm rfl) (S.tm rfl)
         refine lv S (hr5 _) rfl ?_;clear S;intro a S
         clear hr5
         refine lv S (Ha isAgg9 (off:=o3) (o:=0) (S.tm rfl) (hm3.at S.emb0) rfl) rfl fun a S=>Va S rfl rfl fun a S=>Va S rfl rfl fun a S=>Dl (Fs (Fr (Vm S rfl rfl ?_)));clear S;intro a S
         obtain ⟨r5,hr6,h⟩:=Gs h
         refine Eg S (fun _=>Eb (vs:=[sV y2]) ⟨(S.tm rfl),trivial⟩ call40) (Jt _ y2 _ hr6) rfl ?_;clear S;intro v3 a w12 hv3 hk8 hn3 S
         subst hv3
         refine Vu S Ip rfl rfl fun a S=>Ld ?_
         replace S:=S.k11 0 4 5 6 10 11 12 48 49 50 57 rfl
         refine Tn (Fc h (S.tm rfl) (fun hb7 h=>?_) (fun hb7 h=>?_))
         ·refine Fr (Vk S rfl rfl fun a S=>Dl (wp_ret (Ee (Gy (Ee (Ee (Gy ?_)))))))
          refine Ee (Ee (Gy (Ee (Ee (Gy (Ee (Ee ?_)))))))
          obtain rfl:=Option.some.inj h
          exact Fz S results62 rfl rfl
         ·refine wp_skip (Tn (Fr (Vm S rfl rfl fun a S=>Vq S Kp rfl rfl rfl fun a S=>Vm S rfl rfl ?_)));clear S;intro a S
          obtain ⟨j5,hj5,h⟩:=Gh h
          refine Jm 9 (fun a w'=>∃ c3,j5 c3 = some r ∧ Keep [] w12 w' ∧ Sx w [] nov [.blk b2 [sV y1.Key,sV y1.Race,u1.val,iV y1.Young,iV y1.Old] 91] [(0,Ad),(4,.pointer (some ⟨b2,0,none⟩)),(10,Ad),(11,iV (Ao.length : Int)),(12,iV (i1 : Int)),(48,u1.val),(49,iV (y1.Clubs.length : Int)),(50,iV (i2 : Int)),(69,bV c3)] 87 a w') ?_ ?_
          ·rcases Bool.eq_false_or_eq_true (decide (0 < (i2 : Int))) with hb8 | hb8
           ·replace h:=Qr h hb8
            refine Ej S rfl rfl rfl hb8 (Vm S rfl rfl fun a S=>Ej S rfl rfl rfl hb8 (Vf Wo S rfl rfl fun a S=>Ej S rfl rfl rfl hb8 (Vl isAgg31 0 S rfl rfl rfl rfl fun a S=>Ej S rfl rfl rfl hb8 (Vm S rfl rfl fun a S=>Ej S rfl rfl rfl hb8 (Vq S Iw rfl rfl rfl fun a S=>Ej S rfl rfl rfl hb8 ?_)))))
            obtain ⟨hc2,h⟩:=Hs h
            obtain ⟨b5,o4,hm4,hr7⟩:=Fo (a:=a) (x:=.tmp 63) (y:=.tmp 65) (ty:=0) Pn hs1 (Ef hc2).1 (Ef hc2).2 (S.tm rfl) (S.tm rfl)
            refine lv S (hr7 _) rfl ?_;clear S;intro a S
            clear hr7
            exact Ej S rfl rfl rfl hb8 (lv S (Ha isAgg9 (off:=o4) (o:=0) (S.tm rfl) (hm4.at S.emb0) rfl) rfl fun a S=>Ej S rfl rfl rfl hb8 (Vb S BU rfl rfl rfl fun a S=>lv S (Jk hb8 (S.tm rfl) (S.tm rfl)) rfl fun a S=>Dl (⟨_,h,Keep.refl _ _,S.nf [true] rfl (subR rfl)⟩)))
           ·replace h:=Qs h hb8
            iterate 8 (refine Ik S rfl rfl rfl (Lg hb8) rfl ?_ rfl;clear S;intro a S)
            exact Vq S (Jl true hb8) rfl rfl rfl fun a S=>Dl (⟨_,h,Keep.refl _ _,S.nf [true] rfl (subR rfl)⟩)
          clear S h;rintro a w13 ⟨c3,h,hk9,S⟩;rw [hj5] at h;clear hj5 j5
          refine Dl (Fc h (S.tm rfl) (fun hb9 h=>?_) (fun hb9 h=>?_))
          ·refine Fr (Vk S rfl rfl fun a S=>Dl (wp_ret (Gy (Ee (Ee (Gy (Ee ?_)))))))
           refine Ee (Gy (Ee (Ee (Gy (Ee (Ee ?_))))))
           obtain rfl:=Option.some.inj h
           exact Fz S results62 rfl rfl
          ·exact wp_skip (Ja (Tn (Fg (Vq S Gf rfl rfl rfl fun a S=>Vm S rfl rfl fun a S=>Dl (⟨ys2,⟨i2 + 1,⟨_,(hd2).trans (List.append_cons _ _ _),by simp [hi2]⟩,h,S.nf [true] rfl ⟨rfl,rfl,rfl,rfl,rfl,rfl,rfl,(congrArg (fun z=>some (Value.int .i64 z)) (Hy hd2 hi2 (Km hs1))),trivial⟩⟩,Nat.lt_succ_self _⟩)))))
       clear S h;rintro a w11 ⟨h,S⟩;rw [hj4] at h;clear hj4 j4
       refine Tn (Fr (Vf CR S rfl rfl fun a S=>Vl isAgg3 0 S rfl rfl rfl rfl fun a S=>Vq S Fu rfl rfl rfl fun a S=>Vm S rfl rfl fun a S=>Jm 6 (fun a w'=>Keep [] w11 w' ∧ Sx w [] nov [.blk b2 [sV y1.Key,sV y1.Race,u1.val,iV y1.Young,iV y1.Old] 91] [(0,Ad),(4,.pointer (some ⟨b2,0,none⟩)),(10,Ad),(11,iV (Ao.length : Int)),(12,iV (i1 : Int)),(80,bV ((decide (y1.Young < 0)) || (decide (y1.Old < y1.Young))))] 87 a w') ?_ ?_))
       ·rcases Bool.eq_false_or_eq_true (decide (y1.Young < 0)) with hb10 | hb10
        ·iterate 5 (refine Ik S rfl rfl rfl (Nf hb10) rfl ?_ rfl;clear S;intro a S)
         exact lv S (Mv (decide (y1.Old < y1.Young)) hb10 (S.tm rfl) rfl) rfl fun a S=>Dl (⟨Keep.refl _ _,S.nf [true] rfl (subR rfl)⟩)
        ·refine Ej S rfl rfl rfl hb10 (Vf CR S rfl rfl fun a S=>Ej S rfl rfl rfl hb10 (Vl isAgg3 0 S rfl rfl rfl rfl fun a S=>Ej S rfl rfl rfl hb10 (Vf CS S rfl rfl fun a S=>Ej S rfl rfl rfl hb10 (Vl isAgg3 0 S rfl rfl rfl rfl fun a S=>Ej S rfl rfl rfl hb10 (Vb S Kp rfl rfl rfl fun a S=>lv S (Mw hb10 (S.tm rfl) (S.tm rfl)) rfl ?_)))));clear S;intro a S
         exact Dl (⟨Keep.refl _ _,S.nf [true] rfl (subR rfl)⟩)
       clear S;rintro a w14 ⟨hk10,S⟩
       refine Vm S rfl rfl fun a S=>Jm 4 (fun a w'=>Keep [] w14 w' ∧ Sx w [] nov [.blk b2 [sV y1.Key,sV y1.Race,u1.val,iV y1.Young,iV y1.Old] 91] [(0,Ad),(10,Ad),(11,iV (Ao.length : Int)),(12,iV (i1 : Int)),(85,bV (((decide (y1.Young < 0)) || (decide (y1.Old < y1.Young))) || (decide (150 < y1.Old))))] 87 a w') ?_ ?_
       ·rcases Bool.eq_false_or_eq_true ((decide (y1.Young < 0)) || (decide (y1.Old < y1.Young))) with hb11 | hb11
        ·iterate 3 (refine Ik S rfl rfl rfl (Nf hb11) rfl ?_ rfl;clear S;intro a S)
         exact lv S (Mv (decide (150 < y1.Old)) hb11 (S.tm rfl) rfl) rfl fun a S=>Dl (⟨Keep.refl _ _,S.nf [true] rfl (subR rfl)⟩)
        ·exact Ej S rfl rfl rfl hb11 (Vf CS S rfl rfl fun a S=>Ej S rfl rfl rfl hb11 (Vl isAgg3 0 S rfl rfl rfl rfl fun a S=>Ej S rfl rfl rfl hb11 (Vq S Kp rfl rfl rfl fun a S=>lv S (Mw hb11 (S.tm rfl) (S.tm rfl)) rfl fun a S=>Dl (⟨Keep.refl _ _,S.nf [true] rfl (subR rfl)⟩))))
       clear S;rintro a w15 ⟨hk11,S⟩
       refine Dl (Fc h (S.tm rfl) (fun hb12 h=>?_) (fun hb12 h=>?_))
       ·refine Fr (Vk S rfl rfl fun a S=>Dl (wp_ret (Gy (Ee (Ee (Gy (Ee ?_)))))))
        refine Ee ?_
        obtain rfl:=Option.some.inj h
        exact Fz S results62 rfl rfl
       ·exact wp_skip (Ja (Tn (Fg (Vq S Gf rfl rfl rfl fun a S=>Vm S rfl rfl fun a S=>Dl (⟨ys1,⟨i1 + 1,⟨_,(hd1).trans (List.append_cons _ _ _),by simp [hi1]⟩,h,S.nf [false] rfl ⟨rfl,rfl,rfl,(congrArg (fun z=>some (Value.int .i64 z)) (Hy hd1 hi1 (Tt Am Cl))),trivial⟩⟩,Nat.lt_succ_self _⟩)))))
  clear S h;rintro a w2 ⟨h,S⟩;rw [hj1] at h;clear hj1 j1
  refine Tn (Fr (Vk S rfl rfl fun a S=>Dl (wp_ret ?_)))
  obtain rfl:=Option.some.inj h
  exact Fz S results62 rfl rfl
theorem Ux (w : World) (Av : Hz) (r : Int) (h : Ql Av = some r) :
    Calls prog 85 [.agg (Hz.enc Av).toArray].toArray w (Ret w [] fun _ v _=>v = iV r):=by
 refine Fe func85 rfl ntmps85 rfl fun a S=>?_
 unfold Ql at h
 replace S:=S.k1 0 rfl
 refine Fr (Ox S (S.tm rfl) (cs:=(Hz.enc Av)) rfl rfl ?_);clear S;intro a w1 b1 hz1 hk1 S
 refine Vk S rfl rfl fun a S=>Dl (Fs ?_)
 obtain ⟨j1,hj1,h⟩:=Gh h
 refine Fv (fun a w'=>j1 = some r ∧ Sx w [] nov [] [] 64 a w') ?_ ?_
 ·refine wp_block (Fr (Vf GJ S rfl rfl fun a S=>Vl isAgg3 0 S rfl rfl rfl rfl fun a S=>Eg S (fun _=>Eb (vs:=[iV Av.At]) ⟨(S.tm rfl),trivial⟩ call79) (Sa _ Av.At _ rfl) rfl ?_));clear S;intro v1 a w3 hv1 hk2 hn1 S
  subst hv1
  refine Vu S Ip rfl rfl fun a S=>Va S rfl rfl fun a S=>Dl (Fc h (S.tm rfl) (fun hb1 h=>?_) (fun hb1 h=>?_))
  ·refine Fr (Vk S rfl rfl fun a S=>Dl (wp_ret (Gy (Ee (Ee ?_)))))
   obtain rfl:=Option.some.inj h
   exact Fz S results85 rfl rfl
  ·refine Fr (Vf Yo S rfl rfl fun a S=>Vl isAgg3 0 S rfl rfl rfl rfl fun a S=>Eg S (fun _=>Eb (vs:=[iV Av.Kind,iV 1,iV 3]) ⟨(S.tm rfl),rfl,rfl,trivial⟩ call20) (Gq _ Av.Kind 1 3 _ rfl) rfl ?_);clear S;intro v2 a w4 hv2 hk3 hn2 S
   subst hv2
   refine Vu S Ip rfl rfl fun a S=>Va S rfl rfl fun a S=>Dl (Fc h (S.tm rfl) (fun hb2 h=>?_) (fun hb2 h=>?_))
   ·refine Fr (Vk S rfl rfl fun a S=>Dl (wp_ret (Gy (Ee (Ee ?_)))))
    obtain rfl:=Option.some.inj h
    exact Fz S results85 rfl rfl
   ·refine Fr (Vf GK S rfl rfl fun a S=>Vl isAgg9 0 S rfl rfl rfl rfl ?_);clear S;intro a S
    obtain ⟨r1,hr1,h⟩:=Gs h
    refine Eg S (fun _=>Eb (vs:=[sV Av.Id]) ⟨(S.tm rfl),trivial⟩ call40) (Jt _ Av.Id _ hr1) rfl ?_;clear S;intro v3 a w5 hv3 hk4 hn3 S
    subst hv3
    refine Vu S Ip rfl rfl fun a S=>Va S rfl rfl fun a S=>Ld ?_
    replace S:=(S.nl [.blk b1 (Hz.enc Av) 94] [true] rfl).k2 1 13 rfl
    refine Tn (Fc h (S.tm rfl) (fun hb3 h=>?_) (fun hb3 h=>?_))
    ·refine Fr (Vk S rfl rfl fun a S=>Dl (wp_ret (Gy (Ee (Ee ?_)))))
     obtain rfl:=Option.some.inj h
     exact Fz S results85 rfl rfl
    ·refine Fr (Vf Yo S rfl rfl fun a S=>Vl isAgg3 0 S rfl rfl rfl rfl fun a S=>Vq S Mj rfl rfl rfl fun a S=>Va S rfl rfl fun a S=>Dl ?_)
     obtain ⟨j2,hj2,h⟩:=Gh h
     refine Fv (fun a w'=>j2 = some r ∧ Sx w [] nov [] [] 64 a w') ?_ ?_
     ·refine Fc h (S.tm rfl) (fun hb4 h=>?_) (fun hb4 h=>?_)
      ·refine Fr (lv S (Ie isAgg94 sizeOf94 (off:=0) (o:=0) (part:=(Hz.enc Av)) rfl rfl (S.tm rfl) (S.cellsAt (i:=0) rfl)) rfl fun a S=>Vf GJ S rfl rfl fun a S=>Vl isAgg3 0 S rfl rfl rfl rfl fun a S=>Vf Yo S rfl rfl fun a S=>Vl isAgg3 0 S rfl rfl rfl rfl fun a S=>Vf GK S rfl rfl fun a S=>Vl isAgg9 0 S rfl rfl rfl rfl fun a S=>lv S (Pk bt_94 (pv:=[(0,iV Av.At),(1,iV Av.Kind),(2,sV Av.Id)]) ⟨rfl,(S.tm rfl),rfl,(S.tm rfl),rfl,(S.tm rfl),trivial⟩ (cs:=[iV Av.At,iV Av.Kind,sV Av.Id,sV Eo,sV Eo,sV Eo,iV 0,iV 0]) (by kernel_rfl)) rfl fun a S=>lv S (HU (m:=Av) (n:=(Hz.mk Av.At Av.Kind Av.Id Eo Eo Eo 0 0)) (S.tm rfl) (S.tm rfl)) rfl ?_);clear S;intro a S
       refine Ld ?_
       replace S:=S.n0.k1 30 rfl
       refine Tn (Fc h (S.tm rfl) (fun hb5 h=>?_) (fun hb5 h=>?_))
       ·refine Fr (Vk S rfl rfl fun a S=>Dl (wp_ret (Ee (Gy (Ee (Ee ?_))))))
        obtain rfl:=Option.some.inj h
        exact Fz S results85 rfl rfl
       ·exact wp_skip (Tn (⟨h,S.nf [] rfl trivial⟩))
      ·refine Fr (Vf fa_94_3 S rfl rfl fun a S=>Vl isAgg9 0 S rfl rfl rfl rfl ?_);clear S;intro a S
       obtain ⟨r2,hr2,h⟩:=Gs h
       refine Eg S (fun _=>Eb (vs:=[sV Av.Who]) ⟨(S.tm rfl),trivial⟩ call40) (Jt _ Av.Who _ hr2) rfl ?_;clear S;intro v4 a w7 hv4 hk5 hn4 S
       subst hv4
       refine Vu S Ip rfl rfl fun a S=>Vm S rfl rfl ?_;clear S;intro a S
       obtain ⟨j3,hj3,h⟩:=Gh h
       refine Jm 5 (fun a w'=>∃ c1,j3 c1 = some r ∧ Keep [] w7 w' ∧ Sx w [] nov [.blk b1 (Hz.enc Av) 94] [(1,.pointer (some ⟨b1,0,none⟩)),(41,bV c1)] 64 a w') ?_ ?_
       ·rcases Bool.eq_false_or_eq_true (!r2) with hb6 | hb6
        ·replace h:=Qr h hb6
         iterate 4 (refine Ik S rfl rfl rfl (Nf hb6) rfl ?_ rfl;clear S;intro a S)
         exact Vq S (Mv true hb6) rfl rfl rfl fun a S=>Dl (⟨_,h,Keep.refl _ _,S.nf [true] rfl (subR rfl)⟩)
        ·replace h:=Qs h hb6
         refine Ej S rfl rfl rfl hb6 (Vf GL S rfl rfl fun a S=>Ej S rfl rfl rfl hb6 (Vl isAgg9 0 S rfl rfl rfl rfl fun a S=>Ej S rfl rfl rfl hb6 ?_))
         obtain ⟨r3,hr3,h⟩:=Gs h
         refine Eg S (fun _=>Eb (vs:=[sV Av.Race]) ⟨(S.tm rfl),trivial⟩ call40) (Jt _ Av.Race _ hr3) rfl ?_;clear S;intro v5 a w9 hv5 hk6 hn5 S
         subst hv5
         exact Ej S rfl rfl rfl hb6 (Vu S Ip rfl rfl fun a S=>lv S (Mw hb6 (S.tm rfl) (S.tm rfl)) rfl fun a S=>Dl (⟨_,h,hk6,S.nf [true] rfl (subR rfl)⟩))
       clear S h;rintro a w8 ⟨c1,h,hk7,S⟩;rw [hj3] at h;clear hj3 j3
       refine Vm S rfl rfl ?_;clear S;intro a S
       obtain ⟨j4,hj4,h⟩:=Gh h
       refine Jm 10 (fun a w'=>∃ c2,j4 c2 = some r ∧ Keep [] w8 w' ∧ Sx w [] nov [.blk b1 (Hz.enc Av) 94] [(1,.pointer (some ⟨b1,0,none⟩)),(52,bV c2)] 64 a w') ?_ ?_
       ·rcases Bool.eq_false_or_eq_true c1 with hb7 | hb7
        ·replace h:=Qr h hb7
         iterate 4 (refine Ik S rfl rfl rfl (Nf hb7) rfl ?_ rfl;clear S;intro a S)
         iterate 4 (refine CC S rfl rfl rfl rfl ?_;clear S;intro a S)
         exact Ik S rfl rfl rfl (Nf hb7) rfl (fun a S=>Vq S (Mv true hb7) rfl rfl rfl fun a S=>Dl (⟨_,h,Keep.refl _ _,S.nf [true] rfl (subR rfl)⟩)) rfl
        ·replace h:=Qs h hb7
         refine Ej S rfl rfl rfl hb7 (Vf CT S rfl rfl fun a S=>Ej S rfl rfl rfl hb7 (Vl isAgg9 0 S rfl rfl rfl rfl fun a S=>Ej S rfl rfl rfl hb7 (Vq S FT rfl rfl rfl fun a S=>Ej S rfl rfl rfl hb7 (Vm S rfl rfl ?_))));clear S;intro a S
         obtain ⟨j5,hj5,h⟩:=Gh h
         refine Jm 5 (fun a w'=>∃ c3,j5 c3 = some r ∧ Keep [] w8 w' ∧ Sx w [] nov [.blk b1 (Hz.enc Av) 94] [(1,.pointer (some ⟨b1,0,none⟩)),(42,bV c1),(51,bV c3)] 64 a w') ?_ ?_
         ·rcases Bool.eq_false_or_eq_true (!decide (Av.Club = Eo)) with hb8 | hb8
          ·replace h:=Qr h hb8
           refine Ej S rfl rfl rfl hb8 (Vf CT S rfl rfl fun a S=>Ej S rfl rfl rfl hb8 (Vl isAgg9 0 S rfl rfl rfl rfl fun a S=>Ej S rfl rfl rfl hb8 ?_))
           obtain ⟨r4,hr4,h⟩:=Gs h
           refine Eg S (fun _=>Eb (vs:=[sV Av.Club]) ⟨(S.tm rfl),trivial⟩ call40) (Jt _ Av.Club _ hr4) rfl ?_;clear S;intro v6 a w12 hv6 hk8 hn6 S
           subst hv6
           exact Ej S rfl rfl rfl hb8 (Vu S Ip rfl rfl fun a S=>Ej S rfl rfl rfl hb7 (lv S (Jk hb8 (S.tm rfl) (S.tm rfl)) rfl fun a S=>Dl (⟨_,h,hk8,S.nf [true] rfl (subR rfl)⟩)))
          ·replace h:=Qs h hb8
           iterate 4 (refine Ik S rfl rfl rfl (Lg hb8) rfl ?_ rfl;clear S;intro a S)
           exact Ej S rfl rfl rfl hb7 (Vq S (Jl true hb8) rfl rfl rfl fun a S=>Dl (⟨_,h,Keep.refl _ _,S.nf [true] rfl (subR rfl)⟩))
         clear S h;rintro a w11 ⟨c3,h,hk9,S⟩;rw [hj5] at h;clear hj5 j5
         exact lv S (Mw hb7 (S.tm rfl) (S.tm rfl)) rfl fun a S=>Dl (⟨_,h,hk9,S.nf [true] rfl (subR rfl)⟩)
       clear S h;rintro a w10 ⟨c2,h,hk10,S⟩;rw [hj4] at h;clear hj4 j4
       refine Va S rfl rfl fun a S=>Dl (Fc h (S.tm rfl) (fun hb9 h=>?_) (fun hb9 h=>?_))
       ·refine Fr (Vk S rfl rfl fun a S=>Dl (wp_ret (Ee (Gy (Ee (Ee ?_))))))
        obtain rfl:=Option.some.inj h
        exact Fz S results85 rfl rfl
       ·refine Fr (Vf GM S rfl rfl fun a S=>Vl isAgg3 0 S rfl rfl rfl rfl fun a S=>Eg S (fun _=>Eb (vs:=[iV Av.Age,iV 0,iV 150]) ⟨(S.tm rfl),rfl,rfl,trivial⟩ call20) (Gq _ Av.Age 0 150 _ rfl) rfl ?_);clear S;intro v7 a w13 hv7 hk11 hn7 S
        subst hv7
        refine Vu S Ip rfl rfl fun a S=>Vm S rfl rfl fun a S=>Jm 5 (fun a w'=>Keep [] w13 w' ∧ Sx w [] nov [.blk b1 (Hz.enc Av) 94] [(63,bV ((!(En Av.Age 0 150)) || (!(Mn Av.Time))))] 64 a w') ?_ ?_
        ·rcases Bool.eq_false_or_eq_true (!(En Av.Age 0 150)) with hb10 | hb10
         ·iterate 4 (refine Ik S rfl rfl rfl (Nf hb10) rfl ?_ rfl;clear S;intro a S)
          exact lv S (Mv (!(Mn Av.Time)) hb10 (S.tm rfl) rfl) rfl fun a S=>Dl (⟨Keep.refl _ _,S.nf [true] rfl ⟨rfl,trivial⟩⟩)
         ·refine Ej S rfl rfl rfl hb10 (Vf fa_94_7 S rfl rfl fun a S=>Ej S rfl rfl rfl hb10 (Vl isAgg3 0 S rfl rfl rfl rfl fun a S=>Ej S rfl rfl rfl hb10 (Eg S (fun _=>Eb (vs:=[iV Av.Time]) ⟨(S.tm rfl),trivial⟩ call60) (Qo _ Av.Time _ rfl) rfl ?_)));clear S;intro v8 a w15 hv8 hk12 hn8 S
          subst hv8
          exact Ej S rfl rfl rfl hb10 (Vu S Ip rfl rfl fun a S=>lv S (Mw hb10 (S.tm rfl) (S.tm rfl)) rfl fun a S=>Dl (⟨hk12,S.nf [true] rfl ⟨rfl,trivial⟩⟩))
        clear S;rintro a w14 ⟨hk13,S⟩
        refine Va S rfl rfl fun a S=>Dl (Fc h (S.tm rfl) (fun hb11 h=>?_) (fun hb11 h=>?_))
        ·refine Fr (Vk S rfl rfl fun a S=>Dl (wp_ret (Ee (Gy (Ee (Ee ?_))))))
         obtain rfl:=Option.some.inj h
         exact Fz S results85 rfl rfl
        ·exact wp_skip (Tn (⟨h,S.nf [false] rfl trivial⟩))
     clear S h;rintro a w6 ⟨h,S⟩;rw [hj2] at h;clear hj2 j2
     exact Ja (Tn (⟨h,S.nf [] rfl trivial⟩))
 clear S h;rintro a w2 ⟨h,S⟩;rw [hj1] at h;clear hj1 j1
 refine Tn (Fr (Vk S rfl rfl fun a S=>Dl (wp_ret ?_)))
 obtain rfl:=Option.some.inj h
 exact Fz S results85 rfl rfl
theorem Uy (w : World) (Ba : Hz) (r : Int) (h : Qm Ba = some r) :
    Calls prog 63 [.agg (Hz.enc Ba).toArray].toArray w (Ret w [] fun _ v _=>v = iV r):=by
 refine Fe func63 rfl ntmps63 rfl fun a S=>?_
 unfold Qm at h
 replace S:=S.k1 0 rfl
 refine Fr (Ox S (S.tm rfl) (cs:=(Hz.enc Ba)) rfl rfl ?_);clear S;intro a w1 b1 hz1 hk1 S
 refine Vk S rfl rfl fun a S=>Dl (Fs (Fr (lv S (Ie isAgg94 sizeOf94 (off:=0) (o:=0) (part:=(Hz.enc Ba)) rfl rfl (S.tm rfl) (S.cellsAt (i:=0) rfl)) rfl ?_)));clear S;intro a S
 obtain ⟨r1,hr1,h⟩:=Gs h
 refine Eg S (fun _=>Eb (vs:=[.agg (Hz.enc Ba).toArray]) ⟨(S.tm rfl),trivial⟩ call85) (Ux _ Ba _ hr1) rfl ?_;clear S;intro v1 a w2 hv1 hk2 hn1 S
 subst hv1
 refine Va S rfl rfl fun a S=>Dz (Vm S rfl rfl fun a S=>Vq S Mj rfl rfl rfl fun a S=>Dl (Fc h (S.tm rfl) (fun hb1 h=>?_) (fun hb1 h=>?_)))
 ·refine Fr (Vm S rfl rfl fun a S=>Va S rfl rfl fun a S=>Dl (wp_ret (Ee ?_)))
  obtain rfl:=Option.some.inj h
  exact Fz S results63 rfl rfl
 ·refine wp_skip (Tn (Fs (Fr (Vf Yo S rfl rfl fun a S=>Vl isAgg3 0 S rfl rfl rfl rfl fun a S=>Vq S Mj rfl rfl rfl fun a S=>Dl (Fc h (S.tm rfl) (fun hb2 h=>?_) (fun hb2 h=>?_))))))
  ·refine Fr (Vk S rfl rfl fun a S=>Dl (wp_ret (Ee ?_)))
   obtain rfl:=Option.some.inj h
   exact Fz S results63 rfl rfl
  ·refine wp_skip (Tn (Fr (Vk S rfl rfl fun a S=>Dl (wp_ret ?_))))
   obtain rfl:=Option.some.inj h
   exact Fz S results63 rfl rfl
theorem Yf (w : World) (Bt : Pc) (Ds : R91) (Dv : Tz (view w []) Bt Ds) (Ba : Hz) (r : Bool) (h : Tc Bt Ba = r) :
    Calls prog 64 [.agg (R91.enc Ds).toArray,.agg (Hz.enc Ba).toArray].toArray w (Ret w [] fun _ v _=>v = bV r):=by
 obtain ⟨u1,rfl,hs1⟩:=Dv
 refine Fe func64 rfl ntmps64 rfl fun a S=>?_
 unfold Tc at h
 replace S:=S.k2 0 1 rfl
 refine Fr (Ox S (S.tm rfl) (cs:=[sV Bt.Key,sV Bt.Race,u1.val,iV Bt.Young,iV Bt.Old]) rfl rfl ?_);clear S;intro a w1 b1 hz1 hk1 S
 refine Ox S (S.tm rfl) (cs:=(Hz.enc Ba)) rfl rfl ?_;clear S;intro a w2 b2 hz2 hk2 S
 refine Vk S rfl rfl fun a S=>Dz (Vf GL S rfl rfl fun a S=>Vl isAgg9 0 S rfl rfl rfl rfl fun a S=>Vf GI S rfl rfl fun a S=>Vl isAgg9 1 S rfl rfl rfl rfl fun a S=>Vb S Sv rfl rfl rfl fun a S=>Vm S rfl rfl ?_);clear S;intro a S
 refine Jm 12 (fun a w'=>Keep [] w2 w' ∧ Sx w [] nov [.blk b2 (Hz.enc Ba) 94,.blk b1 [sV Bt.Key,sV Bt.Race,u1.val,iV Bt.Young,iV Bt.Old] 91] [(2,.pointer (some ⟨b1,0,none⟩)),(3,.pointer (some ⟨b2,0,none⟩)),(22,bV ((decide (Ba.Race = Bt.Race)) && ((decide ((Bt.Clubs.length : Int) = 0)) || (Gn Bt.Clubs Ba.Club))))] 32 a w') ?_ ?_
 ·rcases Bool.eq_false_or_eq_true (decide (Ba.Race = Bt.Race)) with hb1 | hb1
  ·refine Ej S rfl rfl rfl hb1 (Vf Wo S rfl rfl fun a S=>Ej S rfl rfl rfl hb1 (Vl isAgg31 1 S rfl rfl rfl rfl fun a S=>Ej S rfl rfl rfl hb1 (lv S (Gc Pn (S.tm rfl) (Dy hs1)) rfl fun a S=>Ej S rfl rfl rfl hb1 (Vq S Ko rfl rfl rfl fun a S=>Ej S rfl rfl rfl hb1 (Vm S rfl rfl fun a S=>Jm 6 (fun a w'=>Keep [] w2 w' ∧ Sx w [] nov [.blk b2 (Hz.enc Ba) 94,.blk b1 [sV Bt.Key,sV Bt.Race,u1.val,iV Bt.Young,iV Bt.Old] 91] [(2,.pointer (some ⟨b1,0,none⟩)),(3,.pointer (some ⟨b2,0,none⟩)),(10,bV (decide (Ba.Race = Bt.Race))),(21,bV ((decide ((Bt.Clubs.length : Int) = 0)) || (Gn Bt.Clubs Ba.Club)))] 32 a w') ?_ ?_)))))
   ·rcases Bool.eq_false_or_eq_true (decide ((Bt.Clubs.length : Int) = 0)) with hb2 | hb2
    ·iterate 5 (refine Ik S rfl rfl rfl (Nf hb2) rfl ?_ rfl;clear S;intro a S)
     exact Ej S rfl rfl rfl hb1 (lv S (Mv (Gn Bt.Clubs Ba.Club) hb2 (S.tm rfl) rfl) rfl fun a S=>Dl (⟨Keep.refl _ _,S.nf [true,true] rfl (subR rfl)⟩))
    ·refine Ej S rfl rfl rfl hb2 (Vf Wo S rfl rfl fun a S=>Ej S rfl rfl rfl hb2 (Vl isAgg31 1 S rfl rfl rfl rfl fun a S=>Ej S rfl rfl rfl hb2 (Vf CT S rfl rfl fun a S=>Ej S rfl rfl rfl hb2 (Vl isAgg9 0 S rfl rfl rfl rfl fun a S=>Ej S rfl rfl rfl hb2 (Eg S (fun _=>Eb (vs:=[u1.val,sV Ba.Club]) ⟨(S.tm rfl),(S.tm rfl),trivial⟩ call29) (Ou _ u1.val Bt.Clubs (hs1.mono (S.le_arg Fk)) Ba.Club _ rfl) rfl ?_)))));clear S;intro v1 a w5 hv1 hk3 hn1 S
     subst hv1
     exact Ej S rfl rfl rfl hb1 (lv S (Mw hb2 (S.tm rfl) (S.tm rfl)) rfl fun a S=>Dl (⟨hk3,S.nf [true,true] rfl (subR rfl)⟩))
   clear S;rintro a w4 ⟨hk4,S⟩
   exact lv S (Jk hb1 (S.tm rfl) (S.tm rfl)) rfl fun a S=>Dl (⟨hk4,S.nf [true,true] rfl (subR rfl)⟩)
  ·iterate 5 (refine Ik S rfl rfl rfl (Lg hb1) rfl ?_ rfl;clear S;intro a S)
   iterate 5 (refine CC S rfl rfl rfl rfl ?_;clear S;intro a S)
   exact Ik S rfl rfl rfl (Lg hb1) rfl (fun a S=>lv S (Jl ((decide ((Bt.Clubs.length : Int) = 0)) || (Gn Bt.Clubs Ba.Club)) hb1 (S.tm rfl) rfl) rfl fun a S=>Dl (⟨Keep.refl _ _,S.nf [true,true] rfl (subR rfl)⟩)) rfl
 clear S;rintro a w3 ⟨hk5,S⟩
 refine Vm S rfl rfl fun a S=>Jm 8 (fun a w'=>Keep [] w3 w' ∧ Sx w [] nov [.blk b2 (Hz.enc Ba) 94,.blk b1 [sV Bt.Key,sV Bt.Race,u1.val,iV Bt.Young,iV Bt.Old] 91] [(31,bV (((decide (Ba.Race = Bt.Race)) && ((decide ((Bt.Clubs.length : Int) = 0)) || (Gn Bt.Clubs Ba.Club))) && (En Ba.Age Bt.Young Bt.Old)))] 32 a w') ?_ ?_
 ·rcases Bool.eq_false_or_eq_true ((decide (Ba.Race = Bt.Race)) && ((decide ((Bt.Clubs.length : Int) = 0)) || (Gn Bt.Clubs Ba.Club))) with hb3 | hb3
  ·refine Ej S rfl rfl rfl hb3 (Vf GM S rfl rfl fun a S=>Ej S rfl rfl rfl hb3 (Vl isAgg3 0 S rfl rfl rfl rfl fun a S=>Ej S rfl rfl rfl hb3 (Vf CR S rfl rfl fun a S=>Ej S rfl rfl rfl hb3 (Vl isAgg3 1 S rfl rfl rfl rfl fun a S=>Ej S rfl rfl rfl hb3 (Vf CS S rfl rfl fun a S=>Ej S rfl rfl rfl hb3 ?_)))))
   refine Vl isAgg3 1 S rfl rfl rfl rfl fun a S=>Ej S rfl rfl rfl hb3 (Eg S (fun _=>Eb (vs:=[iV Ba.Age,iV Bt.Young,iV Bt.Old]) ⟨(S.tm rfl),(S.tm rfl),(S.tm rfl),trivial⟩ call20) (Gq _ Ba.Age Bt.Young Bt.Old _ rfl) rfl ?_);clear S;intro v2 a w7 hv2 hk6 hn2 S
   subst hv2
   exact lv S (Jk hb3 (S.tm rfl) (S.tm rfl)) rfl fun a S=>Dl (⟨hk6,S.nf [true,true] rfl ⟨rfl,trivial⟩⟩)
  ·iterate 7 (refine Ik S rfl rfl rfl (Lg hb3) rfl ?_ rfl;clear S;intro a S)
   exact lv S (Jl (En Ba.Age Bt.Young Bt.Old) hb3 (S.tm rfl) rfl) rfl fun a S=>Dl (⟨Keep.refl _ _,S.nf [true,true] rfl ⟨rfl,trivial⟩⟩)
 clear S;rintro a w6 ⟨hk7,S⟩
 refine Va S rfl rfl fun a S=>Dl (wp_ret ?_)
 subst h
 exact Fz S results64 rfl rfl
theorem AB (w : World) (Ad : Value) (Ao : List Pc) (Cv : List R91) (Am : Slc (view w []) 5 Ad (Cv.map R91.enc)) (Cl : Ii (Tz (view w [])) Ao Cv) (Ba : Hz) (r : (List ByteArray) × Int) (h : Vr Ao Ba = some r) :
    Calls prog 36 [Ad,.agg (Hz.enc Ba).toArray].toArray w (Ret w [] fun τ v _=>∃ u1 : Value,v = .tuple #[u1,iV r.2] ∧ Oa τ 9 1 u1 r.1.length (r.1.flatMap Qi)):=by
 refine Fe func36 rfl ntmps36 rfl fun a S=>?_
 unfold Vr at h
 replace S:=S.k2 0 1 rfl
 refine Fr (Ox S (S.tm rfl) (cs:=(Hz.enc Ba)) rfl rfl ?_);clear S;intro a w1 b1 hz1 hk1 S
 refine Vk S rfl rfl fun a S=>Vk S rfl rfl fun a S=>Dl (Fs (Fr (Vm S rfl rfl ?_)));clear S;intro a S
 obtain ⟨r1,hr1,h⟩:=Gs h
 refine Eg S (fun _=>Eb (vs:=[Ad]) ⟨(S.tm rfl),trivial⟩ call62) (Ui _ Ad Ao Cv (Am.mono (S.le_arg Fk)) (GD (S.le_arg Fk) Cl) _ hr1) rfl ?_;clear S;intro v1 a w2 hv1 hk2 hn1 S
 subst hv1
 refine Va S rfl rfl fun a S=>Dz (Vm S rfl rfl fun a S=>Vq S Mj rfl rfl rfl fun a S=>Dl (Fc h (S.tm rfl) (fun hb1 h=>?_) (fun hb1 h=>?_)))
 ·refine Fr (Vm S rfl rfl fun a S=>Vk S rfl rfl fun a S=>Va S rfl rfl fun a S=>Dl (wp_ret (Ee ?_)))
  obtain rfl:=Option.some.inj h
  exact Jx S results36 rfl rfl ⟨_,rfl,(Kn _ _ _)⟩
 ·refine wp_skip (Tn (Fs (Fr (lv S (Ie isAgg94 sizeOf94 (off:=0) (o:=0) (part:=(Hz.enc Ba)) rfl rfl (S.tm rfl) (S.cellsAt (i:=0) rfl)) rfl ?_))));clear S;intro a S
  obtain ⟨r2,hr2,h⟩:=Gs h
  refine Eg S (fun _=>Eb (vs:=[.agg (Hz.enc Ba).toArray]) ⟨(S.tm rfl),trivial⟩ call63) (Uy _ Ba _ hr2) rfl ?_;clear S;intro v2 a w3 hv2 hk3 hn2 S
  subst hv2
  refine Va S rfl rfl fun a S=>Dz (Vm S rfl rfl fun a S=>Vq S Mj rfl rfl rfl fun a S=>Ld ?_)
  replace S:=(S.nl [.blk b1 (Hz.enc Ba) 94] [true] rfl).k4 0 3 7 19 rfl
  refine Tn (Fc h (S.tm rfl) (fun hb2 h=>?_) (fun hb2 h=>?_))
  ·refine Fr (Vm S rfl rfl fun a S=>Vk S rfl rfl fun a S=>Va S rfl rfl fun a S=>Dl (wp_ret (Ee ?_)))
   obtain rfl:=Option.some.inj h
   exact Jx S results36 rfl rfl ⟨_,rfl,(Kn _ _ _)⟩
  ·refine wp_skip (Tn (Fr (Vk S rfl rfl ?_)));clear S;intro a S
   replace S:=S.nil 9 1
   refine Dl (Fs (Fr (Vm S rfl rfl fun a S=>lv S (Gc AY (S.tm rfl) (Sh Am Cl)) rfl fun a S=>lv S (Rm rfl) rfl fun a S=>Dl ?_)))
   replace S:=(S.nl [.own (.slice none 0 0) 9 1 ([] : List ByteArray).length (([] : List ByteArray).flatMap Qi),.blk b1 (Hz.enc Ba) 94] [true,true] rfl).k5 3 8 21 22 23 rfl
   obtain ⟨j1,hj1,h⟩:=Gh h
   refine Fv (fun a w'=>∃ x1 : List ByteArray,∃ v3 : Value,j1 x1 = some r ∧ Sx w [] nov [.own v3 9 1 x1.length (x1.flatMap Qi),.blk b1 (Hz.enc Ba) 94] [(8,v3)] 37 a w') ?_ ?_
   ·refine wp_block (Hr (fun (ys1 : List Pc) a w'=>∃ i1 : Nat,∃ x1 : List ByteArray,∃ v3 : Value,(∃ dn,Ao = dn ++ ys1 ∧ dn.length = i1) ∧ Lq Ba j1 ys1 i1 x1 = some r ∧ Sx w [] nov [.own v3 9 1 x1.length (x1.flatMap Qi),.blk b1 (Hz.enc Ba) 94] [(3,.pointer (some ⟨b1,0,none⟩)),(8,v3),(21,Ad),(22,iV (Ao.length : Int)),(23,iV (i1 : Int))] 37 a w') List.length Ao ⟨0,([] : List ByteArray),(.slice none 0 0),⟨[],rfl,rfl⟩,h,S.nf [true,true] rfl (subR rfl)⟩ ?_)
    clear S h;rintro ys1 a w4 ⟨i1,x1,v3,⟨dn,hd1,hi1⟩,h,S⟩
    cases ys1 with
    | nil =>
     rw [Lq.eq_1] at h
     refine Fr (Vb S Fu rfl rfl rfl fun a S=>Ld ?_)
     replace S:=S.k6 3 8 21 22 23 24 rfl
     exact Tn (Fs (wp_cond_false ((S.tm rfl).trans (congrArg Value.bool (Jd hd1 hi1))) (wp_exit (Fj (Fj (Hp (Tn (⟨x1,v3,h,S.nf [true,true] rfl ⟨rfl,trivial⟩⟩))))))))
    | cons y1 ys1 =>
     rw [Lq.eq_2] at h
     refine Fr (Vb S Fu rfl rfl rfl fun a S=>Ld ?_)
     replace S:=S.k6 3 8 21 22 23 24 rfl
     refine Tn (Fs (wp_cond_true ((S.tm rfl).trans (congrArg Value.bool (Hx hd1 hi1))) (wp_skip (Tn (Fs ?_)))))
     obtain ⟨j2,hj2,h⟩:=Gh h
     refine Fv (fun a w'=>∃ x2 : List ByteArray,∃ v4 : Value,j2 x2 = some r ∧ Sx w [] nov [.own v4 9 1 x2.length (x2.flatMap Qi),.blk b1 (Hz.enc Ba) 94] [(3,.pointer (some ⟨b1,0,none⟩)),(8,v4),(21,Ad),(22,iV (Ao.length : Int)),(23,iV (i1 : Int))] 37 a w') ?_ ?_
     ·refine wp_block (Fs (Fg ?_))
      obtain ⟨r3,hg1,hl1⟩:=Ii.at Cl (Il hd1 hi1)
      obtain ⟨u1,rfl,hs1⟩:=hl1
      obtain ⟨b2,o1,hm1,hr3⟩:=Fo (a:=a) (x:=.tmp 21) (y:=.tmp 23) (ty:=0) AY Am hg1 rfl (S.tm rfl) (S.tm rfl)
      refine lv S (hr3 _) rfl ?_;clear S;intro a S
      clear hr3
      refine lv S (Ie isAgg91 sizeOf91 (off:=o1) (o:=0) (part:=[sV y1.Key,sV y1.Race,u1.val,iV y1.Young,iV y1.Old]) rfl rfl (S.tm rfl) (hm1.at S.emb0)) rfl fun a S=>Nw S zeroValue91 (cs:=[sV Eo,sV Eo,.slice none 0 0,iV 0,iV 0]) rfl rfl ?_;clear S;intro a w7 b3 hz2 hk4 S
      refine Kq S (S.tm rfl) (S.tm rfl) (i:=0) (off:=0) rfl sizeOf91 (vs:=[sV y1.Key,sV y1.Race,u1.val,iV y1.Young,iV y1.Old]) rfl rfl rfl (Ya rfl (Ya rfl (Ya (Ei.one (Dy hs1)) (Ya rfl (Ya rfl rfl))))) ?_;clear S;intro w8 hk5 S
      refine Dz (lv S (Ie isAgg91 sizeOf91 (off:=0) (o:=0) (part:=[sV y1.Key,sV y1.Race,u1.val,iV y1.Young,iV y1.Old]) rfl rfl (S.tm rfl) (S.cellsAt (i:=0) rfl)) rfl fun a S=>lv S (Ie isAgg94 sizeOf94 (off:=0) (o:=0) (part:=(Hz.enc Ba)) rfl rfl (S.tm rfl) (S.cellsAt (i:=2) rfl)) rfl fun a S=>Eg S (fun _=>Eb (vs:=[.agg (R91.enc (R91.mk y1.Key y1.Race u1 y1.Young y1.Old)).toArray,.agg (Hz.enc Ba).toArray]) ⟨(S.tm rfl),(S.tm rfl),trivial⟩ call64) (Yf _ y1 (R91.mk y1.Key y1.Race u1 y1.Young y1.Old) ⟨u1,rfl,(hs1.mono (S.le_arg Fk))⟩ Ba _ rfl) rfl ?_);clear S;intro v5 a w9 hv3 hk6 hn3 S
      subst hv3
      refine Dl ?_
      obtain ⟨j3,hj3,h⟩:=Gh h
      refine Fv (fun a w'=>∃ x3 : List ByteArray,∃ v6 : Value,j3 x3 = some r ∧ Sx w [] nov [.own v6 9 1 x3.length (x3.flatMap Qi),.blk b1 (Hz.enc Ba) 94] [(3,.pointer (some ⟨b1,0,none⟩)),(8,v6),(21,Ad),(22,iV (Ao.length : Int)),(23,iV (i1 : Int))] 37 a w') ?_ ?_
      ·refine Fc h (S.tm rfl) (fun hb3 h=>?_) (fun hb3 h=>?_)
       ·refine Fg (Vm S rfl rfl fun a S=>Vf Yn S rfl rfl fun a S=>Vl isAgg9 0 S rfl rfl rfl rfl fun a S=>Ff S underlying31 sizeOf9 zeroValue9 rfl rfl (pv:=[(0,sV y1.Key)]) ⟨rfl,(S.tm rfl),trivial⟩ (cs:=[sV y1.Key]) (by kernel_rfl) rfl ?_);clear S;intro a w11 b4 hz3 hk7 S
        obtain ⟨hc1,h⟩:=Hs h
        refine Nj Pn Pt S (S.tm rfl) (i:=2) rfl (S.tm rfl) (j:=0) rfl (ys:=[y1.Key]) rfl rfl rfl rfl (by have:=Kl hc1;omega) rfl ?_;clear S;intro v7 a w12 hk8 S
        refine Va S rfl rfl fun a S=>Ld ?_
        replace S:=(S.nl [.own v7 9 1 (x1 ++ [y1.Key]).length ((x1 ++ [y1.Key]).flatMap Qi),.blk b1 (Hz.enc Ba) 94] [false,false,true,true] rfl).k5 3 8 21 22 23 rfl
        exact Tn (⟨(x1 ++ [y1.Key]),v7,h,S.nf [true,true] rfl (subR rfl)⟩)
       ·exact wp_skip (Tn (⟨x1,v3,h,S.nf [false,true,true] rfl (subR rfl)⟩))
      clear S h;rintro a w10 ⟨x3,v6,h,S⟩;rw [hj3] at h;clear hj3 j3
      exact Ja (Tn (⟨x3,v6,h,S.nf [true,true] rfl (subR rfl)⟩))
     clear S h;rintro a w6 ⟨x2,v4,h,S⟩;rw [hj2] at h;clear hj2 j2
     exact Tn (Fg (Vq S Gf rfl rfl rfl fun a S=>Vm S rfl rfl fun a S=>Dl (⟨ys1,⟨i1 + 1,x2,v4,⟨_,(hd1).trans (List.append_cons _ _ _),by simp [hi1]⟩,h,S.nf [true,true] rfl ⟨rfl,rfl,rfl,rfl,(congrArg (fun z=>some (Value.int .i64 z)) (Hy hd1 hi1 (Tt Am Cl))),trivial⟩⟩,Nat.lt_succ_self _⟩)))
   clear S h;rintro a w5 ⟨x1,v3,h,S⟩;rw [hj1] at h;clear hj1 j1
   refine Tn (Fr (Vm S rfl rfl fun a S=>Va S rfl rfl fun a S=>Vk S rfl rfl fun a S=>Dl (wp_ret ?_)))
   obtain rfl:=Option.some.inj h
   exact Jx S results36 rfl rfl ⟨_,rfl,(Oy S (i:=0) rfl rfl)⟩
theorem Vt (w : World) (r : Bool) (h : Nh = some r) :
    Calls prog 12 [].toArray w (Ret w [] fun _ v _=>v = bV r):=by
 refine Fe func12 rfl ntmps12 rfl fun a S=>?_
 unfold Nh at h
 replace S:=S.k0
 refine Fr (Vk S rfl rfl fun a S=>Dz (lv S (Pk bt_82 (pv:=[(0,iV 2024),(1,iV 3),(2,iV 1)]) ⟨rfl,rfl,rfl,rfl,rfl,rfl,trivial⟩ (cs:=[iV 2024,iV 3,iV 1]) (by kernel_rfl)) rfl ?_));clear S;intro a S
 obtain ⟨r1,hr1,h⟩:=Gs h
 refine Eg S (fun _=>Eb (vs:=[.agg (Jj.enc (Jj.mk 2024 3 1)).toArray]) ⟨(S.tm rfl),trivial⟩ call33) (Xj _ (Jj.mk 2024 3 1) _ hr1) rfl ?_;clear S;intro v1 a w1 hv1 hk1 hn1 S
 subst hv1
 refine Vm S rfl rfl fun a S=>Vq S Gu rfl rfl rfl fun a S=>Vq S Gu rfl rfl rfl fun a S=>Va S rfl rfl fun a S=>Va S rfl rfl fun a S=>Dz (lv S (Pk bt_43 (pv:=[(0,sV k_a),(1,iV 2),(2,iV 10),(3,iV 5)]) ⟨rfl,rfl,rfl,rfl,rfl,rfl,rfl,rfl,trivial⟩ (cs:=[sV k_a,iV 2,iV 10,iV 5,iV 0]) (by kernel_rfl)) rfl fun a S=>Ff S underlying26 sizeOf43 zeroValue43 rfl rfl (pv:=[(0,.agg #[sV k_a,iV 2,iV 10,iV 5,iV 0])]) ⟨rfl,(S.tm rfl),trivial⟩ (cs:=[sV k_a,iV 2,iV 10,iV 5,iV 0]) (by kernel_rfl) rfl ?_);clear S;intro a w2 b1 hz1 hk2 S
 obtain ⟨r2,hr2,h⟩:=Gs h
 refine Eg S (fun _=>Eb (vs:=[.slice (some ⟨b1,0,none⟩) 1 1,iV 0]) ⟨(S.tm rfl),rfl,trivial⟩ call34) (Ye _ (.slice (some ⟨b1,0,none⟩) 1 1) [(An.mk k_a 2 10 5 0)] (Ob An.enc_ok S (i:=0) rfl rfl rfl rfl ((Gm (e':=.blk b1 [sV k_a,iV 2,iV 10,iV 5,iV 0] 43)) _ rfl)) 0 _ hr2) rfl ?_;clear S;intro v2 a w3 hv2 hk3 hn2 S
 subst hv2
 refine Vm S rfl rfl fun a S=>Vq S Gu rfl rfl rfl fun a S=>Vq S Gu rfl rfl rfl fun a S=>Va S rfl rfl fun a S=>Va S rfl rfl fun a S=>Ld ?_
 replace S:=S.n0.k4 1 2 3 4 rfl
 refine Tn (Fr (lv S (Pk bt_86 (pv:=[(0,sV k_r),(1,iV 3000)]) ⟨rfl,rfl,rfl,rfl,trivial⟩ (cs:=[sV k_r,iV 3000]) (by kernel_rfl)) rfl fun a S=>Ff S underlying87 sizeOf86 zeroValue86 rfl rfl (pv:=[(0,.agg #[sV k_r,iV 3000])]) ⟨rfl,(S.tm rfl),trivial⟩ (cs:=[sV k_r,iV 3000]) (by kernel_rfl) rfl ?_));clear S;intro a w4 b2 hz2 hk4 S
 obtain ⟨r3,hr3,h⟩:=Gs h
 refine Eg S (fun _=>Eb (vs:=[.slice (some ⟨b2,0,none⟩) 1 1,sV k_r,iV 6000]) ⟨(S.tm rfl),rfl,rfl,trivial⟩ call35) (Xm _ (.slice (some ⟨b2,0,none⟩) 1 1) [(Mq.mk k_r 3000)] (Ob Mq.enc_ok S (i:=0) rfl rfl rfl rfl ((Gm (e':=.blk b2 [sV k_r,iV 3000] 86)) _ rfl)) k_r 6000 _ hr3) rfl ?_;clear S;intro v3 a w5 hv3 hk5 hn3 S
 subst hv3
 refine Vm S rfl rfl fun a S=>Vq S Gu rfl rfl rfl fun a S=>Vq S Gu rfl rfl rfl fun a S=>Va S rfl rfl fun a S=>Va S rfl rfl fun a S=>Dz (lv S (Pk bt_91 (pv:=[(0,sV k_k),(1,sV k_r),(4,iV 9)]) ⟨rfl,rfl,rfl,rfl,rfl,rfl,trivial⟩ (cs:=[sV k_k,sV k_r,.slice none 0 0,iV 0,iV 9]) (by kernel_rfl)) rfl fun a S=>Ff S underlying92 sizeOf91 zeroValue91 rfl rfl (pv:=[(0,.agg #[sV k_k,sV k_r,.slice none 0 0,iV 0,iV 9])]) ⟨rfl,(S.tm rfl),trivial⟩ (cs:=[sV k_k,sV k_r,.slice none 0 0,iV 0,iV 9]) (by kernel_rfl) rfl ?_);clear S;intro a w6 b3 hz3 hk6 S
 refine lv S (Pk bt_94 (pv:=[(1,iV 1),(2,sV k_i),(3,sV k_a),(5,sV k_r),(7,iV 5)]) ⟨rfl,rfl,rfl,rfl,rfl,rfl,rfl,rfl,rfl,rfl,trivial⟩ (cs:=[iV 0,iV 1,sV k_i,sV k_a,sV Eo,sV k_r,iV 0,iV 5]) (by kernel_rfl)) rfl ?_;clear S;intro a S
 have hr4 : Ii (Tz nov) ([(Pc.mk k_k k_r ([] : List ByteArray) 0 9)] : List Pc) ([(R91.mk k_k k_r ⟨.slice none 0 0,rfl⟩ 0 9)] : List R91):=(Ii.cons ⟨⟨.slice none 0 0,rfl⟩,rfl,(BX _ _)⟩ Ii.nil)
 replace S:=S.litOwn (i:=0) (xs:=([(R91.mk k_k k_r ⟨.slice none 0 0,rfl⟩ 0 9)] : List R91)) rfl R91.enc_ok rfl rfl rfl
 replace S:=S.nk [.own (.slice (some ⟨b3,0,none⟩) 1 1) 91 5 ([(R91.mk k_k k_r ⟨.slice none 0 0,rfl⟩ 0 9)] : List R91).length (([(R91.mk k_k k_r ⟨.slice none 0 0,rfl⟩ 0 9)] : List R91).flatMap R91.enc),.blk b2 [sV k_r,iV 3000] 86] [(1,iV r1.1),(2,iV r1.2),(3,iV r2.1),(4,iV r2.2),(5,iV r3.1),(6,iV r3.2),(20,.tuple #[iV r3.1,iV r3.2]),(21,.agg #[sV k_r,iV 3000]),(22,.slice (some ⟨b2,0,none⟩) 1 1),(23,.tuple #[iV r3.1,iV r3.2]),(24,iV r3.1),(25,iV r3.2),(27,.agg #[sV k_k,sV k_r,.slice none 0 0,iV 0,iV 9]),(28,(.slice (some ⟨b3,0,none⟩) 1 1)),(29,.agg (Hz.enc (Hz.mk 0 1 k_i k_a Eo k_r 0 5)).toArray)] [] rfl (subR rfl)
 obtain ⟨r4,hr5,h⟩:=Gs h
 have hz4:=S.keep.size
 refine Eg S (fun _=>Eb (vs:=[(.slice (some ⟨b3,0,none⟩) 1 1),.agg (Hz.enc (Hz.mk 0 1 k_i k_a Eo k_r 0 5)).toArray]) ⟨(S.tm rfl),(S.tm rfl),trivial⟩ call36) (AB _ (.slice (some ⟨b3,0,none⟩) 1 1) ([(Pc.mk k_k k_r ([] : List ByteArray) 0 9)] : List Pc) ([(R91.mk k_k k_r ⟨.slice none 0 0,rfl⟩ 0 9)] : List R91) (Kt R91.enc_ok S (i:=0) rfl (Gm (e':=.own (.slice (some ⟨b3,0,none⟩) 1 1) 91 5 ([(R91.mk k_k k_r ⟨.slice none 0 0,rfl⟩ 0 9)] : List R91).length (([(R91.mk k_k k_r ⟨.slice none 0 0,rfl⟩ 0 9)] : List R91).flatMap R91.enc)))) (GD (S.le_new Fk) hr4) (Hz.mk 0 1 k_i k_a Eo k_r 0 5) _ hr5) rfl ?_;clear S;intro v4 a w7 hv4 hk7 hn4 S
 obtain ⟨u1,rfl,ho1⟩:=hv4
 obtain ⟨φ1,hl1,hm1,S⟩:=S.see' hn4 hz4
 have hs1:=ho1.mono hm1
 refine Vm S rfl rfl fun a S=>Vq S Gu rfl rfl rfl fun a S=>Vq S Gu rfl rfl rfl fun a S=>Va S rfl rfl fun a S=>Va S rfl rfl fun a S=>Ld ?_
 replace S:=S.n0.k8 1 2 3 4 5 6 7 8 rfl
 refine Tn (Fs (Fg ?_))
 iterate 4 (refine Vm S rfl rfl ?_;clear S;intro a S)
 refine Ff S underlying69 sizeOf32 zeroValue32 rfl rfl (pv:=[(0,iV r1.2),(1,iV r2.2),(2,iV r3.2),(3,iV r4.2)]) ⟨rfl,(S.tm rfl),rfl,(S.tm rfl),rfl,(S.tm rfl),rfl,(S.tm rfl),trivial⟩ (cs:=[iV r1.2,iV r2.2,iV r3.2,iV r4.2]) (by kernel_rfl) rfl ?_;clear S;intro a w8 b4 hz5 hk8 S
 refine Eg S (fun _=>Eb (vs:=[.slice (some ⟨b4,0,none⟩) 4 4]) ⟨(S.tm rfl),trivial⟩ call9) (Qe _ (.slice (some ⟨b4,0,none⟩) 4 4) [r1.2,r2.2,r3.2,r4.2] (Ob Ge S (i:=0) rfl rfl rfl rfl ((Gm (e':=.blk b4 [iV r1.2,iV r2.2,iV r3.2,iV r4.2] 32)) _ rfl)) _ rfl) rfl ?_;clear S;intro v5 a w9 hv5 hk9 hn5 S
 subst hv5
 refine Vq S Ko rfl rfl rfl fun a S=>Vm S rfl rfl fun a S=>Jm 3 (fun a w'=>Keep [] w9 w' ∧ Sx w [] φ1 [.blk b4 [iV r1.2,iV r2.2,iV r3.2,iV r4.2] 32] [(3,iV r2.1),(5,iV r3.1),(7,u1),(43,bV ((decide ((Fm [r1.2,r2.2,r3.2,r4.2]) = 0)) && (decide (r1.1 = 60))))] 57 a w') ?_ ?_
 ·rcases Bool.eq_false_or_eq_true (decide ((Fm [r1.2,r2.2,r3.2,r4.2]) = 0)) with hb1 | hb1
  ·exact Ej S rfl rfl rfl hb1 (Vm S rfl rfl fun a S=>Ej S rfl rfl rfl hb1 (Vq S Ko rfl rfl rfl fun a S=>lv S (Jk hb1 (S.tm rfl) (S.tm rfl)) rfl fun a S=>Dl (⟨Keep.refl _ _,S.nf [true] rfl (subR rfl)⟩)))
  ·exact Ik S rfl rfl rfl (Lg hb1) rfl (fun a S=>Ik S rfl rfl rfl (Lg hb1) rfl (fun a S=>lv S (Jl (decide (r1.1 = 60)) hb1 (S.tm rfl) rfl) rfl fun a S=>Dl (⟨Keep.refl _ _,S.nf [true] rfl (subR rfl)⟩)) rfl) rfl
 clear S;rintro a w10 ⟨hk10,S⟩
 refine Vm S rfl rfl fun a S=>Jm 3 (fun a w'=>Keep [] w10 w' ∧ Sx w [] φ1 [.blk b4 [iV r1.2,iV r2.2,iV r3.2,iV r4.2] 32] [(5,iV r3.1),(7,u1),(47,bV (((decide ((Fm [r1.2,r2.2,r3.2,r4.2]) = 0)) && (decide (r1.1 = 60))) && (decide (r2.1 = 25))))] 57 a w') ?_ ?_
 ·rcases Bool.eq_false_or_eq_true ((decide ((Fm [r1.2,r2.2,r3.2,r4.2]) = 0)) && (decide (r1.1 = 60))) with hb2 | hb2
  ·exact Ej S rfl rfl rfl hb2 (Vm S rfl rfl fun a S=>Ej S rfl rfl rfl hb2 (Vq S Ko rfl rfl rfl fun a S=>lv S (Jk hb2 (S.tm rfl) (S.tm rfl)) rfl fun a S=>Dl (⟨Keep.refl _ _,S.nf [true] rfl (subR rfl)⟩)))
  ·exact Ik S rfl rfl rfl (Lg hb2) rfl (fun a S=>Ik S rfl rfl rfl (Lg hb2) rfl (fun a S=>lv S (Jl (decide (r2.1 = 25)) hb2 (S.tm rfl) rfl) rfl fun a S=>Dl (⟨Keep.refl _ _,S.nf [true] rfl (subR rfl)⟩)) rfl) rfl
 clear S;rintro a w11 ⟨hk11,S⟩
 refine Vm S rfl rfl fun a S=>Jm 3 (fun a w'=>Keep [] w11 w' ∧ Sx w [] φ1 [.blk b4 [iV r1.2,iV r2.2,iV r3.2,iV r4.2] 32] [(7,u1),(51,bV ((((decide ((Fm [r1.2,r2.2,r3.2,r4.2]) = 0)) && (decide (r1.1 = 60))) && (decide (r2.1 = 25))) && (decide (r3.1 = 125))))] 57 a w') ?_ ?_
 ·rcases Bool.eq_false_or_eq_true (((decide ((Fm [r1.2,r2.2,r3.2,r4.2]) = 0)) && (decide (r1.1 = 60))) && (decide (r2.1 = 25))) with hb3 | hb3
  ·exact Ej S rfl rfl rfl hb3 (Vm S rfl rfl fun a S=>Ej S rfl rfl rfl hb3 (Vq S Ko rfl rfl rfl fun a S=>lv S (Jk hb3 (S.tm rfl) (S.tm rfl)) rfl fun a S=>Dl (⟨Keep.refl _ _,S.nf [true] rfl (subR rfl)⟩)))
  ·exact Ik S rfl rfl rfl (Lg hb3) rfl (fun a S=>Ik S rfl rfl rfl (Lg hb3) rfl (fun a S=>lv S (Jl (decide (r3.1 = 125)) hb3 (S.tm rfl) rfl) rfl fun a S=>Dl (⟨Keep.refl _ _,S.nf [true] rfl (subR rfl)⟩)) rfl) rfl
 clear S;rintro a w12 ⟨hk12,S⟩
 refine Vm S rfl rfl fun a S=>Jm 4 (fun a w'=>Keep [] w12 w' ∧ Sx w [] φ1 [.blk b4 [iV r1.2,iV r2.2,iV r3.2,iV r4.2] 32] [(56,bV (((((decide ((Fm [r1.2,r2.2,r3.2,r4.2]) = 0)) && (decide (r1.1 = 60))) && (decide (r2.1 = 25))) && (decide (r3.1 = 125))) && (decide ((r4.1.length : Int) = 1))))] 57 a w') ?_ ?_
 ·rcases Bool.eq_false_or_eq_true ((((decide ((Fm [r1.2,r2.2,r3.2,r4.2]) = 0)) && (decide (r1.1 = 60))) && (decide (r2.1 = 25))) && (decide (r3.1 = 125))) with hb4 | hb4
  ·exact Ej S rfl rfl rfl hb4 (Vm S rfl rfl fun a S=>Ej S rfl rfl rfl hb4 (lv S (Gc Pn (S.tm rfl) (Dy (Fw Pt hs1))) rfl fun a S=>Ej S rfl rfl rfl hb4 (Vq S Ko rfl rfl rfl fun a S=>lv S (Jk hb4 (S.tm rfl) (S.tm rfl)) rfl fun a S=>Dl (⟨Keep.refl _ _,S.nf [true] rfl ⟨rfl,trivial⟩⟩))))
  ·iterate 3 (refine Ik S rfl rfl rfl (Lg hb4) rfl ?_ rfl;clear S;intro a S)
   exact lv S (Jl (decide ((r4.1.length : Int) = 1)) hb4 (S.tm rfl) rfl) rfl fun a S=>Dl (⟨Keep.refl _ _,S.nf [true] rfl ⟨rfl,trivial⟩⟩)
 clear S;rintro a w13 ⟨hk13,S⟩
 refine Va S rfl rfl fun a S=>Dl (wp_ret ?_)
 obtain rfl:=Option.some.inj h
 exact Fz S results12 rfl rfl
theorem Rs (w : World) (Ad : Value) (Ao : List Int) (Am : Slc (view w []) 1 Ad (Ao.map eInt)) (r : Bool) (h : Le Ao = some r) :
    Calls prog 3 [Ad].toArray w (Ret w [] fun _ v _=>v = bV r):=by
 refine Fe func3 rfl ntmps3 rfl fun a S=>?_
 unfold Le at h
 replace S:=S.k1 0 rfl
 refine Fr (Vk S rfl rfl fun a S=>Dz (Vm S rfl rfl ?_));clear S;intro a S
 refine lv S (Pk bt_25 (pv:=[(0,Ad)]) ⟨rfl,(S.tm rfl),trivial⟩ (cs:=[Ad,iV 0]) (by obtain ⟨_,_,hv⟩:=(Dy Am);rw [hv];clear hv;kernel_rfl)) rfl ?_;clear S;intro a S
 refine Ox S (S.tm rfl) (cs:=[Ad,iV 0]) rfl rfl ?_;clear S;intro a w1 b1 hz1 hk1 S
 refine Va S rfl rfl fun a S=>Dz (Vm S rfl rfl ?_);clear S;intro a S
 obtain ⟨r1,hr1,h⟩:=Gs h
 have hz2:=S.keep.size
 refine Lu 0 S (b:=b1) rfl rfl (fun _=>.blk b1 [Ad,iV r1.2] 25) (fun _=>Eb (vs:=[.pointer (some ⟨b1,0,none⟩),iV 4]) ⟨(S.tm rfl),rfl,trivial⟩ call4) (Uc _ b1 Ad Ao (Am.mono (S.le_arg (Er (i:=0) (e:=.blk b1 [Ad,iV 0] 25) rfl))) 0 (S.holds _ (List.mem_of_getElem? (i:=0) rfl)) 4 _ hr1) rfl (fun _ _ _ h=>⟨h.1,fun _ hc=>by cases hc;rfl⟩) ?_;clear S;intro v1 a w2 hv1 hk2 hn1 S
 replace hv1:=hv1.2
 obtain ⟨φ1,hl1,hm1,S⟩:=S.see' hn1 hz2
 have hs1:=hv1.mono hm1
 refine Va S rfl rfl fun a S=>Dz (Vm S rfl rfl fun a S=>Vm S rfl rfl ?_);clear S;intro a S
 obtain ⟨r2,hr2,h⟩:=Gs h
 have hz3:=S.keep.size
 refine Lu 0 S (b:=b1) rfl rfl (fun _=>.blk b1 [Ad,iV r2.2] 25) (fun _=>Eb (vs:=[.pointer (some ⟨b1,0,none⟩),v1]) ⟨(S.tm rfl),(S.tm rfl),trivial⟩ call5) (Ue _ b1 Ad Ao (Am.mono (S.le_arg (Er (i:=0) (e:=.blk b1 [Ad,iV r1.2] 25) rfl))) r1.2 (S.holds _ (List.mem_of_getElem? (i:=0) rfl)) v1 r1.1 ((Fw An.enc_ok hs1).mono (S.le_new (Er (i:=0) (e:=.blk b1 [Ad,iV r1.2] 25) rfl))) _ hr2) rfl (fun _ _ _ h=>⟨h.1,fun _ hc=>by cases hc;rfl⟩) ?_;clear S;intro v2 a w3 hv2 hk3 hn2 S
 replace hv2:=hv2.2
 obtain ⟨φ2,hl2,hm2,S⟩:=S.see' hn2 hz3
 have hs2:=hv2.mono hm2
 refine Vm S rfl rfl ?_;clear S;intro a S
 obtain ⟨r3,hr3,h⟩:=Gs h
 refine Lu 0 S (b:=b1) rfl rfl (fun _=>.blk b1 [Ad,iV r3.2] 25) (fun _=>Eb (vs:=[.pointer (some ⟨b1,0,none⟩),iV 0,iV 200]) ⟨(S.tm rfl),rfl,rfl,trivial⟩ call6) (Ti _ b1 Ad Ao (Am.mono (S.le_arg (Er (i:=0) (e:=.blk b1 [Ad,iV r2.2] 25) rfl))) r2.2 (S.holds _ (List.mem_of_getElem? (i:=0) rfl)) 0 200 _ hr3) rfl (fun _ _ _ h=>⟨h.1,fun _ hc=>by cases hc;rfl⟩) ?_;clear S;intro v3 a w4 hv3 hk4 hn3 S
 replace hv3:=hv3.2
 subst hv3
 refine Va S rfl rfl fun a S=>Va S rfl rfl fun a S=>Ld ?_
 replace S:=(S.nl [.blk b1 [Ad,iV r3.2] 25] [true] rfl).k4 3 4 5 6 rfl
 refine Tn (Fs (Fg ?_))
 iterate 3 (refine Vm S rfl rfl ?_;clear S;intro a S)
 obtain ⟨r4,hr4,h⟩:=Gs h
 have hz4:=S.keep.size
 refine Eg S (fun _=>Eb (vs:=[v1,v2,iV r3.1]) ⟨(S.tm rfl),(S.tm rfl),(S.tm rfl),trivial⟩ call7) (Xd _ v1 r1.1 ((Fw An.enc_ok hs1).mono (View.le_trans hl2 (S.le_new Fk))) v2 r2.1 ((Fw Eh.enc_ok hs2).mono (S.le_new Fk)) r3.1 _ hr4) rfl ?_;clear S;intro v4 a w5 hv4 hk5 hn4 S
 obtain ⟨u3,rfl,ho3⟩:=hv4
 obtain ⟨φ3,hl3,hm3,S⟩:=S.see' hn4 hz4
 have hs3:=ho3.mono hm3
 refine Vm S rfl rfl ?_;clear S;intro a S
 iterate 3 (refine Vq S Gu rfl rfl rfl ?_;clear S;intro a S)
 iterate 3 (refine Va S rfl rfl ?_;clear S;intro a S)
 refine Ld ?_
 replace S:=S.k7 3 4 5 6 7 8 9 rfl
 refine Tn (Fr (Vm S rfl rfl fun a S=>Vm S rfl rfl ?_));clear S;intro a S
 obtain ⟨r5,hr5,h⟩:=Gs h
 have hz5:=S.keep.size
 refine Eg S (fun _=>Eb (vs:=[v1,u3]) ⟨(S.tm rfl),(S.tm rfl),trivial⟩ call8) (Sn _ v1 r1.1 ((Fw An.enc_ok hs1).mono (View.le_trans (View.le_trans hl2 hl3) (S.le_new Fk))) u3 r4.1 ((Fw Pt hs3).mono (S.le_new Fk)) _ hr5) rfl ?_;clear S;intro v5 a w6 hv5 hk6 hn5 S
 obtain ⟨u4,rfl,ho4⟩:=hv5
 obtain ⟨φ4,hl4,hm4,S⟩:=S.see' hn5 hz5
 have hs4:=ho4.mono hm4
 refine Vm S rfl rfl fun a S=>Vq S Gu rfl rfl rfl fun a S=>Vq S Gu rfl rfl rfl fun a S=>Va S rfl rfl fun a S=>Va S rfl rfl fun a S=>Ld ?_
 replace S:=S.k8 3 4 5 6 8 9 10 11 rfl
 refine Tn (Fs (Fr (Vm S rfl rfl fun a S=>Vm S rfl rfl fun a S=>Ff S underlying69 sizeOf32 zeroValue32 rfl rfl (pv:=[(0,iV r4.2.2),(1,iV r5.2)]) ⟨rfl,(S.tm rfl),rfl,(S.tm rfl),trivial⟩ (cs:=[iV r4.2.2,iV r5.2]) (by kernel_rfl) rfl ?_)));clear S;intro a w7 b2 hz6 hk7 S
 refine Eg S (fun _=>Eb (vs:=[.slice (some ⟨b2,0,none⟩) 2 2]) ⟨(S.tm rfl),trivial⟩ call9) (Qe _ (.slice (some ⟨b2,0,none⟩) 2 2) [r4.2.2,r5.2] (Ob Ge S (i:=0) rfl rfl rfl rfl ((Gm (e':=.blk b2 [iV r4.2.2,iV r5.2] 32)) _ rfl)) _ rfl) rfl ?_;clear S;intro v6 a w8 hv6 hk8 hn6 S
 subst hv6
 refine Vq S Mj rfl rfl rfl fun a S=>Vm S rfl rfl fun a S=>Jm 6 (fun a w'=>Keep [] w8 w' ∧ Sx w [] φ4 [.blk b2 [iV r4.2.2,iV r5.2] 32,.blk b1 [Ad,iV r3.2] 25] [(3,.pointer (some ⟨b1,0,none⟩)),(4,v1),(5,v2),(6,iV r3.1),(8,iV r4.2.1),(10,u4),(56,bV ((!decide ((Fm [r4.2.2,r5.2]) = 0)) || (!decide ((r5.1.length : Int) = (r1.1.length : Int)))))] 116 a w') ?_ ?_
 ·rcases Bool.eq_false_or_eq_true (!decide ((Fm [r4.2.2,r5.2]) = 0)) with hb1 | hb1
  ·iterate 5 (refine Ik S rfl rfl rfl (Nf hb1) rfl ?_ rfl;clear S;intro a S)
   exact lv S (Mv (!decide ((r5.1.length : Int) = (r1.1.length : Int))) hb1 (S.tm rfl) rfl) rfl fun a S=>Dl (⟨Keep.refl _ _,S.nf [true,true] rfl (subR rfl)⟩)
  ·refine Ej S rfl rfl rfl hb1 (Vm S rfl rfl fun a S=>Ej S rfl rfl rfl hb1 (lv S (Gc Jr (S.tm rfl) (Dy (Fw An.enc_ok hs4))) rfl fun a S=>Ej S rfl rfl rfl hb1 (Vm S rfl rfl fun a S=>Ej S rfl rfl rfl hb1 (lv S (Gc Jr (S.tm rfl) (Dy (Fw An.enc_ok hs1))) rfl fun a S=>Ej S rfl rfl rfl hb1 (Vb S Mj rfl rfl rfl fun a S=>lv S (Mw hb1 (S.tm rfl) (S.tm rfl)) rfl ?_)))));clear S;intro a S
   exact Dl (⟨Keep.refl _ _,S.nf [true,true] rfl (subR rfl)⟩)
 clear S;rintro a w9 ⟨hk9,S⟩
 refine Dl (Fc h (S.tm rfl) (fun hb2 h=>?_) (fun hb2 h=>?_))
 ·refine Fr (Vk S rfl rfl fun a S=>Dl (wp_ret (Ee ?_)))
  obtain rfl:=Option.some.inj h
  exact Fz S results3 rfl rfl
 ·refine wp_skip (Tn (Fs (Fg ?_)))
  iterate 3 (refine Vm S rfl rfl ?_;clear S;intro a S)
  obtain ⟨r6,hr6,h⟩:=Gs h
  have hz7:=S.keep.size
  refine Eg S (fun _=>Eb (vs:=[u4,v2,iV 0,iV r3.1]) ⟨(S.tm rfl),(S.tm rfl),rfl,(S.tm rfl),trivial⟩ call10) (Sp _ u4 r5.1 ((Fw An.enc_ok hs4).mono (S.le_new Fk)) v2 r2.1 ((Fw Eh.enc_ok hs2).mono (View.le_trans (View.le_trans hl3 hl4) (S.le_new Fk))) 0 r3.1 _ hr6) rfl ?_;clear S;intro v7 a w10 hv7 hk10 hn7 S
  obtain ⟨u5,rfl,ho5⟩:=hv7
  obtain ⟨φ5,hl5,hm5,S⟩:=S.see' hn7 hz7
  have hs5:=ho5.mono hm5
  refine Vm S rfl rfl fun a S=>Vq S Gu rfl rfl rfl fun a S=>Vq S Gu rfl rfl rfl fun a S=>Va S rfl rfl fun a S=>Va S rfl rfl fun a S=>Ld ?_
  replace S:=(S.nl [.blk b1 [Ad,iV r3.2] 25] [false,true] rfl).k7 3 4 5 6 8 12 13 rfl
  refine Tn (Fr (Vk S rfl rfl ?_));clear S;intro a S
  replace S:=S.nil 9 1
  refine Dl (Fs (Fr (Vm S rfl rfl fun a S=>Vm S rfl rfl fun a S=>lv S (Gc Jr (S.tm rfl) (Dy (Fw An.enc_ok hs1))) rfl ?_)));clear S;intro a S
  obtain ⟨r7,hr7,h⟩:=Gs h
  have hz8:=S.keep.size
  refine Lu 1 S (b:=b1) rfl rfl (fun _=>.blk b1 [Ad,iV r7.2] 25) (fun _=>Eb (vs:=[.pointer (some ⟨b1,0,none⟩),iV (r1.1.length : Int)]) ⟨(S.tm rfl),(S.tm rfl),trivial⟩ call11) (Yd _ b1 Ad Ao (Am.mono (S.le_arg (Er (i:=1) (e:=.blk b1 [Ad,iV r3.2] 25) rfl))) r3.2 (S.holds _ (List.mem_of_getElem? (i:=1) rfl)) (r1.1.length : Int) _ hr7) rfl (fun _ _ _ h=>⟨h.1,fun _ hc=>by cases hc;rfl⟩) ?_;clear S;intro v8 a w11 hv8 hk11 hn8 S
  replace hv8:=hv8.2
  obtain ⟨φ6,hl6,hm6,S⟩:=S.see' hn8 hz8
  have hs6:=hv8.mono hm6
  refine lv S (Gc Js (S.tm rfl) (Dy (Fw Ge hs6))) rfl fun a S=>lv S (Rm rfl) rfl fun a S=>Dl ?_
  replace S:=(S.nl [.own (.slice none 0 0) 9 1 ([] : List ByteArray).length (([] : List ByteArray).flatMap Qi)] [true,false] rfl).k10 4 5 6 8 12 13 14 67 68 69 rfl
  obtain ⟨j1,hj1,h⟩:=Gh h
  refine Fv (fun a w'=>∃ x1 : List ByteArray,∃ v9 : Value,j1 x1 = some r ∧ Sx w [] φ6 [.own v9 9 1 x1.length (x1.flatMap Qi)] [(4,v1),(5,v2),(6,iV r3.1),(8,iV r4.2.1),(12,u5),(13,iV r6.2),(14,v9)] 116 a w') ?_ ?_
  ·refine wp_block (Hr (fun (ys1 : List Int) a w'=>∃ i1 : Nat,∃ x1 : List ByteArray,∃ v9 : Value,(∃ dn,r7.1 = dn ++ ys1 ∧ dn.length = i1) ∧ Gj r1 j1 ys1 i1 x1 = some r ∧ Sx w [] φ6 [.own v9 9 1 x1.length (x1.flatMap Qi)] [(4,v1),(5,v2),(6,iV r3.1),(8,iV r4.2.1),(12,u5),(13,iV r6.2),(14,v9),(67,v8),(68,iV (r7.1.length : Int)),(69,iV (i1 : Int))] 116 a w') List.length r7.1 ⟨0,([] : List ByteArray),(.slice none 0 0),⟨[],rfl,rfl⟩,h,S.nf [true] rfl (subR rfl)⟩ ?_)
   clear S h;rintro ys1 a w12 ⟨i1,x1,v9,⟨dn,hd1,hi1⟩,h,S⟩
   cases ys1 with
   | nil =>
    rw [Gj.eq_1] at h
    refine Fr (Vb S Fu rfl rfl rfl fun a S=>Ld ?_)
    replace S:=S.k11 4 5 6 8 12 13 14 67 68 69 70 rfl
    exact Tn (Fs (wp_cond_false ((S.tm rfl).trans (congrArg Value.bool (Jd hd1 hi1))) (wp_exit (Fj (Fj (Hp (Tn (⟨x1,v9,h,S.nf [true] rfl (subR rfl)⟩))))))))
   | cons y1 ys1 =>
    rw [Gj.eq_2] at h
    refine Fr (Vb S Fu rfl rfl rfl fun a S=>Ld ?_)
    replace S:=S.k11 4 5 6 8 12 13 14 67 68 69 70 rfl
    refine Tn (Fs (wp_cond_true ((S.tm rfl).trans (congrArg Value.bool (Hx hd1 hi1))) (wp_skip (Tn (Fs (wp_block (Fs (Fg ?_))))))))
    obtain ⟨b3,o1,hm7,hr8⟩:=Fo (a:=a) (x:=.tmp 67) (y:=.tmp 69) (ty:=0) Js (Fw Ge hs6) (Il hd1 hi1) rfl (S.tm rfl) (S.tm rfl)
    refine lv S (hr8 _) rfl ?_;clear S;intro a S
    clear hr8
    refine lv S (Ha isAgg3 (off:=o1) (o:=0) (S.tm rfl) (hm7.at S.emb) rfl) rfl fun a S=>Va S rfl rfl fun a S=>Dl (Fg ?_)
    iterate 3 (refine Vm S rfl rfl ?_;clear S;intro a S)
    obtain ⟨hc1,h⟩:=Hs h
    obtain ⟨b4,o2,hm8,hr9⟩:=Fo (a:=a) (x:=.tmp 74) (y:=.tmp 75) (ty:=0) Jr (Fw An.enc_ok hs1) (Ef hc1).1 (Ef hc1).2 (S.tm rfl) (S.tm rfl)
    refine lv S (hr9 _) rfl ?_;clear S;intro a S
    clear hr9
    refine Vf Ph S rfl rfl fun a S=>lv S (Ha isAgg9 (off:=o2) (o:=0) (S.tm rfl) ((hm8.mono (View.le_trans (View.le_trans (View.le_trans (View.le_trans hl2 hl3) hl4) hl5) hl6)).at S.emb) rfl) rfl fun a S=>Ff S underlying31 sizeOf9 zeroValue9 rfl rfl (pv:=[(0,sV ((nth r1.1 y1).Key))]) ⟨rfl,(S.tm rfl),trivial⟩ (cs:=[sV ((nth r1.1 y1).Key)]) (by kernel_rfl) rfl ?_;clear S;intro a w14 b5 hz9 hk12 S
    obtain ⟨hc2,h⟩:=Hs h
    refine Nj Pn Pt S (S.tm rfl) (i:=1) rfl (S.tm rfl) (j:=0) rfl (ys:=[(nth r1.1 y1).Key]) rfl rfl rfl rfl (by have:=Kl hc2;omega) rfl ?_;clear S;intro v10 a w15 hk13 S
    refine Va S rfl rfl fun a S=>Ld ?_
    replace S:=(S.nl [.own v10 9 1 (x1 ++ [(nth r1.1 y1).Key]).length ((x1 ++ [(nth r1.1 y1).Key]).flatMap Qi)] [false,true] rfl).k10 4 5 6 8 12 13 14 67 68 69 rfl
    exact Ja (Tn (Fg (Vq S Gf rfl rfl rfl fun a S=>Vm S rfl rfl fun a S=>Dl (⟨ys1,⟨i1 + 1,(x1 ++ [(nth r1.1 y1).Key]),v10,⟨_,(hd1).trans (List.append_cons _ _ _),by simp [hi1]⟩,h,S.nf [true] rfl ⟨rfl,rfl,rfl,rfl,rfl,rfl,rfl,rfl,rfl,(congrArg (fun z=>some (Value.int .i64 z)) (Hy hd1 hi1 (Km (Fw Ge hs6)))),trivial⟩⟩,Nat.lt_succ_self _⟩))))
  clear S h;rintro a w13 ⟨x1,v9,h,S⟩;rw [hj1] at h;clear hj1 j1
  refine Tn (Fr (Vm S rfl rfl fun a S=>Vm S rfl rfl ?_));clear S;intro a S
  obtain ⟨r8,hr10,h⟩:=Gs h
  have hz10:=S.keep.size
  refine Eg S (fun _=>Eb (vs:=[v1,v9]) ⟨(S.tm rfl),(S.tm rfl),trivial⟩ call8) (Sn _ v1 r1.1 ((Fw An.enc_ok hs1).mono (View.le_trans (View.le_trans (View.le_trans (View.le_trans (View.le_trans hl2 hl3) hl4) hl5) hl6) (S.le_new Fk))) v9 x1 (Kt Pt S (i:=0) rfl (Gm (e':=.own v9 9 1 x1.length (x1.flatMap Qi)))) _ hr10) rfl ?_;clear S;intro v11 a w16 hv9 hk14 hn9 S
  obtain ⟨u7,rfl,ho7⟩:=hv9
  obtain ⟨φ7,hl7,hm9,S⟩:=S.see' hn9 hz10
  have hs7:=ho7.mono hm9
  refine Vm S rfl rfl fun a S=>Vq S Gu rfl rfl rfl fun a S=>Vq S Gu rfl rfl rfl fun a S=>Va S rfl rfl fun a S=>Va S rfl rfl fun a S=>Ld ?_
  replace S:=S.n0.k7 5 6 8 12 13 17 18 rfl
  refine Tn (Fs (Fg ?_))
  iterate 3 (refine Vm S rfl rfl ?_;clear S;intro a S)
  obtain ⟨r9,hr11,h⟩:=Gs h
  have hz11:=S.keep.size
  refine Eg S (fun _=>Eb (vs:=[u7,v2,iV 0,iV r3.1]) ⟨(S.tm rfl),(S.tm rfl),rfl,(S.tm rfl),trivial⟩ call10) (Sp _ u7 r8.1 ((Fw An.enc_ok hs7).mono (S.le_new Fk)) v2 r2.1 ((Fw Eh.enc_ok hs2).mono (View.le_trans (View.le_trans (View.le_trans (View.le_trans (View.le_trans hl3 hl4) hl5) hl6) hl7) (S.le_new Fk))) 0 r3.1 _ hr11) rfl ?_;clear S;intro v12 a w17 hv10 hk15 hn10 S
  obtain ⟨u8,rfl,ho8⟩:=hv10
  obtain ⟨φ8,hl8,hm10,S⟩:=S.see' hn10 hz11
  have hs8:=ho8.mono hm10
  refine Vm S rfl rfl fun a S=>Vq S Gu rfl rfl rfl fun a S=>Vq S Gu rfl rfl rfl fun a S=>Va S rfl rfl fun a S=>Va S rfl rfl fun a S=>Ld ?_
  replace S:=S.k6 8 12 13 18 19 20 rfl
  refine Tn (Fs (Fg ?_))
  iterate 3 (refine Vm S rfl rfl ?_;clear S;intro a S)
  refine Ff S underlying69 sizeOf32 zeroValue32 rfl rfl (pv:=[(0,iV r6.2),(1,iV r8.2),(2,iV r9.2)]) ⟨rfl,(S.tm rfl),rfl,(S.tm rfl),rfl,(S.tm rfl),trivial⟩ (cs:=[iV r6.2,iV r8.2,iV r9.2]) (by kernel_rfl) rfl ?_;clear S;intro a w18 b6 hz12 hk16 S
  refine Eg S (fun _=>Eb (vs:=[.slice (some ⟨b6,0,none⟩) 3 3]) ⟨(S.tm rfl),trivial⟩ call9) (Qe _ (.slice (some ⟨b6,0,none⟩) 3 3) [r6.2,r8.2,r9.2] (Ob Ge S (i:=0) rfl rfl rfl rfl ((Gm (e':=.blk b6 [iV r6.2,iV r8.2,iV r9.2] 32)) _ rfl)) _ rfl) rfl ?_;clear S;intro v13 a w19 hv11 hk17 hn11 S
  subst hv11
  refine Vq S Ko rfl rfl rfl fun a S=>Vm S rfl rfl fun a S=>Jm 5 (fun a w'=>Keep [] w19 w' ∧ Sx w [] φ8 [.blk b6 [iV r6.2,iV r8.2,iV r9.2] 32] [(8,iV r4.2.1),(19,u8),(106,bV ((decide ((Fm [r6.2,r8.2,r9.2]) = 0)) && (decide ((r6.1.length : Int) = r4.2.1))))] 116 a w') ?_ ?_
  ·rcases Bool.eq_false_or_eq_true (decide ((Fm [r6.2,r8.2,r9.2]) = 0)) with hb3 | hb3
   ·refine Ej S rfl rfl rfl hb3 (Vm S rfl rfl fun a S=>Ej S rfl rfl rfl hb3 (lv S (Gc Ua (S.tm rfl) (Dy (Fw Eu.enc_ok hs5))) rfl fun a S=>Ej S rfl rfl rfl hb3 (Vm S rfl rfl fun a S=>Ej S rfl rfl rfl hb3 (Vb S Ko rfl rfl rfl fun a S=>lv S (Jk hb3 (S.tm rfl) (S.tm rfl)) rfl fun a S=>Dl ?_))))
    exact ⟨Keep.refl _ _,S.nf [true] rfl (subR rfl)⟩
   ·iterate 4 (refine Ik S rfl rfl rfl (Lg hb3) rfl ?_ rfl;clear S;intro a S)
    exact lv S (Jl (decide ((r6.1.length : Int) = r4.2.1)) hb3 (S.tm rfl) rfl) rfl fun a S=>Dl (⟨Keep.refl _ _,S.nf [true] rfl (subR rfl)⟩)
  clear S;rintro a w20 ⟨hk18,S⟩
  refine Vm S rfl rfl fun a S=>Jm 5 (fun a w'=>Keep [] w20 w' ∧ Sx w [] φ8 [.blk b6 [iV r6.2,iV r8.2,iV r9.2] 32] [(112,bV (((decide ((Fm [r6.2,r8.2,r9.2]) = 0)) && (decide ((r6.1.length : Int) = r4.2.1))) && (decide (r4.2.1 ≤ (r9.1.length : Int)))))] 116 a w') ?_ ?_
  ·rcases Bool.eq_false_or_eq_true ((decide ((Fm [r6.2,r8.2,r9.2]) = 0)) && (decide ((r6.1.length : Int) = r4.2.1))) with hb4 | hb4
   ·refine Ej S rfl rfl rfl hb4 (Vm S rfl rfl fun a S=>Ej S rfl rfl rfl hb4 (Vm S rfl rfl fun a S=>Ej S rfl rfl rfl hb4 (lv S (Gc Ua (S.tm rfl) (Dy (Fw Eu.enc_ok hs8))) rfl fun a S=>Ej S rfl rfl rfl hb4 (Vb S St rfl rfl rfl fun a S=>lv S (Jk hb4 (S.tm rfl) (S.tm rfl)) rfl fun a S=>Dl ?_))))
    exact ⟨Keep.refl _ _,S.nf [true] rfl ⟨rfl,trivial⟩⟩
   ·iterate 4 (refine Ik S rfl rfl rfl (Lg hb4) rfl ?_ rfl;clear S;intro a S)
    exact lv S (Jl (decide (r4.2.1 ≤ (r9.1.length : Int))) hb4 (S.tm rfl) rfl) rfl fun a S=>Dl (⟨Keep.refl _ _,S.nf [true] rfl ⟨rfl,trivial⟩⟩)
  clear S;rintro a w21 ⟨hk19,S⟩
  refine Vm S rfl rfl ?_;clear S;intro a S
  obtain ⟨j2,hj2,h⟩:=Gh h
  refine Jm 2 (fun a w'=>∃ c1,j2 c1 = some r ∧ Keep [] w21 w' ∧ Sx w [] φ8 [.blk b6 [iV r6.2,iV r8.2,iV r9.2] 32] [(115,bV c1)] 116 a w') ?_ ?_
  ·rcases Bool.eq_false_or_eq_true (((decide ((Fm [r6.2,r8.2,r9.2]) = 0)) && (decide ((r6.1.length : Int) = r4.2.1))) && (decide (r4.2.1 ≤ (r9.1.length : Int)))) with hb5 | hb5
   ·replace h:=Qr h hb5
    refine Ej S rfl rfl rfl hb5 ?_
    obtain ⟨r10,hr12,h⟩:=Gs h
    refine Eg S (fun _=>Eb (vs:=[]) trivial call12) (Vt _ _ hr12) rfl ?_;clear S;intro v14 a w23 hv12 hk20 hn12 S
    subst hv12
    exact lv S (Jk hb5 (S.tm rfl) (S.tm rfl)) rfl fun a S=>Dl (⟨_,h,hk20,S.nf [true] rfl ⟨rfl,trivial⟩⟩)
   ·replace h:=Qs h hb5
    exact Ik S rfl rfl rfl (Lg hb5) rfl (fun a S=>Vq S (Jl true hb5) rfl rfl rfl fun a S=>Dl (⟨_,h,Keep.refl _ _,S.nf [true] rfl ⟨rfl,trivial⟩⟩)) rfl
  clear S h;rintro a w22 ⟨c1,h,hk21,S⟩;rw [hj2] at h;clear hj2 j2
  refine Va S rfl rfl fun a S=>Dl (wp_ret ?_)
  obtain rfl:=Option.some.inj h
  exact Fz S results3 rfl rfl
end Go.Proofs.YtombbefepcipcaaGreatDoor
