/- Each Go function computes its plain twin,by program. -/
import Derived.Test.YtlndicofaomdaaaGreatDoorWk2
namespace Go.Proofs.YtlndicofaomdaaaGreatDoor
open Go
open Go.Proofs.Tryz
theorem Oy (w : World) (Ak : Value) (Ay : List Gn) (Eb : (LEnt.own Ak 100 10 Ay.length (Ay.flatMap Gn.enc)).holds w) (Bs : Nat) (Cf : Int) (Dg : (view w (Ak.ownBlock.toList)) Bs = some (.cells [iV Cf].toArray 3 (0,0))) (r : (List Gn)) (h : Hz Ay Cf = some r) :
    Calls prog 61 [Ak,.func (.func 63) #[] #[.pointer (some ⟨Bs,0,none⟩)]].toArray w (Ret w (Ak.ownBlock.toList) fun _ v w'=>(LEnt.own v 100 10 r.length (r.flatMap Gn.enc)).holds w' ∧ v.ownBlock = Ak.ownBlock):=by
 refine Lp (Ak.ownBlock.toList) [.own Ak 100 10 Ay.length (Ay.flatMap Gn.enc)] func61 rfl ntmps61 rfl (fun e he=>by simp only [List.mem_singleton] at he;subst he;exact Eb) (Ml _) (Of _) fun a S=>?_
 unfold Hz at h
 replace S:=(S.nl [.own Ak 100 10 Ay.length (Ay.flatMap Gn.enc)] [true] rfl).k2 0 1 rfl
 refine Fr (Vk S rfl rfl fun a S=>Dz (Vm S rfl rfl fun a S=>Vm S rfl rfl fun a S=>Fo S (fun _=>Fa (vs:=[Ak,.func (.func 63) #[] #[.pointer (some ⟨Bs,0,none⟩)]]) ⟨(S.tm rfl),(S.tm rfl),trivial⟩ call85) (Pj _ Ak Ay (Ll Gn.enc_ok S (i:=0) rfl (Ij (e':=.own Ak 100 10 Ay.length (Ay.flatMap Gn.enc)))) Bs Cf ((S.le_arg Fy) _ _ Dg) _ rfl) rfl ?_));clear S;intro v1 a w1 hv1 hk1 hn1 S
 subst hv1
 refine Va S rfl rfl fun a S=>Dl (Fs (Fr (Vm S rfl rfl fun a S=>Vq S Px rfl rfl rfl fun a S=>Dl (Fc h (S.tm rfl) (fun hb1 h=>?_) (fun hb1 h=>?_)))))
 ·refine Fr (Vm S rfl rfl fun a S=>Va S rfl rfl fun a S=>Dl (wp_ret (Fk ?_)))
  obtain rfl:=Option.some.inj h
  exact Gm S results61 rfl ⟨(S.holds _ (List.mem_of_getElem? (i:=0) rfl)),rfl⟩
 ·refine wp_skip (Tn (Fs (Fr (Vm S rfl rfl fun a S=>Vq S Gx rfl rfl rfl fun a S=>Va S rfl rfl fun a S=>Dl ?_))))
  replace S:=S.k4 0 1 5 6 rfl
  obtain ⟨j1,hj1,h⟩:=Ha h
  refine Gv (fun a w'=>∃ x1 : List Gn,∃ x2 : Int,j1 x1 x2 = some r ∧ Sx w (Ak.ownBlock.toList) nov [.own Ak 100 10 x1.length (x1.flatMap Gn.enc)] [(0,Ak),(5,iV x2)] 42 a w') ?_ ?_
  ·refine wp_block (Iv (fun (m1 : Nat) a w'=>∃ x1 : List Gn,∃ x2 : Int,∃ x3 : Int,Gg Cf j1 m1 x1 x2 x3 = some r ∧ Sx w (Ak.ownBlock.toList) nov [.own Ak 100 10 x1.length (x1.flatMap Gn.enc)] [(0,Ak),(1,.func (.func 63) #[] #[.pointer (some ⟨Bs,0,none⟩)]),(5,iV x2),(6,iV x3)] 42 a w') id (((Ay.length : Int) - (W ((Gu Ay Cf) + 1))).toNat + 2) ⟨Ay,(Gu Ay Cf),W ((Gu Ay Cf) + 1),h,S.nf [true] rfl (subR rfl)⟩ ?_)
   clear S h;rintro m1 a w2 ⟨x1,x2,x3,h,S⟩
   cases m1 with
   | zero=>rw [Gg.eq_1] at h;cases h
   | succ m1 =>
    rw [Gg.eq_2] at h
    refine Fs (Fr (Vm S rfl rfl fun a S=>Vm S rfl rfl fun a S=>lv S (Gh Xp (S.tm rfl) (Ly (S.own_at (i:=0) rfl))) rfl fun a S=>Vb S Gb rfl rfl rfl fun a S=>Dl (Fc h (S.tm rfl) (fun hb2 h=>?_) (fun hb2 h=>?_))))
    ·refine wp_skip (Tn (Fs ?_))
     obtain ⟨j2,hj2,h⟩:=Ha h
     refine Gv (fun a w'=>∃ x4 : List Gn,∃ x5 : Int,j2 x4 x5 = some r ∧ Sx w (Ak.ownBlock.toList) nov [.own Ak 100 10 x4.length (x4.flatMap Gn.enc)] [(0,Ak),(1,.func (.func 63) #[] #[.pointer (some ⟨Bs,0,none⟩)]),(5,iV x5),(6,iV x3)] 42 a w') ?_ ?_
     ·refine wp_block (Fr (Vm S rfl rfl fun a S=>Vm S rfl rfl ?_));clear S;intro a S
      obtain ⟨hc1,h⟩:=Ig h
      obtain ⟨b1,hg1,hr1⟩:=Hn (a:=a) (x:=.tmp 22) (y:=.tmp 23) (ty:=0) Xp Gn.enc_ok S (i:=0) rfl (Ff hc1).1 (Ff hc1).2 (S.tm rfl) (S.tm rfl)
      refine lv S (hr1 _) rfl ?_;clear S;intro a S
      clear hr1
      refine lv S (Ji isAgg100 sizeOf100 (off:=x3.toNat * 10) (o:=0) (part:=(Gn.enc (Gn.mk ((nth x1 x3).Who) (Fb.mk (((nth x1 x3).From).Item) (((nth x1 x3).From).Heat) (((nth x1 x3).From).Time)) (Fb.mk (((nth x1 x3).To).Item) (((nth x1 x3).To).Heat) (((nth x1 x3).To).Time)) ((nth x1 x3).Long)))) rfl rfl (S.tm rfl) (Kx Gn.enc_ok S (i:=0) rfl hg1 (Ff hc1).1)) rfl fun a S=>Mw S zeroValue100 (cs:=[sV Ga,sV Ga,iV 0,iV 0,iV 0,sV Ga,iV 0,iV 0,iV 0,iV 0]) rfl rfl ?_;clear S;intro a w5 b2 hz1 hk2 S
      refine Ku S (S.tm rfl) (S.tm rfl) (i:=0) (off:=0) rfl sizeOf100 (vs:=(Gn.enc (Gn.mk ((nth x1 x3).Who) (Fb.mk (((nth x1 x3).From).Item) (((nth x1 x3).From).Heat) (((nth x1 x3).From).Time)) (Fb.mk (((nth x1 x3).To).Item) (((nth x1 x3).To).Heat) (((nth x1 x3).To).Time)) ((nth x1 x3).Long)))) rfl rfl rfl rfl ?_;clear S;intro w6 hk3 S
      refine Dz (Vm S rfl rfl fun a S=>lv S (Ji isAgg100 sizeOf100 (off:=0) (o:=0) (part:=(Gn.enc (Gn.mk ((nth x1 x3).Who) (Fb.mk (((nth x1 x3).From).Item) (((nth x1 x3).From).Heat) (((nth x1 x3).From).Time)) (Fb.mk (((nth x1 x3).To).Item) (((nth x1 x3).To).Heat) (((nth x1 x3).To).Time)) ((nth x1 x3).Long)))) rfl rfl (S.tm rfl) (S.cellsAt (i:=0) rfl)) rfl fun a S=>Fo S (fun _=>Pb (cap:=[.pointer (some ⟨Bs,0,none⟩)]) (S.tm rfl) (vs:=[.agg (Gn.enc (Gn.mk ((nth x1 x3).Who) (Fb.mk (((nth x1 x3).From).Item) (((nth x1 x3).From).Heat) (((nth x1 x3).From).Time)) (Fb.mk (((nth x1 x3).To).Item) (((nth x1 x3).To).Heat) (((nth x1 x3).To).Time)) ((nth x1 x3).Long))).toArray]) ⟨(S.tm rfl),trivial⟩ call63) (Sh _ (Gn.mk ((nth x1 x3).Who) (Fb.mk (((nth x1 x3).From).Item) (((nth x1 x3).From).Heat) (((nth x1 x3).From).Time)) (Fb.mk (((nth x1 x3).To).Item) (((nth x1 x3).To).Heat) (((nth x1 x3).To).Time)) ((nth x1 x3).Long)) Bs Cf ((S.le_arg Fy) _ _ Dg) _ rfl) rfl ?_);clear S;intro v2 a w7 hv2 hk4 hn2 S
      subst hv2
      refine Vu S Mo rfl rfl fun a S=>Ld ?_
      replace S:=(S.nl [.blk b2 (Gn.enc (Gn.mk ((nth x1 x3).Who) (Fb.mk (((nth x1 x3).From).Item) (((nth x1 x3).From).Heat) (((nth x1 x3).From).Time)) (Fb.mk (((nth x1 x3).To).Item) (((nth x1 x3).To).Heat) (((nth x1 x3).To).Time)) ((nth x1 x3).Long))) 100,.own Ak 100 10 x1.length (x1.flatMap Gn.enc)] [true,true] rfl).k6 0 1 5 6 7 29 rfl
      refine Tn ?_
      obtain ⟨j3,hj3,h⟩:=Ha h
      refine Gv (fun a w'=>∃ x6 : List Gn,∃ x7 : Int,j3 x6 x7 = some r ∧ Sx w (Ak.ownBlock.toList) nov [.blk b2 (Gn.enc (Gn.mk ((nth x1 x3).Who) (Fb.mk (((nth x1 x3).From).Item) (((nth x1 x3).From).Heat) (((nth x1 x3).From).Time)) (Fb.mk (((nth x1 x3).To).Item) (((nth x1 x3).To).Heat) (((nth x1 x3).To).Time)) ((nth x1 x3).Long))) 100,.own Ak 100 10 x6.length (x6.flatMap Gn.enc)] [(0,Ak),(1,.func (.func 63) #[] #[.pointer (some ⟨Bs,0,none⟩)]),(5,iV x7),(6,iV x3)] 42 a w') ?_ ?_
      ·refine Fc h (S.tm rfl) (fun hb3 h=>?_) (fun hb3 h=>?_)
       ·refine Fr (Vm S rfl rfl fun a S=>Vm S rfl rfl fun a S=>lv S (Ji isAgg100 sizeOf100 (off:=0) (o:=0) (part:=(Gn.enc (Gn.mk ((nth x1 x3).Who) (Fb.mk (((nth x1 x3).From).Item) (((nth x1 x3).From).Heat) (((nth x1 x3).From).Time)) (Fb.mk (((nth x1 x3).To).Item) (((nth x1 x3).To).Heat) (((nth x1 x3).To).Time)) ((nth x1 x3).Long)))) rfl rfl (S.tm rfl) (S.cellsAt (i:=0) rfl)) rfl ?_);clear S;intro a S
        obtain ⟨hc2,h⟩:=Ig h
        obtain ⟨b3,hg2,hr2⟩:=Hn (a:=a) (x:=.tmp 30) (y:=.tmp 31) (ty:=0) Xp Gn.enc_ok S (i:=1) rfl (Ff hc2).1 (Ff hc2).2 (S.tm rfl) (S.tm rfl)
        refine lv S (hr2 _) rfl ?_;clear S;intro a S
        clear hr2
        refine Ki (c:=0) (j:=x2.toNat) (Gn.mk ((nth x1 x3).Who) (Fb.mk (((nth x1 x3).From).Item) (((nth x1 x3).From).Heat) (((nth x1 x3).From).Time)) (Fb.mk (((nth x1 x3).To).Item) (((nth x1 x3).To).Heat) (((nth x1 x3).To).Time)) ((nth x1 x3).Long)) Gn.enc_ok S (S.tm rfl) (S.tm rfl) (i:=1) rfl hg2 (Ff hc2).1 sizeOf100 (vs:=[sV ((nth x1 x3).Who),sV (((nth x1 x3).From).Item),iV (((nth x1 x3).From).Heat),iV ((((nth x1 x3).From).Time).From),iV ((((nth x1 x3).From).Time).To),sV (((nth x1 x3).To).Item),iV (((nth x1 x3).To).Heat),iV ((((nth x1 x3).To).Time).From),iV ((((nth x1 x3).To).Time).To),iV ((nth x1 x3).Long)]) rfl rfl rfl rfl rfl ?_;clear S;intro w10 hk6 S
        exact Dl (Fg (Vm S rfl rfl fun a S=>Vq S Gx rfl rfl rfl fun a S=>Va S rfl rfl fun a S=>Dl (⟨(x1.set x2.toNat (Gn.mk ((nth x1 x3).Who) (Fb.mk (((nth x1 x3).From).Item) (((nth x1 x3).From).Heat) (((nth x1 x3).From).Time)) (Fb.mk (((nth x1 x3).To).Item) (((nth x1 x3).To).Heat) (((nth x1 x3).To).Time)) ((nth x1 x3).Long))),W (x2 + 1),h,S.nf [true,true] rfl (subR rfl)⟩)))
       ·exact wp_skip (Tn (⟨x1,x2,h,S.nf [true,true] rfl (subR rfl)⟩))
      clear S h;rintro a w8 ⟨x6,x7,h,S⟩;rw [hj3] at h;clear hj3 j3
      exact Kb (Tn (⟨x6,x7,h,S.nf [false,true] rfl (subR rfl)⟩))
     clear S h;rintro a w4 ⟨x4,x5,h,S⟩;rw [hj2] at h;clear hj2 j2
     exact Tn (Fg (Vm S rfl rfl fun a S=>Vq S Gx rfl rfl rfl fun a S=>Va S rfl rfl fun a S=>Dl (⟨m1,⟨x4,x5,W (x3 + 1),h,S.nf [true] rfl ⟨rfl,rfl,rfl,rfl,trivial⟩⟩,Nat.lt_succ_self _⟩)))
    ·exact wp_exit (Gk (Gk (Jc (Tn (⟨x1,x2,h,S.nf [true] rfl (subR rfl)⟩)))))
  clear S h;rintro a w3 ⟨x1,x2,h,S⟩;rw [hj1] at h;clear hj1 j1
  refine Tn (Fr (Vm S rfl rfl fun a S=>Vm S rfl rfl ?_));clear S;intro a S
  obtain ⟨hc3,h⟩:=Ig h
  obtain ⟨u1,hu1,hr3⟩:=AN (a:=a) (x:=.tmp 36) (y:=.tmp 37) (ty:=73) Xp S (i:=0) rfl (S.tm rfl) (S.tm rfl) hc3
  refine lv S (hr3 _) rfl ?_;clear S;intro a S
  clear hr3
  refine EH (zl:=x2) (zh:=(x1.length : Int)) (z:=(Gn.mk Ga (Fb.mk Ga 0 (Jj.mk 0 0)) (Fb.mk Ga 0 (Jj.mk 0 0)) 0)) Xp rfl Gn.enc_ok S (i:=0) rfl hu1 (S.tm rfl) zeroValue100 rfl ?_;clear S;intro w11 hk7 S
  refine Dz (Vm S rfl rfl fun a S=>Vm S rfl rfl ?_);clear S;intro a S
  obtain ⟨hc4,h⟩:=Ig h
  obtain ⟨u2,hu2,hr4⟩:=EF (a:=a) (x:=.tmp 39) (y':=.tmp 40) (ty:=73) Xp S (i:=0) rfl (S.tm rfl) (S.tm rfl) hc4
  refine lv S (hr4 _) rfl ?_;clear S;intro a S
  clear hr4
  refine Va S rfl rfl fun a S=>Dl (wp_ret ?_)
  obtain ⟨S,hz2⟩:=S.ownCut (zh:=x2) Gn.enc_ok (i:=0) rfl hu2
  obtain rfl:=Option.some.inj h
  exact Gm S results61 rfl ⟨(S.holds _ (List.mem_of_getElem? (i:=0) rfl)),(Yn.block hu2)⟩
theorem Xj (w : World) (Ab : Value) (Ae : List An) (As : Slc (view w []) 5 Ab (Ae.map An.enc)) (Ad : Value) (Ar : List Ex) (Ap : Slc (view w []) 3 Ad (Ar.map Ex.enc)) (Be : Int) (Aw : Int) (r : (List Gn)) (h : Pe Ae Ar Be Aw = some r) :
    Calls prog 38 [Ab,Ad,iV Be,iV Aw].toArray w (Ret w [] fun τ v _=>Pk τ 100 10 v r.length (r.flatMap Gn.enc)):=by
 refine Fe func38 rfl ntmps38 rfl fun a S=>?_
 unfold Pe at h
 replace S:=S.k4 0 1 2 3 rfl
 refine Fr (Pt S (S.tm rfl) (cs:=[iV Aw]) rfl rfl ?_);clear S;intro a w1 b1 hz1 hk1 S
 refine Vk S rfl rfl fun a S=>Dl (Fs (Fg ?_))
 iterate 3 (refine Vm S rfl rfl ?_;clear S;intro a S)
 obtain ⟨r1,hr1,h⟩:=He h
 have hz2:=S.keep.size
 refine Fo S (fun _=>Fa (vs:=[Ab,Ad,iV Be]) ⟨(S.tm rfl),(S.tm rfl),(S.tm rfl),trivial⟩ call62) (Xi _ Ab Ae (As.mono (S.le_arg Fy)) Ad Ar (Ap.mono (S.le_arg Fy)) Be _ hr1) rfl ?_;clear S;intro v1 a w2 hv1 hk2 hn1 S
 replace S:=S.take hn1 hz2 hv1
 refine lv S (Sr (us:=#[]) (xs:=[].toArray) (ys:=[.tmp 7].toArray) (by simp) (evA ⟨(S.tm rfl),trivial⟩ (vs:=[.pointer (some ⟨b1,0,none⟩)]))) rfl ?_;clear S;intro a S
 obtain ⟨r2,hr2,h⟩:=He h
 have hz3:=S.keep.size
 refine Rq 0 S rfl (fun v2=>.own v2 100 10 r2.length (r2.flatMap Gn.enc)) (fun _=>Fa (vs:=[v1,.func (.func 63) #[] #[.pointer (some ⟨b1,0,none⟩)]]) ⟨(S.tm rfl),(S.tm rfl),trivial⟩ call61) (Oy _ v1 r1 (S.holds _ (List.mem_of_getElem? (i:=0) rfl)) b1 Aw (S.blk_view (i:=1) rfl ((Ke (i:=0) (j:=1) (e:=.own v1 100 10 r1.length (r1.flatMap Gn.enc)) (e':=.blk b1 [iV Aw] 3) S rfl rfl rfl) _ rfl)) _ hr2) rfl (fun _ _ _ h=>⟨h.1,fun _ hc=>h.2.symm.trans hc⟩) ?_;clear S;intro v2 a w3 hv2 hk3 hn2 S
 clear hv2
 refine Va S rfl rfl fun a S=>Dl (wp_ret ?_)
 obtain rfl:=Option.some.inj h
 exact Gm S results38 rfl (Pu S (i:=0) rfl rfl)
theorem Yu (w : World) (Ad : Value) (Ar : List An) (Ap : Slc (view w []) 5 Ad (Ar.map An.enc)) (Be : Int) (r : Int) (h : Qi Ar Be = some r) :
    Calls prog 39 [Ad,iV Be].toArray w (Ret w [] fun _ v _=>v = iV r):=by
 refine Fe func39 rfl ntmps39 rfl fun a S=>?_
 unfold Qi at h
 replace S:=S.k2 0 1 rfl
 refine Fr (Vk S rfl rfl fun a S=>Dl (Fs (Fr (Vm S rfl rfl fun a S=>Vm S rfl rfl ?_))));clear S;intro a S
 obtain ⟨r1,hr1,h⟩:=He h
 have hz1:=S.keep.size
 refine Fo S (fun _=>Fa (vs:=[Ad,iV Be]) ⟨(S.tm rfl),(S.tm rfl),trivial⟩ call64) (Td _ Ad Ar (Ap.mono (S.le_arg Fy)) Be _ hr1) rfl ?_;clear S;intro v1 a w1 hv1 hk1 hn1 S
 obtain ⟨φ1,hl1,hm1,S⟩:=S.see' hn1 hz1
 have hs1:=hv1.mono hm1
 refine lv S (Gh Qk (S.tm rfl) (Ey (Gw Fb.enc_ok hs1))) rfl fun a S=>lv S (Rm rfl) rfl fun a S=>Dl ?_
 replace S:=S.k4 1 9 10 11 rfl
 obtain ⟨j1,hj1,h⟩:=Ha h
 refine Gv (fun a w'=>∃ x1 : Int,j1 x1 = some r ∧ Sx w [] φ1 [] [(1,iV x1)] 20 a w') ?_ ?_
 ·refine wp_block (Iv (fun (ys1 : List Fb) a w'=>∃ i1 : Nat,∃ x1 : Int,(∃ dn,r1 = dn ++ ys1 ∧ dn.length = i1) ∧ Kh j1 ys1 i1 x1 = some r ∧ Sx w [] φ1 [] [(1,iV x1),(9,v1),(10,iV (r1.length : Int)),(11,iV (i1 : Int))] 20 a w') List.length r1 ⟨0,Be,⟨[],rfl,rfl⟩,h,S.nf [] rfl (subR rfl)⟩ ?_)
  clear S h;rintro ys1 a w2 ⟨i1,x1,⟨dn,hd1,hi1⟩,h,S⟩
  cases ys1 with
  | nil =>
   rw [Kh.eq_1] at h
   refine Fr (Vb S Gb rfl rfl rfl fun a S=>Ld ?_)
   replace S:=S.k5 1 9 10 11 12 rfl
   exact Tn (Fs (wp_cond_false ((S.tm rfl).trans (congrArg Value.bool (Jr hd1 hi1))) (wp_exit (Gk (Gk (Jc (Tn (⟨x1,h,S.nf [] rfl ⟨rfl,trivial⟩⟩))))))))
  | cons y1 ys1 =>
   rw [Kh.eq_2] at h
   refine Fr (Vb S Gb rfl rfl rfl fun a S=>Ld ?_)
   replace S:=S.k5 1 9 10 11 12 rfl
   refine Tn (Fs (wp_cond_true ((S.tm rfl).trans (congrArg Value.bool (Ih hd1 hi1))) (wp_skip (Tn (Fs (wp_block (Fs (Fg ?_))))))))
   obtain ⟨b1,o1,hm2,hr2⟩:=Gd (a:=a) (x:=.tmp 9) (y:=.tmp 11) (ty:=0) Qk (Gw Fb.enc_ok hs1) (Jd hd1 hi1) rfl (S.tm rfl) (S.tm rfl)
   refine lv S (hr2 _) rfl ?_;clear S;intro a S
   clear hr2
   refine lv S (Ji isAgg85 sizeOf85 (off:=o1) (o:=0) (part:=(Fb.enc y1)) rfl rfl (S.tm rfl) (hm2.at S.emb)) rfl fun a S=>Mw S zeroValue85 (cs:=[sV Ga,iV 0,iV 0,iV 0]) rfl rfl ?_;clear S;intro a w4 b2 hz2 hk2 S
   refine Ku S (S.tm rfl) (S.tm rfl) (i:=0) (off:=0) rfl sizeOf85 (vs:=(Fb.enc y1)) rfl rfl rfl rfl ?_;clear S;intro w5 hk3 S
   refine Dl (Fg (Vf Wx S rfl rfl fun a S=>Vf Yt S rfl rfl fun a S=>Vl isAgg3 0 S rfl rfl rfl rfl fun a S=>Va S rfl rfl fun a S=>Ld (Kb (Tn (Fg ?_)))))
   exact Vq S Gx rfl rfl rfl fun a S=>Vm S rfl rfl fun a S=>Dl (⟨ys1,⟨i1 + 1,y1.Time.To,⟨_,(hd1).trans (List.append_cons _ _ _),by simp [hi1]⟩,h,S.nf [false] rfl ⟨rfl,rfl,rfl,(congrArg (fun z=>some (Value.int .i64 z)) (Ii hd1 hi1 (Kl (Gw Fb.enc_ok hs1)))),trivial⟩⟩,Nat.lt_succ_self _⟩)
 clear S h;rintro a w3 ⟨x1,h,S⟩;rw [hj1] at h;clear hj1 j1
 refine Tn (Fr (Vm S rfl rfl fun a S=>Va S rfl rfl fun a S=>Dl (wp_ret ?_)))
 obtain rfl:=Option.some.inj h
 exact Gm S results39 rfl rfl
theorem Uc (self : (List An) → (List An) → (List Ex) → Int → Int → Int → (List ByteArray) → Option (Int × Int × (List ByteArray))) (hself : ∀ (w : World) (X : List Nat) (Bn : Value) (Ch : List An) (_ : Slc (view w X) 5 Bn (Ch.map An.enc)) (Br : Nat) (Ce : Value) (Cd : List An) (_ : Slc (view w X) 5 Ce (Cd.map An.enc)) (_ : (view w X) Br = some (.cells [Ce].toArray 26 (0,0))) (Ci : Nat) (Cs : Value) (Do : List Ex) (_ : Slc (view w X) 3 Cs (Do.map Ex.enc)) (_ : (view w X) Ci = some (.cells [Cs].toArray 29 (0,0))) (Cj : Nat) (Dk : Int) (_ : (view w X) Cj = some (.cells [iV Dk].toArray 3 (0,0))) (At : Nat) (Bu : Int) (_ : (LEnt.blk At [iV Bu] 3).holds w) (Au : Nat) (Cg : Int) (_ : (LEnt.blk Au [iV Cg] 3).holds w) (Av : Nat) (Bg : Value) (Bp : List ByteArray) (_ : (LEnt.own Bg 9 1 Bp.length (Bp.flatMap Ic)).holds w) (_ : (LEnt.blk Av [Bg] 31).holds w) (Ca : Nat) (_ : (view w X) Ca = some (.cells [.func (.func 36) #[] #[.pointer (some ⟨Br,0,none⟩),.pointer (some ⟨Ca,0,none⟩),.pointer (some ⟨Ci,0,none⟩),.pointer (some ⟨Cj,0,none⟩),.pointer (some ⟨At,0,none⟩),.pointer (some ⟨Au,0,none⟩),.pointer (some ⟨Av,0,none⟩)]].toArray 71 (0,0))) (_ : X.Nodup) (_ : X = fps [.blk At [iV Bu] 3,.blk Au [iV Cg] 3,.blk Av [Bg] 31,.own Bg 9 1 Bp.length (Bp.flatMap Ic)]) (r : Int × Int × (List ByteArray)) (_ : self Ch Cd Do Dk Bu Cg Bp = some r),
    Calls prog 36 [Bn,.pointer (some ⟨Br,0,none⟩),.pointer (some ⟨Ca,0,none⟩),.pointer (some ⟨Ci,0,none⟩),.pointer (some ⟨Cj,0,none⟩),.pointer (some ⟨At,0,none⟩),.pointer (some ⟨Au,0,none⟩),.pointer (some ⟨Av,0,none⟩)].toArray w (Ret w X fun _ v w'=>∃ y1 : Value,Grp w w' X [.blk At [iV r.1] 3,.blk Au [iV r.2.1] 3,.blk Av [y1] 31,.own y1 9 1 r.2.2.length (r.2.2.flatMap Ic)] ∧ v = .tuple #[])) (w : World) (X : List Nat) (Bn : Value) (Ch : List An) (Cn : Slc (view w X) 5 Bn (Ch.map An.enc)) (Br : Nat) (Ce : Value) (Cd : List An) (Db : Slc (view w X) 5 Ce (Cd.map An.enc)) (Cc : (view w X) Br = some (.cells [Ce].toArray 26 (0,0))) (Ci : Nat) (Cs : Value) (Do : List Ex) (Dw : Slc (view w X) 3 Cs (Do.map Ex.enc)) (Dq : (view w X) Ci = some (.cells [Cs].toArray 29 (0,0))) (Cj : Nat) (Dk : Int) (Ds : (view w X) Cj = some (.cells [iV Dk].toArray 3 (0,0))) (At : Nat) (Bu : Int) (Ek : (LEnt.blk At [iV Bu] 3).holds w) (Au : Nat) (Cg : Int) (El : (LEnt.blk Au [iV Cg] 3).holds w) (Av : Nat) (Bg : Value) (Bp : List ByteArray) (Em : (LEnt.own Bg 9 1 Bp.length (Bp.flatMap Ic)).holds w) (En : (LEnt.blk Av [Bg] 31).holds w) (Ca : Nat) (Df : (view w X) Ca = some (.cells [.func (.func 36) #[] #[.pointer (some ⟨Br,0,none⟩),.pointer (some ⟨Ca,0,none⟩),.pointer (some ⟨Ci,0,none⟩),.pointer (some ⟨Cj,0,none⟩),.pointer (some ⟨At,0,none⟩),.pointer (some ⟨Au,0,none⟩),.pointer (some ⟨Av,0,none⟩)]].toArray 71 (0,0))) (hXn : X.Nodup) (hXe : X = fps [.blk At [iV Bu] 3,.blk Au [iV Cg] 3,.blk Av [Bg] 31,.own Bg 9 1 Bp.length (Bp.flatMap Ic)]) (r : Int × Int × (List ByteArray)) (h : Ob self Ch Cd Do Dk Bu Cg Bp = some r) :
    Calls prog 36 [Bn,.pointer (some ⟨Br,0,none⟩),.pointer (some ⟨Ca,0,none⟩),.pointer (some ⟨Ci,0,none⟩),.pointer (some ⟨Cj,0,none⟩),.pointer (some ⟨At,0,none⟩),.pointer (some ⟨Au,0,none⟩),.pointer (some ⟨Av,0,none⟩)].toArray w (Ret w X fun _ v w'=>∃ y1 : Value,Grp w w' X [.blk At [iV r.1] 3,.blk Au [iV r.2.1] 3,.blk Av [y1] 31,.own y1 9 1 r.2.2.length (r.2.2.flatMap Ic)] ∧ v = .tuple #[]):=by
 refine Lp X [.blk At [iV Bu] 3,.blk Au [iV Cg] 3,.blk Av [Bg] 31,.own Bg 9 1 Bp.length (Bp.flatMap Ic)] func36 rfl ntmps36 rfl (fun e he=>by simp only [List.mem_cons,List.not_mem_nil,or_false] at he;rcases he with rfl | rfl | rfl | rfl <;> assumption) (by rw [← hXe];exact hXn) (fun b hb=>by rw [hXe];exact hb) fun a S=>?_
 unfold Ob at h
 replace S:=(S.nl [.blk At [iV Bu] 3,.blk Au [iV Cg] 3,.blk Av [Bg] 31,.own Bg 9 1 Bp.length (Bp.flatMap Ic)] [true,true,true,true] rfl).k8 0 1 2 3 4 5 6 7 rfl
 refine Fs (Fr (Vm S rfl rfl fun a S=>lv S (Gh Il (S.tm rfl) (Ey Cn)) rfl fun a S=>lv S (Hr isAgg26 (off:=0) (o:=0) (S.tm rfl) ((Rl Cc).at S.emb0) rfl) rfl fun a S=>lv S (Gh Il (S.tm rfl) (Ey Db)) rfl fun a S=>Vb S Gb rfl rfl rfl fun a S=>Dl (Fc h (S.tm rfl) (fun hb1 h=>?_) (fun hb1 h=>?_))))
 ·refine Fs (Fr (lv S (Hr isAgg26 (off:=0) (o:=0) (S.tm rfl) ((Rl Cc).at S.emb0) rfl) rfl fun a S=>lv S (Gh Il (S.tm rfl) (Ey Db)) rfl fun a S=>lv S (Rm rfl) rfl fun a S=>Ld ?_))
  replace S:=S.k5 0 2 21 22 23 rfl
  refine Tn ?_
  obtain ⟨j1,hj1,h⟩:=Ha h
  refine Gv (fun a w'=>∃ x1 : Int,∃ x2 : Int,∃ x3 : List ByteArray,∃ v1 : Value,j1 x1 x2 x3 = some r ∧ Sx w X nov [.blk At [iV x1] 3,.blk Au [iV x2] 3,.blk Av [v1] 31,.own v1 9 1 x3.length (x3.flatMap Ic)] [] 90 a w') ?_ ?_
  ·refine wp_block (Iv (fun (ys1 : List An) a w'=>∃ i1 : Nat,∃ x1 : Int,∃ x2 : Int,∃ x3 : List ByteArray,∃ v1 : Value,(∃ dn,Cd = dn ++ ys1 ∧ dn.length = i1) ∧ It Ch self Cd Do Dk j1 ys1 i1 x1 x2 x3 = some r ∧ Sx w X nov [.blk At [iV x1] 3,.blk Au [iV x2] 3,.blk Av [v1] 31,.own v1 9 1 x3.length (x3.flatMap Ic)] [(0,Bn),(2,.pointer (some ⟨Ca,0,none⟩)),(21,Ce),(22,iV (Cd.length : Int)),(23,iV (i1 : Int))] 90 a w') List.length Cd ⟨0,Bu,Cg,Bp,Bg,⟨[],rfl,rfl⟩,h,S.nf [true,true,true,true] rfl (subR rfl)⟩ ?_)
   clear S h;rintro ys1 a w1 ⟨i1,x1,x2,x3,v1,⟨dn,hd1,hi1⟩,h,S⟩
   cases ys1 with
   | nil =>
    rw [It.eq_1] at h
    refine Fr (Vb S Gb rfl rfl rfl fun a S=>Ld ?_)
    replace S:=S.k6 0 2 21 22 23 24 rfl
    exact Tn (Fs (wp_cond_false ((S.tm rfl).trans (congrArg Value.bool (Jr hd1 hi1))) (wp_exit (Gk (Gk (Jc (Tn (⟨x1,x2,x3,v1,h,S.nf [true,true,true,true] rfl trivial⟩))))))))
   | cons y1 ys1 =>
    rw [It.eq_2] at h
    refine Fr (Vb S Gb rfl rfl rfl fun a S=>Ld ?_)
    replace S:=S.k6 0 2 21 22 23 24 rfl
    refine Tn (Fs (wp_cond_true ((S.tm rfl).trans (congrArg Value.bool (Ih hd1 hi1))) (wp_skip (Tn (Fs ?_)))))
    obtain ⟨j2,hj2,h⟩:=Ha h
    refine Gv (fun a w'=>∃ x4 : Int,∃ x5 : Int,∃ x6 : List ByteArray,∃ v2 : Value,j2 x4 x5 x6 = some r ∧ Sx w X nov [.blk At [iV x4] 3,.blk Au [iV x5] 3,.blk Av [v2] 31,.own v2 9 1 x6.length (x6.flatMap Ic)] [(0,Bn),(2,.pointer (some ⟨Ca,0,none⟩)),(21,Ce),(22,iV (Cd.length : Int)),(23,iV (i1 : Int))] 90 a w') ?_ ?_
    ·refine wp_block (Fs (Fg ?_))
     obtain ⟨b1,o1,hm1,hr1⟩:=Gd (a:=a) (x:=.tmp 21) (y:=.tmp 23) (ty:=0) Il Db (Jd hd1 hi1) rfl (S.tm rfl) (S.tm rfl)
     refine lv S (hr1 _) rfl ?_;clear S;intro a S
     clear hr1
     refine lv S (Ji isAgg41 sizeOf41 (off:=o1) (o:=0) (part:=(An.enc y1)) rfl rfl (S.tm rfl) (hm1.at S.emb0)) rfl fun a S=>Mw S zeroValue41 (cs:=[sV Ga,iV 0,iV 0,iV 0,iV 0]) rfl rfl ?_;clear S;intro a w4 b2 hz1 hk1 S
     refine Ku S (S.tm rfl) (S.tm rfl) (i:=0) (off:=0) rfl sizeOf41 (vs:=(An.enc y1)) rfl rfl rfl rfl ?_;clear S;intro w5 hk2 S
     refine Dz (Vm S rfl rfl fun a S=>Vf Mz S rfl rfl fun a S=>Vl isAgg9 0 S rfl rfl rfl rfl fun a S=>Fo S (fun _=>Fa (vs:=[Bn,sV y1.Key]) ⟨(S.tm rfl),(S.tm rfl),trivial⟩ call37) (Pr _ Bn Ch (Cn.mono (S.le_arg Fy)) y1.Key _ rfl) rfl ?_);clear S;intro v3 a w6 hv1 hk3 hn1 S
     subst hv1
     refine Vq S Gb rfl rfl rfl fun a S=>Dl ?_
     obtain ⟨j3,hj3,h⟩:=Ha h
     refine Gv (fun a w'=>∃ x7 : Int,∃ x8 : Int,∃ x9 : List ByteArray,∃ v4 : Value,j3 x7 x8 x9 = some r ∧ Sx w X nov [.blk At [iV x7] 3,.blk Au [iV x8] 3,.blk Av [v4] 31,.own v4 9 1 x9.length (x9.flatMap Ic)] [(0,Bn),(2,.pointer (some ⟨Ca,0,none⟩)),(21,Ce),(22,iV (Cd.length : Int)),(23,iV (i1 : Int))] 90 a w') ?_ ?_
     ·refine Fc h (S.tm rfl) (fun hb2 h=>?_) (fun hb2 h=>?_)
      ·obtain ⟨j4,hj4,h⟩:=Ha h
       refine Gv (fun a w'=>∃ x10 : Int,∃ x11 : Int,∃ x12 : List ByteArray,∃ v5 : Value,j4 x10 x11 x12 = some r ∧ Sx w X nov [.blk At [iV x10] 3,.blk Au [iV x11] 3,.blk Av [v5] 31,.own v5 9 1 x12.length (x12.flatMap Ic)] [(0,Bn),(2,.pointer (some ⟨Ca,0,none⟩)),(21,Ce),(22,iV (Cd.length : Int)),(23,iV (i1 : Int))] 90 a w') ?_ ?_
       ·obtain ⟨r1,hr2,h⟩:=He h
        obtain ⟨hc1,h⟩:=Ig h
        obtain ⟨r2,hr3,h⟩:=He h
        refine Hx [] (v1.ownBlock.toList ++ ([At] ++ ([Au] ++ [Av]))) Tryz.mixed S rfl (by kernel_rfl) ?_;clear S;intro w13 hk8 hsel S
        refine Fj 0 S hsel rfl rfl rfl (by kernel_rfl) (by kernel_rfl) rfl (fun _ hw=>(Hr isAgg71 (off:=0) (o:=0) (S.tm rfl) (((Rl Df).mono (S.le_arg (Fq (Fh (i:=4) (e:=.own v1 9 1 x3.length (x3.flatMap Ic)) rfl) (Fq (Fh (i:=1) (e:=.blk At [iV x1] 3) rfl) (Fq (Fh (i:=2) (e:=.blk Au [iV x2] 3) rfl) (Fh (i:=3) (e:=.blk Av [v1] 31) rfl)))))).kept hw) rfl)) fun a S=>Fj 1 S hsel rfl rfl rfl (by kernel_rfl) (by kernel_rfl) rfl (fun _ hw=>(Rm (S.tm rfl))) fun a S=>Fj 3 S hsel rfl rfl rfl (by kernel_rfl) (by kernel_rfl) rfl (fun _ hw=>(Ji isAgg41 sizeOf41 (off:=0) (o:=0) (part:=(An.enc y1)) rfl rfl (S.tm rfl) ((S.blk_mem (i:=0) (cells:=(An.enc y1)) (b:=b2) (T:=41) rfl (Nc (Ke (i:=4) (j:=0) (e:=.own v1 9 1 x3.length (x3.flatMap Ic)) (e':=.blk b2 (An.enc y1) 41) S rfl rfl rfl) (Nc (Ke (i:=1) (j:=0) (e:=.blk At [iV x1] 3) (e':=.blk b2 (An.enc y1) 41) S rfl rfl rfl) (Nc (Ke (i:=2) (j:=0) (e:=.blk Au [iV x2] 3) (e':=.blk b2 (An.enc y1) 41) S rfl rfl rfl) (Ke (i:=3) (j:=0) (e:=.blk Av [v1] 31) (e':=.blk b2 (An.enc y1) 41) S rfl rfl rfl))))).kept hw))) fun a S=>Tv 2 4 (by kernel_rfl) rfl rfl ?_ ?_
        ·have hz4:=S.keep.size
         refine Fo S (fun _=>Fa (vs:=[Bn]) ⟨(S.tm rfl),trivial⟩ call28) (On _ Bn Ch (Cn.mono (S.le_arg Fy)) _ hr2) rfl ?_;clear S;intro v10 a w14 hv4 hk9 hn4 S
         replace S:=S.take hn4 hz4 hv4
         refine Ld (Nk (v10.ownBlock.toList ++ (v1.ownBlock.toList ++ ([At] ++ ([Au] ++ [Av])))) (Keep.none hk9) (BA hv4) (Gq 4 (by kernel_rfl) rfl (Fw S underlying26 sizeOf41 zeroValue41 rfl rfl (pv:=[(0,.agg (An.enc y1).toArray)]) ⟨rfl,(S.tm rfl),trivial⟩ (cs:=[sV y1.Key,iV y1.Heats,iV y1.Long,iV y1.Gap,iV y1.Break]) (by kernel_rfl) rfl ?_)));clear S;intro a w15 b4 hz5 hk10 S
         refine Ld (Hb (Keep.none hk10) (Gq 5 (by kernel_rfl) rfl ?_))
         refine Mi Il An.enc_ok S (S.tm rfl) (i:=1) rfl (S.tm rfl) (j:=0) rfl (ys:=[y1]) rfl rfl rfl rfl (by have:=Ky hc1;omega) rfl ?_;clear S;intro v11 a w16 hk11 hf1 S
         refine Ld ?_
         refine Nk (v11.ownBlock.toList ++ (v1.ownBlock.toList ++ ([At] ++ ([Au] ++ [Av])))) (hk11.sub (by intro y hy;simp at hy ⊢;simp [hy])) (by intro y hy;simp at hy ⊢;exact (hy.elim (fun hy=>(by rcases hf1 y hy with hy | hy <;> simp [hy])) (fun hy=>(hy.elim (fun hy=>(by simp [hy])) (fun hy=>(hy.elim (fun hy=>(by simp [hy])) (fun hy=>(hy.elim (fun hy=>(by simp [hy])) (fun hy=>(by simp [hy])))))))))) ?_
         refine Gq 6 (by kernel_rfl) rfl (Pc [3,4,5,6] [0,1,2] (Ls:=[.blk At [iV x1] 3,.blk Au [iV x2] 3,.blk Av [v1] 31,.own v1 9 1 x3.length (x3.flatMap Ic)]) (Lr:=[.blk b4 (An.enc y1) 41,.own v11 41 5 (r1 ++ [y1]).length ((r1 ++ [y1]).flatMap An.enc),.blk b2 (An.enc y1) 41]) (Y:=[At] ++ ([Au] ++ ([Av] ++ v1.ownBlock.toList))) S rfl rfl rfl (by simp [Im,Ju,LEnt.fp]) (fun _=>Pb (cap:=[.pointer (some ⟨Br,0,none⟩),.pointer (some ⟨Ca,0,none⟩),.pointer (some ⟨Ci,0,none⟩),.pointer (some ⟨Cj,0,none⟩),.pointer (some ⟨At,0,none⟩),.pointer (some ⟨Au,0,none⟩),.pointer (some ⟨Av,0,none⟩)]) (S.tm rfl) (vs:=[v11]) ⟨(S.tm rfl),trivial⟩ call36) (hself _ ([At] ++ ([Au] ++ ([Av] ++ v1.ownBlock.toList))) v11 (r1 ++ [y1]) (Ll An.enc_ok S (i:=1) rfl (Nc (Ke (i:=3) (j:=1) (e:=.blk At [iV x1] 3) (e':=.own v11 41 5 (r1 ++ [y1]).length ((r1 ++ [y1]).flatMap An.enc)) S rfl rfl rfl) (Nc (Ke (i:=4) (j:=1) (e:=.blk Au [iV x2] 3) (e':=.own v11 41 5 (r1 ++ [y1]).length ((r1 ++ [y1]).flatMap An.enc)) S rfl rfl rfl) (Nc (Ke (i:=5) (j:=1) (e:=.blk Av [v1] 31) (e':=.own v11 41 5 (r1 ++ [y1]).length ((r1 ++ [y1]).flatMap An.enc)) S rfl rfl rfl) (Ke (i:=6) (j:=1) (e:=.own v1 9 1 x3.length (x3.flatMap Ic)) (e':=.own v11 41 5 (r1 ++ [y1]).length ((r1 ++ [y1]).flatMap An.enc)) S rfl rfl rfl))))) Br Ce Cd (Db.mono (S.le_arg (Fq (Fh (i:=3) (e:=.blk At [iV x1] 3) rfl) (Fq (Fh (i:=4) (e:=.blk Au [iV x2] 3) rfl) (Fq (Fh (i:=5) (e:=.blk Av [v1] 31) rfl) (Fh (i:=6) (e:=.own v1 9 1 x3.length (x3.flatMap Ic)) rfl)))))) ((S.le_arg (Fq (Fh (i:=3) (e:=.blk At [iV x1] 3) rfl) (Fq (Fh (i:=4) (e:=.blk Au [iV x2] 3) rfl) (Fq (Fh (i:=5) (e:=.blk Av [v1] 31) rfl) (Fh (i:=6) (e:=.own v1 9 1 x3.length (x3.flatMap Ic)) rfl))))) _ _ Cc) Ci Cs Do (Dw.mono (S.le_arg (Fq (Fh (i:=3) (e:=.blk At [iV x1] 3) rfl) (Fq (Fh (i:=4) (e:=.blk Au [iV x2] 3) rfl) (Fq (Fh (i:=5) (e:=.blk Av [v1] 31) rfl) (Fh (i:=6) (e:=.own v1 9 1 x3.length (x3.flatMap Ic)) rfl)))))) ((S.le_arg (Fq (Fh (i:=3) (e:=.blk At [iV x1] 3) rfl) (Fq (Fh (i:=4) (e:=.blk Au [iV x2] 3) rfl) (Fq (Fh (i:=5) (e:=.blk Av [v1] 31) rfl) (Fh (i:=6) (e:=.own v1 9 1 x3.length (x3.flatMap Ic)) rfl))))) _ _ Dq) Cj Dk ((S.le_arg (Fq (Fh (i:=3) (e:=.blk At [iV x1] 3) rfl) (Fq (Fh (i:=4) (e:=.blk Au [iV x2] 3) rfl) (Fq (Fh (i:=5) (e:=.blk Av [v1] 31) rfl) (Fh (i:=6) (e:=.own v1 9 1 x3.length (x3.flatMap Ic)) rfl))))) _ _ Ds) At x1 (S.holds _ (List.mem_of_getElem? (i:=3) rfl)) Au x2 (S.holds _ (List.mem_of_getElem? (i:=4) rfl)) Av v1 x3 (S.holds _ (List.mem_of_getElem? (i:=6) rfl)) (S.holds _ (List.mem_of_getElem? (i:=5) rfl)) Ca ((S.le_arg (Fq (Fh (i:=3) (e:=.blk At [iV x1] 3) rfl) (Fq (Fh (i:=4) (e:=.blk Au [iV x2] 3) rfl) (Fq (Fh (i:=5) (e:=.blk Av [v1] 31) rfl) (Fh (i:=6) (e:=.own v1 9 1 x3.length (x3.flatMap Ic)) rfl))))) _ _ Df) (S.ndg [3,4,5,6] [0,1,2] rfl rfl rfl (by simp [Im,Ju,LEnt.fp])) (by simp [Im,Ju,LEnt.fp]) _ hr3) rfl ?_);clear S;intro v12 a w17 hv5 hk12 hn5 S
         obtain ⟨v13,hg2,hv5⟩:=hv5;replace S:=S _ hg2;clear hg2
         subst hv5
         refine Ld ?_
         refine Hb (hk12.sub (by intro y hy;simp at hy ⊢;rcases hy with hy | hy | hy | hy <;> simp [hy])) ?_
         refine Ss (by kernel_rfl) ?_
         clear hsel
         replace S:=(S.nl [.blk At [iV r2.1] 3,.blk Au [iV r2.2.1] 3,.blk Av [v13] 31,.own v13 9 1 r2.2.2.length (r2.2.2.flatMap Ic)] [true,true,true,true,false,false,false] rfl).k5 0 2 21 22 23 rfl
         exact Tn (⟨r2.1,r2.2.1,r2.2.2,v13,h,S.nf [true,true,true,true] rfl (subR rfl)⟩)
        ·refine Fw S underlying26 sizeOf41 zeroValue41 rfl rfl (pv:=[(0,.agg (An.enc y1).toArray)]) ⟨rfl,(S.tm rfl),trivial⟩ (cs:=[sV y1.Key,iV y1.Heats,iV y1.Long,iV y1.Gap,iV y1.Break]) (by kernel_rfl) rfl ?_;clear S;intro a w18 b5 hz6 hk13 S
         refine Ld (Hb (Keep.none hk13) (Gq 2 (by kernel_rfl) rfl ?_))
         have hz7:=S.keep.size
         refine Fo S (fun _=>Fa (vs:=[Bn]) ⟨(S.tm rfl),trivial⟩ call28) (On _ Bn Ch (Cn.mono (S.le_arg Fy)) _ hr2) rfl ?_;clear S;intro v14 a w19 hv6 hk14 hn6 S
         replace S:=S.take hn6 hz7 hv6
         refine Ld (Nk (v14.ownBlock.toList ++ (v1.ownBlock.toList ++ ([At] ++ ([Au] ++ [Av])))) (Keep.none hk14) (BA hv6) (Gq 5 (by kernel_rfl) rfl ?_))
         refine Mi Il An.enc_ok S (S.tm rfl) (i:=0) rfl (S.tm rfl) (j:=1) rfl (ys:=[y1]) rfl rfl rfl rfl (by have:=Ky hc1;omega) rfl ?_;clear S;intro v15 a w20 hk15 hf2 S
         refine Ld ?_
         refine Nk (v15.ownBlock.toList ++ (v1.ownBlock.toList ++ ([At] ++ ([Au] ++ [Av])))) (hk15.sub (by intro y hy;simp at hy ⊢;simp [hy])) (by intro y hy;simp at hy ⊢;exact (hy.elim (fun hy=>(by rcases hf2 y hy with hy | hy <;> simp [hy])) (fun hy=>(hy.elim (fun hy=>(by simp [hy])) (fun hy=>(hy.elim (fun hy=>(by simp [hy])) (fun hy=>(hy.elim (fun hy=>(by simp [hy])) (fun hy=>(by simp [hy])))))))))) ?_
         refine Gq 6 (by kernel_rfl) rfl (Pc [3,4,5,6] [0,1,2] (Ls:=[.blk At [iV x1] 3,.blk Au [iV x2] 3,.blk Av [v1] 31,.own v1 9 1 x3.length (x3.flatMap Ic)]) (Lr:=[.own v15 41 5 (r1 ++ [y1]).length ((r1 ++ [y1]).flatMap An.enc),.blk b5 (An.enc y1) 41,.blk b2 (An.enc y1) 41]) (Y:=[At] ++ ([Au] ++ ([Av] ++ v1.ownBlock.toList))) S rfl rfl rfl (by simp [Im,Ju,LEnt.fp]) (fun _=>Pb (cap:=[.pointer (some ⟨Br,0,none⟩),.pointer (some ⟨Ca,0,none⟩),.pointer (some ⟨Ci,0,none⟩),.pointer (some ⟨Cj,0,none⟩),.pointer (some ⟨At,0,none⟩),.pointer (some ⟨Au,0,none⟩),.pointer (some ⟨Av,0,none⟩)]) (S.tm rfl) (vs:=[v15]) ⟨(S.tm rfl),trivial⟩ call36) (hself _ ([At] ++ ([Au] ++ ([Av] ++ v1.ownBlock.toList))) v15 (r1 ++ [y1]) (Ll An.enc_ok S (i:=0) rfl (Nc (Ke (i:=3) (j:=0) (e:=.blk At [iV x1] 3) (e':=.own v15 41 5 (r1 ++ [y1]).length ((r1 ++ [y1]).flatMap An.enc)) S rfl rfl rfl) (Nc (Ke (i:=4) (j:=0) (e:=.blk Au [iV x2] 3) (e':=.own v15 41 5 (r1 ++ [y1]).length ((r1 ++ [y1]).flatMap An.enc)) S rfl rfl rfl) (Nc (Ke (i:=5) (j:=0) (e:=.blk Av [v1] 31) (e':=.own v15 41 5 (r1 ++ [y1]).length ((r1 ++ [y1]).flatMap An.enc)) S rfl rfl rfl) (Ke (i:=6) (j:=0) (e:=.own v1 9 1 x3.length (x3.flatMap Ic)) (e':=.own v15 41 5 (r1 ++ [y1]).length ((r1 ++ [y1]).flatMap An.enc)) S rfl rfl rfl))))) Br Ce Cd (Db.mono (S.le_arg (Fq (Fh (i:=3) (e:=.blk At [iV x1] 3) rfl) (Fq (Fh (i:=4) (e:=.blk Au [iV x2] 3) rfl) (Fq (Fh (i:=5) (e:=.blk Av [v1] 31) rfl) (Fh (i:=6) (e:=.own v1 9 1 x3.length (x3.flatMap Ic)) rfl)))))) ((S.le_arg (Fq (Fh (i:=3) (e:=.blk At [iV x1] 3) rfl) (Fq (Fh (i:=4) (e:=.blk Au [iV x2] 3) rfl) (Fq (Fh (i:=5) (e:=.blk Av [v1] 31) rfl) (Fh (i:=6) (e:=.own v1 9 1 x3.length (x3.flatMap Ic)) rfl))))) _ _ Cc) Ci Cs Do (Dw.mono (S.le_arg (Fq (Fh (i:=3) (e:=.blk At [iV x1] 3) rfl) (Fq (Fh (i:=4) (e:=.blk Au [iV x2] 3) rfl) (Fq (Fh (i:=5) (e:=.blk Av [v1] 31) rfl) (Fh (i:=6) (e:=.own v1 9 1 x3.length (x3.flatMap Ic)) rfl)))))) ((S.le_arg (Fq (Fh (i:=3) (e:=.blk At [iV x1] 3) rfl) (Fq (Fh (i:=4) (e:=.blk Au [iV x2] 3) rfl) (Fq (Fh (i:=5) (e:=.blk Av [v1] 31) rfl) (Fh (i:=6) (e:=.own v1 9 1 x3.length (x3.flatMap Ic)) rfl))))) _ _ Dq) Cj Dk ((S.le_arg (Fq (Fh (i:=3) (e:=.blk At [iV x1] 3) rfl) (Fq (Fh (i:=4) (e:=.blk Au [iV x2] 3) rfl) (Fq (Fh (i:=5) (e:=.blk Av [v1] 31) rfl) (Fh (i:=6) (e:=.own v1 9 1 x3.length (x3.flatMap Ic)) rfl))))) _ _ Ds) At x1 (S.holds _ (List.mem_of_getElem? (i:=3) rfl)) Au x2 (S.holds _ (List.mem_of_getElem? (i:=4) rfl)) Av v1 x3 (S.holds _ (List.mem_of_getElem? (i:=6) rfl)) (S.holds _ (List.mem_of_getElem? (i:=5) rfl)) Ca ((S.le_arg (Fq (Fh (i:=3) (e:=.blk At [iV x1] 3) rfl) (Fq (Fh (i:=4) (e:=.blk Au [iV x2] 3) rfl) (Fq (Fh (i:=5) (e:=.blk Av [v1] 31) rfl) (Fh (i:=6) (e:=.own v1 9 1 x3.length (x3.flatMap Ic)) rfl))))) _ _ Df) (S.ndg [3,4,5,6] [0,1,2] rfl rfl rfl (by simp [Im,Ju,LEnt.fp])) (by simp [Im,Ju,LEnt.fp]) _ hr3) rfl ?_);clear S;intro v16 a w21 hv7 hk16 hn7 S
         obtain ⟨v17,hg3,hv7⟩:=hv7;replace S:=S _ hg3;clear hg3
         subst hv7
         refine Ld ?_
         refine Hb (hk16.sub (by intro y hy;simp at hy ⊢;rcases hy with hy | hy | hy | hy <;> simp [hy])) ?_
         refine Ss (by kernel_rfl) ?_
         clear hsel
         replace S:=(S.nl [.blk At [iV r2.1] 3,.blk Au [iV r2.2.1] 3,.blk Av [v17] 31,.own v17 9 1 r2.2.2.length (r2.2.2.flatMap Ic)] [true,true,true,true,false,false,false] rfl).k5 0 2 21 22 23 rfl
         exact Tn (⟨r2.1,r2.2.1,r2.2.2,v17,h,S.nf [true,true,true,true] rfl (subR rfl)⟩)
       clear S h;rintro a w8 ⟨x10,x11,x12,v5,h,S⟩;rw [hj4] at h;clear hj4 j4
       exact Tn (⟨x10,x11,x12,v5,h,S.nf [true,true,true,true] rfl (subR rfl)⟩)
      ·exact wp_skip (Tn (⟨x1,x2,x3,v1,h,S.nf [false,true,true,true,true] rfl (subR rfl)⟩))
     clear S h;rintro a w7 ⟨x7,x8,x9,v4,h,S⟩;rw [hj3] at h;clear hj3 j3
     exact Kb (Tn (⟨x7,x8,x9,v4,h,S.nf [true,true,true,true] rfl (subR rfl)⟩))
    clear S h;rintro a w3 ⟨x4,x5,x6,v2,h,S⟩;rw [hj2] at h;clear hj2 j2
    exact Tn (Fg (Vq S Gx rfl rfl rfl fun a S=>Vm S rfl rfl fun a S=>Dl (⟨ys1,⟨i1 + 1,x4,x5,x6,v2,⟨_,(hd1).trans (List.append_cons _ _ _),by simp [hi1]⟩,h,S.nf [true,true,true,true] rfl ⟨rfl,rfl,rfl,rfl,(congrArg (fun z=>some (Value.int .i64 z)) (Ii hd1 hi1 (Kl Db))),trivial⟩⟩,Nat.lt_succ_self _⟩)))
  clear S h;rintro a w2 ⟨x1,x2,x3,v1,h,S⟩;rw [hj1] at h;clear hj1 j1
  refine Tn (wp_ret (Fk ?_))
  obtain rfl:=Option.some.inj h
  exact Tz S results36 ⟨v1,S.grp [0,1,2,3] [] rfl rfl rfl,rfl⟩
 ·refine wp_skip (Tn (Fr (Vk S rfl rfl ?_)));clear S;intro a S
  replace S:=S.nil 9 1
  refine Dl (Fs (Fr (Vm S rfl rfl fun a S=>lv S (Gh Il (S.tm rfl) (Ey Cn)) rfl fun a S=>lv S (Rm rfl) rfl fun a S=>Ld ?_)))
  replace S:=(S.nl [.own (.slice none 0 0) 9 1 ([] : List ByteArray).length (([] : List ByteArray).flatMap Ic),.blk At [iV Bu] 3,.blk Au [iV Cg] 3,.blk Av [Bg] 31,.own Bg 9 1 Bp.length (Bp.flatMap Ic)] [true,true,true,true,true] rfl).k10 0 3 4 5 6 7 11 40 41 42 rfl
  refine Tn ?_
  obtain ⟨j5,hj5,h⟩:=Ha h
  refine Gv (fun a w'=>∃ x13 : List ByteArray,∃ v18 : Value,j5 x13 = some r ∧ Sx w X nov [.own v18 9 1 x13.length (x13.flatMap Ic),.blk At [iV Bu] 3,.blk Au [iV Cg] 3,.blk Av [Bg] 31,.own Bg 9 1 Bp.length (Bp.flatMap Ic)] [(0,Bn),(3,.pointer (some ⟨Ci,0,none⟩)),(4,.pointer (some ⟨Cj,0,none⟩)),(5,.pointer (some ⟨At,0,none⟩)),(6,.pointer (some ⟨Au,0,none⟩)),(7,.pointer (some ⟨Av,0,none⟩)),(11,v18)] 90 a w') ?_ ?_
  ·refine wp_block (Iv (fun (ys2 : List An) a w'=>∃ i2 : Nat,∃ x13 : List ByteArray,∃ v18 : Value,(∃ dn,Ch = dn ++ ys2 ∧ dn.length = i2) ∧ Ia j5 ys2 i2 x13 = some r ∧ Sx w X nov [.own v18 9 1 x13.length (x13.flatMap Ic),.blk At [iV Bu] 3,.blk Au [iV Cg] 3,.blk Av [Bg] 31,.own Bg 9 1 Bp.length (Bp.flatMap Ic)] [(0,Bn),(3,.pointer (some ⟨Ci,0,none⟩)),(4,.pointer (some ⟨Cj,0,none⟩)),(5,.pointer (some ⟨At,0,none⟩)),(6,.pointer (some ⟨Au,0,none⟩)),(7,.pointer (some ⟨Av,0,none⟩)),(11,v18),(40,Bn),(41,iV (Ch.length : Int)),(42,iV (i2 : Int))] 90 a w') List.length Ch ⟨0,([] : List ByteArray),(.slice none 0 0),⟨[],rfl,rfl⟩,h,S.nf [true,true,true,true,true] rfl (subR rfl)⟩ ?_)
   clear S h;rintro ys2 a w22 ⟨i2,x13,v18,⟨dn,hd2,hi2⟩,h,S⟩
   cases ys2 with
   | nil =>
    rw [Ia.eq_1] at h
    refine Fr (Vb S Gb rfl rfl rfl fun a S=>Ld ?_)
    replace S:=S.k11 0 3 4 5 6 7 11 40 41 42 43 rfl
    exact Tn (Fs (wp_cond_false ((S.tm rfl).trans (congrArg Value.bool (Jr hd2 hi2))) (wp_exit (Gk (Gk (Jc (Tn (⟨x13,v18,h,S.nf [true,true,true,true,true] rfl (subR rfl)⟩))))))))
   | cons y2 ys2 =>
    rw [Ia.eq_2] at h
    refine Fr (Vb S Gb rfl rfl rfl fun a S=>Ld ?_)
    replace S:=S.k11 0 3 4 5 6 7 11 40 41 42 43 rfl
    refine Tn (Fs (wp_cond_true ((S.tm rfl).trans (congrArg Value.bool (Ih hd2 hi2))) (wp_skip (Tn (Fs (wp_block (Fs (Fg ?_))))))))
    obtain ⟨b6,o2,hm2,hr4⟩:=Gd (a:=a) (x:=.tmp 40) (y:=.tmp 42) (ty:=0) Il Cn (Jd hd2 hi2) rfl (S.tm rfl) (S.tm rfl)
    refine lv S (hr4 _) rfl ?_;clear S;intro a S
    clear hr4
    refine lv S (Ji isAgg41 sizeOf41 (off:=o2) (o:=0) (part:=(An.enc y2)) rfl rfl (S.tm rfl) (hm2.at S.emb0)) rfl fun a S=>Mw S zeroValue41 (cs:=[sV Ga,iV 0,iV 0,iV 0,iV 0]) rfl rfl ?_;clear S;intro a w24 b7 hz8 hk17 S
    refine Ku S (S.tm rfl) (S.tm rfl) (i:=0) (off:=0) rfl sizeOf41 (vs:=(An.enc y2)) rfl rfl rfl rfl ?_;clear S;intro w25 hk18 S
    refine Ld ?_
    replace S:=(S.nl [.blk b7 (An.enc y2) 41,.own v18 9 1 x13.length (x13.flatMap Ic),.blk At [iV Bu] 3,.blk Au [iV Cg] 3,.blk Av [Bg] 31,.own Bg 9 1 Bp.length (Bp.flatMap Ic)] [true,true,true,true,true,true] rfl).k11 0 3 4 5 6 7 11 13 40 41 42 rfl
    refine Tn (Fg (Vm S rfl rfl fun a S=>Vf Mz S rfl rfl fun a S=>Vl isAgg9 0 S rfl rfl rfl rfl fun a S=>Fw S underlying31 sizeOf9 zeroValue9 rfl rfl (pv:=[(0,sV y2.Key)]) ⟨rfl,(S.tm rfl),trivial⟩ (cs:=[sV y2.Key]) (by kernel_rfl) rfl ?_));clear S;intro a w26 b8 hz9 hk19 S
    obtain ⟨hc2,h⟩:=Ig h
    refine Nq Kv Jb S (S.tm rfl) (i:=2) rfl (S.tm rfl) (j:=0) rfl (ys:=[y2.Key]) rfl rfl rfl rfl (by have:=Ky hc2;omega) rfl ?_;clear S;intro v19 a w27 hk20 S
    refine Va S rfl rfl fun a S=>Ld ?_
    replace S:=(S.nl [.own v19 9 1 (x13 ++ [y2.Key]).length ((x13 ++ [y2.Key]).flatMap Ic),.blk At [iV Bu] 3,.blk Au [iV Cg] 3,.blk Av [Bg] 31,.own Bg 9 1 Bp.length (Bp.flatMap Ic)] [false,false,true,true,true,true,true] rfl).k10 0 3 4 5 6 7 11 40 41 42 rfl
    exact Kb (Tn (Fg (Vq S Gx rfl rfl rfl fun a S=>Vm S rfl rfl fun a S=>Dl (⟨ys2,⟨i2 + 1,(x13 ++ [y2.Key]),v19,⟨_,(hd2).trans (List.append_cons _ _ _),by simp [hi2]⟩,h,S.nf [true,true,true,true,true] rfl ⟨rfl,rfl,rfl,rfl,rfl,rfl,rfl,rfl,rfl,(congrArg (fun z=>some (Value.int .i64 z)) (Ii hd2 hi2 (Kl Cn))),trivial⟩⟩,Nat.lt_succ_self _⟩))))
  clear S h;rintro a w23 ⟨x13,v18,h,S⟩;rw [hj5] at h;clear hj5 j5
  refine Tn (Fr (Vm S rfl rfl fun a S=>lv S (Hr isAgg29 (off:=0) (o:=0) (S.tm rfl) ((Rl Dq).at S.emb0) rfl) rfl fun a S=>lv S (Hr isAgg3 (off:=0) (o:=0) (S.tm rfl) ((Rl Ds).at S.emb0) rfl) rfl ?_));clear S;intro a S
  obtain ⟨r3,hr5,h⟩:=He h
  have hz10:=S.keep.size
  refine Fo S (fun _=>Fa (vs:=[Bn,Cs,iV 0,iV Dk]) ⟨(S.tm rfl),(S.tm rfl),rfl,(S.tm rfl),trivial⟩ call38) (Xj _ Bn Ch (Cn.mono (S.le_arg Fy)) Cs Do (Dw.mono (S.le_arg Fy)) 0 Dk _ hr5) rfl ?_;clear S;intro v20 a w28 hv8 hk21 hn8 S
  obtain ⟨φ1,hl1,hm3,S⟩:=S.see' hn8 hz10
  have hs1:=hv8.mono hm3
  refine lv S (Gh Xp (S.tm rfl) (Ey (Gw Gn.enc_ok hs1))) rfl fun a S=>Vm S rfl rfl ?_;clear S;intro a S
  obtain ⟨r4,hr6,h⟩:=He h
  refine Fo S (fun _=>Fa (vs:=[Bn,iV 0]) ⟨(S.tm rfl),rfl,trivial⟩ call39) (Yu _ Bn Ch (Cn.mono (S.le_arg Fy)) 0 _ hr6) rfl ?_;clear S;intro v21 a w29 hv9 hk22 hn9 S
  subst hv9
  refine Va S rfl rfl fun a S=>Va S rfl rfl fun a S=>Ld ?_
  replace S:=S.k6 5 6 7 11 14 15 rfl
  refine Tn (Fr (Vl isAgg3 1 S rfl rfl rfl rfl fun a S=>Vq S Gb rfl rfl rfl fun a S=>Vm S rfl rfl fun a S=>Lq 4 (fun a w'=>Keep [] w29 w' ∧ Sx w X φ1 [.own v18 9 1 x13.length (x13.flatMap Ic),.blk At [iV Bu] 3,.blk Au [iV Cg] 3,.blk Av [Bg] 31,.own Bg 9 1 Bp.length (Bp.flatMap Ic)] [(5,.pointer (some ⟨At,0,none⟩)),(6,.pointer (some ⟨Au,0,none⟩)),(7,.pointer (some ⟨Av,0,none⟩)),(11,v18),(14,iV (r3.length : Int)),(15,iV r4),(65,bV ((decide (Bu < 0)) || (decide ((r3.length : Int) < Bu))))] 90 a w') ?_ ?_))
  ·rcases Bool.eq_false_or_eq_true (decide (Bu < 0)) with hb3 | hb3
   ·iterate 3 (refine Kn S rfl rfl rfl (Tb hb3) rfl ?_ rfl;clear S;intro a S)
    exact lv S (Rb (decide ((r3.length : Int) < Bu)) hb3 (S.tm rfl) rfl) rfl fun a S=>Dl (⟨Keep.refl _ _,S.nf [true,true,true,true,true] rfl (subR rfl)⟩)
   ·exact Fz S rfl rfl rfl hb3 (Vm S rfl rfl fun a S=>Fz S rfl rfl rfl hb3 (Vl isAgg3 1 S rfl rfl rfl rfl fun a S=>Fz S rfl rfl rfl hb3 (Vb S Gb rfl rfl rfl fun a S=>lv S (Rc hb3 (S.tm rfl) (S.tm rfl)) rfl fun a S=>Dl (⟨Keep.refl _ _,S.nf [true,true,true,true,true] rfl (subR rfl)⟩))))
  clear S;rintro a w30 ⟨hk23,S⟩
  refine Vm S rfl rfl ?_;clear S;intro a S
  obtain ⟨j6,hj6,h⟩:=Ha h
  refine Lq 20 (fun a w'=>∃ c1,j6 c1 = some r ∧ Keep [] w30 w' ∧ Sx w X φ1 [.own v18 9 1 x13.length (x13.flatMap Ic),.blk At [iV Bu] 3,.blk Au [iV Cg] 3,.blk Av [Bg] 31,.own Bg 9 1 Bp.length (Bp.flatMap Ic)] [(5,.pointer (some ⟨At,0,none⟩)),(6,.pointer (some ⟨Au,0,none⟩)),(7,.pointer (some ⟨Av,0,none⟩)),(11,v18),(14,iV (r3.length : Int)),(15,iV r4),(86,bV c1)] 90 a w') ?_ ?_
  ·rcases Bool.eq_false_or_eq_true ((decide (Bu < 0)) || (decide ((r3.length : Int) < Bu))) with hb4 | hb4
   ·replace h:=Sy h hb4
    iterate 4 (refine Kn S rfl rfl rfl (Tb hb4) rfl ?_ rfl;clear S;intro a S)
    iterate 14 (refine ED S rfl rfl rfl rfl ?_;clear S;intro a S)
    exact Kn S rfl rfl rfl (Tb hb4) rfl (fun a S=>Vq S (Rb true hb4) rfl rfl rfl fun a S=>Dl (⟨_,h,Keep.refl _ _,S.nf [true,true,true,true,true] rfl (subR rfl)⟩)) rfl
   ·replace h:=Sz h hb4
    refine Fz S rfl rfl rfl hb4 (Vm S rfl rfl fun a S=>Fz S rfl rfl rfl hb4 (Vl isAgg3 1 S rfl rfl rfl rfl fun a S=>Fz S rfl rfl rfl hb4 (Vb S Px rfl rfl rfl fun a S=>Fz S rfl rfl rfl hb4 (Vm S rfl rfl ?_))));clear S;intro a S
    obtain ⟨j7,hj7,h⟩:=Ha h
    refine Lq 15 (fun a w'=>∃ c2,j7 c2 = some r ∧ Keep [] w30 w' ∧ Sx w X φ1 [.own v18 9 1 x13.length (x13.flatMap Ic),.blk At [iV Bu] 3,.blk Au [iV Cg] 3,.blk Av [Bg] 31,.own Bg 9 1 Bp.length (Bp.flatMap Ic)] [(5,.pointer (some ⟨At,0,none⟩)),(6,.pointer (some ⟨Au,0,none⟩)),(7,.pointer (some ⟨Av,0,none⟩)),(11,v18),(14,iV (r3.length : Int)),(15,iV r4),(66,bV ((decide (Bu < 0)) || (decide ((r3.length : Int) < Bu)))),(85,bV c2)] 90 a w') ?_ ?_
    ·rcases Bool.eq_false_or_eq_true (decide ((r3.length : Int) = Bu)) with hb5 | hb5
     ·replace h:=Sy h hb5
      refine Fz S rfl rfl rfl hb5 (Vm S rfl rfl fun a S=>Fz S rfl rfl rfl hb5 (Vl isAgg3 2 S rfl rfl rfl rfl fun a S=>Fz S rfl rfl rfl hb5 (Vb S Gb rfl rfl rfl fun a S=>Fz S rfl rfl rfl hb5 (Vm S rfl rfl ?_))));clear S;intro a S
      obtain ⟨j8,hj8,h⟩:=Ha h
      refine Lq 10 (fun a w'=>∃ c3,j8 c3 = some r ∧ Keep [] w30 w' ∧ Sx w X φ1 [.own v18 9 1 x13.length (x13.flatMap Ic),.blk At [iV Bu] 3,.blk Au [iV Cg] 3,.blk Av [Bg] 31,.own Bg 9 1 Bp.length (Bp.flatMap Ic)] [(5,.pointer (some ⟨At,0,none⟩)),(6,.pointer (some ⟨Au,0,none⟩)),(7,.pointer (some ⟨Av,0,none⟩)),(11,v18),(14,iV (r3.length : Int)),(15,iV r4),(66,bV ((decide (Bu < 0)) || (decide ((r3.length : Int) < Bu)))),(70,bV (decide ((r3.length : Int) = Bu))),(84,bV c3)] 90 a w') ?_ ?_
      ·rcases Bool.eq_false_or_eq_true (decide (r4 < Cg)) with hb6 | hb6
       ·replace h:=Sy h hb6
        iterate 4 (refine Kn S rfl rfl rfl (Tb hb6) rfl ?_ rfl;clear S;intro a S)
        iterate 4 (refine ED S rfl rfl rfl rfl ?_;clear S;intro a S)
        exact Kn S rfl rfl rfl (Tb hb6) rfl (fun a S=>Fz S rfl rfl rfl hb5 (Vq S (Rb true hb6) rfl rfl rfl fun a S=>Dl (⟨_,h,Keep.refl _ _,S.nf [true,true,true,true,true] rfl (subR rfl)⟩))) rfl
       ·replace h:=Sz h hb6
        refine Fz S rfl rfl rfl hb6 (Vm S rfl rfl fun a S=>Fz S rfl rfl rfl hb6 (Vl isAgg3 2 S rfl rfl rfl rfl fun a S=>Fz S rfl rfl rfl hb6 (Vb S Px rfl rfl rfl fun a S=>Fz S rfl rfl rfl hb6 (Vm S rfl rfl ?_))));clear S;intro a S
        obtain ⟨j9,hj9,h⟩:=Ha h
        refine Lq 5 (fun a w'=>∃ c4,j9 c4 = some r ∧ Keep [] w30 w' ∧ Sx w X φ1 [.own v18 9 1 x13.length (x13.flatMap Ic),.blk At [iV Bu] 3,.blk Au [iV Cg] 3,.blk Av [Bg] 31,.own Bg 9 1 Bp.length (Bp.flatMap Ic)] [(5,.pointer (some ⟨At,0,none⟩)),(6,.pointer (some ⟨Au,0,none⟩)),(7,.pointer (some ⟨Av,0,none⟩)),(11,v18),(14,iV (r3.length : Int)),(15,iV r4),(66,bV ((decide (Bu < 0)) || (decide ((r3.length : Int) < Bu)))),(70,bV (decide ((r3.length : Int) = Bu))),(74,bV (decide (r4 < Cg))),(83,bV c4)] 90 a w') ?_ ?_
        ·rcases Bool.eq_false_or_eq_true (decide (r4 = Cg)) with hb7 | hb7
         ·replace h:=Sy h hb7
          refine Fz S rfl rfl rfl hb7 (Vm S rfl rfl fun a S=>Fz S rfl rfl rfl hb7 (Vl isAgg31 3 S rfl rfl rfl rfl fun a S=>Fz S rfl rfl rfl hb7 ?_))
          obtain ⟨r5,hr7,h⟩:=He h
          refine Fo S (fun _=>Fa (vs:=[v18,Bg]) ⟨(S.tm rfl),(S.tm rfl),trivial⟩ call40) (Qy _ v18 x13 (Ll Jb S (i:=0) rfl (Ij (e':=.own v18 9 1 x13.length (x13.flatMap Ic)))) Bg Bp (Ll Jb S (i:=4) rfl (Ij (e':=.own Bg 9 1 Bp.length (Bp.flatMap Ic)))) _ hr7) rfl ?_;clear S;intro v22 a w35 hv10 hk24 hn10 S
          subst hv10
          exact Fz S rfl rfl rfl hb7 (Vq S Gb rfl rfl rfl fun a S=>Fz S rfl rfl rfl hb6 (lv S (Nd hb7 (S.tm rfl) (S.tm rfl)) rfl fun a S=>Dl (⟨_,h,hk24,S.nf [true,true,true,true,true] rfl (subR rfl)⟩)))
         ·replace h:=Sz h hb7
          iterate 4 (refine Kn S rfl rfl rfl (Ov hb7) rfl ?_ rfl;clear S;intro a S)
          exact Fz S rfl rfl rfl hb6 (Vq S (Nf true hb7) rfl rfl rfl fun a S=>Dl (⟨_,h,Keep.refl _ _,S.nf [true,true,true,true,true] rfl (subR rfl)⟩))
        clear S h;rintro a w34 ⟨c4,h,hk25,S⟩;rw [hj9] at h;clear hj9 j9
        exact Fz S rfl rfl rfl hb5 (lv S (Rc hb6 (S.tm rfl) (S.tm rfl)) rfl fun a S=>Dl (⟨_,h,hk25,S.nf [true,true,true,true,true] rfl (subR rfl)⟩))
      clear S h;rintro a w33 ⟨c3,h,hk26,S⟩;rw [hj8] at h;clear hj8 j8
      exact Fz S rfl rfl rfl hb4 (lv S (Nd hb5 (S.tm rfl) (S.tm rfl)) rfl fun a S=>Dl (⟨_,h,hk26,S.nf [true,true,true,true,true] rfl (subR rfl)⟩))
     ·replace h:=Sz h hb5
      iterate 4 (refine Kn S rfl rfl rfl (Ov hb5) rfl ?_ rfl;clear S;intro a S)
      iterate 9 (refine ED S rfl rfl rfl rfl ?_;clear S;intro a S)
      exact Kn S rfl rfl rfl (Ov hb5) rfl (fun a S=>Fz S rfl rfl rfl hb4 (Vq S (Nf true hb5) rfl rfl rfl fun a S=>Dl (⟨_,h,Keep.refl _ _,S.nf [true,true,true,true,true] rfl (subR rfl)⟩))) rfl
    clear S h;rintro a w32 ⟨c2,h,hk27,S⟩;rw [hj7] at h;clear hj7 j7
    exact lv S (Rc hb4 (S.tm rfl) (S.tm rfl)) rfl fun a S=>Dl (⟨_,h,hk27,S.nf [true,true,true,true,true] rfl (subR rfl)⟩)
  clear S h;rintro a w31 ⟨c1,h,hk28,S⟩;rw [hj6] at h;clear hj6 j6
  refine Dl ?_
  obtain ⟨j10,hj10,h⟩:=Ha h
  refine Gv (fun a w'=>∃ x14 : Int,∃ x15 : Int,∃ x16 : List ByteArray,∃ v23 : Value,j10 x14 x15 x16 = some r ∧ Sx w X φ1 [.blk At [iV x14] 3,.blk Au [iV x15] 3,.blk Av [v23] 31,.own v23 9 1 x16.length (x16.flatMap Ic)] [] 90 a w') ?_ ?_
  ·refine Fc h (S.tm rfl) (fun hb8 h=>?_) (fun hb8 h=>?_)
   ·refine Fg ?_
    iterate 3 (refine Vm S rfl rfl ?_;clear S;intro a S)
    refine Ku S (S.tm rfl) (S.tm rfl) (i:=3) (off:=0) rfl sizeOf31 (vs:=[v18]) (Fl.cells (Ly (S.own_at (i:=0) rfl))) rfl rfl (all1 (Fl.one (Ly (S.own_at (i:=0) rfl))) rfl) ?_;clear S;intro w37 hk29 S
    refine Ku S (S.tm rfl) (S.tm rfl) (i:=1) (off:=0) rfl sizeOf3 (vs:=[iV (r3.length : Int)]) rfl rfl rfl rfl ?_;clear S;intro w38 hk30 S
    refine Ku S (S.tm rfl) (S.tm rfl) (i:=2) (off:=0) rfl sizeOf3 (vs:=[iV r4]) rfl rfl rfl rfl ?_;clear S;intro w39 hk31 S
    exact Dl (⟨(r3.length : Int),r4,x13,v18,h,S.pn [1,2,3,0] [4] rfl rfl trivial⟩)
   ·exact wp_skip (Tn (⟨Bu,Cg,Bp,Bg,h,S.nf [false,true,true,true,true] rfl trivial⟩))
  clear S h;rintro a w36 ⟨x14,x15,x16,v23,h,S⟩;rw [hj10] at h;clear hj10 j10
  obtain rfl:=Option.some.inj h
  exact Tz S results36 ⟨v23,S.grp [0,1,2,3] [] rfl rfl rfl,rfl⟩
theorem Vj (m : Nat) : ∀ (w : World) (X : List Nat) (Bn : Value) (Ch : List An) (_ : Slc (view w X) 5 Bn (Ch.map An.enc)) (Br : Nat) (Ce : Value) (Cd : List An) (_ : Slc (view w X) 5 Ce (Cd.map An.enc)) (_ : (view w X) Br = some (.cells [Ce].toArray 26 (0,0))) (Ci : Nat) (Cs : Value) (Do : List Ex) (_ : Slc (view w X) 3 Cs (Do.map Ex.enc)) (_ : (view w X) Ci = some (.cells [Cs].toArray 29 (0,0))) (Cj : Nat) (Dk : Int) (_ : (view w X) Cj = some (.cells [iV Dk].toArray 3 (0,0))) (At : Nat) (Bu : Int) (_ : (LEnt.blk At [iV Bu] 3).holds w) (Au : Nat) (Cg : Int) (_ : (LEnt.blk Au [iV Cg] 3).holds w) (Av : Nat) (Bg : Value) (Bp : List ByteArray) (_ : (LEnt.own Bg 9 1 Bp.length (Bp.flatMap Ic)).holds w) (_ : (LEnt.blk Av [Bg] 31).holds w) (Ca : Nat) (_ : (view w X) Ca = some (.cells [.func (.func 36) #[] #[.pointer (some ⟨Br,0,none⟩),.pointer (some ⟨Ca,0,none⟩),.pointer (some ⟨Ci,0,none⟩),.pointer (some ⟨Cj,0,none⟩),.pointer (some ⟨At,0,none⟩),.pointer (some ⟨Au,0,none⟩),.pointer (some ⟨Av,0,none⟩)]].toArray 71 (0,0))) (_ : X.Nodup) (_ : X = fps [.blk At [iV Bu] 3,.blk Au [iV Cg] 3,.blk Av [Bg] 31,.own Bg 9 1 Bp.length (Bp.flatMap Ic)]) (r : Int × Int × (List ByteArray)) (_ : Jh m Ch Cd Do Dk Bu Cg Bp = some r),
    Calls prog 36 [Bn,.pointer (some ⟨Br,0,none⟩),.pointer (some ⟨Ca,0,none⟩),.pointer (some ⟨Ci,0,none⟩),.pointer (some ⟨Cj,0,none⟩),.pointer (some ⟨At,0,none⟩),.pointer (some ⟨Au,0,none⟩),.pointer (some ⟨Av,0,none⟩)].toArray w (Ret w X fun _ v w'=>∃ y1 : Value,Grp w w' X [.blk At [iV r.1] 3,.blk Au [iV r.2.1] 3,.blk Av [y1] 31,.own y1 9 1 r.2.2.length (r.2.2.flatMap Ic)] ∧ v = .tuple #[]):=by
  induction m with
  | zero=>intros;rename_i h;rw [Jh] at h;cases h
  | succ m ih=>exact fun w X Bn Ch Cn Br Ce Cd Db Cc Ci Cs Do Dw Dq Cj Dk Ds At Bu Ek Au Cg El Av Bg Bp Em En Ca Df hXn hXe r h=>Uc (Jh m) ih w X Bn Ch Cn Br Ce Cd Db Cc Ci Cs Do Dw Dq Cj Dk Ds At Bu Ek Au Cg El Av Bg Bp Em En Ca Df hXn hXe r h
set_option maxRecDepth 20000 in
theorem Xk (w : World) (Ab : Value) (Ae : List An) (As : Slc (view w []) 5 Ab (Ae.map An.enc)) (Ad : Value) (Ar : List Ex) (Ap : Slc (view w []) 3 Ad (Ar.map Ex.enc)) (Aw : Int) (r : (List ByteArray) × Int) (h : Lo Ae Ar Aw = some r) :
    Calls prog 9 [Ab,Ad,iV Aw].toArray w (Ret w [] fun τ v _=>∃ u1 : Value,v = .tuple #[u1,iV r.2] ∧ Pk τ 9 1 u1 r.1.length (r.1.flatMap Ic)):=by
 refine Fe func9 rfl ntmps9 rfl fun a S=>?_
 unfold Lo at h
 replace S:=S.k3 0 1 2 rfl
 refine Fr (Pt S (S.tm rfl) (cs:=[Ab]) (Fl.cells (Ey As)) rfl ?_);clear S;intro a w1 b1 hz1 hk1 S
 refine Pt S (S.tm rfl) (cs:=[Ad]) (Fl.cells (Ey Ap)) rfl ?_;clear S;intro a w2 b2 hz2 hk2 S
 refine Pt S (S.tm rfl) (cs:=[iV Aw]) rfl rfl ?_;clear S;intro a w3 b3 hz3 hk3 S
 refine Vk S rfl rfl fun a S=>Vk S rfl rfl fun a S=>Dz (Mw S zeroValue31 (cs:=[.slice none 0 0]) rfl rfl ?_);clear S;intro a w4 b4 hz4 hk4 S
 refine Dz (Mw S zeroValue3 (cs:=[iV 0]) rfl rfl ?_);clear S;intro a w5 b5 hz5 hk5 S
 refine Mw S zeroValue3 (cs:=[iV 0]) rfl rfl ?_;clear S;intro a w6 b6 hz6 hk6 S
 refine Ku S (S.tm rfl) rfl (i:=1) (off:=0) rfl sizeOf3 (vs:=[iV (-1)]) rfl rfl rfl rfl ?_;clear S;intro w7 hk7 S
 refine Ku S (S.tm rfl) rfl (i:=0) (off:=0) rfl sizeOf3 (vs:=[iV 0]) rfl rfl rfl rfl ?_;clear S;intro w8 hk8 S
 refine Ld ?_
 replace S:=(S.nl [.blk b6 [iV 0] 3,.blk b5 [iV (-1)] 3,.blk b4 [.slice none 0 0] 31,.blk b3 [iV Aw] 3,.blk b2 [Ad] 29,.blk b1 [Ab] 26] [true,true,true,true,true,true] rfl).k6 3 4 5 8 9 10 rfl
 refine Tn (Fr (Mw S zeroValue71 (cs:=[.nilFunc]) rfl rfl ?_));clear S;intro a w9 b7 hz7 hk9 S
 refine Ld ?_
 replace S:=(S.nl [.blk b7 [.nilFunc] 71,.blk b6 [iV 0] 3,.blk b5 [iV (-1)] 3,.blk b4 [.slice none 0 0] 31,.blk b3 [iV Aw] 3,.blk b2 [Ad] 29,.blk b1 [Ab] 26] [true,true,true,true,true,true,true] rfl).k7 3 4 5 8 9 10 11 rfl
 refine Tn (Fr (lv S (Sr (us:=#[]) (xs:=[].toArray) (ys:=[.tmp 3,.tmp 11,.tmp 4,.tmp 5,.tmp 9,.tmp 10,.tmp 8].toArray) (by simp) (evA ⟨(S.tm rfl),(S.tm rfl),(S.tm rfl),(S.tm rfl),(S.tm rfl),(S.tm rfl),(S.tm rfl),trivial⟩ (vs:=[.pointer (some ⟨b1,0,none⟩),.pointer (some ⟨b7,0,none⟩),.pointer (some ⟨b2,0,none⟩),.pointer (some ⟨b3,0,none⟩),.pointer (some ⟨b5,0,none⟩),.pointer (some ⟨b6,0,none⟩),.pointer (some ⟨b4,0,none⟩)]))) rfl fun a S=>Ku S (S.tm rfl) (S.tm rfl) (i:=0) (off:=0) rfl sizeOf71 (vs:=[.func (.func 36) #[] #[.pointer (some ⟨b1,0,none⟩),.pointer (some ⟨b7,0,none⟩),.pointer (some ⟨b2,0,none⟩),.pointer (some ⟨b3,0,none⟩),.pointer (some ⟨b5,0,none⟩),.pointer (some ⟨b6,0,none⟩),.pointer (some ⟨b4,0,none⟩)]]) rfl rfl rfl rfl ?_));clear S;intro w10 hk10 S
 refine Ld ?_
 replace S:=(S.nl [.blk b7 [.func (.func 36) #[] #[.pointer (some ⟨b1,0,none⟩),.pointer (some ⟨b7,0,none⟩),.pointer (some ⟨b2,0,none⟩),.pointer (some ⟨b3,0,none⟩),.pointer (some ⟨b5,0,none⟩),.pointer (some ⟨b6,0,none⟩),.pointer (some ⟨b4,0,none⟩)]] 71,.blk b6 [iV 0] 3,.blk b5 [iV (-1)] 3,.blk b4 [.slice none 0 0] 31,.blk b3 [iV Aw] 3,.blk b2 [Ad] 29,.blk b1 [Ab] 26] [true,true,true,true,true,true,true] rfl).k3 8 9 11 rfl
 refine Tn (Fr (Vl isAgg71 0 S rfl rfl rfl rfl ?_));clear S;intro a S
 replace S:=S.nil 9 1
 obtain ⟨r1,hr1,h⟩:=He h
 refine Pc [3,2,4,0] [1,5,6,7] (Ls:=[.blk b5 [iV (-1)] 3,.blk b6 [iV 0] 3,.blk b4 [(.slice none 0 0)] 31,.own (.slice none 0 0) 9 1 ([] : List ByteArray).length (([] : List ByteArray).flatMap Ic)]) (Lr:=[.blk b7 [.func (.func 36) #[] #[.pointer (some ⟨b1,0,none⟩),.pointer (some ⟨b7,0,none⟩),.pointer (some ⟨b2,0,none⟩),.pointer (some ⟨b3,0,none⟩),.pointer (some ⟨b5,0,none⟩),.pointer (some ⟨b6,0,none⟩),.pointer (some ⟨b4,0,none⟩)]] 71,.blk b3 [iV Aw] 3,.blk b2 [Ad] 29,.blk b1 [Ab] 26]) (Y:=[b5] ++ ([b6] ++ ([b4] ++ (Value.ownBlock (.slice none 0 0)).toList))) S rfl rfl rfl (by simp [Im,Ju,LEnt.fp]) (fun _=>Pb (cap:=[.pointer (some ⟨b1,0,none⟩),.pointer (some ⟨b7,0,none⟩),.pointer (some ⟨b2,0,none⟩),.pointer (some ⟨b3,0,none⟩),.pointer (some ⟨b5,0,none⟩),.pointer (some ⟨b6,0,none⟩),.pointer (some ⟨b4,0,none⟩)]) (S.tm rfl) (vs:=[.slice none 0 0]) ⟨rfl,trivial⟩ call36) (Vj 16 _ ([b5] ++ ([b6] ++ ([b4] ++ (Value.ownBlock (.slice none 0 0)).toList))) (.slice none 0 0) ([] : List An) (EA _ _) b1 Ab Ae (As.mono (S.le_arg (Fq (Fh (i:=3) (e:=.blk b5 [iV (-1)] 3) rfl) (Fq (Fh (i:=2) (e:=.blk b6 [iV 0] 3) rfl) (Fq (Fh (i:=4) (e:=.blk b4 [(.slice none 0 0)] 31) rfl) (Fh (i:=0) (e:=.own (.slice none 0 0) 9 1 ([] : List ByteArray).length (([] : List ByteArray).flatMap Ic)) rfl)))))) (S.blk_view (i:=7) rfl ((Nc (Ke (i:=3) (j:=7) (e:=.blk b5 [iV (-1)] 3) (e':=.blk b1 [Ab] 26) S rfl rfl rfl) (Nc (Ke (i:=2) (j:=7) (e:=.blk b6 [iV 0] 3) (e':=.blk b1 [Ab] 26) S rfl rfl rfl) (Nc (Ke (i:=4) (j:=7) (e:=.blk b4 [(.slice none 0 0)] 31) (e':=.blk b1 [Ab] 26) S rfl rfl rfl) (Ke (i:=0) (j:=7) (e:=.own (.slice none 0 0) 9 1 ([] : List ByteArray).length (([] : List ByteArray).flatMap Ic)) (e':=.blk b1 [Ab] 26) S rfl rfl rfl)))) _ rfl)) b2 Ad Ar (Ap.mono (S.le_arg (Fq (Fh (i:=3) (e:=.blk b5 [iV (-1)] 3) rfl) (Fq (Fh (i:=2) (e:=.blk b6 [iV 0] 3) rfl) (Fq (Fh (i:=4) (e:=.blk b4 [(.slice none 0 0)] 31) rfl) (Fh (i:=0) (e:=.own (.slice none 0 0) 9 1 ([] : List ByteArray).length (([] : List ByteArray).flatMap Ic)) rfl)))))) (S.blk_view (i:=6) rfl ((Nc (Ke (i:=3) (j:=6) (e:=.blk b5 [iV (-1)] 3) (e':=.blk b2 [Ad] 29) S rfl rfl rfl) (Nc (Ke (i:=2) (j:=6) (e:=.blk b6 [iV 0] 3) (e':=.blk b2 [Ad] 29) S rfl rfl rfl) (Nc (Ke (i:=4) (j:=6) (e:=.blk b4 [(.slice none 0 0)] 31) (e':=.blk b2 [Ad] 29) S rfl rfl rfl) (Ke (i:=0) (j:=6) (e:=.own (.slice none 0 0) 9 1 ([] : List ByteArray).length (([] : List ByteArray).flatMap Ic)) (e':=.blk b2 [Ad] 29) S rfl rfl rfl)))) _ rfl)) b3 Aw (S.blk_view (i:=5) rfl ((Nc (Ke (i:=3) (j:=5) (e:=.blk b5 [iV (-1)] 3) (e':=.blk b3 [iV Aw] 3) S rfl rfl rfl) (Nc (Ke (i:=2) (j:=5) (e:=.blk b6 [iV 0] 3) (e':=.blk b3 [iV Aw] 3) S rfl rfl rfl) (Nc (Ke (i:=4) (j:=5) (e:=.blk b4 [(.slice none 0 0)] 31) (e':=.blk b3 [iV Aw] 3) S rfl rfl rfl) (Ke (i:=0) (j:=5) (e:=.own (.slice none 0 0) 9 1 ([] : List ByteArray).length (([] : List ByteArray).flatMap Ic)) (e':=.blk b3 [iV Aw] 3) S rfl rfl rfl)))) _ rfl)) b5 (-1) (S.holds _ (List.mem_of_getElem? (i:=3) rfl)) b6 0 (S.holds _ (List.mem_of_getElem? (i:=2) rfl)) b4 (.slice none 0 0) ([] : List ByteArray) (S.holds _ (List.mem_of_getElem? (i:=0) rfl)) (S.holds _ (List.mem_of_getElem? (i:=4) rfl)) b7 (S.blk_view (i:=1) rfl ((Nc (Ke (i:=3) (j:=1) (e:=.blk b5 [iV (-1)] 3) (e':=.blk b7 [.func (.func 36) #[] #[.pointer (some ⟨b1,0,none⟩),.pointer (some ⟨b7,0,none⟩),.pointer (some ⟨b2,0,none⟩),.pointer (some ⟨b3,0,none⟩),.pointer (some ⟨b5,0,none⟩),.pointer (some ⟨b6,0,none⟩),.pointer (some ⟨b4,0,none⟩)]] 71) S rfl rfl rfl) (Nc (Ke (i:=2) (j:=1) (e:=.blk b6 [iV 0] 3) (e':=.blk b7 [.func (.func 36) #[] #[.pointer (some ⟨b1,0,none⟩),.pointer (some ⟨b7,0,none⟩),.pointer (some ⟨b2,0,none⟩),.pointer (some ⟨b3,0,none⟩),.pointer (some ⟨b5,0,none⟩),.pointer (some ⟨b6,0,none⟩),.pointer (some ⟨b4,0,none⟩)]] 71) S rfl rfl rfl) (Nc (Ke (i:=4) (j:=1) (e:=.blk b4 [(.slice none 0 0)] 31) (e':=.blk b7 [.func (.func 36) #[] #[.pointer (some ⟨b1,0,none⟩),.pointer (some ⟨b7,0,none⟩),.pointer (some ⟨b2,0,none⟩),.pointer (some ⟨b3,0,none⟩),.pointer (some ⟨b5,0,none⟩),.pointer (some ⟨b6,0,none⟩),.pointer (some ⟨b4,0,none⟩)]] 71) S rfl rfl rfl) (Ke (i:=0) (j:=1) (e:=.own (.slice none 0 0) 9 1 ([] : List ByteArray).length (([] : List ByteArray).flatMap Ic)) (e':=.blk b7 [.func (.func 36) #[] #[.pointer (some ⟨b1,0,none⟩),.pointer (some ⟨b7,0,none⟩),.pointer (some ⟨b2,0,none⟩),.pointer (some ⟨b3,0,none⟩),.pointer (some ⟨b5,0,none⟩),.pointer (some ⟨b6,0,none⟩),.pointer (some ⟨b4,0,none⟩)]] 71) S rfl rfl rfl)))) _ rfl)) (S.ndg [3,2,4,0] [1,5,6,7] rfl rfl rfl (by simp [Im,Ju,LEnt.fp])) (by simp [Im,Ju,LEnt.fp]) _ hr1) rfl ?_;clear S;intro v1 a w11 hv1 hk11 hn1 S
 obtain ⟨v2,hg1,hv1⟩:=hv1;replace S:=S _ hg1;clear hg1
 subst hv1
 refine Ld ?_
 replace S:=(S.nl [.blk b5 [iV r1.1] 3,.blk b4 [v2] 31,.own v2 9 1 r1.2.2.length (r1.2.2.flatMap Ic)] [true,false,true,true,false,false,false,false] rfl).k2 8 9 rfl
 refine Tn (Fs (Hx [] ([]) Tryz.mixed S rfl (by kernel_rfl) ?_));clear S;intro w12 hk12 hsel S
 refine Lc [0,1,2,3] hsel (by kernel_rfl) rfl ?_
 clear hsel
 refine Gp S rfl (Mv isAgg31 (S.tm rfl) (S.cell (i:=1) rfl rfl)) rfl fun a S=>Gp S rfl (Mv isAgg3 (S.tm rfl) (S.cell (i:=0) rfl rfl)) rfl fun a S=>Gp S rfl (Ra (S.tm rfl)) rfl fun a S=>Gp S rfl (Ra (S.tm rfl)) rfl fun a S=>Kz ?_
 replace S:=S.d1.d0.k2 6 7 rfl
 refine Tn (wp_ret ?_)
 obtain rfl:=Option.some.inj h
 exact Qg S results9 rfl rfl ⟨_,rfl,(Pu S (i:=0) rfl rfl)⟩
set_option maxRecDepth 20000 in
theorem Vn (w : World) (Cu : Value) (De : List ByteArray) (Co : Slc (view w []) 1 Cu (De.map Ic)) (Cy : Value) (Dj : List ByteArray) (Di : Slc (view w []) 1 Cy (Dj.map Ic)) (r : Bool) (h : Ni De Dj = some r) :
    Calls prog 10 [Cu,Cy].toArray w (Ret w [] fun _ v _=>v = bV r):=by
 refine Fe func10 rfl ntmps10 rfl fun a S=>?_
 unfold Ni at h
 replace S:=S.k2 0 1 rfl
 refine Fr (Vk S rfl rfl fun a S=>Dl (Fs (Fr (Vm S rfl rfl fun a S=>lv S (Gh Kv (S.tm rfl) (Ey Co)) rfl fun a S=>Vm S rfl rfl ?_))));clear S;intro a S
 refine lv S (Gh Kv (S.tm rfl) (Ey Di)) rfl fun a S=>Vb S Qd rfl rfl rfl fun a S=>Dl (Fc h (S.tm rfl) (fun hb1 h=>?_) (fun hb1 h=>?_))
 ·refine Fr (Vk S rfl rfl fun a S=>Dl (wp_ret (Fk ?_)))
  obtain rfl:=Option.some.inj h
  exact Gm S results10 rfl rfl
 ·refine wp_skip (Tn (Fs (Fr (Vm S rfl rfl fun a S=>lv S (Gh Kv (S.tm rfl) (Ey Co)) rfl fun a S=>lv S (Rm rfl) rfl fun a S=>Dl ?_))))
  replace S:=S.k4 0 1 12 13 rfl
  obtain ⟨j1,hj1,h⟩:=Ha h
  refine Gv (fun a w'=>j1 = some r ∧ Sx w [] nov [] [] 26 a w') ?_ ?_
  ·refine wp_block (Iv (fun (ys1 : List ByteArray) a w'=>∃ i1 : Nat,(∃ dn,De = dn ++ ys1 ∧ dn.length = i1) ∧ Jl Dj j1 ys1 i1 = some r ∧ Sx w [] nov [] [(0,Cu),(1,Cy),(12,iV (De.length : Int)),(13,iV (i1 : Int))] 26 a w') List.length De ⟨0,⟨[],rfl,rfl⟩,h,S.nf [] rfl (subR rfl)⟩ ?_)
   clear S h;rintro ys1 a w1 ⟨i1,⟨dn,hd1,hi1⟩,h,S⟩
   cases ys1 with
   | nil =>
    rw [Jl.eq_1] at h
    refine Fr (Vb S Gb rfl rfl rfl fun a S=>Ld ?_)
    replace S:=S.k5 0 1 12 13 14 rfl
    exact Tn (Fs (wp_cond_false ((S.tm rfl).trans (congrArg Value.bool (Jr hd1 hi1))) (wp_exit (Gk (Gk (Jc (Tn (⟨h,S.nf [] rfl trivial⟩))))))))
   | cons y1 ys1 =>
    rw [Jl.eq_2] at h
    refine Fr (Vb S Gb rfl rfl rfl fun a S=>Ld ?_)
    replace S:=S.k5 0 1 12 13 14 rfl
    refine Tn (Fs (wp_cond_true ((S.tm rfl).trans (congrArg Value.bool (Ih hd1 hi1))) (wp_skip (Tn (Fs (wp_block (Fr (Vm S rfl rfl fun a S=>Va S rfl rfl ?_))))))));clear S;intro a S
    refine Dl (Fs (Hx [] ([]) Tryz.mixed S rfl (by kernel_rfl) ?_));clear S;intro w3 hk1 hsel S
    refine Lc [0,1,2,3,4,5,6,7,8] hsel (by kernel_rfl) rfl ?_
    clear hsel
    refine Gp S rfl (Rm (S.tm rfl)) rfl fun a S=>Gp S rfl (Rm (S.tm rfl)) rfl ?_;clear S;intro a S
    obtain ⟨b1,o1,hm1,hr1⟩:=Gd (a:=a) (x:=.tmp 16) (y:=.tmp 17) (ty:=0) Kv Co (Jd hd1 hi1) rfl (S.tm rfl) (S.tm rfl)
    refine Gp S rfl (hr1 _) rfl ?_;clear S;intro a S
    clear hr1
    refine Gp S rfl (Hr isAgg9 (off:=o1) (o:=0) (S.tm rfl) (hm1.at S.emb0) rfl) rfl fun a S=>Gp S rfl (Rm (S.tm rfl)) rfl fun a S=>Gp S rfl (Rm (S.tm rfl)) rfl ?_;clear S;intro a S
    obtain ⟨hc1,h⟩:=Ig h
    obtain ⟨b2,o2,hm2,hr2⟩:=Gd (a:=a) (x:=.tmp 20) (y:=.tmp 21) (ty:=0) Kv Di (Ff hc1).1 (Ff hc1).2 (S.tm rfl) (S.tm rfl)
    refine Gp S rfl (hr2 _) rfl ?_;clear S;intro a S
    clear hr2
    refine Gp S rfl (Hr isAgg9 (off:=o2) (o:=0) (S.tm rfl) (hm2.at S.emb0) rfl) rfl fun a S=>Gp S rfl (AM (S.tm rfl) (S.tm rfl)) rfl fun a S=>Kz ?_
    replace S:=S.k5 0 1 12 13 24 rfl
    refine Tn (Fc h (S.tm rfl) (fun hb2 h=>?_) (fun hb2 h=>?_))
    ·refine Fr (Vk S rfl rfl fun a S=>Dl (wp_ret (Hv (Fk (Fk (Hv (Fk ?_)))))))
     refine Fk ?_
     obtain rfl:=Option.some.inj h
     exact Gm S results10 rfl rfl
    ·exact wp_skip (Kb (Tn (Fg (Vq S Gx rfl rfl rfl fun a S=>Vm S rfl rfl fun a S=>Dl (⟨ys1,⟨i1 + 1,⟨_,(hd1).trans (List.append_cons _ _ _),by simp [hi1]⟩,h,S.nf [] rfl ⟨rfl,rfl,rfl,(congrArg (fun z=>some (Value.int .i64 z)) (Ii hd1 hi1 (Kl Co))),trivial⟩⟩,Nat.lt_succ_self _⟩)))))
  clear S h;rintro a w2 ⟨h,S⟩;rw [hj1] at h;clear hj1 j1
  refine Tn (Fr (Vk S rfl rfl fun a S=>Dl (wp_ret ?_)))
  obtain rfl:=Option.some.inj h
  exact Gm S results10 rfl rfl
theorem AI (w : World) (O : Nat) (U : Value) (Bc : List Int) (Bd : Slc (view w [O]) 1 U (Bc.map eInt)) (Ao : Int) (Bt : (LEnt.blk O [U,iV Ao] 25).holds w) (Bz : Int) (r : (List Int) × Int) (h : Rv Bc Ao Bz = some r) :
    Calls prog 11 [.pointer (some ⟨O,0,none⟩),iV Bz].toArray w (Ret w [O] fun τ v w'=>(LEnt.blk O [U,iV r.2] 25).holds w' ∧ Pk τ 3 1 v r.1.length (r.1.flatMap eInt)):=by
 refine Lp [O] [.blk O [U,iV Ao] 25] func11 rfl ntmps11 rfl (fun e he=>by simp only [List.mem_singleton] at he;subst he;exact Bt) (by simp [fps,LEnt.fp]) (by simp [fps,LEnt.fp]) fun a S=>?_
 unfold Rv at h
 replace S:=(S.nl [.blk O [U,iV Ao] 25] [true] rfl).k2 0 1 rfl
 refine Fr (Vk S rfl rfl fun a S=>Dz (Vk S rfl rfl ?_));clear S;intro a S
 replace S:=S.nil 3 1
 refine Dl (Fs (Fr (Vm S rfl rfl fun a S=>lv S (Rm rfl) rfl fun a S=>Dl ?_)))
 replace S:=(S.nl [.own (.slice none 0 0) 3 1 ([] : List Int).length (([] : List Int).flatMap eInt),.blk O [U,iV Ao] 25] [true,true] rfl).k5 0 1 5 9 10 rfl
 obtain ⟨j1,hj1,h⟩:=Ha h
 refine Gv (fun a w'=>∃ x1 : List Int,∃ v1 : Value,j1 x1 = some r ∧ Sx w [O] nov [.own v1 3 1 x1.length (x1.flatMap eInt),.blk O [U,iV Ao] 25] [(0,.pointer (some ⟨O,0,none⟩)),(1,iV Bz),(5,v1)] 43 a w') ?_ ?_
 ·refine wp_block (Iv (fun (m1 : Nat) a w'=>∃ x1 : List Int,∃ x2 : Int,∃ v1 : Value,Kp Bz j1 m1 x1 x2 = some r ∧ Sx w [O] nov [.own v1 3 1 x1.length (x1.flatMap eInt),.blk O [U,iV Ao] 25] [(0,.pointer (some ⟨O,0,none⟩)),(1,iV Bz),(5,v1),(9,iV Bz),(10,iV x2)] 43 a w') id ((Bz - 0).toNat + 2) ⟨([] : List Int),0,(.slice none 0 0),h,S.nf [true,true] rfl (subR rfl)⟩ ?_)
  clear S h;rintro m1 a w1 ⟨x1,x2,v1,h,S⟩
  cases m1 with
  | zero=>rw [Kp.eq_1] at h;cases h
  | succ m1 =>
   rw [Kp.eq_2] at h
   refine Fr (Vb S Gb rfl rfl rfl fun a S=>Dl (Fs (Fc h (S.tm rfl) (fun hb1 h=>?_) (fun hb1 h=>?_))))
   ·refine wp_skip (Tn (Fs (wp_block (Fr (Vm S rfl rfl fun a S=>Va S rfl rfl fun a S=>Dl (Fg ?_))))))
    refine Vm S rfl rfl fun a S=>Vm S rfl rfl fun a S=>Fw S underlying22 sizeOf3 zeroValue3 rfl rfl (pv:=[(0,iV x2)]) ⟨rfl,(S.tm rfl),trivial⟩ (cs:=[iV x2]) (by kernel_rfl) rfl ?_;clear S;intro a w3 b1 hz1 hk1 S
    obtain ⟨hc1,h⟩:=Ig h
    refine Nq Lj Hi S (S.tm rfl) (i:=1) rfl (S.tm rfl) (j:=0) rfl (ys:=[x2]) rfl rfl rfl rfl (by have:=Ky hc1;omega) rfl ?_;clear S;intro v2 a w4 hk2 S
    exact Va S rfl rfl fun a S=>Ld (Kb (Tn (Fg (Vq S Gx rfl rfl rfl fun a S=>Vm S rfl rfl fun a S=>Dl (⟨m1,⟨(x1 ++ [x2]),W (x2 + 1),v2,h,S.nf [false,true,true] rfl ⟨rfl,rfl,rfl,rfl,rfl,trivial⟩⟩,Nat.lt_succ_self _⟩)))))
   ·exact wp_exit (Gk (Gk (Jc (Tn (⟨x1,v1,h,S.nf [true,true] rfl (subR rfl)⟩)))))
 clear S h;rintro a w2 ⟨x1,v1,h,S⟩;rw [hj1] at h;clear hj1 j1
 refine Tn (Fs (Fr (Vm S rfl rfl fun a S=>Vq S Kw rfl rfl rfl fun a S=>Va S rfl rfl fun a S=>Dl ?_)))
 replace S:=S.k3 0 5 7 rfl
 obtain ⟨j2,hj2,h⟩:=Ha h
 refine Gv (fun a w'=>∃ x3 : List Int,∃ x4 : Int,∃ v3 : Value,j2 x3 x4 = some r ∧ Sx w [O] nov [.own v3 3 1 x3.length (x3.flatMap eInt),.blk O [U,iV x4] 25] [(5,v3)] 43 a w') ?_ ?_
 ·refine wp_block (Iv (fun (m2 : Nat) a w'=>∃ x3 : List Int,∃ x4 : Int,∃ x5 : Int,∃ v3 : Value,Kq Bc j2 m2 x3 x4 x5 = some r ∧ Sx w [O] nov [.own v3 3 1 x3.length (x3.flatMap eInt),.blk O [U,iV x4] 25] [(0,.pointer (some ⟨O,0,none⟩)),(5,v3),(7,iV x5)] 43 a w') id (((W (Bz - 1)) - 0).toNat + 2) ⟨x1,Ao,W (Bz - 1),v1,h,S.nf [true,true] rfl (subR rfl)⟩ ?_)
  clear S h;rintro m2 a w5 ⟨x3,x4,x5,v3,h,S⟩
  cases m2 with
  | zero=>rw [Kq.eq_1] at h;cases h
  | succ m2 =>
   rw [Kq.eq_2] at h
   refine Fs (Fr (Vm S rfl rfl fun a S=>Vq S Na rfl rfl rfl fun a S=>Dl (Fc h (S.tm rfl) (fun hb2 h=>?_) (fun hb2 h=>?_))))
   ·refine wp_skip (Tn (Fs (wp_block (Fr (Vm S rfl rfl fun a S=>Vm S rfl rfl fun a S=>Vq S Gx rfl rfl rfl ?_)))));clear S;intro a S
    obtain ⟨r1,hr1,h⟩:=He h
    refine Hq 1 S (b:=O) rfl rfl (fun _=>.blk O [U,iV r1.2] 25) (fun _=>Fa (vs:=[.pointer (some ⟨O,0,none⟩),iV (W (x5 + 1))]) ⟨(S.tm rfl),(S.tm rfl),trivial⟩ call21) (Ny _ O U Bc (Bd.mono (S.le_arg (Fh (i:=1) (e:=.blk O [U,iV x4] 25) rfl))) x4 (S.holds _ (List.mem_of_getElem? (i:=1) rfl)) (W (x5 + 1)) _ hr1) rfl (fun _ _ _ h=>⟨h.1,fun _ hc=>by cases hc;rfl⟩) ?_;clear S;intro v4 a w7 hv1 hk3 hn1 S
    replace hv1:=hv1.2
    subst hv1
    refine Va S rfl rfl fun a S=>Dl ?_
    obtain ⟨hc2,h⟩:=Ig h
    obtain ⟨hc3,h⟩:=Ig h
    obtain ⟨hc4,h⟩:=Ig h
    obtain ⟨hc5,h⟩:=Ig h
    refine Hx [13,15] ([]) Tryz.mixed S rfl (by kernel_rfl) ?_;clear S;intro w12 hk8 hsel S
    refine Hs 0 S hsel rfl rfl (by kernel_rfl) (by kernel_rfl) rfl (fun _=>(Rm (S.tm rfl))) fun a S=>Hs 1 S hsel rfl rfl (by kernel_rfl) (by kernel_rfl) rfl (fun _=>(Rm (S.tm rfl))) fun a S=>Hs 2 S hsel rfl rfl (by kernel_rfl) (by kernel_rfl) rfl (fun _=>(Rm (S.tm rfl))) fun a S=>Hs 3 S hsel rfl rfl (by kernel_rfl) (by kernel_rfl) rfl (fun _=>(Rm (S.tm rfl))) fun a S=>Hs 4 S hsel rfl rfl (by kernel_rfl) (by kernel_rfl) rfl (fun _=>(Rm (S.tm rfl))) fun a S=>Hs 5 S hsel rfl rfl (by kernel_rfl) (by kernel_rfl) rfl (fun _=>(Rm (S.tm rfl))) ?_;clear S;intro a S
    obtain ⟨b6,hg5,hr6⟩:=Hn (a:=a) (x:=.tmp 32) (y:=.tmp 33) (ty:=0) Lj Hi S (i:=0) rfl (Ff hc2).1 (Ff hc2).2 (S.tm rfl) (S.tm rfl)
    refine Hs 6 S hsel rfl rfl (by kernel_rfl) (by kernel_rfl) rfl (fun _=>(hr6 _)) ?_;clear S;intro a S
    clear hr6
    refine Fj 7 S hsel rfl (by kernel_rfl) (by kernel_rfl) (by kernel_rfl) (by kernel_rfl) rfl (fun _ hw=>(Hr isAgg3 (off:=r1.1.toNat * 1) (o:=0) (S.tm rfl) ((Qa Hi S (i:=0) rfl hg5 (Ff hc2).1 (Ij (e':=.own v3 3 1 x3.length (x3.flatMap eInt)))).kept hw) rfl)) fun a S=>Hs 8 S hsel rfl rfl (by kernel_rfl) (by kernel_rfl) rfl (fun _=>(Rm (S.tm rfl))) fun a S=>Hs 9 S hsel rfl rfl (by kernel_rfl) (by kernel_rfl) rfl (fun _=>(Rm (S.tm rfl))) ?_;clear S;intro a S
    obtain ⟨b7,hg6,hr7⟩:=Hn (a:=a) (x:=.tmp 36) (y:=.tmp 37) (ty:=0) Lj Hi S (i:=0) rfl (Ff hc3).1 (Ff hc3).2 (S.tm rfl) (S.tm rfl)
    refine Hs 10 S hsel rfl rfl (by kernel_rfl) (by kernel_rfl) rfl (fun _=>(hr7 _)) ?_;clear S;intro a S
    clear hr7
    refine Fj 11 S hsel rfl (by kernel_rfl) (by kernel_rfl) (by kernel_rfl) (by kernel_rfl) rfl (fun _ hw=>(Hr isAgg3 (off:=x5.toNat * 1) (o:=0) (S.tm rfl) ((Qa Hi S (i:=0) rfl hg6 (Ff hc3).1 (Ij (e':=.own v3 3 1 x3.length (x3.flatMap eInt)))).kept hw) rfl)) ?_;clear S;intro a S
    obtain ⟨b8,hg7,hr8⟩:=Hn (a:=a) (x:=.tmp 28) (y:=.tmp 29) (ty:=0) Lj Hi S (i:=0) rfl (Ff hc4).1 (Ff hc4).2 (S.tm rfl) (S.tm rfl)
    refine Hs 12 S hsel rfl rfl (by kernel_rfl) (by kernel_rfl) rfl (fun _=>(hr8 _)) ?_;clear S;intro a S
    clear hr8
    refine Uy 13 (v3.ownBlock.toList) rfl (by kernel_rfl) rfl (Ki (c:=0) (j:=x5.toNat) (nth x3 r1.1) Hi S (S.tm rfl) (S.tm rfl) (i:=0) rfl hg7 (Ff hc4).1 sizeOf3 (vs:=[iV (nth x3 r1.1)]) rfl rfl rfl rfl rfl ?_);clear S;intro w14 hk10 S
    refine Ld (Vc ?_)
    obtain ⟨b9,hg8,hr9⟩:=Hn (a:=a) (x:=.tmp 30) (y:=.tmp 31) (ty:=0) Lj Hi S (i:=0) rfl (Ff hc5).1 (Ff hc5).2 (S.tm rfl) (S.tm rfl)
    refine Fj 14 S hsel rfl rfl rfl (by kernel_rfl) (by kernel_rfl) rfl (fun _ hw=>(hr9 _)) ?_;clear S;intro a S
    clear hr9
    refine Gq 15 (by kernel_rfl) rfl (Ki (c:=0) (j:=r1.1.toNat) (nth x3 x5) Hi S (S.tm rfl) (S.tm rfl) (i:=0) rfl hg8 (Ff hc5).1 sizeOf3 (vs:=[iV (nth x3 x5)]) rfl rfl rfl rfl rfl ?_);clear S;intro w16 hk12 S
    refine Ld (Hb hk12 (Ss (by kernel_rfl) ?_))
    clear hsel
    replace S:=(S.nl [.own v3 3 1 ((x3.set x5.toNat (nth x3 r1.1)).set r1.1.toNat (nth x3 x5)).length (((x3.set x5.toNat (nth x3 r1.1)).set r1.1.toNat (nth x3 x5)).flatMap eInt),.blk O [U,iV r1.2] 25] [true,true] rfl).k3 0 5 7 rfl
    exact Kb (Tn (Fg (Vm S rfl rfl fun a S=>Vq S Kw rfl rfl rfl fun a S=>Va S rfl rfl fun a S=>Dl (⟨m2,⟨((x3.set x5.toNat (nth x3 r1.1)).set r1.1.toNat (nth x3 x5)),r1.2,W (x5 - 1),v3,h,S.nf [true,true] rfl ⟨rfl,rfl,rfl,trivial⟩⟩,Nat.lt_succ_self _⟩))))
   ·exact wp_exit (Gk (Gk (Jc (Tn (⟨x3,x4,v3,h,S.nf [true,true] rfl ⟨rfl,trivial⟩⟩)))))
 clear S h;rintro a w6 ⟨x3,x4,v3,h,S⟩;rw [hj2] at h;clear hj2 j2
 refine Tn (Fr (Vm S rfl rfl fun a S=>Va S rfl rfl fun a S=>Dl (wp_ret ?_)))
 obtain rfl:=Option.some.inj h
 exact Gm S results11 rfl ⟨(S.holds _ (List.mem_of_getElem? (i:=1) rfl)),(Wd S (i:=0) rfl (fun c hc hh=>Tu S (i:=1) rfl rfl (j:=0) rfl rfl (by simp at hc;subst hc;exact hh)))⟩
theorem Vo (w : World) (Ak : Value) (Ay : List ByteArray) (Bo : Slc (view w []) 1 Ak (Ay.map Ic)) (Cw : ByteArray) (r : Int) (h : Qr Ay Cw = r) :
    Calls prog 67 [Ak,sV Cw].toArray w (Ret w [] fun _ v _=>v = iV r):=by
 refine Fe func67 rfl ntmps67 rfl fun a S=>?_
 unfold Qr at h
 replace S:=S.k2 0 1 rfl
 refine Fr (Vk S rfl rfl fun a S=>Dl (Fs (Fr (Vm S rfl rfl fun a S=>lv S (Gh Kv (S.tm rfl) (Ey Bo)) rfl fun a S=>lv S (Rm rfl) rfl ?_))));clear S;intro a S
 refine Dl ?_
 replace S:=S.k4 0 1 7 8 rfl
 obtain ⟨j1,hj1,h⟩:=Ha h
 refine Gv (fun a w'=>j1 = r ∧ Sx w [] nov [] [] 19 a w') ?_ ?_
 ·refine wp_block (Iv (fun (ys1 : List ByteArray) a w'=>∃ i1 : Nat,(∃ dn,Ay = dn ++ ys1 ∧ dn.length = i1) ∧ Jz Cw j1 ys1 i1 = r ∧ Sx w [] nov [] [(0,Ak),(1,sV Cw),(7,iV (Ay.length : Int)),(8,iV (i1 : Int))] 19 a w') List.length Ay ⟨0,⟨[],rfl,rfl⟩,h,S.nf [] rfl (subR rfl)⟩ ?_)
  clear S h;rintro ys1 a w1 ⟨i1,⟨dn,hd1,hi1⟩,h,S⟩
  cases ys1 with
  | nil =>
   rw [Jz.eq_1] at h
   refine Fr (Vb S Gb rfl rfl rfl fun a S=>Ld ?_)
   replace S:=S.k5 0 1 7 8 9 rfl
   exact Tn (Fs (wp_cond_false ((S.tm rfl).trans (congrArg Value.bool (Jr hd1 hi1))) (wp_exit (Gk (Gk (Jc (Tn (⟨h,S.nf [] rfl trivial⟩))))))))
  | cons y1 ys1 =>
   rw [Jz.eq_2] at h
   refine Fr (Vb S Gb rfl rfl rfl fun a S=>Ld ?_)
   replace S:=S.k5 0 1 7 8 9 rfl
   refine Tn (Fs (wp_cond_true ((S.tm rfl).trans (congrArg Value.bool (Ih hd1 hi1))) (wp_skip (Tn (Fs (wp_block (Fr (Vm S rfl rfl fun a S=>Va S rfl rfl ?_))))))));clear S;intro a S
   refine Dl (Fs (Fg ?_))
   iterate 3 (refine Vm S rfl rfl ?_;clear S;intro a S)
   obtain ⟨b1,o1,hm1,hr1⟩:=Gd (a:=a) (x:=.tmp 12) (y:=.tmp 13) (ty:=0) Kv Bo (Jd hd1 hi1) rfl (S.tm rfl) (S.tm rfl)
   refine lv S (hr1 _) rfl ?_;clear S;intro a S
   clear hr1
   refine lv S (Hr isAgg9 (off:=o1) (o:=0) (S.tm rfl) (hm1.at S.emb0) rfl) rfl fun a S=>Vb S Yg rfl rfl rfl fun a S=>Dl (Fc h (S.tm rfl) (fun hb1 h=>?_) (fun hb1 h=>?_))
   ·refine Fr (Vm S rfl rfl fun a S=>Va S rfl rfl fun a S=>Ld ?_)
    replace S:=S.k1 4 rfl
    refine Tn (wp_ret (Hv (Fk (Fk (Hv (Fk (Fk ?_)))))))
    subst h
    exact Gm S results67 rfl rfl
   ·exact wp_skip (Kb (Tn (Fg (Vq S Gx rfl rfl rfl fun a S=>Vm S rfl rfl fun a S=>Dl (⟨ys1,⟨i1 + 1,⟨_,(hd1).trans (List.append_cons _ _ _),by simp [hi1]⟩,h,S.nf [] rfl ⟨rfl,rfl,rfl,(congrArg (fun z=>some (Value.int .i64 z)) (Ii hd1 hi1 (Kl Bo))),trivial⟩⟩,Nat.lt_succ_self _⟩)))))
 clear S h;rintro a w2 ⟨h,S⟩;rw [hj1] at h;clear hj1 j1
 refine Tn (Fr (Vk S rfl rfl fun a S=>Dl (wp_ret ?_)))
 subst h
 exact Gm S results67 rfl rfl
theorem Qq (w : World) (Ak : Value) (Ay : List ByteArray) (Bo : Slc (view w []) 1 Ak (Ay.map Ic)) (Cw : ByteArray) (r : Bool) (h : Ma Ay Cw = r) :
    Calls prog 43 [Ak,sV Cw].toArray w (Ret w [] fun _ v _=>v = bV r):=by
 refine Fe func43 rfl ntmps43 rfl fun a S=>?_
 unfold Ma at h
 replace S:=S.k2 0 1 rfl
 refine Fr (Vk S rfl rfl fun a S=>Dz (Vm S rfl rfl fun a S=>Vm S rfl rfl fun a S=>Fo S (fun _=>Fa (vs:=[Ak,sV Cw]) ⟨(S.tm rfl),(S.tm rfl),trivial⟩ call67) (Vo _ Ak Ay (Bo.mono (S.le_arg Fy)) Cw _ rfl) rfl ?_));clear S;intro v1 a w1 hv1 hk1 hn1 S
 subst hv1
 refine Vq S Qe rfl rfl rfl fun a S=>Va S rfl rfl fun a S=>Dl (wp_ret ?_)
 subst h
 exact Gm S results43 rfl rfl
theorem Zq (w : World) (Ab : Value) (Ae : List An) (As : Slc (view w []) 5 Ab (Ae.map An.enc)) (Ct : Value) (Cl : List ByteArray) (Ck : Slc (view w []) 1 Ct (Cl.map Ic)) (r : (List An) × Int) (h : Mm Ae Cl = some r) :
    Calls prog 15 [Ab,Ct].toArray w (Ret w [] fun τ v _=>∃ u1 : Value,v = .tuple #[u1,iV r.2] ∧ Pk τ 41 5 u1 r.1.length (r.1.flatMap An.enc)):=by
 refine Fe func15 rfl ntmps15 rfl fun a S=>?_
 unfold Mm at h
 replace S:=S.k2 0 1 rfl
 refine Fr (Vk S rfl rfl fun a S=>Vk S rfl rfl fun a S=>Dl (Fs (Fr (Vm S rfl rfl ?_))));clear S;intro a S
 obtain ⟨r1,hr1,h⟩:=He h
 refine Fo S (fun _=>Fa (vs:=[Ab]) ⟨(S.tm rfl),trivial⟩ call41) (Py _ Ab Ae (As.mono (S.le_arg Fy)) _ hr1) rfl ?_;clear S;intro v1 a w1 hv1 hk1 hn1 S
 subst hv1
 refine Va S rfl rfl fun a S=>Dz (Vm S rfl rfl fun a S=>Vq S Qd rfl rfl rfl fun a S=>Dl (Fc h (S.tm rfl) (fun hb1 h=>?_) (fun hb1 h=>?_)))
 ·refine Fr (Vm S rfl rfl fun a S=>Vk S rfl rfl fun a S=>Va S rfl rfl fun a S=>Dl (wp_ret (Fk ?_)))
  obtain rfl:=Option.some.inj h
  exact Qg S results15 rfl rfl ⟨_,rfl,(Mf _ _ _)⟩
 ·refine wp_skip (Tn (Fs (Fr (Vm S rfl rfl fun a S=>lv S (Gh Kv (S.tm rfl) (Ey Ck)) rfl fun a S=>Vm S rfl rfl fun a S=>lv S (Gh Il (S.tm rfl) (Ey As)) rfl fun a S=>Vb S Qd rfl rfl rfl fun a S=>Ld ?_))))
  refine Tn (Fc h (S.tm rfl) (fun hb2 h=>?_) (fun hb2 h=>?_))
  ·refine Fr (Vk S rfl rfl fun a S=>Vk S rfl rfl fun a S=>Dl (wp_ret (Fk ?_)))
   obtain rfl:=Option.some.inj h
   exact Qg S results15 rfl rfl ⟨_,rfl,(Mf _ _ _)⟩
  ·refine wp_skip (Tn (Fr (Vk S rfl rfl ?_)));clear S;intro a S
   replace S:=S.nil 41 5
   refine Ld ?_
   replace S:=(S.nl [.own (.slice none 0 0) 41 5 ([] : List An).length (([] : List An).flatMap An.enc)] [true] rfl).k3 0 1 7 rfl
   refine Tn (Fs (Fr (Vm S rfl rfl fun a S=>lv S (Gh Kv (S.tm rfl) (Ey Ck)) rfl fun a S=>lv S (Rm rfl) rfl fun a S=>Dl ?_)))
   replace S:=S.k6 0 1 7 21 22 23 rfl
   obtain ⟨j1,hj1,h⟩:=Ha h
   refine Gv (fun a w'=>∃ x1 : List An,∃ v2 : Value,j1 x1 = some r ∧ Sx w [] nov [.own v2 41 5 x1.length (x1.flatMap An.enc)] [(7,v2)] 47 a w') ?_ ?_
   ·refine wp_block (Iv (fun (ys1 : List ByteArray) a w'=>∃ i1 : Nat,∃ x1 : List An,∃ v2 : Value,(∃ dn,Cl = dn ++ ys1 ∧ dn.length = i1) ∧ Jo Ae Cl j1 ys1 i1 x1 = some r ∧ Sx w [] nov [.own v2 41 5 x1.length (x1.flatMap An.enc)] [(0,Ab),(1,Ct),(7,v2),(21,Ct),(22,iV (Cl.length : Int)),(23,iV (i1 : Int))] 47 a w') List.length Cl ⟨0,([] : List An),(.slice none 0 0),⟨[],rfl,rfl⟩,h,S.nf [true] rfl (subR rfl)⟩ ?_)
    clear S h;rintro ys1 a w2 ⟨i1,x1,v2,⟨dn,hd1,hi1⟩,h,S⟩
    cases ys1 with
    | nil =>
     rw [Jo.eq_1] at h
     refine Fr (Vb S Gb rfl rfl rfl fun a S=>Ld ?_)
     replace S:=S.k7 0 1 7 21 22 23 24 rfl
     exact Tn (Fs (wp_cond_false ((S.tm rfl).trans (congrArg Value.bool (Jr hd1 hi1))) (wp_exit (Gk (Gk (Jc (Tn (⟨x1,v2,h,S.nf [true] rfl ⟨rfl,trivial⟩⟩))))))))
    | cons y1 ys1 =>
     rw [Jo.eq_2] at h
     refine Fr (Vb S Gb rfl rfl rfl fun a S=>Ld ?_)
     replace S:=S.k7 0 1 7 21 22 23 24 rfl
     refine Tn (Fs (wp_cond_true ((S.tm rfl).trans (congrArg Value.bool (Ih hd1 hi1))) (wp_skip (Tn (Fs (wp_block (Fr (Vm S rfl rfl ?_))))))));clear S;intro a S
     obtain ⟨b1,o1,hm1,hr2⟩:=Gd (a:=a) (x:=.tmp 21) (y:=.tmp 23) (ty:=0) Kv Ck (Jd hd1 hi1) rfl (S.tm rfl) (S.tm rfl)
     refine lv S (hr2 _) rfl ?_;clear S;intro a S
     clear hr2
     refine lv S (Hr isAgg9 (off:=o1) (o:=0) (S.tm rfl) (hm1.at S.emb0) rfl) rfl fun a S=>Va S rfl rfl fun a S=>Va S rfl rfl fun a S=>Dz (Vm S rfl rfl fun a S=>Vm S rfl rfl fun a S=>Fo S (fun _=>Fa (vs:=[Ab,sV y1]) ⟨(S.tm rfl),(S.tm rfl),trivial⟩ call42) (Sd _ Ab Ae (As.mono (S.le_arg Fy)) y1 _ rfl) rfl ?_);clear S;intro v3 a w4 hv2 hk2 hn2 S
     subst hv2
     refine Va S rfl rfl fun a S=>Ld ?_
     replace S:=S.k9 0 1 7 8 9 10 21 22 23 rfl
     refine Tn (Fs (Fr (Vm S rfl rfl fun a S=>Vq S Gb rfl rfl rfl fun a S=>Dl (Fc h (S.tm rfl) (fun hb3 h=>?_) (fun hb3 h=>?_)))))
     ·refine Fr (Vk S rfl rfl fun a S=>Vk S rfl rfl fun a S=>Dl (wp_ret (Fk (Hv (Fk (Fk ?_))))))
      refine Hv (Fk (Fk ?_))
      obtain rfl:=Option.some.inj h
      exact Qg S results15 rfl rfl ⟨_,rfl,(Mf _ _ _)⟩
     ·refine wp_skip (Tn (Fs (Fr (Vm S rfl rfl fun a S=>Vm S rfl rfl ?_))));clear S;intro a S
      obtain ⟨hc1,h⟩:=Ig h
      obtain ⟨v4,hs1,hr3⟩:=We (a:=a) (x:=.tmp 33) (y':=.tmp 34) (ty:=31) Kv Ck (S.tm rfl) (S.tm rfl) hc1
      refine lv S (hr3 _) rfl ?_;clear S;intro a S
      clear hr3
      refine Vm S rfl rfl fun a S=>Fo S (fun _=>Fa (vs:=[v4,sV y1]) ⟨(S.tm rfl),(S.tm rfl),trivial⟩ call43) (Qq _ v4 (cut Cl 0 (i1 : Int)) (hs1.mono (S.le_arg Fy)) y1 _ rfl) rfl ?_;clear S;intro v5 a w5 hv3 hk3 hn3 S
      subst hv3
      refine Ld ?_
      replace S:=S.k8 0 1 7 10 21 22 23 37 rfl
      refine Tn (Fc h (S.tm rfl) (fun hb4 h=>?_) (fun hb4 h=>?_))
      ·refine Fr (Vk S rfl rfl fun a S=>Vk S rfl rfl fun a S=>Dl (wp_ret (Fk (Hv (Fk (Fk ?_))))))
       refine Hv (Fk (Fk ?_))
       obtain rfl:=Option.some.inj h
       exact Qg S results15 rfl rfl ⟨_,rfl,(Mf _ _ _)⟩
      ·refine wp_skip (Tn (Fg ?_))
       iterate 3 (refine Vm S rfl rfl ?_;clear S;intro a S)
       obtain ⟨hc2,h⟩:=Ig h
       obtain ⟨b2,o2,hm2,hr4⟩:=Gd (a:=a) (x:=.tmp 39) (y:=.tmp 40) (ty:=0) Il As (Ff hc2).1 (Ff hc2).2 (S.tm rfl) (S.tm rfl)
       refine lv S (hr4 _) rfl ?_;clear S;intro a S
       clear hr4
       refine lv S (Ji isAgg41 sizeOf41 (off:=o2) (o:=0) (part:=(An.enc (nth Ae (Ez Ae y1)))) rfl rfl (S.tm rfl) (hm2.at S.emb0)) rfl fun a S=>Fw S underlying26 sizeOf41 zeroValue41 rfl rfl (pv:=[(0,.agg (An.enc (nth Ae (Ez Ae y1))).toArray)]) ⟨rfl,(S.tm rfl),trivial⟩ (cs:=[sV ((nth Ae (Ez Ae y1)).Key),iV ((nth Ae (Ez Ae y1)).Heats),iV ((nth Ae (Ez Ae y1)).Long),iV ((nth Ae (Ez Ae y1)).Gap),iV ((nth Ae (Ez Ae y1)).Break)]) (by kernel_rfl) rfl ?_;clear S;intro a w6 b3 hz1 hk4 S
       obtain ⟨hc3,h⟩:=Ig h
       refine Nq Il An.enc_ok S (S.tm rfl) (i:=1) rfl (S.tm rfl) (j:=0) rfl (ys:=[(nth Ae (Ez Ae y1))]) rfl rfl rfl rfl (by have:=Ky hc3;omega) rfl ?_;clear S;intro v6 a w7 hk5 S
       refine Va S rfl rfl fun a S=>Ld ?_
       replace S:=(S.nl [.own v6 41 5 (x1 ++ [(nth Ae (Ez Ae y1))]).length ((x1 ++ [(nth Ae (Ez Ae y1))]).flatMap An.enc)] [false,true] rfl).k6 0 1 7 21 22 23 rfl
       exact Kb (Tn (Fg (Vq S Gx rfl rfl rfl fun a S=>Vm S rfl rfl fun a S=>Dl (⟨ys1,⟨i1 + 1,(x1 ++ [(nth Ae (Ez Ae y1))]),v6,⟨_,(hd1).trans (List.append_cons _ _ _),by simp [hi1]⟩,h,S.nf [true] rfl ⟨rfl,rfl,rfl,rfl,rfl,(congrArg (fun z=>some (Value.int .i64 z)) (Ii hd1 hi1 (Kl Ck))),trivial⟩⟩,Nat.lt_succ_self _⟩))))
   clear S h;rintro a w3 ⟨x1,v2,h,S⟩;rw [hj1] at h;clear hj1 j1
   refine Tn (Fr (Vm S rfl rfl fun a S=>Va S rfl rfl fun a S=>Vk S rfl rfl fun a S=>Dl (wp_ret ?_)))
   obtain rfl:=Option.some.inj h
   exact Qg S results15 rfl rfl ⟨_,rfl,(Pu S (i:=0) rfl rfl)⟩
theorem Vp (w : World) (Ab : Value) (Ae : List An) (As : Slc (view w []) 5 Ab (Ae.map An.enc)) (Ct : Value) (Cl : List ByteArray) (Ck : Slc (view w []) 1 Ct (Cl.map Ic)) (r : (List An) × Int) (h : Ks Ae Cl = some r) :
    Calls prog 17 [Ab,Ct].toArray w (Ret w [] fun τ v _=>∃ u1 : Value,v = .tuple #[u1,iV r.2] ∧ Pk τ 41 5 u1 r.1.length (r.1.flatMap An.enc)):=by
 refine Fe func17 rfl ntmps17 rfl fun a S=>?_
 unfold Ks at h
 replace S:=S.k2 0 1 rfl
 refine Fr (Vk S rfl rfl fun a S=>Vk S rfl rfl fun a S=>Dl (Fs (Fr (Vm S rfl rfl fun a S=>lv S (Gh Kv (S.tm rfl) (Ey Ck)) rfl ?_))));clear S;intro a S
 refine Vm S rfl rfl fun a S=>lv S (Gh Il (S.tm rfl) (Ey As)) rfl fun a S=>Vb S Qd rfl rfl rfl fun a S=>Dl (Fc h (S.tm rfl) (fun hb1 h=>?_) (fun hb1 h=>?_))
 ·refine Fr (Vk S rfl rfl fun a S=>Vk S rfl rfl fun a S=>Dl (wp_ret (Fk ?_)))
  obtain rfl:=Option.some.inj h
  exact Qg S results17 rfl rfl ⟨_,rfl,(Mf _ _ _)⟩
 ·refine wp_skip (Tn (Fr (Vk S rfl rfl ?_)));clear S;intro a S
  replace S:=S.nil 41 5
  refine Dl (Fs (Fr (Vm S rfl rfl fun a S=>lv S (Gh Kv (S.tm rfl) (Ey Ck)) rfl fun a S=>lv S (Rm rfl) rfl fun a S=>Dl ?_)))
  replace S:=(S.nl [.own (.slice none 0 0) 41 5 ([] : List An).length (([] : List An).flatMap An.enc)] [true] rfl).k6 0 1 6 15 16 17 rfl
  obtain ⟨j1,hj1,h⟩:=Ha h
  refine Gv (fun a w'=>∃ x1 : List An,∃ v1 : Value,j1 x1 = some r ∧ Sx w [] nov [.own v1 41 5 x1.length (x1.flatMap An.enc)] [(6,v1)] 43 a w') ?_ ?_
  ·refine wp_block (Iv (fun (ys1 : List ByteArray) a w'=>∃ i1 : Nat,∃ x1 : List An,∃ v1 : Value,(∃ dn,Cl = dn ++ ys1 ∧ dn.length = i1) ∧ Iu Ae Cl j1 ys1 i1 x1 = some r ∧ Sx w [] nov [.own v1 41 5 x1.length (x1.flatMap An.enc)] [(0,Ab),(1,Ct),(6,v1),(15,Ct),(16,iV (Cl.length : Int)),(17,iV (i1 : Int))] 43 a w') List.length Cl ⟨0,([] : List An),(.slice none 0 0),⟨[],rfl,rfl⟩,h,S.nf [true] rfl (subR rfl)⟩ ?_)
   clear S h;rintro ys1 a w1 ⟨i1,x1,v1,⟨dn,hd1,hi1⟩,h,S⟩
   cases ys1 with
   | nil =>
    rw [Iu.eq_1] at h
    refine Fr (Vb S Gb rfl rfl rfl fun a S=>Ld ?_)
    replace S:=S.k7 0 1 6 15 16 17 18 rfl
    exact Tn (Fs (wp_cond_false ((S.tm rfl).trans (congrArg Value.bool (Jr hd1 hi1))) (wp_exit (Gk (Gk (Jc (Tn (⟨x1,v1,h,S.nf [true] rfl ⟨rfl,trivial⟩⟩))))))))
   | cons y1 ys1 =>
    rw [Iu.eq_2] at h
    refine Fr (Vb S Gb rfl rfl rfl fun a S=>Ld ?_)
    replace S:=S.k7 0 1 6 15 16 17 18 rfl
    refine Tn (Fs (wp_cond_true ((S.tm rfl).trans (congrArg Value.bool (Ih hd1 hi1))) (wp_skip (Tn (Fs (wp_block (Fr (Vm S rfl rfl ?_))))))));clear S;intro a S
    obtain ⟨b1,o1,hm1,hr1⟩:=Gd (a:=a) (x:=.tmp 15) (y:=.tmp 17) (ty:=0) Kv Ck (Jd hd1 hi1) rfl (S.tm rfl) (S.tm rfl)
    refine lv S (hr1 _) rfl ?_;clear S;intro a S
    clear hr1
    refine lv S (Hr isAgg9 (off:=o1) (o:=0) (S.tm rfl) (hm1.at S.emb0) rfl) rfl fun a S=>Va S rfl rfl fun a S=>Va S rfl rfl fun a S=>Dz (Vm S rfl rfl fun a S=>Vm S rfl rfl fun a S=>Fo S (fun _=>Fa (vs:=[Ab,sV y1]) ⟨(S.tm rfl),(S.tm rfl),trivial⟩ call37) (Pr _ Ab Ae (As.mono (S.le_arg Fy)) y1 _ rfl) rfl ?_);clear S;intro v2 a w3 hv1 hk1 hn1 S
    subst hv1
    refine Va S rfl rfl fun a S=>Ld ?_
    replace S:=S.k9 0 1 6 7 8 9 15 16 17 rfl
    refine Tn (Fs (wp_block (Fr (Vm S rfl rfl fun a S=>Vq S Gb rfl rfl rfl fun a S=>Va S rfl rfl fun a S=>Dl (Fc h (S.tm rfl) (fun hb2 h=>?_) (fun hb2 h=>?_))))))
    ·refine Fr (Vk S rfl rfl fun a S=>Vk S rfl rfl fun a S=>Dl (wp_ret (Hv (Fk (Hv (Fk ?_))))))
     refine Fk (Hv (Fk (Fk ?_)))
     obtain rfl:=Option.some.inj h
     exact Qg S results17 rfl rfl ⟨_,rfl,(Mf _ _ _)⟩
    ·refine Fr (Vm S rfl rfl fun a S=>Vm S rfl rfl ?_);clear S;intro a S
     obtain ⟨hc1,h⟩:=Ig h
     obtain ⟨v3,hs1,hr2⟩:=We (a:=a) (x:=.tmp 29) (y':=.tmp 30) (ty:=31) Kv Ck (S.tm rfl) (S.tm rfl) hc1
     refine lv S (hr2 _) rfl ?_;clear S;intro a S
     clear hr2
     refine Vm S rfl rfl fun a S=>Fo S (fun _=>Fa (vs:=[v3,sV y1]) ⟨(S.tm rfl),(S.tm rfl),trivial⟩ call43) (Qq _ v3 (cut Cl 0 (i1 : Int)) (hs1.mono (S.le_arg Fy)) y1 _ rfl) rfl ?_;clear S;intro v4 a w4 hv2 hk2 hn2 S
     subst hv2
     refine Va S rfl rfl fun a S=>Ld ?_
     replace S:=S.k8 0 1 6 9 15 16 17 28 rfl
     refine Tn (Fc h (S.tm rfl) (fun hb3 h=>?_) (fun hb3 h=>?_))
     ·refine Fr (Vk S rfl rfl fun a S=>Vk S rfl rfl fun a S=>Dl (wp_ret (Hv (Fk (Hv (Fk ?_))))))
      refine Fk (Hv (Fk (Fk ?_)))
      obtain rfl:=Option.some.inj h
      exact Qg S results17 rfl rfl ⟨_,rfl,(Mf _ _ _)⟩
     ·refine wp_skip (Kb (Tn (Fg ?_)))
      iterate 3 (refine Vm S rfl rfl ?_;clear S;intro a S)
      obtain ⟨hc2,h⟩:=Ig h
      obtain ⟨b2,o2,hm2,hr3⟩:=Gd (a:=a) (x:=.tmp 35) (y:=.tmp 36) (ty:=0) Il As (Ff hc2).1 (Ff hc2).2 (S.tm rfl) (S.tm rfl)
      refine lv S (hr3 _) rfl ?_;clear S;intro a S
      clear hr3
      refine lv S (Ji isAgg41 sizeOf41 (off:=o2) (o:=0) (part:=(An.enc (nth Ae (Gl Ae y1)))) rfl rfl (S.tm rfl) (hm2.at S.emb0)) rfl fun a S=>Fw S underlying26 sizeOf41 zeroValue41 rfl rfl (pv:=[(0,.agg (An.enc (nth Ae (Gl Ae y1))).toArray)]) ⟨rfl,(S.tm rfl),trivial⟩ (cs:=[sV ((nth Ae (Gl Ae y1)).Key),iV ((nth Ae (Gl Ae y1)).Heats),iV ((nth Ae (Gl Ae y1)).Long),iV ((nth Ae (Gl Ae y1)).Gap),iV ((nth Ae (Gl Ae y1)).Break)]) (by kernel_rfl) rfl ?_;clear S;intro a w5 b3 hz1 hk3 S
      obtain ⟨hc3,h⟩:=Ig h
      refine Nq Il An.enc_ok S (S.tm rfl) (i:=1) rfl (S.tm rfl) (j:=0) rfl (ys:=[(nth Ae (Gl Ae y1))]) rfl rfl rfl rfl (by have:=Ky hc3;omega) rfl ?_;clear S;intro v5 a w6 hk4 S
      refine Va S rfl rfl fun a S=>Ld ?_
      replace S:=(S.nl [.own v5 41 5 (x1 ++ [(nth Ae (Gl Ae y1))]).length ((x1 ++ [(nth Ae (Gl Ae y1))]).flatMap An.enc)] [false,true] rfl).k6 0 1 6 15 16 17 rfl
      exact Kb (Tn (Fg (Vq S Gx rfl rfl rfl fun a S=>Vm S rfl rfl fun a S=>Dl (⟨ys1,⟨i1 + 1,(x1 ++ [(nth Ae (Gl Ae y1))]),v5,⟨_,(hd1).trans (List.append_cons _ _ _),by simp [hi1]⟩,h,S.nf [true] rfl ⟨rfl,rfl,rfl,rfl,rfl,(congrArg (fun z=>some (Value.int .i64 z)) (Ii hd1 hi1 (Kl Ck))),trivial⟩⟩,Nat.lt_succ_self _⟩))))
  clear S h;rintro a w2 ⟨x1,v1,h,S⟩;rw [hj1] at h;clear hj1 j1
  refine Tn (Fr (Vm S rfl rfl fun a S=>Va S rfl rfl fun a S=>Vk S rfl rfl fun a S=>Dl (wp_ret ?_)))
  obtain rfl:=Option.some.inj h
  exact Qg S results17 rfl rfl ⟨_,rfl,(Pu S (i:=0) rfl rfl)⟩
set_option maxRecDepth 20000 in
theorem Wq (w : World) (Cu : Value) (De : List An) (Co : Slc (view w []) 5 Cu (De.map An.enc)) (Cy : Value) (Dj : List An) (Di : Slc (view w []) 5 Cy (Dj.map An.enc)) (r : Bool) (h : My De Dj = some r) :
    Calls prog 18 [Cu,Cy].toArray w (Ret w [] fun _ v _=>v = bV r):=by
 refine Fe func18 rfl ntmps18 rfl fun a S=>?_
 unfold My at h
 replace S:=S.k2 0 1 rfl
 refine Fr (Vk S rfl rfl fun a S=>Dl (Fs (Fr (Vm S rfl rfl fun a S=>lv S (Gh Il (S.tm rfl) (Ey Co)) rfl fun a S=>Vm S rfl rfl ?_))));clear S;intro a S
 refine lv S (Gh Il (S.tm rfl) (Ey Di)) rfl fun a S=>Vb S Qd rfl rfl rfl fun a S=>Dl (Fc h (S.tm rfl) (fun hb1 h=>?_) (fun hb1 h=>?_))
 ·refine Fr (Vk S rfl rfl fun a S=>Dl (wp_ret (Fk ?_)))
  obtain rfl:=Option.some.inj h
  exact Gm S results18 rfl rfl
 ·refine wp_skip (Tn (Fs (Fr (Vm S rfl rfl fun a S=>lv S (Gh Il (S.tm rfl) (Ey Co)) rfl fun a S=>lv S (Rm rfl) rfl fun a S=>Dl ?_))))
  replace S:=S.k4 0 1 12 13 rfl
  obtain ⟨j1,hj1,h⟩:=Ha h
  refine Gv (fun a w'=>j1 = some r ∧ Sx w [] nov [] [] 26 a w') ?_ ?_
  ·refine wp_block (Iv (fun (ys1 : List An) a w'=>∃ i1 : Nat,(∃ dn,De = dn ++ ys1 ∧ dn.length = i1) ∧ Ka Dj j1 ys1 i1 = some r ∧ Sx w [] nov [] [(0,Cu),(1,Cy),(12,iV (De.length : Int)),(13,iV (i1 : Int))] 26 a w') List.length De ⟨0,⟨[],rfl,rfl⟩,h,S.nf [] rfl (subR rfl)⟩ ?_)
   clear S h;rintro ys1 a w1 ⟨i1,⟨dn,hd1,hi1⟩,h,S⟩
   cases ys1 with
   | nil =>
    rw [Ka.eq_1] at h
    refine Fr (Vb S Gb rfl rfl rfl fun a S=>Ld ?_)
    replace S:=S.k5 0 1 12 13 14 rfl
    exact Tn (Fs (wp_cond_false ((S.tm rfl).trans (congrArg Value.bool (Jr hd1 hi1))) (wp_exit (Gk (Gk (Jc (Tn (⟨h,S.nf [] rfl trivial⟩))))))))
   | cons y1 ys1 =>
    rw [Ka.eq_2] at h
    refine Fr (Vb S Gb rfl rfl rfl fun a S=>Ld ?_)
    replace S:=S.k5 0 1 12 13 14 rfl
    refine Tn (Fs (wp_cond_true ((S.tm rfl).trans (congrArg Value.bool (Ih hd1 hi1))) (wp_skip (Tn (Fs (wp_block (Fr (Vm S rfl rfl fun a S=>Va S rfl rfl ?_))))))));clear S;intro a S
    refine Dl (Fs (Hx [] ([]) Tryz.mixed S rfl (by kernel_rfl) ?_));clear S;intro w3 hk1 hsel S
    refine Lc [0,1,2,3,4,5,6,7,8] hsel (by kernel_rfl) rfl ?_
    clear hsel
    refine Gp S rfl (Rm (S.tm rfl)) rfl fun a S=>Gp S rfl (Rm (S.tm rfl)) rfl ?_;clear S;intro a S
    obtain ⟨b1,o1,hm1,hr1⟩:=Gd (a:=a) (x:=.tmp 16) (y:=.tmp 17) (ty:=0) Il Co (Jd hd1 hi1) rfl (S.tm rfl) (S.tm rfl)
    refine Gp S rfl (hr1 _) rfl ?_;clear S;intro a S
    clear hr1
    refine Gp S rfl (Ji isAgg41 sizeOf41 (off:=o1) (o:=0) (part:=(An.enc y1)) rfl rfl (S.tm rfl) (hm1.at S.emb0)) rfl fun a S=>Gp S rfl (Rm (S.tm rfl)) rfl fun a S=>Gp S rfl (Rm (S.tm rfl)) rfl ?_;clear S;intro a S
    obtain ⟨hc1,h⟩:=Ig h
    obtain ⟨b2,o2,hm2,hr2⟩:=Gd (a:=a) (x:=.tmp 20) (y:=.tmp 21) (ty:=0) Il Di (Ff hc1).1 (Ff hc1).2 (S.tm rfl) (S.tm rfl)
    refine Gp S rfl (hr2 _) rfl ?_;clear S;intro a S
    clear hr2
    refine Gp S rfl (Ji isAgg41 sizeOf41 (off:=o2) (o:=0) (part:=(An.enc (nth Dj (i1 : Int)))) rfl rfl (S.tm rfl) (hm2.at S.emb0)) rfl fun a S=>Gp S rfl (JR (m:=y1) (n:=(nth Dj (i1 : Int))) (S.tm rfl) (S.tm rfl)) rfl fun a S=>Kz ?_
    replace S:=S.k5 0 1 12 13 24 rfl
    refine Tn (Fc h (S.tm rfl) (fun hb2 h=>?_) (fun hb2 h=>?_))
    ·refine Fr (Vk S rfl rfl fun a S=>Dl (wp_ret (Hv (Fk (Fk (Hv (Fk ?_)))))))
     refine Fk ?_
     obtain rfl:=Option.some.inj h
     exact Gm S results18 rfl rfl
    ·exact wp_skip (Kb (Tn (Fg (Vq S Gx rfl rfl rfl fun a S=>Vm S rfl rfl fun a S=>Dl (⟨ys1,⟨i1 + 1,⟨_,(hd1).trans (List.append_cons _ _ _),by simp [hi1]⟩,h,S.nf [] rfl ⟨rfl,rfl,rfl,(congrArg (fun z=>some (Value.int .i64 z)) (Ii hd1 hi1 (Kl Co))),trivial⟩⟩,Nat.lt_succ_self _⟩)))))
  clear S h;rintro a w2 ⟨h,S⟩;rw [hj1] at h;clear hj1 j1
  refine Tn (Fr (Vk S rfl rfl fun a S=>Dl (wp_ret ?_)))
  obtain rfl:=Option.some.inj h
  exact Gm S results18 rfl rfl
theorem Yv (w : World) (Bz : Int) (r : Bool) (h : Rw Bz = r) :
    Calls prog 107 [iV Bz].toArray w (Ret w [] fun _ v _=>v = bV r):=by
 refine Fe func107 rfl ntmps107 rfl fun a S=>?_
 unfold Rw at h
 replace S:=S.k1 0 rfl
 refine Fr (Vk S rfl rfl fun a S=>Dz (Vm S rfl rfl fun a S=>Vq S Qe rfl rfl rfl fun a S=>Vm S rfl rfl fun a S=>Lq 3 (fun a w'=>Keep [] w w' ∧ Sx w [] nov [] [(8,bV ((decide (0 ≤ Bz)) && (decide (Bz < 345686400000))))] 9 a w') ?_ ?_))
 ·rcases Bool.eq_false_or_eq_true (decide (0 ≤ Bz)) with hb1 | hb1
  ·exact Fz S rfl rfl rfl hb1 (Vm S rfl rfl fun a S=>Fz S rfl rfl rfl hb1 (Vq S Gb rfl rfl rfl fun a S=>lv S (Nd hb1 (S.tm rfl) (S.tm rfl)) rfl fun a S=>Dl (⟨Keep.refl _ _,S.nf [] rfl ⟨rfl,trivial⟩⟩)))
  ·exact Kn S rfl rfl rfl (Ov hb1) rfl (fun a S=>Kn S rfl rfl rfl (Ov hb1) rfl (fun a S=>lv S (Nf (decide (Bz < 345686400000)) hb1 (S.tm rfl) rfl) rfl fun a S=>Dl (⟨Keep.refl _ _,S.nf [] rfl ⟨rfl,trivial⟩⟩)) rfl) rfl
 clear S;rintro a w1 ⟨hk1,S⟩
 refine Va S rfl rfl fun a S=>Dl (wp_ret ?_)
 subst h
 exact Gm S results107 rfl rfl
theorem Zr (w : World) (Ad : Value) (Ar : List An) (Ap : Slc (view w []) 5 Ad (Ar.map An.enc)) (Be : Int) (r : (List Fb) × Int) (h : Qx Ar Be = some r) :
    Calls prog 90 [Ad,iV Be].toArray w (Ret w [] fun τ v _=>∃ u1 : Value,v = .tuple #[u1,iV r.2] ∧ Pk τ 85 4 u1 r.1.length (r.1.flatMap Fb.enc)):=by
 refine Fe func90 rfl ntmps90 rfl fun a S=>?_
 unfold Qx at h
 replace S:=S.k2 0 1 rfl
 refine Fr (Vk S rfl rfl fun a S=>Vk S rfl rfl fun a S=>Dl (Fs (Fr (Vm S rfl rfl fun a S=>Fo S (fun _=>Fa (vs:=[iV Be]) ⟨(S.tm rfl),trivial⟩ call107) (Yv _ Be _ rfl) rfl ?_))));clear S;intro v1 a w1 hv1 hk1 hn1 S
 subst hv1
 refine Vu S Mo rfl rfl fun a S=>Dl (Fc h (S.tm rfl) (fun hb1 h=>?_) (fun hb1 h=>?_))
 ·refine Fr (Vk S rfl rfl fun a S=>Vk S rfl rfl fun a S=>Dl (wp_ret (Fk ?_)))
  obtain rfl:=Option.some.inj h
  exact Qg S results90 rfl rfl ⟨_,rfl,(Mf _ _ _)⟩
 ·refine wp_skip (Tn (Fr (Vm S rfl rfl fun a S=>Vm S rfl rfl ?_)));clear S;intro a S
  obtain ⟨r1,hr1,h⟩:=He h
  have hz1:=S.keep.size
  refine Fo S (fun _=>Fa (vs:=[Ad,iV Be]) ⟨(S.tm rfl),(S.tm rfl),trivial⟩ call27) (Sv _ Ad Ar (Ap.mono (S.le_arg Fy)) Be _ hr1) rfl ?_;clear S;intro v2 a w2 hv2 hk2 hn2 S
  obtain ⟨φ1,hl1,hm1,S⟩:=S.see' hn2 hz1
  have hs1:=hv2.mono hm1
  refine Va S rfl rfl fun a S=>Dl (Fs (Fr (Vm S rfl rfl fun a S=>Vm S rfl rfl ?_)));clear S;intro a S
  obtain ⟨r2,hr2,h⟩:=He h
  refine Fo S (fun _=>Fa (vs:=[v2,iV Be]) ⟨(S.tm rfl),(S.tm rfl),trivial⟩ call26) (Tm _ v2 r1 ((Gw Fb.enc_ok hs1).mono (S.le_new Fy)) Be _ hr2) rfl ?_;clear S;intro v3 a w3 hv3 hk3 hn3 S
  subst hv3
  refine Vq S Na rfl rfl rfl fun a S=>Ld ?_
  replace S:=S.k2 6 16 rfl
  refine Tn (Fc h (S.tm rfl) (fun hb2 h=>?_) (fun hb2 h=>?_))
  ·refine Fr (Vk S rfl rfl fun a S=>Vk S rfl rfl fun a S=>Dl (wp_ret (Fk ?_)))
   obtain rfl:=Option.some.inj h
   exact Qg S results90 rfl rfl ⟨_,rfl,(Mf _ _ _)⟩
  ·refine wp_skip (Tn (Fr (Vm S rfl rfl fun a S=>Va S rfl rfl fun a S=>Vk S rfl rfl fun a S=>Dl (wp_ret ?_))))
   obtain rfl:=Option.some.inj h
   exact Qg S results90 rfl rfl ⟨_,rfl,((hs1).mono S.le_newer)⟩
theorem Wr (w : World) (Ad : Value) (Ar : List An) (Ap : Slc (view w []) 5 Ad (Ar.map An.enc)) (Be : Int) (r : (List Fb) × Int) (h : Rx Ar Be = some r) :
    Calls prog 69 [Ad,iV Be].toArray w (Ret w [] fun τ v _=>∃ u1 : Value,v = .tuple #[u1,iV r.2] ∧ Pk τ 85 4 u1 r.1.length (r.1.flatMap Fb.enc)):=by
 refine Fe func69 rfl ntmps69 rfl fun a S=>?_
 unfold Rx at h
 replace S:=S.k2 0 1 rfl
 refine Fr (Vk S rfl rfl fun a S=>Vk S rfl rfl fun a S=>Dl (Fs (Fr (Vm S rfl rfl ?_))));clear S;intro a S
 obtain ⟨r1,hr1,h⟩:=He h
 refine Fo S (fun _=>Fa (vs:=[Ad]) ⟨(S.tm rfl),trivial⟩ call41) (Py _ Ad Ar (Ap.mono (S.le_arg Fy)) _ hr1) rfl ?_;clear S;intro v1 a w1 hv1 hk1 hn1 S
 subst hv1
 refine Va S rfl rfl fun a S=>Dz (Vm S rfl rfl fun a S=>Vq S Qd rfl rfl rfl fun a S=>Dl (Fc h (S.tm rfl) (fun hb1 h=>?_) (fun hb1 h=>?_)))
 ·refine Fr (Vm S rfl rfl fun a S=>Vk S rfl rfl fun a S=>Va S rfl rfl fun a S=>Dl (wp_ret (Fk ?_)))
  obtain rfl:=Option.some.inj h
  exact Qg S results69 rfl rfl ⟨_,rfl,(Mf _ _ _)⟩
 ·refine wp_skip (Tn (Fr (Vm S rfl rfl fun a S=>Vm S rfl rfl ?_)));clear S;intro a S
  obtain ⟨r2,hr2,h⟩:=He h
  have hz1:=S.keep.size
  refine Fo S (fun _=>Fa (vs:=[Ad,iV Be]) ⟨(S.tm rfl),(S.tm rfl),trivial⟩ call90) (Zr _ Ad Ar (Ap.mono (S.le_arg Fy)) Be _ hr2) rfl ?_;clear S;intro v2 a w2 hv2 hk2 hn2 S
  obtain ⟨u1,rfl,ho1⟩:=hv2
  obtain ⟨φ1,hl1,hm1,S⟩:=S.see' hn2 hz1
  have hs1:=ho1.mono hm1
  refine Vq S Mh rfl rfl rfl fun a S=>Vq S Mh rfl rfl rfl fun a S=>Va S rfl rfl fun a S=>Va S rfl rfl fun a S=>Dl (wp_ret ?_)
  obtain rfl:=Option.some.inj h
  exact Qg S results69 rfl rfl ⟨_,rfl,((hs1).mono S.le_newer)⟩
theorem AJ (w : World) (Ad : Value) (Ar : List An) (Ap : Slc (view w []) 5 Ad (Ar.map An.enc)) (Be : Int) (r : Int × Int) (h : Vd Ar Be = some r) :
    Calls prog 45 [Ad,iV Be].toArray w (Ret w [] fun _ v _=>v = .tuple #[iV r.1,iV r.2]):=by
 refine Fe func45 rfl ntmps45 rfl fun a S=>?_
 unfold Vd at h
 replace S:=S.k2 0 1 rfl
 refine Fr (Vk S rfl rfl fun a S=>Vk S rfl rfl fun a S=>Dz (Vm S rfl rfl fun a S=>Vm S rfl rfl ?_));clear S;intro a S
 obtain ⟨r1,hr1,h⟩:=He h
 have hz1:=S.keep.size
 refine Fo S (fun _=>Fa (vs:=[Ad,iV Be]) ⟨(S.tm rfl),(S.tm rfl),trivial⟩ call69) (Wr _ Ad Ar (Ap.mono (S.le_arg Fy)) Be _ hr1) rfl ?_;clear S;intro v1 a w1 hv1 hk1 hn1 S
 obtain ⟨u1,rfl,ho1⟩:=hv1
 obtain ⟨φ1,hl1,hm1,S⟩:=S.see' hn1 hz1
 have hs1:=ho1.mono hm1
 refine Vm S rfl rfl fun a S=>Vq S Mh rfl rfl rfl fun a S=>Vq S Mh rfl rfl rfl fun a S=>Va S rfl rfl fun a S=>Va S rfl rfl fun a S=>Dl (Fs (Fr (Vm S rfl rfl ?_)));clear S;intro a S
 refine Vq S Qd rfl rfl rfl fun a S=>Dl (Fc h (S.tm rfl) (fun hb1 h=>?_) (fun hb1 h=>?_))
 ·refine Fr (Vm S rfl rfl fun a S=>Vk S rfl rfl fun a S=>Va S rfl rfl fun a S=>Ld ?_)
  replace S:=S.k2 4 5 rfl
  refine Tn (wp_ret (Fk ?_))
  obtain rfl:=Option.some.inj h
  exact Qg S results45 rfl rfl rfl
 ·refine wp_skip (Tn (Fr (Vm S rfl rfl fun a S=>Vm S rfl rfl ?_)));clear S;intro a S
  obtain ⟨r2,hr2,h⟩:=He h
  refine Fo S (fun _=>Fa (vs:=[u1,iV Be]) ⟨(S.tm rfl),(S.tm rfl),trivial⟩ call26) (Tm _ u1 r1.1 ((Gw Fb.enc_ok hs1).mono (S.le_new Fy)) Be _ hr2) rfl ?_;clear S;intro v2 a w2 hv2 hk2 hn2 S
  subst hv2
  refine Va S rfl rfl fun a S=>Vk S rfl rfl fun a S=>Ld ?_
  replace S:=S.k2 4 5 rfl
  refine Tn (wp_ret ?_)
  obtain rfl:=Option.some.inj h
  exact Qg S results45 rfl rfl rfl
theorem Yw (w : World) (r : Bool) (h : Qj = some r) :
    Calls prog 19 [].toArray w (Ret w [] fun _ v _=>v = bV r):=by
 refine Fe func19 rfl ntmps19 rfl fun a S=>?_
 unfold Qj at h
 replace S:=S.k0
 refine Fr (Vk S rfl rfl fun a S=>Dz (lv S (Tj bt_41 (pv:=[(0,sV k_a),(1,iV 2),(2,iV 10),(3,iV 5)]) ⟨rfl,rfl,rfl,rfl,rfl,rfl,rfl,rfl,trivial⟩ (cs:=[sV k_a,iV 2,iV 10,iV 5,iV 0]) (by kernel_rfl)) rfl fun a S=>Fw S underlying26 sizeOf41 zeroValue41 rfl rfl (pv:=[(0,.agg #[sV k_a,iV 2,iV 10,iV 5,iV 0])]) ⟨rfl,(S.tm rfl),trivial⟩ (cs:=[sV k_a,iV 2,iV 10,iV 5,iV 0]) (by kernel_rfl) rfl ?_));clear S;intro a w1 b1 hz1 hk1 S
 obtain ⟨r1,hr1,h⟩:=He h
 refine Fo S (fun _=>Fa (vs:=[.slice (some ⟨b1,0,none⟩) 1 1,iV 0]) ⟨(S.tm rfl),rfl,trivial⟩ call45) (AJ _ (.slice (some ⟨b1,0,none⟩) 1 1) [(An.mk k_a 2 10 5 0)] (Lz An.enc_ok S (i:=0) rfl rfl rfl rfl ((Ij (e':=.blk b1 [sV k_a,iV 2,iV 10,iV 5,iV 0] 41)) _ rfl)) 0 _ hr1) rfl ?_;clear S;intro v1 a w2 hv1 hk2 hn1 S
 subst hv1
 refine Vm S rfl rfl fun a S=>Vq S Mh rfl rfl rfl fun a S=>Vq S Mh rfl rfl rfl fun a S=>Va S rfl rfl fun a S=>Va S rfl rfl fun a S=>Dz (Vm S rfl rfl fun a S=>Vq S Px rfl rfl rfl ?_);clear S;intro a S
 refine Vm S rfl rfl fun a S=>Lq 3 (fun a w'=>Keep [] w2 w' ∧ Sx w [] nov [.blk b1 [sV k_a,iV 2,iV 10,iV 5,iV 0] 41] [(14,bV ((decide (r1.2 = 0)) && (decide (r1.1 = 25))))] 15 a w') ?_ ?_
 ·rcases Bool.eq_false_or_eq_true (decide (r1.2 = 0)) with hb1 | hb1
  ·exact Fz S rfl rfl rfl hb1 (Vm S rfl rfl fun a S=>Fz S rfl rfl rfl hb1 (Vq S Px rfl rfl rfl fun a S=>lv S (Nd hb1 (S.tm rfl) (S.tm rfl)) rfl fun a S=>Dl (⟨Keep.refl _ _,S.nf [true] rfl ⟨rfl,trivial⟩⟩)))
  ·exact Kn S rfl rfl rfl (Ov hb1) rfl (fun a S=>Kn S rfl rfl rfl (Ov hb1) rfl (fun a S=>lv S (Nf (decide (r1.1 = 25)) hb1 (S.tm rfl) rfl) rfl fun a S=>Dl (⟨Keep.refl _ _,S.nf [true] rfl ⟨rfl,trivial⟩⟩)) rfl) rfl
 clear S;rintro a w3 ⟨hk3,S⟩
 refine Va S rfl rfl fun a S=>Dl (wp_ret ?_)
 obtain rfl:=Option.some.inj h
 exact Gm S results19 rfl rfl
theorem Tf (w : World) (Ad : Value) (Ar : List Int) (Ap : Slc (view w []) 1 Ad (Ar.map eInt)) (r : Bool) (h : Mn Ar = some r) :
    Calls prog 3 [Ad].toArray w (Ret w [] fun _ v _=>v = bV r):=by
 refine Fe func3 rfl ntmps3 rfl fun a S=>?_
 unfold Mn at h
 replace S:=S.k1 0 rfl
 refine Fr (Vk S rfl rfl fun a S=>Dz (Vm S rfl rfl ?_));clear S;intro a S
 refine lv S (Tj bt_25 (pv:=[(0,Ad)]) ⟨rfl,(S.tm rfl),trivial⟩ (cs:=[Ad,iV 0]) (by obtain ⟨_,_,hv⟩:=(Ey Ap);rw [hv];clear hv;kernel_rfl)) rfl ?_;clear S;intro a S
 refine Pt S (S.tm rfl) (cs:=[Ad,iV 0]) rfl rfl ?_;clear S;intro a w1 b1 hz1 hk1 S
 refine Va S rfl rfl fun a S=>Dz (Vm S rfl rfl ?_);clear S;intro a S
 obtain ⟨r1,hr1,h⟩:=He h
 have hz2:=S.keep.size
 refine Hq 0 S (b:=b1) rfl rfl (fun _=>.blk b1 [Ad,iV r1.2] 25) (fun _=>Fa (vs:=[.pointer (some ⟨b1,0,none⟩),iV 4]) ⟨(S.tm rfl),rfl,trivial⟩ call4) (AE _ b1 Ad Ar (Ap.mono (S.le_arg (Fh (i:=0) (e:=.blk b1 [Ad,iV 0] 25) rfl))) 0 (S.holds _ (List.mem_of_getElem? (i:=0) rfl)) 4 _ hr1) rfl (fun _ _ _ h=>⟨h.1,fun _ hc=>by cases hc;rfl⟩) ?_;clear S;intro v1 a w2 hv1 hk2 hn1 S
 replace hv1:=hv1.2
 obtain ⟨φ1,hl1,hm1,S⟩:=S.see' hn1 hz2
 have hs1:=hv1.mono hm1
 refine Vm S rfl rfl fun a S=>Fw S underlying22 sizeOf3 zeroValue3 rfl rfl (pv:=[(0,iV 0),(1,iV 50),(2,iV 100),(3,iV 200),(4,iV (-1)),(5,iV 3600001)]) ⟨rfl,rfl,rfl,rfl,rfl,rfl,rfl,rfl,rfl,rfl,rfl,rfl,trivial⟩ (cs:=[iV 0,iV 50,iV 100,iV 200,iV (-1),iV 3600001]) (by kernel_rfl) rfl ?_;clear S;intro a w3 b2 hz3 hk3 S
 obtain ⟨r2,hr2,h⟩:=He h
 refine Hq 1 S (b:=b1) rfl rfl (fun _=>.blk b1 [Ad,iV r2.2] 25) (fun _=>Fa (vs:=[.pointer (some ⟨b1,0,none⟩),.slice (some ⟨b2,0,none⟩) 6 6]) ⟨(S.tm rfl),(S.tm rfl),trivial⟩ call5) (Pg _ b1 Ad Ar (Ap.mono (S.le_arg (Fh (i:=1) (e:=.blk b1 [Ad,iV r1.2] 25) rfl))) r1.2 (S.holds _ (List.mem_of_getElem? (i:=1) rfl)) (.slice (some ⟨b2,0,none⟩) 6 6) [0,50,100,200,(-1),3600001] (Lz Hi S (i:=0) rfl rfl rfl rfl ((Ke (i:=1) (j:=0) (e:=.blk b1 [Ad,iV r1.2] 25) (e':=.blk b2 [iV 0,iV 50,iV 100,iV 200,iV (-1),iV 3600001] 3) S rfl rfl rfl) _ rfl)) _ hr2) rfl (fun _ _ _ h=>⟨h.1,fun _ hc=>by cases hc;rfl⟩) ?_;clear S;intro v2 a w4 hv2 hk4 hn2 S
 replace hv2:=hv2.2
 subst hv2
 refine Va S rfl rfl fun a S=>Va S rfl rfl fun a S=>Dz (Vm S rfl rfl fun a S=>Vm S rfl rfl ?_);clear S;intro a S
 obtain ⟨r3,hr3,h⟩:=He h
 have hz4:=S.keep.size
 refine Hq 1 S (b:=b1) rfl rfl (fun _=>.blk b1 [Ad,iV r3.2] 25) (fun _=>Fa (vs:=[.pointer (some ⟨b1,0,none⟩),v1]) ⟨(S.tm rfl),(S.tm rfl),trivial⟩ call6) (AF _ b1 Ad Ar (Ap.mono (S.le_arg (Fh (i:=1) (e:=.blk b1 [Ad,iV r2.2] 25) rfl))) r2.2 (S.holds _ (List.mem_of_getElem? (i:=1) rfl)) v1 r1.1 ((Gw An.enc_ok hs1).mono (S.le_new (Fh (i:=1) (e:=.blk b1 [Ad,iV r2.2] 25) rfl))) _ hr3) rfl (fun _ _ _ h=>⟨h.1,fun _ hc=>by cases hc;rfl⟩) ?_;clear S;intro v3 a w5 hv3 hk5 hn3 S
 replace hv3:=hv3.2
 obtain ⟨φ2,hl2,hm2,S⟩:=S.see' hn3 hz4
 have hs2:=hv3.mono hm2
 refine Va S rfl rfl fun a S=>Ld ?_
 replace S:=(S.nl [.blk b1 [Ad,iV r3.2] 25] [false,true] rfl).k4 3 4 5 6 rfl
 refine Tn (Fs (Fg ?_))
 iterate 3 (refine Vm S rfl rfl ?_;clear S;intro a S)
 obtain ⟨r4,hr4,h⟩:=He h
 have hz5:=S.keep.size
 refine Fo S (fun _=>Fa (vs:=[v1,v3,iV r2.1]) ⟨(S.tm rfl),(S.tm rfl),(S.tm rfl),trivial⟩ call7) (Zo _ v1 r1.1 ((Gw An.enc_ok hs1).mono (View.le_trans hl2 (S.le_new Fy))) v3 r3.1 ((Gw Ex.enc_ok hs2).mono (S.le_new Fy)) r2.1 _ hr4) rfl ?_;clear S;intro v4 a w6 hv4 hk6 hn4 S
 obtain ⟨u3,rfl,ho3⟩:=hv4
 obtain ⟨φ3,hl3,hm3,S⟩:=S.see' hn4 hz5
 have hs3:=ho3.mono hm3
 refine Vm S rfl rfl ?_;clear S;intro a S
 iterate 3 (refine Vq S Mh rfl rfl rfl ?_;clear S;intro a S)
 iterate 3 (refine Va S rfl rfl ?_;clear S;intro a S)
 refine Ld ?_
 replace S:=S.k7 3 4 5 6 7 8 9 rfl
 refine Tn (Fs (Fg ?_))
 iterate 3 (refine Vm S rfl rfl ?_;clear S;intro a S)
 obtain ⟨r5,hr5,h⟩:=He h
 refine Fo S (fun _=>Fa (vs:=[v1,v3,iV r2.1]) ⟨(S.tm rfl),(S.tm rfl),(S.tm rfl),trivial⟩ call8) (Vi _ v1 r1.1 ((Gw An.enc_ok hs1).mono (View.le_trans (View.le_trans hl2 hl3) (S.le_new Fy))) v3 r3.1 ((Gw Ex.enc_ok hs2).mono (View.le_trans hl3 (S.le_new Fy))) r2.1 _ hr5) rfl ?_;clear S;intro v5 a w7 hv5 hk7 hn5 S
 subst hv5
 refine Va S rfl rfl fun a S=>Dz (Vk S rfl rfl fun a S=>Dz (Vk S rfl rfl ?_));clear S;intro a S
 refine Dl (Fs (Fr (Vm S rfl rfl fun a S=>Vq S Px rfl rfl rfl fun a S=>Ld ?_)))
 replace S:=S.k11 3 4 5 6 7 8 9 10 11 12 44 rfl
 refine Tn ?_
 obtain ⟨j1,hj1,h⟩:=Ha h
 refine Gv (fun a w'=>∃ x1 : List ByteArray,∃ x2 : Int,∃ φ4 : View,∃ v6 : Value,j1 x1 x2 = some r ∧ View.le φ3 φ4 ∧ Pk φ4 9 1 v6 x1.length (x1.flatMap Ic) ∧ Sx w [] φ4 [.blk b1 [Ad,iV r3.2] 25] [(3,.pointer (some ⟨b1,0,none⟩)),(4,v1),(7,u3),(8,iV r4.2.1),(9,iV r4.2.2),(10,iV r5),(11,v6),(12,iV x2)] 124 a w') ?_ ?_
 ·refine Fc h (S.tm rfl) (fun hb1 h=>?_) (fun hb1 h=>?_)
  ·refine Fg ?_
   iterate 3 (refine Vm S rfl rfl ?_;clear S;intro a S)
   obtain ⟨r6,hr6,h⟩:=He h
   have hz6:=S.keep.size
   refine Fo S (fun _=>Fa (vs:=[v1,v3,iV r2.1]) ⟨(S.tm rfl),(S.tm rfl),(S.tm rfl),trivial⟩ call9) (Xk _ v1 r1.1 ((Gw An.enc_ok hs1).mono (View.le_trans (View.le_trans hl2 hl3) (S.le_new Fy))) v3 r3.1 ((Gw Ex.enc_ok hs2).mono (View.le_trans hl3 (S.le_new Fy))) r2.1 _ hr6) rfl ?_;clear S;intro v7 a w9 hv6 hk8 hn6 S
   obtain ⟨u4,rfl,ho4⟩:=hv6
   obtain ⟨φ5,hl5,hm4,S⟩:=S.see' hn6 hz6
   have hs5:=ho4.mono hm4
   refine Vm S rfl rfl fun a S=>Vq S Mh rfl rfl rfl fun a S=>Vq S Mh rfl rfl rfl fun a S=>Va S rfl rfl fun a S=>Va S rfl rfl fun a S=>Ld ?_
   replace S:=S.k8 3 4 7 8 9 10 11 12 rfl
   exact Tn (⟨r6.1,r6.2,φ5,u4,h,hl5,hs5,S.nf [true] rfl (subR rfl)⟩)
  ·exact wp_skip (Tn (⟨([] : List ByteArray),0,φ3,.slice none 0 0,h,(View.le_refl _),(Mf _ _ _),S.nf [true] rfl (subR rfl)⟩))
 clear S h;rintro a w8 ⟨x1,x2,φ4,v6,h,hl4,hs4,S⟩;rw [hj1] at h;clear hj1 j1
 refine Tn (Fs (Fr (Vm S rfl rfl fun a S=>Vm S rfl rfl fun a S=>Vb S Qd rfl rfl rfl fun a S=>Vm S rfl rfl ?_)));clear S;intro a S
 obtain ⟨j2,hj2,h⟩:=Ha h
 refine Lq 5 (fun a w'=>∃ c1,j2 c1 = some r ∧ Keep [] w8 w' ∧ Sx w [] φ4 [.blk b1 [Ad,iV r3.2] 25] [(3,.pointer (some ⟨b1,0,none⟩)),(4,v1),(8,iV r4.2.1),(12,iV x2),(60,bV c1)] 124 a w') ?_ ?_
 ·rcases Bool.eq_false_or_eq_true (!decide (r4.2.2 = r5)) with hb2 | hb2
  ·replace h:=Sy h hb2
   iterate 4 (refine Kn S rfl rfl rfl (Tb hb2) rfl ?_ rfl;clear S;intro a S)
   exact Vq S (Rb true hb2) rfl rfl rfl fun a S=>Dl (⟨_,h,Keep.refl _ _,S.nf [true] rfl (subR rfl)⟩)
  ·replace h:=Sz h hb2
   refine Fz S rfl rfl rfl hb2 (Vm S rfl rfl fun a S=>Fz S rfl rfl rfl hb2 (Vm S rfl rfl fun a S=>Fz S rfl rfl rfl hb2 ?_))
   obtain ⟨r7,hr7,h⟩:=He h
   refine Fo S (fun _=>Fa (vs:=[u3,v6]) ⟨(S.tm rfl),(S.tm rfl),trivial⟩ call10) (Vn _ u3 r4.1 ((Gw Jb hs3).mono (View.le_trans hl4 (S.le_new Fy))) v6 x1 ((Gw Jb hs4).mono (S.le_new Fy)) _ hr7) rfl ?_;clear S;intro v8 a w11 hv7 hk9 hn7 S
   subst hv7
   exact Fz S rfl rfl rfl hb2 (Vu S Mo rfl rfl fun a S=>lv S (Rc hb2 (S.tm rfl) (S.tm rfl)) rfl fun a S=>Dl (⟨_,h,hk9,S.nf [true] rfl (subR rfl)⟩))
 clear S h;rintro a w10 ⟨c1,h,hk10,S⟩;rw [hj2] at h;clear hj2 j2
 refine Vm S rfl rfl fun a S=>Lq 4 (fun a w'=>Keep [] w10 w' ∧ Sx w [] φ4 [.blk b1 [Ad,iV r3.2] 25] [(3,.pointer (some ⟨b1,0,none⟩)),(4,v1),(65,bV (c1 || (!decide (r4.2.1 = x2))))] 124 a w') ?_ ?_
 ·rcases Bool.eq_false_or_eq_true c1 with hb3 | hb3
  ·iterate 3 (refine Kn S rfl rfl rfl (Tb hb3) rfl ?_ rfl;clear S;intro a S)
   exact lv S (Rb (!decide (r4.2.1 = x2)) hb3 (S.tm rfl) rfl) rfl fun a S=>Dl (⟨Keep.refl _ _,S.nf [true] rfl (subR rfl)⟩)
  ·exact Fz S rfl rfl rfl hb3 (Vm S rfl rfl fun a S=>Fz S rfl rfl rfl hb3 (Vm S rfl rfl fun a S=>Fz S rfl rfl rfl hb3 (Vb S Qd rfl rfl rfl fun a S=>lv S (Rc hb3 (S.tm rfl) (S.tm rfl)) rfl fun a S=>Dl (⟨Keep.refl _ _,S.nf [true] rfl (subR rfl)⟩))))
 clear S;rintro a w12 ⟨hk11,S⟩
 refine Dl (Fc h (S.tm rfl) (fun hb4 h=>?_) (fun hb4 h=>?_))
 ·refine Fr (Vk S rfl rfl fun a S=>Dl (wp_ret (Fk ?_)))
  obtain rfl:=Option.some.inj h
  exact Gm S results3 rfl rfl
 ·refine wp_skip (Tn (Fr (Vk S rfl rfl ?_)));clear S;intro a S
  replace S:=S.nil 9 1
  refine Dl (Fs (Fr (Vm S rfl rfl fun a S=>Vm S rfl rfl fun a S=>lv S (Gh Il (S.tm rfl) (Ey (Gw An.enc_ok hs1))) rfl ?_)));clear S;intro a S
  obtain ⟨r8,hr8,h⟩:=He h
  have hz7:=S.keep.size
  refine Hq 1 S (b:=b1) rfl rfl (fun _=>.blk b1 [Ad,iV r8.2] 25) (fun _=>Fa (vs:=[.pointer (some ⟨b1,0,none⟩),iV (r1.1.length : Int)]) ⟨(S.tm rfl),(S.tm rfl),trivial⟩ call11) (AI _ b1 Ad Ar (Ap.mono (S.le_arg (Fh (i:=1) (e:=.blk b1 [Ad,iV r3.2] 25) rfl))) r3.2 (S.holds _ (List.mem_of_getElem? (i:=1) rfl)) (r1.1.length : Int) _ hr8) rfl (fun _ _ _ h=>⟨h.1,fun _ hc=>by cases hc;rfl⟩) ?_;clear S;intro v9 a w13 hv8 hk12 hn8 S
  replace hv8:=hv8.2
  obtain ⟨φ6,hl6,hm5,S⟩:=S.see' hn8 hz7
  have hs6:=hv8.mono hm5
  refine lv S (Gh Lj (S.tm rfl) (Ey (Gw Hi hs6))) rfl fun a S=>lv S (Rm rfl) rfl fun a S=>Dl ?_
  replace S:=(S.nl [.own (.slice none 0 0) 9 1 ([] : List ByteArray).length (([] : List ByteArray).flatMap Ic),.blk b1 [Ad,iV r8.2] 25] [true,true] rfl).k6 3 4 13 69 70 71 rfl
  obtain ⟨j3,hj3,h⟩:=Ha h
  refine Gv (fun a w'=>∃ x3 : List ByteArray,∃ v10 : Value,j3 x3 = some r ∧ Sx w [] φ6 [.own v10 9 1 x3.length (x3.flatMap Ic),.blk b1 [Ad,iV r8.2] 25] [(3,.pointer (some ⟨b1,0,none⟩)),(4,v1),(13,v10)] 124 a w') ?_ ?_
  ·refine wp_block (Iv (fun (ys1 : List Int) a w'=>∃ i1 : Nat,∃ x3 : List ByteArray,∃ v10 : Value,(∃ dn,r8.1 = dn ++ ys1 ∧ dn.length = i1) ∧ Hj r1 j3 ys1 i1 x3 = some r ∧ Sx w [] φ6 [.own v10 9 1 x3.length (x3.flatMap Ic),.blk b1 [Ad,iV r8.2] 25] [(3,.pointer (some ⟨b1,0,none⟩)),(4,v1),(13,v10),(69,v9),(70,iV (r8.1.length : Int)),(71,iV (i1 : Int))] 124 a w') List.length r8.1 ⟨0,([] : List ByteArray),(.slice none 0 0),⟨[],rfl,rfl⟩,h,S.nf [true,true] rfl (subR rfl)⟩ ?_)
   clear S h;rintro ys1 a w14 ⟨i1,x3,v10,⟨dn,hd1,hi1⟩,h,S⟩
   cases ys1 with
   | nil =>
    rw [Hj.eq_1] at h
    refine Fr (Vb S Gb rfl rfl rfl fun a S=>Ld ?_)
    replace S:=S.k7 3 4 13 69 70 71 72 rfl
    exact Tn (Fs (wp_cond_false ((S.tm rfl).trans (congrArg Value.bool (Jr hd1 hi1))) (wp_exit (Gk (Gk (Jc (Tn (⟨x3,v10,h,S.nf [true,true] rfl (subR rfl)⟩))))))))
   | cons y1 ys1 =>
    rw [Hj.eq_2] at h
    refine Fr (Vb S Gb rfl rfl rfl fun a S=>Ld ?_)
    replace S:=S.k7 3 4 13 69 70 71 72 rfl
    refine Tn (Fs (wp_cond_true ((S.tm rfl).trans (congrArg Value.bool (Ih hd1 hi1))) (wp_skip (Tn (Fs (wp_block (Fs (Fg ?_))))))))
    obtain ⟨b3,o1,hm6,hr9⟩:=Gd (a:=a) (x:=.tmp 69) (y:=.tmp 71) (ty:=0) Lj (Gw Hi hs6) (Jd hd1 hi1) rfl (S.tm rfl) (S.tm rfl)
    refine lv S (hr9 _) rfl ?_;clear S;intro a S
    clear hr9
    refine lv S (Hr isAgg3 (off:=o1) (o:=0) (S.tm rfl) (hm6.at S.emb) rfl) rfl fun a S=>Va S rfl rfl fun a S=>Dl (Fg ?_)
    iterate 3 (refine Vm S rfl rfl ?_;clear S;intro a S)
    obtain ⟨hc1,h⟩:=Ig h
    obtain ⟨b4,o2,hm7,hr10⟩:=Gd (a:=a) (x:=.tmp 76) (y:=.tmp 77) (ty:=0) Il (Gw An.enc_ok hs1) (Ff hc1).1 (Ff hc1).2 (S.tm rfl) (S.tm rfl)
    refine lv S (hr10 _) rfl ?_;clear S;intro a S
    clear hr10
    refine Vf Mz S rfl rfl fun a S=>lv S (Hr isAgg9 (off:=o2) (o:=0) (S.tm rfl) ((hm7.mono (View.le_trans (View.le_trans (View.le_trans hl2 hl3) hl4) hl6)).at S.emb) rfl) rfl fun a S=>Fw S underlying31 sizeOf9 zeroValue9 rfl rfl (pv:=[(0,sV ((nth r1.1 y1).Key))]) ⟨rfl,(S.tm rfl),trivial⟩ (cs:=[sV ((nth r1.1 y1).Key)]) (by kernel_rfl) rfl ?_;clear S;intro a w16 b5 hz8 hk13 S
    obtain ⟨hc2,h⟩:=Ig h
    refine Nq Kv Jb S (S.tm rfl) (i:=1) rfl (S.tm rfl) (j:=0) rfl (ys:=[(nth r1.1 y1).Key]) rfl rfl rfl rfl (by have:=Ky hc2;omega) rfl ?_;clear S;intro v11 a w17 hk14 S
    refine Va S rfl rfl fun a S=>Ld ?_
    replace S:=(S.nl [.own v11 9 1 (x3 ++ [(nth r1.1 y1).Key]).length ((x3 ++ [(nth r1.1 y1).Key]).flatMap Ic),.blk b1 [Ad,iV r8.2] 25] [false,true,true] rfl).k6 3 4 13 69 70 71 rfl
    exact Kb (Tn (Fg (Vq S Gx rfl rfl rfl fun a S=>Vm S rfl rfl fun a S=>Dl (⟨ys1,⟨i1 + 1,(x3 ++ [(nth r1.1 y1).Key]),v11,⟨_,(hd1).trans (List.append_cons _ _ _),by simp [hi1]⟩,h,S.nf [true,true] rfl ⟨rfl,rfl,rfl,rfl,rfl,(congrArg (fun z=>some (Value.int .i64 z)) (Ii hd1 hi1 (Kl (Gw Hi hs6)))),trivial⟩⟩,Nat.lt_succ_self _⟩))))
  clear S h;rintro a w15 ⟨x3,v10,h,S⟩;rw [hj3] at h;clear hj3 j3
  refine Tn (Fs (Fr (Vm S rfl rfl ?_)));clear S;intro a S
  obtain ⟨r9,hr11,h⟩:=He h
  refine Hq 1 S (b:=b1) rfl rfl (fun _=>.blk b1 [Ad,iV r9.2] 25) (fun _=>Fa (vs:=[.pointer (some ⟨b1,0,none⟩),iV 6]) ⟨(S.tm rfl),rfl,trivial⟩ call12) (Pf _ b1 Ad Ar (Ap.mono (S.le_arg (Fh (i:=1) (e:=.blk b1 [Ad,iV r8.2] 25) rfl))) r8.2 (S.holds _ (List.mem_of_getElem? (i:=1) rfl)) 6 _ hr11) rfl (fun _ _ _ h=>⟨h.1,fun _ hc=>by cases hc;rfl⟩) ?_;clear S;intro v12 a w18 hv9 hk15 hn9 S
  replace hv9:=hv9.2
  subst hv9
  refine Dl ?_
  obtain ⟨j4,hj4,h⟩:=Ha h
  refine Gv (fun a w'=>∃ x4 : List ByteArray,∃ φ7 : View,∃ v13 : Value,j4 x4 = some r ∧ View.le φ6 φ7 ∧ Slc φ7 1 v13 (x4.map Ic) ∧ Sx w [] φ7 [] [(4,v1),(13,v13)] 124 a w') ?_ ?_
  ·refine Fc h (S.tm rfl) (fun hb5 h=>?_) (fun hb5 h=>?_)
   ·refine Fr (Vm S rfl rfl fun a S=>Vm S rfl rfl fun a S=>Fw S underlying31 sizeOf9 zeroValue9 rfl rfl (pv:=[(0,sV Sk),(1,sV Ua)]) ⟨rfl,rfl,rfl,rfl,trivial⟩ (cs:=[sV Sk,sV Ua]) (by kernel_rfl) rfl ?_);clear S;intro a w20 b6 hz9 hk16 S
    obtain ⟨r10,hr12,h⟩:=He h
    refine Hq 2 S (b:=b1) rfl rfl (fun _=>.blk b1 [Ad,iV r10.2] 25) (fun _=>Fa (vs:=[.pointer (some ⟨b1,0,none⟩),.slice (some ⟨b6,0,none⟩) 2 2]) ⟨(S.tm rfl),(S.tm rfl),trivial⟩ call13) (Ms _ b1 Ad Ar (Ap.mono (S.le_arg (Fh (i:=2) (e:=.blk b1 [Ad,iV r9.2] 25) rfl))) r9.2 (S.holds _ (List.mem_of_getElem? (i:=2) rfl)) (.slice (some ⟨b6,0,none⟩) 2 2) [Sk,Ua] (Lz Jb S (i:=0) rfl rfl rfl rfl ((Ke (i:=2) (j:=0) (e:=.blk b1 [Ad,iV r9.2] 25) (e':=.blk b6 [sV Sk,sV Ua] 9) S rfl rfl rfl) _ rfl)) _ hr12) rfl (fun _ _ _ h=>⟨h.1,fun _ hc=>by cases hc;rfl⟩) ?_;clear S;intro v14 a w21 hv10 hk17 hn10 S
    replace hv10:=hv10.2
    subst hv10
    refine Fw S underlying31 sizeOf9 zeroValue9 rfl rfl (pv:=[(0,sV r10.1)]) ⟨rfl,(S.tm rfl),trivial⟩ (cs:=[sV r10.1]) (by kernel_rfl) rfl ?_;clear S;intro a w22 b7 hz10 hk18 S
    obtain ⟨hc3,h⟩:=Ig h
    refine Nq Kv Jb S (S.tm rfl) (i:=2) rfl (S.tm rfl) (j:=0) rfl (ys:=[r10.1]) rfl rfl rfl rfl (by have:=Ky hc3;omega) rfl ?_;clear S;intro v15 a w23 hk19 S
    refine Va S rfl rfl fun a S=>Dl (Fg (Vm S rfl rfl fun a S=>Vm S rfl rfl ?_));clear S;intro a S
    obtain ⟨r11,hr13,h⟩:=He h
    refine Hq 3 S (b:=b1) rfl rfl (fun _=>.blk b1 [Ad,iV r11.2] 25) (fun _=>Fa (vs:=[.pointer (some ⟨b1,0,none⟩),iV 0,iV 1]) ⟨(S.tm rfl),rfl,rfl,trivial⟩ call14) (Ta _ b1 Ad Ar (Ap.mono (S.le_arg (Fh (i:=3) (e:=.blk b1 [Ad,iV r10.2] 25) rfl))) r10.2 (S.holds _ (List.mem_of_getElem? (i:=3) rfl)) 0 1 _ hr13) rfl (fun _ _ _ h=>⟨h.1,fun _ hc=>by cases hc;rfl⟩) ?_;clear S;intro v16 a w24 hv11 hk20 hn11 S
    replace hv11:=hv11.2
    subst hv11
    refine Vu S (HT rfl) rfl rfl ?_;clear S;intro a S
    obtain ⟨φ8,hl8,hs8,S⟩:=S.freezeT (xs:=(x3 ++ [r10.1])) (enc:=Ic) (i:=2) rfl (fun _ h=>by cases h)
    replace S:=S.nk [.blk b7 [sV r10.1] 9,.blk b6 [sV Sk,sV Ua] 9,.blk b1 [Ad,iV r11.2] 25] [(3,.pointer (some ⟨b1,0,none⟩)),(4,v1),(13,v15),(84,.pointer (some ⟨b1,0,none⟩)),(85,bV r9.1),(86,v10),(87,.pointer (some ⟨b1,0,none⟩)),(88,.slice (some ⟨b6,0,none⟩) 2 2),(89,sV r10.1),(90,.slice (some ⟨b7,0,none⟩) 1 1),(91,v15),(92,v15),(93,.pointer (some ⟨b1,0,none⟩)),(94,iV r11.1),(95,iV (Zg 1 r11.1))] [] rfl (subR rfl)
    obtain ⟨hc4,h⟩:=Ig h
    obtain ⟨v17,hs9,hr14⟩:=FG (a:=a) (x:=.tmp 92) (y:=.tmp 95) (ty:=31) Kv (Gw Jb hs8) (S.tm rfl) (S.tm rfl) hc4
    refine lv S (hr14 _) rfl ?_;clear S;intro a S
    clear hr14
    refine Va S rfl rfl fun a S=>Ld ?_
    replace S:=S.n0.k2 4 13 rfl
    exact Tn (⟨cut (x3 ++ [r10.1]) (Zg 1 r11.1) (x3 ++ [r10.1]).length,φ8,v17,h,hl8,hs9,S.nf [] rfl (subR rfl)⟩)
   ·refine wp_skip ?_
    obtain ⟨φ9,hl9,hs10,S⟩:=S.freezeT (xs:=x3) (enc:=Ic) (i:=0) rfl (fun _ h=>by cases h)
    replace S:=S.nk [.blk b1 [Ad,iV r9.2] 25] [(3,.pointer (some ⟨b1,0,none⟩)),(4,v1),(13,v10),(84,.pointer (some ⟨b1,0,none⟩)),(85,bV r9.1)] [] rfl (subR rfl)
    exact Tn (⟨x3,φ9,v10,h,hl9,(Gw Jb hs10),S.nf [false] rfl (subR rfl)⟩)
  clear S h;rintro a w19 ⟨x4,φ7,v13,h,hl7,hs7,S⟩;rw [hj4] at h;clear hj4 j4
  refine Tn (Fr (Vm S rfl rfl fun a S=>Vm S rfl rfl ?_));clear S;intro a S
  obtain ⟨r12,hr15,h⟩:=He h
  have hz11:=S.keep.size
  refine Fo S (fun _=>Fa (vs:=[v1,v13]) ⟨(S.tm rfl),(S.tm rfl),trivial⟩ call15) (Zq _ v1 r1.1 ((Gw An.enc_ok hs1).mono (View.le_trans (View.le_trans (View.le_trans (View.le_trans (View.le_trans hl2 hl3) hl4) hl6) hl7) (S.le_new Fy))) v13 x4 (hs7.mono (S.le_new Fy)) _ hr15) rfl ?_;clear S;intro v18 a w25 hv12 hk21 hn12 S
  obtain ⟨u6,rfl,ho6⟩:=hv12
  obtain ⟨φ10,hl10,hm8,S⟩:=S.see' hn12 hz11
  have hs11:=ho6.mono hm8
  refine Vm S rfl rfl fun a S=>Vq S Mh rfl rfl rfl fun a S=>Vq S Mh rfl rfl rfl fun a S=>Va S rfl rfl fun a S=>Va S rfl rfl fun a S=>Dz (Vm S rfl rfl ?_);clear S;intro a S
  obtain ⟨r13,hr16,h⟩:=He h
  refine Fo S (fun _=>Fa (vs:=[v1]) ⟨(S.tm rfl),trivial⟩ call16) (Sf _ v1 r1.1 ((Gw An.enc_ok hs1).mono (View.le_trans (View.le_trans (View.le_trans (View.le_trans (View.le_trans (View.le_trans hl2 hl3) hl4) hl6) hl7) hl10) (S.le_new Fy))) _ hr16) rfl ?_;clear S;intro v19 a w26 hv13 hk22 hn13 S
  subst hv13
  refine Va S rfl rfl fun a S=>Dz (Vk S rfl rfl fun a S=>Dl (Fs (Fs (Fg ?_))))
  refine Vm S rfl rfl fun a S=>Vq S Px rfl rfl rfl fun a S=>Ld ?_
  replace S:=S.k7 4 13 16 17 18 19 106 rfl
  refine Tn ?_
  obtain ⟨j5,hj5,h⟩:=Ha h
  refine Gv (fun a w'=>∃ x5 : Int,∃ x6 : List An,∃ φ11 : View,∃ v20 : Value,j5 x5 x6 = some r ∧ View.le φ10 φ11 ∧ Pk φ11 41 5 v20 x6.length (x6.flatMap An.enc) ∧ Sx w [] φ11 [] [(16,u6),(17,iV r12.2),(18,iV x5),(19,v20)] 124 a w') ?_ ?_
  ·refine Fc h (S.tm rfl) (fun hb6 h=>?_) (fun hb6 h=>?_)
   ·refine Fg (Vm S rfl rfl fun a S=>Vm S rfl rfl ?_);clear S;intro a S
    obtain ⟨r14,hr17,h⟩:=He h
    have hz12:=S.keep.size
    refine Fo S (fun _=>Fa (vs:=[v1,v13]) ⟨(S.tm rfl),(S.tm rfl),trivial⟩ call17) (Vp _ v1 r1.1 ((Gw An.enc_ok hs1).mono (View.le_trans (View.le_trans (View.le_trans (View.le_trans (View.le_trans (View.le_trans hl2 hl3) hl4) hl6) hl7) hl10) (S.le_new Fy))) v13 x4 (hs7.mono (View.le_trans hl10 (S.le_new Fy))) _ hr17) rfl ?_;clear S;intro v21 a w28 hv14 hk23 hn14 S
    obtain ⟨u7,rfl,ho7⟩:=hv14
    obtain ⟨φ12,hl12,hm9,S⟩:=S.see' hn14 hz12
    have hs13:=ho7.mono hm9
    exact Vm S rfl rfl fun a S=>Vq S Mh rfl rfl rfl fun a S=>Vq S Mh rfl rfl rfl fun a S=>Va S rfl rfl fun a S=>Va S rfl rfl fun a S=>Dl (⟨r14.2,r14.1,φ12,u7,h,hl12,hs13,S.nf [] rfl (subR rfl)⟩)
   ·exact wp_skip (Tn (⟨r13,([] : List An),φ10,.slice none 0 0,h,(View.le_refl _),(Mf _ _ _),S.nf [] rfl (subR rfl)⟩))
  clear S h;rintro a w27 ⟨x5,x6,φ11,v20,h,hl11,hs12,S⟩;rw [hj5] at h;clear hj5 j5
  refine Tn (Fr (Vm S rfl rfl fun a S=>Vm S rfl rfl fun a S=>Vb S Px rfl rfl rfl fun a S=>Vm S rfl rfl ?_));clear S;intro a S
  obtain ⟨j6,hj6,h⟩:=Ha h
  refine Lq 4 (fun a w'=>∃ c2,j6 c2 = some r ∧ Keep [] w27 w' ∧ Sx w [] φ11 [] [(120,bV c2)] 124 a w') ?_ ?_
  ·rcases Bool.eq_false_or_eq_true (decide (r12.2 = x5)) with hb7 | hb7
   ·replace h:=Sy h hb7
    refine Fz S rfl rfl rfl hb7 (Vm S rfl rfl fun a S=>Fz S rfl rfl rfl hb7 (Vm S rfl rfl fun a S=>Fz S rfl rfl rfl hb7 ?_))
    obtain ⟨r15,hr18,h⟩:=He h
    refine Fo S (fun _=>Fa (vs:=[u6,v20]) ⟨(S.tm rfl),(S.tm rfl),trivial⟩ call18) (Wq _ u6 r12.1 ((Gw An.enc_ok hs11).mono (View.le_trans hl11 (S.le_new Fy))) v20 x6 ((Gw An.enc_ok hs12).mono (S.le_new Fy)) _ hr18) rfl ?_;clear S;intro v22 a w30 hv15 hk24 hn15 S
    subst hv15
    exact lv S (Nd hb7 (S.tm rfl) (S.tm rfl)) rfl fun a S=>Dl (⟨_,h,hk24,S.nf [] rfl ⟨rfl,trivial⟩⟩)
   ·replace h:=Sz h hb7
    iterate 3 (refine Kn S rfl rfl rfl (Ov hb7) rfl ?_ rfl;clear S;intro a S)
    exact Vq S (Nf true hb7) rfl rfl rfl fun a S=>Dl (⟨_,h,Keep.refl _ _,S.nf [] rfl ⟨rfl,trivial⟩⟩)
  clear S h;rintro a w29 ⟨c2,h,hk25,S⟩;rw [hj6] at h;clear hj6 j6
  refine Vm S rfl rfl ?_;clear S;intro a S
  obtain ⟨j7,hj7,h⟩:=Ha h
  refine Lq 2 (fun a w'=>∃ c3,j7 c3 = some r ∧ Keep [] w29 w' ∧ Sx w [] φ11 [] [(123,bV c3)] 124 a w') ?_ ?_
  ·rcases Bool.eq_false_or_eq_true c2 with hb8 | hb8
   ·replace h:=Sy h hb8
    refine Fz S rfl rfl rfl hb8 ?_
    obtain ⟨r16,hr19,h⟩:=He h
    refine Fo S (fun _=>Fa (vs:=[]) trivial call19) (Yw _ _ hr19) rfl ?_;clear S;intro v23 a w32 hv16 hk26 hn16 S
    subst hv16
    exact lv S (Nd hb8 (S.tm rfl) (S.tm rfl)) rfl fun a S=>Dl (⟨_,h,hk26,S.nf [] rfl ⟨rfl,trivial⟩⟩)
   ·replace h:=Sz h hb8
    exact Kn S rfl rfl rfl (Ov hb8) rfl (fun a S=>Vq S (Nf true hb8) rfl rfl rfl fun a S=>Dl (⟨_,h,Keep.refl _ _,S.nf [] rfl ⟨rfl,trivial⟩⟩)) rfl
  clear S h;rintro a w31 ⟨c3,h,hk27,S⟩;rw [hj7] at h;clear hj7 j7
  refine Va S rfl rfl fun a S=>Dl (wp_ret ?_)
  obtain rfl:=Option.some.inj h
  exact Gm S results3 rfl rfl
end Go.Proofs.YtlndicofaomdaaaGreatDoor
