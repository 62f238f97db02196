/- Each Go function computes its plain twin,by program. -/
import Derived.Test.YthlanmcejeohmaaGreatDoorWk1
namespace Go.Proofs.YthlanmcejeohmaaGreatDoor
open Go
open Go.Proofs.Tryz
set_option maxRecDepth 20000 in
theorem Oz (w : World) (Am : Value) (Ao : List ByteArray) (Cn : (LEnt.own Am 9 1 Ao.length (Ao.flatMap Kx)).holds w) (r : (List ByteArray)) (h : Jc Ao = some r) :
    Calls prog 55 [Am].toArray w (Ret w (Am.ownBlock.toList) fun _ v w'=>(LEnt.own v 9 1 r.length (r.flatMap Kx)).holds w' ∧ v.ownBlock = Am.ownBlock):=by
 refine Jd (Am.ownBlock.toList) [.own Am 9 1 Ao.length (Ao.flatMap Kx)] func55 rfl ntmps55 rfl (fun e he=>by simp only [List.mem_singleton] at he;subst he;exact Cn) (Ho _) (Iw _) fun a S=>?_
 unfold Jc at h
 replace S:=(S.nl [.own Am 9 1 Ao.length (Ao.flatMap Kx)] [true] rfl).k1 0 rfl
 refine Fr (Vk S rfl rfl fun a S=>Dl (Fs (Fr (Vm S rfl rfl fun a S=>lv S (Gh Mn (S.tm rfl) (Ob (S.own_at (i:=0) rfl))) rfl fun a S=>Vq S Fi rfl rfl rfl ?_))));clear S;intro a S
 refine Dl (Fc h (S.tm rfl) (fun hb1 h=>?_) (fun hb1 h=>?_))
 ·refine Fr (Vm S rfl rfl fun a S=>Va S rfl rfl fun a S=>Dl (wp_ret (Dy ?_)))
  obtain rfl:=Option.some.inj h
  exact Fj S results55 rfl ⟨(S.holds _ (List.mem_of_getElem? (i:=0) rfl)),rfl⟩
 ·refine wp_skip (Tn (Fs (Fr (Vk S rfl rfl fun a S=>Dl ?_))))
  replace S:=S.k2 0 3 rfl
  obtain ⟨j1,hj1,h⟩:=Fk h
  refine Er (fun a w'=>j1 = some r ∧ Sx w (Am.ownBlock.toList) nov [.own Am 9 1 Ao.length (Ao.flatMap Kx)] [(0,Am)] 61 a w') ?_ ?_
  ·refine wp_block (Gz (fun (m1 : Nat) a w'=>∃ x1 : Int,Et Ao j1 m1 x1 = some r ∧ Sx w (Am.ownBlock.toList) nov [.own Am 9 1 Ao.length (Ao.flatMap Kx)] [(0,Am),(3,iV x1)] 61 a w') id (((Ao.length : Int) - 1).toNat + 2) ⟨1,h,S.nf [true] rfl (subR rfl)⟩ ?_)
   clear S h;rintro m1 a w1 ⟨x1,h,S⟩
   cases m1 with
   | zero=>rw [Et.eq_1] at h;cases h
   | succ m1 =>
    rw [Et.eq_2] at h
    refine Fs (Fr (Vm S rfl rfl fun a S=>Vm S rfl rfl fun a S=>lv S (Gh Mn (S.tm rfl) (Ob (S.own_at (i:=0) rfl))) rfl fun a S=>Vb S Fi rfl rfl rfl fun a S=>Dl (Fc h (S.tm rfl) (fun hb2 h=>?_) (fun hb2 h=>?_))))
    ·refine wp_skip (Tn (Fs (wp_block (Fs (Hy [] ([]) Tryz.mixed S rfl (by kernel_rfl) ?_)))));clear S;intro w3 hk1 hsel S
     refine Nb [0,1,2,3,4,5,6,7,8,9] hsel (by kernel_rfl) rfl ?_
     clear hsel
     refine Gs S rfl (Rm (S.tm rfl)) rfl fun a S=>Gs S rfl (Rm (S.tm rfl)) rfl ?_;clear S;intro a S
     obtain ⟨hc1,h⟩:=Hx h
     obtain ⟨b1,hg1,hr1⟩:=Gg (a:=a) (x:=.tmp 16) (y:=.tmp 17) (ty:=0) Mn He S (i:=0) rfl (Dv hc1).1 (Dv hc1).2 (S.tm rfl) (S.tm rfl)
     refine Gs S rfl (hr1 _) rfl ?_;clear S;intro a S
     clear hr1
     refine Gs S rfl (Iv isAgg9 (off:=x1.toNat * 1) (o:=0) (S.tm rfl) (Mm He S (i:=0) rfl hg1 (Dv hc1).1) rfl) rfl fun a S=>Gs S rfl (Rm (S.tm rfl)) rfl fun a S=>Gs S rfl (Rm (S.tm rfl)) rfl fun a S=>Gs S rfl (Iq (S.tm rfl) rfl) rfl ?_;clear S;intro a S
     obtain ⟨hc2,h⟩:=Hx h
     obtain ⟨b2,hg2,hr2⟩:=Gg (a:=a) (x:=.tmp 20) (y:=.tmp 22) (ty:=0) Mn He S (i:=0) rfl (Dv hc2).1 (Dv hc2).2 (S.tm rfl) (S.tm rfl)
     refine Gs S rfl (hr2 _) rfl ?_;clear S;intro a S
     clear hr2
     refine Gs S rfl (Iv isAgg9 (off:=((W (x1 - 1)).toNat) * 1) (o:=0) (S.tm rfl) (Mm He S (i:=0) rfl hg2 (Dv hc2).1) rfl) rfl fun a S=>Gs S rfl (Qw (S.tm rfl) (S.tm rfl)) rfl fun a S=>Mi ?_
     replace S:=S.k3 0 3 25 rfl
     refine Tn (Fc h (S.tm rfl) (fun hb3 h=>?_) (fun hb3 h=>?_))
     ·refine Fr (Vm S rfl rfl fun a S=>Vm S rfl rfl ?_);clear S;intro a S
      obtain ⟨hc3,h⟩:=Hx h
      obtain ⟨u1,hu1,hr3⟩:=Zr (a:=a) (x:=.tmp 26) (y:=.tmp 27) (ty:=59) Mn S (i:=0) rfl (S.tm rfl) (S.tm rfl) hc3
      refine lv S (hr3 _) rfl ?_;clear S;intro a S
      clear hr3
      refine Va S rfl rfl fun a S=>Dl (Fs (Fr (Vk S rfl rfl fun a S=>Dl ?_)))
      replace S:=S.k4 0 3 4 5 rfl
      obtain ⟨j2,hj2,h⟩:=Fk h
      refine Er (fun a w'=>∃ x2 : List ByteArray,∃ x3 : Int,j2 x2 x3 = some r ∧ Sx w (Am.ownBlock.toList) nov [.own Am 9 1 x2.length (x2.flatMap Kx)] [(0,Am),(3,iV x3)] 61 a w') ?_ ?_
      ·refine wp_block (Gz (fun (m2 : Nat) a w'=>∃ x2 : List ByteArray,∃ x3 : Int,∃ x4 : Int,Fl Ao x1 j2 m2 x2 x3 x4 = some r ∧ Sx w (Am.ownBlock.toList) nov [.own Am 9 1 x2.length (x2.flatMap Kx)] [(0,Am),(3,iV x3),(4,u1),(5,iV x4)] 61 a w') id (((((Ao.length : Int).toNat - x1.toNat : Nat) : Int) - 1).toNat + 2) ⟨Ao,x1,1,h,S.nf [true] rfl (subR rfl)⟩ ?_)
       clear S h;rintro m2 a w4 ⟨x2,x3,x4,h,S⟩
       cases m2 with
       | zero=>rw [Fl.eq_1] at h;cases h
       | succ m2 =>
        rw [Fl.eq_2] at h
        refine Fs (Fr (Vm S rfl rfl fun a S=>Vm S rfl rfl fun a S=>lv S (Gh Mn (S.tm rfl) (CX hu1)) rfl fun a S=>Vb S Fi rfl rfl rfl fun a S=>Dl (Fc h (S.tm rfl) (fun hb4 h=>?_) (fun hb4 h=>?_))))
        ·refine wp_skip (Tn (Fs ?_))
         obtain ⟨j3,hj3,h⟩:=Fk h
         refine Er (fun a w'=>∃ x5 : List ByteArray,∃ x6 : Int,j3 x5 x6 = some r ∧ Sx w (Am.ownBlock.toList) nov [.own Am 9 1 x5.length (x5.flatMap Kx)] [(0,Am),(3,iV x6),(4,u1),(5,iV x4)] 61 a w') ?_ ?_
         ·refine wp_block (Fs (Hy [] ([]) Tryz.mixed S rfl (by kernel_rfl) ?_));clear S;intro w7 hk2 hsel S
          refine Nb [0,1,2,3,4,5,6,7,8,9] hsel (by kernel_rfl) rfl ?_
          clear hsel
          refine Gs S rfl (Rm (S.tm rfl)) rfl fun a S=>Gs S rfl (Rm (S.tm rfl)) rfl ?_;clear S;intro a S
          obtain ⟨hc4,h⟩:=Hx h
          have hj4:=(Xh (Xi S (i:=0) rfl hu1) hc4).1
          obtain ⟨b3,hg3,hr4⟩:=Oq (a:=a) (x:=.tmp 35) (y:=.tmp 36) (ty:=0) Mn He S (i:=0) rfl hu1 hc4 (S.tm rfl) (S.tm rfl)
          refine Gs S rfl (hr4 _) rfl ?_;clear S;intro a S
          clear hr4
          refine Gs S rfl (Iv isAgg9 (off:=(x1.toNat + x4.toNat) * 1) (o:=0) (S.tm rfl) (Mm He S (i:=0) rfl hg3 hj4) rfl) rfl fun a S=>Gs S rfl (Rm (S.tm rfl)) rfl fun a S=>Gs S rfl (Rm (S.tm rfl)) rfl fun a S=>Gs S rfl (Iq (S.tm rfl) rfl) rfl ?_;clear S;intro a S
          obtain ⟨hc5,h⟩:=Hx h
          have hj5:=(Xh (Xi S (i:=0) rfl hu1) hc5).1
          obtain ⟨b4,hg4,hr5⟩:=Oq (a:=a) (x:=.tmp 39) (y:=.tmp 41) (ty:=0) Mn He S (i:=0) rfl hu1 hc5 (S.tm rfl) (S.tm rfl)
          refine Gs S rfl (hr5 _) rfl ?_;clear S;intro a S
          clear hr5
          refine Gs S rfl (Iv isAgg9 (off:=(x1.toNat + (W (x4 - 1)).toNat) * 1) (o:=0) (S.tm rfl) (Mm He S (i:=0) rfl hg4 hj5) rfl) rfl fun a S=>Gs S rfl (rn_sneq (S.tm rfl) (S.tm rfl)) rfl fun a S=>Mi ?_
          replace S:=S.k5 0 3 4 5 44 rfl
          refine Tn ?_
          obtain ⟨j4,hj6,h⟩:=Fk h
          refine Er (fun a w'=>∃ x7 : List ByteArray,∃ x8 : Int,j4 x7 x8 = some r ∧ Sx w (Am.ownBlock.toList) nov [.own Am 9 1 x7.length (x7.flatMap Kx)] [(0,Am),(3,iV x8),(4,u1),(5,iV x4)] 61 a w') ?_ ?_
          ·refine Fc h (S.tm rfl) (fun hb5 h=>?_) (fun hb5 h=>?_)
           ·refine Fs (Fg ?_)
            iterate 4 (refine Vm S rfl rfl ?_;clear S;intro a S)
            obtain ⟨hc6,h⟩:=Hx h
            have hj7:=(Xh (Xi S (i:=0) rfl hu1) hc6).1
            obtain ⟨b5,hg5,hr6⟩:=Oq (a:=a) (x:=.tmp 47) (y:=.tmp 48) (ty:=0) Mn He S (i:=0) rfl hu1 hc6 (S.tm rfl) (S.tm rfl)
            refine lv S (hr6 _) rfl ?_;clear S;intro a S
            clear hr6
            refine lv S (Iv isAgg9 (off:=(x1.toNat + x4.toNat) * 1) (o:=0) (S.tm rfl) (Mm He S (i:=0) rfl hg5 hj7) rfl) rfl ?_;clear S;intro a S
            obtain ⟨hc7,h⟩:=Hx h
            obtain ⟨b6,hg6,hr7⟩:=Gg (a:=a) (x:=.tmp 45) (y:=.tmp 46) (ty:=0) Mn He S (i:=0) rfl (Dv hc7).1 (Dv hc7).2 (S.tm rfl) (S.tm rfl)
            refine lv S (hr7 _) rfl ?_;clear S;intro a S
            clear hr7
            refine Mq (c:=0) (j:=x3.toNat) (nth (cut x2 x1 (Ao.length : Int)) x4) He S (S.tm rfl) (S.tm rfl) (i:=0) rfl hg6 (Dv hc7).1 sizeOf9 (vs:=[sV (nth (cut x2 x1 (Ao.length : Int)) x4)]) rfl rfl rfl rfl rfl ?_;clear S;intro w10 hk4 S
            exact Dl (Fg (Vm S rfl rfl fun a S=>Vq S Gb rfl rfl rfl fun a S=>Va S rfl rfl fun a S=>Dl (⟨(x2.set x3.toNat (nth (cut x2 x1 (Ao.length : Int)) x4)),W (x3 + 1),h,S.nf [true] rfl (subR rfl)⟩)))
           ·exact wp_skip (Tn (⟨x2,x3,h,S.nf [true] rfl (subR rfl)⟩))
          clear S h;rintro a w8 ⟨x7,x8,h,S⟩;rw [hj6] at h;clear hj6 j4
          exact Jb (Tn (⟨x7,x8,h,S.nf [true] rfl (subR rfl)⟩))
         clear S h;rintro a w6 ⟨x5,x6,h,S⟩;rw [hj3] at h;clear hj3 j3
         exact Tn (Fg (Vm S rfl rfl fun a S=>Vq S Gb rfl rfl rfl fun a S=>Va S rfl rfl fun a S=>Dl (⟨m2,⟨x5,x6,W (x4 + 1),h,S.nf [true] rfl ⟨rfl,rfl,rfl,rfl,trivial⟩⟩,Nat.lt_succ_self _⟩)))
        ·exact wp_exit (Ek (Ek (Ha (Tn (⟨x2,x3,h,S.nf [true] rfl (subR rfl)⟩)))))
      clear S h;rintro a w5 ⟨x2,x3,h,S⟩;rw [hj2] at h;clear hj2 j2
      refine Tn (Fr (Vm S rfl rfl fun a S=>Vm S rfl rfl ?_));clear S;intro a S
      obtain ⟨hc8,h⟩:=Hx h
      obtain ⟨u2,hu2,hr8⟩:=Zr (a:=a) (x:=.tmp 54) (y:=.tmp 55) (ty:=59) Mn S (i:=0) rfl (S.tm rfl) (S.tm rfl) hc8
      refine lv S (hr8 _) rfl ?_;clear S;intro a S
      clear hr8
      refine l_clear (zl:=x3) (zh:=(x2.length : Int)) (z:=Ec) Mn rfl He S (i:=0) rfl hu2 (S.tm rfl) zeroValue9 rfl ?_;clear S;intro w11 hk5 S
      refine Dz (Vm S rfl rfl fun a S=>Vm S rfl rfl ?_);clear S;intro a S
      obtain ⟨hc9,h⟩:=Hx h
      obtain ⟨u3,hu3,hr9⟩:=Zs (a:=a) (x:=.tmp 57) (y':=.tmp 58) (ty:=59) Mn S (i:=0) rfl (S.tm rfl) (S.tm rfl) hc9
      refine lv S (hr9 _) rfl ?_;clear S;intro a S
      clear hr9
      refine Va S rfl rfl fun a S=>Dl (wp_ret (Hj (Dy (Dy (Hj (Dy (Dy ?_)))))))
      obtain ⟨S,hz1⟩:=S.ownCut (zh:=x3) He (i:=0) rfl hu3
      obtain rfl:=Option.some.inj h
      exact Fj S results55 rfl ⟨(S.holds _ (List.mem_of_getElem? (i:=0) rfl)),(Ty.block hu3)⟩
     ·exact wp_skip (Jb (Tn (Fg (Vm S rfl rfl fun a S=>Vq S Gb rfl rfl rfl fun a S=>Va S rfl rfl fun a S=>Dl (⟨m1,⟨W (x1 + 1),h,S.nf [true] rfl ⟨rfl,rfl,trivial⟩⟩,Nat.lt_succ_self _⟩)))))
    ·exact wp_exit (Ek (Ek (Ha (Tn (⟨h,S.nf [true] rfl ⟨rfl,trivial⟩⟩)))))
  clear S h;rintro a w2 ⟨h,S⟩;rw [hj1] at h;clear hj1 j1
  refine Tn (Fr (Vm S rfl rfl fun a S=>Va S rfl rfl fun a S=>Dl (wp_ret ?_)))
  obtain rfl:=Option.some.inj h
  exact Fj S results55 rfl ⟨(S.holds _ (List.mem_of_getElem? (i:=0) rfl)),rfl⟩
theorem Pm (w : World) (Ai : Int) (r : Bool) (h : Hg Ai = r) :
    Calls prog 116 [iV Ai].toArray w (Ret w [] fun _ v _=>v = bV r):=by
 refine Fe func116 rfl ntmps116 rfl fun a S=>?_
 unfold Hg at h
 replace S:=S.k1 0 rfl
 refine Fr (Vk S rfl rfl fun a S=>Dz (Vm S rfl rfl fun a S=>Vm S rfl rfl fun a S=>Vb S Ru rfl rfl rfl fun a S=>Va S rfl rfl ?_));clear S;intro a S
 refine Dl (wp_ret ?_)
 subst h
 exact Fj S results116 rfl rfl
theorem Uc (w : World) (Ai : Int) (As : Int) (r : Bool) (h : Lu Ai As = r) :
    Calls prog 79 [iV Ai,iV As].toArray w (Ret w [] fun _ v _=>v = bV r):=by
 refine Fe func79 rfl ntmps79 rfl fun a S=>?_
 unfold Lu at h
 replace S:=S.k2 0 1 rfl
 refine Fr (Vk S rfl rfl fun a S=>Dz (Vm S rfl rfl fun a S=>Ea S (fun _=>Dg (vs:=[iV Ai]) ⟨(S.tm rfl),trivial⟩ call116) (Pm _ Ai _ rfl) rfl ?_));clear S;intro v1 a w1 hv1 hk1 hn1 S
 subst hv1
 refine Vm S rfl rfl fun a S=>Ii 4 (fun a w'=>Keep [] w1 w' ∧ Sx w [] nov [] [(0,iV Ai),(1,iV As),(11,bV ((Hg Ai) && (!(Hg As))))] 17 a w') ?_ ?_
 ·rcases Bool.eq_false_or_eq_true (Hg Ai) with hb1 | hb1
  ·refine Dx S rfl rfl rfl hb1 (Vm S rfl rfl fun a S=>Dx S rfl rfl rfl hb1 (Ea S (fun _=>Dg (vs:=[iV As]) ⟨(S.tm rfl),trivial⟩ call116) (Pm _ As _ rfl) rfl ?_));clear S;intro v2 a w3 hv2 hk2 hn2 S
   subst hv2
   exact Dx S rfl rfl rfl hb1 (Vu S Li rfl rfl fun a S=>lv S (Hm hb1 (S.tm rfl) (S.tm rfl)) rfl fun a S=>Dl (⟨hk2,S.nf [] rfl (subR rfl)⟩))
  ·iterate 3 (refine Hh S rfl rfl rfl (Kl hb1) rfl ?_ rfl;clear S;intro a S)
   exact lv S (Hn (!(Hg As)) hb1 (S.tm rfl) rfl) rfl fun a S=>Dl (⟨Keep.refl _ _,S.nf [] rfl (subR rfl)⟩)
 clear S;rintro a w2 ⟨hk3,S⟩
 refine Vm S rfl rfl fun a S=>Ii 4 (fun a w'=>Keep [] w2 w' ∧ Sx w [] nov [] [(16,bV (((Hg Ai) && (!(Hg As))) || (decide (Ai < As))))] 17 a w') ?_ ?_
 ·rcases Bool.eq_false_or_eq_true ((Hg Ai) && (!(Hg As))) with hb2 | hb2
  ·iterate 3 (refine Hh S rfl rfl rfl (Pb hb2) rfl ?_ rfl;clear S;intro a S)
   exact lv S (Nz (decide (Ai < As)) hb2 (S.tm rfl) rfl) rfl fun a S=>Dl (⟨Keep.refl _ _,S.nf [] rfl ⟨rfl,trivial⟩⟩)
  ·exact Dx S rfl rfl rfl hb2 (Vm S rfl rfl fun a S=>Dx S rfl rfl rfl hb2 (Vm S rfl rfl fun a S=>Dx S rfl rfl rfl hb2 (Vb S Fi rfl rfl rfl fun a S=>lv S (Oa hb2 (S.tm rfl) (S.tm rfl)) rfl fun a S=>Dl (⟨Keep.refl _ _,S.nf [] rfl ⟨rfl,trivial⟩⟩))))
 clear S;rintro a w4 ⟨hk4,S⟩
 refine Va S rfl rfl fun a S=>Dl (wp_ret ?_)
 subst h
 exact Fj S results79 rfl rfl
set_option maxRecDepth 20000 in
theorem Ml (w : World) (Aa : Value) (Af : List Int) (Bb : (LEnt.own Aa 3 1 Af.length (Af.flatMap eInt)).holds w) (Ar : Int) (Ax : Int) (r : (List Int)) (h : Gr Af Ar Ax = some r) :
    Calls prog 73 [Aa,iV Ar,iV Ax].toArray w (Ret w (Aa.ownBlock.toList) fun _ v w'=>(LEnt.own Aa 3 1 r.length (r.flatMap eInt)).holds w' ∧ v = .tuple #[]):=by
 refine Jd (Aa.ownBlock.toList) [.own Aa 3 1 Af.length (Af.flatMap eInt)] func73 rfl ntmps73 rfl (fun e he=>by simp only [List.mem_singleton] at he;subst he;exact Bb) (Ho _) (Iw _) fun a S=>?_
 unfold Gr at h
 replace S:=(S.nl [.own Aa 3 1 Af.length (Af.flatMap eInt)] [true] rfl).k3 0 1 2 rfl
 refine Fr (Vm S rfl rfl fun a S=>Vq S Gb rfl rfl rfl fun a S=>Va S rfl rfl fun a S=>Dl ?_)
 replace S:=S.k4 0 1 2 6 rfl
 obtain ⟨j1,hj1,h⟩:=Fk h
 refine Er (fun a w'=>∃ x1 : List Int,j1 x1 = some r ∧ Sx w (Aa.ownBlock.toList) nov [.own Aa 3 1 x1.length (x1.flatMap eInt)] [] 49 a w') ?_ ?_
 ·refine wp_block (Gz (fun (m1 : Nat) a w'=>∃ x1 : List Int,∃ x2 : Int,Ei Ax Ar j1 m1 x1 x2 = some r ∧ Sx w (Aa.ownBlock.toList) nov [.own Aa 3 1 x1.length (x1.flatMap eInt)] [(0,Aa),(1,iV Ar),(2,iV Ax),(6,iV x2)] 49 a w') id ((Ax - (W (Ar + 1))).toNat + 2) ⟨Af,W (Ar + 1),h,S.nf [true] rfl (subR rfl)⟩ ?_)
  clear S h;rintro m1 a w1 ⟨x1,x2,h,S⟩
  cases m1 with
  | zero=>rw [Ei.eq_1] at h;cases h
  | succ m1 =>
   rw [Ei.eq_2] at h
   refine Fs (Fr (Vm S rfl rfl fun a S=>Vm S rfl rfl fun a S=>Vb S Fi rfl rfl rfl fun a S=>Dl (Fc h (S.tm rfl) (fun hb1 h=>?_) (fun hb1 h=>?_))))
   ·refine wp_skip (Tn (Fs (wp_block (Fr (Vm S rfl rfl fun a S=>Va S rfl rfl fun a S=>Dl ?_)))))
    replace S:=S.k5 0 1 2 6 7 rfl
    obtain ⟨j2,hj2,h⟩:=Fk h
    refine Er (fun a w'=>∃ x3 : List Int,j2 x3 = some r ∧ Sx w (Aa.ownBlock.toList) nov [.own Aa 3 1 x3.length (x3.flatMap eInt)] [(0,Aa),(1,iV Ar),(2,iV Ax),(6,iV x2)] 49 a w') ?_ ?_
    ·refine wp_block (Gz (fun (m2 : Nat) a w'=>∃ x3 : List Int,∃ x4 : Int,Ef Ar j2 m2 x3 x4 = some r ∧ Sx w (Aa.ownBlock.toList) nov [.own Aa 3 1 x3.length (x3.flatMap eInt)] [(0,Aa),(1,iV Ar),(2,iV Ax),(6,iV x2),(7,iV x4)] 49 a w') id ((x2 - Ar).toNat + 2) ⟨x1,x2,h,S.nf [true] rfl (subR rfl)⟩ ?_)
     clear S h;rintro m2 a w3 ⟨x3,x4,h,S⟩
     cases m2 with
     | zero=>rw [Ef.eq_1] at h;cases h
     | succ m2 =>
      rw [Ef.eq_2] at h
      refine Fs (Fs ?_)
      obtain ⟨j3,hj3,h⟩:=Fk h
      refine Er (fun a w'=>∃ x5 : Bool,j3 x5 = some r ∧ Sx w (Aa.ownBlock.toList) nov [.own Aa 3 1 x3.length (x3.flatMap eInt)] [(0,Aa),(1,iV Ar),(2,iV Ax),(6,iV x2),(7,iV x4),(30,bV x5)] 49 a w') ?_ ?_
      ·rcases Bool.eq_false_or_eq_true (decide (Ar < x4)) with hb2 | hb2
       ·replace h:=Sc h hb2
        obtain ⟨hc1,h⟩:=Hx h
        obtain ⟨hc2,h⟩:=Hx h
        refine Hy [] ([]) Tryz.mixed S rfl (by kernel_rfl) ?_;clear S;intro w7 hk2 hsel S
        refine Fh 0 S hsel rfl rfl rfl (by kernel_rfl) (by kernel_rfl) rfl (fun _ hw=>(Rm (S.tm rfl))) fun a S=>Fh 1 S hsel rfl rfl rfl (by kernel_rfl) (by kernel_rfl) rfl (fun _ hw=>(Rm (S.tm rfl))) fun a S=>Fh 2 S hsel rfl rfl rfl (by kernel_rfl) (by kernel_rfl) rfl (fun _ hw=>(Ki (S.tm rfl) (S.tm rfl))) fun a S=>Fh 3 S hsel rfl rfl rfl (by kernel_rfl) (by kernel_rfl) rfl (fun _ hw=>(Rm (S.tm rfl))) fun a S=>Fo 4 S hsel rfl rfl rfl rfl hb2 rfl rfl (by kernel_rfl) (by kernel_rfl) rfl (fun _ hw=>(Rm (S.tm rfl))) fun a S=>Fo 5 S hsel rfl rfl rfl rfl hb2 rfl rfl (by kernel_rfl) (by kernel_rfl) rfl (fun _ hw=>(Rm (S.tm rfl))) ?_;clear S;intro a S
        obtain ⟨b3,hg3,hr3⟩:=Gg (a:=a) (x:=.tmp 20) (y:=.tmp 21) (ty:=0) Ji Ex S (i:=0) rfl (Dv hc1).1 (Dv hc1).2 (S.tm rfl) (S.tm rfl)
        refine Fo 6 S hsel rfl rfl rfl rfl hb2 rfl rfl (by kernel_rfl) (by kernel_rfl) rfl (fun _ hw=>(hr3 _)) ?_;clear S;intro a S
        clear hr3
        refine Fo 7 S hsel rfl rfl rfl rfl hb2 rfl rfl (by kernel_rfl) (by kernel_rfl) rfl (fun _ hw=>(Iv isAgg3 (off:=x4.toNat * 1) (o:=0) (S.tm rfl) ((Ll Ex S (i:=0) rfl hg3 (Dv hc1).1 (Ir (e':=.own Aa 3 1 x3.length (x3.flatMap eInt)))).kept hw) rfl)) fun a S=>Fo 8 S hsel rfl rfl rfl rfl hb2 rfl rfl (by kernel_rfl) (by kernel_rfl) rfl (fun _ hw=>(Rm (S.tm rfl))) fun a S=>Fo 9 S hsel rfl rfl rfl rfl hb2 rfl rfl (by kernel_rfl) (by kernel_rfl) rfl (fun _ hw=>(Rm (S.tm rfl))) fun a S=>Fo 10 S hsel rfl rfl rfl rfl hb2 rfl rfl (by kernel_rfl) (by kernel_rfl) rfl (fun _ hw=>(Iq (S.tm rfl) rfl)) ?_;clear S;intro a S
        obtain ⟨b4,hg4,hr4⟩:=Gg (a:=a) (x:=.tmp 24) (y:=.tmp 26) (ty:=0) Ji Ex S (i:=0) rfl (Dv hc2).1 (Dv hc2).2 (S.tm rfl) (S.tm rfl)
        refine Fo 11 S hsel rfl rfl rfl rfl hb2 rfl rfl (by kernel_rfl) (by kernel_rfl) rfl (fun _ hw=>(hr4 _)) ?_;clear S;intro a S
        clear hr4
        refine Fo 12 S hsel rfl rfl rfl rfl hb2 rfl rfl (by kernel_rfl) (by kernel_rfl) rfl (fun _ hw=>(Iv isAgg3 (off:=((W (x4 - 1)).toNat) * 1) (o:=0) (S.tm rfl) ((Ll Ex S (i:=0) rfl hg4 (Dv hc2).1 (Ir (e':=.own Aa 3 1 x3.length (x3.flatMap eInt)))).kept hw) rfl)) fun a S=>Hu 13 (by kernel_rfl) rfl (Dx S rfl rfl rfl hb2 (Ea S (fun _=>Dg (vs:=[iV (nth x3 x4),iV (nth x3 (W (x4 - 1)))]) ⟨(S.tm rfl),(S.tm rfl),trivial⟩ call79) (Uc _ (nth x3 x4) (nth x3 (W (x4 - 1))) _ rfl) rfl ?_));clear S;intro v2 a w8 hv2 hk3 hn2 S
        subst hv2
        refine Ld (Ij hk3 (Nb [14] hsel (by kernel_rfl) rfl ?_))
        clear hsel
        refine Gs S rfl (Td hb2 (S.tm rfl) (S.tm rfl)) rfl fun a S=>Mi ?_
        replace S:=S.k16 0 1 2 6 7 20 21 22 23 24 25 26 27 28 29 30 rfl
        exact Tn (⟨(Lu (nth x3 x4) (nth x3 (W (x4 - 1)))),h,S.nf [true] rfl (subR rfl)⟩)
       ·replace h:=Sd h hb2
        refine Hy [] ([]) Tryz.mixed S rfl (by kernel_rfl) ?_;clear S;intro w9 hk4 hsel S
        refine Nb [0,1,2,3,4,5,6,7,8,9,10,11,12,13,14] hsel (by kernel_rfl) rfl ?_
        clear hsel
        refine Gs S rfl (Rm (S.tm rfl)) rfl fun a S=>Gs S rfl (Rm (S.tm rfl)) rfl fun a S=>Gs S rfl (Ki (S.tm rfl) (S.tm rfl)) rfl fun a S=>Gs S rfl (Rm (S.tm rfl)) rfl ?_;clear S;intro a S
        iterate 10 (refine Xg S rfl rfl rfl rfl (Kl hb2) rfl ?_ rfl;clear S;intro a S)
        refine Gs S rfl (Te hb2 (S.tm rfl) rfl) rfl fun a S=>Mi ?_
        replace S:=S.k6 0 1 2 6 7 30 rfl
        exact Tn (⟨false,h,S.nf [true] rfl (subR rfl)⟩)
      clear S h;rintro a w5 ⟨x5,h,S⟩;rw [hj3] at h;clear hj3 j3
      refine Tn (Fc h (S.tm rfl) (fun hb3 h=>?_) (fun hb3 h=>?_))
      ·refine wp_skip (Tn (Fs (wp_block ?_)))
       obtain ⟨hc3,h⟩:=Hx h
       obtain ⟨hc4,h⟩:=Hx h
       obtain ⟨hc5,h⟩:=Hx h
       obtain ⟨hc6,h⟩:=Hx h
       refine Hy [15,17] ([]) Tryz.mixed S rfl (by kernel_rfl) ?_;clear S;intro w14 hk9 hsel S
       refine Ej 0 S hsel rfl rfl (by kernel_rfl) (by kernel_rfl) rfl (fun _=>(Rm (S.tm rfl))) fun a S=>Ej 1 S hsel rfl rfl (by kernel_rfl) (by kernel_rfl) rfl (fun _=>(Rm (S.tm rfl))) fun a S=>Ej 2 S hsel rfl rfl (by kernel_rfl) (by kernel_rfl) rfl (fun _=>(Rm (S.tm rfl))) fun a S=>Ej 3 S hsel rfl rfl (by kernel_rfl) (by kernel_rfl) rfl (fun _=>(Rm (S.tm rfl))) fun a S=>Ej 4 S hsel rfl rfl (by kernel_rfl) (by kernel_rfl) rfl (fun _=>(Iq (S.tm rfl) rfl)) fun a S=>Ej 5 S hsel rfl rfl (by kernel_rfl) (by kernel_rfl) rfl (fun _=>(Rm (S.tm rfl))) fun a S=>Ej 6 S hsel rfl rfl (by kernel_rfl) (by kernel_rfl) rfl (fun _=>(Rm (S.tm rfl))) fun a S=>Ej 7 S hsel rfl rfl (by kernel_rfl) (by kernel_rfl) rfl (fun _=>(Iq (S.tm rfl) rfl)) ?_;clear S;intro a S
       obtain ⟨b9,hg9,hr9⟩:=Gg (a:=a) (x:=.tmp 38) (y:=.tmp 40) (ty:=0) Ji Ex S (i:=0) rfl (Dv hc3).1 (Dv hc3).2 (S.tm rfl) (S.tm rfl)
       refine Ej 8 S hsel rfl rfl (by kernel_rfl) (by kernel_rfl) rfl (fun _=>(hr9 _)) ?_;clear S;intro a S
       clear hr9
       refine Fh 9 S hsel rfl (by kernel_rfl) (by kernel_rfl) (by kernel_rfl) (by kernel_rfl) rfl (fun _ hw=>(Iv isAgg3 (off:=((W (x4 - 1)).toNat) * 1) (o:=0) (S.tm rfl) ((Ll Ex S (i:=0) rfl hg9 (Dv hc3).1 (Ir (e':=.own Aa 3 1 x3.length (x3.flatMap eInt)))).kept hw) rfl)) fun a S=>Ej 10 S hsel rfl rfl (by kernel_rfl) (by kernel_rfl) rfl (fun _=>(Rm (S.tm rfl))) fun a S=>Ej 11 S hsel rfl rfl (by kernel_rfl) (by kernel_rfl) rfl (fun _=>(Rm (S.tm rfl))) ?_;clear S;intro a S
       obtain ⟨b10,hg10,hr10⟩:=Gg (a:=a) (x:=.tmp 43) (y:=.tmp 44) (ty:=0) Ji Ex S (i:=0) rfl (Dv hc4).1 (Dv hc4).2 (S.tm rfl) (S.tm rfl)
       refine Ej 12 S hsel rfl rfl (by kernel_rfl) (by kernel_rfl) rfl (fun _=>(hr10 _)) ?_;clear S;intro a S
       clear hr10
       refine Fh 13 S hsel rfl (by kernel_rfl) (by kernel_rfl) (by kernel_rfl) (by kernel_rfl) rfl (fun _ hw=>(Iv isAgg3 (off:=x4.toNat * 1) (o:=0) (S.tm rfl) ((Ll Ex S (i:=0) rfl hg10 (Dv hc4).1 (Ir (e':=.own Aa 3 1 x3.length (x3.flatMap eInt)))).kept hw) rfl)) ?_;clear S;intro a S
       obtain ⟨b11,hg11,hr11⟩:=Gg (a:=a) (x:=.tmp 33) (y:=.tmp 34) (ty:=0) Ji Ex S (i:=0) rfl (Dv hc5).1 (Dv hc5).2 (S.tm rfl) (S.tm rfl)
       refine Ej 14 S hsel rfl rfl (by kernel_rfl) (by kernel_rfl) rfl (fun _=>(hr11 _)) ?_;clear S;intro a S
       clear hr11
       refine Ni 15 (Aa.ownBlock.toList) rfl (by kernel_rfl) rfl (Mq (c:=0) (j:=x4.toNat) (nth x3 (W (x4 - 1))) Ex S (S.tm rfl) (S.tm rfl) (i:=0) rfl hg11 (Dv hc5).1 sizeOf3 (vs:=[iV (nth x3 (W (x4 - 1)))]) rfl rfl rfl rfl rfl ?_);clear S;intro w16 hk11 S
       refine Ld (Nj ?_)
       obtain ⟨b12,hg12,hr12⟩:=Gg (a:=a) (x:=.tmp 35) (y:=.tmp 37) (ty:=0) Ji Ex S (i:=0) rfl (Dv hc6).1 (Dv hc6).2 (S.tm rfl) (S.tm rfl)
       refine Fh 16 S hsel rfl rfl rfl (by kernel_rfl) (by kernel_rfl) rfl (fun _ hw=>(hr12 _)) ?_;clear S;intro a S
       clear hr12
       refine Hu 17 (by kernel_rfl) rfl (Mq (c:=0) (j:=(W (x4 - 1)).toNat) (nth x3 x4) Ex S (S.tm rfl) (S.tm rfl) (i:=0) rfl hg12 (Dv hc6).1 sizeOf3 (vs:=[iV (nth x3 x4)]) rfl rfl rfl rfl rfl ?_);clear S;intro w18 hk13 S
       refine Ld (Ij hk13 (Rp (by kernel_rfl) ?_))
       clear hsel
       replace S:=(S.nl [.own Aa 3 1 ((x3.set x4.toNat (nth x3 (W (x4 - 1)))).set ((W (x4 - 1)).toNat) (nth x3 x4)).length (((x3.set x4.toNat (nth x3 (W (x4 - 1)))).set ((W (x4 - 1)).toNat) (nth x3 x4)).flatMap eInt)] [true] rfl).k5 0 1 2 6 7 rfl
       exact Jb (Tn (Fg (Vm S rfl rfl fun a S=>Vq S Iq rfl rfl rfl fun a S=>Va S rfl rfl fun a S=>Dl (⟨m2,⟨((x3.set x4.toNat (nth x3 (W (x4 - 1)))).set ((W (x4 - 1)).toNat) (nth x3 x4)),W (x4 - 1),h,S.nf [true] rfl ⟨rfl,rfl,rfl,rfl,rfl,trivial⟩⟩,Nat.lt_succ_self _⟩))))
      ·exact wp_exit (Ek (Ek (Ha (Tn (⟨x3,h,S.nf [true] rfl (subR rfl)⟩)))))
    clear S h;rintro a w4 ⟨x3,h,S⟩;rw [hj2] at h;clear hj2 j2
    exact Jb (Tn (Fg (Vm S rfl rfl fun a S=>Vq S Gb rfl rfl rfl fun a S=>Va S rfl rfl fun a S=>Dl (⟨m1,⟨x3,W (x2 + 1),h,S.nf [true] rfl ⟨rfl,rfl,rfl,rfl,trivial⟩⟩,Nat.lt_succ_self _⟩))))
   ·exact wp_exit (Ek (Ek (Ha (Tn (⟨x1,h,S.nf [true] rfl trivial⟩)))))
 clear S h;rintro a w2 ⟨x1,h,S⟩;rw [hj1] at h;clear hj1 j1
 obtain rfl:=Option.some.inj h
 exact Ox S results73 ⟨(S.holds _ (List.mem_of_getElem? (i:=0) rfl)),rfl⟩
theorem Nu (w : World) (Aa : Value) (Af : List Int) (Bb : (LEnt.own Aa 3 1 Af.length (Af.flatMap eInt)).holds w) (Ar : Int) (Ax : Int) (Bc : Int) (r : (List Int)) (h : Iz Af Ar Ax Bc = some r) :
    Calls prog 56 [Aa,iV Ar,iV Ax,iV Bc].toArray w (Ret w (Aa.ownBlock.toList) fun _ v w'=>(LEnt.own Aa 3 1 r.length (r.flatMap eInt)).holds w' ∧ v = .tuple #[]):=by
 refine Jd (Aa.ownBlock.toList) [.own Aa 3 1 Af.length (Af.flatMap eInt)] func56 rfl ntmps56 rfl (fun e he=>by simp only [List.mem_singleton] at he;subst he;exact Bb) (Ho _) (Iw _) fun a S=>?_
 unfold Iz at h
 replace S:=(S.nl [.own Aa 3 1 Af.length (Af.flatMap eInt)] [true] rfl).k4 0 1 2 3 rfl
 refine Fr (Vk S rfl rfl fun a S=>Dz (Vk S rfl rfl fun a S=>Dl ?_))
 replace S:=S.k5 0 1 2 3 8 rfl
 refine Er (fun a w'=>False) ?_ ?_
 ·refine wp_block (Gz (fun (m1 : Nat) a w'=>∃ x1 : Int,∃ x2 : Int,∃ x3 : Int,∃ x4 : Bool,Fd Af m1 x1 x2 x3 x4 = some r ∧ Sx w (Aa.ownBlock.toList) nov [.own Aa 3 1 Af.length (Af.flatMap eInt)] [(0,Aa),(1,iV x1),(2,iV x2),(3,iV x3),(8,bV x4)] 134 a w') id 4611686018427387904 ⟨Ar,Ax,Bc,true,h,S.nf [true] rfl (subR rfl)⟩ ?_)
  clear S h;rintro m1 a w1 ⟨x1,x2,x3,x4,h,S⟩
  cases m1 with
  | zero=>rw [Fd.eq_1] at h;cases h
  | succ m1 =>
   rw [Fd.eq_2] at h
   refine wp_block (Fr (Vm S rfl rfl fun a S=>Vm S rfl rfl fun a S=>Vb S Iq rfl rfl rfl fun a S=>Va S rfl rfl fun a S=>Dl (Fs (Fs ?_))))
   refine Fg (Vm S rfl rfl fun a S=>Vq S Ow rfl rfl rfl fun a S=>Dl (Fc h (S.tm rfl) (fun hb1 h=>?_) (fun hb1 h=>?_)))
   ·refine Fs (Fg ?_)
    iterate 3 (refine Vm S rfl rfl ?_;clear S;intro a S)
    obtain ⟨r1,hr1,h⟩:=Eu h
    refine Kt 0 S rfl (fun _=>.own Aa 3 1 r1.length (r1.flatMap eInt)) (fun _=>Dg (vs:=[Aa,iV x1,iV x2]) ⟨(S.tm rfl),(S.tm rfl),(S.tm rfl),trivial⟩ call73) (Ml _ Aa Af (S.holds _ (List.mem_of_getElem? (i:=0) rfl)) x1 x2 _ hr1) rfl (fun _ _ _ h=>⟨h.1,fun _ hc=>hc⟩) ?_;clear S;intro v1 a w3 hv1 hk1 hn1 S
    replace hv1:=hv1.2
    subst hv1
    refine Ld ?_
    replace S:=(S.nl [.own Aa 3 1 r1.length (r1.flatMap eInt)] [true] rfl).k0
    refine Tn (wp_ret (Dy (Hj (Dy (Hj (Dy ?_))))))
    obtain rfl:=Option.some.inj h
    exact Ox S results56 ⟨(S.holds _ (List.mem_of_getElem? (i:=0) rfl)),rfl⟩
   ·refine wp_skip (Tn (Fs (Fr (Vm S rfl rfl fun a S=>Vq S Kh rfl rfl rfl fun a S=>Dl (Fc h (S.tm rfl) (fun hb2 h=>?_) (fun hb2 h=>?_))))))
    ·refine Fs ?_
     cases h
    ·refine wp_skip (Tn (Fs (Fr (Vm S rfl rfl fun a S=>Vu S Li rfl rfl fun a S=>Ld ?_))))
     replace S:=S.k1 35 rfl
     refine Tn (Fc h (S.tm rfl) (fun hb3 h=>?_) (fun hb3 h=>?_))
     ·refine Fs ?_
      cases h
     ·refine wp_skip (Tn (Fs ?_))
      cases h
 exact fun _ _ h=>h.elim
theorem Sa (w : World) (Aq : Value) (Ai : List Int) (Bn : (LEnt.own Aq 3 1 Ai.length (Ai.flatMap eInt)).holds w) (r : (List Int)) (h : Lf Ai = some r) :
    Calls prog 42 [Aq].toArray w (Ret w (Aq.ownBlock.toList) fun _ v w'=>(LEnt.own Aq 3 1 r.length (r.flatMap eInt)).holds w' ∧ v = .tuple #[]):=by
 refine Jd (Aq.ownBlock.toList) [.own Aq 3 1 Ai.length (Ai.flatMap eInt)] func42 rfl ntmps42 rfl (fun e he=>by simp only [List.mem_singleton] at he;subst he;exact Bn) (Ho _) (Iw _) fun a S=>?_
 unfold Lf at h
 replace S:=(S.nl [.own Aq 3 1 Ai.length (Ai.flatMap eInt)] [true] rfl).k1 0 rfl
 refine Fr (Vm S rfl rfl fun a S=>lv S (Gh Ji (S.tm rfl) (Ob (S.own_at (i:=0) rfl))) rfl fun a S=>Va S rfl rfl fun a S=>Dl (Fg ?_))
 iterate 3 (refine Vm S rfl rfl ?_;clear S;intro a S)
 refine Vu S (Jr underlying3 underlying87) rfl rfl ?_;clear S;intro a S
 obtain ⟨r1,hr1,h⟩:=Eu h
 refine Ea S (fun _=>Dg (vs:=[.int .u64 (IntKind.wrap .u64 (Ai.length : Int))]) ⟨(S.tm rfl),trivial⟩ call49) (Qo _ (IntKind.wrap .u64 (Ai.length : Int)) _ hr1) rfl ?_;clear S;intro v1 a w1 hv1 hk1 hn1 S
 subst hv1
 obtain ⟨r2,hr2,h⟩:=Eu h
 refine Kt 0 S rfl (fun _=>.own Aq 3 1 r2.length (r2.flatMap eInt)) (fun _=>Dg (vs:=[Aq,iV 0,iV (Ai.length : Int),iV r1]) ⟨(S.tm rfl),rfl,(S.tm rfl),(S.tm rfl),trivial⟩ call56) (Nu _ Aq Ai (S.holds _ (List.mem_of_getElem? (i:=0) rfl)) 0 (Ai.length : Int) r1 _ hr2) rfl (fun _ _ _ h=>⟨h.1,fun _ hc=>hc⟩) ?_;clear S;intro v2 a w2 hv2 hk2 hn2 S
 replace hv2:=hv2.2
 subst hv2
 refine Ld ?_
 obtain rfl:=Option.some.inj h
 exact Ox S results42 ⟨(S.holds _ (List.mem_of_getElem? (i:=0) rfl)),rfl⟩
theorem Qi (w : World) (Am : Value) (Ao : List Int) (Cn : (LEnt.own Am 3 1 Ao.length (Ao.flatMap eInt)).holds w) (r : (List Int)) (h : Jz Ao = some r) :
    Calls prog 43 [Am].toArray w (Ret w (Am.ownBlock.toList) fun _ v w'=>(LEnt.own Am 3 1 r.length (r.flatMap eInt)).holds w' ∧ v = .tuple #[]):=by
 refine Jd (Am.ownBlock.toList) [.own Am 3 1 Ao.length (Ao.flatMap eInt)] func43 rfl ntmps43 rfl (fun e he=>by simp only [List.mem_singleton] at he;subst he;exact Cn) (Ho _) (Iw _) fun a S=>?_
 unfold Jz at h
 replace S:=(S.nl [.own Am 3 1 Ao.length (Ao.flatMap eInt)] [true] rfl).k1 0 rfl
 refine Fr (Vm S rfl rfl fun a S=>lv S (Gh Ji (S.tm rfl) (Ob (S.own_at (i:=0) rfl))) rfl fun a S=>Vq S Iq rfl rfl rfl fun a S=>Vk S rfl rfl fun a S=>Va S rfl rfl fun a S=>Dl ?_)
 replace S:=S.k3 0 2 3 rfl
 obtain ⟨j1,hj1,h⟩:=Fk h
 refine Er (fun a w'=>∃ x1 : List Int,j1 x1 = some r ∧ Sx w (Am.ownBlock.toList) nov [.own Am 3 1 x1.length (x1.flatMap eInt)] [] 28 a w') ?_ ?_
 ·refine wp_block (Gz (fun (m1 : Nat) a w'=>∃ x1 : List Int,∃ x2 : Int,∃ x3 : Int,Fu j1 m1 x1 x2 x3 = some r ∧ Sx w (Am.ownBlock.toList) nov [.own Am 3 1 x1.length (x1.flatMap eInt)] [(0,Am),(2,iV x2),(3,iV x3)] 28 a w') id (((W ((Ao.length : Int) - 1)) - 0).toNat + 2) ⟨Ao,0,W ((Ao.length : Int) - 1),h,S.nf [true] rfl (subR rfl)⟩ ?_)
  clear S h;rintro m1 a w1 ⟨x1,x2,x3,h,S⟩
  cases m1 with
  | zero=>rw [Fu.eq_1] at h;cases h
  | succ m1 =>
   rw [Fu.eq_2] at h
   refine Fs (Fr (Vm S rfl rfl fun a S=>Vm S rfl rfl fun a S=>Vb S Fi rfl rfl rfl fun a S=>Dl (Fc h (S.tm rfl) (fun hb1 h=>?_) (fun hb1 h=>?_))))
   ·refine wp_skip (Tn (Fs (wp_block ?_)))
    obtain ⟨hc1,h⟩:=Hx h
    obtain ⟨hc2,h⟩:=Hx h
    obtain ⟨hc3,h⟩:=Hx h
    obtain ⟨hc4,h⟩:=Hx h
    refine Hy [13,15] ([]) Tryz.mixed S rfl (by kernel_rfl) ?_;clear S;intro w7 hk5 hsel S
    refine Ej 0 S hsel rfl rfl (by kernel_rfl) (by kernel_rfl) rfl (fun _=>(Rm (S.tm rfl))) fun a S=>Ej 1 S hsel rfl rfl (by kernel_rfl) (by kernel_rfl) rfl (fun _=>(Rm (S.tm rfl))) fun a S=>Ej 2 S hsel rfl rfl (by kernel_rfl) (by kernel_rfl) rfl (fun _=>(Rm (S.tm rfl))) fun a S=>Ej 3 S hsel rfl rfl (by kernel_rfl) (by kernel_rfl) rfl (fun _=>(Rm (S.tm rfl))) fun a S=>Ej 4 S hsel rfl rfl (by kernel_rfl) (by kernel_rfl) rfl (fun _=>(Rm (S.tm rfl))) fun a S=>Ej 5 S hsel rfl rfl (by kernel_rfl) (by kernel_rfl) rfl (fun _=>(Rm (S.tm rfl))) ?_;clear S;intro a S
    obtain ⟨b5,hg5,hr5⟩:=Gg (a:=a) (x:=.tmp 18) (y:=.tmp 19) (ty:=0) Ji Ex S (i:=0) rfl (Dv hc1).1 (Dv hc1).2 (S.tm rfl) (S.tm rfl)
    refine Ej 6 S hsel rfl rfl (by kernel_rfl) (by kernel_rfl) rfl (fun _=>(hr5 _)) ?_;clear S;intro a S
    clear hr5
    refine Fh 7 S hsel rfl (by kernel_rfl) (by kernel_rfl) (by kernel_rfl) (by kernel_rfl) rfl (fun _ hw=>(Iv isAgg3 (off:=x3.toNat * 1) (o:=0) (S.tm rfl) ((Ll Ex S (i:=0) rfl hg5 (Dv hc1).1 (Ir (e':=.own Am 3 1 x1.length (x1.flatMap eInt)))).kept hw) rfl)) fun a S=>Ej 8 S hsel rfl rfl (by kernel_rfl) (by kernel_rfl) rfl (fun _=>(Rm (S.tm rfl))) fun a S=>Ej 9 S hsel rfl rfl (by kernel_rfl) (by kernel_rfl) rfl (fun _=>(Rm (S.tm rfl))) ?_;clear S;intro a S
    obtain ⟨b6,hg6,hr6⟩:=Gg (a:=a) (x:=.tmp 22) (y:=.tmp 23) (ty:=0) Ji Ex S (i:=0) rfl (Dv hc2).1 (Dv hc2).2 (S.tm rfl) (S.tm rfl)
    refine Ej 10 S hsel rfl rfl (by kernel_rfl) (by kernel_rfl) rfl (fun _=>(hr6 _)) ?_;clear S;intro a S
    clear hr6
    refine Fh 11 S hsel rfl (by kernel_rfl) (by kernel_rfl) (by kernel_rfl) (by kernel_rfl) rfl (fun _ hw=>(Iv isAgg3 (off:=x2.toNat * 1) (o:=0) (S.tm rfl) ((Ll Ex S (i:=0) rfl hg6 (Dv hc2).1 (Ir (e':=.own Am 3 1 x1.length (x1.flatMap eInt)))).kept hw) rfl)) ?_;clear S;intro a S
    obtain ⟨b7,hg7,hr7⟩:=Gg (a:=a) (x:=.tmp 14) (y:=.tmp 15) (ty:=0) Ji Ex S (i:=0) rfl (Dv hc3).1 (Dv hc3).2 (S.tm rfl) (S.tm rfl)
    refine Ej 12 S hsel rfl rfl (by kernel_rfl) (by kernel_rfl) rfl (fun _=>(hr7 _)) ?_;clear S;intro a S
    clear hr7
    refine Ni 13 (Am.ownBlock.toList) rfl (by kernel_rfl) rfl (Mq (c:=0) (j:=x2.toNat) (nth x1 x3) Ex S (S.tm rfl) (S.tm rfl) (i:=0) rfl hg7 (Dv hc3).1 sizeOf3 (vs:=[iV (nth x1 x3)]) rfl rfl rfl rfl rfl ?_);clear S;intro w9 hk7 S
    refine Ld (Nj ?_)
    obtain ⟨b8,hg8,hr8⟩:=Gg (a:=a) (x:=.tmp 16) (y:=.tmp 17) (ty:=0) Ji Ex S (i:=0) rfl (Dv hc4).1 (Dv hc4).2 (S.tm rfl) (S.tm rfl)
    refine Fh 14 S hsel rfl rfl rfl (by kernel_rfl) (by kernel_rfl) rfl (fun _ hw=>(hr8 _)) ?_;clear S;intro a S
    clear hr8
    refine Hu 15 (by kernel_rfl) rfl (Mq (c:=0) (j:=x3.toNat) (nth x1 x2) Ex S (S.tm rfl) (S.tm rfl) (i:=0) rfl hg8 (Dv hc4).1 sizeOf3 (vs:=[iV (nth x1 x2)]) rfl rfl rfl rfl rfl ?_);clear S;intro w11 hk9 S
    refine Ld (Ij hk9 (Rp (by kernel_rfl) ?_))
    clear hsel
    replace S:=(S.nl [.own Am 3 1 ((x1.set x2.toNat (nth x1 x3)).set x3.toNat (nth x1 x2)).length (((x1.set x2.toNat (nth x1 x3)).set x3.toNat (nth x1 x2)).flatMap eInt)] [true] rfl).k3 0 2 3 rfl
    refine Jb (Tn (Fg (Vm S rfl rfl fun a S=>Vq S Gb rfl rfl rfl fun a S=>Vm S rfl rfl fun a S=>Vq S Iq rfl rfl rfl fun a S=>Va S rfl rfl fun a S=>Va S rfl rfl fun a S=>Dl ?_)))
    exact ⟨m1,⟨((x1.set x2.toNat (nth x1 x3)).set x3.toNat (nth x1 x2)),W (x2 + 1),W (x3 - 1),h,S.nf [true] rfl ⟨rfl,rfl,rfl,trivial⟩⟩,Nat.lt_succ_self _⟩
   ·exact wp_exit (Ek (Ek (Ha (Tn (⟨x1,h,S.nf [true] rfl trivial⟩)))))
 clear S h;rintro a w2 ⟨x1,h,S⟩;rw [hj1] at h;clear hj1 j1
 obtain rfl:=Option.some.inj h
 exact Ox S results43 ⟨(S.holds _ (List.mem_of_getElem? (i:=0) rfl)),rfl⟩
theorem Pn (w : World) (Bf : ByteArray) (Bx : Nat) (Bo : Value) (Bl : List Dm) (Ck : Slc (view w []) 3 Bo (Bl.map Dm.enc)) (By : (view w []) Bx = some (.cells [Bo].toArray 30 (0,0))) (Bp : Nat) (Bv : Value) (Cb : List Dw) (Cu : Slc (view w []) 2 Bv (Cb.map Dw.enc)) (Cl : (view w []) Bp = some (.cells [Bv].toArray 26 (0,0))) (Bh : Nat) (Cc : Int) (Cx : (view w []) Bh = some (.cells [iV Cc].toArray 3 (0,0))) (r : Di) (h : Il Bf Bl Cb Cc = some r) :
    Calls prog 41 [sV Bf,.pointer (some ⟨Bx,0,none⟩),.pointer (some ⟨Bp,0,none⟩),.pointer (some ⟨Bh,0,none⟩)].toArray w (Ret w [] fun _ v _=>v = .agg (Di.enc r).toArray):=by
 refine Fe func41 rfl ntmps41 rfl fun a S=>?_
 unfold Il at h
 replace S:=S.k4 0 1 2 3 rfl
 refine Fr (Ko S zeroValue54 (cs:=[iV 0,iV 0]) rfl rfl ?_);clear S;intro a w1 b1 hz1 hk1 S
 refine Dz (Rc (κ:=ByteArray) (ν:=Int) S rfl Value.string (Value.int .i64) ?_);clear S;intro a w2 b2 hz2 hk2 S
 refine Va S rfl rfl fun a S=>Dl (Fs (Fr (lv S (Iv isAgg30 (off:=0) (o:=0) (S.tm rfl) ((Rb By).at S.emb0) rfl) rfl fun a S=>lv S (Gh Pi (S.tm rfl) (Hr Ck)) rfl fun a S=>lv S (Rm rfl) rfl fun a S=>Dl ?_)))
 replace S:=(S.nl [.map b2 (En Value.string (Value.int .i64) ([] : List (ByteArray × Int))) ([] : List (ByteArray × Int)).length,.blk b1 [iV 0,iV 0] 54] [true,true] rfl).k8 0 2 3 5 6 16 17 18 rfl
 obtain ⟨j1,hj1,h⟩:=Fk h
 refine Er (fun a w'=>∃ x1 : List (ByteArray × Int),j1 x1 = some r ∧ Sx w [] nov [.map b2 (En Value.string (Value.int .i64) x1) x1.length,.blk b1 [iV 0,iV 0] 54] [(3,.pointer (some ⟨Bh,0,none⟩)),(5,.pointer (some ⟨b1,0,none⟩)),(6,.map (some b2))] 84 a w') ?_ ?_
 ·refine wp_block (Gz (fun (ys1 : List Dm) a w'=>∃ i1 : Nat,∃ x1 : List (ByteArray × Int),(∃ dn,Bl = dn ++ ys1 ∧ dn.length = i1) ∧ Ev Bf Cb j1 ys1 i1 x1 = some r ∧ Sx w [] nov [.map b2 (En Value.string (Value.int .i64) x1) x1.length,.blk b1 [iV 0,iV 0] 54] [(0,sV Bf),(2,.pointer (some ⟨Bp,0,none⟩)),(3,.pointer (some ⟨Bh,0,none⟩)),(5,.pointer (some ⟨b1,0,none⟩)),(6,.map (some b2)),(16,Bo),(17,iV (Bl.length : Int)),(18,iV (i1 : Int))] 84 a w') List.length Bl ⟨0,([] : List (ByteArray × Int)),⟨[],rfl,rfl⟩,h,S.nf [true,true] rfl (subR rfl)⟩ ?_)
  clear S h;rintro ys1 a w3 ⟨i1,x1,⟨dn,hd1,hi1⟩,h,S⟩
  cases ys1 with
  | nil =>
   rw [Ev.eq_1] at h
   refine Fr (Vb S Fi rfl rfl rfl fun a S=>Ld ?_)
   replace S:=S.k9 0 2 3 5 6 16 17 18 19 rfl
   exact Tn (Fs (wp_cond_false ((S.tm rfl).trans (congrArg Value.bool (Kq hd1 hi1))) (wp_exit (Ek (Ek (Ha (Tn (⟨x1,h,S.nf [true,true] rfl (subR rfl)⟩))))))))
  | cons y1 ys1 =>
   rw [Ev.eq_2] at h
   refine Fr (Vb S Fi rfl rfl rfl fun a S=>Ld ?_)
   replace S:=S.k9 0 2 3 5 6 16 17 18 19 rfl
   refine Tn (Fs (wp_cond_true ((S.tm rfl).trans (congrArg Value.bool (Jm hd1 hi1))) (wp_skip (Tn (Fs ?_)))))
   obtain ⟨j2,hj2,h⟩:=Fk h
   refine Er (fun a w'=>∃ x2 : List (ByteArray × Int),j2 x2 = some r ∧ Sx w [] nov [.map b2 (En Value.string (Value.int .i64) x2) x2.length,.blk b1 [iV 0,iV 0] 54] [(0,sV Bf),(2,.pointer (some ⟨Bp,0,none⟩)),(3,.pointer (some ⟨Bh,0,none⟩)),(5,.pointer (some ⟨b1,0,none⟩)),(6,.map (some b2)),(16,Bo),(17,iV (Bl.length : Int)),(18,iV (i1 : Int))] 84 a w') ?_ ?_
   ·refine wp_block (Fs (Fg ?_))
    obtain ⟨b3,o1,hm1,hr1⟩:=Hs (a:=a) (x:=.tmp 16) (y:=.tmp 18) (ty:=0) Pi Ck (Kd hd1 hi1) rfl (S.tm rfl) (S.tm rfl)
    refine lv S (hr1 _) rfl ?_;clear S;intro a S
    clear hr1
    refine lv S (Kk isAgg64 sizeOf64 (off:=o1) (o:=0) (part:=(Dm.enc y1)) rfl rfl (S.tm rfl) (hm1.at S.emb0)) rfl fun a S=>Ko S zeroValue64 (cs:=[sV Ec,sV Ec,iV 0]) rfl rfl ?_;clear S;intro a w6 b4 hz3 hk3 S
    refine Hk S (S.tm rfl) (S.tm rfl) (i:=0) (off:=0) rfl sizeOf64 (vs:=(Dm.enc y1)) rfl rfl rfl rfl ?_;clear S;intro w7 hk4 S
    refine Dz (Vf Nl S rfl rfl fun a S=>Vl isAgg9 0 S rfl rfl rfl rfl fun a S=>Vm S rfl rfl fun a S=>Vb S Qw rfl rfl rfl fun a S=>Vm S rfl rfl fun a S=>Ii 4 (fun a w'=>Keep [] w7 w' ∧ Sx w [] nov [.blk b4 (Dm.enc y1) 64,.map b2 (En Value.string (Value.int .i64) x1) x1.length,.blk b1 [iV 0,iV 0] 54] [(0,sV Bf),(2,.pointer (some ⟨Bp,0,none⟩)),(3,.pointer (some ⟨Bh,0,none⟩)),(5,.pointer (some ⟨b1,0,none⟩)),(6,.map (some b2)),(8,.pointer (some ⟨b4,0,none⟩)),(16,Bo),(17,iV (Bl.length : Int)),(18,iV (i1 : Int)),(30,bV ((decide (y1.Who = Bf)) && (decide (0 < y1.Time))))] 84 a w') ?_ ?_)
    ·rcases Bool.eq_false_or_eq_true (decide (y1.Who = Bf)) with hb1 | hb1
     ·exact Dx S rfl rfl rfl hb1 (Vf Oc S rfl rfl fun a S=>Dx S rfl rfl rfl hb1 (Vl isAgg3 0 S rfl rfl rfl rfl fun a S=>Dx S rfl rfl rfl hb1 (Vq S Ki rfl rfl rfl fun a S=>lv S (Hm hb1 (S.tm rfl) (S.tm rfl)) rfl fun a S=>Dl (⟨Keep.refl _ _,S.nf [true,true,true] rfl (subR rfl)⟩))))
     ·iterate 3 (refine Hh S rfl rfl rfl (Kl hb1) rfl ?_ rfl;clear S;intro a S)
      exact lv S (Hn (decide (0 < y1.Time)) hb1 (S.tm rfl) rfl) rfl fun a S=>Dl (⟨Keep.refl _ _,S.nf [true,true,true] rfl (subR rfl)⟩)
    clear S;rintro a w8 ⟨hk5,S⟩
    refine Vm S rfl rfl fun a S=>Ii 6 (fun a w'=>Keep [] w8 w' ∧ Sx w [] nov [.blk b4 (Dm.enc y1) 64,.map b2 (En Value.string (Value.int .i64) x1) x1.length,.blk b1 [iV 0,iV 0] 54] [(0,sV Bf),(2,.pointer (some ⟨Bp,0,none⟩)),(3,.pointer (some ⟨Bh,0,none⟩)),(5,.pointer (some ⟨b1,0,none⟩)),(6,.map (some b2)),(8,.pointer (some ⟨b4,0,none⟩)),(16,Bo),(17,iV (Bl.length : Int)),(18,iV (i1 : Int)),(37,bV (((decide (y1.Who = Bf)) && (decide (0 < y1.Time))) && (decide (0 < (Eg Cb y1.Race)))))] 84 a w') ?_ ?_
    ·rcases Bool.eq_false_or_eq_true ((decide (y1.Who = Bf)) && (decide (0 < y1.Time))) with hb2 | hb2
     ·refine Dx S rfl rfl rfl hb2 (lv S (Iv isAgg26 (off:=0) (o:=0) (S.tm rfl) ((Rb Cl).at S.emb0) rfl) rfl fun a S=>Dx S rfl rfl rfl hb2 (Vf Mf S rfl rfl fun a S=>Dx S rfl rfl rfl hb2 (Vl isAgg9 0 S rfl rfl rfl rfl fun a S=>Dx S rfl rfl rfl hb2 (Ea S (fun _=>Dg (vs:=[Bv,sV y1.Race]) ⟨(S.tm rfl),(S.tm rfl),trivial⟩ call38) (Mk _ Bv Cb (Cu.mono (S.le_arg Gi)) y1.Race _ rfl) rfl ?_))));clear S;intro v1 a w10 hv1 hk6 hn1 S
      subst hv1
      exact Dx S rfl rfl rfl hb2 (Vq S Ki rfl rfl rfl fun a S=>lv S (Hm hb2 (S.tm rfl) (S.tm rfl)) rfl fun a S=>Dl (⟨hk6,S.nf [true,true,true] rfl (subR rfl)⟩))
     ·iterate 5 (refine Hh S rfl rfl rfl (Kl hb2) rfl ?_ rfl;clear S;intro a S)
      exact lv S (Hn (decide (0 < (Eg Cb y1.Race))) hb2 (S.tm rfl) rfl) rfl fun a S=>Dl (⟨Keep.refl _ _,S.nf [true,true,true] rfl (subR rfl)⟩)
    clear S;rintro a w9 ⟨hk7,S⟩
    refine Dl ?_
    obtain ⟨j3,hj3,h⟩:=Fk h
    refine Er (fun a w'=>∃ x3 : List (ByteArray × Int),j3 x3 = some r ∧ Sx w [] nov [.map b2 (En Value.string (Value.int .i64) x3) x3.length,.blk b1 [iV 0,iV 0] 54] [(0,sV Bf),(2,.pointer (some ⟨Bp,0,none⟩)),(3,.pointer (some ⟨Bh,0,none⟩)),(5,.pointer (some ⟨b1,0,none⟩)),(6,.map (some b2)),(16,Bo),(17,iV (Bl.length : Int)),(18,iV (i1 : Int))] 84 a w') ?_ ?_
    ·refine Fc h (S.tm rfl) (fun hb3 h=>?_) (fun hb3 h=>?_)
     ·obtain ⟨r1,hr2,h⟩:=Eu h
      refine Hy [14] ([]) Tryz.mixed S rfl (by kernel_rfl) ?_;clear S;intro w14 hk10 hsel S
      refine Ej 0 S hsel rfl rfl (by kernel_rfl) (by kernel_rfl) rfl (fun _=>(Rm (S.tm rfl))) fun a S=>Ej 1 S hsel rfl rfl (by kernel_rfl) (by kernel_rfl) rfl (fun _=>(Jk Mf (S.tm rfl))) fun a S=>Fh 2 S hsel rfl (by kernel_rfl) (by kernel_rfl) (by kernel_rfl) (by kernel_rfl) rfl (fun _ hw=>(Iv isAgg9 (off:=0) (o:=0) (S.tm rfl) ((S.blk_mem (i:=0) (cells:=(Dm.enc y1)) (b:=b4) (T:=64) rfl (Ir (e':=.blk b4 (Dm.enc y1) 64))).kept hw) rfl)) fun a S=>Ej 3 S hsel rfl rfl (by kernel_rfl) (by kernel_rfl) rfl (fun _=>(Rm (S.tm rfl))) fun a S=>Ej 4 S hsel rfl rfl (by kernel_rfl) (by kernel_rfl) rfl (fun _=>(Jk Mf (S.tm rfl))) fun a S=>Fh 5 S hsel rfl (by kernel_rfl) (by kernel_rfl) (by kernel_rfl) (by kernel_rfl) rfl (fun _ hw=>(Iv isAgg9 (off:=0) (o:=0) (S.tm rfl) ((S.blk_mem (i:=0) (cells:=(Dm.enc y1)) (b:=b4) (T:=64) rfl (Ir (e':=.blk b4 (Dm.enc y1) 64))).kept hw) rfl)) fun a S=>Fh 6 S hsel rfl (by kernel_rfl) (by kernel_rfl) (by kernel_rfl) (by kernel_rfl) rfl (fun _ hw=>(Th (kv:=Value.string) (vv:=(Value.int .i64)) (m:=x1) (key:=y1.Race) (z:=0) (S.map_kept (i:=1) rfl (Ir (e':=.map b2 (En Value.string (Value.int .i64) x1) x1.length)) hw) underlying78 (Pf underlying9) zeroValue3 (S.tm rfl) (S.tm rfl))) fun a S=>Fh 7 S hsel rfl (by kernel_rfl) (by kernel_rfl) (by kernel_rfl) (by kernel_rfl) rfl (fun _ hw=>(Iv isAgg26 (off:=0) (o:=0) (S.tm rfl) (((Rb Cl).mono (S.le_arg Gi)).kept hw) rfl)) fun a S=>Ej 8 S hsel rfl rfl (by kernel_rfl) (by kernel_rfl) rfl (fun _=>(Jk Mf (S.tm rfl))) fun a S=>Fh 9 S hsel rfl (by kernel_rfl) (by kernel_rfl) (by kernel_rfl) (by kernel_rfl) rfl (fun _ hw=>(Iv isAgg9 (off:=0) (o:=0) (S.tm rfl) ((S.blk_mem (i:=0) (cells:=(Dm.enc y1)) (b:=b4) (T:=64) rfl (Ir (e':=.blk b4 (Dm.enc y1) 64))).kept hw) rfl)) ?_;clear S;intro a S
      refine Ej 10 S hsel rfl rfl (by kernel_rfl) (by kernel_rfl) rfl (fun _=>(Jk Oc (S.tm rfl))) fun a S=>Fh 11 S hsel rfl (by kernel_rfl) (by kernel_rfl) (by kernel_rfl) (by kernel_rfl) rfl (fun _ hw=>(Iv isAgg3 (off:=0) (o:=2) (S.tm rfl) ((S.blk_mem (i:=0) (cells:=(Dm.enc y1)) (b:=b4) (T:=64) rfl (Ir (e':=.blk b4 (Dm.enc y1) 64))).kept hw) rfl)) fun a S=>Hu 12 (by kernel_rfl) rfl (Ea S (fun _=>Dg (vs:=[Bv,sV y1.Race,iV y1.Time]) ⟨(S.tm rfl),(S.tm rfl),(S.tm rfl),trivial⟩ call17) (My _ Bv Cb (Cu.mono (S.le_arg Gi)) y1.Race y1.Time _ hr2) rfl ?_);clear S;intro v3 a w15 hv3 hk11 hn3 S
      subst hv3
      refine Ld (Ij hk11 (Ej 13 S hsel rfl rfl (by kernel_rfl) (by kernel_rfl) rfl (fun _=>(Zj (S.tm rfl) (S.tm rfl))) fun a S=>Ni 14 ([b2]) rfl (by kernel_rfl) rfl (Np (kv:=Value.string) (vv:=(Value.int .i64)) (m:=x1) (key:=y1.Race) (val:=Rt (Gp x1 y1.Race 0) r1) S (i:=1) rfl underlying78 (Pf underlying9) (S.tm rfl) (S.tm rfl) (S.tm rfl) ?_)));clear S;intro w16 hk12 S
      refine Ld (Nj (Rp (by kernel_rfl) ?_))
      clear hsel
      replace S:=(S.nl [.map b2 (En Value.string (Value.int .i64) (Fz x1 y1.Race (Rt (Gp x1 y1.Race 0) r1))) (Fz x1 y1.Race (Rt (Gp x1 y1.Race 0) r1)).length,.blk b1 [iV 0,iV 0] 54] [false,true,true] rfl).k8 0 2 3 5 6 16 17 18 rfl
      exact Tn (⟨(Fz x1 y1.Race (Rt (Gp x1 y1.Race 0) r1)),h,S.nf [true,true] rfl (subR rfl)⟩)
     ·exact wp_skip (Tn (⟨x1,h,S.nf [false,true,true] rfl (subR rfl)⟩))
    clear S h;rintro a w11 ⟨x3,h,S⟩;rw [hj3] at h;clear hj3 j3
    exact Jb (Tn (⟨x3,h,S.nf [true,true] rfl (subR rfl)⟩))
   clear S h;rintro a w5 ⟨x2,h,S⟩;rw [hj2] at h;clear hj2 j2
   exact Tn (Fg (Vq S Gb rfl rfl rfl fun a S=>Vm S rfl rfl fun a S=>Dl (⟨ys1,⟨i1 + 1,x2,⟨_,(hd1).trans (List.append_cons _ _ _),by simp [hi1]⟩,h,S.nf [true,true] rfl ⟨rfl,rfl,rfl,rfl,rfl,rfl,rfl,(congrArg (fun z=>some (Value.int .i64 z)) (Jn hd1 hi1 (Ky Ck))),trivial⟩⟩,Nat.lt_succ_self _⟩)))
 clear S h;rintro a w4 ⟨x1,h,S⟩;rw [hj1] at h;clear hj1 j1
 refine Tn (Fr (Vk S rfl rfl ?_));clear S;intro a S
 replace S:=S.nil 3 1
 refine Dl (Fs (Fr (Vm S rfl rfl fun a S=>Ug (es:=En Value.string (Value.int .i64) x1) (clk:=x1.length) S (S.map_at (i:=1) rfl) underlying78 (S.tm rfl) rfl ?_)));clear S;intro a w17 b5 hz4 hk13 S
 refine Dl ?_
 replace S:=(S.nl [.iter b5 b2 x1.length #[] x1.length,.own (.slice none 0 0) 3 1 ([] : List Int).length (([] : List Int).flatMap eInt),.map b2 (En Value.string (Value.int .i64) x1) x1.length,.blk b1 [iV 0,iV 0] 54] [true,true,true,true] rfl).k4 3 5 9 54 rfl
 obtain ⟨j4,hj4,h⟩:=Fk h
 replace h:=allE h
 refine Er (fun a w'=>∃ x4 : List Int,∃ v4 : Value,j4 x4 = some r ∧ Sx w [] nov [.own v4 3 1 x4.length (x4.flatMap eInt),.map b2 (En Value.string (Value.int .i64) x1) x1.length,.blk b1 [iV 0,iV 0] 54] [(3,.pointer (some ⟨Bh,0,none⟩)),(5,.pointer (some ⟨b1,0,none⟩)),(9,v4)] 84 a w') ?_ ?_
 ·refine wp_block (Gz (fun (q : List (ByteArray × Int)) a w'=>∃ x4 : List Int,∃ v4 : Value,∃ sn1 : Array Nat,Nx x1 sn1 = q ∧ (∀ p,p.Perm q → Ff j4 p x4 = some r) ∧ Sx w [] nov [.iter b5 b2 x1.length sn1 x1.length,.own v4 3 1 x4.length (x4.flatMap eInt),.map b2 (En Value.string (Value.int .i64) x1) x1.length,.blk b1 [iV 0,iV 0] 54] [(3,.pointer (some ⟨Bh,0,none⟩)),(5,.pointer (some ⟨b1,0,none⟩)),(9,v4),(54,.pointer (some ⟨b5,0,none⟩))] 84 a w') List.length x1 ⟨([] : List Int),(.slice none 0 0),#[],(Uf _),h,S.nf [true,true,true,true] rfl (subR rfl)⟩ ?_)
  clear S h;rintro q a w18 ⟨x4,v4,sn1,hq,h,S⟩
  refine Fr (Xf (kv:=Value.string) (vv:=(Value.int .i64)) (m:=x1) S (i:=0) rfl (S.map_at (i:=2) rfl) (S.tm rfl) rfl ?_ ?_)
  ·intro hn4;clear S;intro a S
   replace h:=Se h (hq.symm.trans hn4)
   rw [Ff.eq_1] at h
   refine Vq S Es rfl rfl rfl fun a S=>Ld ?_
   replace S:=S.k5 3 5 9 54 56 rfl
   exact Tn (Fs (wp_cond_false (S.tm rfl) (wp_exit (Ek (Ek (Ha (Tn (⟨x4,v4,h,S.nf [false,true,true,true] rfl (subR rfl)⟩))))))))
  ·clear S;intro y2 sn2 a w20 hp1 hl1 hk14 S
   obtain ⟨sq1,h,hn5⟩:=Qv h (by rw [← hq];exact hp1) (fun _=>rfl)
   refine Vq S Es rfl rfl rfl fun a S=>Ld ?_
   replace S:=(S.nl [.iter b5 b2 x1.length sn2 x1.length,.own v4 3 1 x4.length (x4.flatMap eInt),.map b2 (En Value.string (Value.int .i64) x1) x1.length,.blk b1 [iV 0,iV 0] 54] [true,true,true,true] rfl).k5 3 5 9 54 56 rfl
   refine Tn (Fs (wp_cond_true (S.tm rfl) (wp_skip (Tn (wp_block (Fr (lv S (Sk (kv:=Value.string) (vv:=(Value.int .i64)) (m:=x1) (e:=y2) (S.holds _ (List.mem_of_getElem? (i:=0) rfl)) (S.map_at (i:=2) rfl) hl1 (S.tm rfl)) rfl fun a S=>Vq S Es rfl rfl rfl fun a S=>Va S rfl rfl ?_)))))));clear S;intro a S
   refine Dl (Fg (Vm S rfl rfl fun a S=>Vm S rfl rfl fun a S=>El S underlying22 sizeOf3 zeroValue3 rfl rfl (pv:=[(0,iV y2.2)]) ⟨rfl,(S.tm rfl),trivial⟩ (cs:=[iV y2.2]) (by kernel_rfl) rfl ?_));clear S;intro a w21 b6 hz5 hk15 S
   obtain ⟨hc1,h⟩:=Hx h
   refine Na Ji Ex S (S.tm rfl) (i:=2) rfl (S.tm rfl) (j:=0) rfl (ys:=[y2.2]) rfl rfl rfl rfl (by have:=Pq hc1;omega) rfl ?_;clear S;intro v5 a w22 hk16 S
   refine Va S rfl rfl fun a S=>Ld (Jb (Tn ?_))
   obtain rfl:=Option.some.inj h
   exact ⟨Nx x1 sn2,⟨(x4 ++ [y2.2]),v5,sn2,rfl,hn5,S.nf [false,true,true,true,true] rfl (subR rfl)⟩,by have:=hp1.length_eq;rw [hq] at this;simp only [List.length_cons] at this;omega⟩
 clear S h;rintro a w19 ⟨x4,v4,h,S⟩;rw [hj4] at h;clear hj4 j4
 refine Tn (Fr (Vm S rfl rfl ?_));clear S;intro a S
 obtain ⟨r2,hr3,h⟩:=Eu h
 refine Kt 0 S rfl (fun _=>.own v4 3 1 r2.length (r2.flatMap eInt)) (fun _=>Dg (vs:=[v4]) ⟨(S.tm rfl),trivial⟩ call42) (Sa _ v4 x4 (S.holds _ (List.mem_of_getElem? (i:=0) rfl)) _ hr3) rfl (fun _ _ _ h=>⟨h.1,fun _ hc=>hc⟩) ?_;clear S;intro v6 a w23 hv4 hk17 hn6 S
 replace hv4:=hv4.2
 subst hv4
 refine Dz (Vm S rfl rfl ?_);clear S;intro a S
 obtain ⟨r3,hr4,h⟩:=Eu h
 refine Kt 0 S rfl (fun _=>.own v4 3 1 r3.length (r3.flatMap eInt)) (fun _=>Dg (vs:=[v4]) ⟨(S.tm rfl),trivial⟩ call43) (Qi _ v4 r2 (S.holds _ (List.mem_of_getElem? (i:=0) rfl)) _ hr4) rfl (fun _ _ _ h=>⟨h.1,fun _ hc=>hc⟩) ?_;clear S;intro v7 a w24 hv5 hk18 hn7 S
 replace hv5:=hv5.2
 subst hv5
 refine Dz (Vk S rfl rfl fun a S=>Dl (Fs (Fr (Vm S rfl rfl ?_))));clear S;intro a S
 refine lv S (Iv isAgg3 (off:=0) (o:=0) (S.tm rfl) ((Rb Cx).at S.emb0) rfl) rfl fun a S=>Vm S rfl rfl fun a S=>lv S (Gh Ji (S.tm rfl) (Ob (S.own_at (i:=0) rfl))) rfl fun a S=>Vb S Wz rfl rfl rfl ?_;clear S;intro a S
 obtain ⟨φ1,hl2,hs1,S⟩:=S.freezeT (xs:=r3) (enc:=eInt) (i:=0) rfl (fun _ h=>by cases h)
 replace S:=S.nk [.map b2 (En Value.string (Value.int .i64) x1) x1.length,.blk b1 [iV 0,iV 0] 54] [(3,.pointer (some ⟨Bh,0,none⟩)),(5,.pointer (some ⟨b1,0,none⟩)),(9,v4),(12,iV 0),(63,v4),(65,v4),(67,v4),(68,iV Cc),(69,v4),(70,iV (r3.length : Int)),(71,iV (On Cc (r3.length : Int)))] [] rfl (subR rfl)
 obtain ⟨hc2,h⟩:=Hx h
 obtain ⟨v8,hs2,hr5⟩:=CP (a:=a) (x:=.tmp 67) (y':=.tmp 71) (ty:=22) Ji (Hi Ex hs1) (S.tm rfl) (S.tm rfl) hc2
 refine lv S (hr5 _) rfl ?_;clear S;intro a S
 clear hr5
 refine lv S (Gh Ji (S.tm rfl) (Hr hs2)) rfl fun a S=>lv S (Rm rfl) rfl fun a S=>Dl ?_
 replace S:=(S.nl [.blk b1 [iV 0,iV 0] 54] [false,true] rfl).k5 5 12 72 73 74 rfl
 obtain ⟨j5,hj5,h⟩:=Fk h
 refine Er (fun a w'=>∃ x5 : Int,j5 x5 = some r ∧ Sx w [] φ1 [.blk b1 [iV 0,iV 0] 54] [(5,.pointer (some ⟨b1,0,none⟩)),(12,iV x5)] 84 a w') ?_ ?_
 ·refine wp_block (Gz (fun (ys3 : List Int) a w'=>∃ i3 : Nat,∃ x5 : Int,(∃ dn,cut r3 0 (On Cc (r3.length : Int)) = dn ++ ys3 ∧ dn.length = i3) ∧ Ew j5 ys3 i3 x5 = some r ∧ Sx w [] φ1 [.blk b1 [iV 0,iV 0] 54] [(5,.pointer (some ⟨b1,0,none⟩)),(12,iV x5),(72,v8),(73,iV ((cut r3 0 (On Cc (r3.length : Int))).length : Int)),(74,iV (i3 : Int))] 84 a w') List.length (cut r3 0 (On Cc (r3.length : Int))) ⟨0,0,⟨[],rfl,rfl⟩,h,S.nf [true] rfl (subR rfl)⟩ ?_)
  clear S h;rintro ys3 a w25 ⟨i3,x5,⟨dn,hd2,hi2⟩,h,S⟩
  cases ys3 with
  | nil =>
   rw [Ew.eq_1] at h
   refine Fr (Vb S Fi rfl rfl rfl fun a S=>Ld ?_)
   replace S:=S.k6 5 12 72 73 74 75 rfl
   exact Tn (Fs (wp_cond_false ((S.tm rfl).trans (congrArg Value.bool (Kq hd2 hi2))) (wp_exit (Ek (Ek (Ha (Tn (⟨x5,h,S.nf [true] rfl (subR rfl)⟩))))))))
  | cons y3 ys3 =>
   rw [Ew.eq_2] at h
   refine Fr (Vb S Fi rfl rfl rfl fun a S=>Ld ?_)
   replace S:=S.k6 5 12 72 73 74 75 rfl
   refine Tn (Fs (wp_cond_true ((S.tm rfl).trans (congrArg Value.bool (Jm hd2 hi2))) (wp_skip (Tn (Fs (wp_block (Fs (Fg ?_))))))))
   obtain ⟨b7,o2,hm2,hr6⟩:=Hs (a:=a) (x:=.tmp 72) (y:=.tmp 74) (ty:=0) Ji hs2 (Kd hd2 hi2) rfl (S.tm rfl) (S.tm rfl)
   refine lv S (hr6 _) rfl ?_;clear S;intro a S
   clear hr6
   refine lv S (Iv isAgg3 (off:=o2) (o:=0) (S.tm rfl) (hm2.at S.emb) rfl) rfl fun a S=>Va S rfl rfl fun a S=>Dl (Fg (Vm S rfl rfl fun a S=>Vm S rfl rfl fun a S=>Vb S Gb rfl rfl rfl fun a S=>Va S rfl rfl fun a S=>Ld (Jb ?_)))
   exact Tn (Fg (Vq S Gb rfl rfl rfl fun a S=>Vm S rfl rfl fun a S=>Dl (⟨ys3,⟨i3 + 1,W (x5 + y3),⟨_,(hd2).trans (List.append_cons _ _ _),by simp [hi2]⟩,h,S.nf [true] rfl ⟨rfl,rfl,rfl,rfl,(congrArg (fun z=>some (Value.int .i64 z)) (Jn hd2 hi2 (Ky hs2))),trivial⟩⟩,Nat.lt_succ_self _⟩)))
 clear S h;rintro a w26 ⟨x5,h,S⟩;rw [hj5] at h;clear hj5 j5
 refine Tn (Fr (Vm S rfl rfl fun a S=>lv S (Pv bt_54 (pv:=[(0,iV x5),(1,iV 1)]) ⟨rfl,(S.tm rfl),rfl,rfl,trivial⟩ (cs:=[iV x5,iV 1]) (by kernel_rfl)) rfl fun a S=>Hk S (S.tm rfl) (S.tm rfl) (i:=0) (off:=0) rfl sizeOf54 (vs:=[iV x5,iV 1]) rfl rfl rfl rfl ?_));clear S;intro w27 hk19 S
 refine Dl (wp_ret ?_)
 obtain rfl:=Option.some.inj h
 exact f_retG S (rs:=[.cell 5 54]) (vs:=[.agg #[iV x5,iV 1]]) results41 ⟨(CR (off:=0) S rfl isAgg54 sizeOf54 rfl (S.cellsAt (i:=0) rfl)),trivial⟩ rfl rfl
theorem Lz (w : World) (At : Value) (Bk : List ByteArray) (Cw : (LEnt.own At 9 1 Bk.length (Bk.flatMap Kx)).holds w) (Bq : Nat) (Cd : Value) (Ch : List Dm) (Cy : Slc (view w (At.ownBlock.toList)) 3 Cd (Ch.map Dm.enc)) (Cr : (view w (At.ownBlock.toList)) Bq = some (.cells [Cd].toArray 30 (0,0))) (Br : Nat) (Ce : Value) (Ci : List Dw) (Cz : Slc (view w (At.ownBlock.toList)) 2 Ce (Ci.map Dw.enc)) (Cs : (view w (At.ownBlock.toList)) Br = some (.cells [Ce].toArray 26 (0,0))) (Bs : Nat) (Cj : Int) (Ct : (view w (At.ownBlock.toList)) Bs = some (.cells [iV Cj].toArray 3 (0,0))) (r : (List De)) (h : Hb Bk Ch Ci Cj = some r) :
    Calls prog 40 [At,.func (.func 41) #[] #[.pointer (some ⟨Bq,0,none⟩),.pointer (some ⟨Br,0,none⟩),.pointer (some ⟨Bs,0,none⟩)]].toArray w (Ret w (At.ownBlock.toList) fun τ v _=>Pc τ 56 3 v r.length (r.flatMap De.enc)):=by
 refine Jd (At.ownBlock.toList) [.own At 9 1 Bk.length (Bk.flatMap Kx)] func40 rfl ntmps40 rfl (fun e he=>by simp only [List.mem_singleton] at he;subst he;exact Cw) (Ho _) (Iw _) fun a S=>?_
 unfold Hb at h
 replace S:=(S.nl [.own At 9 1 Bk.length (Bk.flatMap Kx)] [true] rfl).k2 0 1 rfl
 refine Fr (Vk S rfl rfl fun a S=>Dz (Vm S rfl rfl ?_));clear S;intro a S
 obtain ⟨r1,hr1,h⟩:=Eu h
 refine Kt 0 S rfl (fun _=>.own At 9 1 r1.length (r1.flatMap Kx)) (fun _=>Dg (vs:=[At]) ⟨(S.tm rfl),trivial⟩ call54) (Qh _ At Bk (S.holds _ (List.mem_of_getElem? (i:=0) rfl)) _ hr1) rfl (fun _ _ _ h=>⟨h.1,fun _ hc=>hc⟩) ?_;clear S;intro v1 a w1 hv1 hk1 hn1 S
 replace hv1:=hv1.2
 subst hv1
 refine Dz (Vk S rfl rfl ?_);clear S;intro a S
 replace S:=S.nil 56 3
 refine Dl (Fs (Fr (Vm S rfl rfl ?_)));clear S;intro a S
 obtain ⟨r2,hr2,h⟩:=Eu h
 have hz1:=S.keep.size
 refine Kt 1 S rfl (fun v2=>.own v2 9 1 r2.length (r2.flatMap Kx)) (fun _=>Dg (vs:=[At]) ⟨(S.tm rfl),trivial⟩ call55) (Oz _ At r1 (S.holds _ (List.mem_of_getElem? (i:=1) rfl)) _ hr2) rfl (fun _ _ _ h=>⟨h.1,fun _ hc=>h.2.symm.trans hc⟩) ?_;clear S;intro v2 a w2 hv2 hk2 hn2 S
 replace hv2:=hv2.2
 refine lv S (Gh Mn (S.tm rfl) (Ob (S.own_at (i:=1) rfl))) rfl fun a S=>lv S (Rm rfl) rfl fun a S=>Dl ?_
 replace S:=(S.nl [.own (.slice none 0 0) 56 3 ([] : List De).length (([] : List De).flatMap De.enc),.own v2 9 1 r2.length (r2.flatMap Kx)] [true,true] rfl).k5 1 5 11 12 13 rfl
 have hm1:=Zo (S.own_at (i:=1) rfl)
 obtain ⟨j1,hj1,h⟩:=Fk h
 refine Er (fun a w'=>∃ x1 : List De,∃ v3 : Value,j1 x1 = some r ∧ Sx w (At.ownBlock.toList) nov [.own v3 56 3 x1.length (x1.flatMap De.enc),.own v2 9 1 r2.length (r2.flatMap Kx)] [(5,v3)] 27 a w') ?_ ?_
 ·refine wp_block (Gz (fun (ys1 : List ByteArray) a w'=>∃ i1 : Nat,∃ x1 : List De,∃ v3 : Value,(∃ dn,r2 = dn ++ ys1 ∧ dn.length = i1) ∧ Du Ch Ci Cj j1 ys1 i1 x1 = some r ∧ Sx w (At.ownBlock.toList) nov [.own v3 56 3 x1.length (x1.flatMap De.enc),.own v2 9 1 r2.length (r2.flatMap Kx)] [(1,.func (.func 41) #[] #[.pointer (some ⟨Bq,0,none⟩),.pointer (some ⟨Br,0,none⟩),.pointer (some ⟨Bs,0,none⟩)]),(5,v3),(11,v2),(12,iV (r2.length : Int)),(13,iV (i1 : Int))] 27 a w') List.length r2 ⟨0,([] : List De),(.slice none 0 0),⟨[],rfl,rfl⟩,h,S.nf [true,true] rfl (subR rfl)⟩ ?_)
  clear S h;rintro ys1 a w3 ⟨i1,x1,v3,⟨dn,hd1,hi1⟩,h,S⟩
  cases ys1 with
  | nil =>
   rw [Du.eq_1] at h
   refine Fr (Vb S Fi rfl rfl rfl fun a S=>Ld ?_)
   replace S:=S.k6 1 5 11 12 13 14 rfl
   exact Tn (Fs (wp_cond_false ((S.tm rfl).trans (congrArg Value.bool (Kq hd1 hi1))) (wp_exit (Ek (Ek (Ha (Tn (⟨x1,v3,h,S.nf [true,true] rfl ⟨rfl,trivial⟩⟩))))))))
  | cons y1 ys1 =>
   rw [Du.eq_2] at h
   refine Fr (Vb S Fi rfl rfl rfl fun a S=>Ld ?_)
   replace S:=S.k6 1 5 11 12 13 14 rfl
   refine Tn (Fs (wp_cond_true ((S.tm rfl).trans (congrArg Value.bool (Jm hd1 hi1))) (wp_skip (Tn (Fs (wp_block (Fs (Fg ?_))))))))
   obtain ⟨b1,hg1,hr3⟩:=Gg (a:=a) (x:=.tmp 11) (y:=.tmp 13) (ty:=0) Mn He S (i:=1) rfl (Kd hd1 hi1) rfl (S.tm rfl) (S.tm rfl)
   refine lv S (hr3 _) rfl ?_;clear S;intro a S
   clear hr3
   refine lv S (Iv isAgg9 (off:=i1 * 1) (o:=0) (S.tm rfl) (Mm He S (i:=1) rfl hg1 (Kd hd1 hi1)) rfl) rfl fun a S=>Va S rfl rfl fun a S=>Dl (Fg ?_)
   iterate 4 (refine Vm S rfl rfl ?_;clear S;intro a S)
   obtain ⟨r3,hr4,h⟩:=Eu h
   refine Ea S (fun _=>Qx (cap:=[.pointer (some ⟨Bq,0,none⟩),.pointer (some ⟨Br,0,none⟩),.pointer (some ⟨Bs,0,none⟩)]) (S.tm rfl) (vs:=[sV y1]) ⟨(S.tm rfl),trivial⟩ call41) (Pn _ y1 Bq Cd Ch (Cy.mono (S.le_arg Gi)) ((S.le_arg Gi) _ _ Cr) Br Ce Ci (Cz.mono (S.le_arg Gi)) ((S.le_arg Gi) _ _ Cs) Bs Cj ((S.le_arg Gi) _ _ Ct) _ hr4) rfl ?_;clear S;intro v4 a w5 hv3 hk3 hn3 S
   subst hv3
   refine lv S (Pv bt_56 (pv:=[(0,sV y1),(1,.agg (Di.enc r3).toArray)]) ⟨rfl,(S.tm rfl),rfl,(S.tm rfl),trivial⟩ (cs:=[sV y1,iV r3.Num,iV r3.Den]) (by kernel_rfl)) rfl fun a S=>El S underlying37 sizeOf56 zeroValue56 rfl rfl (pv:=[(0,.agg #[sV y1,iV r3.Num,iV r3.Den])]) ⟨rfl,(S.tm rfl),trivial⟩ (cs:=[sV y1,iV r3.Num,iV r3.Den]) (by kernel_rfl) rfl ?_;clear S;intro a w6 b2 hz2 hk4 S
   obtain ⟨hc1,h⟩:=Hx h
   refine Na Ou De.enc_ok S (S.tm rfl) (i:=1) rfl (S.tm rfl) (j:=0) rfl (ys:=[(De.mk y1 r3)]) rfl rfl rfl rfl (by have:=Pq hc1;omega) rfl ?_;clear S;intro v5 a w7 hk5 S
   refine Va S rfl rfl fun a S=>Ld ?_
   replace S:=(S.nl [.own v5 56 3 (x1 ++ [(De.mk y1 r3)]).length ((x1 ++ [(De.mk y1 r3)]).flatMap De.enc),.own v2 9 1 r2.length (r2.flatMap Kx)] [false,true,true] rfl).k5 1 5 11 12 13 rfl
   exact Jb (Tn (Fg (Vq S Gb rfl rfl rfl fun a S=>Vm S rfl rfl fun a S=>Dl (⟨ys1,⟨i1 + 1,(x1 ++ [(De.mk y1 r3)]),v5,⟨_,(hd1).trans (List.append_cons _ _ _),by simp [hi1]⟩,h,S.nf [true,true] rfl ⟨rfl,rfl,rfl,rfl,(congrArg (fun z=>some (Value.int .i64 z)) (Jn hd1 hi1 hm1)),trivial⟩⟩,Nat.lt_succ_self _⟩))))
 clear S h;rintro a w4 ⟨x1,v3,h,S⟩;rw [hj1] at h;clear hj1 j1
 refine Tn (Fr (Vm S rfl rfl fun a S=>Va S rfl rfl fun a S=>Dl (wp_ret ?_)))
 obtain rfl:=Option.some.inj h
 exact Fj S results40 rfl (Ur S (i:=0) rfl (fun c hc hh=>Le (i:=1) (j:=0) S rfl rfl rfl c hh (by rw [← hv2] at hc;exact hc)))
theorem Qq (w : World) (Ab : Value) (Ag : List Dw) (Ah : Slc (view w []) 2 Ab (Ag.map Dw.enc)) (Bd : Value) (Be : List Dm) (Bj : Slc (view w []) 3 Bd (Be.map Dm.enc)) (Ap : Int) (r : (List De)) (h : It Ag Be Ap = some r) :
    Calls prog 19 [Ab,Bd,iV Ap].toArray w (Ret w [] fun τ v _=>Pc τ 56 3 v r.length (r.flatMap De.enc)):=by
 refine Fe func19 rfl ntmps19 rfl fun a S=>?_
 unfold It at h
 replace S:=S.k3 0 1 2 rfl
 refine Fr (Uo S (S.tm rfl) (cs:=[Ab]) (Mz.cells (Hr Ah)) rfl ?_);clear S;intro a w1 b1 hz1 hk1 S
 refine Uo S (S.tm rfl) (cs:=[Bd]) (Mz.cells (Hr Bj)) rfl ?_;clear S;intro a w2 b2 hz2 hk2 S
 refine Uo S (S.tm rfl) (cs:=[iV Ap]) rfl rfl ?_;clear S;intro a w3 b3 hz3 hk3 S
 refine Vk S rfl rfl fun a S=>Dz (Vk S rfl rfl ?_);clear S;intro a S
 replace S:=S.nil 9 1
 refine Dl (Fs (Fr (Vl isAgg30 2 S rfl rfl rfl rfl fun a S=>lv S (Gh Pi (S.tm rfl) (Hr Bj)) rfl fun a S=>lv S (Rm rfl) rfl fun a S=>Dl ?_)))
 replace S:=(S.nl [.own (.slice none 0 0) 9 1 ([] : List ByteArray).length (([] : List ByteArray).flatMap Kx),.blk b3 [iV Ap] 3,.blk b2 [Bd] 30,.blk b1 [Ab] 26] [true,true,true,true] rfl).k7 3 4 5 7 10 11 12 rfl
 obtain ⟨j1,hj1,h⟩:=Fk h
 refine Er (fun a w'=>∃ x1 : List ByteArray,∃ v1 : Value,j1 x1 = some r ∧ Sx w [] nov [.own v1 9 1 x1.length (x1.flatMap Kx),.blk b3 [iV Ap] 3,.blk b2 [Bd] 30,.blk b1 [Ab] 26] [(3,.pointer (some ⟨b1,0,none⟩)),(4,.pointer (some ⟨b2,0,none⟩)),(5,.pointer (some ⟨b3,0,none⟩)),(7,v1)] 25 a w') ?_ ?_
 ·refine wp_block (Gz (fun (ys1 : List Dm) a w'=>∃ i1 : Nat,∃ x1 : List ByteArray,∃ v1 : Value,(∃ dn,Be = dn ++ ys1 ∧ dn.length = i1) ∧ Fm j1 ys1 i1 x1 = some r ∧ Sx w [] nov [.own v1 9 1 x1.length (x1.flatMap Kx),.blk b3 [iV Ap] 3,.blk b2 [Bd] 30,.blk b1 [Ab] 26] [(3,.pointer (some ⟨b1,0,none⟩)),(4,.pointer (some ⟨b2,0,none⟩)),(5,.pointer (some ⟨b3,0,none⟩)),(7,v1),(10,Bd),(11,iV (Be.length : Int)),(12,iV (i1 : Int))] 25 a w') List.length Be ⟨0,([] : List ByteArray),(.slice none 0 0),⟨[],rfl,rfl⟩,h,S.nf [true,true,true,true] rfl (subR rfl)⟩ ?_)
  clear S h;rintro ys1 a w4 ⟨i1,x1,v1,⟨dn,hd1,hi1⟩,h,S⟩
  cases ys1 with
  | nil =>
   rw [Fm.eq_1] at h
   refine Fr (Vb S Fi rfl rfl rfl fun a S=>Ld ?_)
   replace S:=S.k8 3 4 5 7 10 11 12 13 rfl
   exact Tn (Fs (wp_cond_false ((S.tm rfl).trans (congrArg Value.bool (Kq hd1 hi1))) (wp_exit (Ek (Ek (Ha (Tn (⟨x1,v1,h,S.nf [true,true,true,true] rfl (subR rfl)⟩))))))))
  | cons y1 ys1 =>
   rw [Fm.eq_2] at h
   refine Fr (Vb S Fi rfl rfl rfl fun a S=>Ld ?_)
   replace S:=S.k8 3 4 5 7 10 11 12 13 rfl
   refine Tn (Fs (wp_cond_true ((S.tm rfl).trans (congrArg Value.bool (Jm hd1 hi1))) (wp_skip (Tn (Fs (wp_block (Fs (Fg ?_))))))))
   obtain ⟨b4,o1,hm1,hr1⟩:=Hs (a:=a) (x:=.tmp 10) (y:=.tmp 12) (ty:=0) Pi Bj (Kd hd1 hi1) rfl (S.tm rfl) (S.tm rfl)
   refine lv S (hr1 _) rfl ?_;clear S;intro a S
   clear hr1
   refine lv S (Kk isAgg64 sizeOf64 (off:=o1) (o:=0) (part:=(Dm.enc y1)) rfl rfl (S.tm rfl) (hm1.at S.emb0)) rfl fun a S=>Ko S zeroValue64 (cs:=[sV Ec,sV Ec,iV 0]) rfl rfl ?_;clear S;intro a w6 b5 hz4 hk4 S
   refine Hk S (S.tm rfl) (S.tm rfl) (i:=0) (off:=0) rfl sizeOf64 (vs:=(Dm.enc y1)) rfl rfl rfl rfl ?_;clear S;intro w7 hk5 S
   refine Dl (Fg (Vm S rfl rfl fun a S=>Vf Nl S rfl rfl fun a S=>Vl isAgg9 0 S rfl rfl rfl rfl fun a S=>El S underlying59 sizeOf9 zeroValue9 rfl rfl (pv:=[(0,sV y1.Who)]) ⟨rfl,(S.tm rfl),trivial⟩ (cs:=[sV y1.Who]) (by kernel_rfl) rfl ?_));clear S;intro a w8 b6 hz5 hk6 S
   obtain ⟨hc1,h⟩:=Hx h
   refine Na Mn He S (S.tm rfl) (i:=2) rfl (S.tm rfl) (j:=0) rfl (ys:=[y1.Who]) rfl rfl rfl rfl (by have:=Pq hc1;omega) rfl ?_;clear S;intro v2 a w9 hk7 S
   refine Va S rfl rfl fun a S=>Ld ?_
   replace S:=(S.nl [.own v2 9 1 (x1 ++ [y1.Who]).length ((x1 ++ [y1.Who]).flatMap Kx),.blk b3 [iV Ap] 3,.blk b2 [Bd] 30,.blk b1 [Ab] 26] [false,false,true,true,true,true] rfl).k7 3 4 5 7 10 11 12 rfl
   exact Jb (Tn (Fg (Vq S Gb rfl rfl rfl fun a S=>Vm S rfl rfl fun a S=>Dl (⟨ys1,⟨i1 + 1,(x1 ++ [y1.Who]),v2,⟨_,(hd1).trans (List.append_cons _ _ _),by simp [hi1]⟩,h,S.nf [true,true,true,true] rfl ⟨rfl,rfl,rfl,rfl,rfl,rfl,(congrArg (fun z=>some (Value.int .i64 z)) (Jn hd1 hi1 (Ky Bj))),trivial⟩⟩,Nat.lt_succ_self _⟩))))
 clear S h;rintro a w5 ⟨x1,v1,h,S⟩;rw [hj1] at h;clear hj1 j1
 refine Tn (Fr (Vm S rfl rfl fun a S=>lv S (Tp (us:=#[]) (xs:=[].toArray) (ys:=[.tmp 4,.tmp 3,.tmp 5].toArray) (by simp) (evA ⟨(S.tm rfl),(S.tm rfl),(S.tm rfl),trivial⟩ (vs:=[.pointer (some ⟨b2,0,none⟩),.pointer (some ⟨b1,0,none⟩),.pointer (some ⟨b3,0,none⟩)]))) rfl ?_));clear S;intro a S
 obtain ⟨r1,hr2,h⟩:=Eu h
 have hz6:=S.keep.size
 refine Kt 0 S rfl (fun _=>.own (.slice none 0 0) 9 1 ([] : List ByteArray).length (([] : List ByteArray).flatMap Kx)) (fun _=>Dg (vs:=[v1,.func (.func 41) #[] #[.pointer (some ⟨b2,0,none⟩),.pointer (some ⟨b1,0,none⟩),.pointer (some ⟨b3,0,none⟩)]]) ⟨(S.tm rfl),(S.tm rfl),trivial⟩ call40) (Lz _ v1 x1 (S.holds _ (List.mem_of_getElem? (i:=0) rfl)) b2 Bd Be (Bj.mono (S.le_arg (Ht (i:=0) (e:=.own v1 9 1 x1.length (x1.flatMap Kx)) rfl))) (S.blk_view (i:=2) rfl ((Le (i:=0) (j:=2) (e:=.own v1 9 1 x1.length (x1.flatMap Kx)) (e':=.blk b2 [Bd] 30) S rfl rfl rfl) _ rfl)) b1 Ab Ag (Ah.mono (S.le_arg (Ht (i:=0) (e:=.own v1 9 1 x1.length (x1.flatMap Kx)) rfl))) (S.blk_view (i:=3) rfl ((Le (i:=0) (j:=3) (e:=.own v1 9 1 x1.length (x1.flatMap Kx)) (e':=.blk b1 [Ab] 26) S rfl rfl rfl) _ rfl)) b3 Ap (S.blk_view (i:=1) rfl ((Le (i:=0) (j:=1) (e:=.own v1 9 1 x1.length (x1.flatMap Kx)) (e':=.blk b3 [iV Ap] 3) S rfl rfl rfl) _ rfl)) _ hr2) rfl (fun _ _ _ _=>⟨own_nil,fun _ hc=>by cases hc⟩) ?_;clear S;intro v3 a w10 hv1 hk8 hn1 S
 replace hn1:=hn1.setNil (T:=9) (k:=1) 0
 obtain ⟨φ1,hl1,hm2,S⟩:=S.see' hn1 hz6
 have hs1:=hv1.mono hm2
 refine Va S rfl rfl fun a S=>Dl (wp_ret ?_)
 obtain rfl:=Option.some.inj h
 exact Fj S results19 rfl ((hs1).mono S.le_newer)
set_option maxRecDepth 20000 in
theorem Qj (w : World) (Co : Value) (Cp : List De) (Ca : Slc (view w []) 3 Co (Cp.map De.enc)) (Cq : Value) (Cf : List De) (Cv : Slc (view w []) 3 Cq (Cf.map De.enc)) (r : Bool) (h : Ka Cp Cf = some r) :
    Calls prog 21 [Co,Cq].toArray w (Ret w [] fun _ v _=>v = bV r):=by
 refine Fe func21 rfl ntmps21 rfl fun a S=>?_
 unfold Ka at h
 replace S:=S.k2 0 1 rfl
 refine Fr (Vk S rfl rfl fun a S=>Dl (Fs (Fr (Vm S rfl rfl fun a S=>lv S (Gh Ou (S.tm rfl) (Hr Ca)) rfl fun a S=>Vm S rfl rfl ?_))));clear S;intro a S
 refine lv S (Gh Ou (S.tm rfl) (Hr Cv)) rfl fun a S=>Vb S Ru rfl rfl rfl fun a S=>Dl (Fc h (S.tm rfl) (fun hb1 h=>?_) (fun hb1 h=>?_))
 ·refine Fr (Vk S rfl rfl fun a S=>Dl (wp_ret (Dy ?_)))
  obtain rfl:=Option.some.inj h
  exact Fj S results21 rfl rfl
 ·refine wp_skip (Tn (Fs (Fr (Vm S rfl rfl fun a S=>lv S (Gh Ou (S.tm rfl) (Hr Ca)) rfl fun a S=>lv S (Rm rfl) rfl fun a S=>Dl ?_))))
  replace S:=S.k4 0 1 12 13 rfl
  obtain ⟨j1,hj1,h⟩:=Fk h
  refine Er (fun a w'=>j1 = some r ∧ Sx w [] nov [] [] 26 a w') ?_ ?_
  ·refine wp_block (Gz (fun (ys1 : List De) a w'=>∃ i1 : Nat,(∃ dn,Cp = dn ++ ys1 ∧ dn.length = i1) ∧ Gf Cf j1 ys1 i1 = some r ∧ Sx w [] nov [] [(0,Co),(1,Cq),(12,iV (Cp.length : Int)),(13,iV (i1 : Int))] 26 a w') List.length Cp ⟨0,⟨[],rfl,rfl⟩,h,S.nf [] rfl (subR rfl)⟩ ?_)
   clear S h;rintro ys1 a w1 ⟨i1,⟨dn,hd1,hi1⟩,h,S⟩
   cases ys1 with
   | nil =>
    rw [Gf.eq_1] at h
    refine Fr (Vb S Fi rfl rfl rfl fun a S=>Ld ?_)
    replace S:=S.k5 0 1 12 13 14 rfl
    exact Tn (Fs (wp_cond_false ((S.tm rfl).trans (congrArg Value.bool (Kq hd1 hi1))) (wp_exit (Ek (Ek (Ha (Tn (⟨h,S.nf [] rfl trivial⟩))))))))
   | cons y1 ys1 =>
    rw [Gf.eq_2] at h
    refine Fr (Vb S Fi rfl rfl rfl fun a S=>Ld ?_)
    replace S:=S.k5 0 1 12 13 14 rfl
    refine Tn (Fs (wp_cond_true ((S.tm rfl).trans (congrArg Value.bool (Jm hd1 hi1))) (wp_skip (Tn (Fs (wp_block (Fr (Vm S rfl rfl fun a S=>Va S rfl rfl ?_))))))));clear S;intro a S
    refine Dl (Fs (Hy [] ([]) Tryz.mixed S rfl (by kernel_rfl) ?_));clear S;intro w3 hk1 hsel S
    refine Nb [0,1,2,3,4,5,6,7,8] hsel (by kernel_rfl) rfl ?_
    clear hsel
    refine Gs S rfl (Rm (S.tm rfl)) rfl fun a S=>Gs S rfl (Rm (S.tm rfl)) rfl ?_;clear S;intro a S
    obtain ⟨b1,o1,hm1,hr1⟩:=Hs (a:=a) (x:=.tmp 16) (y:=.tmp 17) (ty:=0) Ou Ca (Kd hd1 hi1) rfl (S.tm rfl) (S.tm rfl)
    refine Gs S rfl (hr1 _) rfl ?_;clear S;intro a S
    clear hr1
    refine Gs S rfl (Kk isAgg56 sizeOf56 (off:=o1) (o:=0) (part:=(De.enc y1)) rfl rfl (S.tm rfl) (hm1.at S.emb0)) rfl fun a S=>Gs S rfl (Rm (S.tm rfl)) rfl fun a S=>Gs S rfl (Rm (S.tm rfl)) rfl ?_;clear S;intro a S
    obtain ⟨hc1,h⟩:=Hx h
    obtain ⟨b2,o2,hm2,hr2⟩:=Hs (a:=a) (x:=.tmp 20) (y:=.tmp 21) (ty:=0) Ou Cv (Dv hc1).1 (Dv hc1).2 (S.tm rfl) (S.tm rfl)
    refine Gs S rfl (hr2 _) rfl ?_;clear S;intro a S
    clear hr2
    refine Gs S rfl (Kk isAgg56 sizeOf56 (off:=o2) (o:=0) (part:=(De.enc (De.mk ((nth Cf (i1 : Int)).Key) ((nth Cf (i1 : Int)).Points)))) rfl rfl (S.tm rfl) (hm2.at S.emb0)) rfl fun a S=>Gs S rfl (BO (m:=y1) (n:=(De.mk ((nth Cf (i1 : Int)).Key) ((nth Cf (i1 : Int)).Points))) (S.tm rfl) (S.tm rfl)) rfl fun a S=>Mi ?_
    replace S:=S.k5 0 1 12 13 24 rfl
    refine Tn (Fc h (S.tm rfl) (fun hb2 h=>?_) (fun hb2 h=>?_))
    ·refine Fr (Vk S rfl rfl fun a S=>Dl (wp_ret (Hj (Dy (Dy (Hj (Dy ?_)))))))
     refine Dy ?_
     obtain rfl:=Option.some.inj h
     exact Fj S results21 rfl rfl
    ·exact wp_skip (Jb (Tn (Fg (Vq S Gb rfl rfl rfl fun a S=>Vm S rfl rfl fun a S=>Dl (⟨ys1,⟨i1 + 1,⟨_,(hd1).trans (List.append_cons _ _ _),by simp [hi1]⟩,h,S.nf [] rfl ⟨rfl,rfl,rfl,(congrArg (fun z=>some (Value.int .i64 z)) (Jn hd1 hi1 (Ky Ca))),trivial⟩⟩,Nat.lt_succ_self _⟩)))))
  clear S h;rintro a w2 ⟨h,S⟩;rw [hj1] at h;clear hj1 j1
  refine Tn (Fr (Vk S rfl rfl fun a S=>Dl (wp_ret ?_)))
  obtain rfl:=Option.some.inj h
  exact Fj S results21 rfl rfl
theorem Rl (w : World) (r : Bool) (h : Lv = some r) :
    Calls prog 22 [].toArray w (Ret w [] fun _ v _=>v = bV r):=by
 refine Fe func22 rfl ntmps22 rfl fun a S=>?_
 unfold Lv at h
 replace S:=S.k0
 refine Fr (Vk S rfl rfl fun a S=>Dz (lv S (Pv bt_45 (pv:=[(0,sV k_r),(1,iV 3000)]) ⟨rfl,rfl,rfl,rfl,trivial⟩ (cs:=[sV k_r,iV 3000]) (by kernel_rfl)) rfl fun a S=>El S underlying26 sizeOf45 zeroValue45 rfl rfl (pv:=[(0,.agg #[sV k_r,iV 3000])]) ⟨rfl,(S.tm rfl),trivial⟩ (cs:=[sV k_r,iV 3000]) (by kernel_rfl) rfl ?_));clear S;intro a w1 b1 hz1 hk1 S
 obtain ⟨r1,hr1,h⟩:=Eu h
 refine Ea S (fun _=>Dg (vs:=[.slice (some ⟨b1,0,none⟩) 1 1,sV k_r,iV 6000]) ⟨(S.tm rfl),rfl,rfl,trivial⟩ call8) (Pk _ (.slice (some ⟨b1,0,none⟩) 1 1) [(Dw.mk k_r 3000)] (Hz Dw.enc_ok S (i:=0) rfl rfl rfl rfl ((Ir (e':=.blk b1 [sV k_r,iV 3000] 45)) _ rfl)) k_r 6000 _ hr1) rfl ?_;clear S;intro v1 a w2 hv1 hk2 hn1 S
 subst hv1
 refine Vm S rfl rfl fun a S=>Vq S Es rfl rfl rfl fun a S=>Vq S Es rfl rfl rfl fun a S=>Va S rfl rfl fun a S=>Va S rfl rfl fun a S=>Dz (Vm S rfl rfl fun a S=>Vq S Kh rfl rfl rfl ?_);clear S;intro a S
 refine Vm S rfl rfl fun a S=>Ii 3 (fun a w'=>Keep [] w2 w' ∧ Sx w [] nov [.blk b1 [sV k_r,iV 3000] 45] [(14,bV ((decide (r1.2 = 0)) && (decide (r1.1 = 125))))] 15 a w') ?_ ?_
 ·rcases Bool.eq_false_or_eq_true (decide (r1.2 = 0)) with hb1 | hb1
  ·exact Dx S rfl rfl rfl hb1 (Vm S rfl rfl fun a S=>Dx S rfl rfl rfl hb1 (Vq S Kh rfl rfl rfl fun a S=>lv S (Hm hb1 (S.tm rfl) (S.tm rfl)) rfl fun a S=>Dl (⟨Keep.refl _ _,S.nf [true] rfl ⟨rfl,trivial⟩⟩)))
  ·exact Hh S rfl rfl rfl (Kl hb1) rfl (fun a S=>Hh S rfl rfl rfl (Kl hb1) rfl (fun a S=>lv S (Hn (decide (r1.1 = 125)) hb1 (S.tm rfl) rfl) rfl fun a S=>Dl (⟨Keep.refl _ _,S.nf [true] rfl ⟨rfl,trivial⟩⟩)) rfl) rfl
 clear S;rintro a w3 ⟨hk3,S⟩
 refine Va S rfl rfl fun a S=>Dl (wp_ret ?_)
 obtain rfl:=Option.some.inj h
 exact Fj S results22 rfl rfl
theorem Nv (w : World) (Ab : Value) (Ag : List Int) (Ah : Slc (view w []) 1 Ab (Ag.map eInt)) (r : Bool) (h : Ja Ag = some r) :
    Calls prog 3 [Ab].toArray w (Ret w [] fun _ v _=>v = bV r):=by
 refine Fe func3 rfl ntmps3 rfl fun a S=>?_
 unfold Ja at h
 replace S:=S.k1 0 rfl
 refine Fr (Vk S rfl rfl fun a S=>Dz (Vm S rfl rfl ?_));clear S;intro a S
 refine lv S (Pv bt_25 (pv:=[(0,Ab)]) ⟨rfl,(S.tm rfl),trivial⟩ (cs:=[Ab,iV 0]) (by obtain ⟨_,_,hv⟩:=(Hr Ah);rw [hv];clear hv;kernel_rfl)) rfl ?_;clear S;intro a S
 refine Uo S (S.tm rfl) (cs:=[Ab,iV 0]) rfl rfl ?_;clear S;intro a w1 b1 hz1 hk1 S
 refine Va S rfl rfl fun a S=>Dz (Vm S rfl rfl ?_);clear S;intro a S
 obtain ⟨r1,hr1,h⟩:=Eu h
 have hz2:=S.keep.size
 refine Ga 0 S (b:=b1) rfl rfl (fun _=>.blk b1 [Ab,iV r1.2] 25) (fun _=>Dg (vs:=[.pointer (some ⟨b1,0,none⟩)]) ⟨(S.tm rfl),trivial⟩ call4) (Tz _ b1 Ab Ag (Ah.mono (S.le_arg (Ht (i:=0) (e:=.blk b1 [Ab,iV 0] 25) rfl))) 0 (S.holds _ (List.mem_of_getElem? (i:=0) rfl)) _ hr1) rfl (fun _ _ _ h=>⟨h.1,fun _ hc=>by cases hc;rfl⟩) ?_;clear S;intro v1 a w2 hv1 hk2 hn1 S
 replace hv1:=hv1.2
 obtain ⟨φ1,hl1,hm1,S⟩:=S.see' hn1 hz2
 have hs1:=hv1.mono hm1
 refine Vm S rfl rfl fun a S=>El S underlying59 sizeOf9 zeroValue9 rfl rfl (pv:=[(0,sV Kz),(1,sV Mb),(2,sV Rj)]) ⟨rfl,rfl,rfl,rfl,rfl,rfl,trivial⟩ (cs:=[sV Kz,sV Mb,sV Rj]) (by kernel_rfl) rfl ?_;clear S;intro a w3 b2 hz3 hk3 S
 obtain ⟨r2,hr2,h⟩:=Eu h
 refine Ga 1 S (b:=b1) rfl rfl (fun _=>.blk b1 [Ab,iV r2.2] 25) (fun _=>Dg (vs:=[.pointer (some ⟨b1,0,none⟩),.slice (some ⟨b2,0,none⟩) 3 3]) ⟨(S.tm rfl),(S.tm rfl),trivial⟩ call5) (Ie _ b1 Ab Ag (Ah.mono (S.le_arg (Ht (i:=1) (e:=.blk b1 [Ab,iV r1.2] 25) rfl))) r1.2 (S.holds _ (List.mem_of_getElem? (i:=1) rfl)) (.slice (some ⟨b2,0,none⟩) 3 3) [Kz,Mb,Rj] (Hz He S (i:=0) rfl rfl rfl rfl ((Le (i:=1) (j:=0) (e:=.blk b1 [Ab,iV r1.2] 25) (e':=.blk b2 [sV Kz,sV Mb,sV Rj] 9) S rfl rfl rfl) _ rfl)) _ hr2) rfl (fun _ _ _ h=>⟨h.1,fun _ hc=>by cases hc;rfl⟩) ?_;clear S;intro v2 a w4 hv2 hk4 hn2 S
 replace hv2:=hv2.2
 subst hv2
 refine Vm S rfl rfl fun a S=>El S underlying22 sizeOf3 zeroValue3 rfl rfl (pv:=[(0,iV 1),(1,iV 2),(2,iV 1999),(3,iV 2000),(4,iV 3000),(5,iV 4567),(6,iV 360000),(7,iV 0),(8,iV 360001)]) ⟨rfl,rfl,rfl,rfl,rfl,rfl,rfl,rfl,rfl,rfl,rfl,rfl,rfl,rfl,rfl,rfl,rfl,rfl,trivial⟩ (cs:=[iV 1,iV 2,iV 1999,iV 2000,iV 3000,iV 4567,iV 360000,iV 0,iV 360001]) (by kernel_rfl) rfl ?_;clear S;intro a w5 b3 hz4 hk5 S
 obtain ⟨r3,hr3,h⟩:=Eu h
 refine Ga 2 S (b:=b1) rfl rfl (fun _=>.blk b1 [Ab,iV r3.2] 25) (fun _=>Dg (vs:=[.pointer (some ⟨b1,0,none⟩),.slice (some ⟨b3,0,none⟩) 9 9]) ⟨(S.tm rfl),(S.tm rfl),trivial⟩ call6) (Ku _ b1 Ab Ag (Ah.mono (S.le_arg (Ht (i:=2) (e:=.blk b1 [Ab,iV r2.2] 25) rfl))) r2.2 (S.holds _ (List.mem_of_getElem? (i:=2) rfl)) (.slice (some ⟨b3,0,none⟩) 9 9) [1,2,1999,2000,3000,4567,360000,0,360001] (Hz Ex S (i:=0) rfl rfl rfl rfl ((Le (i:=2) (j:=0) (e:=.blk b1 [Ab,iV r2.2] 25) (e':=.blk b3 [iV 1,iV 2,iV 1999,iV 2000,iV 3000,iV 4567,iV 360000,iV 0,iV 360001] 3) S rfl rfl rfl) _ rfl)) _ hr3) rfl (fun _ _ _ h=>⟨h.1,fun _ hc=>by cases hc;rfl⟩) ?_;clear S;intro v3 a w6 hv3 hk6 hn3 S
 replace hv3:=hv3.2
 subst hv3
 refine Vm S rfl rfl fun a S=>El S underlying22 sizeOf3 zeroValue3 rfl rfl (pv:=[(0,iV 1),(1,iV 2),(2,iV 3),(3,iV 100),(4,iV 0),(5,iV 101)]) ⟨rfl,rfl,rfl,rfl,rfl,rfl,rfl,rfl,rfl,rfl,rfl,rfl,trivial⟩ (cs:=[iV 1,iV 2,iV 3,iV 100,iV 0,iV 101]) (by kernel_rfl) rfl ?_;clear S;intro a w7 b4 hz5 hk7 S
 obtain ⟨r4,hr4,h⟩:=Eu h
 refine Ga 3 S (b:=b1) rfl rfl (fun _=>.blk b1 [Ab,iV r4.2] 25) (fun _=>Dg (vs:=[.pointer (some ⟨b1,0,none⟩),.slice (some ⟨b4,0,none⟩) 6 6]) ⟨(S.tm rfl),(S.tm rfl),trivial⟩ call6) (Ku _ b1 Ab Ag (Ah.mono (S.le_arg (Ht (i:=3) (e:=.blk b1 [Ab,iV r3.2] 25) rfl))) r3.2 (S.holds _ (List.mem_of_getElem? (i:=3) rfl)) (.slice (some ⟨b4,0,none⟩) 6 6) [1,2,3,100,0,101] (Hz Ex S (i:=0) rfl rfl rfl rfl ((Le (i:=3) (j:=0) (e:=.blk b1 [Ab,iV r3.2] 25) (e':=.blk b4 [iV 1,iV 2,iV 3,iV 100,iV 0,iV 101] 3) S rfl rfl rfl) _ rfl)) _ hr4) rfl (fun _ _ _ h=>⟨h.1,fun _ hc=>by cases hc;rfl⟩) ?_;clear S;intro v4 a w8 hv4 hk8 hn4 S
 replace hv4:=hv4.2
 subst hv4
 refine Ko S zeroValue9 (cs:=[sV Ec]) rfl rfl ?_;clear S;intro a w9 b5 hz6 hk9 S
 refine Va S rfl rfl fun a S=>Hk S (S.tm rfl) (S.tm rfl) (i:=0) (off:=0) rfl sizeOf9 (vs:=[sV r2.1]) rfl rfl rfl rfl ?_;clear S;intro w10 hk10 S
 refine Va S rfl rfl fun a S=>Va S rfl rfl fun a S=>Ld ?_
 replace S:=(S.nl [.blk b5 [sV r2.1] 9,.blk b1 [Ab,iV r4.2] 25] [true,false,false,false,true] rfl).k5 3 4 5 6 7 rfl
 refine Tn (Fr (Vm S rfl rfl fun a S=>El S underlying22 sizeOf3 zeroValue3 rfl rfl (pv:=[(0,iV 1),(1,iV 125),(2,iV 999),(3,iV 1000),(4,iV 1001),(5,iV 1000000),(6,iV 0),(7,iV 1000001)]) ⟨rfl,rfl,rfl,rfl,rfl,rfl,rfl,rfl,rfl,rfl,rfl,rfl,rfl,rfl,rfl,rfl,trivial⟩ (cs:=[iV 1,iV 125,iV 999,iV 1000,iV 1001,iV 1000000,iV 0,iV 1000001]) (by kernel_rfl) rfl ?_));clear S;intro a w11 b6 hz7 hk11 S
 obtain ⟨r5,hr5,h⟩:=Eu h
 refine Ga 2 S (b:=b1) rfl rfl (fun _=>.blk b1 [Ab,iV r5.2] 25) (fun _=>Dg (vs:=[.pointer (some ⟨b1,0,none⟩),.slice (some ⟨b6,0,none⟩) 8 8]) ⟨(S.tm rfl),(S.tm rfl),trivial⟩ call6) (Ku _ b1 Ab Ag (Ah.mono (S.le_arg (Ht (i:=2) (e:=.blk b1 [Ab,iV r4.2] 25) rfl))) r4.2 (S.holds _ (List.mem_of_getElem? (i:=2) rfl)) (.slice (some ⟨b6,0,none⟩) 8 8) [1,125,999,1000,1001,1000000,0,1000001] (Hz Ex S (i:=0) rfl rfl rfl rfl ((Le (i:=2) (j:=0) (e:=.blk b1 [Ab,iV r4.2] 25) (e':=.blk b6 [iV 1,iV 125,iV 999,iV 1000,iV 1001,iV 1000000,iV 0,iV 1000001] 3) S rfl rfl rfl) _ rfl)) _ hr5) rfl (fun _ _ _ h=>⟨h.1,fun _ hc=>by cases hc;rfl⟩) ?_;clear S;intro v5 a w12 hv5 hk12 hn5 S
 replace hv5:=hv5.2
 subst hv5
 refine Vm S rfl rfl ?_;clear S;intro a S
 obtain ⟨r6,hr6,h⟩:=Eu h
 have hz8:=S.keep.size
 refine Ga 2 S (b:=b1) rfl rfl (fun _=>.blk b1 [Ab,iV r6.2] 25) (fun _=>Dg (vs:=[.pointer (some ⟨b1,0,none⟩)]) ⟨(S.tm rfl),trivial⟩ call7) (Ua _ b1 Ab Ag (Ah.mono (S.le_arg (Ht (i:=2) (e:=.blk b1 [Ab,iV r5.2] 25) rfl))) r5.2 (S.holds _ (List.mem_of_getElem? (i:=2) rfl)) _ hr6) rfl (fun _ _ _ h=>⟨h.1,fun _ hc=>by cases hc;rfl⟩) ?_;clear S;intro v6 a w13 hv6 hk13 hn6 S
 replace hv6:=hv6.2
 obtain ⟨φ2,hl2,hm2,S⟩:=S.see' hn6 hz8
 have hs2:=hv6.mono hm2
 refine Va S rfl rfl fun a S=>Va S rfl rfl fun a S=>Dz (Vm S rfl rfl fun a S=>Vl isAgg9 1 S rfl rfl rfl rfl fun a S=>Vm S rfl rfl ?_);clear S;intro a S
 obtain ⟨r7,hr7,h⟩:=Eu h
 refine Ea S (fun _=>Dg (vs:=[v1,sV r2.1,iV r3.1]) ⟨(S.tm rfl),(S.tm rfl),(S.tm rfl),trivial⟩ call8) (Pk _ v1 r1.1 ((Hi Dw.enc_ok hs1).mono (View.le_trans hl2 (S.le_new Gi))) r2.1 r3.1 _ hr7) rfl ?_;clear S;intro v7 a w14 hv7 hk14 hn7 S
 subst hv7
 refine Vm S rfl rfl fun a S=>Vq S Es rfl rfl rfl fun a S=>Vq S Es rfl rfl rfl fun a S=>Va S rfl rfl fun a S=>Va S rfl rfl fun a S=>Ld ?_
 replace S:=(S.nl [.blk b5 [sV r2.1] 9] [false,true,false] rfl).k8 4 5 6 7 8 9 10 11 rfl
 refine Tn (Fr (Vm S rfl rfl fun a S=>Vl isAgg9 0 S rfl rfl rfl rfl fun a S=>Vm S rfl rfl ?_));clear S;intro a S
 obtain ⟨r8,hr8,h⟩:=Eu h
 refine Ea S (fun _=>Dg (vs:=[v1,sV r2.1,iV r5.1]) ⟨(S.tm rfl),(S.tm rfl),(S.tm rfl),trivial⟩ call9) (Sp _ v1 r1.1 ((Hi Dw.enc_ok hs1).mono (View.le_trans hl2 (S.le_new Gi))) r2.1 r5.1 _ hr8) rfl ?_;clear S;intro v8 a w15 hv8 hk15 hn8 S
 subst hv8
 refine Vm S rfl rfl ?_;clear S;intro a S
 iterate 3 (refine Vq S Es rfl rfl rfl ?_;clear S;intro a S)
 iterate 3 (refine Va S rfl rfl ?_;clear S;intro a S)
 refine Ld ?_
 replace S:=S.k11 4 5 6 7 8 9 10 11 12 13 14 rfl
 refine Tn (Fs (Fg ?_))
 iterate 3 (refine Vm S rfl rfl ?_;clear S;intro a S)
 obtain ⟨r9,hr9,h⟩:=Eu h
 have hz9:=S.keep.size
 refine Ea S (fun _=>Dg (vs:=[v1,v6,iV r4.1]) ⟨(S.tm rfl),(S.tm rfl),(S.tm rfl),trivial⟩ call10) (Ti _ v1 r1.1 ((Hi Dw.enc_ok hs1).mono (View.le_trans hl2 (S.le_new Gi))) v6 r6.1 ((Hi Dm.enc_ok hs2).mono (S.le_new Gi)) r4.1 _ hr9) rfl ?_;clear S;intro v9 a w16 hv9 hk16 hn9 S
 obtain ⟨u3,rfl,ho3⟩:=hv9
 obtain ⟨φ3,hl3,hm3,S⟩:=S.see' hn9 hz9
 have hs3:=ho3.mono hm3
 refine Vm S rfl rfl fun a S=>Vq S Es rfl rfl rfl fun a S=>Vq S Es rfl rfl rfl fun a S=>Va S rfl rfl fun a S=>Va S rfl rfl fun a S=>Ld ?_
 replace S:=S.k13 4 5 6 7 8 9 10 11 12 13 14 15 16 rfl
 refine Tn (Fr (Vm S rfl rfl ?_));clear S;intro a S
 obtain ⟨r10,hr10,h⟩:=Eu h
 refine Ea S (fun _=>Dg (vs:=[v1]) ⟨(S.tm rfl),trivial⟩ call12) (Lj _ v1 r1.1 ((Hi Dw.enc_ok hs1).mono (View.le_trans (View.le_trans hl2 hl3) (S.le_new Gi))) _ hr10) rfl ?_;clear S;intro v10 a w17 hv10 hk17 hn10 S
 subst hv10
 refine Vm S rfl rfl fun a S=>lv S (Tp (us:=#[]) (xs:=[].toArray) (ys:=[.tmp 5].toArray) (by simp) (evA ⟨(S.tm rfl),trivial⟩ (vs:=[.pointer (some ⟨b5,0,none⟩)]))) rfl fun a S=>Ea S (fun _=>Dg (vs:=[v1,.func (.func 15) #[] #[.pointer (some ⟨b5,0,none⟩)]]) ⟨(S.tm rfl),(S.tm rfl),trivial⟩ call14) (Jj _ v1 r1.1 ((Hi Dw.enc_ok hs1).mono (View.le_trans (View.le_trans hl2 hl3) (S.le_new Gi))) b5 r2.1 (S.blk_view (i:=0) rfl ((Ir (e':=.blk b5 [sV r2.1] 9)) _ rfl)) _ rfl) rfl ?_;clear S;intro v11 a w18 hv11 hk18 hn11 S
 subst hv11
 refine Vu S Li rfl rfl fun a S=>Ea S (fun _=>Dg (vs:=[bV (!(An r1.1 r2.1)),iV 8]) ⟨(S.tm rfl),rfl,trivial⟩ call13) (Lx _ (!(An r1.1 r2.1)) 8 _ rfl) rfl ?_;clear S;intro v12 a w19 hv12 hk19 hn12 S
 subst hv12
 refine El S underlying74 sizeOf32 zeroValue32 rfl rfl (pv:=[(0,iV r10),(1,iV (Dc (!(An r1.1 r2.1)) 8))]) ⟨rfl,(S.tm rfl),rfl,(S.tm rfl),trivial⟩ (cs:=[iV r10,iV (Dc (!(An r1.1 r2.1)) 8)]) (by kernel_rfl) rfl ?_;clear S;intro a w20 b7 hz10 hk20 S
 refine Ea S (fun _=>Dg (vs:=[.slice (some ⟨b7,0,none⟩) 2 2]) ⟨(S.tm rfl),trivial⟩ call11) (Ly _ (.slice (some ⟨b7,0,none⟩) 2 2) [r10,(Dc (!(An r1.1 r2.1)) 8)] (Hz Ex S (i:=0) rfl rfl rfl rfl ((Ir (e':=.blk b7 [iV r10,iV (Dc (!(An r1.1 r2.1)) 8)] 32)) _ rfl)) _ rfl) rfl ?_;clear S;intro v13 a w21 hv13 hk21 hn13 S
 subst hv13
 refine Va S rfl rfl fun a S=>Ld ?_
 replace S:=(S.nl [.blk b5 [sV r2.1] 9] [false,true] rfl).k14 4 5 6 7 8 9 10 11 12 13 14 15 16 17 rfl
 refine Tn (Fr (Vm S rfl rfl fun a S=>Vm S rfl rfl fun a S=>Vq S Fi rfl rfl rfl fun a S=>Vm S rfl rfl fun a S=>Ii 3 (fun a w'=>Keep [] w21 w' ∧ Sx w [] φ3 [.blk b5 [sV r2.1] 9] [(4,v1),(5,.pointer (some ⟨b5,0,none⟩)),(6,iV r3.1),(7,iV r4.1),(8,iV r5.1),(9,v6),(10,iV r7.1),(11,iV r7.2),(12,iV r8.1),(13,bV r8.2.1),(14,iV r8.2.2),(15,u3),(16,iV r9.2),(17,iV (Dd [r10,(Dc (!(An r1.1 r2.1)) 8)])),(75,iV (Dd [r10,(Dc (!(An r1.1 r2.1)) 8)])),(81,bV ((decide (r3.1 < 1)) || (decide (360000 < r3.1))))] 172 a w') ?_ ?_))
 ·rcases Bool.eq_false_or_eq_true (decide (r3.1 < 1)) with hb1 | hb1
  ·exact Hh S rfl rfl rfl (Pb hb1) rfl (fun a S=>Hh S rfl rfl rfl (Pb hb1) rfl (fun a S=>lv S (Nz (decide (360000 < r3.1)) hb1 (S.tm rfl) rfl) rfl fun a S=>Dl (⟨Keep.refl _ _,S.nf [true] rfl (subR rfl)⟩)) rfl) rfl
  ·exact Dx S rfl rfl rfl hb1 (Vm S rfl rfl fun a S=>Dx S rfl rfl rfl hb1 (Vq S Ki rfl rfl rfl fun a S=>lv S (Oa hb1 (S.tm rfl) (S.tm rfl)) rfl fun a S=>Dl (⟨Keep.refl _ _,S.nf [true] rfl (subR rfl)⟩)))
 clear S;rintro a w22 ⟨hk22,S⟩
 refine Ea S (fun _=>Dg (vs:=[bV ((decide (r3.1 < 1)) || (decide (360000 < r3.1))),iV 1]) ⟨(S.tm rfl),rfl,trivial⟩ call13) (Lx _ ((decide (r3.1 < 1)) || (decide (360000 < r3.1))) 1 _ rfl) rfl ?_;clear S;intro v14 a w23 hv14 hk23 hn14 S
 subst hv14
 refine El S underlying74 sizeOf32 zeroValue32 rfl rfl (pv:=[(0,iV (Dd [r10,(Dc (!(An r1.1 r2.1)) 8)])),(1,iV (Dc ((decide (r3.1 < 1)) || (decide (360000 < r3.1))) 1))]) ⟨rfl,(S.tm rfl),rfl,(S.tm rfl),trivial⟩ (cs:=[iV (Dd [r10,(Dc (!(An r1.1 r2.1)) 8)]),iV (Dc ((decide (r3.1 < 1)) || (decide (360000 < r3.1))) 1)]) (by kernel_rfl) rfl ?_;clear S;intro a w24 b8 hz11 hk24 S
 refine Ea S (fun _=>Dg (vs:=[.slice (some ⟨b8,0,none⟩) 2 2]) ⟨(S.tm rfl),trivial⟩ call11) (Ly _ (.slice (some ⟨b8,0,none⟩) 2 2) [(Dd [r10,(Dc (!(An r1.1 r2.1)) 8)]),(Dc ((decide (r3.1 < 1)) || (decide (360000 < r3.1))) 1)] (Hz Ex S (i:=0) rfl rfl rfl rfl ((Ir (e':=.blk b8 [iV (Dd [r10,(Dc (!(An r1.1 r2.1)) 8)]),iV (Dc ((decide (r3.1 < 1)) || (decide (360000 < r3.1))) 1)] 32)) _ rfl)) _ rfl) rfl ?_;clear S;intro v15 a w25 hv15 hk25 hn15 S
 subst hv15
 refine Vm S rfl rfl fun a S=>Vm S rfl rfl fun a S=>Vq S Fi rfl rfl rfl fun a S=>Vm S rfl rfl fun a S=>Ii 3 (fun a w'=>Keep [] w25 w' ∧ Sx w [] φ3 [.blk b8 [iV (Dd [r10,(Dc (!(An r1.1 r2.1)) 8)]),iV (Dc ((decide (r3.1 < 1)) || (decide (360000 < r3.1))) 1)] 32,.blk b5 [sV r2.1] 9] [(4,v1),(5,.pointer (some ⟨b5,0,none⟩)),(6,iV r3.1),(7,iV r4.1),(8,iV r5.1),(9,v6),(10,iV r7.1),(11,iV r7.2),(12,iV r8.1),(13,bV r8.2.1),(14,iV r8.2.2),(15,u3),(16,iV r9.2),(84,iV (Dd [(Dd [r10,(Dc (!(An r1.1 r2.1)) 8)]),(Dc ((decide (r3.1 < 1)) || (decide (360000 < r3.1))) 1)])),(85,iV (Dd [r10,(Dc (!(An r1.1 r2.1)) 8)])),(91,bV ((decide (r5.1 < 1)) || (decide (1000000 < r5.1))))] 172 a w') ?_ ?_
 ·rcases Bool.eq_false_or_eq_true (decide (r5.1 < 1)) with hb2 | hb2
  ·exact Hh S rfl rfl rfl (Pb hb2) rfl (fun a S=>Hh S rfl rfl rfl (Pb hb2) rfl (fun a S=>lv S (Nz (decide (1000000 < r5.1)) hb2 (S.tm rfl) rfl) rfl fun a S=>Dl (⟨Keep.refl _ _,S.nf [true,true] rfl (subR rfl)⟩)) rfl) rfl
  ·exact Dx S rfl rfl rfl hb2 (Vm S rfl rfl fun a S=>Dx S rfl rfl rfl hb2 (Vq S Ki rfl rfl rfl fun a S=>lv S (Oa hb2 (S.tm rfl) (S.tm rfl)) rfl fun a S=>Dl (⟨Keep.refl _ _,S.nf [true,true] rfl (subR rfl)⟩)))
 clear S;rintro a w26 ⟨hk26,S⟩
 refine Ea S (fun _=>Dg (vs:=[bV ((decide (r5.1 < 1)) || (decide (1000000 < r5.1))),iV 1]) ⟨(S.tm rfl),rfl,trivial⟩ call13) (Lx _ ((decide (r5.1 < 1)) || (decide (1000000 < r5.1))) 1 _ rfl) rfl ?_;clear S;intro v16 a w27 hv16 hk27 hn16 S
 subst hv16
 refine El S underlying74 sizeOf32 zeroValue32 rfl rfl (pv:=[(0,iV (Dd [r10,(Dc (!(An r1.1 r2.1)) 8)])),(1,iV (Dc ((decide (r5.1 < 1)) || (decide (1000000 < r5.1))) 1))]) ⟨rfl,(S.tm rfl),rfl,(S.tm rfl),trivial⟩ (cs:=[iV (Dd [r10,(Dc (!(An r1.1 r2.1)) 8)]),iV (Dc ((decide (r5.1 < 1)) || (decide (1000000 < r5.1))) 1)]) (by kernel_rfl) rfl ?_;clear S;intro a w28 b9 hz12 hk28 S
 refine Ea S (fun _=>Dg (vs:=[.slice (some ⟨b9,0,none⟩) 2 2]) ⟨(S.tm rfl),trivial⟩ call11) (Ly _ (.slice (some ⟨b9,0,none⟩) 2 2) [(Dd [r10,(Dc (!(An r1.1 r2.1)) 8)]),(Dc ((decide (r5.1 < 1)) || (decide (1000000 < r5.1))) 1)] (Hz Ex S (i:=0) rfl rfl rfl rfl ((Ir (e':=.blk b9 [iV (Dd [r10,(Dc (!(An r1.1 r2.1)) 8)]),iV (Dc ((decide (r5.1 < 1)) || (decide (1000000 < r5.1))) 1)] 32)) _ rfl)) _ rfl) rfl ?_;clear S;intro v17 a w29 hv17 hk29 hn17 S
 subst hv17
 refine Va S rfl rfl fun a S=>Va S rfl rfl fun a S=>Ld ?_
 replace S:=(S.nl [.blk b5 [sV r2.1] 9] [false,false,true] rfl).k15 4 5 6 7 8 9 10 11 12 13 14 15 16 18 19 rfl
 refine Tn (Fr (Vm S rfl rfl ?_));clear S;intro a S
 obtain ⟨r11,hr11,h⟩:=Eu h
 refine Ea S (fun _=>Dg (vs:=[v1]) ⟨(S.tm rfl),trivial⟩ call12) (Lj _ v1 r1.1 ((Hi Dw.enc_ok hs1).mono (View.le_trans (View.le_trans hl2 hl3) (S.le_new Gi))) _ hr11) rfl ?_;clear S;intro v18 a w30 hv18 hk30 hn18 S
 subst hv18
 refine Vm S rfl rfl ?_;clear S;intro a S
 obtain ⟨r12,hr12,h⟩:=Eu h
 refine Ea S (fun _=>Dg (vs:=[v6]) ⟨(S.tm rfl),trivial⟩ call16) (Pz _ v6 r6.1 ((Hi Dm.enc_ok hs2).mono (View.le_trans hl3 (S.le_new Gi))) _ hr12) rfl ?_;clear S;intro v19 a w31 hv19 hk31 hn19 S
 subst hv19
 refine Vm S rfl rfl fun a S=>Vq S Fi rfl rfl rfl fun a S=>Vm S rfl rfl fun a S=>Ii 3 (fun a w'=>Keep [] w31 w' ∧ Sx w [] φ3 [.blk b5 [sV r2.1] 9] [(4,v1),(5,.pointer (some ⟨b5,0,none⟩)),(6,iV r3.1),(7,iV r4.1),(8,iV r5.1),(9,v6),(10,iV r7.1),(11,iV r7.2),(12,iV r8.1),(13,bV r8.2.1),(14,iV r8.2.2),(15,u3),(16,iV r9.2),(18,iV (Dd [(Dd [r10,(Dc (!(An r1.1 r2.1)) 8)]),(Dc ((decide (r3.1 < 1)) || (decide (360000 < r3.1))) 1)])),(19,iV (Dd [(Dd [r10,(Dc (!(An r1.1 r2.1)) 8)]),(Dc ((decide (r5.1 < 1)) || (decide (1000000 < r5.1))) 1)])),(96,iV r11),(98,iV r12),(104,bV ((decide (r4.1 < 1)) || (decide (100 < r4.1))))] 172 a w') ?_ ?_
 ·rcases Bool.eq_false_or_eq_true (decide (r4.1 < 1)) with hb3 | hb3
  ·exact Hh S rfl rfl rfl (Pb hb3) rfl (fun a S=>Hh S rfl rfl rfl (Pb hb3) rfl (fun a S=>lv S (Nz (decide (100 < r4.1)) hb3 (S.tm rfl) rfl) rfl fun a S=>Dl (⟨Keep.refl _ _,S.nf [true] rfl (subR rfl)⟩)) rfl) rfl
  ·exact Dx S rfl rfl rfl hb3 (Vm S rfl rfl fun a S=>Dx S rfl rfl rfl hb3 (Vq S Ki rfl rfl rfl fun a S=>lv S (Oa hb3 (S.tm rfl) (S.tm rfl)) rfl fun a S=>Dl (⟨Keep.refl _ _,S.nf [true] rfl (subR rfl)⟩)))
 clear S;rintro a w32 ⟨hk32,S⟩
 refine Ea S (fun _=>Dg (vs:=[bV ((decide (r4.1 < 1)) || (decide (100 < r4.1))),iV 1]) ⟨(S.tm rfl),rfl,trivial⟩ call13) (Lx _ ((decide (r4.1 < 1)) || (decide (100 < r4.1))) 1 _ rfl) rfl ?_;clear S;intro v20 a w33 hv20 hk33 hn20 S
 subst hv20
 refine El S underlying74 sizeOf32 zeroValue32 rfl rfl (pv:=[(0,iV r11),(1,iV r12),(2,iV (Dc ((decide (r4.1 < 1)) || (decide (100 < r4.1))) 1))]) ⟨rfl,(S.tm rfl),rfl,(S.tm rfl),rfl,(S.tm rfl),trivial⟩ (cs:=[iV r11,iV r12,iV (Dc ((decide (r4.1 < 1)) || (decide (100 < r4.1))) 1)]) (by kernel_rfl) rfl ?_;clear S;intro a w34 b10 hz13 hk34 S
 refine Ea S (fun _=>Dg (vs:=[.slice (some ⟨b10,0,none⟩) 3 3]) ⟨(S.tm rfl),trivial⟩ call11) (Ly _ (.slice (some ⟨b10,0,none⟩) 3 3) [r11,r12,(Dc ((decide (r4.1 < 1)) || (decide (100 < r4.1))) 1)] (Hz Ex S (i:=0) rfl rfl rfl rfl ((Ir (e':=.blk b10 [iV r11,iV r12,iV (Dc ((decide (r4.1 < 1)) || (decide (100 < r4.1))) 1)] 32)) _ rfl)) _ rfl) rfl ?_;clear S;intro v21 a w35 hv21 hk35 hn21 S
 subst hv21
 refine Va S rfl rfl fun a S=>Ld ?_
 replace S:=(S.nl [.blk b5 [sV r2.1] 9] [false,true] rfl).k16 4 5 6 7 8 9 10 11 12 13 14 15 16 18 19 20 rfl
 refine Tn (Fs (Fg ?_))
 iterate 3 (refine Vk S rfl rfl ?_;clear S;intro a S)
 refine Ld ?_
 replace S:=S.nk [.blk b5 [sV r2.1] 9] [(4,v1),(5,.pointer (some ⟨b5,0,none⟩)),(6,iV r3.1),(7,iV r4.1),(8,iV r5.1),(9,v6),(10,iV r7.1),(11,iV r7.2),(12,iV r8.1),(13,bV r8.2.1),(14,iV r8.2.2),(15,u3),(16,iV r9.2),(18,iV (Dd [(Dd [r10,(Dc (!(An r1.1 r2.1)) 8)]),(Dc ((decide (r3.1 < 1)) || (decide (360000 < r3.1))) 1)])),(19,iV (Dd [(Dd [r10,(Dc (!(An r1.1 r2.1)) 8)]),(Dc ((decide (r5.1 < 1)) || (decide (1000000 < r5.1))) 1)])),(20,iV (Dd [r11,r12,(Dc ((decide (r4.1 < 1)) || (decide (100 < r4.1))) 1)])),(21,iV 0),(22,iV 0),(23,bV false)] [true] rfl (subR rfl)
 refine Tn (Fs (Fr (Vm S rfl rfl fun a S=>Vq S Kh rfl rfl rfl fun a S=>Ld ?_)))
 replace S:=S.nk [.blk b5 [sV r2.1] 9] [(4,v1),(5,.pointer (some ⟨b5,0,none⟩)),(6,iV r3.1),(7,iV r4.1),(8,iV r5.1),(9,v6),(10,iV r7.1),(11,iV r7.2),(12,iV r8.1),(13,bV r8.2.1),(14,iV r8.2.2),(15,u3),(16,iV r9.2),(18,iV (Dd [(Dd [r10,(Dc (!(An r1.1 r2.1)) 8)]),(Dc ((decide (r3.1 < 1)) || (decide (360000 < r3.1))) 1)])),(19,iV (Dd [(Dd [r10,(Dc (!(An r1.1 r2.1)) 8)]),(Dc ((decide (r5.1 < 1)) || (decide (1000000 < r5.1))) 1)])),(20,iV (Dd [r11,r12,(Dc ((decide (r4.1 < 1)) || (decide (100 < r4.1))) 1)])),(21,iV 0),(22,iV 0),(23,bV false),(109,bV (decide ((Dd [(Dd [r10,(Dc (!(An r1.1 r2.1)) 8)]),(Dc ((decide (r3.1 < 1)) || (decide (360000 < r3.1))) 1)]) = 0)))] [true] rfl (subR rfl)
 refine Tn ?_
 obtain ⟨j1,hj1,h⟩:=Fk h
 refine Er (fun a w'=>∃ x1 : Int,j1 x1 = some r ∧ Sx w [] φ3 [.blk b5 [sV r2.1] 9] [(4,v1),(5,.pointer (some ⟨b5,0,none⟩)),(7,iV r4.1),(8,iV r5.1),(9,v6),(10,iV r7.1),(11,iV r7.2),(12,iV r8.1),(13,bV r8.2.1),(14,iV r8.2.2),(15,u3),(16,iV r9.2),(18,iV (Dd [(Dd [r10,(Dc (!(An r1.1 r2.1)) 8)]),(Dc ((decide (r3.1 < 1)) || (decide (360000 < r3.1))) 1)])),(19,iV (Dd [(Dd [r10,(Dc (!(An r1.1 r2.1)) 8)]),(Dc ((decide (r5.1 < 1)) || (decide (1000000 < r5.1))) 1)])),(20,iV (Dd [r11,r12,(Dc ((decide (r4.1 < 1)) || (decide (100 < r4.1))) 1)])),(21,iV x1),(22,iV 0),(23,bV false)] 172 a w') ?_ ?_
 ·refine Fc h (S.tm rfl) (fun hb4 h=>?_) (fun hb4 h=>?_)
  ·refine Fg (Vm S rfl rfl fun a S=>Vl isAgg9 0 S rfl rfl rfl rfl fun a S=>Vm S rfl rfl ?_);clear S;intro a S
   obtain ⟨r13,hr13,h⟩:=Eu h
   refine Ea S (fun _=>Dg (vs:=[v1,sV r2.1,iV r3.1]) ⟨(S.tm rfl),(S.tm rfl),(S.tm rfl),trivial⟩ call17) (My _ v1 r1.1 ((Hi Dw.enc_ok hs1).mono (View.le_trans (View.le_trans hl2 hl3) (S.le_new Gi))) r2.1 r3.1 _ hr13) rfl ?_;clear S;intro v22 a w37 hv22 hk36 hn22 S
   subst hv22
   refine Va S rfl rfl fun a S=>Ld ?_
   replace S:=S.nk [.blk b5 [sV r2.1] 9] [(4,v1),(5,.pointer (some ⟨b5,0,none⟩)),(7,iV r4.1),(8,iV r5.1),(9,v6),(10,iV r7.1),(11,iV r7.2),(12,iV r8.1),(13,bV r8.2.1),(14,iV r8.2.2),(15,u3),(16,iV r9.2),(18,iV (Dd [(Dd [r10,(Dc (!(An r1.1 r2.1)) 8)]),(Dc ((decide (r3.1 < 1)) || (decide (360000 < r3.1))) 1)])),(19,iV (Dd [(Dd [r10,(Dc (!(An r1.1 r2.1)) 8)]),(Dc ((decide (r5.1 < 1)) || (decide (1000000 < r5.1))) 1)])),(20,iV (Dd [r11,r12,(Dc ((decide (r4.1 < 1)) || (decide (100 < r4.1))) 1)])),(21,iV r13),(22,iV 0),(23,bV false)] [true] rfl (subR rfl)
   exact Tn (⟨r13,h,S.nf [true] rfl (subR rfl)⟩)
  ·exact wp_skip (Tn (⟨0,h,S.nf [true] rfl (subR rfl)⟩))
 clear S h;rintro a w36 ⟨x1,h,S⟩;rw [hj1] at h;clear hj1 j1
 refine Tn (Fs (Fr (Vm S rfl rfl fun a S=>Vq S Kh rfl rfl rfl fun a S=>Ld ?_)))
 replace S:=S.nk [.blk b5 [sV r2.1] 9] [(4,v1),(5,.pointer (some ⟨b5,0,none⟩)),(7,iV r4.1),(8,iV r5.1),(9,v6),(10,iV r7.1),(11,iV r7.2),(12,iV r8.1),(13,bV r8.2.1),(14,iV r8.2.2),(15,u3),(16,iV r9.2),(18,iV (Dd [(Dd [r10,(Dc (!(An r1.1 r2.1)) 8)]),(Dc ((decide (r3.1 < 1)) || (decide (360000 < r3.1))) 1)])),(19,iV (Dd [(Dd [r10,(Dc (!(An r1.1 r2.1)) 8)]),(Dc ((decide (r5.1 < 1)) || (decide (1000000 < r5.1))) 1)])),(20,iV (Dd [r11,r12,(Dc ((decide (r4.1 < 1)) || (decide (100 < r4.1))) 1)])),(21,iV x1),(22,iV 0),(23,bV false),(115,bV (decide ((Dd [(Dd [r10,(Dc (!(An r1.1 r2.1)) 8)]),(Dc ((decide (r5.1 < 1)) || (decide (1000000 < r5.1))) 1)]) = 0)))] [true] rfl (subR rfl)
 refine Tn ?_
 obtain ⟨j2,hj2,h⟩:=Fk h
 refine Er (fun a w'=>∃ x2 : Int,∃ x3 : Bool,j2 x2 x3 = some r ∧ Sx w [] φ3 [] [(4,v1),(7,iV r4.1),(9,v6),(10,iV r7.1),(11,iV r7.2),(12,iV r8.1),(13,bV r8.2.1),(14,iV r8.2.2),(15,u3),(16,iV r9.2),(18,iV (Dd [(Dd [r10,(Dc (!(An r1.1 r2.1)) 8)]),(Dc ((decide (r3.1 < 1)) || (decide (360000 < r3.1))) 1)])),(19,iV (Dd [(Dd [r10,(Dc (!(An r1.1 r2.1)) 8)]),(Dc ((decide (r5.1 < 1)) || (decide (1000000 < r5.1))) 1)])),(20,iV (Dd [r11,r12,(Dc ((decide (r4.1 < 1)) || (decide (100 < r4.1))) 1)])),(21,iV x1),(22,iV x2),(23,bV x3)] 172 a w') ?_ ?_
 ·refine Fc h (S.tm rfl) (fun hb5 h=>?_) (fun hb5 h=>?_)
  ·refine Fg (Vm S rfl rfl fun a S=>Vl isAgg9 0 S rfl rfl rfl rfl fun a S=>Vm S rfl rfl ?_);clear S;intro a S
   obtain ⟨r14,hr14,h⟩:=Eu h
   refine Ea S (fun _=>Dg (vs:=[v1,sV r2.1,iV r5.1]) ⟨(S.tm rfl),(S.tm rfl),(S.tm rfl),trivial⟩ call18) (Rz _ v1 r1.1 ((Hi Dw.enc_ok hs1).mono (View.le_trans (View.le_trans hl2 hl3) (S.le_new Gi))) r2.1 r5.1 _ hr14) rfl ?_;clear S;intro v23 a w39 hv23 hk37 hn23 S
   subst hv23
   refine Vm S rfl rfl fun a S=>Vq S Es rfl rfl rfl fun a S=>Vq S Es rfl rfl rfl fun a S=>Va S rfl rfl fun a S=>Va S rfl rfl fun a S=>Ld ?_
   replace S:=S.n0.k16 4 7 9 10 11 12 13 14 15 16 18 19 20 21 22 23 rfl
   exact Tn (⟨r14.1,r14.2,h,S.nf [] rfl (subR rfl)⟩)
  ·exact wp_skip (Tn (⟨0,false,h,S.nf [false] rfl (subR rfl)⟩))
 clear S h;rintro a w38 ⟨x2,x3,h,S⟩;rw [hj2] at h;clear hj2 j2
 refine Tn (Fr (Vk S rfl rfl fun a S=>Ld ?_))
 replace S:=S.nk [] [(4,v1),(7,iV r4.1),(9,v6),(10,iV r7.1),(11,iV r7.2),(12,iV r8.1),(13,bV r8.2.1),(14,iV r8.2.2),(15,u3),(16,iV r9.2),(18,iV (Dd [(Dd [r10,(Dc (!(An r1.1 r2.1)) 8)]),(Dc ((decide (r3.1 < 1)) || (decide (360000 < r3.1))) 1)])),(19,iV (Dd [(Dd [r10,(Dc (!(An r1.1 r2.1)) 8)]),(Dc ((decide (r5.1 < 1)) || (decide (1000000 < r5.1))) 1)])),(20,iV (Dd [r11,r12,(Dc ((decide (r4.1 < 1)) || (decide (100 < r4.1))) 1)])),(21,iV x1),(22,iV x2),(23,bV x3),(24,.slice none 0 0)] [] rfl (subR rfl)
 refine Tn (Fs (Fr (Vm S rfl rfl fun a S=>Vq S Kh rfl rfl rfl fun a S=>Ld ?_)))
 replace S:=S.nk [] [(4,v1),(7,iV r4.1),(9,v6),(10,iV r7.1),(11,iV r7.2),(12,iV r8.1),(13,bV r8.2.1),(14,iV r8.2.2),(15,u3),(16,iV r9.2),(18,iV (Dd [(Dd [r10,(Dc (!(An r1.1 r2.1)) 8)]),(Dc ((decide (r3.1 < 1)) || (decide (360000 < r3.1))) 1)])),(19,iV (Dd [(Dd [r10,(Dc (!(An r1.1 r2.1)) 8)]),(Dc ((decide (r5.1 < 1)) || (decide (1000000 < r5.1))) 1)])),(20,iV (Dd [r11,r12,(Dc ((decide (r4.1 < 1)) || (decide (100 < r4.1))) 1)])),(21,iV x1),(22,iV x2),(23,bV x3),(24,.slice none 0 0),(124,bV (decide ((Dd [r11,r12,(Dc ((decide (r4.1 < 1)) || (decide (100 < r4.1))) 1)]) = 0)))] [] rfl (subR rfl)
 refine Tn ?_
 obtain ⟨j3,hj3,h⟩:=Fk h
 refine Er (fun a w'=>∃ x4 : List De,∃ φ4 : View,∃ v24 : Value,j3 x4 = some r ∧ View.le φ3 φ4 ∧ Pc φ4 56 3 v24 x4.length (x4.flatMap De.enc) ∧ Sx w [] φ4 [] [(4,v1),(10,iV r7.1),(11,iV r7.2),(12,iV r8.1),(13,bV r8.2.1),(14,iV r8.2.2),(15,u3),(16,iV r9.2),(18,iV (Dd [(Dd [r10,(Dc (!(An r1.1 r2.1)) 8)]),(Dc ((decide (r3.1 < 1)) || (decide (360000 < r3.1))) 1)])),(19,iV (Dd [(Dd [r10,(Dc (!(An r1.1 r2.1)) 8)]),(Dc ((decide (r5.1 < 1)) || (decide (1000000 < r5.1))) 1)])),(20,iV (Dd [r11,r12,(Dc ((decide (r4.1 < 1)) || (decide (100 < r4.1))) 1)])),(21,iV x1),(22,iV x2),(23,bV x3),(24,v24)] 172 a w') ?_ ?_
 ·refine Fc h (S.tm rfl) (fun hb6 h=>?_) (fun hb6 h=>?_)
  ·refine Fg ?_
   iterate 3 (refine Vm S rfl rfl ?_;clear S;intro a S)
   obtain ⟨r15,hr15,h⟩:=Eu h
   have hz14:=S.keep.size
   refine Ea S (fun _=>Dg (vs:=[v1,v6,iV r4.1]) ⟨(S.tm rfl),(S.tm rfl),(S.tm rfl),trivial⟩ call19) (Qq _ v1 r1.1 ((Hi Dw.enc_ok hs1).mono (View.le_trans (View.le_trans hl2 hl3) (S.le_new Gi))) v6 r6.1 ((Hi Dm.enc_ok hs2).mono (View.le_trans hl3 (S.le_new Gi))) r4.1 _ hr15) rfl ?_;clear S;intro v25 a w41 hv24 hk38 hn24 S
   obtain ⟨φ5,hl5,hm4,S⟩:=S.see' hn24 hz14
   have hs5:=hv24.mono hm4
   refine Va S rfl rfl fun a S=>Ld ?_
   replace S:=S.k15 4 10 11 12 13 14 15 16 18 19 20 21 22 23 24 rfl
   exact Tn (⟨r15,φ5,v25,h,hl5,hs5,S.nf [] rfl (subR rfl)⟩)
  ·exact wp_skip (Tn (⟨([] : List De),φ3,.slice none 0 0,h,(View.le_refl _),(Sj _ _ _),S.nf [] rfl (subR rfl)⟩))
 clear S h;rintro a w40 ⟨x4,φ4,v24,h,hl4,hs4,S⟩;rw [hj3] at h;clear hj3 j3
 refine Tn (Fr (Vm S rfl rfl ?_));clear S;intro a S
 obtain ⟨r16,hr16,h⟩:=Eu h
 refine Ea S (fun _=>Dg (vs:=[v1]) ⟨(S.tm rfl),trivial⟩ call20) (Kr _ v1 r1.1 ((Hi Dw.enc_ok hs1).mono (View.le_trans (View.le_trans (View.le_trans hl2 hl3) hl4) (S.le_new Gi))) _ hr16) rfl ?_;clear S;intro v26 a w42 hv25 hk39 hn25 S
 subst hv25
 refine Vm S rfl rfl ?_;clear S;intro a S
 obtain ⟨r17,hr17,h⟩:=Eu h
 refine Ea S (fun _=>Dg (vs:=[v1]) ⟨(S.tm rfl),trivial⟩ call12) (Lj _ v1 r1.1 ((Hi Dw.enc_ok hs1).mono (View.le_trans (View.le_trans (View.le_trans hl2 hl3) hl4) (S.le_new Gi))) _ hr17) rfl ?_;clear S;intro v27 a w43 hv26 hk40 hn26 S
 subst hv26
 refine Vb S Kh rfl rfl rfl fun a S=>Vm S rfl rfl fun a S=>Ii 4 (fun a w'=>Keep [] w43 w' ∧ Sx w [] φ4 [] [(10,iV r7.1),(12,iV r8.1),(13,bV r8.2.1),(14,iV r8.2.2),(15,u3),(16,iV r9.2),(19,iV (Dd [(Dd [r10,(Dc (!(An r1.1 r2.1)) 8)]),(Dc ((decide (r5.1 < 1)) || (decide (1000000 < r5.1))) 1)])),(20,iV (Dd [r11,r12,(Dc ((decide (r4.1 < 1)) || (decide (100 < r4.1))) 1)])),(21,iV x1),(22,iV x2),(23,bV x3),(24,v24),(138,bV ((decide (r16 = r17)) && (decide (r7.2 = (Dd [(Dd [r10,(Dc (!(An r1.1 r2.1)) 8)]),(Dc ((decide (r3.1 < 1)) || (decide (360000 < r3.1))) 1)])))))] 172 a w') ?_ ?_
 ·rcases Bool.eq_false_or_eq_true (decide (r16 = r17)) with hb7 | hb7
  ·exact Dx S rfl rfl rfl hb7 (Vm S rfl rfl fun a S=>Dx S rfl rfl rfl hb7 (Vm S rfl rfl fun a S=>Dx S rfl rfl rfl hb7 (Vb S Kh rfl rfl rfl fun a S=>lv S (Hm hb7 (S.tm rfl) (S.tm rfl)) rfl fun a S=>Dl (⟨Keep.refl _ _,S.nf [] rfl (subR rfl)⟩))))
  ·iterate 3 (refine Hh S rfl rfl rfl (Kl hb7) rfl ?_ rfl;clear S;intro a S)
   exact lv S (Hn (decide (r7.2 = (Dd [(Dd [r10,(Dc (!(An r1.1 r2.1)) 8)]),(Dc ((decide (r3.1 < 1)) || (decide (360000 < r3.1))) 1)]))) hb7 (S.tm rfl) rfl) rfl fun a S=>Dl (⟨Keep.refl _ _,S.nf [] rfl (subR rfl)⟩)
 clear S;rintro a w44 ⟨hk41,S⟩
 refine Vm S rfl rfl fun a S=>Ii 4 (fun a w'=>Keep [] w44 w' ∧ Sx w [] φ4 [] [(12,iV r8.1),(13,bV r8.2.1),(14,iV r8.2.2),(15,u3),(16,iV r9.2),(19,iV (Dd [(Dd [r10,(Dc (!(An r1.1 r2.1)) 8)]),(Dc ((decide (r5.1 < 1)) || (decide (1000000 < r5.1))) 1)])),(20,iV (Dd [r11,r12,(Dc ((decide (r4.1 < 1)) || (decide (100 < r4.1))) 1)])),(22,iV x2),(23,bV x3),(24,v24),(143,bV (((decide (r16 = r17)) && (decide (r7.2 = (Dd [(Dd [r10,(Dc (!(An r1.1 r2.1)) 8)]),(Dc ((decide (r3.1 < 1)) || (decide (360000 < r3.1))) 1)])))) && (decide (r7.1 = x1))))] 172 a w') ?_ ?_
 ·rcases Bool.eq_false_or_eq_true ((decide (r16 = r17)) && (decide (r7.2 = (Dd [(Dd [r10,(Dc (!(An r1.1 r2.1)) 8)]),(Dc ((decide (r3.1 < 1)) || (decide (360000 < r3.1))) 1)])))) with hb8 | hb8
  ·exact Dx S rfl rfl rfl hb8 (Vm S rfl rfl fun a S=>Dx S rfl rfl rfl hb8 (Vm S rfl rfl fun a S=>Dx S rfl rfl rfl hb8 (Vb S Kh rfl rfl rfl fun a S=>lv S (Hm hb8 (S.tm rfl) (S.tm rfl)) rfl fun a S=>Dl (⟨Keep.refl _ _,S.nf [] rfl (subR rfl)⟩))))
  ·iterate 3 (refine Hh S rfl rfl rfl (Kl hb8) rfl ?_ rfl;clear S;intro a S)
   exact lv S (Hn (decide (r7.1 = x1)) hb8 (S.tm rfl) rfl) rfl fun a S=>Dl (⟨Keep.refl _ _,S.nf [] rfl (subR rfl)⟩)
 clear S;rintro a w45 ⟨hk42,S⟩
 refine Vm S rfl rfl fun a S=>Ii 4 (fun a w'=>Keep [] w45 w' ∧ Sx w [] φ4 [] [(12,iV r8.1),(13,bV r8.2.1),(15,u3),(16,iV r9.2),(20,iV (Dd [r11,r12,(Dc ((decide (r4.1 < 1)) || (decide (100 < r4.1))) 1)])),(22,iV x2),(23,bV x3),(24,v24),(148,bV ((((decide (r16 = r17)) && (decide (r7.2 = (Dd [(Dd [r10,(Dc (!(An r1.1 r2.1)) 8)]),(Dc ((decide (r3.1 < 1)) || (decide (360000 < r3.1))) 1)])))) && (decide (r7.1 = x1))) && (decide (r8.2.2 = (Dd [(Dd [r10,(Dc (!(An r1.1 r2.1)) 8)]),(Dc ((decide (r5.1 < 1)) || (decide (1000000 < r5.1))) 1)])))))] 172 a w') ?_ ?_
 ·rcases Bool.eq_false_or_eq_true (((decide (r16 = r17)) && (decide (r7.2 = (Dd [(Dd [r10,(Dc (!(An r1.1 r2.1)) 8)]),(Dc ((decide (r3.1 < 1)) || (decide (360000 < r3.1))) 1)])))) && (decide (r7.1 = x1))) with hb9 | hb9
  ·exact Dx S rfl rfl rfl hb9 (Vm S rfl rfl fun a S=>Dx S rfl rfl rfl hb9 (Vm S rfl rfl fun a S=>Dx S rfl rfl rfl hb9 (Vb S Kh rfl rfl rfl fun a S=>lv S (Hm hb9 (S.tm rfl) (S.tm rfl)) rfl fun a S=>Dl (⟨Keep.refl _ _,S.nf [] rfl (subR rfl)⟩))))
  ·iterate 3 (refine Hh S rfl rfl rfl (Kl hb9) rfl ?_ rfl;clear S;intro a S)
   exact lv S (Hn (decide (r8.2.2 = (Dd [(Dd [r10,(Dc (!(An r1.1 r2.1)) 8)]),(Dc ((decide (r5.1 < 1)) || (decide (1000000 < r5.1))) 1)]))) hb9 (S.tm rfl) rfl) rfl fun a S=>Dl (⟨Keep.refl _ _,S.nf [] rfl (subR rfl)⟩)
 clear S;rintro a w46 ⟨hk43,S⟩
 refine Vm S rfl rfl fun a S=>Ii 4 (fun a w'=>Keep [] w46 w' ∧ Sx w [] φ4 [] [(13,bV r8.2.1),(15,u3),(16,iV r9.2),(20,iV (Dd [r11,r12,(Dc ((decide (r4.1 < 1)) || (decide (100 < r4.1))) 1)])),(23,bV x3),(24,v24),(153,bV (((((decide (r16 = r17)) && (decide (r7.2 = (Dd [(Dd [r10,(Dc (!(An r1.1 r2.1)) 8)]),(Dc ((decide (r3.1 < 1)) || (decide (360000 < r3.1))) 1)])))) && (decide (r7.1 = x1))) && (decide (r8.2.2 = (Dd [(Dd [r10,(Dc (!(An r1.1 r2.1)) 8)]),(Dc ((decide (r5.1 < 1)) || (decide (1000000 < r5.1))) 1)])))) && (decide (r8.1 = x2))))] 172 a w') ?_ ?_
 ·rcases Bool.eq_false_or_eq_true ((((decide (r16 = r17)) && (decide (r7.2 = (Dd [(Dd [r10,(Dc (!(An r1.1 r2.1)) 8)]),(Dc ((decide (r3.1 < 1)) || (decide (360000 < r3.1))) 1)])))) && (decide (r7.1 = x1))) && (decide (r8.2.2 = (Dd [(Dd [r10,(Dc (!(An r1.1 r2.1)) 8)]),(Dc ((decide (r5.1 < 1)) || (decide (1000000 < r5.1))) 1)])))) with hb10 | hb10
  ·exact Dx S rfl rfl rfl hb10 (Vm S rfl rfl fun a S=>Dx S rfl rfl rfl hb10 (Vm S rfl rfl fun a S=>Dx S rfl rfl rfl hb10 (Vb S Kh rfl rfl rfl fun a S=>lv S (Hm hb10 (S.tm rfl) (S.tm rfl)) rfl fun a S=>Dl (⟨Keep.refl _ _,S.nf [] rfl (subR rfl)⟩))))
  ·iterate 3 (refine Hh S rfl rfl rfl (Kl hb10) rfl ?_ rfl;clear S;intro a S)
   exact lv S (Hn (decide (r8.1 = x2)) hb10 (S.tm rfl) rfl) rfl fun a S=>Dl (⟨Keep.refl _ _,S.nf [] rfl (subR rfl)⟩)
 clear S;rintro a w47 ⟨hk44,S⟩
 refine Vm S rfl rfl fun a S=>Ii 4 (fun a w'=>Keep [] w47 w' ∧ Sx w [] φ4 [] [(15,u3),(16,iV r9.2),(20,iV (Dd [r11,r12,(Dc ((decide (r4.1 < 1)) || (decide (100 < r4.1))) 1)])),(24,v24),(158,bV ((((((decide (r16 = r17)) && (decide (r7.2 = (Dd [(Dd [r10,(Dc (!(An r1.1 r2.1)) 8)]),(Dc ((decide (r3.1 < 1)) || (decide (360000 < r3.1))) 1)])))) && (decide (r7.1 = x1))) && (decide (r8.2.2 = (Dd [(Dd [r10,(Dc (!(An r1.1 r2.1)) 8)]),(Dc ((decide (r5.1 < 1)) || (decide (1000000 < r5.1))) 1)])))) && (decide (r8.1 = x2))) && (decide (r8.2.1 = x3))))] 172 a w') ?_ ?_
 ·rcases Bool.eq_false_or_eq_true (((((decide (r16 = r17)) && (decide (r7.2 = (Dd [(Dd [r10,(Dc (!(An r1.1 r2.1)) 8)]),(Dc ((decide (r3.1 < 1)) || (decide (360000 < r3.1))) 1)])))) && (decide (r7.1 = x1))) && (decide (r8.2.2 = (Dd [(Dd [r10,(Dc (!(An r1.1 r2.1)) 8)]),(Dc ((decide (r5.1 < 1)) || (decide (1000000 < r5.1))) 1)])))) && (decide (r8.1 = x2))) with hb11 | hb11
  ·exact Dx S rfl rfl rfl hb11 (Vm S rfl rfl fun a S=>Dx S rfl rfl rfl hb11 (Vm S rfl rfl fun a S=>Dx S rfl rfl rfl hb11 (lv S (rn_beql underlying4 (S.tm rfl) (S.tm rfl)) rfl fun a S=>lv S (Hm hb11 (S.tm rfl) (S.tm rfl)) rfl fun a S=>Dl (⟨Keep.refl _ _,S.nf [] rfl (subR rfl)⟩))))
  ·iterate 3 (refine Hh S rfl rfl rfl (Kl hb11) rfl ?_ rfl;clear S;intro a S)
   exact lv S (Hn (decide (r8.2.1 = x3)) hb11 (S.tm rfl) rfl) rfl fun a S=>Dl (⟨Keep.refl _ _,S.nf [] rfl (subR rfl)⟩)
 clear S;rintro a w48 ⟨hk45,S⟩
 refine Vm S rfl rfl fun a S=>Ii 4 (fun a w'=>Keep [] w48 w' ∧ Sx w [] φ4 [] [(15,u3),(24,v24),(163,bV (((((((decide (r16 = r17)) && (decide (r7.2 = (Dd [(Dd [r10,(Dc (!(An r1.1 r2.1)) 8)]),(Dc ((decide (r3.1 < 1)) || (decide (360000 < r3.1))) 1)])))) && (decide (r7.1 = x1))) && (decide (r8.2.2 = (Dd [(Dd [r10,(Dc (!(An r1.1 r2.1)) 8)]),(Dc ((decide (r5.1 < 1)) || (decide (1000000 < r5.1))) 1)])))) && (decide (r8.1 = x2))) && (decide (r8.2.1 = x3))) && (decide (r9.2 = (Dd [r11,r12,(Dc ((decide (r4.1 < 1)) || (decide (100 < r4.1))) 1)])))))] 172 a w') ?_ ?_
 ·rcases Bool.eq_false_or_eq_true ((((((decide (r16 = r17)) && (decide (r7.2 = (Dd [(Dd [r10,(Dc (!(An r1.1 r2.1)) 8)]),(Dc ((decide (r3.1 < 1)) || (decide (360000 < r3.1))) 1)])))) && (decide (r7.1 = x1))) && (decide (r8.2.2 = (Dd [(Dd [r10,(Dc (!(An r1.1 r2.1)) 8)]),(Dc ((decide (r5.1 < 1)) || (decide (1000000 < r5.1))) 1)])))) && (decide (r8.1 = x2))) && (decide (r8.2.1 = x3))) with hb12 | hb12
  ·exact Dx S rfl rfl rfl hb12 (Vm S rfl rfl fun a S=>Dx S rfl rfl rfl hb12 (Vm S rfl rfl fun a S=>Dx S rfl rfl rfl hb12 (Vb S Kh rfl rfl rfl fun a S=>lv S (Hm hb12 (S.tm rfl) (S.tm rfl)) rfl fun a S=>Dl (⟨Keep.refl _ _,S.nf [] rfl (subR rfl)⟩))))
  ·iterate 3 (refine Hh S rfl rfl rfl (Kl hb12) rfl ?_ rfl;clear S;intro a S)
   exact lv S (Hn (decide (r9.2 = (Dd [r11,r12,(Dc ((decide (r4.1 < 1)) || (decide (100 < r4.1))) 1)]))) hb12 (S.tm rfl) rfl) rfl fun a S=>Dl (⟨Keep.refl _ _,S.nf [] rfl (subR rfl)⟩)
 clear S;rintro a w49 ⟨hk46,S⟩
 refine Vm S rfl rfl ?_;clear S;intro a S
 obtain ⟨j4,hj4,h⟩:=Fk h
 refine Ii 4 (fun a w'=>∃ c1,j4 c1 = some r ∧ Keep [] w49 w' ∧ Sx w [] φ4 [] [(168,bV c1)] 172 a w') ?_ ?_
 ·rcases Bool.eq_false_or_eq_true (((((((decide (r16 = r17)) && (decide (r7.2 = (Dd [(Dd [r10,(Dc (!(An r1.1 r2.1)) 8)]),(Dc ((decide (r3.1 < 1)) || (decide (360000 < r3.1))) 1)])))) && (decide (r7.1 = x1))) && (decide (r8.2.2 = (Dd [(Dd [r10,(Dc (!(An r1.1 r2.1)) 8)]),(Dc ((decide (r5.1 < 1)) || (decide (1000000 < r5.1))) 1)])))) && (decide (r8.1 = x2))) && (decide (r8.2.1 = x3))) && (decide (r9.2 = (Dd [r11,r12,(Dc ((decide (r4.1 < 1)) || (decide (100 < r4.1))) 1)])))) with hb13 | hb13
  ·replace h:=Sc h hb13
   refine Dx S rfl rfl rfl hb13 (Vm S rfl rfl fun a S=>Dx S rfl rfl rfl hb13 (Vm S rfl rfl fun a S=>Dx S rfl rfl rfl hb13 ?_))
   obtain ⟨r18,hr18,h⟩:=Eu h
   refine Ea S (fun _=>Dg (vs:=[u3,v24]) ⟨(S.tm rfl),(S.tm rfl),trivial⟩ call21) (Qj _ u3 r9.1 ((Hi De.enc_ok hs3).mono (View.le_trans hl4 (S.le_new Gi))) v24 x4 ((Hi De.enc_ok hs4).mono (S.le_new Gi)) _ hr18) rfl ?_;clear S;intro v28 a w51 hv27 hk47 hn27 S
   subst hv27
   exact lv S (Hm hb13 (S.tm rfl) (S.tm rfl)) rfl fun a S=>Dl (⟨_,h,hk47,S.nf [] rfl ⟨rfl,trivial⟩⟩)
  ·replace h:=Sd h hb13
   iterate 3 (refine Hh S rfl rfl rfl (Kl hb13) rfl ?_ rfl;clear S;intro a S)
   exact Vq S (Hn true hb13) rfl rfl rfl fun a S=>Dl (⟨_,h,Keep.refl _ _,S.nf [] rfl ⟨rfl,trivial⟩⟩)
 clear S h;rintro a w50 ⟨c1,h,hk48,S⟩;rw [hj4] at h;clear hj4 j4
 refine Vm S rfl rfl ?_;clear S;intro a S
 obtain ⟨j5,hj5,h⟩:=Fk h
 refine Ii 2 (fun a w'=>∃ c2,j5 c2 = some r ∧ Keep [] w50 w' ∧ Sx w [] φ4 [] [(171,bV c2)] 172 a w') ?_ ?_
 ·rcases Bool.eq_false_or_eq_true c1 with hb14 | hb14
  ·replace h:=Sc h hb14
   refine Dx S rfl rfl rfl hb14 ?_
   obtain ⟨r19,hr19,h⟩:=Eu h
   refine Ea S (fun _=>Dg (vs:=[]) trivial call22) (Rl _ _ hr19) rfl ?_;clear S;intro v29 a w53 hv28 hk49 hn28 S
   subst hv28
   exact lv S (Hm hb14 (S.tm rfl) (S.tm rfl)) rfl fun a S=>Dl (⟨_,h,hk49,S.nf [] rfl ⟨rfl,trivial⟩⟩)
  ·replace h:=Sd h hb14
   exact Hh S rfl rfl rfl (Kl hb14) rfl (fun a S=>Vq S (Hn true hb14) rfl rfl rfl fun a S=>Dl (⟨_,h,Keep.refl _ _,S.nf [] rfl ⟨rfl,trivial⟩⟩)) rfl
 clear S h;rintro a w52 ⟨c2,h,hk50,S⟩;rw [hj5] at h;clear hj5 j5
 refine Va S rfl rfl fun a S=>Dl (wp_ret ?_)
 obtain rfl:=Option.some.inj h
 exact Fj S results3 rfl rfl
end Go.Proofs.YthlanmcejeohmaaGreatDoor
