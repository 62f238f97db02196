/- Each Go function computes its plain twin,by program. -/
import Derived.Test.YtjlcjcabljbolaaGreatDoorWk3
namespace Go.Proofs.YtjlcjcabljbolaaGreatDoor
open Go
open Go.Proofs.Tryz
set_option maxRecDepth 20000 in
theorem IL (w : World) (Ch : Int) (Bi : Int) (Bh : Int) (r : Int × Int) (h : CU Ch Bi Bh = some r) :
    Calls prog 91 [.int .u64 Ch,.int .u64 Bi,.int .u64 Bh].toArray w (Ret w [] fun _ v _=>v = .tuple #[.int .u64 r.1,.int .u64 r.2]):=by
 refine Fe func91 rfl ntmps91 rfl fun a S=>?_
 unfold CU at h
 replace S:=S.k3 0 1 2 rfl
 refine Fr (Vk S rfl rfl fun a S=>Vk S rfl rfl fun a S=>Dl (Fs (Fr (Vm S rfl rfl fun a S=>Vq S Im rfl rfl rfl ?_))));clear S;intro a S
 refine Dl (Fc h (S.tm rfl) (fun hb1 h=>?_) (fun hb1 h=>?_))
 ·cases h
 ·refine wp_skip (Tn (Fs (Fr (Vm S rfl rfl fun a S=>Vm S rfl rfl fun a S=>Vb S Uk rfl rfl rfl fun a S=>Dl (Fc h (S.tm rfl) (fun hb2 h=>?_) (fun hb2 h=>?_))))))
  ·cases h
  ·refine wp_skip (Tn (Fs (Fr (Vm S rfl rfl fun a S=>Vq S Im rfl rfl rfl fun a S=>Dl (Fc h (S.tm rfl) (fun hb3 h=>?_) (fun hb3 h=>?_))))))
   ·refine Fs (Hd [] ([]) Tryz.mixed S rfl (by kernel_rfl) ?_);clear S;intro w1 hk1 hsel S
    refine Kz [0,1,2,3,4,5,6,7] hsel (by kernel_rfl) rfl ?_
    clear hsel
    refine Gk S rfl (Rm (S.tm rfl)) rfl fun a S=>Gk S rfl (Rm (S.tm rfl)) rfl ?_;clear S;intro a S
    obtain ⟨hc1,h⟩:=Ia h
    refine Gk S rfl (KB (S.tm rfl) (S.tm rfl) (Tr hc1)) rfl fun a S=>Gk S rfl (Rm (S.tm rfl)) rfl fun a S=>Gk S rfl (Rm (S.tm rfl)) rfl ?_;clear S;intro a S
    obtain ⟨hc2,h⟩:=Ia h
    refine Gk S rfl (rn_remk (S.tm rfl) (S.tm rfl) (Tr hc2)) rfl fun a S=>Gk S rfl (Ra (S.tm rfl)) rfl fun a S=>Gk S rfl (Ra (S.tm rfl)) rfl fun a S=>Ig ?_
    replace S:=S.k2 6 7 rfl
    refine Tn (wp_ret (Dy ?_))
    obtain rfl:=Option.some.inj h
    exact Lq S results91 rfl rfl rfl
   ·refine wp_skip (Tn (Fr (Vm S rfl rfl ?_)));clear S;intro a S
    obtain ⟨r1,hr1,h⟩:=Fb h
    refine Ec S (fun _=>Dv (vs:=[.int .u64 Bh]) ⟨(S.tm rfl),trivial⟩ call111) (Zu _ Bh _ hr1) rfl ?_;clear S;intro v1 a w2 hv1 hk2 hn1 S
    subst hv1
    refine Vu S (Wc underlying3 underlying190) rfl rfl fun a S=>Va S rfl rfl fun a S=>Ld ?_
    replace S:=S.k4 0 1 2 8 rfl
    refine Tn (Fr (Vm S rfl rfl fun a S=>Vm S rfl rfl ?_));clear S;intro a S
    obtain ⟨hc3,h⟩:=Ia h
    refine lv S (NP (S.tm rfl) (S.tm rfl) (of_decide_eq_true hc3)) rfl fun a S=>Va S rfl rfl fun a S=>Dz (Vm S rfl rfl fun a S=>lv S (Uu (S.tm rfl) rfl (by decide)) rfl fun a S=>Va S rfl rfl fun a S=>Dl ?_)
    refine Fr (Vm S rfl rfl fun a S=>Vq S DM rfl rfl rfl fun a S=>Va S rfl rfl fun a S=>Dz (Vm S rfl rfl fun a S=>Vm S rfl rfl ?_));clear S;intro a S
    obtain ⟨hc4,h⟩:=Ia h
    refine lv S (NP (S.tm rfl) (S.tm rfl) (of_decide_eq_true hc4)) rfl fun a S=>Vm S rfl rfl fun a S=>Vm S rfl rfl fun a S=>Vu S (Ze rfl) rfl rfl ?_;clear S;intro a S
    obtain ⟨hc5,h⟩:=Ia h
    refine lv S (Uu (S.tm rfl) (S.tm rfl) (of_decide_eq_true hc5)) rfl fun a S=>Vb S rn_or_ rfl rfl rfl fun a S=>Va S rfl rfl fun a S=>Ld ?_
    replace S:=S.k6 1 2 8 9 10 11 rfl
    refine Tn (Fr (Vm S rfl rfl fun a S=>Vm S rfl rfl ?_));clear S;intro a S
    obtain ⟨hc6,h⟩:=Ia h
    refine lv S (NP (S.tm rfl) (S.tm rfl) (of_decide_eq_true hc6)) rfl fun a S=>Va S rfl rfl fun a S=>Dz (Vm S rfl rfl fun a S=>lv S (Uu (S.tm rfl) rfl (by decide)) rfl fun a S=>Va S rfl rfl fun a S=>Dl ?_)
    refine Fr (Vm S rfl rfl fun a S=>Vq S DM rfl rfl rfl fun a S=>Va S rfl rfl fun a S=>Ld ?_)
    replace S:=S.k7 2 8 9 10 11 13 14 rfl
    refine Tn (Fr (Vm S rfl rfl fun a S=>Vm S rfl rfl ?_));clear S;intro a S
    obtain ⟨hc7,h⟩:=Ia h
    refine lv S (KB (S.tm rfl) (S.tm rfl) (Tr hc7)) rfl fun a S=>Va S rfl rfl fun a S=>Dl (Fs (Fg ?_))
    iterate 3 (refine Vm S rfl rfl ?_;clear S;intro a S)
    refine Vb S Pa rfl rfl rfl fun a S=>Vb S Ze rfl rfl rfl fun a S=>Va S rfl rfl fun a S=>Ld ?_
    replace S:=S.k9 2 8 9 10 11 13 14 15 16 rfl
    refine Tn (Fs ?_)
    obtain ⟨j1,hj1,h⟩:=Eu h
    refine En (fun a w'=>∃ x1 : Int,j1 x1 = some r ∧ Sx w [] nov [] [(2,.int .u64 (Fp .u64 Bh (IntKind.wrap .u64 r1))),(8,.int .u64 (IntKind.wrap .u64 r1)),(9,.int .u64 (Gm .u64 (Fp .u64 Bh (IntKind.wrap .u64 r1)) 32)),(10,.int .u64 (Np .u64 (Fp .u64 Bh (IntKind.wrap .u64 r1)) 4294967295)),(11,.int .u64 (Sb .u64 (Fp .u64 Ch (IntKind.wrap .u64 r1)) (Gm .u64 Bi (IntKind.wrap .u64 (64 - (IntKind.wrap .u64 r1)))))),(13,.int .u64 (Gm .u64 (Fp .u64 Bi (IntKind.wrap .u64 r1)) 32)),(14,.int .u64 (Np .u64 (Fp .u64 Bi (IntKind.wrap .u64 r1)) 4294967295)),(15,.int .u64 x1)] 135 a w') ?_ ?_
    ·refine wp_block (Hb (fun (m1 : Nat) a w'=>∃ x1 : Int,∃ x2 : Int,Pp Bi r1 Bh j1 m1 x1 x2 = some r ∧ Sx w [] nov [] [(2,.int .u64 (Fp .u64 Bh (IntKind.wrap .u64 r1))),(8,.int .u64 (IntKind.wrap .u64 r1)),(9,.int .u64 (Gm .u64 (Fp .u64 Bh (IntKind.wrap .u64 r1)) 32)),(10,.int .u64 (Np .u64 (Fp .u64 Bh (IntKind.wrap .u64 r1)) 4294967295)),(11,.int .u64 (Sb .u64 (Fp .u64 Ch (IntKind.wrap .u64 r1)) (Gm .u64 Bi (IntKind.wrap .u64 (64 - (IntKind.wrap .u64 r1)))))),(13,.int .u64 (Gm .u64 (Fp .u64 Bi (IntKind.wrap .u64 r1)) 32)),(14,.int .u64 (Np .u64 (Fp .u64 Bi (IntKind.wrap .u64 r1)) 4294967295)),(15,.int .u64 x1),(16,.int .u64 x2)] 135 a w') id (((IntKind.wrap .u64 (Int.tdiv (Sb .u64 (Fp .u64 Ch (IntKind.wrap .u64 r1)) (Gm .u64 Bi (IntKind.wrap .u64 (64 - (IntKind.wrap .u64 r1))))) (Gm .u64 (Fp .u64 Bh (IntKind.wrap .u64 r1)) 32))) - 4294967296).toNat + 2) ⟨IntKind.wrap .u64 (Int.tdiv (Sb .u64 (Fp .u64 Ch (IntKind.wrap .u64 r1)) (Gm .u64 Bi (IntKind.wrap .u64 (64 - (IntKind.wrap .u64 r1))))) (Gm .u64 (Fp .u64 Bh (IntKind.wrap .u64 r1)) 32)),IntKind.wrap .u64 ((Sb .u64 (Fp .u64 Ch (IntKind.wrap .u64 r1)) (Gm .u64 Bi (IntKind.wrap .u64 (64 - (IntKind.wrap .u64 r1))))) - (IntKind.wrap .u64 ((IntKind.wrap .u64 (Int.tdiv (Sb .u64 (Fp .u64 Ch (IntKind.wrap .u64 r1)) (Gm .u64 Bi (IntKind.wrap .u64 (64 - (IntKind.wrap .u64 r1))))) (Gm .u64 (Fp .u64 Bh (IntKind.wrap .u64 r1)) 32))) * (Gm .u64 (Fp .u64 Bh (IntKind.wrap .u64 r1)) 32)))),h,S.nf [] rfl (subR rfl)⟩ ?_)
     clear S h;rintro m1 a w3 ⟨x1,x2,h,S⟩
     cases m1 with
     | zero=>rw [Pp.eq_1] at h;cases h
     | succ m1 =>
      rw [Pp.eq_2] at h
      refine Fs (Fr (Vm S rfl rfl fun a S=>Vq S Qd rfl rfl rfl fun a S=>Vm S rfl rfl fun a S=>Hj 9 (fun a w'=>Keep [] w3 w' ∧ Sx w [] nov [] [(2,.int .u64 (Fp .u64 Bh (IntKind.wrap .u64 r1))),(8,.int .u64 (IntKind.wrap .u64 r1)),(9,.int .u64 (Gm .u64 (Fp .u64 Bh (IntKind.wrap .u64 r1)) 32)),(10,.int .u64 (Np .u64 (Fp .u64 Bh (IntKind.wrap .u64 r1)) 4294967295)),(11,.int .u64 (Sb .u64 (Fp .u64 Ch (IntKind.wrap .u64 r1)) (Gm .u64 Bi (IntKind.wrap .u64 (64 - (IntKind.wrap .u64 r1)))))),(13,.int .u64 (Gm .u64 (Fp .u64 Bi (IntKind.wrap .u64 r1)) 32)),(14,.int .u64 (Np .u64 (Fp .u64 Bi (IntKind.wrap .u64 r1)) 4294967295)),(15,.int .u64 x1),(16,.int .u64 x2),(78,bV ((decide (4294967296 ≤ x1)) || (decide ((IntKind.wrap .u64 ((IntKind.wrap .u64 (4294967296 * x2)) + (Gm .u64 (Fp .u64 Bi (IntKind.wrap .u64 r1)) 32))) < (IntKind.wrap .u64 (x1 * (Np .u64 (Fp .u64 Bh (IntKind.wrap .u64 r1)) 4294967295)))))))] 135 a w') ?_ ?_))
      ·rcases Bool.eq_false_or_eq_true (decide (4294967296 ≤ x1)) with hb4 | hb4
       ·iterate 8 (refine Gt S rfl rfl rfl (Mh hb4) rfl ?_ rfl;clear S;intro a S)
        exact lv S (Kh (decide ((IntKind.wrap .u64 ((IntKind.wrap .u64 (4294967296 * x2)) + (Gm .u64 (Fp .u64 Bi (IntKind.wrap .u64 r1)) 32))) < (IntKind.wrap .u64 (x1 * (Np .u64 (Fp .u64 Bh (IntKind.wrap .u64 r1)) 4294967295))))) hb4 (S.tm rfl) rfl) rfl fun a S=>Dl (⟨Keep.refl _ _,S.nf [] rfl (subR rfl)⟩)
       ·refine Ea S rfl rfl rfl hb4 (Vm S rfl rfl fun a S=>Ea S rfl rfl rfl hb4 (Vm S rfl rfl fun a S=>Ea S rfl rfl rfl hb4 (Vb S Pa rfl rfl rfl fun a S=>Ea S rfl rfl rfl hb4 (Vm S rfl rfl fun a S=>Ea S rfl rfl rfl hb4 (Vu S (Pa rfl) rfl rfl fun a S=>Ea S rfl rfl rfl hb4 ?_)))))
        exact Vm S rfl rfl fun a S=>Ea S rfl rfl rfl hb4 (Vb S Ut rfl rfl rfl fun a S=>Ea S rfl rfl rfl hb4 (Vb S Jh rfl rfl rfl fun a S=>lv S (Ki hb4 (S.tm rfl) (S.tm rfl)) rfl fun a S=>Dl (⟨Keep.refl _ _,S.nf [] rfl (subR rfl)⟩)))
      clear S;rintro a w5 ⟨hk3,S⟩
      refine Dl (Fc h (S.tm rfl) (fun hb5 h=>?_) (fun hb5 h=>?_))
      ·refine wp_skip (Tn (wp_block (Fr (Vm S rfl rfl fun a S=>Vq S Ze rfl rfl rfl fun a S=>Va S rfl rfl fun a S=>Dl (Fs ?_)))))
       refine Fg (Vm S rfl rfl fun a S=>Vm S rfl rfl fun a S=>Vb S Ut rfl rfl rfl fun a S=>Va S rfl rfl fun a S=>Ld ?_)
       replace S:=S.k9 2 8 9 10 11 13 14 15 16 rfl
       refine Tn (Fr (Vm S rfl rfl fun a S=>Vq S Qd rfl rfl rfl fun a S=>Dl (Fc h (S.tm rfl) (fun hb6 h=>?_) (fun hb6 h=>?_))))
       ·exact wp_exit (OX rfl (Ei (Gp (Tn (⟨IntKind.wrap .u64 (x1 - 1),h,S.nf [] rfl (subR rfl)⟩)))))
       ·exact wp_skip (Ho (Tn (⟨m1,⟨IntKind.wrap .u64 (x1 - 1),IntKind.wrap .u64 (x2 + (Gm .u64 (Fp .u64 Bh (IntKind.wrap .u64 r1)) 32)),h,S.nf [] rfl ⟨rfl,rfl,rfl,rfl,rfl,rfl,rfl,rfl,rfl,trivial⟩⟩,Nat.lt_succ_self _⟩)))
      ·exact wp_exit (Ei (Ei (Gp (Tn (⟨x1,h,S.nf [] rfl (subR rfl)⟩)))))
    clear S h;rintro a w4 ⟨x1,h,S⟩;rw [hj1] at h;clear hj1 j1
    refine Tn (Fr (Vm S rfl rfl fun a S=>Vq S Pa rfl rfl rfl fun a S=>Vm S rfl rfl fun a S=>Vb S Ut rfl rfl rfl fun a S=>Vm S rfl rfl fun a S=>Vm S rfl rfl fun a S=>Vb S Pa rfl rfl rfl fun a S=>Vb S Ze rfl rfl rfl ?_));clear S;intro a S
    refine Va S rfl rfl fun a S=>Ld ?_
    replace S:=S.k7 2 8 9 10 14 15 17 rfl
    refine Tn (Fr (Vm S rfl rfl fun a S=>Vm S rfl rfl ?_));clear S;intro a S
    obtain ⟨hc8,h⟩:=Ia h
    refine lv S (KB (S.tm rfl) (S.tm rfl) (Tr hc8)) rfl fun a S=>Va S rfl rfl fun a S=>Dl (Fs (Fg ?_))
    iterate 3 (refine Vm S rfl rfl ?_;clear S;intro a S)
    refine Vb S Pa rfl rfl rfl fun a S=>Vb S Ze rfl rfl rfl fun a S=>Va S rfl rfl fun a S=>Ld ?_
    replace S:=S.k9 2 8 9 10 14 15 16 17 18 rfl
    refine Tn (Fs ?_)
    obtain ⟨j2,hj2,h⟩:=Eu h
    refine En (fun a w'=>∃ x4 : Int,j2 x4 = some r ∧ Sx w [] nov [] [(2,.int .u64 (Fp .u64 Bh (IntKind.wrap .u64 r1))),(8,.int .u64 (IntKind.wrap .u64 r1)),(14,.int .u64 (Np .u64 (Fp .u64 Bi (IntKind.wrap .u64 r1)) 4294967295)),(15,.int .u64 x1),(17,.int .u64 (IntKind.wrap .u64 ((IntKind.wrap .u64 ((IntKind.wrap .u64 ((Sb .u64 (Fp .u64 Ch (IntKind.wrap .u64 r1)) (Gm .u64 Bi (IntKind.wrap .u64 (64 - (IntKind.wrap .u64 r1))))) * 4294967296)) + (Gm .u64 (Fp .u64 Bi (IntKind.wrap .u64 r1)) 32))) - (IntKind.wrap .u64 (x1 * (Fp .u64 Bh (IntKind.wrap .u64 r1))))))),(18,.int .u64 x4)] 135 a w') ?_ ?_
    ·refine wp_block (Hb (fun (m2 : Nat) a w'=>∃ x3 : Int,∃ x4 : Int,Pq Bi r1 Bh j2 m2 x3 x4 = some r ∧ Sx w [] nov [] [(2,.int .u64 (Fp .u64 Bh (IntKind.wrap .u64 r1))),(8,.int .u64 (IntKind.wrap .u64 r1)),(9,.int .u64 (Gm .u64 (Fp .u64 Bh (IntKind.wrap .u64 r1)) 32)),(10,.int .u64 (Np .u64 (Fp .u64 Bh (IntKind.wrap .u64 r1)) 4294967295)),(14,.int .u64 (Np .u64 (Fp .u64 Bi (IntKind.wrap .u64 r1)) 4294967295)),(15,.int .u64 x1),(16,.int .u64 x3),(17,.int .u64 (IntKind.wrap .u64 ((IntKind.wrap .u64 ((IntKind.wrap .u64 ((Sb .u64 (Fp .u64 Ch (IntKind.wrap .u64 r1)) (Gm .u64 Bi (IntKind.wrap .u64 (64 - (IntKind.wrap .u64 r1))))) * 4294967296)) + (Gm .u64 (Fp .u64 Bi (IntKind.wrap .u64 r1)) 32))) - (IntKind.wrap .u64 (x1 * (Fp .u64 Bh (IntKind.wrap .u64 r1))))))),(18,.int .u64 x4)] 135 a w') id (((IntKind.wrap .u64 (Int.tdiv (IntKind.wrap .u64 ((IntKind.wrap .u64 ((IntKind.wrap .u64 ((Sb .u64 (Fp .u64 Ch (IntKind.wrap .u64 r1)) (Gm .u64 Bi (IntKind.wrap .u64 (64 - (IntKind.wrap .u64 r1))))) * 4294967296)) + (Gm .u64 (Fp .u64 Bi (IntKind.wrap .u64 r1)) 32))) - (IntKind.wrap .u64 (x1 * (Fp .u64 Bh (IntKind.wrap .u64 r1)))))) (Gm .u64 (Fp .u64 Bh (IntKind.wrap .u64 r1)) 32))) - 4294967296).toNat + 2) ⟨IntKind.wrap .u64 ((IntKind.wrap .u64 ((IntKind.wrap .u64 ((IntKind.wrap .u64 ((Sb .u64 (Fp .u64 Ch (IntKind.wrap .u64 r1)) (Gm .u64 Bi (IntKind.wrap .u64 (64 - (IntKind.wrap .u64 r1))))) * 4294967296)) + (Gm .u64 (Fp .u64 Bi (IntKind.wrap .u64 r1)) 32))) - (IntKind.wrap .u64 (x1 * (Fp .u64 Bh (IntKind.wrap .u64 r1)))))) - (IntKind.wrap .u64 ((IntKind.wrap .u64 (Int.tdiv (IntKind.wrap .u64 ((IntKind.wrap .u64 ((IntKind.wrap .u64 ((Sb .u64 (Fp .u64 Ch (IntKind.wrap .u64 r1)) (Gm .u64 Bi (IntKind.wrap .u64 (64 - (IntKind.wrap .u64 r1))))) * 4294967296)) + (Gm .u64 (Fp .u64 Bi (IntKind.wrap .u64 r1)) 32))) - (IntKind.wrap .u64 (x1 * (Fp .u64 Bh (IntKind.wrap .u64 r1)))))) (Gm .u64 (Fp .u64 Bh (IntKind.wrap .u64 r1)) 32))) * (Gm .u64 (Fp .u64 Bh (IntKind.wrap .u64 r1)) 32)))),IntKind.wrap .u64 (Int.tdiv (IntKind.wrap .u64 ((IntKind.wrap .u64 ((IntKind.wrap .u64 ((Sb .u64 (Fp .u64 Ch (IntKind.wrap .u64 r1)) (Gm .u64 Bi (IntKind.wrap .u64 (64 - (IntKind.wrap .u64 r1))))) * 4294967296)) + (Gm .u64 (Fp .u64 Bi (IntKind.wrap .u64 r1)) 32))) - (IntKind.wrap .u64 (x1 * (Fp .u64 Bh (IntKind.wrap .u64 r1)))))) (Gm .u64 (Fp .u64 Bh (IntKind.wrap .u64 r1)) 32)),h,S.nf [] rfl (subR rfl)⟩ ?_)
     clear S h;rintro m2 a w6 ⟨x3,x4,h,S⟩
     cases m2 with
     | zero=>rw [Pq.eq_1] at h;cases h
     | succ m2 =>
      rw [Pq.eq_2] at h
      refine Fs (Fr (Vm S rfl rfl fun a S=>Vq S Qd rfl rfl rfl fun a S=>Vm S rfl rfl fun a S=>Hj 9 (fun a w'=>Keep [] w6 w' ∧ Sx w [] nov [] [(2,.int .u64 (Fp .u64 Bh (IntKind.wrap .u64 r1))),(8,.int .u64 (IntKind.wrap .u64 r1)),(9,.int .u64 (Gm .u64 (Fp .u64 Bh (IntKind.wrap .u64 r1)) 32)),(10,.int .u64 (Np .u64 (Fp .u64 Bh (IntKind.wrap .u64 r1)) 4294967295)),(14,.int .u64 (Np .u64 (Fp .u64 Bi (IntKind.wrap .u64 r1)) 4294967295)),(15,.int .u64 x1),(16,.int .u64 x3),(17,.int .u64 (IntKind.wrap .u64 ((IntKind.wrap .u64 ((IntKind.wrap .u64 ((Sb .u64 (Fp .u64 Ch (IntKind.wrap .u64 r1)) (Gm .u64 Bi (IntKind.wrap .u64 (64 - (IntKind.wrap .u64 r1))))) * 4294967296)) + (Gm .u64 (Fp .u64 Bi (IntKind.wrap .u64 r1)) 32))) - (IntKind.wrap .u64 (x1 * (Fp .u64 Bh (IntKind.wrap .u64 r1))))))),(18,.int .u64 x4),(113,bV ((decide (4294967296 ≤ x4)) || (decide ((IntKind.wrap .u64 ((IntKind.wrap .u64 (4294967296 * x3)) + (Np .u64 (Fp .u64 Bi (IntKind.wrap .u64 r1)) 4294967295))) < (IntKind.wrap .u64 (x4 * (Np .u64 (Fp .u64 Bh (IntKind.wrap .u64 r1)) 4294967295)))))))] 135 a w') ?_ ?_))
      ·rcases Bool.eq_false_or_eq_true (decide (4294967296 ≤ x4)) with hb7 | hb7
       ·iterate 8 (refine Gt S rfl rfl rfl (Mh hb7) rfl ?_ rfl;clear S;intro a S)
        exact lv S (Kh (decide ((IntKind.wrap .u64 ((IntKind.wrap .u64 (4294967296 * x3)) + (Np .u64 (Fp .u64 Bi (IntKind.wrap .u64 r1)) 4294967295))) < (IntKind.wrap .u64 (x4 * (Np .u64 (Fp .u64 Bh (IntKind.wrap .u64 r1)) 4294967295))))) hb7 (S.tm rfl) rfl) rfl fun a S=>Dl (⟨Keep.refl _ _,S.nf [] rfl (subR rfl)⟩)
       ·refine Ea S rfl rfl rfl hb7 (Vm S rfl rfl fun a S=>Ea S rfl rfl rfl hb7 (Vm S rfl rfl fun a S=>Ea S rfl rfl rfl hb7 (Vb S Pa rfl rfl rfl fun a S=>Ea S rfl rfl rfl hb7 (Vm S rfl rfl fun a S=>Ea S rfl rfl rfl hb7 (Vu S (Pa rfl) rfl rfl fun a S=>Ea S rfl rfl rfl hb7 ?_)))))
        exact Vm S rfl rfl fun a S=>Ea S rfl rfl rfl hb7 (Vb S Ut rfl rfl rfl fun a S=>Ea S rfl rfl rfl hb7 (Vb S Jh rfl rfl rfl fun a S=>lv S (Ki hb7 (S.tm rfl) (S.tm rfl)) rfl fun a S=>Dl (⟨Keep.refl _ _,S.nf [] rfl (subR rfl)⟩)))
      clear S;rintro a w8 ⟨hk4,S⟩
      refine Dl (Fc h (S.tm rfl) (fun hb8 h=>?_) (fun hb8 h=>?_))
      ·refine wp_skip (Tn (wp_block (Fr (Vm S rfl rfl fun a S=>Vq S Ze rfl rfl rfl fun a S=>Va S rfl rfl fun a S=>Dl (Fs ?_)))))
       refine Fg (Vm S rfl rfl fun a S=>Vm S rfl rfl fun a S=>Vb S Ut rfl rfl rfl fun a S=>Va S rfl rfl fun a S=>Ld ?_)
       replace S:=S.k9 2 8 9 10 14 15 16 17 18 rfl
       refine Tn (Fr (Vm S rfl rfl fun a S=>Vq S Qd rfl rfl rfl fun a S=>Dl (Fc h (S.tm rfl) (fun hb9 h=>?_) (fun hb9 h=>?_))))
       ·exact wp_exit (OX rfl (Ei (Gp (Tn (⟨IntKind.wrap .u64 (x4 - 1),h,S.nf [] rfl (subR rfl)⟩)))))
       ·exact wp_skip (Ho (Tn (⟨m2,⟨IntKind.wrap .u64 (x3 + (Gm .u64 (Fp .u64 Bh (IntKind.wrap .u64 r1)) 32)),IntKind.wrap .u64 (x4 - 1),h,S.nf [] rfl ⟨rfl,rfl,rfl,rfl,rfl,rfl,rfl,rfl,rfl,trivial⟩⟩,Nat.lt_succ_self _⟩)))
      ·exact wp_exit (Ei (Ei (Gp (Tn (⟨x4,h,S.nf [] rfl (subR rfl)⟩)))))
    clear S h;rintro a w7 ⟨x4,h,S⟩;rw [hj2] at h;clear hj2 j2
    refine Tn (Fr (Vm S rfl rfl fun a S=>Vq S Pa rfl rfl rfl fun a S=>Vm S rfl rfl fun a S=>Vb S Ut rfl rfl rfl fun a S=>Vm S rfl rfl fun a S=>Vq S Pa rfl rfl rfl fun a S=>Vm S rfl rfl fun a S=>Vb S Ut rfl rfl rfl ?_));clear S;intro a S
    refine Vm S rfl rfl fun a S=>Vm S rfl rfl fun a S=>Vb S Pa rfl rfl rfl fun a S=>Vb S Ze rfl rfl rfl fun a S=>Vm S rfl rfl ?_;clear S;intro a S
    obtain ⟨hc9,h⟩:=Ia h
    refine lv S (Uu (S.tm rfl) (S.tm rfl) (of_decide_eq_true hc9)) rfl fun a S=>Va S rfl rfl fun a S=>Va S rfl rfl fun a S=>Ld ?_
    replace S:=S.k2 6 7 rfl
    refine Tn (wp_ret ?_)
    obtain rfl:=Option.some.inj h
    exact Lq S results91 rfl rfl rfl
theorem FH (w : World) (Bt : Int) (Bx : Int) (r : Int) (h : Yp Bt Bx = some r) :
    Calls prog 57 [iV Bt,iV Bx].toArray w (Ret w [] fun _ v _=>v = iV r):=by
 refine Fe func57 rfl ntmps57 rfl fun a S=>?_
 unfold Yp at h
 replace S:=S.k2 0 1 rfl
 refine Fr (Vk S rfl rfl fun a S=>Dz (Vm S rfl rfl fun a S=>Vu S (Wc underlying3 underlying172) rfl rfl fun a S=>Vm S rfl rfl fun a S=>Vu S (Wc underlying3 underlying172) rfl rfl ?_));clear S;intro a S
 refine Va S rfl rfl fun a S=>Va S rfl rfl fun a S=>Dz (Vm S rfl rfl fun a S=>Vm S rfl rfl fun a S=>Vb S Pa rfl rfl rfl fun a S=>Vm S rfl rfl fun a S=>Vb S Pa rfl rfl rfl ?_);clear S;intro a S
 refine Ec S (fun _=>Dv (vs:=[.int .u64 (IntKind.wrap .u64 ((IntKind.wrap .u64 ((IntKind.wrap .u64 Bt) * (IntKind.wrap .u64 Bt))) * (IntKind.wrap .u64 Bt))),.int .u64 1000]) ⟨(S.tm rfl),rfl,trivial⟩ call90) (IK _ (IntKind.wrap .u64 ((IntKind.wrap .u64 ((IntKind.wrap .u64 Bt) * (IntKind.wrap .u64 Bt))) * (IntKind.wrap .u64 Bt))) 1000 _ rfl) rfl ?_;clear S;intro v1 a w1 hv1 hk1 hn1 S
 subst hv1
 refine Vm S rfl rfl fun a S=>Vq S Gx rfl rfl rfl fun a S=>Vq S Gx rfl rfl rfl fun a S=>Va S rfl rfl fun a S=>Va S rfl rfl fun a S=>Ld ?_
 replace S:=S.k3 6 7 8 rfl
 refine Tn (Fr (Vm S rfl rfl fun a S=>Vm S rfl rfl fun a S=>Vb S Pa rfl rfl rfl fun a S=>Vm S rfl rfl fun a S=>Vb S Pa rfl rfl rfl fun a S=>Va S rfl rfl fun a S=>Dl ?_))
 refine Fs (Fr (Vm S rfl rfl fun a S=>Vm S rfl rfl fun a S=>Vb S Qd rfl rfl rfl fun a S=>Dl (Fc h (S.tm rfl) (fun hb1 h=>?_) (fun hb1 h=>?_))))
 ·refine Fr (Vk S rfl rfl fun a S=>Dl (wp_ret (Dy ?_)))
  obtain rfl:=Option.some.inj h
  exact Eo S results57 rfl rfl
 ·refine wp_skip (Tn (Fs (Fg ?_)))
  iterate 3 (refine Vm S rfl rfl ?_;clear S;intro a S)
  obtain ⟨r1,hr1,h⟩:=Fb h
  refine Ec S (fun _=>Dv (vs:=[.int .u64 ((Rz (IntKind.wrap .u64 ((IntKind.wrap .u64 ((IntKind.wrap .u64 Bt) * (IntKind.wrap .u64 Bt))) * (IntKind.wrap .u64 Bt))) 1000).1),.int .u64 ((Rz (IntKind.wrap .u64 ((IntKind.wrap .u64 ((IntKind.wrap .u64 Bt) * (IntKind.wrap .u64 Bt))) * (IntKind.wrap .u64 Bt))) 1000).2),.int .u64 (IntKind.wrap .u64 ((IntKind.wrap .u64 ((IntKind.wrap .u64 Bx) * (IntKind.wrap .u64 Bx))) * (IntKind.wrap .u64 Bx)))]) ⟨(S.tm rfl),(S.tm rfl),(S.tm rfl),trivial⟩ call91) (IL _ ((Rz (IntKind.wrap .u64 ((IntKind.wrap .u64 ((IntKind.wrap .u64 Bt) * (IntKind.wrap .u64 Bt))) * (IntKind.wrap .u64 Bt))) 1000).1) ((Rz (IntKind.wrap .u64 ((IntKind.wrap .u64 ((IntKind.wrap .u64 Bt) * (IntKind.wrap .u64 Bt))) * (IntKind.wrap .u64 Bt))) 1000).2) (IntKind.wrap .u64 ((IntKind.wrap .u64 ((IntKind.wrap .u64 Bx) * (IntKind.wrap .u64 Bx))) * (IntKind.wrap .u64 Bx))) _ hr1) rfl ?_;clear S;intro v2 a w2 hv2 hk2 hn2 S
  subst hv2
  refine Vm S rfl rfl fun a S=>Vq S Gx rfl rfl rfl fun a S=>Vq S Gx rfl rfl rfl fun a S=>Va S rfl rfl fun a S=>Va S rfl rfl fun a S=>Ld ?_
  replace S:=S.k1 9 rfl
  refine Tn (Fr (Vm S rfl rfl fun a S=>Vq S rn_min2 rfl rfl rfl fun a S=>Vu S (Wc underlying172 underlying3) rfl rfl fun a S=>Va S rfl rfl fun a S=>Dl (wp_ret ?_)))
  obtain rfl:=Option.some.inj h
  exact Eo S results57 rfl rfl
theorem FI (w : World) (Ac : Value) (Ag : List Rd) (Ae : Slc (view w []) 2 Ac (Ag.map Rd.enc)) (Ax : ByteArray) (Bx : Int) (r : Int × Int) (h : Yq Ag Ax Bx = some r) :
    Calls prog 24 [Ac,sV Ax,iV Bx].toArray w (Ret w [] fun _ v _=>v = .tuple #[iV r.1,iV r.2]):=by
 refine Fe func24 rfl ntmps24 rfl fun a S=>?_
 unfold Yq at h
 replace S:=S.k3 0 1 2 rfl
 refine Fr (Vk S rfl rfl fun a S=>Vk S rfl rfl fun a S=>Dl (Fs (Fr (Vm S rfl rfl ?_))));clear S;intro a S
 obtain ⟨r1,hr1,h⟩:=Fb h
 refine Ec S (fun _=>Dv (vs:=[Ac]) ⟨(S.tm rfl),trivial⟩ call54) (CJ _ Ac Ag (Ae.mono (S.le_arg Ej)) _ hr1) rfl ?_;clear S;intro v1 a w1 hv1 hk1 hn1 S
 subst hv1
 refine Va S rfl rfl fun a S=>Dz (Vm S rfl rfl fun a S=>Vq S Ky rfl rfl rfl fun a S=>Dl (Fc h (S.tm rfl) (fun hb1 h=>?_) (fun hb1 h=>?_)))
 ·refine Fr (Vm S rfl rfl fun a S=>Vk S rfl rfl fun a S=>Va S rfl rfl fun a S=>Dl (wp_ret (Dy ?_)))
  obtain rfl:=Option.some.inj h
  exact Lq S results24 rfl rfl rfl
 ·refine wp_skip (Tn (Fr (Vm S rfl rfl fun a S=>Vm S rfl rfl fun a S=>Ec S (fun _=>Dv (vs:=[Ac,sV Ax]) ⟨(S.tm rfl),(S.tm rfl),trivial⟩ call55) (FF _ Ac Ag (Ae.mono (S.le_arg Ej)) Ax _ rfl) rfl ?_)));clear S;intro v2 a w2 hv2 hk2 hn2 S
  subst hv2
  refine Va S rfl rfl fun a S=>Dl (Fs (Fr (Vm S rfl rfl fun a S=>Vq S Im rfl rfl rfl fun a S=>Ld ?_)))
  replace S:=S.k3 2 9 19 rfl
  refine Tn (Fc h (S.tm rfl) (fun hb2 h=>?_) (fun hb2 h=>?_))
  ·refine Fr (Vk S rfl rfl fun a S=>Vk S rfl rfl fun a S=>Dl (wp_ret (Dy ?_)))
   obtain rfl:=Option.some.inj h
   exact Lq S results24 rfl rfl rfl
  ·refine wp_skip (Tn (Fs (Fr (Vm S rfl rfl fun a S=>Ec S (fun _=>Dv (vs:=[iV Bx]) ⟨(S.tm rfl),trivial⟩ call56) (Wa _ Bx _ rfl) rfl ?_))));clear S;intro v3 a w3 hv3 hk3 hn3 S
   subst hv3
   refine Vu S Hh rfl rfl fun a S=>Dl (Fc h (S.tm rfl) (fun hb3 h=>?_) (fun hb3 h=>?_))
   ·refine Fr (Vk S rfl rfl fun a S=>Vk S rfl rfl fun a S=>Dl (wp_ret (Dy ?_)))
    obtain rfl:=Option.some.inj h
    exact Lq S results24 rfl rfl rfl
   ·refine wp_skip (Tn (Fr (Vm S rfl rfl fun a S=>Vm S rfl rfl ?_)));clear S;intro a S
    obtain ⟨r2,hr2,h⟩:=Fb h
    refine Ec S (fun _=>Dv (vs:=[iV (Sj Ag Ax),iV Bx]) ⟨(S.tm rfl),(S.tm rfl),trivial⟩ call57) (FH _ (Sj Ag Ax) Bx _ hr2) rfl ?_;clear S;intro v4 a w4 hv4 hk4 hn4 S
    subst hv4
    refine Va S rfl rfl fun a S=>Vk S rfl rfl fun a S=>Dl (wp_ret ?_)
    obtain rfl:=Option.some.inj h
    exact Lq S results24 rfl rfl rfl
set_option maxRecDepth 20000 in
theorem BH (w : World) (Ac : Value) (Ag : List Tz) (Cv : List R82) (Ae : Slc (view w []) 5 Ac (Cv.map R82.enc)) (Ck : La (AR (view w [])) Ag Cv) (r : Int) (h : Vh Ag = some r) :
    Calls prog 58 [Ac].toArray w (Ret w [] fun _ v _=>v = iV r):=by
 refine Fe func58 rfl ntmps58 rfl fun a S=>?_
 unfold Vh at h
 replace S:=S.k1 0 rfl
 refine Fr (Vk S rfl rfl fun a S=>Dl (Fs (Fr (Vm S rfl rfl fun a S=>lv S (Fz JJ (S.tm rfl) (Tx Ae Ck)) rfl fun a S=>Vq S Jh rfl rfl rfl ?_))));clear S;intro a S
 refine Dl (Fc h (S.tm rfl) (fun hb1 h=>?_) (fun hb1 h=>?_))
 ·refine Fr (Vk S rfl rfl fun a S=>Dl (wp_ret (Dy ?_)))
  obtain rfl:=Option.some.inj h
  exact Eo S results58 rfl rfl
 ·refine wp_skip (Tn (Fs (Fr (Vm S rfl rfl fun a S=>lv S (Fz JJ (S.tm rfl) (Tx Ae Ck)) rfl fun a S=>lv S (Rm rfl) rfl fun a S=>Dl ?_))))
  replace S:=S.k4 0 10 11 12 rfl
  obtain ⟨j1,hj1,h⟩:=Eu h
  refine En (fun a w'=>j1 = some r ∧ Sx w [] nov [] [] 87 a w') ?_ ?_
  ·refine wp_block (Hb (fun (ys1 : List Tz) a w'=>∃ i1 : Nat,(∃ dn,Ag = dn ++ ys1 ∧ dn.length = i1) ∧ Lp Ag j1 ys1 i1 = some r ∧ Sx w [] nov [] [(0,Ac),(10,Ac),(11,iV (Ag.length : Int)),(12,iV (i1 : Int))] 87 a w') List.length Ag ⟨0,⟨[],rfl,rfl⟩,h,S.nf [] rfl (subR rfl)⟩ ?_)
   clear S h;rintro ys1 a w1 ⟨i1,⟨dn,hd1,hi1⟩,h,S⟩
   cases ys1 with
   | nil =>
    rw [Lp.eq_1] at h
    refine Fr (Vb S Ex rfl rfl rfl fun a S=>Ld ?_)
    replace S:=S.k5 0 10 11 12 13 rfl
    exact Tn (Fs (wp_cond_false ((S.tm rfl).trans (congrArg Value.bool (Io hd1 hi1))) (wp_exit (Ei (Ei (Gp (Tn (⟨h,S.nf [] rfl trivial⟩))))))))
   | cons y1 ys1 =>
    rw [Lp.eq_2] at h
    refine Fr (Vb S Ex rfl rfl rfl fun a S=>Ld ?_)
    replace S:=S.k5 0 10 11 12 13 rfl
    refine Tn (Fs (wp_cond_true ((S.tm rfl).trans (congrArg Value.bool (Hv hd1 hi1))) (wp_skip (Tn (Fs (wp_block (Fr (Vm S rfl rfl ?_))))))));clear S;intro a S
    obtain ⟨r1,hg1,hl1⟩:=La.at Ck (Iq hd1 hi1)
    obtain ⟨u1,rfl,hs1⟩:=hl1
    obtain ⟨b1,o1,hm1,hr1⟩:=Fd (a:=a) (x:=.tmp 10) (y:=.tmp 12) (ty:=0) JJ Ae hg1 rfl (S.tm rfl) (S.tm rfl)
    refine lv S (hr1 _) rfl ?_;clear S;intro a S
    clear hr1
    refine lv S (Fx isAgg82 sizeOf82 (off:=o1) (o:=0) (part:=[sV y1.Key,sV y1.Race,u1.val,iV y1.Young,iV y1.Old]) rfl rfl (S.tm rfl) (hm1.at S.emb0)) rfl fun a S=>Hz S zeroValue82 (cs:=[sV An,sV An,.slice none 0 0,iV 0,iV 0]) rfl rfl ?_;clear S;intro a w3 b2 hz1 hk1 S
    refine Va S rfl rfl fun a S=>Fh S (S.tm rfl) (S.tm rfl) (i:=0) (off:=0) rfl sizeOf82 (vs:=[sV y1.Key,sV y1.Race,u1.val,iV y1.Young,iV y1.Old]) rfl rfl rfl (Qn rfl (Qn rfl (Qn (Kk.one (Fl hs1)) (Qn rfl (Qn rfl rfl))))) ?_;clear S;intro w4 hk2 S
    refine Dl (Fs (wp_block (Fr (Vf GO S rfl rfl fun a S=>Vl isAgg9 0 S rfl rfl rfl rfl ?_))));clear S;intro a S
    obtain ⟨r2,hr2,h⟩:=Fb h
    refine Ec S (fun _=>Dv (vs:=[sV y1.Key]) ⟨(S.tm rfl),trivial⟩ call89) (Ie _ y1.Key _ hr2) rfl ?_;clear S;intro v1 a w5 hv1 hk3 hn1 S
    subst hv1
    refine Vu S Hh rfl rfl fun a S=>Vm S rfl rfl ?_;clear S;intro a S
    obtain ⟨j2,hj2,h⟩:=Eu h
    refine Hj 5 (fun a w'=>∃ c1,j2 c1 = some r ∧ Keep [] w5 w' ∧ Sx w [] nov [.blk b2 [sV y1.Key,sV y1.Race,u1.val,iV y1.Young,iV y1.Old] 82] [(0,Ac),(3,iV (i1 : Int)),(4,.pointer (some ⟨b2,0,none⟩)),(10,Ac),(11,iV (Ag.length : Int)),(12,iV (i1 : Int)),(27,bV c1)] 87 a w') ?_ ?_
    ·rcases Bool.eq_false_or_eq_true (!r2) with hb2 | hb2
     ·replace h:=Qw h hb2
      iterate 4 (refine Gt S rfl rfl rfl (Mh hb2) rfl ?_ rfl;clear S;intro a S)
      exact Vq S (Kh true hb2) rfl rfl rfl fun a S=>Dl (⟨_,h,Keep.refl _ _,S.nf [true] rfl (subR rfl)⟩)
     ·replace h:=Qx h hb2
      refine Ea S rfl rfl rfl hb2 (Vf PL S rfl rfl fun a S=>Ea S rfl rfl rfl hb2 (Vl isAgg9 0 S rfl rfl rfl rfl fun a S=>Ea S rfl rfl rfl hb2 ?_))
      obtain ⟨r3,hr3,h⟩:=Fb h
      refine Ec S (fun _=>Dv (vs:=[sV y1.Race]) ⟨(S.tm rfl),trivial⟩ call89) (Ie _ y1.Race _ hr3) rfl ?_;clear S;intro v2 a w7 hv2 hk4 hn2 S
      subst hv2
      exact Ea S rfl rfl rfl hb2 (Vu S Hh rfl rfl fun a S=>lv S (Ki hb2 (S.tm rfl) (S.tm rfl)) rfl fun a S=>Dl (⟨_,h,hk4,S.nf [true] rfl (subR rfl)⟩))
    clear S h;rintro a w6 ⟨c1,h,hk5,S⟩;rw [hj2] at h;clear hj2 j2
    refine Va S rfl rfl fun a S=>Dl (Fc h (S.tm rfl) (fun hb3 h=>?_) (fun hb3 h=>?_))
    ·refine Fr (Vk S rfl rfl fun a S=>Dl (wp_ret (Fq (Dy (Fq (Dy (Dy ?_)))))))
     refine Fq (Dy (Dy ?_))
     obtain rfl:=Option.some.inj h
     exact Eo S results58 rfl rfl
    ·refine Fs (Hd [] ([]) Tryz.mixed S rfl (by kernel_rfl) ?_);clear S;intro w8 hk6 hsel S
     refine Kz [0,1,2,3,4,5,6,7,8,9,10,11,12,13] hsel (by kernel_rfl) rfl ?_
     clear hsel
     refine Gk S rfl (Rm (S.tm rfl)) rfl fun a S=>Gk S rfl (Jh (S.tm rfl) rfl) rfl fun a S=>Gk S rfl (Rm (S.tm rfl)) rfl ?_;clear S;intro a S
     obtain ⟨j3,hj3,h⟩:=Eu h
     refine Yl 10 (fun a w'=>∃ c2,j3 c2 = some r ∧ Keep [] w8 w' ∧ Sx w [] nov [.blk b2 [sV y1.Key,sV y1.Race,u1.val,iV y1.Young,iV y1.Old] 82] [(0,Ac),(4,.pointer (some ⟨b2,0,none⟩)),(10,Ac),(11,iV (Ag.length : Int)),(12,iV (i1 : Int)),(41,bV c2)] 87 a w') ?_ ?_
     ·rcases Bool.eq_false_or_eq_true (decide (0 < (i1 : Int))) with hb4 | hb4
      ·replace h:=Qw h hb4
       refine Fm S rfl rfl rfl rfl hb4 (Gv S (Ge GO (S.tm rfl)) rfl fun a S=>Fm S rfl rfl rfl rfl hb4 (Gv S (Mi isAgg9 (S.tm rfl) (S.cell (i:=0) rfl rfl)) rfl fun a S=>Fm S rfl rfl rfl rfl hb4 (Gv S (Rm (S.tm rfl)) rfl fun a S=>Fm S rfl rfl rfl rfl hb4 (Gv S (Rm (S.tm rfl)) rfl fun a S=>Fm S rfl rfl rfl rfl hb4 (Gv S (Ja (S.tm rfl) rfl) rfl fun a S=>Fm S rfl rfl rfl rfl hb4 ?_)))))
       obtain ⟨hc1,h⟩:=Ia h
       obtain ⟨r4,hg2,hl2⟩:=MC Ck hc1
       obtain ⟨u2,rfl,hs2⟩:=hl2
       obtain ⟨b3,o2,hm2,hr4⟩:=Fd (a:=a) (x:=.tmp 34) (y:=.tmp 36) (ty:=0) JJ Ae hg2 (Ed hc1).2 (S.tm rfl) (S.tm rfl)
       refine Gv S (hr4 _) rfl ?_;clear S;intro a S
       clear hr4
       exact Fm S rfl rfl rfl rfl hb4 (Gv S (Ge GO (S.tm rfl)) rfl fun a S=>Fm S rfl rfl rfl rfl hb4 (Gv S (Hp isAgg9 (off:=o2) (o:=0) (S.tm rfl) (hm2.at S.emb0) rfl) rfl fun a S=>Fm S rfl rfl rfl rfl hb4 (Gv S (GH (S.tm rfl) (S.tm rfl)) rfl fun a S=>Gk S rfl (Hm hb4 (S.tm rfl) (S.tm rfl)) rfl fun a S=>Ig (⟨_,h,Keep.refl _ _,S.nf [true] rfl (subR rfl)⟩))))
      ·replace h:=Qx h hb4
       iterate 9 (refine Qe S rfl rfl rfl rfl (Jq hb4) rfl ?_ rfl;clear S;intro a S)
       exact Gk S rfl (Hn true hb4 (S.tm rfl) rfl) rfl fun a S=>Ig (⟨_,h,Keep.refl _ _,S.nf [true] rfl (subR rfl)⟩)
     clear S h;rintro a w9 ⟨c2,h,hk7,S⟩;rw [hj3] at h;clear hj3 j3
     refine Gk S rfl (Ra (S.tm rfl)) rfl fun a S=>Ig ?_
     replace S:=(S.nl [.blk b2 [sV y1.Key,sV y1.Race,u1.val,iV y1.Young,iV y1.Old] 82] [true] rfl).k6 0 4 10 11 12 28 rfl
     refine Tn (Fc h (S.tm rfl) (fun hb5 h=>?_) (fun hb5 h=>?_))
     ·refine Fr (Vk S rfl rfl fun a S=>Dl (wp_ret (Fq (Dy (Fq (Dy (Dy ?_)))))))
      refine Fq (Dy (Dy ?_))
      obtain rfl:=Option.some.inj h
      exact Eo S results58 rfl rfl
     ·refine Fr (Vf DY S rfl rfl fun a S=>Vl isAgg40 0 S rfl rfl rfl rfl fun a S=>lv S (Fz Wv (S.tm rfl) (Fl hs1)) rfl fun a S=>Vq S Jh rfl rfl rfl fun a S=>Va S rfl rfl fun a S=>Dl (Fc h (S.tm rfl) (fun hb6 h=>?_) (fun hb6 h=>?_)))
      ·refine Fr (Vk S rfl rfl fun a S=>Dl (wp_ret (Fq (Dy (Fq (Dy (Dy ?_)))))))
       refine Fq (Dy (Dy ?_))
       obtain rfl:=Option.some.inj h
       exact Eo S results58 rfl rfl
      ·refine wp_skip (Ho (Tn (Fs (Fr (Vf DY S rfl rfl fun a S=>Vl isAgg40 0 S rfl rfl rfl rfl fun a S=>lv S (Fz Wv (S.tm rfl) (Fl hs1)) rfl fun a S=>lv S (Rm rfl) rfl fun a S=>Ld ?_)))))
       replace S:=S.k8 0 4 10 11 12 48 49 50 rfl
       refine Tn ?_
       obtain ⟨j4,hj4,h⟩:=Eu h
       refine En (fun a w'=>j4 = some r ∧ Sx w [] nov [.blk b2 [sV y1.Key,sV y1.Race,u1.val,iV y1.Young,iV y1.Old] 82] [(0,Ac),(4,.pointer (some ⟨b2,0,none⟩)),(10,Ac),(11,iV (Ag.length : Int)),(12,iV (i1 : Int))] 87 a w') ?_ ?_
       ·refine wp_block (Hb (fun (ys2 : List ByteArray) a w'=>∃ i2 : Nat,(∃ dn,y1.Clubs = dn ++ ys2 ∧ dn.length = i2) ∧ Lo y1 j4 ys2 i2 = some r ∧ Sx w [] nov [.blk b2 [sV y1.Key,sV y1.Race,u1.val,iV y1.Young,iV y1.Old] 82] [(0,Ac),(4,.pointer (some ⟨b2,0,none⟩)),(10,Ac),(11,iV (Ag.length : Int)),(12,iV (i1 : Int)),(48,u1.val),(49,iV (y1.Clubs.length : Int)),(50,iV (i2 : Int))] 87 a w') List.length y1.Clubs ⟨0,⟨[],rfl,rfl⟩,h,S.nf [true] rfl (subR rfl)⟩ ?_)
        clear S h;rintro ys2 a w10 ⟨i2,⟨dn,hd2,hi2⟩,h,S⟩
        cases ys2 with
        | nil =>
         rw [Lo.eq_1] at h
         refine Fr (Vb S Ex rfl rfl rfl fun a S=>Ld ?_)
         replace S:=S.k9 0 4 10 11 12 48 49 50 51 rfl
         exact Tn (Fs (wp_cond_false ((S.tm rfl).trans (congrArg Value.bool (Io hd2 hi2))) (wp_exit (Ei (Ei (Gp (Tn (⟨h,S.nf [true] rfl (subR rfl)⟩))))))))
        | cons y2 ys2 =>
         rw [Lo.eq_2] at h
         refine Fr (Vb S Ex rfl rfl rfl fun a S=>Ld ?_)
         replace S:=S.k9 0 4 10 11 12 48 49 50 51 rfl
         refine Tn (Fs (wp_cond_true ((S.tm rfl).trans (congrArg Value.bool (Hv hd2 hi2))) (wp_skip (Tn (Fs (wp_block (Fr (Vm S rfl rfl ?_))))))));clear S;intro a S
         obtain ⟨b4,o3,hm3,hr5⟩:=Fd (a:=a) (x:=.tmp 48) (y:=.tmp 50) (ty:=0) Wv hs1 (Iq hd2 hi2) rfl (S.tm rfl) (S.tm rfl)
         refine lv S (hr5 _) rfl ?_;clear S;intro a S
         clear hr5
         refine lv S (Hp isAgg9 (off:=o3) (o:=0) (S.tm rfl) (hm3.at S.emb0) rfl) rfl fun a S=>Va S rfl rfl fun a S=>Va S rfl rfl fun a S=>Dl (Fs (Fr (Vm S rfl rfl ?_)));clear S;intro a S
         obtain ⟨r5,hr6,h⟩:=Fb h
         refine Ec S (fun _=>Dv (vs:=[sV y2]) ⟨(S.tm rfl),trivial⟩ call89) (Ie _ y2 _ hr6) rfl ?_;clear S;intro v3 a w12 hv3 hk8 hn3 S
         subst hv3
         refine Vu S Hh rfl rfl fun a S=>Ld ?_
         replace S:=S.k11 0 4 5 6 10 11 12 48 49 50 57 rfl
         refine Tn (Fc h (S.tm rfl) (fun hb7 h=>?_) (fun hb7 h=>?_))
         ·refine Fr (Vk S rfl rfl fun a S=>Dl (wp_ret (Dy (Fq (Dy (Dy (Fq ?_)))))))
          refine Dy (Dy (Fq (Dy (Dy (Fq (Dy (Dy ?_)))))))
          obtain rfl:=Option.some.inj h
          exact Eo S results58 rfl rfl
         ·refine wp_skip (Tn (Fr (Vm S rfl rfl fun a S=>Vq S Jh rfl rfl rfl fun a S=>Vm S rfl rfl ?_)));clear S;intro a S
          obtain ⟨j5,hj5,h⟩:=Eu h
          refine Hj 9 (fun a w'=>∃ c3,j5 c3 = some r ∧ Keep [] w12 w' ∧ Sx w [] nov [.blk b2 [sV y1.Key,sV y1.Race,u1.val,iV y1.Young,iV y1.Old] 82] [(0,Ac),(4,.pointer (some ⟨b2,0,none⟩)),(10,Ac),(11,iV (Ag.length : Int)),(12,iV (i1 : Int)),(48,u1.val),(49,iV (y1.Clubs.length : Int)),(50,iV (i2 : Int)),(69,bV c3)] 87 a w') ?_ ?_
          ·rcases Bool.eq_false_or_eq_true (decide (0 < (i2 : Int))) with hb8 | hb8
           ·replace h:=Qw h hb8
            refine Ea S rfl rfl rfl hb8 (Vm S rfl rfl fun a S=>Ea S rfl rfl rfl hb8 (Vf DY S rfl rfl fun a S=>Ea S rfl rfl rfl hb8 (Vl isAgg40 0 S rfl rfl rfl rfl fun a S=>Ea S rfl rfl rfl hb8 (Vm S rfl rfl fun a S=>Ea S rfl rfl rfl hb8 (Vq S Ja rfl rfl rfl fun a S=>Ea S rfl rfl rfl hb8 ?_)))))
            obtain ⟨hc2,h⟩:=Ia h
            obtain ⟨b5,o4,hm4,hr7⟩:=Fd (a:=a) (x:=.tmp 63) (y:=.tmp 65) (ty:=0) Wv hs1 (Ed hc2).1 (Ed hc2).2 (S.tm rfl) (S.tm rfl)
            refine lv S (hr7 _) rfl ?_;clear S;intro a S
            clear hr7
            exact Ea S rfl rfl rfl hb8 (lv S (Hp isAgg9 (off:=o4) (o:=0) (S.tm rfl) (hm4.at S.emb0) rfl) rfl fun a S=>Ea S rfl rfl rfl hb8 (Vb S GH rfl rfl rfl fun a S=>lv S (Hm hb8 (S.tm rfl) (S.tm rfl)) rfl fun a S=>Dl (⟨_,h,Keep.refl _ _,S.nf [true] rfl (subR rfl)⟩)))
           ·replace h:=Qx h hb8
            iterate 8 (refine Gt S rfl rfl rfl (Jq hb8) rfl ?_ rfl;clear S;intro a S)
            exact Vq S (Hn true hb8) rfl rfl rfl fun a S=>Dl (⟨_,h,Keep.refl _ _,S.nf [true] rfl (subR rfl)⟩)
          clear S h;rintro a w13 ⟨c3,h,hk9,S⟩;rw [hj5] at h;clear hj5 j5
          refine Dl (Fc h (S.tm rfl) (fun hb9 h=>?_) (fun hb9 h=>?_))
          ·refine Fr (Vk S rfl rfl fun a S=>Dl (wp_ret (Fq (Dy (Dy (Fq (Dy ?_)))))))
           refine Dy (Fq (Dy (Dy (Fq (Dy (Dy ?_))))))
           obtain rfl:=Option.some.inj h
           exact Eo S results58 rfl rfl
          ·exact wp_skip (Ho (Tn (Fg (Vq S Gf rfl rfl rfl fun a S=>Vm S rfl rfl fun a S=>Dl (⟨ys2,⟨i2 + 1,⟨_,(hd2).trans (List.append_cons _ _ _),by simp [hi2]⟩,h,S.nf [true] rfl ⟨rfl,rfl,rfl,rfl,rfl,rfl,rfl,(congrArg (fun z=>some (Value.int .i64 z)) (Hw hd2 hi2 (Jn hs1))),trivial⟩⟩,Nat.lt_succ_self _⟩)))))
       clear S h;rintro a w11 ⟨h,S⟩;rw [hj4] at h;clear hj4 j4
       refine Tn (Fr (Vf KX S rfl rfl fun a S=>Vl isAgg3 0 S rfl rfl rfl rfl fun a S=>Vq S Ex rfl rfl rfl fun a S=>Vm S rfl rfl fun a S=>Hj 6 (fun a w'=>Keep [] w11 w' ∧ Sx w [] nov [.blk b2 [sV y1.Key,sV y1.Race,u1.val,iV y1.Young,iV y1.Old] 82] [(0,Ac),(4,.pointer (some ⟨b2,0,none⟩)),(10,Ac),(11,iV (Ag.length : Int)),(12,iV (i1 : Int)),(80,bV ((decide (y1.Young < 0)) || (decide (y1.Old < y1.Young))))] 87 a w') ?_ ?_))
       ·rcases Bool.eq_false_or_eq_true (decide (y1.Young < 0)) with hb10 | hb10
        ·iterate 5 (refine Gt S rfl rfl rfl (Mh hb10) rfl ?_ rfl;clear S;intro a S)
         exact lv S (Kh (decide (y1.Old < y1.Young)) hb10 (S.tm rfl) rfl) rfl fun a S=>Dl (⟨Keep.refl _ _,S.nf [true] rfl (subR rfl)⟩)
        ·refine Ea S rfl rfl rfl hb10 (Vf KX S rfl rfl fun a S=>Ea S rfl rfl rfl hb10 (Vl isAgg3 0 S rfl rfl rfl rfl fun a S=>Ea S rfl rfl rfl hb10 (Vf KY S rfl rfl fun a S=>Ea S rfl rfl rfl hb10 (Vl isAgg3 0 S rfl rfl rfl rfl fun a S=>Ea S rfl rfl rfl hb10 (Vb S Jh rfl rfl rfl fun a S=>lv S (Ki hb10 (S.tm rfl) (S.tm rfl)) rfl ?_)))));clear S;intro a S
         exact Dl (⟨Keep.refl _ _,S.nf [true] rfl (subR rfl)⟩)
       clear S;rintro a w14 ⟨hk10,S⟩
       refine Vm S rfl rfl fun a S=>Hj 4 (fun a w'=>Keep [] w14 w' ∧ Sx w [] nov [.blk b2 [sV y1.Key,sV y1.Race,u1.val,iV y1.Young,iV y1.Old] 82] [(0,Ac),(10,Ac),(11,iV (Ag.length : Int)),(12,iV (i1 : Int)),(85,bV (((decide (y1.Young < 0)) || (decide (y1.Old < y1.Young))) || (decide (150 < y1.Old))))] 87 a w') ?_ ?_
       ·rcases Bool.eq_false_or_eq_true ((decide (y1.Young < 0)) || (decide (y1.Old < y1.Young))) with hb11 | hb11
        ·iterate 3 (refine Gt S rfl rfl rfl (Mh hb11) rfl ?_ rfl;clear S;intro a S)
         exact lv S (Kh (decide (150 < y1.Old)) hb11 (S.tm rfl) rfl) rfl fun a S=>Dl (⟨Keep.refl _ _,S.nf [true] rfl (subR rfl)⟩)
        ·exact Ea S rfl rfl rfl hb11 (Vf KY S rfl rfl fun a S=>Ea S rfl rfl rfl hb11 (Vl isAgg3 0 S rfl rfl rfl rfl fun a S=>Ea S rfl rfl rfl hb11 (Vq S Jh rfl rfl rfl fun a S=>lv S (Ki hb11 (S.tm rfl) (S.tm rfl)) rfl fun a S=>Dl (⟨Keep.refl _ _,S.nf [true] rfl (subR rfl)⟩))))
       clear S;rintro a w15 ⟨hk11,S⟩
       refine Dl (Fc h (S.tm rfl) (fun hb12 h=>?_) (fun hb12 h=>?_))
       ·refine Fr (Vk S rfl rfl fun a S=>Dl (wp_ret (Fq (Dy (Dy (Fq (Dy ?_)))))))
        refine Dy ?_
        obtain rfl:=Option.some.inj h
        exact Eo S results58 rfl rfl
       ·exact wp_skip (Ho (Tn (Fg (Vq S Gf rfl rfl rfl fun a S=>Vm S rfl rfl fun a S=>Dl (⟨ys1,⟨i1 + 1,⟨_,(hd1).trans (List.append_cons _ _ _),by simp [hi1]⟩,h,S.nf [false] rfl ⟨rfl,rfl,rfl,(congrArg (fun z=>some (Value.int .i64 z)) (Hw hd1 hi1 (Wj Ae Ck))),trivial⟩⟩,Nat.lt_succ_self _⟩)))))
  clear S h;rintro a w2 ⟨h,S⟩;rw [hj1] at h;clear hj1 j1
  refine Tn (Fr (Vk S rfl rfl fun a S=>Dl (wp_ret ?_)))
  obtain rfl:=Option.some.inj h
  exact Eo S results58 rfl rfl
theorem CK (w : World) (Ab : Kg) (r : Int) (h : Vy Ab = some r) :
    Calls prog 92 [.agg (Kg.enc Ab).toArray].toArray w (Ret w [] fun _ v _=>v = iV r):=by
 refine Fe func92 rfl ntmps92 rfl fun a S=>?_
 unfold Vy at h
 replace S:=S.k1 0 rfl
 refine Fr (My S (S.tm rfl) (cs:=(Kg.enc Ab)) rfl rfl ?_);clear S;intro a w1 b1 hz1 hk1 S
 refine Vk S rfl rfl fun a S=>Dl (Fs ?_)
 obtain ⟨j1,hj1,h⟩:=Eu h
 refine En (fun a w'=>j1 = some r ∧ Sx w [] nov [] [] 64 a w') ?_ ?_
 ·refine wp_block (Fr (Vf PM S rfl rfl fun a S=>Vl isAgg3 0 S rfl rfl rfl rfl fun a S=>Ec S (fun _=>Dv (vs:=[iV Ab.At]) ⟨(S.tm rfl),trivial⟩ call40) (Ss _ Ab.At _ rfl) rfl ?_));clear S;intro v1 a w3 hv1 hk2 hn1 S
  subst hv1
  refine Vu S Hh rfl rfl fun a S=>Va S rfl rfl fun a S=>Dl (Fc h (S.tm rfl) (fun hb1 h=>?_) (fun hb1 h=>?_))
  ·refine Fr (Vk S rfl rfl fun a S=>Dl (wp_ret (Fq (Dy (Dy ?_)))))
   obtain rfl:=Option.some.inj h
   exact Eo S results92 rfl rfl
  ·refine Fr (Vf GP S rfl rfl fun a S=>Vl isAgg3 0 S rfl rfl rfl rfl fun a S=>Ec S (fun _=>Dv (vs:=[iV Ab.Kind,iV 1,iV 3]) ⟨(S.tm rfl),rfl,rfl,trivial⟩ call48) (Fk _ Ab.Kind 1 3 _ rfl) rfl ?_);clear S;intro v2 a w4 hv2 hk3 hn2 S
   subst hv2
   refine Vu S Hh rfl rfl fun a S=>Va S rfl rfl fun a S=>Dl (Fc h (S.tm rfl) (fun hb2 h=>?_) (fun hb2 h=>?_))
   ·refine Fr (Vk S rfl rfl fun a S=>Dl (wp_ret (Fq (Dy (Dy ?_)))))
    obtain rfl:=Option.some.inj h
    exact Eo S results92 rfl rfl
   ·refine Fr (Vf PN S rfl rfl fun a S=>Vl isAgg9 0 S rfl rfl rfl rfl ?_);clear S;intro a S
    obtain ⟨r1,hr1,h⟩:=Fb h
    refine Ec S (fun _=>Dv (vs:=[sV Ab.Id]) ⟨(S.tm rfl),trivial⟩ call89) (Ie _ Ab.Id _ hr1) rfl ?_;clear S;intro v3 a w5 hv3 hk4 hn3 S
    subst hv3
    refine Vu S Hh rfl rfl fun a S=>Va S rfl rfl fun a S=>Ld ?_
    replace S:=(S.nl [.blk b1 (Kg.enc Ab) 85] [true] rfl).k2 1 13 rfl
    refine Tn (Fc h (S.tm rfl) (fun hb3 h=>?_) (fun hb3 h=>?_))
    ·refine Fr (Vk S rfl rfl fun a S=>Dl (wp_ret (Fq (Dy (Dy ?_)))))
     obtain rfl:=Option.some.inj h
     exact Eo S results92 rfl rfl
    ·refine Fr (Vf GP S rfl rfl fun a S=>Vl isAgg3 0 S rfl rfl rfl rfl fun a S=>Vq S Ky rfl rfl rfl fun a S=>Va S rfl rfl fun a S=>Dl ?_)
     obtain ⟨j2,hj2,h⟩:=Eu h
     refine En (fun a w'=>j2 = some r ∧ Sx w [] nov [] [] 64 a w') ?_ ?_
     ·refine Fc h (S.tm rfl) (fun hb4 h=>?_) (fun hb4 h=>?_)
      ·refine Fr (lv S (Fx isAgg85 sizeOf85 (off:=0) (o:=0) (part:=(Kg.enc Ab)) rfl rfl (S.tm rfl) (S.cellsAt (i:=0) rfl)) rfl fun a S=>Vf PM S rfl rfl fun a S=>Vl isAgg3 0 S rfl rfl rfl rfl fun a S=>Vf GP S rfl rfl fun a S=>Vl isAgg3 0 S rfl rfl rfl rfl fun a S=>Vf PN S rfl rfl fun a S=>Vl isAgg9 0 S rfl rfl rfl rfl fun a S=>lv S (Mj bt_85 (pv:=[(0,iV Ab.At),(1,iV Ab.Kind),(2,sV Ab.Id)]) ⟨rfl,(S.tm rfl),rfl,(S.tm rfl),rfl,(S.tm rfl),trivial⟩ (cs:=[iV Ab.At,iV Ab.Kind,sV Ab.Id,sV An,sV An,sV An,iV 0,iV 0]) (by kernel_rfl)) rfl fun a S=>lv S (RK (m:=Ab) (n:=(Kg.mk Ab.At Ab.Kind Ab.Id An An An 0 0)) (S.tm rfl) (S.tm rfl)) rfl ?_);clear S;intro a S
       refine Ld ?_
       replace S:=S.n0.k1 30 rfl
       refine Tn (Fc h (S.tm rfl) (fun hb5 h=>?_) (fun hb5 h=>?_))
       ·refine Fr (Vk S rfl rfl fun a S=>Dl (wp_ret (Dy (Fq (Dy (Dy ?_))))))
        obtain rfl:=Option.some.inj h
        exact Eo S results92 rfl rfl
       ·exact wp_skip (Tn (⟨h,S.nf [] rfl trivial⟩))
      ·refine Fr (Vf fa_85_3 S rfl rfl fun a S=>Vl isAgg9 0 S rfl rfl rfl rfl ?_);clear S;intro a S
       obtain ⟨r2,hr2,h⟩:=Fb h
       refine Ec S (fun _=>Dv (vs:=[sV Ab.Who]) ⟨(S.tm rfl),trivial⟩ call89) (Ie _ Ab.Who _ hr2) rfl ?_;clear S;intro v4 a w7 hv4 hk5 hn4 S
       subst hv4
       refine Vu S Hh rfl rfl fun a S=>Vm S rfl rfl ?_;clear S;intro a S
       obtain ⟨j3,hj3,h⟩:=Eu h
       refine Hj 5 (fun a w'=>∃ c1,j3 c1 = some r ∧ Keep [] w7 w' ∧ Sx w [] nov [.blk b1 (Kg.enc Ab) 85] [(1,.pointer (some ⟨b1,0,none⟩)),(41,bV c1)] 64 a w') ?_ ?_
       ·rcases Bool.eq_false_or_eq_true (!r2) with hb6 | hb6
        ·replace h:=Qw h hb6
         iterate 4 (refine Gt S rfl rfl rfl (Mh hb6) rfl ?_ rfl;clear S;intro a S)
         exact Vq S (Kh true hb6) rfl rfl rfl fun a S=>Dl (⟨_,h,Keep.refl _ _,S.nf [true] rfl (subR rfl)⟩)
        ·replace h:=Qx h hb6
         refine Ea S rfl rfl rfl hb6 (Vf PO S rfl rfl fun a S=>Ea S rfl rfl rfl hb6 (Vl isAgg9 0 S rfl rfl rfl rfl fun a S=>Ea S rfl rfl rfl hb6 ?_))
         obtain ⟨r3,hr3,h⟩:=Fb h
         refine Ec S (fun _=>Dv (vs:=[sV Ab.Race]) ⟨(S.tm rfl),trivial⟩ call89) (Ie _ Ab.Race _ hr3) rfl ?_;clear S;intro v5 a w9 hv5 hk6 hn5 S
         subst hv5
         exact Ea S rfl rfl rfl hb6 (Vu S Hh rfl rfl fun a S=>lv S (Ki hb6 (S.tm rfl) (S.tm rfl)) rfl fun a S=>Dl (⟨_,h,hk6,S.nf [true] rfl (subR rfl)⟩))
       clear S h;rintro a w8 ⟨c1,h,hk7,S⟩;rw [hj3] at h;clear hj3 j3
       refine Vm S rfl rfl ?_;clear S;intro a S
       obtain ⟨j4,hj4,h⟩:=Eu h
       refine Hj 10 (fun a w'=>∃ c2,j4 c2 = some r ∧ Keep [] w8 w' ∧ Sx w [] nov [.blk b1 (Kg.enc Ab) 85] [(1,.pointer (some ⟨b1,0,none⟩)),(52,bV c2)] 64 a w') ?_ ?_
       ·rcases Bool.eq_false_or_eq_true c1 with hb7 | hb7
        ·replace h:=Qw h hb7
         iterate 4 (refine Gt S rfl rfl rfl (Mh hb7) rfl ?_ rfl;clear S;intro a S)
         iterate 4 (refine Zg S rfl rfl rfl rfl ?_;clear S;intro a S)
         exact Gt S rfl rfl rfl (Mh hb7) rfl (fun a S=>Vq S (Kh true hb7) rfl rfl rfl fun a S=>Dl (⟨_,h,Keep.refl _ _,S.nf [true] rfl (subR rfl)⟩)) rfl
        ·replace h:=Qx h hb7
         refine Ea S rfl rfl rfl hb7 (Vf KZ S rfl rfl fun a S=>Ea S rfl rfl rfl hb7 (Vl isAgg9 0 S rfl rfl rfl rfl fun a S=>Ea S rfl rfl rfl hb7 (Vq S BM rfl rfl rfl fun a S=>Ea S rfl rfl rfl hb7 (Vm S rfl rfl ?_))));clear S;intro a S
         obtain ⟨j5,hj5,h⟩:=Eu h
         refine Hj 5 (fun a w'=>∃ c3,j5 c3 = some r ∧ Keep [] w8 w' ∧ Sx w [] nov [.blk b1 (Kg.enc Ab) 85] [(1,.pointer (some ⟨b1,0,none⟩)),(42,bV c1),(51,bV c3)] 64 a w') ?_ ?_
         ·rcases Bool.eq_false_or_eq_true (!decide (Ab.Club = An)) with hb8 | hb8
          ·replace h:=Qw h hb8
           refine Ea S rfl rfl rfl hb8 (Vf KZ S rfl rfl fun a S=>Ea S rfl rfl rfl hb8 (Vl isAgg9 0 S rfl rfl rfl rfl fun a S=>Ea S rfl rfl rfl hb8 ?_))
           obtain ⟨r4,hr4,h⟩:=Fb h
           refine Ec S (fun _=>Dv (vs:=[sV Ab.Club]) ⟨(S.tm rfl),trivial⟩ call89) (Ie _ Ab.Club _ hr4) rfl ?_;clear S;intro v6 a w12 hv6 hk8 hn6 S
           subst hv6
           exact Ea S rfl rfl rfl hb8 (Vu S Hh rfl rfl fun a S=>Ea S rfl rfl rfl hb7 (lv S (Hm hb8 (S.tm rfl) (S.tm rfl)) rfl fun a S=>Dl (⟨_,h,hk8,S.nf [true] rfl (subR rfl)⟩)))
          ·replace h:=Qx h hb8
           iterate 4 (refine Gt S rfl rfl rfl (Jq hb8) rfl ?_ rfl;clear S;intro a S)
           exact Ea S rfl rfl rfl hb7 (Vq S (Hn true hb8) rfl rfl rfl fun a S=>Dl (⟨_,h,Keep.refl _ _,S.nf [true] rfl (subR rfl)⟩))
         clear S h;rintro a w11 ⟨c3,h,hk9,S⟩;rw [hj5] at h;clear hj5 j5
         exact lv S (Ki hb7 (S.tm rfl) (S.tm rfl)) rfl fun a S=>Dl (⟨_,h,hk9,S.nf [true] rfl (subR rfl)⟩)
       clear S h;rintro a w10 ⟨c2,h,hk10,S⟩;rw [hj4] at h;clear hj4 j4
       refine Va S rfl rfl fun a S=>Dl (Fc h (S.tm rfl) (fun hb9 h=>?_) (fun hb9 h=>?_))
       ·refine Fr (Vk S rfl rfl fun a S=>Dl (wp_ret (Dy (Fq (Dy (Dy ?_))))))
        obtain rfl:=Option.some.inj h
        exact Eo S results92 rfl rfl
       ·refine Fr (Vf PP S rfl rfl fun a S=>Vl isAgg3 0 S rfl rfl rfl rfl fun a S=>Ec S (fun _=>Dv (vs:=[iV Ab.Age,iV 0,iV 150]) ⟨(S.tm rfl),rfl,rfl,trivial⟩ call48) (Fk _ Ab.Age 0 150 _ rfl) rfl ?_);clear S;intro v7 a w13 hv7 hk11 hn7 S
        subst hv7
        refine Vu S Hh rfl rfl fun a S=>Vm S rfl rfl fun a S=>Hj 5 (fun a w'=>Keep [] w13 w' ∧ Sx w [] nov [.blk b1 (Kg.enc Ab) 85] [(63,bV ((!(Dx Ab.Age 0 150)) || (!(Qz Ab.Time))))] 64 a w') ?_ ?_
        ·rcases Bool.eq_false_or_eq_true (!(Dx Ab.Age 0 150)) with hb10 | hb10
         ·iterate 4 (refine Gt S rfl rfl rfl (Mh hb10) rfl ?_ rfl;clear S;intro a S)
          exact lv S (Kh (!(Qz Ab.Time)) hb10 (S.tm rfl) rfl) rfl fun a S=>Dl (⟨Keep.refl _ _,S.nf [true] rfl ⟨rfl,trivial⟩⟩)
         ·refine Ea S rfl rfl rfl hb10 (Vf fa_85_7 S rfl rfl fun a S=>Ea S rfl rfl rfl hb10 (Vl isAgg3 0 S rfl rfl rfl rfl fun a S=>Ea S rfl rfl rfl hb10 (Ec S (fun _=>Dv (vs:=[iV Ab.Time]) ⟨(S.tm rfl),trivial⟩ call56) (Wa _ Ab.Time _ rfl) rfl ?_)));clear S;intro v8 a w15 hv8 hk12 hn8 S
          subst hv8
          exact Ea S rfl rfl rfl hb10 (Vu S Hh rfl rfl fun a S=>lv S (Ki hb10 (S.tm rfl) (S.tm rfl)) rfl fun a S=>Dl (⟨hk12,S.nf [true] rfl ⟨rfl,trivial⟩⟩))
        clear S;rintro a w14 ⟨hk13,S⟩
        refine Va S rfl rfl fun a S=>Dl (Fc h (S.tm rfl) (fun hb11 h=>?_) (fun hb11 h=>?_))
        ·refine Fr (Vk S rfl rfl fun a S=>Dl (wp_ret (Dy (Fq (Dy (Dy ?_))))))
         obtain rfl:=Option.some.inj h
         exact Eo S results92 rfl rfl
        ·exact wp_skip (Tn (⟨h,S.nf [false] rfl trivial⟩))
     clear S h;rintro a w6 ⟨h,S⟩;rw [hj2] at h;clear hj2 j2
     exact Ho (Tn (⟨h,S.nf [] rfl trivial⟩))
 clear S h;rintro a w2 ⟨h,S⟩;rw [hj1] at h;clear hj1 j1
 refine Tn (Fr (Vk S rfl rfl fun a S=>Dl (wp_ret ?_)))
 obtain rfl:=Option.some.inj h
 exact Eo S results92 rfl rfl
theorem CL (w : World) (Ap : Kg) (r : Int) (h : Vz Ap = some r) :
    Calls prog 59 [.agg (Kg.enc Ap).toArray].toArray w (Ret w [] fun _ v _=>v = iV r):=by
 refine Fe func59 rfl ntmps59 rfl fun a S=>?_
 unfold Vz at h
 replace S:=S.k1 0 rfl
 refine Fr (My S (S.tm rfl) (cs:=(Kg.enc Ap)) rfl rfl ?_);clear S;intro a w1 b1 hz1 hk1 S
 refine Vk S rfl rfl fun a S=>Dl (Fs (Fr (lv S (Fx isAgg85 sizeOf85 (off:=0) (o:=0) (part:=(Kg.enc Ap)) rfl rfl (S.tm rfl) (S.cellsAt (i:=0) rfl)) rfl ?_)));clear S;intro a S
 obtain ⟨r1,hr1,h⟩:=Fb h
 refine Ec S (fun _=>Dv (vs:=[.agg (Kg.enc Ap).toArray]) ⟨(S.tm rfl),trivial⟩ call92) (CK _ Ap _ hr1) rfl ?_;clear S;intro v1 a w2 hv1 hk2 hn1 S
 subst hv1
 refine Va S rfl rfl fun a S=>Dz (Vm S rfl rfl fun a S=>Vq S Ky rfl rfl rfl fun a S=>Dl (Fc h (S.tm rfl) (fun hb1 h=>?_) (fun hb1 h=>?_)))
 ·refine Fr (Vm S rfl rfl fun a S=>Va S rfl rfl fun a S=>Dl (wp_ret (Dy ?_)))
  obtain rfl:=Option.some.inj h
  exact Eo S results59 rfl rfl
 ·refine wp_skip (Tn (Fs (Fr (Vf GP S rfl rfl fun a S=>Vl isAgg3 0 S rfl rfl rfl rfl fun a S=>Vq S Ky rfl rfl rfl fun a S=>Dl (Fc h (S.tm rfl) (fun hb2 h=>?_) (fun hb2 h=>?_))))))
  ·refine Fr (Vk S rfl rfl fun a S=>Dl (wp_ret (Dy ?_)))
   obtain rfl:=Option.some.inj h
   exact Eo S results59 rfl rfl
  ·refine wp_skip (Tn (Fr (Vk S rfl rfl fun a S=>Dl (wp_ret ?_))))
   obtain rfl:=Option.some.inj h
   exact Eo S results59 rfl rfl
theorem Zv (w : World) (Aw : Value) (Ap : List ByteArray) (Bf : Slc (view w []) 1 Aw (Ap.map Xh)) (Bz : ByteArray) (r : Int) (h : Tu Ap Bz = r) :
    Calls prog 112 [Aw,sV Bz].toArray w (Ret w [] fun _ v _=>v = iV r):=by
 refine Fe func112 rfl ntmps112 rfl fun a S=>?_
 unfold Tu at h
 replace S:=S.k2 0 1 rfl
 refine Fr (Vk S rfl rfl fun a S=>Dl (Fs (Fr (Vm S rfl rfl fun a S=>lv S (Fz Wv (S.tm rfl) (Fl Bf)) rfl fun a S=>lv S (Rm rfl) rfl ?_))));clear S;intro a S
 refine Dl ?_
 replace S:=S.k4 0 1 7 8 rfl
 obtain ⟨j1,hj1,h⟩:=Eu h
 refine En (fun a w'=>j1 = r ∧ Sx w [] nov [] [] 19 a w') ?_ ?_
 ·refine wp_block (Hb (fun (ys1 : List ByteArray) a w'=>∃ i1 : Nat,(∃ dn,Ap = dn ++ ys1 ∧ dn.length = i1) ∧ Kp Bz j1 ys1 i1 = r ∧ Sx w [] nov [] [(0,Aw),(1,sV Bz),(7,iV (Ap.length : Int)),(8,iV (i1 : Int))] 19 a w') List.length Ap ⟨0,⟨[],rfl,rfl⟩,h,S.nf [] rfl (subR rfl)⟩ ?_)
  clear S h;rintro ys1 a w1 ⟨i1,⟨dn,hd1,hi1⟩,h,S⟩
  cases ys1 with
  | nil =>
   rw [Kp.eq_1] at h
   refine Fr (Vb S Ex rfl rfl rfl fun a S=>Ld ?_)
   replace S:=S.k5 0 1 7 8 9 rfl
   exact Tn (Fs (wp_cond_false ((S.tm rfl).trans (congrArg Value.bool (Io hd1 hi1))) (wp_exit (Ei (Ei (Gp (Tn (⟨h,S.nf [] rfl trivial⟩))))))))
  | cons y1 ys1 =>
   rw [Kp.eq_2] at h
   refine Fr (Vb S Ex rfl rfl rfl fun a S=>Ld ?_)
   replace S:=S.k5 0 1 7 8 9 rfl
   refine Tn (Fs (wp_cond_true ((S.tm rfl).trans (congrArg Value.bool (Hv hd1 hi1))) (wp_skip (Tn (Fs (wp_block (Fr (Vm S rfl rfl fun a S=>Va S rfl rfl ?_))))))));clear S;intro a S
   refine Dl (Fs (Fg ?_))
   iterate 3 (refine Vm S rfl rfl ?_;clear S;intro a S)
   obtain ⟨b1,o1,hm1,hr1⟩:=Fd (a:=a) (x:=.tmp 12) (y:=.tmp 13) (ty:=0) Wv Bf (Iq hd1 hi1) rfl (S.tm rfl) (S.tm rfl)
   refine lv S (hr1 _) rfl ?_;clear S;intro a S
   clear hr1
   refine lv S (Hp isAgg9 (off:=o1) (o:=0) (S.tm rfl) (hm1.at S.emb0) rfl) rfl fun a S=>Vb S Wb rfl rfl rfl fun a S=>Dl (Fc h (S.tm rfl) (fun hb1 h=>?_) (fun hb1 h=>?_))
   ·refine Fr (Vm S rfl rfl fun a S=>Va S rfl rfl fun a S=>Ld ?_)
    replace S:=S.k1 4 rfl
    refine Tn (wp_ret (Fq (Dy (Dy (Fq (Dy (Dy ?_)))))))
    subst h
    exact Eo S results112 rfl rfl
   ·exact wp_skip (Ho (Tn (Fg (Vq S Gf rfl rfl rfl fun a S=>Vm S rfl rfl fun a S=>Dl (⟨ys1,⟨i1 + 1,⟨_,(hd1).trans (List.append_cons _ _ _),by simp [hi1]⟩,h,S.nf [] rfl ⟨rfl,rfl,rfl,(congrArg (fun z=>some (Value.int .i64 z)) (Hw hd1 hi1 (Jn Bf))),trivial⟩⟩,Nat.lt_succ_self _⟩)))))
 clear S h;rintro a w2 ⟨h,S⟩;rw [hj1] at h;clear hj1 j1
 refine Tn (Fr (Vk S rfl rfl fun a S=>Dl (wp_ret ?_)))
 subst h
 exact Eo S results112 rfl rfl
theorem Xv (w : World) (Aw : Value) (Ap : List ByteArray) (Bf : Slc (view w []) 1 Aw (Ap.map Xh)) (Bz : ByteArray) (r : Bool) (h : Jp Ap Bz = r) :
    Calls prog 93 [Aw,sV Bz].toArray w (Ret w [] fun _ v _=>v = bV r):=by
 refine Fe func93 rfl ntmps93 rfl fun a S=>?_
 unfold Jp at h
 replace S:=S.k2 0 1 rfl
 refine Fr (Vk S rfl rfl fun a S=>Dz (Vm S rfl rfl fun a S=>Vm S rfl rfl fun a S=>Ec S (fun _=>Dv (vs:=[Aw,sV Bz]) ⟨(S.tm rfl),(S.tm rfl),trivial⟩ call112) (Zv _ Aw Ap (Bf.mono (S.le_arg Ej)) Bz _ rfl) rfl ?_));clear S;intro v1 a w1 hv1 hk1 hn1 S
 subst hv1
 refine Vq S Qd rfl rfl rfl fun a S=>Va S rfl rfl fun a S=>Dl (wp_ret ?_)
 subst h
 exact Eo S results93 rfl rfl
theorem GG (w : World) (Bo : Tz) (Do : R82) (Ds : AR (view w []) Bo Do) (Ap : Kg) (r : Bool) (h : Zn Bo Ap = r) :
    Calls prog 60 [.agg (R82.enc Do).toArray,.agg (Kg.enc Ap).toArray].toArray w (Ret w [] fun _ v _=>v = bV r):=by
 obtain ⟨u1,rfl,hs1⟩:=Ds
 refine Fe func60 rfl ntmps60 rfl fun a S=>?_
 unfold Zn at h
 replace S:=S.k2 0 1 rfl
 refine Fr (My S (S.tm rfl) (cs:=[sV Bo.Key,sV Bo.Race,u1.val,iV Bo.Young,iV Bo.Old]) rfl rfl ?_);clear S;intro a w1 b1 hz1 hk1 S
 refine My S (S.tm rfl) (cs:=(Kg.enc Ap)) rfl rfl ?_;clear S;intro a w2 b2 hz2 hk2 S
 refine Vk S rfl rfl fun a S=>Dz (Vf PO S rfl rfl fun a S=>Vl isAgg9 0 S rfl rfl rfl rfl fun a S=>Vf PL S rfl rfl fun a S=>Vl isAgg9 1 S rfl rfl rfl rfl fun a S=>Vb S Wb rfl rfl rfl fun a S=>Vm S rfl rfl ?_);clear S;intro a S
 refine Hj 12 (fun a w'=>Keep [] w2 w' ∧ Sx w [] nov [.blk b2 (Kg.enc Ap) 85,.blk b1 [sV Bo.Key,sV Bo.Race,u1.val,iV Bo.Young,iV Bo.Old] 82] [(2,.pointer (some ⟨b1,0,none⟩)),(3,.pointer (some ⟨b2,0,none⟩)),(22,bV ((decide (Ap.Race = Bo.Race)) && ((decide ((Bo.Clubs.length : Int) = 0)) || (Jp Bo.Clubs Ap.Club))))] 32 a w') ?_ ?_
 ·rcases Bool.eq_false_or_eq_true (decide (Ap.Race = Bo.Race)) with hb1 | hb1
  ·refine Ea S rfl rfl rfl hb1 (Vf DY S rfl rfl fun a S=>Ea S rfl rfl rfl hb1 (Vl isAgg40 1 S rfl rfl rfl rfl fun a S=>Ea S rfl rfl rfl hb1 (lv S (Fz Wv (S.tm rfl) (Fl hs1)) rfl fun a S=>Ea S rfl rfl rfl hb1 (Vq S Im rfl rfl rfl fun a S=>Ea S rfl rfl rfl hb1 (Vm S rfl rfl fun a S=>Hj 6 (fun a w'=>Keep [] w2 w' ∧ Sx w [] nov [.blk b2 (Kg.enc Ap) 85,.blk b1 [sV Bo.Key,sV Bo.Race,u1.val,iV Bo.Young,iV Bo.Old] 82] [(2,.pointer (some ⟨b1,0,none⟩)),(3,.pointer (some ⟨b2,0,none⟩)),(10,bV (decide (Ap.Race = Bo.Race))),(21,bV ((decide ((Bo.Clubs.length : Int) = 0)) || (Jp Bo.Clubs Ap.Club)))] 32 a w') ?_ ?_)))))
   ·rcases Bool.eq_false_or_eq_true (decide ((Bo.Clubs.length : Int) = 0)) with hb2 | hb2
    ·iterate 5 (refine Gt S rfl rfl rfl (Mh hb2) rfl ?_ rfl;clear S;intro a S)
     exact Ea S rfl rfl rfl hb1 (lv S (Kh (Jp Bo.Clubs Ap.Club) hb2 (S.tm rfl) rfl) rfl fun a S=>Dl (⟨Keep.refl _ _,S.nf [true,true] rfl (subR rfl)⟩))
    ·refine Ea S rfl rfl rfl hb2 (Vf DY S rfl rfl fun a S=>Ea S rfl rfl rfl hb2 (Vl isAgg40 1 S rfl rfl rfl rfl fun a S=>Ea S rfl rfl rfl hb2 (Vf KZ S rfl rfl fun a S=>Ea S rfl rfl rfl hb2 (Vl isAgg9 0 S rfl rfl rfl rfl fun a S=>Ea S rfl rfl rfl hb2 (Ec S (fun _=>Dv (vs:=[u1.val,sV Ap.Club]) ⟨(S.tm rfl),(S.tm rfl),trivial⟩ call93) (Xv _ u1.val Bo.Clubs (hs1.mono (S.le_arg Ej)) Ap.Club _ rfl) rfl ?_)))));clear S;intro v1 a w5 hv1 hk3 hn1 S
     subst hv1
     exact Ea S rfl rfl rfl hb1 (lv S (Ki hb2 (S.tm rfl) (S.tm rfl)) rfl fun a S=>Dl (⟨hk3,S.nf [true,true] rfl (subR rfl)⟩))
   clear S;rintro a w4 ⟨hk4,S⟩
   exact lv S (Hm hb1 (S.tm rfl) (S.tm rfl)) rfl fun a S=>Dl (⟨hk4,S.nf [true,true] rfl (subR rfl)⟩)
  ·iterate 5 (refine Gt S rfl rfl rfl (Jq hb1) rfl ?_ rfl;clear S;intro a S)
   iterate 5 (refine Zg S rfl rfl rfl rfl ?_;clear S;intro a S)
   exact Gt S rfl rfl rfl (Jq hb1) rfl (fun a S=>lv S (Hn ((decide ((Bo.Clubs.length : Int) = 0)) || (Jp Bo.Clubs Ap.Club)) hb1 (S.tm rfl) rfl) rfl fun a S=>Dl (⟨Keep.refl _ _,S.nf [true,true] rfl (subR rfl)⟩)) rfl
 clear S;rintro a w3 ⟨hk5,S⟩
 refine Vm S rfl rfl fun a S=>Hj 8 (fun a w'=>Keep [] w3 w' ∧ Sx w [] nov [.blk b2 (Kg.enc Ap) 85,.blk b1 [sV Bo.Key,sV Bo.Race,u1.val,iV Bo.Young,iV Bo.Old] 82] [(31,bV (((decide (Ap.Race = Bo.Race)) && ((decide ((Bo.Clubs.length : Int) = 0)) || (Jp Bo.Clubs Ap.Club))) && (Dx Ap.Age Bo.Young Bo.Old)))] 32 a w') ?_ ?_
 ·rcases Bool.eq_false_or_eq_true ((decide (Ap.Race = Bo.Race)) && ((decide ((Bo.Clubs.length : Int) = 0)) || (Jp Bo.Clubs Ap.Club))) with hb3 | hb3
  ·refine Ea S rfl rfl rfl hb3 (Vf PP S rfl rfl fun a S=>Ea S rfl rfl rfl hb3 (Vl isAgg3 0 S rfl rfl rfl rfl fun a S=>Ea S rfl rfl rfl hb3 (Vf KX S rfl rfl fun a S=>Ea S rfl rfl rfl hb3 (Vl isAgg3 1 S rfl rfl rfl rfl fun a S=>Ea S rfl rfl rfl hb3 (Vf KY S rfl rfl fun a S=>Ea S rfl rfl rfl hb3 ?_)))))
   refine Vl isAgg3 1 S rfl rfl rfl rfl fun a S=>Ea S rfl rfl rfl hb3 (Ec S (fun _=>Dv (vs:=[iV Ap.Age,iV Bo.Young,iV Bo.Old]) ⟨(S.tm rfl),(S.tm rfl),(S.tm rfl),trivial⟩ call48) (Fk _ Ap.Age Bo.Young Bo.Old _ rfl) rfl ?_);clear S;intro v2 a w7 hv2 hk6 hn2 S
   subst hv2
   exact lv S (Hm hb3 (S.tm rfl) (S.tm rfl)) rfl fun a S=>Dl (⟨hk6,S.nf [true,true] rfl ⟨rfl,trivial⟩⟩)
  ·iterate 7 (refine Gt S rfl rfl rfl (Jq hb3) rfl ?_ rfl;clear S;intro a S)
   exact lv S (Hn (Dx Ap.Age Bo.Young Bo.Old) hb3 (S.tm rfl) rfl) rfl fun a S=>Dl (⟨Keep.refl _ _,S.nf [true,true] rfl ⟨rfl,trivial⟩⟩)
 clear S;rintro a w6 ⟨hk7,S⟩
 refine Va S rfl rfl fun a S=>Dl (wp_ret ?_)
 subst h
 exact Eo S results60 rfl rfl
theorem IM (w : World) (Ac : Value) (Ag : List Tz) (Cv : List R82) (Ae : Slc (view w []) 5 Ac (Cv.map R82.enc)) (Ck : La (AR (view w [])) Ag Cv) (Ap : Kg) (r : (List ByteArray) × Int) (h : CV Ag Ap = some r) :
    Calls prog 25 [Ac,.agg (Kg.enc Ap).toArray].toArray w (Ret w [] fun τ v _=>∃ u1 : Value,v = .tuple #[u1,iV r.2] ∧ Td τ 9 1 u1 r.1.length (r.1.flatMap Xh)):=by
 refine Fe func25 rfl ntmps25 rfl fun a S=>?_
 unfold CV at h
 replace S:=S.k2 0 1 rfl
 refine Fr (My S (S.tm rfl) (cs:=(Kg.enc Ap)) rfl rfl ?_);clear S;intro a w1 b1 hz1 hk1 S
 refine Vk S rfl rfl fun a S=>Vk S rfl rfl fun a S=>Dl (Fs (Fr (Vm S rfl rfl ?_)));clear S;intro a S
 obtain ⟨r1,hr1,h⟩:=Fb h
 refine Ec S (fun _=>Dv (vs:=[Ac]) ⟨(S.tm rfl),trivial⟩ call58) (BH _ Ac Ag Cv (Ae.mono (S.le_arg Ej)) (PF (S.le_arg Ej) Ck) _ hr1) rfl ?_;clear S;intro v1 a w2 hv1 hk2 hn1 S
 subst hv1
 refine Va S rfl rfl fun a S=>Dz (Vm S rfl rfl fun a S=>Vq S Ky rfl rfl rfl fun a S=>Dl (Fc h (S.tm rfl) (fun hb1 h=>?_) (fun hb1 h=>?_)))
 ·refine Fr (Vm S rfl rfl fun a S=>Vk S rfl rfl fun a S=>Va S rfl rfl fun a S=>Dl (wp_ret (Dy ?_)))
  obtain rfl:=Option.some.inj h
  exact Lq S results25 rfl rfl ⟨_,rfl,(Ow _ _ _)⟩
 ·refine wp_skip (Tn (Fs (Fr (lv S (Fx isAgg85 sizeOf85 (off:=0) (o:=0) (part:=(Kg.enc Ap)) rfl rfl (S.tm rfl) (S.cellsAt (i:=0) rfl)) rfl ?_))));clear S;intro a S
  obtain ⟨r2,hr2,h⟩:=Fb h
  refine Ec S (fun _=>Dv (vs:=[.agg (Kg.enc Ap).toArray]) ⟨(S.tm rfl),trivial⟩ call59) (CL _ Ap _ hr2) rfl ?_;clear S;intro v2 a w3 hv2 hk3 hn2 S
  subst hv2
  refine Va S rfl rfl fun a S=>Dz (Vm S rfl rfl fun a S=>Vq S Ky rfl rfl rfl fun a S=>Ld ?_)
  replace S:=(S.nl [.blk b1 (Kg.enc Ap) 85] [true] rfl).k4 0 3 7 19 rfl
  refine Tn (Fc h (S.tm rfl) (fun hb2 h=>?_) (fun hb2 h=>?_))
  ·refine Fr (Vm S rfl rfl fun a S=>Vk S rfl rfl fun a S=>Va S rfl rfl fun a S=>Dl (wp_ret (Dy ?_)))
   obtain rfl:=Option.some.inj h
   exact Lq S results25 rfl rfl ⟨_,rfl,(Ow _ _ _)⟩
  ·refine wp_skip (Tn (Fr (Vk S rfl rfl ?_)));clear S;intro a S
   replace S:=S.nil 9 1
   refine Dl (Fs (Fr (Vm S rfl rfl fun a S=>lv S (Fz JJ (S.tm rfl) (Tx Ae Ck)) rfl fun a S=>lv S (Rm rfl) rfl fun a S=>Dl ?_)))
   replace S:=(S.nl [.own (.slice none 0 0) 9 1 ([] : List ByteArray).length (([] : List ByteArray).flatMap Xh),.blk b1 (Kg.enc Ap) 85] [true,true] rfl).k5 3 8 21 22 23 rfl
   obtain ⟨j1,hj1,h⟩:=Eu h
   refine En (fun a w'=>∃ x1 : List ByteArray,∃ v3 : Value,j1 x1 = some r ∧ Sx w [] nov [.own v3 9 1 x1.length (x1.flatMap Xh),.blk b1 (Kg.enc Ap) 85] [(8,v3)] 37 a w') ?_ ?_
   ·refine wp_block (Hb (fun (ys1 : List Tz) a w'=>∃ i1 : Nat,∃ x1 : List ByteArray,∃ v3 : Value,(∃ dn,Ag = dn ++ ys1 ∧ dn.length = i1) ∧ Ps Ap j1 ys1 i1 x1 = some r ∧ Sx w [] nov [.own v3 9 1 x1.length (x1.flatMap Xh),.blk b1 (Kg.enc Ap) 85] [(3,.pointer (some ⟨b1,0,none⟩)),(8,v3),(21,Ac),(22,iV (Ag.length : Int)),(23,iV (i1 : Int))] 37 a w') List.length Ag ⟨0,([] : List ByteArray),(.slice none 0 0),⟨[],rfl,rfl⟩,h,S.nf [true,true] rfl (subR rfl)⟩ ?_)
    clear S h;rintro ys1 a w4 ⟨i1,x1,v3,⟨dn,hd1,hi1⟩,h,S⟩
    cases ys1 with
    | nil =>
     rw [Ps.eq_1] at h
     refine Fr (Vb S Ex rfl rfl rfl fun a S=>Ld ?_)
     replace S:=S.k6 3 8 21 22 23 24 rfl
     exact Tn (Fs (wp_cond_false ((S.tm rfl).trans (congrArg Value.bool (Io hd1 hi1))) (wp_exit (Ei (Ei (Gp (Tn (⟨x1,v3,h,S.nf [true,true] rfl ⟨rfl,trivial⟩⟩))))))))
    | cons y1 ys1 =>
     rw [Ps.eq_2] at h
     refine Fr (Vb S Ex rfl rfl rfl fun a S=>Ld ?_)
     replace S:=S.k6 3 8 21 22 23 24 rfl
     refine Tn (Fs (wp_cond_true ((S.tm rfl).trans (congrArg Value.bool (Hv hd1 hi1))) (wp_skip (Tn (Fs ?_)))))
     obtain ⟨j2,hj2,h⟩:=Eu h
     refine En (fun a w'=>∃ x2 : List ByteArray,∃ v4 : Value,j2 x2 = some r ∧ Sx w [] nov [.own v4 9 1 x2.length (x2.flatMap Xh),.blk b1 (Kg.enc Ap) 85] [(3,.pointer (some ⟨b1,0,none⟩)),(8,v4),(21,Ac),(22,iV (Ag.length : Int)),(23,iV (i1 : Int))] 37 a w') ?_ ?_
     ·refine wp_block (Fs (Fg ?_))
      obtain ⟨r3,hg1,hl1⟩:=La.at Ck (Iq hd1 hi1)
      obtain ⟨u1,rfl,hs1⟩:=hl1
      obtain ⟨b2,o1,hm1,hr3⟩:=Fd (a:=a) (x:=.tmp 21) (y:=.tmp 23) (ty:=0) JJ Ae hg1 rfl (S.tm rfl) (S.tm rfl)
      refine lv S (hr3 _) rfl ?_;clear S;intro a S
      clear hr3
      refine lv S (Fx isAgg82 sizeOf82 (off:=o1) (o:=0) (part:=[sV y1.Key,sV y1.Race,u1.val,iV y1.Young,iV y1.Old]) rfl rfl (S.tm rfl) (hm1.at S.emb0)) rfl fun a S=>Hz S zeroValue82 (cs:=[sV An,sV An,.slice none 0 0,iV 0,iV 0]) rfl rfl ?_;clear S;intro a w7 b3 hz2 hk4 S
      refine Fh S (S.tm rfl) (S.tm rfl) (i:=0) (off:=0) rfl sizeOf82 (vs:=[sV y1.Key,sV y1.Race,u1.val,iV y1.Young,iV y1.Old]) rfl rfl rfl (Qn rfl (Qn rfl (Qn (Kk.one (Fl hs1)) (Qn rfl (Qn rfl rfl))))) ?_;clear S;intro w8 hk5 S
      refine Dz (lv S (Fx isAgg82 sizeOf82 (off:=0) (o:=0) (part:=[sV y1.Key,sV y1.Race,u1.val,iV y1.Young,iV y1.Old]) rfl rfl (S.tm rfl) (S.cellsAt (i:=0) rfl)) rfl fun a S=>lv S (Fx isAgg85 sizeOf85 (off:=0) (o:=0) (part:=(Kg.enc Ap)) rfl rfl (S.tm rfl) (S.cellsAt (i:=2) rfl)) rfl fun a S=>Ec S (fun _=>Dv (vs:=[.agg (R82.enc (R82.mk y1.Key y1.Race u1 y1.Young y1.Old)).toArray,.agg (Kg.enc Ap).toArray]) ⟨(S.tm rfl),(S.tm rfl),trivial⟩ call60) (GG _ y1 (R82.mk y1.Key y1.Race u1 y1.Young y1.Old) ⟨u1,rfl,(hs1.mono (S.le_arg Ej))⟩ Ap _ rfl) rfl ?_);clear S;intro v5 a w9 hv3 hk6 hn3 S
      subst hv3
      refine Dl ?_
      obtain ⟨j3,hj3,h⟩:=Eu h
      refine En (fun a w'=>∃ x3 : List ByteArray,∃ v6 : Value,j3 x3 = some r ∧ Sx w [] nov [.own v6 9 1 x3.length (x3.flatMap Xh),.blk b1 (Kg.enc Ap) 85] [(3,.pointer (some ⟨b1,0,none⟩)),(8,v6),(21,Ac),(22,iV (Ag.length : Int)),(23,iV (i1 : Int))] 37 a w') ?_ ?_
      ·refine Fc h (S.tm rfl) (fun hb3 h=>?_) (fun hb3 h=>?_)
       ·refine Fg (Vm S rfl rfl fun a S=>Vf GO S rfl rfl fun a S=>Vl isAgg9 0 S rfl rfl rfl rfl fun a S=>Et S underlying40 sizeOf9 zeroValue9 rfl rfl (pv:=[(0,sV y1.Key)]) ⟨rfl,(S.tm rfl),trivial⟩ (cs:=[sV y1.Key]) (by kernel_rfl) rfl ?_);clear S;intro a w11 b4 hz3 hk7 S
        obtain ⟨hc1,h⟩:=Ia h
        refine Mb Wv Qm S (S.tm rfl) (i:=2) rfl (S.tm rfl) (j:=0) rfl (ys:=[y1.Key]) rfl rfl rfl rfl (by have:=Mn hc1;omega) rfl ?_;clear S;intro v7 a w12 hk8 S
        refine Va S rfl rfl fun a S=>Ld ?_
        replace S:=(S.nl [.own v7 9 1 (x1 ++ [y1.Key]).length ((x1 ++ [y1.Key]).flatMap Xh),.blk b1 (Kg.enc Ap) 85] [false,false,true,true] rfl).k5 3 8 21 22 23 rfl
        exact Tn (⟨(x1 ++ [y1.Key]),v7,h,S.nf [true,true] rfl (subR rfl)⟩)
       ·exact wp_skip (Tn (⟨x1,v3,h,S.nf [false,true,true] rfl (subR rfl)⟩))
      clear S h;rintro a w10 ⟨x3,v6,h,S⟩;rw [hj3] at h;clear hj3 j3
      exact Ho (Tn (⟨x3,v6,h,S.nf [true,true] rfl (subR rfl)⟩))
     clear S h;rintro a w6 ⟨x2,v4,h,S⟩;rw [hj2] at h;clear hj2 j2
     exact Tn (Fg (Vq S Gf rfl rfl rfl fun a S=>Vm S rfl rfl fun a S=>Dl (⟨ys1,⟨i1 + 1,x2,v4,⟨_,(hd1).trans (List.append_cons _ _ _),by simp [hi1]⟩,h,S.nf [true,true] rfl ⟨rfl,rfl,rfl,rfl,(congrArg (fun z=>some (Value.int .i64 z)) (Hw hd1 hi1 (Wj Ae Ck))),trivial⟩⟩,Nat.lt_succ_self _⟩)))
   clear S h;rintro a w5 ⟨x1,v3,h,S⟩;rw [hj1] at h;clear hj1 j1
   refine Tn (Fr (Vm S rfl rfl fun a S=>Va S rfl rfl fun a S=>Vk S rfl rfl fun a S=>Dl (wp_ret ?_)))
   obtain rfl:=Option.some.inj h
   exact Lq S results25 rfl rfl ⟨_,rfl,(Sw S (i:=0) rfl rfl)⟩
theorem DE (w : World) (r : Bool) (h : Ug = some r) :
    Calls prog 10 [].toArray w (Ret w [] fun _ v _=>v = bV r):=by
 refine Fe func10 rfl ntmps10 rfl fun a S=>?_
 unfold Ug at h
 replace S:=S.k0
 refine Fr (Vk S rfl rfl fun a S=>Dz (lv S (Mj bt_71 (pv:=[(0,iV 2024),(1,iV 3),(2,iV 1)]) ⟨rfl,rfl,rfl,rfl,rfl,rfl,trivial⟩ (cs:=[iV 2024,iV 3,iV 1]) (by kernel_rfl)) rfl ?_));clear S;intro a S
 obtain ⟨r1,hr1,h⟩:=Fb h
 refine Ec S (fun _=>Dv (vs:=[.agg (Ml.enc (Ml.mk 2024 3 1)).toArray]) ⟨(S.tm rfl),trivial⟩ call22) (FD _ (Ml.mk 2024 3 1) _ hr1) rfl ?_;clear S;intro v1 a w1 hv1 hk1 hn1 S
 subst hv1
 refine Vm S rfl rfl fun a S=>Vq S Gx rfl rfl rfl fun a S=>Vq S Gx rfl rfl rfl fun a S=>Va S rfl rfl fun a S=>Va S rfl rfl fun a S=>Dz (lv S (Mj bt_74 (pv:=[(0,sV k_a),(1,iV 2),(2,iV 10),(3,iV 5)]) ⟨rfl,rfl,rfl,rfl,rfl,rfl,rfl,rfl,trivial⟩ (cs:=[sV k_a,iV 2,iV 10,iV 5,iV 0]) (by kernel_rfl)) rfl fun a S=>Et S underlying75 sizeOf74 zeroValue74 rfl rfl (pv:=[(0,.agg #[sV k_a,iV 2,iV 10,iV 5,iV 0])]) ⟨rfl,(S.tm rfl),trivial⟩ (cs:=[sV k_a,iV 2,iV 10,iV 5,iV 0]) (by kernel_rfl) rfl ?_);clear S;intro a w2 b1 hz1 hk2 S
 obtain ⟨r2,hr2,h⟩:=Fb h
 refine Ec S (fun _=>Dv (vs:=[.slice (some ⟨b1,0,none⟩) 1 1,iV 0]) ⟨(S.tm rfl),rfl,trivial⟩ call23) (GF _ (.slice (some ⟨b1,0,none⟩) 1 1) [(Nn.mk k_a 2 10 5 0)] (Jr Nn.enc_ok S (i:=0) rfl rfl rfl rfl ((Hr (e':=.blk b1 [sV k_a,iV 2,iV 10,iV 5,iV 0] 74)) _ rfl)) 0 _ hr2) rfl ?_;clear S;intro v2 a w3 hv2 hk3 hn2 S
 subst hv2
 refine Vm S rfl rfl fun a S=>Vq S Gx rfl rfl rfl fun a S=>Vq S Gx rfl rfl rfl fun a S=>Va S rfl rfl fun a S=>Va S rfl rfl fun a S=>Ld ?_
 replace S:=S.n0.k4 1 2 3 4 rfl
 refine Tn (Fr (lv S (Mj bt_78 (pv:=[(0,sV k_r),(1,iV 3000)]) ⟨rfl,rfl,rfl,rfl,trivial⟩ (cs:=[sV k_r,iV 3000]) (by kernel_rfl)) rfl fun a S=>Et S underlying79 sizeOf78 zeroValue78 rfl rfl (pv:=[(0,.agg #[sV k_r,iV 3000])]) ⟨rfl,(S.tm rfl),trivial⟩ (cs:=[sV k_r,iV 3000]) (by kernel_rfl) rfl ?_));clear S;intro a w4 b2 hz2 hk4 S
 obtain ⟨r3,hr3,h⟩:=Fb h
 refine Ec S (fun _=>Dv (vs:=[.slice (some ⟨b2,0,none⟩) 1 1,sV k_r,iV 6000]) ⟨(S.tm rfl),rfl,rfl,trivial⟩ call24) (FI _ (.slice (some ⟨b2,0,none⟩) 1 1) [(Rd.mk k_r 3000)] (Jr Rd.enc_ok S (i:=0) rfl rfl rfl rfl ((Hr (e':=.blk b2 [sV k_r,iV 3000] 78)) _ rfl)) k_r 6000 _ hr3) rfl ?_;clear S;intro v3 a w5 hv3 hk5 hn3 S
 subst hv3
 refine Vm S rfl rfl fun a S=>Vq S Gx rfl rfl rfl fun a S=>Vq S Gx rfl rfl rfl fun a S=>Va S rfl rfl fun a S=>Va S rfl rfl fun a S=>Dz (lv S (Mj bt_82 (pv:=[(0,sV k_k),(1,sV k_r),(4,iV 9)]) ⟨rfl,rfl,rfl,rfl,rfl,rfl,trivial⟩ (cs:=[sV k_k,sV k_r,.slice none 0 0,iV 0,iV 9]) (by kernel_rfl)) rfl fun a S=>Et S underlying83 sizeOf82 zeroValue82 rfl rfl (pv:=[(0,.agg #[sV k_k,sV k_r,.slice none 0 0,iV 0,iV 9])]) ⟨rfl,(S.tm rfl),trivial⟩ (cs:=[sV k_k,sV k_r,.slice none 0 0,iV 0,iV 9]) (by kernel_rfl) rfl ?_);clear S;intro a w6 b3 hz3 hk6 S
 refine lv S (Mj bt_85 (pv:=[(1,iV 1),(2,sV k_i),(3,sV k_a),(5,sV k_r),(7,iV 5)]) ⟨rfl,rfl,rfl,rfl,rfl,rfl,rfl,rfl,rfl,rfl,trivial⟩ (cs:=[iV 0,iV 1,sV k_i,sV k_a,sV An,sV k_r,iV 0,iV 5]) (by kernel_rfl)) rfl ?_;clear S;intro a S
 have hr4 : La (AR nov) ([(Tz.mk k_k k_r ([] : List ByteArray) 0 9)] : List Tz) ([(R82.mk k_k k_r ⟨.slice none 0 0,rfl⟩ 0 9)] : List R82):=(La.cons ⟨⟨.slice none 0 0,rfl⟩,rfl,(GJ _ _)⟩ La.nil)
 replace S:=S.litOwn (i:=0) (xs:=([(R82.mk k_k k_r ⟨.slice none 0 0,rfl⟩ 0 9)] : List R82)) rfl R82.enc_ok rfl rfl rfl
 replace S:=S.nk [.own (.slice (some ⟨b3,0,none⟩) 1 1) 82 5 ([(R82.mk k_k k_r ⟨.slice none 0 0,rfl⟩ 0 9)] : List R82).length (([(R82.mk k_k k_r ⟨.slice none 0 0,rfl⟩ 0 9)] : List R82).flatMap R82.enc),.blk b2 [sV k_r,iV 3000] 78] [(1,iV r1.1),(2,iV r1.2),(3,iV r2.1),(4,iV r2.2),(5,iV r3.1),(6,iV r3.2),(20,.tuple #[iV r3.1,iV r3.2]),(21,.agg #[sV k_r,iV 3000]),(22,.slice (some ⟨b2,0,none⟩) 1 1),(23,.tuple #[iV r3.1,iV r3.2]),(24,iV r3.1),(25,iV r3.2),(27,.agg #[sV k_k,sV k_r,.slice none 0 0,iV 0,iV 9]),(28,(.slice (some ⟨b3,0,none⟩) 1 1)),(29,.agg (Kg.enc (Kg.mk 0 1 k_i k_a An k_r 0 5)).toArray)] [] rfl (subR rfl)
 obtain ⟨r4,hr5,h⟩:=Fb h
 have hz4:=S.keep.size
 refine Ec S (fun _=>Dv (vs:=[(.slice (some ⟨b3,0,none⟩) 1 1),.agg (Kg.enc (Kg.mk 0 1 k_i k_a An k_r 0 5)).toArray]) ⟨(S.tm rfl),(S.tm rfl),trivial⟩ call25) (IM _ (.slice (some ⟨b3,0,none⟩) 1 1) ([(Tz.mk k_k k_r ([] : List ByteArray) 0 9)] : List Tz) ([(R82.mk k_k k_r ⟨.slice none 0 0,rfl⟩ 0 9)] : List R82) (Xi R82.enc_ok S (i:=0) rfl (Hr (e':=.own (.slice (some ⟨b3,0,none⟩) 1 1) 82 5 ([(R82.mk k_k k_r ⟨.slice none 0 0,rfl⟩ 0 9)] : List R82).length (([(R82.mk k_k k_r ⟨.slice none 0 0,rfl⟩ 0 9)] : List R82).flatMap R82.enc)))) (PF (S.le_new Ej) hr4) (Kg.mk 0 1 k_i k_a An k_r 0 5) _ hr5) rfl ?_;clear S;intro v4 a w7 hv4 hk7 hn4 S
 obtain ⟨u1,rfl,ho1⟩:=hv4
 obtain ⟨φ1,hl1,hm1,S⟩:=S.see' hn4 hz4
 have hs1:=ho1.mono hm1
 refine Vm S rfl rfl fun a S=>Vq S Gx rfl rfl rfl fun a S=>Vq S Gx rfl rfl rfl fun a S=>Va S rfl rfl fun a S=>Va S rfl rfl fun a S=>Ld ?_
 replace S:=S.n0.k8 1 2 3 4 5 6 7 8 rfl
 refine Tn (Fs (Fg ?_))
 iterate 4 (refine Vm S rfl rfl ?_;clear S;intro a S)
 refine Et S underlying67 sizeOf41 zeroValue41 rfl rfl (pv:=[(0,iV r1.2),(1,iV r2.2),(2,iV r3.2),(3,iV r4.2)]) ⟨rfl,(S.tm rfl),rfl,(S.tm rfl),rfl,(S.tm rfl),rfl,(S.tm rfl),trivial⟩ (cs:=[iV r1.2,iV r2.2,iV r3.2,iV r4.2]) (by kernel_rfl) rfl ?_;clear S;intro a w8 b4 hz5 hk8 S
 refine Ec S (fun _=>Dv (vs:=[.slice (some ⟨b4,0,none⟩) 4 4]) ⟨(S.tm rfl),trivial⟩ call9) (Yh _ (.slice (some ⟨b4,0,none⟩) 4 4) [r1.2,r2.2,r3.2,r4.2] (Jr Ih S (i:=0) rfl rfl rfl rfl ((Hr (e':=.blk b4 [iV r1.2,iV r2.2,iV r3.2,iV r4.2] 41)) _ rfl)) _ rfl) rfl ?_;clear S;intro v5 a w9 hv5 hk9 hn5 S
 subst hv5
 refine Vq S Im rfl rfl rfl fun a S=>Vm S rfl rfl fun a S=>Hj 3 (fun a w'=>Keep [] w9 w' ∧ Sx w [] φ1 [.blk b4 [iV r1.2,iV r2.2,iV r3.2,iV r4.2] 41] [(3,iV r2.1),(5,iV r3.1),(7,u1),(43,bV ((decide ((Ic [r1.2,r2.2,r3.2,r4.2]) = 0)) && (decide (r1.1 = 60))))] 57 a w') ?_ ?_
 ·rcases Bool.eq_false_or_eq_true (decide ((Ic [r1.2,r2.2,r3.2,r4.2]) = 0)) with hb1 | hb1
  ·exact Ea S rfl rfl rfl hb1 (Vm S rfl rfl fun a S=>Ea S rfl rfl rfl hb1 (Vq S Im rfl rfl rfl fun a S=>lv S (Hm hb1 (S.tm rfl) (S.tm rfl)) rfl fun a S=>Dl (⟨Keep.refl _ _,S.nf [true] rfl (subR rfl)⟩)))
  ·exact Gt S rfl rfl rfl (Jq hb1) rfl (fun a S=>Gt S rfl rfl rfl (Jq hb1) rfl (fun a S=>lv S (Hn (decide (r1.1 = 60)) hb1 (S.tm rfl) rfl) rfl fun a S=>Dl (⟨Keep.refl _ _,S.nf [true] rfl (subR rfl)⟩)) rfl) rfl
 clear S;rintro a w10 ⟨hk10,S⟩
 refine Vm S rfl rfl fun a S=>Hj 3 (fun a w'=>Keep [] w10 w' ∧ Sx w [] φ1 [.blk b4 [iV r1.2,iV r2.2,iV r3.2,iV r4.2] 41] [(5,iV r3.1),(7,u1),(47,bV (((decide ((Ic [r1.2,r2.2,r3.2,r4.2]) = 0)) && (decide (r1.1 = 60))) && (decide (r2.1 = 25))))] 57 a w') ?_ ?_
 ·rcases Bool.eq_false_or_eq_true ((decide ((Ic [r1.2,r2.2,r3.2,r4.2]) = 0)) && (decide (r1.1 = 60))) with hb2 | hb2
  ·exact Ea S rfl rfl rfl hb2 (Vm S rfl rfl fun a S=>Ea S rfl rfl rfl hb2 (Vq S Im rfl rfl rfl fun a S=>lv S (Hm hb2 (S.tm rfl) (S.tm rfl)) rfl fun a S=>Dl (⟨Keep.refl _ _,S.nf [true] rfl (subR rfl)⟩)))
  ·exact Gt S rfl rfl rfl (Jq hb2) rfl (fun a S=>Gt S rfl rfl rfl (Jq hb2) rfl (fun a S=>lv S (Hn (decide (r2.1 = 25)) hb2 (S.tm rfl) rfl) rfl fun a S=>Dl (⟨Keep.refl _ _,S.nf [true] rfl (subR rfl)⟩)) rfl) rfl
 clear S;rintro a w11 ⟨hk11,S⟩
 refine Vm S rfl rfl fun a S=>Hj 3 (fun a w'=>Keep [] w11 w' ∧ Sx w [] φ1 [.blk b4 [iV r1.2,iV r2.2,iV r3.2,iV r4.2] 41] [(7,u1),(51,bV ((((decide ((Ic [r1.2,r2.2,r3.2,r4.2]) = 0)) && (decide (r1.1 = 60))) && (decide (r2.1 = 25))) && (decide (r3.1 = 125))))] 57 a w') ?_ ?_
 ·rcases Bool.eq_false_or_eq_true (((decide ((Ic [r1.2,r2.2,r3.2,r4.2]) = 0)) && (decide (r1.1 = 60))) && (decide (r2.1 = 25))) with hb3 | hb3
  ·exact Ea S rfl rfl rfl hb3 (Vm S rfl rfl fun a S=>Ea S rfl rfl rfl hb3 (Vq S Im rfl rfl rfl fun a S=>lv S (Hm hb3 (S.tm rfl) (S.tm rfl)) rfl fun a S=>Dl (⟨Keep.refl _ _,S.nf [true] rfl (subR rfl)⟩)))
  ·exact Gt S rfl rfl rfl (Jq hb3) rfl (fun a S=>Gt S rfl rfl rfl (Jq hb3) rfl (fun a S=>lv S (Hn (decide (r3.1 = 125)) hb3 (S.tm rfl) rfl) rfl fun a S=>Dl (⟨Keep.refl _ _,S.nf [true] rfl (subR rfl)⟩)) rfl) rfl
 clear S;rintro a w12 ⟨hk12,S⟩
 refine Vm S rfl rfl fun a S=>Hj 4 (fun a w'=>Keep [] w12 w' ∧ Sx w [] φ1 [.blk b4 [iV r1.2,iV r2.2,iV r3.2,iV r4.2] 41] [(56,bV (((((decide ((Ic [r1.2,r2.2,r3.2,r4.2]) = 0)) && (decide (r1.1 = 60))) && (decide (r2.1 = 25))) && (decide (r3.1 = 125))) && (decide ((r4.1.length : Int) = 1))))] 57 a w') ?_ ?_
 ·rcases Bool.eq_false_or_eq_true ((((decide ((Ic [r1.2,r2.2,r3.2,r4.2]) = 0)) && (decide (r1.1 = 60))) && (decide (r2.1 = 25))) && (decide (r3.1 = 125))) with hb4 | hb4
  ·exact Ea S rfl rfl rfl hb4 (Vm S rfl rfl fun a S=>Ea S rfl rfl rfl hb4 (lv S (Fz Wv (S.tm rfl) (Fl (He Qm hs1))) rfl fun a S=>Ea S rfl rfl rfl hb4 (Vq S Im rfl rfl rfl fun a S=>lv S (Hm hb4 (S.tm rfl) (S.tm rfl)) rfl fun a S=>Dl (⟨Keep.refl _ _,S.nf [true] rfl ⟨rfl,trivial⟩⟩))))
  ·iterate 3 (refine Gt S rfl rfl rfl (Jq hb4) rfl ?_ rfl;clear S;intro a S)
   exact lv S (Hn (decide ((r4.1.length : Int) = 1)) hb4 (S.tm rfl) rfl) rfl fun a S=>Dl (⟨Keep.refl _ _,S.nf [true] rfl ⟨rfl,trivial⟩⟩)
 clear S;rintro a w13 ⟨hk13,S⟩
 refine Va S rfl rfl fun a S=>Dl (wp_ret ?_)
 obtain rfl:=Option.some.inj h
 exact Eo S results10 rfl rfl
set_option maxRecDepth 20000 in
theorem Wt (w : World) (Ac : Value) (Ag : List Int) (Ae : Slc (view w []) 1 Ac (Ag.map eInt)) (r : Bool) (h : Ol Ag = some r) :
    Calls prog 3 [Ac].toArray w (Ret w [] fun _ v _=>v = bV r):=by
 refine Fe func3 rfl ntmps3 rfl fun a S=>?_
 unfold Ol at h
 replace S:=S.k1 0 rfl
 refine Fr (Vk S rfl rfl fun a S=>Dz (Vm S rfl rfl ?_));clear S;intro a S
 refine lv S (Mj bt_25 (pv:=[(0,Ac)]) ⟨rfl,(S.tm rfl),trivial⟩ (cs:=[Ac,iV 0]) (by obtain ⟨_,_,hv⟩:=(Fl Ae);rw [hv];clear hv;kernel_rfl)) rfl ?_;clear S;intro a S
 refine My S (S.tm rfl) (cs:=[Ac,iV 0]) rfl rfl ?_;clear S;intro a w1 b1 hz1 hk1 S
 refine Va S rfl rfl fun a S=>Dz (Vm S rfl rfl ?_);clear S;intro a S
 obtain ⟨r1,hr1,h⟩:=Fb h
 have hz2:=S.keep.size
 refine Hg 0 S (b:=b1) rfl rfl (fun _=>.blk b1 [Ac,iV r1.2] 25) (fun _=>Dv (vs:=[.pointer (some ⟨b1,0,none⟩)]) ⟨(S.tm rfl),trivial⟩ call4) (CE _ b1 Ac Ag (Ae.mono (S.le_arg (Ip (i:=0) (e:=.blk b1 [Ac,iV 0] 25) rfl))) 0 (S.holds _ (List.mem_of_getElem? (i:=0) rfl)) _ hr1) rfl (fun _ _ _ h=>⟨h.1,fun _ hc=>by cases hc;rfl⟩) ?_;clear S;intro v1 a w2 hv1 hk2 hn1 S
 replace hv1:=hv1.2
 obtain ⟨q1,rfl,hq1⟩:=hv1
 obtain ⟨φ1,hl1,hm1,S⟩:=S.see' hn1 hz2
 obtain ⟨u2,u3,rfl,hs1,⟨u4,rfl,hs2⟩⟩:=Yd hm1 _ _ hq1
 refine Vm S rfl rfl fun a S=>Vm S rfl rfl ?_;clear S;intro a S
 obtain ⟨r2,hr2,h⟩:=Fb h
 refine Hg 0 S (b:=b1) rfl rfl (fun _=>.blk b1 [Ac,iV r2.2] 25) (fun _=>Dv (vs:=[.pointer (some ⟨b1,0,none⟩),iV 0,iV 12]) ⟨(S.tm rfl),rfl,rfl,trivial⟩ call6) (Ph _ b1 Ac Ag (Ae.mono (S.le_arg (Ip (i:=0) (e:=.blk b1 [Ac,iV r1.2] 25) rfl))) r1.2 (S.holds _ (List.mem_of_getElem? (i:=0) rfl)) 0 12 _ hr2) rfl (fun _ _ _ h=>⟨h.1,fun _ hc=>by cases hc;rfl⟩) ?_;clear S;intro v2 a w3 hv2 hk3 hn2 S
 replace hv2:=hv2.2
 subst hv2
 obtain ⟨r3,hr3,h⟩:=Fb h
 have hz3:=S.keep.size
 refine Hg 0 S (b:=b1) rfl rfl (fun _=>.blk b1 [Ac,iV r3.2] 25) (fun _=>Dv (vs:=[.pointer (some ⟨b1,0,none⟩),iV r2.1]) ⟨(S.tm rfl),(S.tm rfl),trivial⟩ call5) (BB _ b1 Ac Ag (Ae.mono (S.le_arg (Ip (i:=0) (e:=.blk b1 [Ac,iV r2.2] 25) rfl))) r2.2 (S.holds _ (List.mem_of_getElem? (i:=0) rfl)) r2.1 _ hr3) rfl (fun _ _ _ h=>⟨h.1,fun _ hc=>by cases hc;rfl⟩) ?_;clear S;intro v3 a w4 hv3 hk4 hn3 S
 replace hv3:=hv3.2
 obtain ⟨φ2,hl2,hm2,S⟩:=S.see' hn3 hz3
 have hs3:=hv3.mono hm2
 refine Hz S zeroValue32 (cs:=[.slice none 0 0,.slice none 0 0,iV 0,iV 0,iV 0,iV 0,iV 0]) rfl rfl ?_;clear S;intro a w5 b2 hz4 hk5 S
 refine Fh S (S.tm rfl) (S.tm rfl) (i:=0) (off:=0) rfl sizeOf32 (vs:=[u2.val,u4.val,iV r1.1.Table.Relay,iV r1.1.Table.Most,iV r1.1.Final.Size,iV r1.1.Final.Many,iV r1.1.Final.Reserves]) rfl rfl rfl (Qn (Kk.one (Fl hs1)) (Qn (Kk.one (Fl hs2)) (Qn rfl (Qn rfl (Qn rfl (Qn rfl (Qn rfl rfl))))))) ?_;clear S;intro w6 hk6 S
 refine Va S rfl rfl fun a S=>Dz (lv S (Mj JL (pv:=[(0,sV Ix),(1,iV 1),(2,iV 500),(3,iV 3),(4,sV Ok),(6,sV Mv),(7,iV 5000)]) ⟨rfl,rfl,rfl,rfl,rfl,rfl,rfl,rfl,rfl,rfl,rfl,rfl,rfl,rfl,trivial⟩ (cs:=[sV Ix,iV 1,iV 500,iV 3,sV Ok,sV An,sV Mv,iV 5000,iV 0,sV An,iV 0]) (by kernel_rfl)) rfl fun a S=>Hz S zeroValue38 (cs:=[sV An,iV 0,iV 0,iV 0,sV An,sV An,sV An,iV 0,iV 0,sV An,iV 0]) rfl rfl ?_);clear S;intro a w7 b3 hz5 hk7 S
 refine Fh S (S.tm rfl) (S.tm rfl) (i:=0) (off:=0) rfl sizeOf38 (vs:=(Dt.enc (Dt.mk Ix 1 500 3 Ok An Mv 5000 0 An 0))) rfl rfl rfl rfl ?_;clear S;intro w8 hk8 S
 refine Ld ?_
 replace S:=(S.nl [.blk b3 (Dt.enc (Dt.mk Ix 1 500 3 Ok An Mv 5000 0 An 0)) 38,.blk b2 [u2.val,u4.val,iV r1.1.Table.Relay,iV r1.1.Table.Most,iV r1.1.Final.Size,iV r1.1.Final.Many,iV r1.1.Final.Reserves] 32] [true,true,false] rfl).k3 4 5 6 rfl
 refine Tn (Fr (lv S (Mj JL (pv:=[(0,sV Ix),(1,iV 2),(2,iV 501),(3,iV 4),(9,sV Ix),(10,iV 1)]) ⟨rfl,rfl,rfl,rfl,rfl,rfl,rfl,rfl,rfl,rfl,rfl,rfl,trivial⟩ (cs:=[sV Ix,iV 2,iV 501,iV 4,sV An,sV An,sV An,iV 0,iV 0,sV Ix,iV 1]) (by kernel_rfl)) rfl fun a S=>Hz S zeroValue38 (cs:=[sV An,iV 0,iV 0,iV 0,sV An,sV An,sV An,iV 0,iV 0,sV An,iV 0]) rfl rfl ?_));clear S;intro a w9 b4 hz6 hk9 S
 refine Fh S (S.tm rfl) (S.tm rfl) (i:=0) (off:=0) rfl sizeOf38 (vs:=(Dt.enc (Dt.mk Ix 2 501 4 An An An 0 0 Ix 1))) rfl rfl rfl rfl ?_;clear S;intro w10 hk10 S
 refine Dz (lv S (Mj JL (pv:=[(0,sV Ix),(1,iV 3),(2,iV 502),(3,iV 4),(9,sV Ix),(10,iV 2)]) ⟨rfl,rfl,rfl,rfl,rfl,rfl,rfl,rfl,rfl,rfl,rfl,rfl,trivial⟩ (cs:=[sV Ix,iV 3,iV 502,iV 4,sV An,sV An,sV An,iV 0,iV 0,sV Ix,iV 2]) (by kernel_rfl)) rfl fun a S=>Hz S zeroValue38 (cs:=[sV An,iV 0,iV 0,iV 0,sV An,sV An,sV An,iV 0,iV 0,sV An,iV 0]) rfl rfl ?_);clear S;intro a w11 b5 hz7 hk11 S
 refine Fh S (S.tm rfl) (S.tm rfl) (i:=0) (off:=0) rfl sizeOf38 (vs:=(Dt.enc (Dt.mk Ix 3 502 4 An An An 0 0 Ix 2))) rfl rfl rfl rfl ?_;clear S;intro w12 hk12 S
 refine Dl (Fs ?_)
 obtain ⟨j1,hj1,h⟩:=Eu h
 refine En (fun a w'=>∃ x1 : List Dt,∃ v4 : Value,j1 x1 = some r ∧ Sx w [] φ2 [.own v4 38 11 x1.length (x1.flatMap Dt.enc),.blk b2 [u2.val,u4.val,iV r1.1.Table.Relay,iV r1.1.Table.Most,iV r1.1.Final.Size,iV r1.1.Final.Many,iV r1.1.Final.Reserves] 32] [(4,.pointer (some ⟨b2,0,none⟩)),(9,v4)] 63 a w') ?_ ?_
 ·obtain ⟨r4,hr4,h⟩:=Fb h
  obtain ⟨hc1,h⟩:=Ia h
  refine Hd [] ([]) Tryz.mixed S rfl (by kernel_rfl) ?_;clear S;intro w17 hk16 hsel S
  refine Ef 0 S hsel rfl rfl rfl (by kernel_rfl) (by kernel_rfl) rfl (fun _ hw=>(Rm (S.tm rfl))) fun a S=>Ef 2 S hsel rfl rfl rfl (by kernel_rfl) (by kernel_rfl) rfl (fun _ hw=>(Fx isAgg38 sizeOf38 (off:=0) (o:=0) (part:=(Dt.enc (Dt.mk Ix 1 500 3 Ok An Mv 5000 0 An 0))) rfl rfl (S.tm rfl) ((S.blk_mem (i:=2) (cells:=(Dt.enc (Dt.mk Ix 1 500 3 Ok An Mv 5000 0 An 0))) (b:=b3) (T:=38) rfl (Hr (e':=.blk b3 (Dt.enc (Dt.mk Ix 1 500 3 Ok An Mv 5000 0 An 0)) 38))).kept hw))) fun a S=>Ef 3 S hsel rfl rfl rfl (by kernel_rfl) (by kernel_rfl) rfl (fun _ hw=>(Fx isAgg38 sizeOf38 (off:=0) (o:=0) (part:=(Dt.enc (Dt.mk Ix 2 501 4 An An An 0 0 Ix 1))) rfl rfl (S.tm rfl) ((S.blk_mem (i:=1) (cells:=(Dt.enc (Dt.mk Ix 2 501 4 An An An 0 0 Ix 1))) (b:=b4) (T:=38) rfl (Hr (e':=.blk b4 (Dt.enc (Dt.mk Ix 2 501 4 An An An 0 0 Ix 1)) 38))).kept hw))) fun a S=>Ef 4 S hsel rfl rfl rfl (by kernel_rfl) (by kernel_rfl) rfl (fun _ hw=>(Fx isAgg38 sizeOf38 (off:=0) (o:=0) (part:=(Dt.enc (Dt.mk Ix 3 502 4 An An An 0 0 Ix 2))) rfl rfl (S.tm rfl) ((S.blk_mem (i:=0) (cells:=(Dt.enc (Dt.mk Ix 3 502 4 An An An 0 0 Ix 2))) (b:=b5) (T:=38) rfl (Hr (e':=.blk b5 (Dt.enc (Dt.mk Ix 3 502 4 An An An 0 0 Ix 2)) 38))).kept hw))) fun a S=>d_loud2 1 5 (by kernel_rfl) rfl rfl ?_ ?_
  ·have hz10:=S.keep.size
   refine Ec S (fun _=>Dv (vs:=[v3]) ⟨(S.tm rfl),trivial⟩ call7) (Wn _ v3 r3.1 ((He Dt.enc_ok hs3).mono (S.le_new Ej)) _ hr4) rfl ?_;clear S;intro v7 a w18 hv5 hk17 hn5 S
   replace S:=S.take hn5 hz10 hv5
   refine Ld (PA (v7.ownBlock.toList) hk17 (newO hv5) (Gw 5 (by kernel_rfl) rfl (Et S underlying34 sizeOf38 zeroValue38 rfl rfl (pv:=[(0,.agg (Dt.enc (Dt.mk Ix 1 500 3 Ok An Mv 5000 0 An 0)).toArray),(1,.agg (Dt.enc (Dt.mk Ix 2 501 4 An An An 0 0 Ix 1)).toArray),(2,.agg (Dt.enc (Dt.mk Ix 3 502 4 An An An 0 0 Ix 2)).toArray)]) ⟨rfl,(S.tm rfl),rfl,(S.tm rfl),rfl,(S.tm rfl),trivial⟩ (cs:=[sV Ix,iV 1,iV 500,iV 3,sV Ok,sV An,sV Mv,iV 5000,iV 0,sV An,iV 0,sV Ix,iV 2,iV 501,iV 4,sV An,sV An,sV An,iV 0,iV 0,sV Ix,iV 1,sV Ix,iV 3,iV 502,iV 4,sV An,sV An,sV An,iV 0,iV 0,sV Ix,iV 2]) (by kernel_rfl) rfl ?_)));clear S;intro a w19 b7 hz11 hk18 S
   refine Ld (Hx (Keep.none hk18) (Gw 6 (by kernel_rfl) rfl ?_))
   refine Mb Ni Dt.enc_ok S (S.tm rfl) (i:=1) rfl (S.tm rfl) (j:=0) rfl (ys:=[(Dt.mk Ix 1 500 3 Ok An Mv 5000 0 An 0),(Dt.mk Ix 2 501 4 An An An 0 0 Ix 1),(Dt.mk Ix 3 502 4 An An An 0 0 Ix 2)]) rfl rfl rfl rfl (by have:=Mn hc1;omega) rfl ?_;clear S;intro v8 a w20 hk19 S
   refine Ld (Hx hk19 (Kz [7] hsel (by kernel_rfl) rfl ?_))
   clear hsel
   refine Gk S rfl (Ra (S.tm rfl)) rfl fun a S=>Ig ?_
   replace S:=(S.nl [.own v8 38 11 (r4 ++ [(Dt.mk Ix 1 500 3 Ok An Mv 5000 0 An 0),(Dt.mk Ix 2 501 4 An An An 0 0 Ix 1),(Dt.mk Ix 3 502 4 An An An 0 0 Ix 2)]).length ((r4 ++ [(Dt.mk Ix 1 500 3 Ok An Mv 5000 0 An 0),(Dt.mk Ix 2 501 4 An An An 0 0 Ix 1),(Dt.mk Ix 3 502 4 An An An 0 0 Ix 2)]).flatMap Dt.enc),.blk b2 [u2.val,u4.val,iV r1.1.Table.Relay,iV r1.1.Table.Most,iV r1.1.Final.Size,iV r1.1.Final.Many,iV r1.1.Final.Reserves] 32] [false,true,false,false,false,true] rfl).k2 4 9 rfl
   exact Tn (⟨(r4 ++ [(Dt.mk Ix 1 500 3 Ok An Mv 5000 0 An 0),(Dt.mk Ix 2 501 4 An An An 0 0 Ix 1),(Dt.mk Ix 3 502 4 An An An 0 0 Ix 2)]),v8,h,S.nf [true,true] rfl (subR rfl)⟩)
  ·refine Et S underlying34 sizeOf38 zeroValue38 rfl rfl (pv:=[(0,.agg (Dt.enc (Dt.mk Ix 1 500 3 Ok An Mv 5000 0 An 0)).toArray),(1,.agg (Dt.enc (Dt.mk Ix 2 501 4 An An An 0 0 Ix 1)).toArray),(2,.agg (Dt.enc (Dt.mk Ix 3 502 4 An An An 0 0 Ix 2)).toArray)]) ⟨rfl,(S.tm rfl),rfl,(S.tm rfl),rfl,(S.tm rfl),trivial⟩ (cs:=[sV Ix,iV 1,iV 500,iV 3,sV Ok,sV An,sV Mv,iV 5000,iV 0,sV An,iV 0,sV Ix,iV 2,iV 501,iV 4,sV An,sV An,sV An,iV 0,iV 0,sV Ix,iV 1,sV Ix,iV 3,iV 502,iV 4,sV An,sV An,sV An,iV 0,iV 0,sV Ix,iV 2]) (by kernel_rfl) rfl ?_;clear S;intro a w21 b8 hz12 hk20 S
   refine Ld (Hx hk20 (Gw 1 (by kernel_rfl) rfl ?_))
   have hz13:=S.keep.size
   refine Ec S (fun _=>Dv (vs:=[v3]) ⟨(S.tm rfl),trivial⟩ call7) (Wn _ v3 r3.1 ((He Dt.enc_ok hs3).mono (S.le_new Ej)) _ hr4) rfl ?_;clear S;intro v9 a w22 hv6 hk21 hn6 S
   replace S:=S.take hn6 hz13 hv6
   refine Ld (PA (v9.ownBlock.toList) hk21 (newO hv6) (Gw 6 (by kernel_rfl) rfl ?_))
   refine Mb Ni Dt.enc_ok S (S.tm rfl) (i:=0) rfl (S.tm rfl) (j:=1) rfl (ys:=[(Dt.mk Ix 1 500 3 Ok An Mv 5000 0 An 0),(Dt.mk Ix 2 501 4 An An An 0 0 Ix 1),(Dt.mk Ix 3 502 4 An An An 0 0 Ix 2)]) rfl rfl rfl rfl (by have:=Mn hc1;omega) rfl ?_;clear S;intro v10 a w23 hk22 S
   refine Ld (Hx hk22 (Kz [7] hsel (by kernel_rfl) rfl ?_))
   clear hsel
   refine Gk S rfl (Ra (S.tm rfl)) rfl fun a S=>Ig ?_
   replace S:=(S.nl [.own v10 38 11 (r4 ++ [(Dt.mk Ix 1 500 3 Ok An Mv 5000 0 An 0),(Dt.mk Ix 2 501 4 An An An 0 0 Ix 1),(Dt.mk Ix 3 502 4 An An An 0 0 Ix 2)]).length ((r4 ++ [(Dt.mk Ix 1 500 3 Ok An Mv 5000 0 An 0),(Dt.mk Ix 2 501 4 An An An 0 0 Ix 1),(Dt.mk Ix 3 502 4 An An An 0 0 Ix 2)]).flatMap Dt.enc),.blk b2 [u2.val,u4.val,iV r1.1.Table.Relay,iV r1.1.Table.Most,iV r1.1.Final.Size,iV r1.1.Final.Many,iV r1.1.Final.Reserves] 32] [true,false,false,false,false,true] rfl).k2 4 9 rfl
   exact Tn (⟨(r4 ++ [(Dt.mk Ix 1 500 3 Ok An Mv 5000 0 An 0),(Dt.mk Ix 2 501 4 An An An 0 0 Ix 1),(Dt.mk Ix 3 502 4 An An An 0 0 Ix 2)]),v10,h,S.nf [true,true] rfl (subR rfl)⟩)
 clear S h;rintro a w13 ⟨x1,v4,h,S⟩;rw [hj1] at h;clear hj1 j1
 refine Tn (Fr (lv S (Fx isAgg32 sizeOf32 (off:=0) (o:=0) (part:=[u2.val,u4.val,iV r1.1.Table.Relay,iV r1.1.Table.Most,iV r1.1.Final.Size,iV r1.1.Final.Many,iV r1.1.Final.Reserves]) rfl rfl (S.tm rfl) (S.cellsAt (i:=1) rfl)) rfl fun a S=>Vm S rfl rfl ?_));clear S;intro a S
 obtain ⟨r5,hr5,h⟩:=Fb h
 have hz14:=S.keep.size
 refine Ec S (fun _=>Dv (vs:=[.agg (R32.enc (R32.mk u2 (R28.mk u4 r1.1.Table.Relay r1.1.Table.Most) r1.1.Final)).toArray,v4,iV 499,iV 501]) ⟨(S.tm rfl),(S.tm rfl),rfl,rfl,trivial⟩ call8) (Zz _ r1.1 (R32.mk u2 (R28.mk u4 r1.1.Table.Relay r1.1.Table.Most) r1.1.Final) ⟨u2,(R28.mk u4 r1.1.Table.Relay r1.1.Table.Most),rfl,(hs1.mono (View.le_trans hl2 (S.le_new Ej))),⟨u4,rfl,(hs2.mono (View.le_trans hl2 (S.le_new Ej)))⟩⟩ v4 x1 (Xi Dt.enc_ok S (i:=0) rfl (Hr (e':=.own v4 38 11 x1.length (x1.flatMap Dt.enc)))) 499 501 _ hr5) rfl ?_;clear S;intro v11 a w24 hv7 hk23 hn7 S
 obtain ⟨u9,rfl,ho6⟩:=hv7
 obtain ⟨φ3,hl3,hm3,S⟩:=S.see' hn7 hz14
 have hs4:=ho6.mono hm3
 refine Vm S rfl rfl fun a S=>Vq S Gx rfl rfl rfl fun a S=>Vq S Gx rfl rfl rfl fun a S=>Va S rfl rfl fun a S=>Va S rfl rfl fun a S=>Dz (lv S (Fx isAgg32 sizeOf32 (off:=0) (o:=0) (part:=[u2.val,u4.val,iV r1.1.Table.Relay,iV r1.1.Table.Most,iV r1.1.Final.Size,iV r1.1.Final.Many,iV r1.1.Final.Reserves]) rfl rfl (S.tm rfl) (S.cellsAt (i:=1) rfl)) rfl fun a S=>Vm S rfl rfl ?_);clear S;intro a S
 obtain ⟨r6,hr6,h⟩:=Fb h
 have hz15:=S.keep.size
 refine Ec S (fun _=>Dv (vs:=[.agg (R32.enc (R32.mk u2 (R28.mk u4 r1.1.Table.Relay r1.1.Table.Most) r1.1.Final)).toArray,v4,iV 500,iV 502]) ⟨(S.tm rfl),(S.tm rfl),rfl,rfl,trivial⟩ call8) (Zz _ r1.1 (R32.mk u2 (R28.mk u4 r1.1.Table.Relay r1.1.Table.Most) r1.1.Final) ⟨u2,(R28.mk u4 r1.1.Table.Relay r1.1.Table.Most),rfl,(hs1.mono (View.le_trans (View.le_trans hl2 hl3) (S.le_new Ej))),⟨u4,rfl,(hs2.mono (View.le_trans (View.le_trans hl2 hl3) (S.le_new Ej)))⟩⟩ v4 x1 (Xi Dt.enc_ok S (i:=0) rfl (Hr (e':=.own v4 38 11 x1.length (x1.flatMap Dt.enc)))) 500 502 _ hr6) rfl ?_;clear S;intro v12 a w25 hv8 hk24 hn8 S
 obtain ⟨u10,rfl,ho7⟩:=hv8
 obtain ⟨φ4,hl4,hm4,S⟩:=S.see' hn8 hz15
 have hs5:=ho7.mono hm4
 refine Vm S rfl rfl fun a S=>Vq S Gx rfl rfl rfl fun a S=>Vq S Gx rfl rfl rfl fun a S=>Va S rfl rfl fun a S=>Va S rfl rfl fun a S=>Ld ?_
 replace S:=S.n0.k4 10 11 12 13 rfl
 refine Tn (Fr (Vm S rfl rfl fun a S=>Vm S rfl rfl fun a S=>Et S underlying67 sizeOf41 zeroValue41 rfl rfl (pv:=[(0,iV r5.2),(1,iV r6.2)]) ⟨rfl,(S.tm rfl),rfl,(S.tm rfl),trivial⟩ (cs:=[iV r5.2,iV r6.2]) (by kernel_rfl) rfl ?_));clear S;intro a w26 b9 hz16 hk25 S
 refine Ec S (fun _=>Dv (vs:=[.slice (some ⟨b9,0,none⟩) 2 2]) ⟨(S.tm rfl),trivial⟩ call9) (Yh _ (.slice (some ⟨b9,0,none⟩) 2 2) [r5.2,r6.2] (Jr Ih S (i:=0) rfl rfl rfl rfl ((Hr (e':=.blk b9 [iV r5.2,iV r6.2] 41)) _ rfl)) _ rfl) rfl ?_;clear S;intro v13 a w27 hv9 hk26 hn9 S
 subst hv9
 refine Vq S Im rfl rfl rfl fun a S=>Vm S rfl rfl fun a S=>Hj 4 (fun a w'=>Keep [] w27 w' ∧ Sx w [] φ4 [.blk b9 [iV r5.2,iV r6.2] 41] [(12,u10),(54,bV ((decide ((Ic [r5.2,r6.2]) = 0)) && (decide ((r5.1.length : Int) = 0))))] 63 a w') ?_ ?_
 ·rcases Bool.eq_false_or_eq_true (decide ((Ic [r5.2,r6.2]) = 0)) with hb1 | hb1
  ·exact Ea S rfl rfl rfl hb1 (Vm S rfl rfl fun a S=>Ea S rfl rfl rfl hb1 (lv S (Fz Wv (S.tm rfl) (Fl (He Qm hs4))) rfl fun a S=>Ea S rfl rfl rfl hb1 (Vq S Im rfl rfl rfl fun a S=>lv S (Hm hb1 (S.tm rfl) (S.tm rfl)) rfl fun a S=>Dl (⟨Keep.refl _ _,S.nf [true] rfl (subR rfl)⟩))))
  ·iterate 3 (refine Gt S rfl rfl rfl (Jq hb1) rfl ?_ rfl;clear S;intro a S)
   exact lv S (Hn (decide ((r5.1.length : Int) = 0)) hb1 (S.tm rfl) rfl) rfl fun a S=>Dl (⟨Keep.refl _ _,S.nf [true] rfl (subR rfl)⟩)
 clear S;rintro a w28 ⟨hk27,S⟩
 refine Vm S rfl rfl fun a S=>Hj 4 (fun a w'=>Keep [] w28 w' ∧ Sx w [] φ4 [.blk b9 [iV r5.2,iV r6.2] 41] [(59,bV (((decide ((Ic [r5.2,r6.2]) = 0)) && (decide ((r5.1.length : Int) = 0))) && (decide ((r6.1.length : Int) = 0))))] 63 a w') ?_ ?_
 ·rcases Bool.eq_false_or_eq_true ((decide ((Ic [r5.2,r6.2]) = 0)) && (decide ((r5.1.length : Int) = 0))) with hb2 | hb2
  ·exact Ea S rfl rfl rfl hb2 (Vm S rfl rfl fun a S=>Ea S rfl rfl rfl hb2 (lv S (Fz Wv (S.tm rfl) (Fl (He Qm hs5))) rfl fun a S=>Ea S rfl rfl rfl hb2 (Vq S Im rfl rfl rfl fun a S=>lv S (Hm hb2 (S.tm rfl) (S.tm rfl)) rfl fun a S=>Dl (⟨Keep.refl _ _,S.nf [true] rfl ⟨rfl,trivial⟩⟩))))
  ·iterate 3 (refine Gt S rfl rfl rfl (Jq hb2) rfl ?_ rfl;clear S;intro a S)
   exact lv S (Hn (decide ((r6.1.length : Int) = 0)) hb2 (S.tm rfl) rfl) rfl fun a S=>Dl (⟨Keep.refl _ _,S.nf [true] rfl ⟨rfl,trivial⟩⟩)
 clear S;rintro a w29 ⟨hk28,S⟩
 refine Vm S rfl rfl ?_;clear S;intro a S
 obtain ⟨j2,hj2,h⟩:=Eu h
 refine Hj 2 (fun a w'=>∃ c1,j2 c1 = some r ∧ Keep [] w29 w' ∧ Sx w [] φ4 [.blk b9 [iV r5.2,iV r6.2] 41] [(62,bV c1)] 63 a w') ?_ ?_
 ·rcases Bool.eq_false_or_eq_true (((decide ((Ic [r5.2,r6.2]) = 0)) && (decide ((r5.1.length : Int) = 0))) && (decide ((r6.1.length : Int) = 0))) with hb3 | hb3
  ·replace h:=Qw h hb3
   refine Ea S rfl rfl rfl hb3 ?_
   obtain ⟨r7,hr7,h⟩:=Fb h
   refine Ec S (fun _=>Dv (vs:=[]) trivial call10) (DE _ _ hr7) rfl ?_;clear S;intro v14 a w31 hv10 hk29 hn10 S
   subst hv10
   exact lv S (Hm hb3 (S.tm rfl) (S.tm rfl)) rfl fun a S=>Dl (⟨_,h,hk29,S.nf [true] rfl ⟨rfl,trivial⟩⟩)
  ·replace h:=Qx h hb3
   exact Gt S rfl rfl rfl (Jq hb3) rfl (fun a S=>Vq S (Hn true hb3) rfl rfl rfl fun a S=>Dl (⟨_,h,Keep.refl _ _,S.nf [true] rfl ⟨rfl,trivial⟩⟩)) rfl
 clear S h;rintro a w30 ⟨c1,h,hk30,S⟩;rw [hj2] at h;clear hj2 j2
 refine Va S rfl rfl fun a S=>Dl (wp_ret ?_)
 obtain rfl:=Option.some.inj h
 exact Eo S results3 rfl rfl
end Go.Proofs.YtjlcjcabljbolaaGreatDoor
