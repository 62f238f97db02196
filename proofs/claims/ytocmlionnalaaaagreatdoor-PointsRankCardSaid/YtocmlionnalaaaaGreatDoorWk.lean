/- Each Go function computes its plain twin,by program. -/
import Derived.Test.YtocmlionnalaaaaGreatDoorWk1
namespace Go.Proofs.YtocmlionnalaaaaGreatDoor
open Go
open Go.Proofs.Tryz
theorem Lg (w : World) (V : Value) (Ah : List Ci) (Ay : (LEnt.own V 64 4 Ah.length (Ah.flatMap Ci.enc)).holds w) (Ad : Int) (Ae : Int) (Bp : Int) (r : (List Ci)) (h : Gi Ah Ad Ae Bp = some r) :
    Calls prog 47 [V,iV Ad,iV Ae,iV Bp,.func (.func 28) #[] #[]].toArray w (Ret w (V.ownBlock.toList) fun _ v w'=>(LEnt.own V 64 4 r.length (r.flatMap Ci.enc)).holds w' ∧ v = .tuple #[]):=by
 refine Jt (V.ownBlock.toList) [.own V 64 4 Ah.length (Ah.flatMap Ci.enc)] func47 rfl ntmps47 rfl (fun e he=>by simp only [List.mem_singleton] at he;subst he;exact Ay) (Jd _) (Kb _) fun a S=>?_
 unfold Gi at h
 replace S:=(S.nl [.own V 64 4 Ah.length (Ah.flatMap Ci.enc)] [true] rfl).k5 0 1 2 3 4 rfl
 refine Fr (Vk S rfl rfl fun a S=>Dz (Vk S rfl rfl fun a S=>Dl ?_))
 replace S:=S.k6 0 1 2 3 4 10 rfl
 refine Dk (fun a w'=>False) ?_ ?_
 ·refine wp_block (Fq (fun (m1 : Nat) a w'=>∃ x1 : Int,∃ x2 : Int,∃ x3 : Int,∃ x4 : Bool,Dn Ah m1 x1 x2 x3 x4 = some r ∧ Sx w (V.ownBlock.toList) nov [.own V 64 4 Ah.length (Ah.flatMap Ci.enc)] [(0,V),(1,iV x1),(2,iV x2),(3,iV x3),(4,.func (.func 28) #[] #[]),(10,bV x4)] 148 a w') id 4611686018427387904 ⟨Ad,Ae,Bp,true,h,S.nf [true] rfl (subR rfl)⟩ ?_)
  clear S h;rintro m1 a w1 ⟨x1,x2,x3,x4,h,S⟩
  cases m1 with
  | zero=>rw [Dn.eq_1] at h;cases h
  | succ m1 =>
   rw [Dn.eq_2] at h
   refine wp_block (Fr (Vm S rfl rfl fun a S=>Vm S rfl rfl fun a S=>Vb S It rfl rfl rfl fun a S=>Va S rfl rfl fun a S=>Dl (Fs (Fs ?_))))
   refine Fg (Vm S rfl rfl fun a S=>Vq S Qc rfl rfl rfl fun a S=>Dl (Fc h (S.tm rfl) (fun hb1 h=>?_) (fun hb1 h=>?_)))
   ·refine Fs (Fg ?_)
    iterate 4 (refine Vm S rfl rfl ?_;clear S;intro a S)
    obtain ⟨r1,hr1,h⟩:=Em h
    refine Ly 0 S rfl (fun _=>.own V 64 4 r1.length (r1.flatMap Ci.enc)) (fun _=>Ck (vs:=[V,iV x1,iV x2,.func (.func 28) #[] #[]]) ⟨(S.tm rfl),(S.tm rfl),(S.tm rfl),(S.tm rfl),trivial⟩ call68) (Kf _ V Ah (S.holds _ (List.mem_of_getElem? (i:=0) rfl)) x1 x2 _ hr1) rfl (fun _ _ _ h=>⟨h.1,fun _ hc=>hc⟩) ?_;clear S;intro v1 a w3 hv1 hk1 hn1 S
    replace hv1:=hv1.2
    subst hv1
    refine Ld ?_
    replace S:=(S.nl [.own V 64 4 r1.length (r1.flatMap Ci.enc)] [true] rfl).k0
    refine Tn (wp_ret (Cp (Fb (Cp (Fb (Cp ?_))))))
    obtain rfl:=Option.some.inj h
    exact Rc S results47 ⟨(S.holds _ (List.mem_of_getElem? (i:=0) rfl)),rfl⟩
   ·refine wp_skip (Tn (Fs (Fr (Vm S rfl rfl fun a S=>Vq S Kq rfl rfl rfl fun a S=>Dl (Fc h (S.tm rfl) (fun hb2 h=>?_) (fun hb2 h=>?_))))))
    ·refine Fs ?_
     cases h
    ·refine wp_skip (Tn (Fs (Fr (Vm S rfl rfl fun a S=>Vu S Lj rfl rfl fun a S=>Ld ?_))))
     replace S:=S.k1 39 rfl
     refine Tn (Fc h (S.tm rfl) (fun hb3 h=>?_) (fun hb3 h=>?_))
     ·refine Fs ?_
      cases h
     ·refine wp_skip (Tn (Fs ?_))
      cases h
 exact fun _ _ h=>h.elim
theorem Mr (w : World) (Al : Value) (Ai : List Ci) (Br : (LEnt.own Al 64 4 Ai.length (Ai.flatMap Ci.enc)).holds w) (r : (List Ci)) (h : Fh Ai = some r) :
    Calls prog 27 [Al,.func (.func 28) #[] #[]].toArray w (Ret w (Al.ownBlock.toList) fun _ v w'=>(LEnt.own Al 64 4 r.length (r.flatMap Ci.enc)).holds w' ∧ v = .tuple #[]):=by
 refine Jt (Al.ownBlock.toList) [.own Al 64 4 Ai.length (Ai.flatMap Ci.enc)] func27 rfl ntmps27 rfl (fun e he=>by simp only [List.mem_singleton] at he;subst he;exact Br) (Jd _) (Kb _) fun a S=>?_
 unfold Fh at h
 replace S:=(S.nl [.own Al 64 4 Ai.length (Ai.flatMap Ci.enc)] [true] rfl).k2 0 1 rfl
 refine Fr (Vm S rfl rfl fun a S=>lv S (Ec Pu (S.tm rfl) (Nd (S.own_at (i:=0) rfl))) rfl fun a S=>Va S rfl rfl fun a S=>Dl (Fg ?_))
 iterate 3 (refine Vm S rfl rfl ?_;clear S;intro a S)
 refine Vu S (Nn underlying3 underlying89) rfl rfl ?_;clear S;intro a S
 obtain ⟨r1,hr1,h⟩:=Em h
 refine Df S (fun _=>Ck (vs:=[.int .u64 (IntKind.wrap .u64 (Ai.length : Int))]) ⟨(S.tm rfl),trivial⟩ call48) (Vs _ (IntKind.wrap .u64 (Ai.length : Int)) _ hr1) rfl ?_;clear S;intro v1 a w1 hv1 hk1 hn1 S
 subst hv1
 refine Vm S rfl rfl ?_;clear S;intro a S
 obtain ⟨r2,hr2,h⟩:=Em h
 refine Ly 0 S rfl (fun _=>.own Al 64 4 r2.length (r2.flatMap Ci.enc)) (fun _=>Ck (vs:=[Al,iV 0,iV (Ai.length : Int),iV r1,.func (.func 28) #[] #[]]) ⟨(S.tm rfl),rfl,(S.tm rfl),(S.tm rfl),(S.tm rfl),trivial⟩ call47) (Lg _ Al Ai (S.holds _ (List.mem_of_getElem? (i:=0) rfl)) 0 (Ai.length : Int) r1 _ hr2) rfl (fun _ _ _ h=>⟨h.1,fun _ hc=>hc⟩) ?_;clear S;intro v2 a w2 hv2 hk2 hn2 S
 replace hv2:=hv2.2
 subst hv2
 refine Ld ?_
 obtain rfl:=Option.some.inj h
 exact Rc S results27 ⟨(S.holds _ (List.mem_of_getElem? (i:=0) rfl)),rfl⟩
theorem Nt (w : World) (n : Int) (hg_pow10 : Uw (view w []) 3 Pv) (r : ByteArray) (h : Kw n = some r) : Calls prog 31 [iV n].toArray w (Ret w [] fun _ v _=>v = .string r):=by
  unfold Kw at h
  obtain ⟨hc,h⟩:=Gn h
  simp only [Bool.and_eq_true,decide_eq_true_eq] at hc
  obtain rfl:=Option.some.inj h
  exact Zv (Any.strconv_Itoa Tryz.lays171 n hc.1 hc.2 w (hg_pow10.tab (by kernel_rfl)))
set_option maxRecDepth 20000 in
theorem Vc (w : World) (Z : Value) (Aa : List An) (Ab : Slc (view w []) 5 Z (Aa.map An.enc)) (hg_pow10 : Uw (view w []) 3 Pv) (r : (List Dy) × Int) (h : La Aa = some r) :
    Calls prog 7 [Z].toArray w (Ret w [] fun τ v _=>∃ u1 : Value,v = .tuple #[u1,iV r.2] ∧ Pr τ 43 2 u1 r.1.length (r.1.flatMap Dy.enc)):=by
 refine Fe func7 rfl ntmps7 rfl fun a S=>?_
 unfold La at h
 replace S:=S.k1 0 rfl
 refine Fr (Vk S rfl rfl fun a S=>Vk S rfl rfl fun a S=>Dl (Fs (Fr (Vm S rfl rfl ?_))));clear S;intro a S
 obtain ⟨r1,hr1,h⟩:=Em h
 refine Df S (fun _=>Ck (vs:=[Z]) ⟨(S.tm rfl),trivial⟩ call24) (Rv _ Z Aa (Ab.mono (S.le_arg Gm)) _ hr1) rfl ?_;clear S;intro v1 a w1 hv1 hk1 hn1 S
 subst hv1
 refine Va S rfl rfl fun a S=>Dz (Vm S rfl rfl fun a S=>Vq S Ot rfl rfl rfl fun a S=>Dl (Fc h (S.tm rfl) (fun hb1 h=>?_) (fun hb1 h=>?_)))
 ·refine Fr (Vm S rfl rfl fun a S=>Vk S rfl rfl fun a S=>Va S rfl rfl fun a S=>Dl (wp_ret (Cp ?_)))
  obtain rfl:=Option.some.inj h
  exact Ou S results7 rfl rfl ⟨_,rfl,(Qk _ _ _)⟩
 ·refine wp_skip (Tn (Fr (Vk S rfl rfl ?_)));clear S;intro a S
  replace S:=S.nil 64 4
  refine Dl (Fs (Fr (Vm S rfl rfl fun a S=>lv S (Ec Hz (S.tm rfl) (Ew Ab)) rfl fun a S=>lv S (Rm rfl) rfl fun a S=>Dl ?_)))
  replace S:=(S.nl [.own (.slice none 0 0) 64 4 ([] : List Ci).length (([] : List Ci).flatMap Ci.enc)] [true] rfl).k4 5 17 18 19 rfl
  obtain ⟨j1,hj1,h⟩:=Dw h
  refine Dk (fun a w'=>∃ x1 : List Ci,∃ v2 : Value,j1 x1 = some r ∧ Sx w [] nov [.own v2 64 4 x1.length (x1.flatMap Ci.enc)] [(5,v2)] 91 a w') ?_ ?_
  ·refine wp_block (Fq (fun (ys1 : List An) a w'=>∃ i1 : Nat,∃ x1 : List Ci,∃ v2 : Value,(∃ dn,Aa = dn ++ ys1 ∧ dn.length = i1) ∧ Hv j1 ys1 i1 x1 = some r ∧ Sx w [] nov [.own v2 64 4 x1.length (x1.flatMap Ci.enc)] [(5,v2),(17,Z),(18,iV (Aa.length : Int)),(19,iV (i1 : Int))] 91 a w') List.length Aa ⟨0,([] : List Ci),(.slice none 0 0),⟨[],rfl,rfl⟩,h,S.nf [true] rfl (subR rfl)⟩ ?_)
   clear S h;rintro ys1 a w2 ⟨i1,x1,v2,⟨dn,hd1,hi1⟩,h,S⟩
   cases ys1 with
   | nil =>
    rw [Hv.eq_1] at h
    refine Fr (Vb S Dp rfl rfl rfl fun a S=>Ld ?_)
    replace S:=S.k5 5 17 18 19 20 rfl
    exact Tn (Fs (wp_cond_false ((S.tm rfl).trans (congrArg Value.bool (Hj hd1 hi1))) (wp_exit (De (De (Fk (Tn (⟨x1,v2,h,S.nf [true] rfl ⟨rfl,trivial⟩⟩))))))))
   | cons y1 ys1 =>
    rw [Hv.eq_2] at h
    refine Fr (Vb S Dp rfl rfl rfl fun a S=>Ld ?_)
    replace S:=S.k5 5 17 18 19 20 rfl
    refine Tn (Fs (wp_cond_true ((S.tm rfl).trans (congrArg Value.bool (Fy hd1 hi1))) (wp_skip (Tn (Fs ?_)))))
    obtain ⟨j2,hj2,h⟩:=Dw h
    refine Dk (fun a w'=>∃ x2 : List Ci,∃ v3 : Value,j2 x2 = some r ∧ Sx w [] nov [.own v3 64 4 x2.length (x2.flatMap Ci.enc)] [(5,v3),(17,Z),(18,iV (Aa.length : Int)),(19,iV (i1 : Int))] 91 a w') ?_ ?_
    ·refine wp_block (Fs (Fg ?_))
     obtain ⟨b1,o1,hm1,hr2⟩:=Ea (a:=a) (x:=.tmp 17) (y:=.tmp 19) (ty:=0) Hz Ab (Hd hd1 hi1) rfl (S.tm rfl) (S.tm rfl)
     refine lv S (hr2 _) rfl ?_;clear S;intro a S
     clear hr2
     refine lv S (He isAgg55 sizeOf55 (off:=o1) (o:=0) (part:=(An.enc y1)) rfl rfl (S.tm rfl) (hm1.at S.emb0)) rfl fun a S=>Iq S zeroValue55 (cs:=[sV Co,sV Co,sV Co,iV 0,bV false]) rfl rfl ?_;clear S;intro a w5 b2 hz1 hk2 S
     refine Hy S (S.tm rfl) (S.tm rfl) (i:=0) (off:=0) rfl sizeOf55 (vs:=(An.enc y1)) rfl rfl rfl rfl ?_;clear S;intro w6 hk3 S
     refine Dl (Fs (Fr (Vf Ns S rfl rfl fun a S=>Vl isAgg9 0 S rfl rfl rfl rfl fun a S=>Vq S Pk rfl rfl rfl fun a S=>Vm S rfl rfl fun a S=>Ik 5 (fun a w'=>Keep [] w6 w' ∧ Sx w [] nov [.blk b2 (An.enc y1) 55,.own v2 64 4 x1.length (x1.flatMap Ci.enc)] [(5,v2),(7,.pointer (some ⟨b2,0,none⟩)),(17,Z),(18,iV (Aa.length : Int)),(19,iV (i1 : Int)),(31,bV ((decide (y1.Club = Co)) || (!(Fd y1.Rank 1 3))))] 91 a w') ?_ ?_)))
     ·rcases Bool.eq_false_or_eq_true (decide (y1.Club = Co)) with hb2 | hb2
      ·iterate 4 (refine Gz S rfl rfl rfl (Nz hb2) rfl ?_ rfl;clear S;intro a S)
       exact lv S (Mj (!(Fd y1.Rank 1 3)) hb2 (S.tm rfl) rfl) rfl fun a S=>Dl (⟨Keep.refl _ _,S.nf [true,true] rfl (subR rfl)⟩)
      ·refine Cq S rfl rfl rfl hb2 (Vf Hh S rfl rfl fun a S=>Cq S rfl rfl rfl hb2 (Vl isAgg3 0 S rfl rfl rfl rfl fun a S=>Cq S rfl rfl rfl hb2 (Df S (fun _=>Ck (vs:=[iV y1.Rank,iV 1,iV 3]) ⟨(S.tm rfl),rfl,rfl,trivial⟩ call22) (Lz _ y1.Rank 1 3 _ rfl) rfl ?_)));clear S;intro v4 a w8 hv2 hk4 hn2 S
       subst hv2
       exact Cq S rfl rfl rfl hb2 (Vu S Lj rfl rfl fun a S=>lv S (Mk hb2 (S.tm rfl) (S.tm rfl)) rfl fun a S=>Dl (⟨hk4,S.nf [true,true] rfl (subR rfl)⟩))
     clear S;rintro a w7 ⟨hk5,S⟩
     refine Dl (Fc h (S.tm rfl) (fun hb3 h=>?_) (fun hb3 h=>?_))
     ·exact wp_exit (De (Fk (Tn (⟨x1,v2,h,S.nf [false,true] rfl (subR rfl)⟩))))
     ·refine wp_skip (Tn (Fr (Vm S rfl rfl fun a S=>lv S (Sa (us:=#[]) (xs:=[].toArray) (ys:=[.tmp 7].toArray) (by simp) (evA ⟨(S.tm rfl),trivial⟩ (vs:=[.pointer (some ⟨b2,0,none⟩)]))) rfl fun a S=>Df S (fun _=>Ck (vs:=[v2,.func (.func 26) #[] #[.pointer (some ⟨b2,0,none⟩)]]) ⟨(S.tm rfl),(S.tm rfl),trivial⟩ call25) (Mg _ v2 x1 (Wp Ci.enc_ok S (i:=1) rfl (Hg (e':=.own v2 64 4 x1.length (x1.flatMap Ci.enc)))) b2 y1 (S.blk_view (i:=0) rfl ((Hg (e':=.blk b2 (An.enc y1) 55)) _ rfl)) _ rfl) rfl ?_)));clear S;intro v5 a w9 hv3 hk6 hn3 S
      subst hv3
      refine Va S rfl rfl fun a S=>Dl (Fs (Fr (Vm S rfl rfl fun a S=>Vq S Dp rfl rfl rfl fun a S=>Dl ?_)))
      obtain ⟨j3,hj3,h⟩:=Dw h
      refine Dk (fun a w'=>∃ x3 : List Ci,∃ x4 : Int,∃ v6 : Value,j3 x3 x4 = some r ∧ Sx w [] nov [.blk b2 (An.enc y1) 55,.own v6 64 4 x3.length (x3.flatMap Ci.enc)] [(5,v6),(7,.pointer (some ⟨b2,0,none⟩)),(8,iV x4),(17,Z),(18,iV (Aa.length : Int)),(19,iV (i1 : Int))] 91 a w') ?_ ?_
      ·refine Fc h (S.tm rfl) (fun hb4 h=>?_) (fun hb4 h=>?_)
       ·refine Fg (Vm S rfl rfl fun a S=>Vf Ns S rfl rfl fun a S=>Vl isAgg9 0 S rfl rfl rfl rfl fun a S=>lv S (Nu bt_64 (pv:=[(0,sV y1.Club)]) ⟨rfl,(S.tm rfl),trivial⟩ (cs:=[sV y1.Club,iV 0,iV 0,iV 0]) (by kernel_rfl)) rfl fun a S=>Eb S underlying60 sizeOf64 zeroValue64 rfl rfl (pv:=[(0,.agg #[sV y1.Club,iV 0,iV 0,iV 0])]) ⟨rfl,(S.tm rfl),trivial⟩ (cs:=[sV y1.Club,iV 0,iV 0,iV 0]) (by kernel_rfl) rfl ?_);clear S;intro a w11 b3 hz2 hk7 S
        have hl1:=Nd (S.own_at (i:=2) rfl)
        obtain ⟨hc1,h⟩:=Gn h
        refine Mb Pu Ci.enc_ok S (S.tm rfl) (i:=2) rfl (S.tm rfl) (j:=0) rfl (ys:=[(Ci.mk y1.Club (Cj.mk 0 0 0))]) rfl rfl rfl rfl (by have:=Lh hc1;omega) rfl ?_;clear S;intro v7 a w12 hk8 S
        refine Vm S rfl rfl fun a S=>lv S (Ec Pu (S.tm rfl) hl1) rfl fun a S=>Va S rfl rfl fun a S=>Va S rfl rfl fun a S=>Ld ?_
        replace S:=(S.nl [.blk b2 (An.enc y1) 55,.own v7 64 4 (x1 ++ [(Ci.mk y1.Club (Cj.mk 0 0 0))]).length ((x1 ++ [(Ci.mk y1.Club (Cj.mk 0 0 0))]).flatMap Ci.enc)] [false,true,true] rfl).k6 5 7 8 17 18 19 rfl
        exact Tn (⟨(x1 ++ [(Ci.mk y1.Club (Cj.mk 0 0 0))]),(x1.length : Int),v7,h,S.nf [true,true] rfl (subR rfl)⟩)
       ·exact wp_skip (Tn (⟨x1,(Dg x1 y1),v2,h,S.nf [true,true] rfl (subR rfl)⟩))
      clear S h;rintro a w10 ⟨x3,x4,v6,h,S⟩;rw [hj3] at h;clear hj3 j3
      refine Tn ?_
      obtain ⟨hc2,h⟩:=Gn h
      obtain ⟨hc3,h⟩:=Gn h
      obtain ⟨hc4,h⟩:=Gn h
      obtain ⟨hc5,h⟩:=Gn h
      refine Gf [13] ([]) Tryz.mixed S rfl (by kernel_rfl) ?_;clear S;intro w15 hk11 hsel S
      refine Es 0 S hsel rfl rfl (by kernel_rfl) (by kernel_rfl) rfl (fun _=>(Rm (S.tm rfl))) fun a S=>Es 1 S hsel rfl rfl (by kernel_rfl) (by kernel_rfl) rfl (fun _=>(Rm (S.tm rfl))) fun a S=>Es 2 S hsel rfl rfl (by kernel_rfl) (by kernel_rfl) rfl (fun _=>(Gp Hh (S.tm rfl))) fun a S=>Cw 3 S hsel rfl (by kernel_rfl) (by kernel_rfl) (by kernel_rfl) (by kernel_rfl) rfl (fun _ hw=>(Gy isAgg3 (off:=0) (o:=3) (S.tm rfl) ((S.blk_mem (i:=0) (cells:=(An.enc y1)) (b:=b2) (T:=55) rfl (Hg (e':=.blk b2 (An.enc y1) 55))).kept hw) rfl)) fun a S=>Es 4 S hsel rfl rfl (by kernel_rfl) (by kernel_rfl) rfl (fun _=>(It (S.tm rfl) rfl)) ?_;clear S;intro a S
      obtain ⟨b6,hg3,hr5⟩:=Ft (a:=a) (x:=.tmp 45) (y:=.tmp 46) (ty:=0) Pu Ci.enc_ok S (i:=1) rfl (Cn hc2).1 (Cn hc2).2 (S.tm rfl) (S.tm rfl)
      refine Es 5 S hsel rfl rfl (by kernel_rfl) (by kernel_rfl) rfl (fun _=>(hr5 _)) ?_;clear S;intro a S
      clear hr5
      refine Es 6 S hsel rfl rfl (by kernel_rfl) (by kernel_rfl) rfl (fun _=>(Gp Oi (S.tm rfl))) fun a S=>Es 7 S hsel rfl rfl (by kernel_rfl) (by kernel_rfl) rfl (fun _=>(EE (n:=3) (c:=1) (z:=(W (y1.Rank - 1))) Ni (S.tm rfl) (S.tm rfl) hc3)) fun a S=>Cw 8 S hsel rfl (by kernel_rfl) (by kernel_rfl) (by kernel_rfl) (by kernel_rfl) rfl (fun _ hw=>(Gy isAgg3 (off:=x4.toNat * 4) (o:=1 + (W (y1.Rank - 1)).toNat) (S.tm rfl) ((Lq Ci.enc_ok S (i:=1) rfl hg3 (Cn hc2).1 (Hg (e':=.own v6 64 4 x3.length (x3.flatMap Ci.enc)))).kept hw) (get3 (pre:=[sV ((nth x3 x4).club_)]) (post:=[]) hc3))) fun a S=>Es 9 S hsel rfl rfl (by kernel_rfl) (by kernel_rfl) rfl (fun _=>(Eh (S.tm rfl) rfl)) ?_;clear S;intro a S
      obtain ⟨b7,hg4,hr6⟩:=Ft (a:=a) (x:=.tmp 45) (y:=.tmp 46) (ty:=0) Pu Ci.enc_ok S (i:=1) rfl (Cn hc4).1 (Cn hc4).2 (S.tm rfl) (S.tm rfl)
      refine Es 10 S hsel rfl rfl (by kernel_rfl) (by kernel_rfl) rfl (fun _=>(hr6 _)) ?_;clear S;intro a S
      clear hr6
      refine Es 11 S hsel rfl rfl (by kernel_rfl) (by kernel_rfl) rfl (fun _=>(Gp Oi (S.tm rfl))) fun a S=>Es 12 S hsel rfl rfl (by kernel_rfl) (by kernel_rfl) rfl (fun _=>(EE (n:=3) (c:=1) (z:=(W (y1.Rank - 1))) Ni (S.tm rfl) (S.tm rfl) hc5)) fun a S=>Qy 13 (v6.ownBlock.toList) rfl (by kernel_rfl) rfl (Je (c:=1 + (W (y1.Rank - 1)).toNat) (j:=x4.toNat) (Ci.mk ((nth x3 x4).club_) (Cj.mk (if (W (y1.Rank - 1)) = 0 then W ((nth [((nth x3 x4).many_).a0_,((nth x3 x4).many_).a1_,((nth x3 x4).many_).a2_] (W (y1.Rank - 1))) + 1) else ((nth x3 x4).many_).a0_) (if (W (y1.Rank - 1)) = 1 then W ((nth [((nth x3 x4).many_).a0_,((nth x3 x4).many_).a1_,((nth x3 x4).many_).a2_] (W (y1.Rank - 1))) + 1) else ((nth x3 x4).many_).a1_) (if (W (y1.Rank - 1)) = 2 then W ((nth [((nth x3 x4).many_).a0_,((nth x3 x4).many_).a1_,((nth x3 x4).many_).a2_] (W (y1.Rank - 1))) + 1) else ((nth x3 x4).many_).a2_))) Ci.enc_ok S (S.tm rfl) (S.tm rfl) (i:=1) rfl hg4 (Cn hc4).1 sizeOf3 (vs:=[iV (W ((nth [((nth x3 x4).many_).a0_,((nth x3 x4).many_).a1_,((nth x3 x4).many_).a2_] (W (y1.Rank - 1))) + 1))]) rfl rfl (ble3 (p:=1) (k:=4) rfl hc5) rfl (lay3 (pre:=[sV ((nth x3 x4).club_)]) (post:=[]) hc5) ?_);clear S;intro w17 hk13 S
      refine Ld (Rd (Wo (by kernel_rfl) ?_))
      clear hsel
      replace S:=(S.nl [.own v6 64 4 (x3.set x4.toNat (Ci.mk ((nth x3 x4).club_) (Cj.mk (if (W (y1.Rank - 1)) = 0 then W ((nth [((nth x3 x4).many_).a0_,((nth x3 x4).many_).a1_,((nth x3 x4).many_).a2_] (W (y1.Rank - 1))) + 1) else ((nth x3 x4).many_).a0_) (if (W (y1.Rank - 1)) = 1 then W ((nth [((nth x3 x4).many_).a0_,((nth x3 x4).many_).a1_,((nth x3 x4).many_).a2_] (W (y1.Rank - 1))) + 1) else ((nth x3 x4).many_).a1_) (if (W (y1.Rank - 1)) = 2 then W ((nth [((nth x3 x4).many_).a0_,((nth x3 x4).many_).a1_,((nth x3 x4).many_).a2_] (W (y1.Rank - 1))) + 1) else ((nth x3 x4).many_).a2_)))).length ((x3.set x4.toNat (Ci.mk ((nth x3 x4).club_) (Cj.mk (if (W (y1.Rank - 1)) = 0 then W ((nth [((nth x3 x4).many_).a0_,((nth x3 x4).many_).a1_,((nth x3 x4).many_).a2_] (W (y1.Rank - 1))) + 1) else ((nth x3 x4).many_).a0_) (if (W (y1.Rank - 1)) = 1 then W ((nth [((nth x3 x4).many_).a0_,((nth x3 x4).many_).a1_,((nth x3 x4).many_).a2_] (W (y1.Rank - 1))) + 1) else ((nth x3 x4).many_).a1_) (if (W (y1.Rank - 1)) = 2 then W ((nth [((nth x3 x4).many_).a0_,((nth x3 x4).many_).a1_,((nth x3 x4).many_).a2_] (W (y1.Rank - 1))) + 1) else ((nth x3 x4).many_).a2_)))).flatMap Ci.enc)] [false,true] rfl).k4 5 17 18 19 rfl
      exact Hf (Tn (⟨(x3.set x4.toNat (Ci.mk ((nth x3 x4).club_) (Cj.mk (if (W (y1.Rank - 1)) = 0 then W ((nth [((nth x3 x4).many_).a0_,((nth x3 x4).many_).a1_,((nth x3 x4).many_).a2_] (W (y1.Rank - 1))) + 1) else ((nth x3 x4).many_).a0_) (if (W (y1.Rank - 1)) = 1 then W ((nth [((nth x3 x4).many_).a0_,((nth x3 x4).many_).a1_,((nth x3 x4).many_).a2_] (W (y1.Rank - 1))) + 1) else ((nth x3 x4).many_).a1_) (if (W (y1.Rank - 1)) = 2 then W ((nth [((nth x3 x4).many_).a0_,((nth x3 x4).many_).a1_,((nth x3 x4).many_).a2_] (W (y1.Rank - 1))) + 1) else ((nth x3 x4).many_).a2_)))),v6,h,S.nf [true] rfl (subR rfl)⟩))
    clear S h;rintro a w4 ⟨x2,v3,h,S⟩;rw [hj2] at h;clear hj2 j2
    exact Tn (Fg (Vq S Eh rfl rfl rfl fun a S=>Vm S rfl rfl fun a S=>Dl (⟨ys1,⟨i1 + 1,x2,v3,⟨_,(hd1).trans (List.append_cons _ _ _),by simp [hi1]⟩,h,S.nf [true] rfl ⟨rfl,rfl,rfl,(congrArg (fun z=>some (Value.int .i64 z)) (Fz hd1 hi1 (Il Ab))),trivial⟩⟩,Nat.lt_succ_self _⟩)))
  clear S h;rintro a w3 ⟨x1,v2,h,S⟩;rw [hj1] at h;clear hj1 j1
  refine Tn (Fr (Vm S rfl rfl ?_));clear S;intro a S
  obtain ⟨r2,hr7,h⟩:=Em h
  refine Ly 0 S rfl (fun _=>.own v2 64 4 r2.length (r2.flatMap Ci.enc)) (fun _=>Ck (vs:=[v2,.func (.func 28) #[] #[]]) ⟨(S.tm rfl),rfl,trivial⟩ call27) (Mr _ v2 x1 (S.holds _ (List.mem_of_getElem? (i:=0) rfl)) _ hr7) rfl (fun _ _ _ h=>⟨h.1,fun _ hc=>hc⟩) ?_;clear S;intro v8 a w18 hv4 hk14 hn4 S
  replace hv4:=hv4.2
  subst hv4
  refine Dz (Vk S rfl rfl ?_);clear S;intro a S
  replace S:=S.nil 43 2
  refine Dl (Fs (Fr (Vm S rfl rfl fun a S=>lv S (Ec Pu (S.tm rfl) (Nd (S.own_at (i:=1) rfl))) rfl fun a S=>lv S (Rm rfl) rfl fun a S=>Dl ?_)))
  replace S:=(S.nl [.own (.slice none 0 0) 43 2 ([] : List Dy).length (([] : List Dy).flatMap Dy.enc),.own v2 64 4 r2.length (r2.flatMap Ci.enc)] [true,true] rfl).k4 9 61 62 63 rfl
  have hm6:=Ua (S.own_at (i:=1) rfl)
  obtain ⟨j4,hj4,h⟩:=Dw h
  refine Dk (fun a w'=>∃ x5 : List Dy,∃ v9 : Value,j4 x5 = some r ∧ Sx w [] nov [.own v9 43 2 x5.length (x5.flatMap Dy.enc),.own v2 64 4 r2.length (r2.flatMap Ci.enc)] [(9,v9)] 91 a w') ?_ ?_
  ·refine wp_block (Fq (fun (ys2 : List Ci) a w'=>∃ i2 : Nat,∃ x5 : List Dy,∃ v9 : Value,(∃ dn,r2 = dn ++ ys2 ∧ dn.length = i2) ∧ Hc j4 ys2 i2 x5 = some r ∧ Sx w [] nov [.own v9 43 2 x5.length (x5.flatMap Dy.enc),.own v2 64 4 r2.length (r2.flatMap Ci.enc)] [(9,v9),(61,v2),(62,iV (r2.length : Int)),(63,iV (i2 : Int))] 91 a w') List.length r2 ⟨0,([] : List Dy),(.slice none 0 0),⟨[],rfl,rfl⟩,h,S.nf [true,true] rfl (subR rfl)⟩ ?_)
   clear S h;rintro ys2 a w19 ⟨i2,x5,v9,⟨dn,hd2,hi2⟩,h,S⟩
   cases ys2 with
   | nil =>
    rw [Hc.eq_1] at h
    refine Fr (Vb S Dp rfl rfl rfl fun a S=>Ld ?_)
    replace S:=S.k5 9 61 62 63 64 rfl
    exact Tn (Fs (wp_cond_false ((S.tm rfl).trans (congrArg Value.bool (Hj hd2 hi2))) (wp_exit (De (De (Fk (Tn (⟨x5,v9,h,S.nf [true,true] rfl ⟨rfl,trivial⟩⟩))))))))
   | cons y2 ys2 =>
    rw [Hc.eq_2] at h
    refine Fr (Vb S Dp rfl rfl rfl fun a S=>Ld ?_)
    replace S:=S.k5 9 61 62 63 64 rfl
    refine Tn (Fs (wp_cond_true ((S.tm rfl).trans (congrArg Value.bool (Fy hd2 hi2))) (wp_skip (Tn (Fs (wp_block (Fs (Fg ?_))))))))
    obtain ⟨b8,hg5,hr8⟩:=Ft (a:=a) (x:=.tmp 61) (y:=.tmp 63) (ty:=0) Pu Ci.enc_ok S (i:=1) rfl (Hd hd2 hi2) rfl (S.tm rfl) (S.tm rfl)
    refine lv S (hr8 _) rfl ?_;clear S;intro a S
    clear hr8
    refine lv S (He isAgg64 sizeOf64 (off:=i2 * 4) (o:=0) (part:=(Ci.enc y2)) rfl rfl (S.tm rfl) (Ks Ci.enc_ok S (i:=1) rfl hg5 (Hd hd2 hi2))) rfl fun a S=>Iq S zeroValue64 (cs:=[sV Co,iV 0,iV 0,iV 0]) rfl rfl ?_;clear S;intro a w21 b9 hz3 hk15 S
    refine Hy S (S.tm rfl) (S.tm rfl) (i:=0) (off:=0) rfl sizeOf64 (vs:=(Ci.enc y2)) rfl rfl rfl rfl ?_;clear S;intro w22 hk16 S
    refine Dl ?_
    obtain ⟨r3,hr9,h⟩:=Em h
    obtain ⟨hc6,h⟩:=Gn h
    obtain ⟨r4,hr10,h⟩:=Em h
    obtain ⟨hc7,h⟩:=Gn h
    obtain ⟨hc8,h⟩:=Gn h
    obtain ⟨r5,hr11,h⟩:=Em h
    obtain ⟨hc9,h⟩:=Gn h
    obtain ⟨hc10,h⟩:=Gn h
    refine Gf [] (v9.ownBlock.toList) Tryz.mixed S rfl (by kernel_rfl) ?_;clear S;intro w28 hk22 hsel S
    refine Cw 0 S hsel rfl rfl rfl (by kernel_rfl) (by kernel_rfl) rfl (fun _ hw=>(Rm (S.tm rfl))) fun a S=>Cw 1 S hsel rfl rfl rfl (by kernel_rfl) (by kernel_rfl) rfl (fun _ hw=>(Gp Wh (S.tm rfl))) fun a S=>Cw 2 S hsel rfl rfl rfl (by kernel_rfl) (by kernel_rfl) rfl (fun _ hw=>(Gy isAgg9 (off:=0) (o:=0) (S.tm rfl) ((S.blk_mem (i:=0) (cells:=(Ci.enc y2)) (b:=b9) (T:=64) rfl (Mw (i:=1) (j:=0) (e:=.own v9 43 2 x5.length (x5.flatMap Dy.enc)) (e':=.blk b9 (Ci.enc y2) 64) S rfl rfl rfl)).kept hw) rfl)) fun a S=>Cw 3 S hsel rfl rfl rfl (by kernel_rfl) (by kernel_rfl) rfl (fun _ hw=>(Gp Oi (S.tm rfl))) fun a S=>Cw 4 S hsel rfl rfl rfl (by kernel_rfl) (by kernel_rfl) rfl (fun _ hw=>(Qd (i:=0) Ni (S.tm rfl) rfl rfl)) fun a S=>Cw 5 S hsel rfl rfl rfl (by kernel_rfl) (by kernel_rfl) rfl (fun _ hw=>(Gy isAgg3 (off:=0) (o:=1) (S.tm rfl) ((S.blk_mem (i:=0) (cells:=(Ci.enc y2)) (b:=b9) (T:=64) rfl (Mw (i:=1) (j:=0) (e:=.own v9 43 2 x5.length (x5.flatMap Dy.enc)) (e':=.blk b9 (Ci.enc y2) 64) S rfl rfl rfl)).kept hw) rfl)) fun a S=>Cw 8 S hsel rfl rfl rfl (by kernel_rfl) (by kernel_rfl) rfl (fun _ hw=>(Gp Oi (S.tm rfl))) fun a S=>Cw 9 S hsel rfl rfl rfl (by kernel_rfl) (by kernel_rfl) rfl (fun _ hw=>(Qd (i:=1) Ni (S.tm rfl) rfl rfl)) fun a S=>Cw 10 S hsel rfl rfl rfl (by kernel_rfl) (by kernel_rfl) rfl (fun _ hw=>(Gy isAgg3 (off:=0) (o:=2) (S.tm rfl) ((S.blk_mem (i:=0) (cells:=(Ci.enc y2)) (b:=b9) (T:=64) rfl (Mw (i:=1) (j:=0) (e:=.own v9 43 2 x5.length (x5.flatMap Dy.enc)) (e':=.blk b9 (Ci.enc y2) 64) S rfl rfl rfl)).kept hw) rfl)) fun a S=>Cw 14 S hsel rfl rfl rfl (by kernel_rfl) (by kernel_rfl) rfl (fun _ hw=>(Gp Oi (S.tm rfl))) ?_;clear S;intro a S
    refine Cw 15 S hsel rfl rfl rfl (by kernel_rfl) (by kernel_rfl) rfl (fun _ hw=>(Qd (i:=2) Ni (S.tm rfl) rfl rfl)) fun a S=>Cw 16 S hsel rfl rfl rfl (by kernel_rfl) (by kernel_rfl) rfl (fun _ hw=>(Gy isAgg3 (off:=0) (o:=3) (S.tm rfl) ((S.blk_mem (i:=0) (cells:=(Ci.enc y2)) (b:=b9) (T:=64) rfl (Mw (i:=1) (j:=0) (e:=.own v9 43 2 x5.length (x5.flatMap Dy.enc)) (e':=.blk b9 (Ci.enc y2) 64) S rfl rfl rfl)).kept hw) rfl)) fun a S=>Gu 6 (by kernel_rfl) rfl (Df S (fun _=>Ck (vs:=[iV y2.many_.a0_]) ⟨(S.tm rfl),trivial⟩ call31) (Nt _ y2.many_.a0_ (hg_pow10.mono (S.le_arg Gm)) _ hr9) rfl ?_);clear S;intro v14 a w29 hv8 hk23 hn8 S
    subst hv8
    refine Ld (Ib (Keep.none hk23) ?_)
    refine Cw 7 S hsel rfl rfl rfl (by kernel_rfl) (by kernel_rfl) rfl (fun _ hw=>(Wf (m:=r3) (n:=Iz) (S.tm rfl) rfl (by have:=Lh hc6;omega))) ?_;clear S;intro a S
    refine Gu 11 (by kernel_rfl) rfl (Df S (fun _=>Ck (vs:=[iV y2.many_.a1_]) ⟨(S.tm rfl),trivial⟩ call31) (Nt _ y2.many_.a1_ (hg_pow10.mono (S.le_arg Gm)) _ hr10) rfl ?_);clear S;intro v15 a w30 hv9 hk24 hn9 S
    subst hv9
    refine Ld (Ib (Keep.none hk24) ?_)
    refine Cw 12 S hsel rfl rfl rfl (by kernel_rfl) (by kernel_rfl) rfl (fun _ hw=>(Wf (m:=(r3 ++ Iz)) (n:=r4) (S.tm rfl) (S.tm rfl) (by have:=Lh hc7;omega))) ?_;clear S;intro a S
    refine Cw 13 S hsel rfl rfl rfl (by kernel_rfl) (by kernel_rfl) rfl (fun _ hw=>(Wf (m:=((r3 ++ Iz) ++ r4)) (n:=Iz) (S.tm rfl) rfl (by have:=Lh hc8;omega))) ?_;clear S;intro a S
    refine Gu 17 (by kernel_rfl) rfl (Df S (fun _=>Ck (vs:=[iV y2.many_.a2_]) ⟨(S.tm rfl),trivial⟩ call31) (Nt _ y2.many_.a2_ (hg_pow10.mono (S.le_arg Gm)) _ hr11) rfl ?_);clear S;intro v16 a w31 hv10 hk25 hn10 S
    subst hv10
    refine Ld (Ib (Keep.none hk25) ?_)
    refine Cw 18 S hsel rfl rfl rfl (by kernel_rfl) (by kernel_rfl) rfl (fun _ hw=>(Wf (m:=(((r3 ++ Iz) ++ r4) ++ Iz)) (n:=r5) (S.tm rfl) (S.tm rfl) (by have:=Lh hc9;omega))) ?_;clear S;intro a S
    refine Cw 19 S hsel rfl rfl rfl (by kernel_rfl) (by kernel_rfl) rfl (fun _ hw=>(Nu bt_43 (pv:=[(0,sV y2.club_),(1,sV ((((r3 ++ Iz) ++ r4) ++ Iz) ++ r5))]) ⟨rfl,(S.tm rfl),rfl,(S.tm rfl),trivial⟩ (cs:=[sV y2.club_,sV ((((r3 ++ Iz) ++ r4) ++ Iz) ++ r5)]) (by kernel_rfl))) fun a S=>Gu 20 (by kernel_rfl) rfl (Eb S underlying33 sizeOf43 zeroValue43 rfl rfl (pv:=[(0,.agg #[sV y2.club_,sV ((((r3 ++ Iz) ++ r4) ++ Iz) ++ r5)])]) ⟨rfl,(S.tm rfl),trivial⟩ (cs:=[sV y2.club_,sV ((((r3 ++ Iz) ++ r4) ++ Iz) ++ r5)]) (by kernel_rfl) rfl ?_);clear S;intro a w32 b11 hz5 hk26 S
    refine Ld (Ib (Keep.none hk26) (Gu 21 (by kernel_rfl) rfl ?_))
    refine Wq Ww Dy.enc_ok S (S.tm rfl) (i:=2) rfl (S.tm rfl) (j:=0) rfl (ys:=[(Dy.mk y2.club_ ((((r3 ++ Iz) ++ r4) ++ Iz) ++ r5))]) rfl rfl rfl rfl (by have:=Lh hc10;omega) rfl ?_;clear S;intro v17 a w33 hk27 hf1 S
    refine Ld ?_
    refine d_nextN (v17.ownBlock.toList) hk27 (by intro y hy;simp at hy ⊢;exact (by rcases hf1 y hy with hy | hy <;> simp [hy])) ?_
    refine Ji [22] hsel (by kernel_rfl) rfl ?_
    clear hsel
    refine Ei S rfl (Ra (S.tm rfl)) rfl fun a S=>Ic ?_
    replace S:=(S.nl [.own v17 43 2 (x5 ++ [(Dy.mk y2.club_ ((((r3 ++ Iz) ++ r4) ++ Iz) ++ r5))]).length ((x5 ++ [(Dy.mk y2.club_ ((((r3 ++ Iz) ++ r4) ++ Iz) ++ r5))]).flatMap Dy.enc),.own v2 64 4 r2.length (r2.flatMap Ci.enc)] [false,false,true,true] rfl).k4 9 61 62 63 rfl
    exact Hf (Tn (Fg (Vq S Eh rfl rfl rfl fun a S=>Vm S rfl rfl fun a S=>Dl (⟨ys2,⟨i2 + 1,(x5 ++ [(Dy.mk y2.club_ ((((r3 ++ Iz) ++ r4) ++ Iz) ++ r5))]),v17,⟨_,(hd2).trans (List.append_cons _ _ _),by simp [hi2]⟩,h,S.nf [true,true] rfl ⟨rfl,rfl,rfl,(congrArg (fun z=>some (Value.int .i64 z)) (Fz hd2 hi2 hm6)),trivial⟩⟩,Nat.lt_succ_self _⟩))))
  clear S h;rintro a w20 ⟨x5,v9,h,S⟩;rw [hj4] at h;clear hj4 j4
  refine Tn (Fr (Vm S rfl rfl fun a S=>Va S rfl rfl fun a S=>Vk S rfl rfl fun a S=>Dl (wp_ret ?_)))
  obtain rfl:=Option.some.inj h
  exact Ou S results7 rfl rfl ⟨_,rfl,(Tz S (i:=0) rfl rfl)⟩
theorem Na (w : World) (Ao : Int) (At : Int) (Ap : Int) (r : Bool) (h : Ev Ao At Ap = r) :
    Calls prog 32 [iV Ao,iV At,iV Ap].toArray w (Ret w [] fun _ v _=>v = bV r):=by
 refine Fe func32 rfl ntmps32 rfl fun a S=>?_
 unfold Ev at h
 replace S:=S.k3 0 1 2 rfl
 refine Fr (Vk S rfl rfl fun a S=>Dz (Vm S rfl rfl fun a S=>Vm S rfl rfl fun a S=>Vb S Qc rfl rfl rfl fun a S=>Vm S rfl rfl ?_));clear S;intro a S
 refine Ik 4 (fun a w'=>Keep [] w w' ∧ Sx w [] nov [] [(14,bV ((decide (At ≤ Ao)) && (decide (Ao ≤ Ap))))] 15 a w') ?_ ?_
 ·rcases Bool.eq_false_or_eq_true (decide (At ≤ Ao)) with hb1 | hb1
  ·exact Cq S rfl rfl rfl hb1 (Vm S rfl rfl fun a S=>Cq S rfl rfl rfl hb1 (Vm S rfl rfl fun a S=>Cq S rfl rfl rfl hb1 (Vb S Qc rfl rfl rfl fun a S=>lv S (Hr hb1 (S.tm rfl) (S.tm rfl)) rfl fun a S=>Dl (⟨Keep.refl _ _,S.nf [] rfl ⟨rfl,trivial⟩⟩))))
  ·iterate 3 (refine Gz S rfl rfl rfl (Jh hb1) rfl ?_ rfl;clear S;intro a S)
   exact lv S (Hs (decide (Ao ≤ Ap)) hb1 (S.tm rfl) rfl) rfl fun a S=>Dl (⟨Keep.refl _ _,S.nf [] rfl ⟨rfl,trivial⟩⟩)
 clear S;rintro a w1 ⟨hk1,S⟩
 refine Va S rfl rfl fun a S=>Dl (wp_ret ?_)
 subst h
 exact Ee S results32 rfl rfl
theorem Rk (w : World) (Z : Value) (Aa : List Dj) (Ab : Slc (view w []) 3 Z (Aa.map Dj.enc)) (r : Int) (h : Gg Aa = r) :
    Calls prog 8 [Z].toArray w (Ret w [] fun _ v _=>v = iV r):=by
 refine Fe func8 rfl ntmps8 rfl fun a S=>?_
 unfold Gg at h
 replace S:=S.k1 0 rfl
 refine Fr (Vk S rfl rfl fun a S=>Dl (Fs (Fr (Vm S rfl rfl fun a S=>lv S (Ec Pt (S.tm rfl) (Ew Ab)) rfl fun a S=>Vq S Iv rfl rfl rfl ?_))));clear S;intro a S
 refine Dl (Fc h (S.tm rfl) (fun hb1 h=>?_) (fun hb1 h=>?_))
 ·refine Fr (Vk S rfl rfl fun a S=>Dl (wp_ret (Cp ?_)))
  subst h
  exact Ee S results8 rfl rfl
 ·refine wp_skip (Tn (Fs (Fr (Vm S rfl rfl fun a S=>lv S (Ec Pt (S.tm rfl) (Ew Ab)) rfl fun a S=>lv S (Rm rfl) rfl fun a S=>Dl ?_))))
  replace S:=S.k3 8 9 10 rfl
  obtain ⟨j1,hj1,h⟩:=Dw h
  refine Dk (fun a w'=>j1 = r ∧ Sx w [] nov [] [] 32 a w') ?_ ?_
  ·refine wp_block (Fq (fun (ys1 : List Dj) a w'=>∃ i1 : Nat,(∃ dn,Aa = dn ++ ys1 ∧ dn.length = i1) ∧ Ff j1 ys1 i1 = r ∧ Sx w [] nov [] [(8,Z),(9,iV (Aa.length : Int)),(10,iV (i1 : Int))] 32 a w') List.length Aa ⟨0,⟨[],rfl,rfl⟩,h,S.nf [] rfl (subR rfl)⟩ ?_)
   clear S h;rintro ys1 a w1 ⟨i1,⟨dn,hd1,hi1⟩,h,S⟩
   cases ys1 with
   | nil =>
    rw [Ff.eq_1] at h
    refine Fr (Vb S Dp rfl rfl rfl fun a S=>Ld ?_)
    replace S:=S.k4 8 9 10 11 rfl
    exact Tn (Fs (wp_cond_false ((S.tm rfl).trans (congrArg Value.bool (Hj hd1 hi1))) (wp_exit (De (De (Fk (Tn (⟨h,S.nf [] rfl trivial⟩))))))))
   | cons y1 ys1 =>
    rw [Ff.eq_2] at h
    refine Fr (Vb S Dp rfl rfl rfl fun a S=>Ld ?_)
    replace S:=S.k4 8 9 10 11 rfl
    refine Tn (Fs (wp_cond_true ((S.tm rfl).trans (congrArg Value.bool (Fy hd1 hi1))) (wp_skip (Tn (Fs (wp_block (Fs (Fg ?_))))))))
    obtain ⟨b1,o1,hm1,hr1⟩:=Ea (a:=a) (x:=.tmp 8) (y:=.tmp 10) (ty:=0) Pt Ab (Hd hd1 hi1) rfl (S.tm rfl) (S.tm rfl)
    refine lv S (hr1 _) rfl ?_;clear S;intro a S
    clear hr1
    refine lv S (He isAgg52 sizeOf52 (off:=o1) (o:=0) (part:=(Dj.enc y1)) rfl rfl (S.tm rfl) (hm1.at S.emb0)) rfl fun a S=>Iq S zeroValue52 (cs:=[sV Co,iV 0,iV 0]) rfl rfl ?_;clear S;intro a w3 b2 hz1 hk1 S
    refine Hy S (S.tm rfl) (S.tm rfl) (i:=0) (off:=0) rfl sizeOf52 (vs:=(Dj.enc y1)) rfl rfl rfl rfl ?_;clear S;intro w4 hk2 S
    refine Dl (wp_block (Fr (Vf Za S rfl rfl fun a S=>Vl isAgg9 0 S rfl rfl rfl rfl fun a S=>Vq S Pk rfl rfl rfl fun a S=>Va S rfl rfl fun a S=>Dl ?_)))
    refine Fc h (S.tm rfl) (fun hb2 h=>?_) (fun hb2 h=>?_)
    ·refine Fr (Vk S rfl rfl fun a S=>Dl (wp_ret (Fb (Fb (Cp (Cp (Fb ?_)))))))
     refine Cp (Cp ?_)
     subst h
     exact Ee S results8 rfl rfl
    ·refine Fr (Vf Nr S rfl rfl fun a S=>Vf Ri S rfl rfl fun a S=>Vl isAgg3 0 S rfl rfl rfl rfl fun a S=>Df S (fun _=>Ck (vs:=[iV y1.Points.Den,iV 1,iV 1000000]) ⟨(S.tm rfl),rfl,rfl,trivial⟩ call32) (Na _ y1.Points.Den 1 1000000 _ rfl) rfl ?_);clear S;intro v1 a w5 hv1 hk3 hn1 S
     subst hv1
     refine Vu S Lj rfl rfl fun a S=>Vm S rfl rfl fun a S=>Ik 6 (fun a w'=>Keep [] w5 w' ∧ Sx w [] nov [.blk b2 (Dj.enc y1) 52] [(8,Z),(9,iV (Aa.length : Int)),(10,iV (i1 : Int)),(30,bV ((!(Ev y1.Points.Den 1 1000000)) || (!(Ev y1.Points.Num 0 1000000000))))] 32 a w') ?_ ?_
     ·rcases Bool.eq_false_or_eq_true (!(Ev y1.Points.Den 1 1000000)) with hb3 | hb3
      ·iterate 5 (refine Gz S rfl rfl rfl (Nz hb3) rfl ?_ rfl;clear S;intro a S)
       exact lv S (Mj (!(Ev y1.Points.Num 0 1000000000)) hb3 (S.tm rfl) rfl) rfl fun a S=>Dl (⟨Keep.refl _ _,S.nf [true] rfl (subR rfl)⟩)
      ·refine Cq S rfl rfl rfl hb3 (Vf Nr S rfl rfl fun a S=>Cq S rfl rfl rfl hb3 (Vf Rh S rfl rfl fun a S=>Cq S rfl rfl rfl hb3 (Vl isAgg3 0 S rfl rfl rfl rfl fun a S=>Cq S rfl rfl rfl hb3 (Df S (fun _=>Ck (vs:=[iV y1.Points.Num,iV 0,iV 1000000000]) ⟨(S.tm rfl),rfl,rfl,trivial⟩ call32) (Na _ y1.Points.Num 0 1000000000 _ rfl) rfl ?_))));clear S;intro v2 a w7 hv2 hk4 hn2 S
       subst hv2
       exact Cq S rfl rfl rfl hb3 (Vu S Lj rfl rfl fun a S=>lv S (Mk hb3 (S.tm rfl) (S.tm rfl)) rfl fun a S=>Dl (⟨hk4,S.nf [true] rfl (subR rfl)⟩))
     clear S;rintro a w6 ⟨hk5,S⟩
     refine Va S rfl rfl fun a S=>Dl (Fc h (S.tm rfl) (fun hb4 h=>?_) (fun hb4 h=>?_))
     ·refine Fr (Vk S rfl rfl fun a S=>Dl (wp_ret (Fb (Fb (Cp (Cp (Fb ?_)))))))
      refine Cp (Cp ?_)
      subst h
      exact Ee S results8 rfl rfl
     ·exact wp_skip (Hf (Hf (Tn (Fg (Vq S Eh rfl rfl rfl fun a S=>Vm S rfl rfl fun a S=>Dl (⟨ys1,⟨i1 + 1,⟨_,(hd1).trans (List.append_cons _ _ _),by simp [hi1]⟩,h,S.nf [false] rfl ⟨rfl,rfl,(congrArg (fun z=>some (Value.int .i64 z)) (Fz hd1 hi1 (Il Ab))),trivial⟩⟩,Nat.lt_succ_self _⟩))))))
  clear S h;rintro a w2 ⟨h,S⟩;rw [hj1] at h;clear hj1 j1
  refine Tn (Fr (Vk S rfl rfl fun a S=>Dl (wp_ret ?_)))
  subst h
  exact Ee S results8 rfl rfl
theorem Tb (w : World) (Z : Value) (Aa : List Dj) (Ab : Slc (view w []) 3 Z (Aa.map Dj.enc)) (r : (List Int)) (h : Ll Aa = some r) :
    Calls prog 9 [Z].toArray w (Ret w [] fun τ v _=>Pr τ 3 1 v r.length (r.flatMap eInt)):=by
 refine Fe func9 rfl ntmps9 rfl fun a S=>?_
 unfold Ll at h
 replace S:=S.k1 0 rfl
 refine Fr (Vk S rfl rfl fun a S=>Dz (Vk S rfl rfl ?_));clear S;intro a S
 replace S:=S.nil 3 1
 refine Dl (Fs (Fr (Vm S rfl rfl fun a S=>lv S (Ec Pt (S.tm rfl) (Ew Ab)) rfl fun a S=>lv S (Rm rfl) rfl fun a S=>Dl ?_)))
 replace S:=(S.nl [.own (.slice none 0 0) 3 1 ([] : List Int).length (([] : List Int).flatMap eInt)] [true] rfl).k5 0 3 9 10 11 rfl
 obtain ⟨j1,hj1,h⟩:=Dw h
 refine Dk (fun a w'=>∃ x1 : List Int,∃ v1 : Value,j1 x1 = some r ∧ Sx w [] nov [.own v1 3 1 x1.length (x1.flatMap eInt)] [(3,v1)] 45 a w') ?_ ?_
 ·refine wp_block (Fq (fun (ys1 : List Dj) a w'=>∃ i1 : Nat,∃ x1 : List Int,∃ v1 : Value,(∃ dn,Aa = dn ++ ys1 ∧ dn.length = i1) ∧ Gw Aa j1 ys1 i1 x1 = some r ∧ Sx w [] nov [.own v1 3 1 x1.length (x1.flatMap eInt)] [(0,Z),(3,v1),(9,Z),(10,iV (Aa.length : Int)),(11,iV (i1 : Int))] 45 a w') List.length Aa ⟨0,([] : List Int),(.slice none 0 0),⟨[],rfl,rfl⟩,h,S.nf [true] rfl (subR rfl)⟩ ?_)
  clear S h;rintro ys1 a w1 ⟨i1,x1,v1,⟨dn,hd1,hi1⟩,h,S⟩
  cases ys1 with
  | nil =>
   rw [Gw.eq_1] at h
   refine Fr (Vb S Dp rfl rfl rfl fun a S=>Ld ?_)
   replace S:=S.k6 0 3 9 10 11 12 rfl
   exact Tn (Fs (wp_cond_false ((S.tm rfl).trans (congrArg Value.bool (Hj hd1 hi1))) (wp_exit (De (De (Fk (Tn (⟨x1,v1,h,S.nf [true] rfl ⟨rfl,trivial⟩⟩))))))))
  | cons y1 ys1 =>
   rw [Gw.eq_2] at h
   refine Fr (Vb S Dp rfl rfl rfl fun a S=>Ld ?_)
   replace S:=S.k6 0 3 9 10 11 12 rfl
   refine Tn (Fs (wp_cond_true ((S.tm rfl).trans (congrArg Value.bool (Fy hd1 hi1))) (wp_skip (Tn (Fs (wp_block (Fs (Fg ?_))))))))
   obtain ⟨b1,o1,hm1,hr1⟩:=Ea (a:=a) (x:=.tmp 9) (y:=.tmp 11) (ty:=0) Pt Ab (Hd hd1 hi1) rfl (S.tm rfl) (S.tm rfl)
   refine lv S (hr1 _) rfl ?_;clear S;intro a S
   clear hr1
   refine lv S (He isAgg52 sizeOf52 (off:=o1) (o:=0) (part:=(Dj.enc y1)) rfl rfl (S.tm rfl) (hm1.at S.emb0)) rfl fun a S=>Iq S zeroValue52 (cs:=[sV Co,iV 0,iV 0]) rfl rfl ?_;clear S;intro a w3 b2 hz1 hk1 S
   refine Hy S (S.tm rfl) (S.tm rfl) (i:=0) (off:=0) rfl sizeOf52 (vs:=(Dj.enc y1)) rfl rfl rfl rfl ?_;clear S;intro w4 hk2 S
   refine Dz (Vk S rfl rfl fun a S=>Dl (Fs (Fr (Vm S rfl rfl ?_))));clear S;intro a S
   refine lv S (Ec Pt (S.tm rfl) (Ew Ab)) rfl fun a S=>lv S (Rm rfl) rfl fun a S=>Dl ?_
   replace S:=(S.nl [.blk b2 (Dj.enc y1) 52,.own v1 3 1 x1.length (x1.flatMap eInt)] [true,true] rfl).k10 0 3 5 6 9 10 11 15 16 17 rfl
   obtain ⟨j2,hj2,h⟩:=Dw h
   refine Dk (fun a w'=>∃ x2 : Int,j2 x2 = some r ∧ Sx w [] nov [.blk b2 (Dj.enc y1) 52,.own v1 3 1 x1.length (x1.flatMap eInt)] [(0,Z),(3,v1),(6,iV x2),(9,Z),(10,iV (Aa.length : Int)),(11,iV (i1 : Int))] 45 a w') ?_ ?_
   ·refine wp_block (Fq (fun (ys2 : List Dj) a w'=>∃ i2 : Nat,∃ x2 : Int,(∃ dn,Aa = dn ++ ys2 ∧ dn.length = i2) ∧ Gv y1 j2 ys2 i2 x2 = some r ∧ Sx w [] nov [.blk b2 (Dj.enc y1) 52,.own v1 3 1 x1.length (x1.flatMap eInt)] [(0,Z),(3,v1),(5,.pointer (some ⟨b2,0,none⟩)),(6,iV x2),(9,Z),(10,iV (Aa.length : Int)),(11,iV (i1 : Int)),(15,Z),(16,iV (Aa.length : Int)),(17,iV (i2 : Int))] 45 a w') List.length Aa ⟨0,1,⟨[],rfl,rfl⟩,h,S.nf [true,true] rfl (subR rfl)⟩ ?_)
    clear S h;rintro ys2 a w5 ⟨i2,x2,⟨dn,hd2,hi2⟩,h,S⟩
    cases ys2 with
    | nil =>
     rw [Gv.eq_1] at h
     refine Fr (Vb S Dp rfl rfl rfl fun a S=>Ld ?_)
     replace S:=S.k11 0 3 5 6 9 10 11 15 16 17 18 rfl
     exact Tn (Fs (wp_cond_false ((S.tm rfl).trans (congrArg Value.bool (Hj hd2 hi2))) (wp_exit (De (De (Fk (Tn (⟨x2,h,S.nf [true,true] rfl (subR rfl)⟩))))))))
    | cons y2 ys2 =>
     rw [Gv.eq_2] at h
     refine Fr (Vb S Dp rfl rfl rfl fun a S=>Ld ?_)
     replace S:=S.k11 0 3 5 6 9 10 11 15 16 17 18 rfl
     refine Tn (Fs (wp_cond_true ((S.tm rfl).trans (congrArg Value.bool (Fy hd2 hi2))) (wp_skip (Tn (Fs ?_)))))
     obtain ⟨j3,hj3,h⟩:=Dw h
     refine Dk (fun a w'=>∃ x3 : Int,j3 x3 = some r ∧ Sx w [] nov [.blk b2 (Dj.enc y1) 52,.own v1 3 1 x1.length (x1.flatMap eInt)] [(0,Z),(3,v1),(5,.pointer (some ⟨b2,0,none⟩)),(6,iV x3),(9,Z),(10,iV (Aa.length : Int)),(11,iV (i1 : Int)),(15,Z),(16,iV (Aa.length : Int)),(17,iV (i2 : Int))] 45 a w') ?_ ?_
     ·refine wp_block (Fs (Fg ?_))
      obtain ⟨b3,o2,hm2,hr2⟩:=Ea (a:=a) (x:=.tmp 15) (y:=.tmp 17) (ty:=0) Pt Ab (Hd hd2 hi2) rfl (S.tm rfl) (S.tm rfl)
      refine lv S (hr2 _) rfl ?_;clear S;intro a S
      clear hr2
      refine lv S (He isAgg52 sizeOf52 (off:=o2) (o:=0) (part:=(Dj.enc y2)) rfl rfl (S.tm rfl) (hm2.at S.emb0)) rfl fun a S=>Iq S zeroValue52 (cs:=[sV Co,iV 0,iV 0]) rfl rfl ?_;clear S;intro a w8 b4 hz2 hk3 S
      refine Hy S (S.tm rfl) (S.tm rfl) (i:=0) (off:=0) rfl sizeOf52 (vs:=(Dj.enc y2)) rfl rfl rfl rfl ?_;clear S;intro w9 hk4 S
      refine Dz (Vf Nr S rfl rfl fun a S=>Vf Rh S rfl rfl fun a S=>Vl isAgg3 0 S rfl rfl rfl rfl fun a S=>Vf Nr S rfl rfl fun a S=>Vf Ri S rfl rfl fun a S=>Vl isAgg3 1 S rfl rfl rfl rfl fun a S=>Vb S Qv rfl rfl rfl ?_);clear S;intro a S
      refine Vf Nr S rfl rfl fun a S=>Vf Rh S rfl rfl fun a S=>Vl isAgg3 1 S rfl rfl rfl rfl fun a S=>Vf Nr S rfl rfl fun a S=>Vf Ri S rfl rfl fun a S=>Vl isAgg3 0 S rfl rfl rfl rfl fun a S=>Vb S Qv rfl rfl rfl fun a S=>Vb S Iv rfl rfl rfl fun a S=>Ld ?_
      replace S:=(S.nl [.blk b2 (Dj.enc y1) 52,.own v1 3 1 x1.length (x1.flatMap eInt)] [false,true,true] rfl).k11 0 3 5 6 9 10 11 15 16 17 35 rfl
      refine Tn ?_
      obtain ⟨j4,hj4,h⟩:=Dw h
      refine Dk (fun a w'=>∃ x4 : Int,j4 x4 = some r ∧ Sx w [] nov [.blk b2 (Dj.enc y1) 52,.own v1 3 1 x1.length (x1.flatMap eInt)] [(0,Z),(3,v1),(5,.pointer (some ⟨b2,0,none⟩)),(6,iV x4),(9,Z),(10,iV (Aa.length : Int)),(11,iV (i1 : Int)),(15,Z),(16,iV (Aa.length : Int)),(17,iV (i2 : Int))] 45 a w') ?_ ?_
      ·refine Fc h (S.tm rfl) (fun hb1 h=>?_) (fun hb1 h=>?_)
       ·exact Fg (Vm S rfl rfl fun a S=>Vq S Eh rfl rfl rfl fun a S=>Va S rfl rfl fun a S=>Dl (⟨W (x2 + 1),h,S.nf [true,true] rfl (subR rfl)⟩))
       ·exact wp_skip (Tn (⟨x2,h,S.nf [true,true] rfl (subR rfl)⟩))
      clear S h;rintro a w10 ⟨x4,h,S⟩;rw [hj4] at h;clear hj4 j4
      exact Hf (Tn (⟨x4,h,S.nf [true,true] rfl (subR rfl)⟩))
     clear S h;rintro a w7 ⟨x3,h,S⟩;rw [hj3] at h;clear hj3 j3
     exact Tn (Fg (Vq S Eh rfl rfl rfl fun a S=>Vm S rfl rfl fun a S=>Dl (⟨ys2,⟨i2 + 1,x3,⟨_,(hd2).trans (List.append_cons _ _ _),by simp [hi2]⟩,h,S.nf [true,true] rfl ⟨rfl,rfl,rfl,rfl,rfl,rfl,rfl,rfl,rfl,(congrArg (fun z=>some (Value.int .i64 z)) (Fz hd2 hi2 (Il Ab))),trivial⟩⟩,Nat.lt_succ_self _⟩)))
   clear S h;rintro a w6 ⟨x2,h,S⟩;rw [hj2] at h;clear hj2 j2
   refine Tn (Fg (Vm S rfl rfl fun a S=>Vm S rfl rfl fun a S=>Eb S underlying22 sizeOf3 zeroValue3 rfl rfl (pv:=[(0,iV x2)]) ⟨rfl,(S.tm rfl),trivial⟩ (cs:=[iV x2]) (by kernel_rfl) rfl ?_));clear S;intro a w11 b5 hz3 hk5 S
   obtain ⟨hc1,h⟩:=Gn h
   refine Mb Mz Nf S (S.tm rfl) (i:=2) rfl (S.tm rfl) (j:=0) rfl (ys:=[x2]) rfl rfl rfl rfl (by have:=Lh hc1;omega) rfl ?_;clear S;intro v2 a w12 hk6 S
   exact Va S rfl rfl fun a S=>Ld (Hf (Tn (Fg (Vq S Eh rfl rfl rfl fun a S=>Vm S rfl rfl fun a S=>Dl (⟨ys1,⟨i1 + 1,(x1 ++ [x2]),v2,⟨_,(hd1).trans (List.append_cons _ _ _),by simp [hi1]⟩,h,S.nf [false,false,true] rfl ⟨rfl,rfl,rfl,rfl,(congrArg (fun z=>some (Value.int .i64 z)) (Fz hd1 hi1 (Il Ab))),trivial⟩⟩,Nat.lt_succ_self _⟩)))))
 clear S h;rintro a w2 ⟨x1,v1,h,S⟩;rw [hj1] at h;clear hj1 j1
 refine Tn (Fr (Vm S rfl rfl fun a S=>Va S rfl rfl fun a S=>Dl (wp_ret ?_)))
 obtain rfl:=Option.some.inj h
 exact Ee S results9 rfl (Tz S (i:=0) rfl rfl)
theorem Si (w : World) (s : ByteArray) (c : Int) (r : Int) (h : Ml s c = r) : Calls prog 80 [.string s,.int .u8 c].toArray w (Ret w [] fun _ v _=>v = .int .i64 r):=by
  subst h
  exact Sb (Any.strings_IndexByte Tryz.lays137 s c w)
theorem Qm (w : World) (Ak : ByteArray) (Bs : ByteArray) (r : Bool) (h : Md Ak Bs = some r) :
    Calls prog 51 [sV Ak,sV Bs].toArray w (Ret w [] fun _ v _=>v = bV r):=by
 refine Fe func51 rfl ntmps51 rfl fun a S=>?_
 unfold Md at h
 replace S:=S.k2 0 1 rfl
 refine Fr (Vk S rfl rfl fun a S=>Dl (Fs (Fr (Vm S rfl rfl fun a S=>Vu S (Qx underlying9) rfl rfl fun a S=>lv S (Rm rfl) rfl ?_))));clear S;intro a S
 refine Dl ?_
 replace S:=S.k4 0 1 7 8 rfl
 obtain ⟨j1,hj1,h⟩:=Dw h
 refine Dk (fun a w'=>j1 = some r ∧ Sx w [] nov [] [] 18 a w') ?_ ?_
 ·refine wp_block (Fq (fun (m1 : Nat) a w'=>∃ x1 : Int,Hw Ak Bs j1 m1 x1 = some r ∧ Sx w [] nov [] [(0,sV Ak),(1,sV Bs),(7,iV (Ak.size : Int)),(8,iV x1)] 18 a w') id (((Ak.size : Int) - 0).toNat + 2) ⟨0,h,S.nf [] rfl (subR rfl)⟩ ?_)
  clear S h;rintro m1 a w1 ⟨x1,h,S⟩
  cases m1 with
  | zero=>rw [Hw.eq_1] at h;cases h
  | succ m1 =>
   rw [Hw.eq_2] at h
   refine Fr (Vb S Dp rfl rfl rfl fun a S=>Dl (Fs (Fc h (S.tm rfl) (fun hb1 h=>?_) (fun hb1 h=>?_))))
   ·refine wp_skip (Tn (Fs (wp_block (Fr (Vm S rfl rfl fun a S=>Va S rfl rfl fun a S=>Dl (Fs ?_))))))
    refine Fg ?_
    iterate 3 (refine Vm S rfl rfl ?_;clear S;intro a S)
    obtain ⟨hc1,h⟩:=Gn h
    refine lv S (Ps underlying9 (S.tm rfl) (S.tm rfl) hc1) rfl fun a S=>Df S (fun _=>Ck (vs:=[sV Bs,.int .u8 (Px Ak x1)]) ⟨(S.tm rfl),(S.tm rfl),trivial⟩ call80) (Si _ Bs (Px Ak x1) _ rfl) rfl ?_;clear S;intro v1 a w3 hv1 hk1 hn1 S
    subst hv1
    refine Vq S Dp rfl rfl rfl fun a S=>Dl (Fc h (S.tm rfl) (fun hb2 h=>?_) (fun hb2 h=>?_))
    ·refine Fr (Vk S rfl rfl fun a S=>Dl (wp_ret (Fb (Cp (Cp (Fb (Cp ?_)))))))
     refine Cp ?_
     obtain rfl:=Option.some.inj h
     exact Ee S results51 rfl rfl
    ·exact wp_skip (Hf (Tn (Fg (Vq S Eh rfl rfl rfl fun a S=>Vm S rfl rfl fun a S=>Dl (⟨m1,⟨W (x1 + 1),h,S.nf [] rfl ⟨rfl,rfl,rfl,rfl,trivial⟩⟩,Nat.lt_succ_self _⟩)))))
   ·exact wp_exit (De (De (Fk (Tn (⟨h,S.nf [] rfl trivial⟩)))))
 clear S h;rintro a w2 ⟨h,S⟩;rw [hj1] at h;clear hj1 j1
 refine Tn (Fr (Vk S rfl rfl fun a S=>Dl (wp_ret ?_)))
 obtain rfl:=Option.some.inj h
 exact Ee S results51 rfl rfl
theorem Ph (w : World) (Ak : ByteArray) (r : Bool) (h : Kx Ak = some r) :
    Calls prog 33 [sV Ak].toArray w (Ret w [] fun _ v _=>v = bV r):=by
 refine Fe func33 rfl ntmps33 rfl fun a S=>?_
 unfold Kx at h
 replace S:=S.k1 0 rfl
 refine Fr (Vk S rfl rfl fun a S=>Dz (Vm S rfl rfl fun a S=>Vu S (Qx underlying9) rfl rfl fun a S=>Df S (fun _=>Ck (vs:=[iV (Ak.size : Int),iV 1,iV 40]) ⟨(S.tm rfl),rfl,rfl,trivial⟩ call32) (Na _ (Ak.size : Int) 1 40 _ rfl) rfl ?_));clear S;intro v1 a w1 hv1 hk1 hn1 S
 subst hv1
 refine Vm S rfl rfl ?_;clear S;intro a S
 obtain ⟨j1,hj1,h⟩:=Dw h
 refine Ik 4 (fun a w'=>∃ c1,j1 c1 = some r ∧ Keep [] w1 w' ∧ Sx w [] nov [] [(0,sV Ak),(10,bV c1)] 15 a w') ?_ ?_
 ·rcases Bool.eq_false_or_eq_true (Ev (Ak.size : Int) 1 40) with hb1 | hb1
  ·replace h:=Oo h hb1
   refine Cq S rfl rfl rfl hb1 (Vm S rfl rfl fun a S=>Cq S rfl rfl rfl hb1 ?_)
   obtain ⟨hc1,h⟩:=Gn h
   refine lv S (CO underlying9 (S.tm rfl) rfl hc1) rfl fun a S=>Cq S rfl rfl rfl hb1 ?_
   obtain ⟨r1,hr1,h⟩:=Em h
   refine Df S (fun _=>Ck (vs:=[sV (Zi Ak 0 1),sV Hb]) ⟨(S.tm rfl),rfl,trivial⟩ call51) (Qm _ (Zi Ak 0 1) Hb _ hr1) rfl ?_;clear S;intro v2 a w3 hv2 hk2 hn2 S
   subst hv2
   exact lv S (Hr hb1 (S.tm rfl) (S.tm rfl)) rfl fun a S=>Dl (⟨_,h,hk2,S.nf [] rfl (subR rfl)⟩)
  ·replace h:=Oq h hb1
   iterate 3 (refine Gz S rfl rfl rfl (Jh hb1) rfl ?_ rfl;clear S;intro a S)
   exact Vq S (Hs true hb1) rfl rfl rfl fun a S=>Dl (⟨_,h,Keep.refl _ _,S.nf [] rfl (subR rfl)⟩)
 clear S h;rintro a w2 ⟨c1,h,hk3,S⟩;rw [hj1] at h;clear hj1 j1
 refine Vm S rfl rfl ?_;clear S;intro a S
 obtain ⟨j2,hj2,h⟩:=Dw h
 refine Ik 3 (fun a w'=>∃ c2,j2 c2 = some r ∧ Keep [] w2 w' ∧ Sx w [] nov [] [(14,bV c2)] 15 a w') ?_ ?_
 ·rcases Bool.eq_false_or_eq_true c1 with hb2 | hb2
  ·replace h:=Oo h hb2
   refine Cq S rfl rfl rfl hb2 (Vm S rfl rfl fun a S=>Cq S rfl rfl rfl hb2 ?_)
   obtain ⟨r2,hr2,h⟩:=Em h
   refine Df S (fun _=>Ck (vs:=[sV Ak,sV Ek]) ⟨(S.tm rfl),rfl,trivial⟩ call51) (Qm _ Ak Ek _ hr2) rfl ?_;clear S;intro v3 a w5 hv3 hk4 hn3 S
   subst hv3
   exact lv S (Hr hb2 (S.tm rfl) (S.tm rfl)) rfl fun a S=>Dl (⟨_,h,hk4,S.nf [] rfl ⟨rfl,trivial⟩⟩)
  ·replace h:=Oq h hb2
   exact Gz S rfl rfl rfl (Jh hb2) rfl (fun a S=>Gz S rfl rfl rfl (Jh hb2) rfl (fun a S=>Vq S (Hs true hb2) rfl rfl rfl fun a S=>Dl (⟨_,h,Keep.refl _ _,S.nf [] rfl ⟨rfl,trivial⟩⟩)) rfl) rfl
 clear S h;rintro a w4 ⟨c2,h,hk5,S⟩;rw [hj2] at h;clear hj2 j2
 refine Va S rfl rfl fun a S=>Dl (wp_ret ?_)
 obtain rfl:=Option.some.inj h
 exact Ee S results33 rfl rfl
set_option maxHeartbeats 8000000 in
set_option maxRecDepth 20000 in
theorem Ny (w : World) (Z : Value) (Aa : List An) (Ab : Slc (view w []) 5 Z (Aa.map An.enc)) (r : Int) (h : Ja Aa = some r) :
    Calls prog 10 [Z].toArray w (Ret w [] fun _ v _=>v = iV r):=by
 refine Fe func10 rfl ntmps10 rfl fun a S=>?_
 unfold Ja at h
 replace S:=S.k1 0 rfl
 refine Fr (Vk S rfl rfl fun a S=>Dl (Fs (Fr (Vm S rfl rfl fun a S=>lv S (Ec Hz (S.tm rfl) (Ew Ab)) rfl fun a S=>Vq S Iv rfl rfl rfl ?_))));clear S;intro a S
 refine Dl (Fc h (S.tm rfl) (fun hb1 h=>?_) (fun hb1 h=>?_))
 ·refine Fr (Vk S rfl rfl fun a S=>Dl (wp_ret (Cp ?_)))
  obtain rfl:=Option.some.inj h
  exact Ee S results10 rfl rfl
 ·refine wp_skip (Tn (Fs (Fr (Vm S rfl rfl fun a S=>lv S (Ec Hz (S.tm rfl) (Ew Ab)) rfl fun a S=>lv S (Rm rfl) rfl fun a S=>Dl ?_))))
  replace S:=S.k4 0 20 21 22 rfl
  obtain ⟨j1,hj1,h⟩:=Dw h
  refine Dk (fun a w'=>j1 = some r ∧ Sx w [] nov [] [(0,Z)] 171 a w') ?_ ?_
  ·refine wp_block (Fq (fun (ys1 : List An) a w'=>∃ i1 : Nat,(∃ dn,Aa = dn ++ ys1 ∧ dn.length = i1) ∧ Db Aa j1 ys1 i1 = some r ∧ Sx w [] nov [] [(0,Z),(20,Z),(21,iV (Aa.length : Int)),(22,iV (i1 : Int))] 171 a w') List.length Aa ⟨0,⟨[],rfl,rfl⟩,h,S.nf [] rfl (subR rfl)⟩ ?_)
   clear S h;rintro ys1 a w1 ⟨i1,⟨dn,hd1,hi1⟩,h,S⟩
   cases ys1 with
   | nil =>
    rw [Db.eq_1] at h
    refine Fr (Vb S Dp rfl rfl rfl fun a S=>Ld ?_)
    replace S:=S.k5 0 20 21 22 23 rfl
    exact Tn (Fs (wp_cond_false ((S.tm rfl).trans (congrArg Value.bool (Hj hd1 hi1))) (wp_exit (De (De (Fk (Tn (⟨h,S.nf [] rfl ⟨rfl,trivial⟩⟩))))))))
   | cons y1 ys1 =>
    rw [Db.eq_2] at h
    refine Fr (Vb S Dp rfl rfl rfl fun a S=>Ld ?_)
    replace S:=S.k5 0 20 21 22 23 rfl
    refine Tn (Fs (wp_cond_true ((S.tm rfl).trans (congrArg Value.bool (Fy hd1 hi1))) (wp_skip (Tn (Fs (wp_block (Fr (Vm S rfl rfl ?_))))))));clear S;intro a S
    obtain ⟨b1,o1,hm1,hr1⟩:=Ea (a:=a) (x:=.tmp 20) (y:=.tmp 22) (ty:=0) Hz Ab (Hd hd1 hi1) rfl (S.tm rfl) (S.tm rfl)
    refine lv S (hr1 _) rfl ?_;clear S;intro a S
    clear hr1
    refine lv S (He isAgg55 sizeOf55 (off:=o1) (o:=0) (part:=(An.enc y1)) rfl rfl (S.tm rfl) (hm1.at S.emb0)) rfl fun a S=>Iq S zeroValue55 (cs:=[sV Co,sV Co,sV Co,iV 0,bV false]) rfl rfl ?_;clear S;intro a w3 b2 hz1 hk1 S
    refine Va S rfl rfl fun a S=>Hy S (S.tm rfl) (S.tm rfl) (i:=0) (off:=0) rfl sizeOf55 (vs:=(An.enc y1)) rfl rfl rfl rfl ?_;clear S;intro w4 hk2 S
    refine Dl (wp_block (Fr (Vf Kn S rfl rfl fun a S=>Vl isAgg9 0 S rfl rfl rfl rfl ?_)));clear S;intro a S
    obtain ⟨r1,hr2,h⟩:=Em h
    refine Df S (fun _=>Ck (vs:=[sV y1.Race]) ⟨(S.tm rfl),trivial⟩ call33) (Ph _ y1.Race _ hr2) rfl ?_;clear S;intro v1 a w5 hv1 hk3 hn1 S
    subst hv1
    refine Vu S Lj rfl rfl fun a S=>Vm S rfl rfl ?_;clear S;intro a S
    obtain ⟨j2,hj2,h⟩:=Dw h
    refine Ik 5 (fun a w'=>∃ c1,j2 c1 = some r ∧ Keep [] w5 w' ∧ Sx w [] nov [.blk b2 (An.enc y1) 55] [(0,Z),(3,iV (i1 : Int)),(4,.pointer (some ⟨b2,0,none⟩)),(20,Z),(21,iV (Aa.length : Int)),(22,iV (i1 : Int)),(37,bV c1)] 171 a w') ?_ ?_
    ·rcases Bool.eq_false_or_eq_true (!r1) with hb2 | hb2
     ·replace h:=Oo h hb2
      iterate 4 (refine Gz S rfl rfl rfl (Nz hb2) rfl ?_ rfl;clear S;intro a S)
      exact Vq S (Mj true hb2) rfl rfl rfl fun a S=>Dl (⟨_,h,Keep.refl _ _,S.nf [true] rfl (subR rfl)⟩)
     ·replace h:=Oq h hb2
      refine Cq S rfl rfl rfl hb2 (Vf Mm S rfl rfl fun a S=>Cq S rfl rfl rfl hb2 (Vl isAgg9 0 S rfl rfl rfl rfl fun a S=>Cq S rfl rfl rfl hb2 ?_))
      obtain ⟨r2,hr3,h⟩:=Em h
      refine Df S (fun _=>Ck (vs:=[sV y1.Who]) ⟨(S.tm rfl),trivial⟩ call33) (Ph _ y1.Who _ hr3) rfl ?_;clear S;intro v2 a w7 hv2 hk4 hn2 S
      subst hv2
      exact Cq S rfl rfl rfl hb2 (Vu S Lj rfl rfl fun a S=>lv S (Mk hb2 (S.tm rfl) (S.tm rfl)) rfl fun a S=>Dl (⟨_,h,hk4,S.nf [true] rfl (subR rfl)⟩))
    clear S h;rintro a w6 ⟨c1,h,hk5,S⟩;rw [hj2] at h;clear hj2 j2
    refine Vm S rfl rfl ?_;clear S;intro a S
    obtain ⟨j3,hj3,h⟩:=Dw h
    refine Ik 10 (fun a w'=>∃ c2,j3 c2 = some r ∧ Keep [] w6 w' ∧ Sx w [] nov [.blk b2 (An.enc y1) 55] [(0,Z),(3,iV (i1 : Int)),(4,.pointer (some ⟨b2,0,none⟩)),(20,Z),(21,iV (Aa.length : Int)),(22,iV (i1 : Int)),(48,bV c2)] 171 a w') ?_ ?_
    ·rcases Bool.eq_false_or_eq_true c1 with hb3 | hb3
     ·replace h:=Oo h hb3
      iterate 4 (refine Gz S rfl rfl rfl (Nz hb3) rfl ?_ rfl;clear S;intro a S)
      iterate 4 (refine Sv S rfl rfl rfl rfl ?_;clear S;intro a S)
      exact Gz S rfl rfl rfl (Nz hb3) rfl (fun a S=>Vq S (Mj true hb3) rfl rfl rfl fun a S=>Dl (⟨_,h,Keep.refl _ _,S.nf [true] rfl (subR rfl)⟩)) rfl
     ·replace h:=Oq h hb3
      refine Cq S rfl rfl rfl hb3 (Vf Ns S rfl rfl fun a S=>Cq S rfl rfl rfl hb3 (Vl isAgg9 0 S rfl rfl rfl rfl fun a S=>Cq S rfl rfl rfl hb3 (Vq S Sr rfl rfl rfl fun a S=>Cq S rfl rfl rfl hb3 (Vm S rfl rfl ?_))));clear S;intro a S
      obtain ⟨j4,hj4,h⟩:=Dw h
      refine Ik 5 (fun a w'=>∃ c3,j4 c3 = some r ∧ Keep [] w6 w' ∧ Sx w [] nov [.blk b2 (An.enc y1) 55] [(0,Z),(3,iV (i1 : Int)),(4,.pointer (some ⟨b2,0,none⟩)),(20,Z),(21,iV (Aa.length : Int)),(22,iV (i1 : Int)),(38,bV c1),(39,.pointer (some ⟨b2,2,none⟩)),(40,sV y1.Club),(41,bV (!decide (y1.Club = Co))),(42,bV (!decide (y1.Club = Co))),(47,bV c3)] 171 a w') ?_ ?_
      ·rcases Bool.eq_false_or_eq_true (!decide (y1.Club = Co)) with hb4 | hb4
       ·replace h:=Oo h hb4
        refine Cq S rfl rfl rfl hb4 (Vf Ns S rfl rfl fun a S=>Cq S rfl rfl rfl hb4 (Vl isAgg9 0 S rfl rfl rfl rfl fun a S=>Cq S rfl rfl rfl hb4 ?_))
        obtain ⟨r3,hr4,h⟩:=Em h
        refine Df S (fun _=>Ck (vs:=[sV y1.Club]) ⟨(S.tm rfl),trivial⟩ call33) (Ph _ y1.Club _ hr4) rfl ?_;clear S;intro v3 a w10 hv3 hk6 hn3 S
        subst hv3
        exact Cq S rfl rfl rfl hb4 (Vu S Lj rfl rfl fun a S=>Cq S rfl rfl rfl hb3 (lv S (Hr hb4 (S.tm rfl) (S.tm rfl)) rfl fun a S=>Dl (⟨_,h,hk6,S.nf [true] rfl (subR rfl)⟩)))
       ·replace h:=Oq h hb4
        iterate 4 (refine Gz S rfl rfl rfl (Jh hb4) rfl ?_ rfl;clear S;intro a S)
        exact Cq S rfl rfl rfl hb3 (Vq S (Hs true hb4) rfl rfl rfl fun a S=>Dl (⟨_,h,Keep.refl _ _,S.nf [true] rfl (subR rfl)⟩))
      clear S h;rintro a w9 ⟨c3,h,hk7,S⟩;rw [hj4] at h;clear hj4 j4
      exact lv S (Mk hb3 (S.tm rfl) (S.tm rfl)) rfl fun a S=>Dl (⟨_,h,hk7,S.nf [true] rfl (subR rfl)⟩)
    clear S h;rintro a w8 ⟨c2,h,hk8,S⟩;rw [hj3] at h;clear hj3 j3
    refine Va S rfl rfl fun a S=>Dl (Fc h (S.tm rfl) (fun hb5 h=>?_) (fun hb5 h=>?_))
    ·refine Fr (Vk S rfl rfl fun a S=>Dl (wp_ret (Fb (Fb (Cp (Cp (Fb ?_)))))))
     refine Cp (Cp ?_)
     obtain rfl:=Option.some.inj h
     exact Ee S results10 rfl rfl
    ·refine Fr (Vf Hh S rfl rfl fun a S=>Vl isAgg3 0 S rfl rfl rfl rfl fun a S=>Df S (fun _=>Ck (vs:=[iV y1.Rank,iV 0,iV 300]) ⟨(S.tm rfl),rfl,rfl,trivial⟩ call32) (Na _ y1.Rank 0 300 _ rfl) rfl ?_);clear S;intro v4 a w11 hv4 hk9 hn4 S
     subst hv4
     refine Vu S Lj rfl rfl fun a S=>Va S rfl rfl fun a S=>Dl (Fc h (S.tm rfl) (fun hb6 h=>?_) (fun hb6 h=>?_))
     ·refine Fr (Vk S rfl rfl fun a S=>Dl (wp_ret (Fb (Fb (Cp (Cp (Fb ?_)))))))
      refine Cp (Cp ?_)
      obtain rfl:=Option.some.inj h
      exact Ee S results10 rfl rfl
     ·refine Fs ?_
      obtain ⟨j5,hj5,h⟩:=Dw h
      refine Dk (fun a w'=>∃ x1 : Bool,j5 x1 = some r ∧ Sx w [] nov [] [(0,Z),(20,Z),(21,iV (Aa.length : Int)),(22,iV (i1 : Int)),(54,bV x1)] 171 a w') ?_ ?_
      ·rcases Bool.eq_false_or_eq_true (decide (0 < (i1 : Int))) with hb7 | hb7
       ·replace h:=Oo h hb7
        obtain ⟨hc1,h⟩:=Gn h
        refine Gf [] ([]) Tryz.mixed S rfl (by kernel_rfl) ?_;clear S;intro w14 hk11 hsel S
        refine Cw 0 S hsel rfl rfl rfl (by kernel_rfl) (by kernel_rfl) rfl (fun _ hw=>(Rm (S.tm rfl))) fun a S=>Cw 1 S hsel rfl rfl rfl (by kernel_rfl) (by kernel_rfl) rfl (fun _ hw=>(Iv (S.tm rfl) rfl)) fun a S=>Cw 2 S hsel rfl rfl rfl (by kernel_rfl) (by kernel_rfl) rfl (fun _ hw=>(Rm (S.tm rfl))) fun a S=>Eg 3 S hsel rfl rfl rfl rfl hb7 rfl rfl (by kernel_rfl) (by kernel_rfl) rfl (fun _ hw=>(Rm (S.tm rfl))) fun a S=>Eg 4 S hsel rfl rfl rfl rfl hb7 rfl rfl (by kernel_rfl) (by kernel_rfl) rfl (fun _ hw=>(Rm (S.tm rfl))) fun a S=>Eg 5 S hsel rfl rfl rfl rfl hb7 rfl rfl (by kernel_rfl) (by kernel_rfl) rfl (fun _ hw=>(It (S.tm rfl) rfl)) ?_;clear S;intro a S
        obtain ⟨b4,o3,hm3,hr6⟩:=Ea (a:=a) (x:=.tmp 58) (y:=.tmp 60) (ty:=0) Hz (Ab.mono (S.le_arg Gm)) (Cn hc1).1 (Cn hc1).2 (S.tm rfl) (S.tm rfl)
        refine Eg 6 S hsel rfl rfl rfl rfl hb7 rfl rfl (by kernel_rfl) (by kernel_rfl) rfl (fun _ hw=>hr6 _) ?_;clear S;intro a S
        clear hr6
        refine Eg 7 S hsel rfl rfl rfl rfl hb7 rfl rfl (by kernel_rfl) (by kernel_rfl) rfl (fun _ hw=>(He isAgg55 sizeOf55 (off:=o3) (o:=0) (part:=(An.enc (nth Aa (W ((i1 : Int) - 1))))) rfl rfl (S.tm rfl) (hm3.kept hw))) fun a S=>Eg 8 S hsel rfl rfl rfl rfl hb7 rfl rfl (by kernel_rfl) (by kernel_rfl) rfl (fun _ hw=>(He isAgg55 sizeOf55 (off:=0) (o:=0) (part:=(An.enc y1)) rfl rfl (S.tm rfl) ((S.blk_mem (i:=0) (cells:=(An.enc y1)) (b:=b2) (T:=55) rfl (Hg (e':=.blk b2 (An.enc y1) 55))).kept hw))) fun a S=>Gu 9 (by kernel_rfl) rfl (Cq S rfl rfl rfl hb7 (Df S (fun _=>Ck (vs:=[.agg (An.enc (nth Aa (W ((i1 : Int) - 1)))).toArray,.agg (An.enc y1).toArray]) ⟨(S.tm rfl),(S.tm rfl),trivial⟩ call34) (Nx _ (nth Aa (W ((i1 : Int) - 1))) y1 _ rfl) rfl ?_));clear S;intro v6 a w15 hv6 hk12 hn6 S
        subst hv6
        refine Ld (Ib hk12 (Ji [10,11,12] hsel (by kernel_rfl) rfl ?_))
        clear hsel
        refine Fo S rfl rfl rfl rfl hb7 (Hm S (Ms (S.tm rfl) rfl) rfl fun a S=>Ei S rfl (Pp hb7 (S.tm rfl) (S.tm rfl)) rfl fun a S=>Ei S rfl (Ra (S.tm rfl)) rfl fun a S=>Ic ?_)
        replace S:=S.n0.k13 0 20 21 22 54 58 59 60 61 62 63 64 65 rfl
        exact Tn (⟨decide (0 ≤ (Dx (nth Aa (W ((i1 : Int) - 1))) y1)),h,S.nf [] rfl (subR rfl)⟩)
       ·replace h:=Oq h hb7
        refine Gf [] ([]) Tryz.mixed S rfl (by kernel_rfl) ?_;clear S;intro w16 hk13 hsel S
        refine Ji [0,1,2,3,4,5,6,7,8,9,10,11,12] hsel (by kernel_rfl) rfl ?_
        clear hsel
        refine Ei S rfl (Rm (S.tm rfl)) rfl fun a S=>Ei S rfl (Iv (S.tm rfl) rfl) rfl fun a S=>Ei S rfl (Rm (S.tm rfl)) rfl ?_;clear S;intro a S
        iterate 8 (refine Pf S rfl rfl rfl rfl (Jh hb7) rfl ?_ rfl;clear S;intro a S)
        refine Ei S rfl (Pq hb7 (S.tm rfl) rfl) rfl fun a S=>Ei S rfl (Ra (S.tm rfl)) rfl fun a S=>Ic ?_
        replace S:=S.n0.k5 0 20 21 22 54 rfl
        exact Tn (⟨false,h,S.nf [] rfl (subR rfl)⟩)
      clear S h;rintro a w12 ⟨x1,h,S⟩;rw [hj5] at h;clear hj5 j5
      refine Tn (Fc h (S.tm rfl) (fun hb8 h=>?_) (fun hb8 h=>?_))
      ·refine Fr (Vk S rfl rfl fun a S=>Dl (wp_ret (Fb (Fb (Cp (Cp (Fb ?_)))))))
       refine Cp (Cp ?_)
       obtain rfl:=Option.some.inj h
       exact Ee S results10 rfl rfl
      ·exact wp_skip (Hf (Hf (Tn (Fg (Vq S Eh rfl rfl rfl fun a S=>Vm S rfl rfl fun a S=>Dl (⟨ys1,⟨i1 + 1,⟨_,(hd1).trans (List.append_cons _ _ _),by simp [hi1]⟩,h,S.nf [] rfl ⟨rfl,rfl,rfl,(congrArg (fun z=>some (Value.int .i64 z)) (Fz hd1 hi1 (Il Ab))),trivial⟩⟩,Nat.lt_succ_self _⟩))))))
  clear S h;rintro a w2 ⟨h,S⟩;rw [hj1] at h;clear hj1 j1
  refine Tn (Fs (Fg ?_))
  iterate 4 (refine Vk S rfl rfl ?_;clear S;intro a S)
  refine Dl (Fs (Fr (Vm S rfl rfl fun a S=>lv S (Ec Hz (S.tm rfl) (Ew Ab)) rfl fun a S=>lv S (Rm rfl) rfl fun a S=>Dl ?_)))
  replace S:=S.k8 0 5 6 7 8 68 69 70 rfl
  obtain ⟨j6,hj6,h⟩:=Dw h
  refine Dk (fun a w'=>∃ x2 : Bool,∃ x3 : Bool,∃ x4 : Bool,∃ x5 : Bool,j6 x2 x3 x4 x5 = some r ∧ Sx w [] nov [] [(5,bV x2),(6,bV x3),(7,bV x4),(8,bV x5)] 171 a w') ?_ ?_
  ·refine wp_block (Fq (fun (ys2 : List An) a w'=>∃ i2 : Nat,∃ x2 : Bool,∃ x3 : Bool,∃ x4 : Bool,∃ x5 : Bool,(∃ dn,Aa = dn ++ ys2 ∧ dn.length = i2) ∧ Ep Aa j6 ys2 i2 x2 x3 x4 x5 = some r ∧ Sx w [] nov [] [(0,Z),(5,bV x2),(6,bV x3),(7,bV x4),(8,bV x5),(68,Z),(69,iV (Aa.length : Int)),(70,iV (i2 : Int))] 171 a w') List.length Aa ⟨0,false,false,false,false,⟨[],rfl,rfl⟩,h,S.nf [] rfl (subR rfl)⟩ ?_)
   clear S h;rintro ys2 a w17 ⟨i2,x2,x3,x4,x5,⟨dn,hd2,hi2⟩,h,S⟩
   cases ys2 with
   | nil =>
    rw [Ep.eq_1] at h
    refine Fr (Vb S Dp rfl rfl rfl fun a S=>Ld ?_)
    replace S:=S.k9 0 5 6 7 8 68 69 70 71 rfl
    exact Tn (Fs (wp_cond_false ((S.tm rfl).trans (congrArg Value.bool (Hj hd2 hi2))) (wp_exit (De (De (Fk (Tn (⟨x2,x3,x4,x5,h,S.nf [] rfl (subR rfl)⟩))))))))
   | cons y2 ys2 =>
    rw [Ep.eq_2] at h
    refine Fr (Vb S Dp rfl rfl rfl fun a S=>Ld ?_)
    replace S:=S.k9 0 5 6 7 8 68 69 70 71 rfl
    refine Tn (Fs (wp_cond_true ((S.tm rfl).trans (congrArg Value.bool (Fy hd2 hi2))) (wp_skip (Tn (Fs (wp_block (Fr (Vm S rfl rfl ?_))))))));clear S;intro a S
    obtain ⟨b5,o4,hm4,hr7⟩:=Ea (a:=a) (x:=.tmp 68) (y:=.tmp 70) (ty:=0) Hz Ab (Hd hd2 hi2) rfl (S.tm rfl) (S.tm rfl)
    refine lv S (hr7 _) rfl ?_;clear S;intro a S
    clear hr7
    refine lv S (He isAgg55 sizeOf55 (off:=o4) (o:=0) (part:=(An.enc y2)) rfl rfl (S.tm rfl) (hm4.at S.emb0)) rfl fun a S=>Iq S zeroValue55 (cs:=[sV Co,sV Co,sV Co,iV 0,bV false]) rfl rfl ?_;clear S;intro a w19 b6 hz2 hk14 S
    refine Va S rfl rfl fun a S=>Hy S (S.tm rfl) (S.tm rfl) (i:=0) (off:=0) rfl sizeOf55 (vs:=(An.enc y2)) rfl rfl rfl rfl ?_;clear S;intro w20 hk15 S
    refine Dz (Vk S rfl rfl fun a S=>Vk S rfl rfl fun a S=>Ld ?_)
    replace S:=(S.nl [.blk b6 (An.enc y2) 55] [true] rfl).k12 0 5 6 7 8 9 10 11 12 68 69 70 rfl
    refine Tn (Fs (Fr (Vm S rfl rfl fun a S=>lv S (Ec Hz (S.tm rfl) (Ew Ab)) rfl fun a S=>lv S (Rm rfl) rfl fun a S=>Ld ?_)))
    replace S:=S.k15 0 5 6 7 8 9 10 11 12 68 69 70 75 76 77 rfl
    refine Tn ?_
    obtain ⟨j7,hj7,h⟩:=Dw h
    refine Dk (fun a w'=>∃ x6 : Bool,∃ x7 : Bool,∃ x8 : Int,∃ x9 : Int,j7 x6 x7 x8 x9 = some r ∧ Sx w [] nov [.blk b6 (An.enc y2) 55] [(0,Z),(5,bV x6),(6,bV x7),(7,bV x4),(8,bV x5),(10,.pointer (some ⟨b6,0,none⟩)),(11,iV x8),(12,iV x9),(68,Z),(69,iV (Aa.length : Int)),(70,iV (i2 : Int))] 171 a w') ?_ ?_
    ·refine wp_block (Fq (fun (ys3 : List An) a w'=>∃ i3 : Nat,∃ x6 : Bool,∃ x7 : Bool,∃ x8 : Int,∃ x9 : Int,(∃ dn,Aa = dn ++ ys3 ∧ dn.length = i3) ∧ Eo y2 i2 j7 ys3 i3 x6 x7 x8 x9 = some r ∧ Sx w [] nov [.blk b6 (An.enc y2) 55] [(0,Z),(5,bV x6),(6,bV x7),(7,bV x4),(8,bV x5),(9,iV (i2 : Int)),(10,.pointer (some ⟨b6,0,none⟩)),(11,iV x8),(12,iV x9),(68,Z),(69,iV (Aa.length : Int)),(70,iV (i2 : Int)),(75,Z),(76,iV (Aa.length : Int)),(77,iV (i3 : Int))] 171 a w') List.length Aa ⟨0,x2,x3,0,0,⟨[],rfl,rfl⟩,h,S.nf [true] rfl (subR rfl)⟩ ?_)
     clear S h;rintro ys3 a w21 ⟨i3,x6,x7,x8,x9,⟨dn,hd3,hi3⟩,h,S⟩
     cases ys3 with
     | nil =>
      rw [Eo.eq_1] at h
      refine Fr (Vb S Dp rfl rfl rfl fun a S=>Ld ?_)
      replace S:=S.k16 0 5 6 7 8 9 10 11 12 68 69 70 75 76 77 78 rfl
      exact Tn (Fs (wp_cond_false ((S.tm rfl).trans (congrArg Value.bool (Hj hd3 hi3))) (wp_exit (De (De (Fk (Tn (⟨x6,x7,x8,x9,h,S.nf [true] rfl (subR rfl)⟩))))))))
     | cons y3 ys3 =>
      rw [Eo.eq_2] at h
      refine Fr (Vb S Dp rfl rfl rfl fun a S=>Ld ?_)
      replace S:=S.k16 0 5 6 7 8 9 10 11 12 68 69 70 75 76 77 78 rfl
      refine Tn (Fs (wp_cond_true ((S.tm rfl).trans (congrArg Value.bool (Fy hd3 hi3))) (wp_skip (Tn (Fs ?_)))))
      obtain ⟨j8,hj8,h⟩:=Dw h
      refine Dk (fun a w'=>∃ x10 : Bool,∃ x11 : Bool,∃ x12 : Int,∃ x13 : Int,j8 x10 x11 x12 x13 = some r ∧ Sx w [] nov [.blk b6 (An.enc y2) 55] [(0,Z),(5,bV x10),(6,bV x11),(7,bV x4),(8,bV x5),(9,iV (i2 : Int)),(10,.pointer (some ⟨b6,0,none⟩)),(11,iV x12),(12,iV x13),(68,Z),(69,iV (Aa.length : Int)),(70,iV (i2 : Int)),(75,Z),(76,iV (Aa.length : Int)),(77,iV (i3 : Int))] 171 a w') ?_ ?_
      ·refine wp_block (Fr (Vm S rfl rfl ?_));clear S;intro a S
       obtain ⟨b7,o5,hm5,hr8⟩:=Ea (a:=a) (x:=.tmp 75) (y:=.tmp 77) (ty:=0) Hz Ab (Hd hd3 hi3) rfl (S.tm rfl) (S.tm rfl)
       refine lv S (hr8 _) rfl ?_;clear S;intro a S
       clear hr8
       refine lv S (He isAgg55 sizeOf55 (off:=o5) (o:=0) (part:=(An.enc y3)) rfl rfl (S.tm rfl) (hm5.at S.emb0)) rfl fun a S=>Iq S zeroValue55 (cs:=[sV Co,sV Co,sV Co,iV 0,bV false]) rfl rfl ?_;clear S;intro a w24 b8 hz3 hk16 S
       refine Va S rfl rfl fun a S=>Hy S (S.tm rfl) (S.tm rfl) (i:=0) (off:=0) rfl sizeOf55 (vs:=(An.enc y3)) rfl rfl rfl rfl ?_;clear S;intro w25 hk17 S
       refine Ld ?_
       replace S:=S.nk [.blk b8 (An.enc y3) 55,.blk b6 (An.enc y2) 55] [(0,Z),(5,bV x6),(6,bV x7),(7,bV x4),(8,bV x5),(9,iV (i2 : Int)),(10,.pointer (some ⟨b6,0,none⟩)),(11,iV x8),(12,iV x9),(13,iV (i3 : Int)),(14,.pointer (some ⟨b8,0,none⟩)),(68,Z),(69,iV (Aa.length : Int)),(70,iV (i2 : Int)),(75,Z),(76,iV (Aa.length : Int)),(77,iV (i3 : Int))] [true,true] rfl (subR rfl)
       refine Tn (Fs (Fr (Vf Kn S rfl rfl fun a S=>Vl isAgg9 0 S rfl rfl rfl rfl fun a S=>Vf Kn S rfl rfl fun a S=>Vl isAgg9 1 S rfl rfl rfl rfl fun a S=>Vb S Sr rfl rfl rfl fun a S=>Ld ?_)))
       replace S:=S.nk [.blk b8 (An.enc y3) 55,.blk b6 (An.enc y2) 55] [(0,Z),(5,bV x6),(6,bV x7),(7,bV x4),(8,bV x5),(9,iV (i2 : Int)),(10,.pointer (some ⟨b6,0,none⟩)),(11,iV x8),(12,iV x9),(13,iV (i3 : Int)),(14,.pointer (some ⟨b8,0,none⟩)),(68,Z),(69,iV (Aa.length : Int)),(70,iV (i2 : Int)),(75,Z),(76,iV (Aa.length : Int)),(77,iV (i3 : Int)),(86,bV (!decide (y3.Race = y2.Race)))] [true,true] rfl (subR rfl)
       refine Tn (Fc h (S.tm rfl) (fun hb9 h=>?_) (fun hb9 h=>?_))
       ·exact wp_exit (De (Fk (Tn (⟨x6,x7,x8,x9,h,S.nf [false,true] rfl (subR rfl)⟩))))
       ·refine wp_skip (Tn (Fr (Vm S rfl rfl fun a S=>Vm S rfl rfl fun a S=>Ik 11 (fun a w'=>Keep [] w25 w' ∧ Sx w [] nov [.blk b8 (An.enc y3) 55,.blk b6 (An.enc y2) 55] [(0,Z),(6,bV x7),(7,bV x4),(8,bV x5),(9,iV (i2 : Int)),(10,.pointer (some ⟨b6,0,none⟩)),(11,iV x8),(12,iV x9),(14,.pointer (some ⟨b8,0,none⟩)),(68,Z),(69,iV (Aa.length : Int)),(70,iV (i2 : Int)),(75,Z),(76,iV (Aa.length : Int)),(77,iV (i3 : Int)),(99,bV (x6 || ((!decide ((i3 : Int) = (i2 : Int))) && (decide (y3.Who = y2.Who)))))] 171 a w') ?_ ?_)))
        ·rcases Bool.eq_false_or_eq_true x6 with hb10 | hb10
         ·iterate 4 (refine Gz S rfl rfl rfl (Nz hb10) rfl ?_ rfl;clear S;intro a S)
          iterate 5 (refine Sv S rfl rfl rfl rfl ?_;clear S;intro a S)
          exact Gz S rfl rfl rfl (Nz hb10) rfl (fun a S=>lv S (Mj ((!decide ((i3 : Int) = (i2 : Int))) && (decide (y3.Who = y2.Who))) hb10 (S.tm rfl) rfl) rfl fun a S=>Dl (⟨Keep.refl _ _,S.nf [true,true] rfl (subR rfl)⟩)) rfl
         ·refine Cq S rfl rfl rfl hb10 (Vm S rfl rfl fun a S=>Cq S rfl rfl rfl hb10 (Vm S rfl rfl fun a S=>Cq S rfl rfl rfl hb10 (Vb S Ot rfl rfl rfl fun a S=>Cq S rfl rfl rfl hb10 (Vm S rfl rfl fun a S=>Ik 6 (fun a w'=>Keep [] w25 w' ∧ Sx w [] nov [.blk b8 (An.enc y3) 55,.blk b6 (An.enc y2) 55] [(0,Z),(6,bV x7),(7,bV x4),(8,bV x5),(9,iV (i2 : Int)),(10,.pointer (some ⟨b6,0,none⟩)),(11,iV x8),(12,iV x9),(14,.pointer (some ⟨b8,0,none⟩)),(68,Z),(69,iV (Aa.length : Int)),(70,iV (i2 : Int)),(75,Z),(76,iV (Aa.length : Int)),(77,iV (i3 : Int)),(88,bV x6),(89,iV (i3 : Int)),(90,iV (i2 : Int)),(91,bV (!decide ((i3 : Int) = (i2 : Int)))),(92,bV (!decide ((i3 : Int) = (i2 : Int)))),(98,bV ((!decide ((i3 : Int) = (i2 : Int))) && (decide (y3.Who = y2.Who))))] 171 a w') ?_ ?_))))
          ·rcases Bool.eq_false_or_eq_true (!decide ((i3 : Int) = (i2 : Int))) with hb11 | hb11
           ·refine Cq S rfl rfl rfl hb11 (Vf Mm S rfl rfl fun a S=>Cq S rfl rfl rfl hb11 (Vl isAgg9 0 S rfl rfl rfl rfl fun a S=>Cq S rfl rfl rfl hb11 (Vf Mm S rfl rfl fun a S=>Cq S rfl rfl rfl hb11 (Vl isAgg9 1 S rfl rfl rfl rfl fun a S=>Cq S rfl rfl rfl hb11 (Vb S Pk rfl rfl rfl fun a S=>Cq S rfl rfl rfl hb10 ?_)))))
            exact lv S (Hr hb11 (S.tm rfl) (S.tm rfl)) rfl fun a S=>Dl (⟨Keep.refl _ _,S.nf [true,true] rfl (subR rfl)⟩)
           ·iterate 5 (refine Gz S rfl rfl rfl (Jh hb11) rfl ?_ rfl;clear S;intro a S)
            exact Cq S rfl rfl rfl hb10 (lv S (Hs (decide (y3.Who = y2.Who)) hb11 (S.tm rfl) rfl) rfl fun a S=>Dl (⟨Keep.refl _ _,S.nf [true,true] rfl (subR rfl)⟩))
          clear S;rintro a w27 ⟨hk18,S⟩
          exact lv S (Mk hb10 (S.tm rfl) (S.tm rfl)) rfl fun a S=>Dl (⟨hk18,S.nf [true,true] rfl (subR rfl)⟩)
        clear S;rintro a w26 ⟨hk19,S⟩
        refine Va S rfl rfl fun a S=>Ld ?_
        replace S:=S.k16 0 5 6 7 8 9 10 11 12 14 68 69 70 75 76 77 rfl
        refine Tn (Fr (Vm S rfl rfl fun a S=>Vm S rfl rfl fun a S=>Ik 6 (fun a w'=>Keep [] w26 w' ∧ Sx w [] nov [.blk b8 (An.enc y3) 55,.blk b6 (An.enc y2) 55] [(0,Z),(5,bV (x6 || ((!decide ((i3 : Int) = (i2 : Int))) && (decide (y3.Who = y2.Who))))),(7,bV x4),(8,bV x5),(9,iV (i2 : Int)),(10,.pointer (some ⟨b6,0,none⟩)),(11,iV x8),(12,iV x9),(14,.pointer (some ⟨b8,0,none⟩)),(68,Z),(69,iV (Aa.length : Int)),(70,iV (i2 : Int)),(75,Z),(76,iV (Aa.length : Int)),(77,iV (i3 : Int)),(107,bV (x7 || (!decide (y3.Relay = y2.Relay))))] 171 a w') ?_ ?_))
        ·rcases Bool.eq_false_or_eq_true x7 with hb12 | hb12
         ·iterate 5 (refine Gz S rfl rfl rfl (Nz hb12) rfl ?_ rfl;clear S;intro a S)
          exact lv S (Mj (!decide (y3.Relay = y2.Relay)) hb12 (S.tm rfl) rfl) rfl fun a S=>Dl (⟨Keep.refl _ _,S.nf [true,true] rfl (subR rfl)⟩)
         ·refine Cq S rfl rfl rfl hb12 (Vf Sw S rfl rfl fun a S=>Cq S rfl rfl rfl hb12 (Vl isAgg4 0 S rfl rfl rfl rfl fun a S=>Cq S rfl rfl rfl hb12 (Vf Sw S rfl rfl fun a S=>Cq S rfl rfl rfl hb12 (Vl isAgg4 1 S rfl rfl rfl rfl fun a S=>Cq S rfl rfl rfl hb12 (lv S (BG underlying4 (S.tm rfl) (S.tm rfl)) rfl fun a S=>lv S (Mk hb12 (S.tm rfl) (S.tm rfl)) rfl ?_)))));clear S;intro a S
          exact Dl (⟨Keep.refl _ _,S.nf [true,true] rfl (subR rfl)⟩)
        clear S;rintro a w28 ⟨hk20,S⟩
        refine Va S rfl rfl fun a S=>Ld ?_
        replace S:=S.k16 0 5 6 7 8 9 10 11 12 14 68 69 70 75 76 77 rfl
        refine Tn (Fs (Fr (Vf Hh S rfl rfl fun a S=>Vl isAgg3 0 S rfl rfl rfl rfl fun a S=>Vq S Iv rfl rfl rfl fun a S=>Vm S rfl rfl fun a S=>Ik 6 (fun a w'=>Keep [] w28 w' ∧ Sx w [] nov [.blk b8 (An.enc y3) 55,.blk b6 (An.enc y2) 55] [(0,Z),(5,bV (x6 || ((!decide ((i3 : Int) = (i2 : Int))) && (decide (y3.Who = y2.Who))))),(6,bV (x7 || (!decide (y3.Relay = y2.Relay)))),(7,bV x4),(8,bV x5),(9,iV (i2 : Int)),(10,.pointer (some ⟨b6,0,none⟩)),(11,iV x8),(12,iV x9),(14,.pointer (some ⟨b8,0,none⟩)),(68,Z),(69,iV (Aa.length : Int)),(70,iV (i2 : Int)),(75,Z),(76,iV (Aa.length : Int)),(77,iV (i3 : Int)),(117,bV ((decide (0 < y3.Rank)) && (decide (y3.Rank < y2.Rank))))] 171 a w') ?_ ?_)))
        ·rcases Bool.eq_false_or_eq_true (decide (0 < y3.Rank)) with hb13 | hb13
         ·refine Cq S rfl rfl rfl hb13 (Vf Hh S rfl rfl fun a S=>Cq S rfl rfl rfl hb13 (Vl isAgg3 0 S rfl rfl rfl rfl fun a S=>Cq S rfl rfl rfl hb13 (Vf Hh S rfl rfl fun a S=>Cq S rfl rfl rfl hb13 (Vl isAgg3 1 S rfl rfl rfl rfl fun a S=>Cq S rfl rfl rfl hb13 (Vb S Dp rfl rfl rfl fun a S=>lv S (Hr hb13 (S.tm rfl) (S.tm rfl)) rfl ?_)))));clear S;intro a S
          exact Dl (⟨Keep.refl _ _,S.nf [true,true] rfl (subR rfl)⟩)
         ·iterate 5 (refine Gz S rfl rfl rfl (Jh hb13) rfl ?_ rfl;clear S;intro a S)
          exact lv S (Hs (decide (y3.Rank < y2.Rank)) hb13 (S.tm rfl) rfl) rfl fun a S=>Dl (⟨Keep.refl _ _,S.nf [true,true] rfl (subR rfl)⟩)
        clear S;rintro a w29 ⟨hk21,S⟩
        refine Ld ?_
        replace S:=S.nk [.blk b8 (An.enc y3) 55,.blk b6 (An.enc y2) 55] [(0,Z),(5,bV (x6 || ((!decide ((i3 : Int) = (i2 : Int))) && (decide (y3.Who = y2.Who))))),(6,bV (x7 || (!decide (y3.Relay = y2.Relay)))),(7,bV x4),(8,bV x5),(9,iV (i2 : Int)),(10,.pointer (some ⟨b6,0,none⟩)),(11,iV x8),(12,iV x9),(14,.pointer (some ⟨b8,0,none⟩)),(68,Z),(69,iV (Aa.length : Int)),(70,iV (i2 : Int)),(75,Z),(76,iV (Aa.length : Int)),(77,iV (i3 : Int)),(117,bV ((decide (0 < y3.Rank)) && (decide (y3.Rank < y2.Rank))))] [true,true] rfl (subR rfl)
        refine Tn ?_
        obtain ⟨j9,hj9,h⟩:=Dw h
        refine Dk (fun a w'=>∃ x14 : Int,j9 x14 = some r ∧ Sx w [] nov [.blk b8 (An.enc y3) 55,.blk b6 (An.enc y2) 55] [(0,Z),(5,bV (x6 || ((!decide ((i3 : Int) = (i2 : Int))) && (decide (y3.Who = y2.Who))))),(6,bV (x7 || (!decide (y3.Relay = y2.Relay)))),(7,bV x4),(8,bV x5),(9,iV (i2 : Int)),(10,.pointer (some ⟨b6,0,none⟩)),(11,iV x14),(12,iV x9),(14,.pointer (some ⟨b8,0,none⟩)),(68,Z),(69,iV (Aa.length : Int)),(70,iV (i2 : Int)),(75,Z),(76,iV (Aa.length : Int)),(77,iV (i3 : Int))] 171 a w') ?_ ?_
        ·refine Fc h (S.tm rfl) (fun hb14 h=>?_) (fun hb14 h=>?_)
         ·refine Fg (Vm S rfl rfl fun a S=>Vq S Eh rfl rfl rfl fun a S=>Va S rfl rfl fun a S=>Ld ?_)
          replace S:=S.k16 0 5 6 7 8 9 10 11 12 14 68 69 70 75 76 77 rfl
          exact Tn (⟨W (x8 + 1),h,S.nf [true,true] rfl (subR rfl)⟩)
         ·exact wp_skip (Tn (⟨x8,h,S.nf [true,true] rfl (subR rfl)⟩))
        clear S h;rintro a w30 ⟨x14,h,S⟩;rw [hj9] at h;clear hj9 j9
        refine Tn (Fr (Vf Hh S rfl rfl fun a S=>Vl isAgg3 0 S rfl rfl rfl rfl fun a S=>Vf Hh S rfl rfl fun a S=>Vl isAgg3 1 S rfl rfl rfl rfl fun a S=>Vb S Kq rfl rfl rfl fun a S=>Ld ?_))
        replace S:=S.d0.k16 0 5 6 7 8 9 10 11 12 68 69 70 75 76 77 124 rfl
        refine Tn ?_
        obtain ⟨j10,hj10,h⟩:=Dw h
        refine Dk (fun a w'=>∃ x15 : Int,j10 x15 = some r ∧ Sx w [] nov [.blk b6 (An.enc y2) 55] [(0,Z),(5,bV (x6 || ((!decide ((i3 : Int) = (i2 : Int))) && (decide (y3.Who = y2.Who))))),(6,bV (x7 || (!decide (y3.Relay = y2.Relay)))),(7,bV x4),(8,bV x5),(9,iV (i2 : Int)),(10,.pointer (some ⟨b6,0,none⟩)),(11,iV x14),(12,iV x15),(68,Z),(69,iV (Aa.length : Int)),(70,iV (i2 : Int)),(75,Z),(76,iV (Aa.length : Int)),(77,iV (i3 : Int))] 171 a w') ?_ ?_
        ·refine Fc h (S.tm rfl) (fun hb15 h=>?_) (fun hb15 h=>?_)
         ·refine Fg (Vm S rfl rfl fun a S=>Vq S Eh rfl rfl rfl fun a S=>Va S rfl rfl fun a S=>Ld ?_)
          replace S:=S.k15 0 5 6 7 8 9 10 11 12 68 69 70 75 76 77 rfl
          exact Tn (⟨W (x9 + 1),h,S.nf [true] rfl (subR rfl)⟩)
         ·exact wp_skip (Tn (⟨x9,h,S.nf [true] rfl (subR rfl)⟩))
        clear S h;rintro a w31 ⟨x15,h,S⟩;rw [hj10] at h;clear hj10 j10
        exact Hf (Tn (⟨(x6 || ((!decide ((i3 : Int) = (i2 : Int))) && (decide (y3.Who = y2.Who)))),(x7 || (!decide (y3.Relay = y2.Relay))),x14,x15,h,S.nf [true] rfl (subR rfl)⟩))
      clear S h;rintro a w23 ⟨x10,x11,x12,x13,h,S⟩;rw [hj8] at h;clear hj8 j8
      refine Tn (Fg (Vq S Eh rfl rfl rfl fun a S=>Vm S rfl rfl fun a S=>Ld ?_))
      replace S:=S.k15 0 5 6 7 8 9 10 11 12 68 69 70 75 76 77 rfl
      exact Tn (⟨ys3,⟨i3 + 1,x10,x11,x12,x13,⟨_,(hd3).trans (List.append_cons _ _ _),by simp [hi3]⟩,h,S.nf [true] rfl ⟨rfl,rfl,rfl,rfl,rfl,rfl,rfl,rfl,rfl,rfl,rfl,rfl,rfl,rfl,(congrArg (fun z=>some (Value.int .i64 z)) (Fz hd3 hi3 (Il Ab))),trivial⟩⟩,Nat.lt_succ_self _⟩)
    clear S h;rintro a w22 ⟨x6,x7,x8,x9,h,S⟩;rw [hj7] at h;clear hj7 j7
    refine Tn (Fr (Vm S rfl rfl fun a S=>Vm S rfl rfl fun a S=>Ik 11 (fun a w'=>Keep [] w22 w' ∧ Sx w [] nov [.blk b6 (An.enc y2) 55] [(0,Z),(5,bV x6),(6,bV x7),(8,bV x5),(10,.pointer (some ⟨b6,0,none⟩)),(12,iV x9),(68,Z),(69,iV (Aa.length : Int)),(70,iV (i2 : Int)),(140,bV (x4 || ((decide (0 < y2.Rank)) && (!decide (y2.Rank = (W (x8 + 1)))))))] 171 a w') ?_ ?_))
    ·rcases Bool.eq_false_or_eq_true x4 with hb16 | hb16
     ·iterate 4 (refine Gz S rfl rfl rfl (Nz hb16) rfl ?_ rfl;clear S;intro a S)
      iterate 5 (refine Sv S rfl rfl rfl rfl ?_;clear S;intro a S)
      exact Gz S rfl rfl rfl (Nz hb16) rfl (fun a S=>lv S (Mj ((decide (0 < y2.Rank)) && (!decide (y2.Rank = (W (x8 + 1))))) hb16 (S.tm rfl) rfl) rfl fun a S=>Dl (⟨Keep.refl _ _,S.nf [true] rfl (subR rfl)⟩)) rfl
     ·refine Cq S rfl rfl rfl hb16 (Vf Hh S rfl rfl fun a S=>Cq S rfl rfl rfl hb16 (Vl isAgg3 0 S rfl rfl rfl rfl fun a S=>Cq S rfl rfl rfl hb16 (Vq S Iv rfl rfl rfl fun a S=>Cq S rfl rfl rfl hb16 (Vm S rfl rfl fun a S=>Ik 6 (fun a w'=>Keep [] w22 w' ∧ Sx w [] nov [.blk b6 (An.enc y2) 55] [(0,Z),(5,bV x6),(6,bV x7),(8,bV x5),(10,.pointer (some ⟨b6,0,none⟩)),(12,iV x9),(68,Z),(69,iV (Aa.length : Int)),(70,iV (i2 : Int)),(129,bV x4),(130,.pointer (some ⟨b6,3,none⟩)),(131,iV y2.Rank),(132,bV (decide (0 < y2.Rank))),(133,bV (decide (0 < y2.Rank))),(139,bV ((decide (0 < y2.Rank)) && (!decide (y2.Rank = (W (x8 + 1))))))] 171 a w') ?_ ?_))))
      ·rcases Bool.eq_false_or_eq_true (decide (0 < y2.Rank)) with hb17 | hb17
       ·refine Cq S rfl rfl rfl hb17 (Vf Hh S rfl rfl fun a S=>Cq S rfl rfl rfl hb17 (Vl isAgg3 0 S rfl rfl rfl rfl fun a S=>Cq S rfl rfl rfl hb17 (Vm S rfl rfl fun a S=>Cq S rfl rfl rfl hb17 (Vq S Eh rfl rfl rfl fun a S=>Cq S rfl rfl rfl hb17 (Vb S Ot rfl rfl rfl fun a S=>Cq S rfl rfl rfl hb16 ?_)))))
        exact lv S (Hr hb17 (S.tm rfl) (S.tm rfl)) rfl fun a S=>Dl (⟨Keep.refl _ _,S.nf [true] rfl (subR rfl)⟩)
       ·iterate 5 (refine Gz S rfl rfl rfl (Jh hb17) rfl ?_ rfl;clear S;intro a S)
        exact Cq S rfl rfl rfl hb16 (lv S (Hs (!decide (y2.Rank = (W (x8 + 1)))) hb17 (S.tm rfl) rfl) rfl fun a S=>Dl (⟨Keep.refl _ _,S.nf [true] rfl (subR rfl)⟩))
      clear S;rintro a w33 ⟨hk22,S⟩
      exact lv S (Mk hb16 (S.tm rfl) (S.tm rfl)) rfl fun a S=>Dl (⟨hk22,S.nf [true] rfl (subR rfl)⟩)
    clear S;rintro a w32 ⟨hk23,S⟩
    refine Va S rfl rfl fun a S=>Dl (Fg (Vm S rfl rfl fun a S=>Vm S rfl rfl fun a S=>Ik 8 (fun a w'=>Keep [] w32 w' ∧ Sx w [] nov [.blk b6 (An.enc y2) 55] [(0,Z),(5,bV x6),(6,bV x7),(7,bV (x4 || ((decide (0 < y2.Rank)) && (!decide (y2.Rank = (W (x8 + 1))))))),(68,Z),(69,iV (Aa.length : Int)),(70,iV (i2 : Int)),(150,bV (x5 || ((decide (0 < y2.Rank)) && (decide (10 < x9)))))] 171 a w') ?_ ?_))
    ·rcases Bool.eq_false_or_eq_true x5 with hb18 | hb18
     ·iterate 4 (refine Gz S rfl rfl rfl (Nz hb18) rfl ?_ rfl;clear S;intro a S)
      exact Sv S rfl rfl rfl rfl fun a S=>Sv S rfl rfl rfl rfl fun a S=>Gz S rfl rfl rfl (Nz hb18) rfl (fun a S=>lv S (Mj ((decide (0 < y2.Rank)) && (decide (10 < x9))) hb18 (S.tm rfl) rfl) rfl fun a S=>Dl (⟨Keep.refl _ _,S.nf [true] rfl (subR rfl)⟩)) rfl
     ·refine Cq S rfl rfl rfl hb18 (Vf Hh S rfl rfl fun a S=>Cq S rfl rfl rfl hb18 (Vl isAgg3 0 S rfl rfl rfl rfl fun a S=>Cq S rfl rfl rfl hb18 (Vq S Iv rfl rfl rfl fun a S=>Cq S rfl rfl rfl hb18 (Vm S rfl rfl fun a S=>Ik 3 (fun a w'=>Keep [] w32 w' ∧ Sx w [] nov [.blk b6 (An.enc y2) 55] [(0,Z),(5,bV x6),(6,bV x7),(7,bV (x4 || ((decide (0 < y2.Rank)) && (!decide (y2.Rank = (W (x8 + 1))))))),(68,Z),(69,iV (Aa.length : Int)),(70,iV (i2 : Int)),(142,bV x5),(143,.pointer (some ⟨b6,3,none⟩)),(144,iV y2.Rank),(145,bV (decide (0 < y2.Rank))),(146,bV (decide (0 < y2.Rank))),(149,bV ((decide (0 < y2.Rank)) && (decide (10 < x9))))] 171 a w') ?_ ?_))))
      ·rcases Bool.eq_false_or_eq_true (decide (0 < y2.Rank)) with hb19 | hb19
       ·exact Cq S rfl rfl rfl hb19 (Vm S rfl rfl fun a S=>Cq S rfl rfl rfl hb19 (Vq S Iv rfl rfl rfl fun a S=>Cq S rfl rfl rfl hb18 (lv S (Hr hb19 (S.tm rfl) (S.tm rfl)) rfl fun a S=>Dl (⟨Keep.refl _ _,S.nf [true] rfl (subR rfl)⟩))))
       ·exact Gz S rfl rfl rfl (Jh hb19) rfl (fun a S=>Gz S rfl rfl rfl (Jh hb19) rfl (fun a S=>Cq S rfl rfl rfl hb18 (lv S (Hs (decide (10 < x9)) hb19 (S.tm rfl) rfl) rfl fun a S=>Dl (⟨Keep.refl _ _,S.nf [true] rfl (subR rfl)⟩))) rfl) rfl
      clear S;rintro a w35 ⟨hk24,S⟩
      exact lv S (Mk hb18 (S.tm rfl) (S.tm rfl)) rfl fun a S=>Dl (⟨hk24,S.nf [true] rfl (subR rfl)⟩)
    clear S;rintro a w34 ⟨hk25,S⟩
    exact Va S rfl rfl fun a S=>Ld (Hf (Tn (Fg (Vq S Eh rfl rfl rfl fun a S=>Vm S rfl rfl fun a S=>Dl (⟨ys2,⟨i2 + 1,x6,x7,(x4 || ((decide (0 < y2.Rank)) && (!decide (y2.Rank = (W (x8 + 1)))))),(x5 || ((decide (0 < y2.Rank)) && (decide (10 < x9)))),⟨_,(hd2).trans (List.append_cons _ _ _),by simp [hi2]⟩,h,S.nf [false] rfl ⟨rfl,rfl,rfl,rfl,rfl,rfl,rfl,(congrArg (fun z=>some (Value.int .i64 z)) (Fz hd2 hi2 (Il Ab))),trivial⟩⟩,Nat.lt_succ_self _⟩)))))
  clear S h;rintro a w18 ⟨x2,x3,x4,x5,h,S⟩;rw [hj6] at h;clear hj6 j6
  refine Tn (Fs (Fr (Vm S rfl rfl fun a S=>lv S (Nu BU (pv:=[(0,bV x2),(1,iV 6)]) ⟨rfl,(S.tm rfl),rfl,rfl,trivial⟩ (cs:=[bV x2,iV 6]) (by kernel_rfl)) rfl fun a S=>Vm S rfl rfl fun a S=>lv S (Nu BU (pv:=[(0,bV x3),(1,iV 3)]) ⟨rfl,(S.tm rfl),rfl,rfl,trivial⟩ (cs:=[bV x3,iV 3]) (by kernel_rfl)) rfl fun a S=>Vm S rfl rfl fun a S=>lv S (Nu BU (pv:=[(0,bV x4),(1,iV 16)]) ⟨rfl,(S.tm rfl),rfl,rfl,trivial⟩ (cs:=[bV x4,iV 16]) (by kernel_rfl)) rfl fun a S=>Vm S rfl rfl ?_)));clear S;intro a S
  refine lv S (Nu BU (pv:=[(0,bV x5),(1,iV 12)]) ⟨rfl,(S.tm rfl),rfl,rfl,trivial⟩ (cs:=[bV x5,iV 12]) (by kernel_rfl)) rfl fun a S=>Eb S underlying73 sizeOf72 zeroValue72 rfl rfl (pv:=[(0,.agg #[bV x2,iV 6]),(1,.agg #[bV x3,iV 3]),(2,.agg #[bV x4,iV 16]),(3,.agg #[bV x5,iV 12])]) ⟨rfl,(S.tm rfl),rfl,(S.tm rfl),rfl,(S.tm rfl),rfl,(S.tm rfl),trivial⟩ (cs:=[bV x2,iV 6,bV x3,iV 3,bV x4,iV 16,bV x5,iV 12]) (by kernel_rfl) rfl ?_;clear S;intro a w36 b9 hz4 hk26 S
  refine lv S (Ec sl_73 (S.tm rfl) ⟨_,_,rfl⟩) rfl fun a S=>lv S (Rm rfl) rfl fun a S=>Ld ?_
  replace S:=(S.nl [.blk b9 [bV x2,iV 6,bV x3,iV 3,bV x4,iV 16,bV x5,iV 12] 72] [true] rfl).k3 160 161 162 rfl
  refine Tn ?_
  replace S:=S.litOwn (i:=0) (xs:=[(Di.mk x2 6),(Di.mk x3 3),(Di.mk x4 16),(Di.mk x5 12)]) rfl Di.enc_ok rfl rfl rfl
  replace S:=S.nk [.own (.slice (some ⟨b9,0,none⟩) 4 4) 72 2 ([(Di.mk x2 6),(Di.mk x3 3),(Di.mk x4 16),(Di.mk x5 12)] : List Di).length (([(Di.mk x2 6),(Di.mk x3 3),(Di.mk x4 16),(Di.mk x5 12)] : List Di).flatMap Di.enc)] [(160,(.slice (some ⟨b9,0,none⟩) 4 4)),(161,iV (([(Di.mk x2 6),(Di.mk x3 3),(Di.mk x4 16),(Di.mk x5 12)] : List Di).length : Int)),(162,iV 0)] [] rfl (subR rfl)
  obtain ⟨φ1,hl1,hs1,S⟩:=S.freezeT (xs:=([(Di.mk x2 6),(Di.mk x3 3),(Di.mk x4 16),(Di.mk x5 12)] : List Di)) (enc:=Di.enc) (i:=0) rfl (fun _ h=>by cases h)
  replace S:=S.nk [] [(160,(.slice (some ⟨b9,0,none⟩) 4 4)),(161,iV (([(Di.mk x2 6),(Di.mk x3 3),(Di.mk x4 16),(Di.mk x5 12)] : List Di).length : Int)),(162,iV 0)] [] rfl (subR rfl)
  obtain ⟨j11,hj11,h⟩:=Dw h
  refine Dk (fun a w'=>j11 = some r ∧ Sx w [] φ1 [] [] 171 a w') ?_ ?_
  ·refine wp_block (Fq (fun (ys4 : List Di) a w'=>∃ i4 : Nat,(∃ dn,([(Di.mk x2 6),(Di.mk x3 3),(Di.mk x4 16),(Di.mk x5 12)] : List Di) = dn ++ ys4 ∧ dn.length = i4) ∧ Fl j11 ys4 i4 = some r ∧ Sx w [] φ1 [] [(160,(.slice (some ⟨b9,0,none⟩) 4 4)),(161,iV (([(Di.mk x2 6),(Di.mk x3 3),(Di.mk x4 16),(Di.mk x5 12)] : List Di).length : Int)),(162,iV (i4 : Int))] 171 a w') List.length ([(Di.mk x2 6),(Di.mk x3 3),(Di.mk x4 16),(Di.mk x5 12)] : List Di) ⟨0,⟨[],rfl,rfl⟩,h,S.nf [] rfl (subR rfl)⟩ ?_)
   clear S h;rintro ys4 a w37 ⟨i4,⟨dn,hd4,hi4⟩,h,S⟩
   cases ys4 with
   | nil =>
    rw [Fl.eq_1] at h
    refine Fr (Vb S Dp rfl rfl rfl fun a S=>Ld ?_)
    replace S:=S.k4 160 161 162 163 rfl
    exact Tn (Fs (wp_cond_false ((S.tm rfl).trans (congrArg Value.bool (Hj hd4 hi4))) (wp_exit (De (De (Fk (Tn (⟨h,S.nf [] rfl trivial⟩))))))))
   | cons y4 ys4 =>
    rw [Fl.eq_2] at h
    refine Fr (Vb S Dp rfl rfl rfl fun a S=>Ld ?_)
    replace S:=S.k4 160 161 162 163 rfl
    refine Tn (Fs (wp_cond_true ((S.tm rfl).trans (congrArg Value.bool (Fy hd4 hi4))) (wp_skip (Tn (Fs (wp_block (Fs (Fg ?_))))))))
    obtain ⟨b10,o6,hm6,hr9⟩:=Ea (a:=a) (x:=.tmp 160) (y:=.tmp 162) (ty:=0) sl_73 (Ir Di.enc_ok hs1) (Hd hd4 hi4) rfl (S.tm rfl) (S.tm rfl)
    refine lv S (hr9 _) rfl ?_;clear S;intro a S
    clear hr9
    refine lv S (He isAgg72 sizeOf72 (off:=o6) (o:=0) (part:=(Di.enc y4)) rfl rfl (S.tm rfl) (hm6.at S.emb)) rfl fun a S=>Iq S zeroValue72 (cs:=[bV false,iV 0]) rfl rfl ?_;clear S;intro a w39 b11 hz5 hk27 S
    refine Hy S (S.tm rfl) (S.tm rfl) (i:=0) (off:=0) rfl sizeOf72 (vs:=(Di.enc y4)) rfl rfl rfl rfl ?_;clear S;intro w40 hk28 S
    refine Dz (Vf fa_72_0 S rfl rfl fun a S=>Vl isAgg4 0 S rfl rfl rfl rfl fun a S=>Dl (Fc h (S.tm rfl) (fun hb20 h=>?_) (fun hb20 h=>?_)))
    ·refine Fr (Vf fa_72_1 S rfl rfl fun a S=>Vl isAgg30 0 S rfl rfl rfl rfl fun a S=>Va S rfl rfl fun a S=>Dl (wp_ret (Fb (Cp (Cp ?_)))))
     refine Fb (Cp (Cp ?_))
     obtain rfl:=Option.some.inj h
     exact Ee S results10 rfl rfl
    ·exact wp_skip (Hf (Tn (Fg (Vq S Eh rfl rfl rfl fun a S=>Vm S rfl rfl fun a S=>Dl (⟨ys4,⟨i4 + 1,⟨_,(hd4).trans (List.append_cons _ _ _),by simp [hi4]⟩,h,S.nf [false] rfl ⟨rfl,rfl,(congrArg (fun z=>some (Value.int .i64 z)) (Fz hd4 hi4 (Il (Ir Di.enc_ok hs1)))),trivial⟩⟩,Nat.lt_succ_self _⟩)))))
  clear S h;rintro a w38 ⟨h,S⟩;rw [hj11] at h;clear hj11 j11
  refine Tn (Fr (Vk S rfl rfl fun a S=>Dl (wp_ret ?_)))
  obtain rfl:=Option.some.inj h
  exact Ee S results10 rfl rfl
theorem Rw (w : World) (Al : Value) (Ai : List ByteArray) (Br : (LEnt.own Al 9 1 Ai.length (Ai.flatMap Hi)).holds w) (r : (List ByteArray)) (h : Jl Ai = some r) :
    Calls prog 35 [Al].toArray w (Ret w (Al.ownBlock.toList) fun _ v w'=>(LEnt.own Al 9 1 r.length (r.flatMap Hi)).holds w' ∧ v = .tuple #[]):=by
  unfold Jl at h
  obtain ⟨hc,h⟩:=Gn h
  obtain rfl:=Option.some.inj h
  have hc:=of_decide_eq_true hc
  have hown : w.ownsRow 0 9 1 Al Ai.length (Ai.flatMap Hi):=Br
  have he : ∀ l : List ByteArray,l.flatMap Hi = (l.map fun b=>b.data.toList).map encStr:=by
    intro l;induction l with
    | nil=>rfl
    | cons x l ih=>rw [List.flatMap_cons,ih];rfl
  have hs : (Jj Ai).length = Ai.length:=by simp [Jj]
  have hs2 : (Jj Ai).map (fun b=>b.data.toList) = (Ai.map fun b=>b.data.toList).mergeSort fun x y=>decide (x ≤ y):=by
    unfold Jj
    rw [List.map_map]
    exact (List.map_congr_left fun x _=>rfl).trans (List.map_id _)
  rcases hown.2 with ⟨rfl,h0⟩ | ⟨g,cap,cur,rfl,hbase,hb,h1,h2,h3,h4⟩
  · obtain rfl : Ai = []:=List.length_eq_zero_iff.1 h0
    refine (Any.slices_Sort_string_none Tryz.lays190 none 0 w).mono ?_
    rintro e w' ⟨rfl,n,rfl⟩
    exact ⟨_,rfl,⟨rfl,rfl,rfl,Nat.le_refl _,fun _ _ _=>rfl⟩,⟨by simp [Jj],.inl ⟨rfl,by simp [Jj]⟩⟩,rfl⟩
  · have c:=Any.slices_Sort_string Tryz.lays190 g 0 cap (Ai.map fun b=>b.data.toList) w (holds_of_block hb (by rw [List.length_map,← he,← h4,Nat.mul_one])) (Array.getElem?_eq_some_iff.1 hb).1 (by rw [List.length_map];exact hc)
    rw [List.length_map] at c
    refine c.mono ?_
    rintro e w' ⟨rfl,n,os,rfl⟩
    have gb:=grownBy_sorted (w:=w) (g:=g) (n:=n) (os:=os) ((Ai.map fun b=>b.data.toList).mergeSort fun x y=>decide (x ≤ y)).toArray
    refine ⟨_,rfl,⟨gb.os,gb.tape,gb.output,gb.size,fun k hk hx=>gb.block k hk (fun e=>hx (by simp [Value.ownBlock,← e]))⟩,?_,rfl⟩
    have:=ownsRow_sorted (n:=n) (os:=os) (ss:=Ai.map fun b=>b.data.toList) (ts:=(Ai.map fun b=>b.data.toList).mergeSort fun x y=>decide (x ≤ y)) (by simp) hbase hb (by rw [List.length_map];exact h1) h2 (by simpa using h3)
    show World.ownsRow _ 0 9 1 _ (Jj Ai).length ((Jj Ai).flatMap Hi)
    rw [he,hs2,hs]
    rw [List.length_map] at this
    exact this
set_option maxRecDepth 20000 in
theorem Qh (w : World) (Am : Value) (Ak : List ByteArray) (Ch : (LEnt.own Am 9 1 Ak.length (Ak.flatMap Hi)).holds w) (r : (List ByteArray)) (h : Iu Ak = some r) :
    Calls prog 36 [Am].toArray w (Ret w (Am.ownBlock.toList) fun _ v w'=>(LEnt.own v 9 1 r.length (r.flatMap Hi)).holds w' ∧ v.ownBlock = Am.ownBlock):=by
 refine Jt (Am.ownBlock.toList) [.own Am 9 1 Ak.length (Ak.flatMap Hi)] func36 rfl ntmps36 rfl (fun e he=>by simp only [List.mem_singleton] at he;subst he;exact Ch) (Jd _) (Kb _) fun a S=>?_
 unfold Iu at h
 replace S:=(S.nl [.own Am 9 1 Ak.length (Ak.flatMap Hi)] [true] rfl).k1 0 rfl
 refine Fr (Vk S rfl rfl fun a S=>Dl (Fs (Fr (Vm S rfl rfl fun a S=>lv S (Ec Kp (S.tm rfl) (Nd (S.own_at (i:=0) rfl))) rfl fun a S=>Vq S Dp rfl rfl rfl ?_))));clear S;intro a S
 refine Dl (Fc h (S.tm rfl) (fun hb1 h=>?_) (fun hb1 h=>?_))
 ·refine Fr (Vm S rfl rfl fun a S=>Va S rfl rfl fun a S=>Dl (wp_ret (Cp ?_)))
  obtain rfl:=Option.some.inj h
  exact Ee S results36 rfl ⟨(S.holds _ (List.mem_of_getElem? (i:=0) rfl)),rfl⟩
 ·refine wp_skip (Tn (Fs (Fr (Vk S rfl rfl fun a S=>Dl ?_))))
  replace S:=S.k2 0 3 rfl
  obtain ⟨j1,hj1,h⟩:=Dw h
  refine Dk (fun a w'=>j1 = some r ∧ Sx w (Am.ownBlock.toList) nov [.own Am 9 1 Ak.length (Ak.flatMap Hi)] [(0,Am)] 61 a w') ?_ ?_
  ·refine wp_block (Fq (fun (m1 : Nat) a w'=>∃ x1 : Int,Eu Ak j1 m1 x1 = some r ∧ Sx w (Am.ownBlock.toList) nov [.own Am 9 1 Ak.length (Ak.flatMap Hi)] [(0,Am),(3,iV x1)] 61 a w') id (((Ak.length : Int) - 1).toNat + 2) ⟨1,h,S.nf [true] rfl (subR rfl)⟩ ?_)
   clear S h;rintro m1 a w1 ⟨x1,h,S⟩
   cases m1 with
   | zero=>rw [Eu.eq_1] at h;cases h
   | succ m1 =>
    rw [Eu.eq_2] at h
    refine Fs (Fr (Vm S rfl rfl fun a S=>Vm S rfl rfl fun a S=>lv S (Ec Kp (S.tm rfl) (Nd (S.own_at (i:=0) rfl))) rfl fun a S=>Vb S Dp rfl rfl rfl fun a S=>Dl (Fc h (S.tm rfl) (fun hb2 h=>?_) (fun hb2 h=>?_))))
    ·refine wp_skip (Tn (Fs (wp_block (Fs (Gf [] ([]) Tryz.mixed S rfl (by kernel_rfl) ?_)))));clear S;intro w3 hk1 hsel S
     refine Ji [0,1,2,3,4,5,6,7,8,9] hsel (by kernel_rfl) rfl ?_
     clear hsel
     refine Ei S rfl (Rm (S.tm rfl)) rfl fun a S=>Ei S rfl (Rm (S.tm rfl)) rfl ?_;clear S;intro a S
     obtain ⟨hc1,h⟩:=Gn h
     obtain ⟨b1,hg1,hr1⟩:=Ft (a:=a) (x:=.tmp 16) (y:=.tmp 17) (ty:=0) Kp Fa S (i:=0) rfl (Cn hc1).1 (Cn hc1).2 (S.tm rfl) (S.tm rfl)
     refine Ei S rfl (hr1 _) rfl ?_;clear S;intro a S
     clear hr1
     refine Ei S rfl (Gy isAgg9 (off:=x1.toNat * 1) (o:=0) (S.tm rfl) (Ks Fa S (i:=0) rfl hg1 (Cn hc1).1) rfl) rfl fun a S=>Ei S rfl (Rm (S.tm rfl)) rfl fun a S=>Ei S rfl (Rm (S.tm rfl)) rfl fun a S=>Ei S rfl (It (S.tm rfl) rfl) rfl ?_;clear S;intro a S
     obtain ⟨hc2,h⟩:=Gn h
     obtain ⟨b2,hg2,hr2⟩:=Ft (a:=a) (x:=.tmp 20) (y:=.tmp 22) (ty:=0) Kp Fa S (i:=0) rfl (Cn hc2).1 (Cn hc2).2 (S.tm rfl) (S.tm rfl)
     refine Ei S rfl (hr2 _) rfl ?_;clear S;intro a S
     clear hr2
     refine Ei S rfl (Gy isAgg9 (off:=((W (x1 - 1)).toNat) * 1) (o:=0) (S.tm rfl) (Ks Fa S (i:=0) rfl hg2 (Cn hc2).1) rfl) rfl fun a S=>Ei S rfl (Pk (S.tm rfl) (S.tm rfl)) rfl fun a S=>Ic ?_
     replace S:=S.k3 0 3 25 rfl
     refine Tn (Fc h (S.tm rfl) (fun hb3 h=>?_) (fun hb3 h=>?_))
     ·refine Fr (Vm S rfl rfl fun a S=>Vm S rfl rfl ?_);clear S;intro a S
      obtain ⟨hc3,h⟩:=Gn h
      obtain ⟨u1,hu1,hr3⟩:=BQ (a:=a) (x:=.tmp 26) (y:=.tmp 27) (ty:=75) Kp S (i:=0) rfl (S.tm rfl) (S.tm rfl) hc3
      refine lv S (hr3 _) rfl ?_;clear S;intro a S
      clear hr3
      refine Va S rfl rfl fun a S=>Dl (Fs (Fr (Vk S rfl rfl fun a S=>Dl ?_)))
      replace S:=S.k4 0 3 4 5 rfl
      obtain ⟨j2,hj2,h⟩:=Dw h
      refine Dk (fun a w'=>∃ x2 : List ByteArray,∃ x3 : Int,j2 x2 x3 = some r ∧ Sx w (Am.ownBlock.toList) nov [.own Am 9 1 x2.length (x2.flatMap Hi)] [(0,Am),(3,iV x3)] 61 a w') ?_ ?_
      ·refine wp_block (Fq (fun (m2 : Nat) a w'=>∃ x2 : List ByteArray,∃ x3 : Int,∃ x4 : Int,Fw Ak x1 j2 m2 x2 x3 x4 = some r ∧ Sx w (Am.ownBlock.toList) nov [.own Am 9 1 x2.length (x2.flatMap Hi)] [(0,Am),(3,iV x3),(4,u1),(5,iV x4)] 61 a w') id (((((Ak.length : Int).toNat - x1.toNat : Nat) : Int) - 1).toNat + 2) ⟨Ak,x1,1,h,S.nf [true] rfl (subR rfl)⟩ ?_)
       clear S h;rintro m2 a w4 ⟨x2,x3,x4,h,S⟩
       cases m2 with
       | zero=>rw [Fw.eq_1] at h;cases h
       | succ m2 =>
        rw [Fw.eq_2] at h
        refine Fs (Fr (Vm S rfl rfl fun a S=>Vm S rfl rfl fun a S=>lv S (Ec Kp (S.tm rfl) (subLen hu1)) rfl fun a S=>Vb S Dp rfl rfl rfl fun a S=>Dl (Fc h (S.tm rfl) (fun hb4 h=>?_) (fun hb4 h=>?_))))
        ·refine wp_skip (Tn (Fs ?_))
         obtain ⟨j3,hj3,h⟩:=Dw h
         refine Dk (fun a w'=>∃ x5 : List ByteArray,∃ x6 : Int,j3 x5 x6 = some r ∧ Sx w (Am.ownBlock.toList) nov [.own Am 9 1 x5.length (x5.flatMap Hi)] [(0,Am),(3,iV x6),(4,u1),(5,iV x4)] 61 a w') ?_ ?_
         ·refine wp_block (Fs (Gf [] ([]) Tryz.mixed S rfl (by kernel_rfl) ?_));clear S;intro w7 hk2 hsel S
          refine Ji [0,1,2,3,4,5,6,7,8,9] hsel (by kernel_rfl) rfl ?_
          clear hsel
          refine Ei S rfl (Rm (S.tm rfl)) rfl fun a S=>Ei S rfl (Rm (S.tm rfl)) rfl ?_;clear S;intro a S
          obtain ⟨hc4,h⟩:=Gn h
          have hj4:=(Yw (Yx S (i:=0) rfl hu1) hc4).1
          obtain ⟨b3,hg3,hr4⟩:=Sf (a:=a) (x:=.tmp 35) (y:=.tmp 36) (ty:=0) Kp Fa S (i:=0) rfl hu1 hc4 (S.tm rfl) (S.tm rfl)
          refine Ei S rfl (hr4 _) rfl ?_;clear S;intro a S
          clear hr4
          refine Ei S rfl (Gy isAgg9 (off:=(x1.toNat + x4.toNat) * 1) (o:=0) (S.tm rfl) (Ks Fa S (i:=0) rfl hg3 hj4) rfl) rfl fun a S=>Ei S rfl (Rm (S.tm rfl)) rfl fun a S=>Ei S rfl (Rm (S.tm rfl)) rfl fun a S=>Ei S rfl (It (S.tm rfl) rfl) rfl ?_;clear S;intro a S
          obtain ⟨hc5,h⟩:=Gn h
          have hj5:=(Yw (Yx S (i:=0) rfl hu1) hc5).1
          obtain ⟨b4,hg4,hr5⟩:=Sf (a:=a) (x:=.tmp 39) (y:=.tmp 41) (ty:=0) Kp Fa S (i:=0) rfl hu1 hc5 (S.tm rfl) (S.tm rfl)
          refine Ei S rfl (hr5 _) rfl ?_;clear S;intro a S
          clear hr5
          refine Ei S rfl (Gy isAgg9 (off:=(x1.toNat + (W (x4 - 1)).toNat) * 1) (o:=0) (S.tm rfl) (Ks Fa S (i:=0) rfl hg4 hj5) rfl) rfl fun a S=>Ei S rfl (Sr (S.tm rfl) (S.tm rfl)) rfl fun a S=>Ic ?_
          replace S:=S.k5 0 3 4 5 44 rfl
          refine Tn ?_
          obtain ⟨j4,hj6,h⟩:=Dw h
          refine Dk (fun a w'=>∃ x7 : List ByteArray,∃ x8 : Int,j4 x7 x8 = some r ∧ Sx w (Am.ownBlock.toList) nov [.own Am 9 1 x7.length (x7.flatMap Hi)] [(0,Am),(3,iV x8),(4,u1),(5,iV x4)] 61 a w') ?_ ?_
          ·refine Fc h (S.tm rfl) (fun hb5 h=>?_) (fun hb5 h=>?_)
           ·refine Fs (Fg ?_)
            iterate 4 (refine Vm S rfl rfl ?_;clear S;intro a S)
            obtain ⟨hc6,h⟩:=Gn h
            have hj7:=(Yw (Yx S (i:=0) rfl hu1) hc6).1
            obtain ⟨b5,hg5,hr6⟩:=Sf (a:=a) (x:=.tmp 47) (y:=.tmp 48) (ty:=0) Kp Fa S (i:=0) rfl hu1 hc6 (S.tm rfl) (S.tm rfl)
            refine lv S (hr6 _) rfl ?_;clear S;intro a S
            clear hr6
            refine lv S (Gy isAgg9 (off:=(x1.toNat + x4.toNat) * 1) (o:=0) (S.tm rfl) (Ks Fa S (i:=0) rfl hg5 hj7) rfl) rfl ?_;clear S;intro a S
            obtain ⟨hc7,h⟩:=Gn h
            obtain ⟨b6,hg6,hr7⟩:=Ft (a:=a) (x:=.tmp 45) (y:=.tmp 46) (ty:=0) Kp Fa S (i:=0) rfl (Cn hc7).1 (Cn hc7).2 (S.tm rfl) (S.tm rfl)
            refine lv S (hr7 _) rfl ?_;clear S;intro a S
            clear hr7
            refine Je (c:=0) (j:=x3.toNat) (nth (cut x2 x1 (Ak.length : Int)) x4) Fa S (S.tm rfl) (S.tm rfl) (i:=0) rfl hg6 (Cn hc7).1 sizeOf9 (vs:=[sV (nth (cut x2 x1 (Ak.length : Int)) x4)]) rfl rfl rfl rfl rfl ?_;clear S;intro w10 hk4 S
            exact Dl (Fg (Vm S rfl rfl fun a S=>Vq S Eh rfl rfl rfl fun a S=>Va S rfl rfl fun a S=>Dl (⟨(x2.set x3.toNat (nth (cut x2 x1 (Ak.length : Int)) x4)),W (x3 + 1),h,S.nf [true] rfl (subR rfl)⟩)))
           ·exact wp_skip (Tn (⟨x2,x3,h,S.nf [true] rfl (subR rfl)⟩))
          clear S h;rintro a w8 ⟨x7,x8,h,S⟩;rw [hj6] at h;clear hj6 j4
          exact Hf (Tn (⟨x7,x8,h,S.nf [true] rfl (subR rfl)⟩))
         clear S h;rintro a w6 ⟨x5,x6,h,S⟩;rw [hj3] at h;clear hj3 j3
         exact Tn (Fg (Vm S rfl rfl fun a S=>Vq S Eh rfl rfl rfl fun a S=>Va S rfl rfl fun a S=>Dl (⟨m2,⟨x5,x6,W (x4 + 1),h,S.nf [true] rfl ⟨rfl,rfl,rfl,rfl,trivial⟩⟩,Nat.lt_succ_self _⟩)))
        ·exact wp_exit (De (De (Fk (Tn (⟨x2,x3,h,S.nf [true] rfl (subR rfl)⟩)))))
      clear S h;rintro a w5 ⟨x2,x3,h,S⟩;rw [hj2] at h;clear hj2 j2
      refine Tn (Fr (Vm S rfl rfl fun a S=>Vm S rfl rfl ?_));clear S;intro a S
      obtain ⟨hc8,h⟩:=Gn h
      obtain ⟨u2,hu2,hr8⟩:=BQ (a:=a) (x:=.tmp 54) (y:=.tmp 55) (ty:=75) Kp S (i:=0) rfl (S.tm rfl) (S.tm rfl) hc8
      refine lv S (hr8 _) rfl ?_;clear S;intro a S
      clear hr8
      refine l_clear (zl:=x3) (zh:=(x2.length : Int)) (z:=Co) Kp rfl Fa S (i:=0) rfl hu2 (S.tm rfl) zeroValue9 rfl ?_;clear S;intro w11 hk5 S
      refine Dz (Vm S rfl rfl fun a S=>Vm S rfl rfl ?_);clear S;intro a S
      obtain ⟨hc9,h⟩:=Gn h
      obtain ⟨u3,hu3,hr9⟩:=rn_subh (a:=a) (x:=.tmp 57) (y':=.tmp 58) (ty:=75) Kp S (i:=0) rfl (S.tm rfl) (S.tm rfl) hc9
      refine lv S (hr9 _) rfl ?_;clear S;intro a S
      clear hr9
      refine Va S rfl rfl fun a S=>Dl (wp_ret (Fb (Cp (Cp (Fb (Cp (Cp ?_)))))))
      obtain ⟨S,hz1⟩:=S.ownCut (zh:=x3) Fa (i:=0) rfl hu3
      obtain rfl:=Option.some.inj h
      exact Ee S results36 rfl ⟨(S.holds _ (List.mem_of_getElem? (i:=0) rfl)),(Wa.block hu3)⟩
     ·exact wp_skip (Hf (Tn (Fg (Vm S rfl rfl fun a S=>Vq S Eh rfl rfl rfl fun a S=>Va S rfl rfl fun a S=>Dl (⟨m1,⟨W (x1 + 1),h,S.nf [true] rfl ⟨rfl,rfl,trivial⟩⟩,Nat.lt_succ_self _⟩)))))
    ·exact wp_exit (De (De (Fk (Tn (⟨h,S.nf [true] rfl ⟨rfl,trivial⟩⟩)))))
  clear S h;rintro a w2 ⟨h,S⟩;rw [hj1] at h;clear hj1 j1
  refine Tn (Fr (Vm S rfl rfl fun a S=>Va S rfl rfl fun a S=>Dl (wp_ret ?_)))
  obtain rfl:=Option.some.inj h
  exact Ee S results36 rfl ⟨(S.holds _ (List.mem_of_getElem? (i:=0) rfl)),rfl⟩
theorem Qn (w : World) (Ai : Int) (r : Bool) (h : Me Ai = r) :
    Calls prog 92 [iV Ai].toArray w (Ret w [] fun _ v _=>v = bV r):=by
 refine Fe func92 rfl ntmps92 rfl fun a S=>?_
 unfold Me at h
 replace S:=S.k1 0 rfl
 refine Fr (Vk S rfl rfl fun a S=>Dz (Vm S rfl rfl fun a S=>Vm S rfl rfl fun a S=>Vb S Ot rfl rfl rfl fun a S=>Va S rfl rfl ?_));clear S;intro a S
 refine Dl (wp_ret ?_)
 subst h
 exact Ee S results92 rfl rfl
theorem Tp (w : World) (Ai : Int) (Aq : Int) (r : Int) (h : Kt Ai Aq = r) :
    Calls prog 56 [iV Ai,iV Aq].toArray w (Ret w [] fun _ v _=>v = iV r):=by
 refine Fe func56 rfl ntmps56 rfl fun a S=>?_
 unfold Kt at h
 replace S:=S.k2 0 1 rfl
 refine Fr (Vk S rfl rfl fun a S=>Dz (Vm S rfl rfl fun a S=>Df S (fun _=>Ck (vs:=[iV Ai]) ⟨(S.tm rfl),trivial⟩ call92) (Qn _ Ai _ rfl) rfl ?_));clear S;intro v1 a w1 hv1 hk1 hn1 S
 subst hv1
 refine Va S rfl rfl fun a S=>Dz (Vm S rfl rfl fun a S=>Df S (fun _=>Ck (vs:=[iV Aq]) ⟨(S.tm rfl),trivial⟩ call92) (Qn _ Aq _ rfl) rfl ?_);clear S;intro v2 a w2 hv2 hk2 hn2 S
 subst hv2
 refine Va S rfl rfl fun a S=>Dl (Fs (Fr (Vm S rfl rfl fun a S=>Dl (Fc h (S.tm rfl) (fun hb1 h=>?_) (fun hb1 h=>?_)))))
 ·refine Fs (Fr (Vm S rfl rfl fun a S=>Dl (Fc h (S.tm rfl) (fun hb2 h=>?_) (fun hb2 h=>?_))))
  ·refine Fr (Vk S rfl rfl fun a S=>Dl (wp_ret (Cp (Cp ?_))))
   subst h
   exact Ee S results56 rfl rfl
  ·refine wp_skip (Tn (Fr (Vk S rfl rfl fun a S=>Dl (wp_ret (Cp ?_)))))
   subst h
   exact Ee S results56 rfl rfl
 ·refine wp_skip (Tn (Fs (Fr (Vm S rfl rfl fun a S=>Dl (Fc h (S.tm rfl) (fun hb3 h=>?_) (fun hb3 h=>?_))))))
  ·refine Fr (Vk S rfl rfl fun a S=>Dl (wp_ret (Cp ?_)))
   subst h
   exact Ee S results56 rfl rfl
  ·refine wp_skip (Tn (Fs (Fr (Vm S rfl rfl fun a S=>Vm S rfl rfl fun a S=>Vb S Dp rfl rfl rfl fun a S=>Dl (Fc h (S.tm rfl) (fun hb4 h=>?_) (fun hb4 h=>?_))))))
   ·refine Fr (Vk S rfl rfl fun a S=>Dl (wp_ret (Cp ?_)))
    subst h
    exact Ee S results56 rfl rfl
   ·refine wp_skip (Tn (Fs (Fr (Vm S rfl rfl fun a S=>Vm S rfl rfl fun a S=>Vb S Iv rfl rfl rfl fun a S=>Ld ?_))))
    replace S:=S.k1 19 rfl
    refine Tn (Fc h (S.tm rfl) (fun hb5 h=>?_) (fun hb5 h=>?_))
    ·refine Fr (Vk S rfl rfl fun a S=>Dl (wp_ret (Cp ?_)))
     subst h
     exact Ee S results56 rfl rfl
    ·refine wp_skip (Tn (Fr (Vk S rfl rfl fun a S=>Dl (wp_ret ?_))))
     subst h
     exact Ee S results56 rfl rfl
theorem Rx (w : World) (Bc : Value) (Bh : List Int) (Az : Slc (view w []) 1 Bc (Bh.map eInt)) (Bf : Value) (Bl : List Int) (Bj : Slc (view w []) 1 Bf (Bl.map eInt)) (r : Int) (h : Kk Bh Bl = some r) :
    Calls prog 39 [Bc,Bf].toArray w (Ret w [] fun _ v _=>v = iV r):=by
 refine Fe func39 rfl ntmps39 rfl fun a S=>?_
 unfold Kk at h
 replace S:=S.k2 0 1 rfl
 refine Fr (Vk S rfl rfl fun a S=>Dl (Fs (Fr (Vm S rfl rfl fun a S=>lv S (Ec Mz (S.tm rfl) (Ew Az)) rfl fun a S=>lv S (Rm rfl) rfl ?_))));clear S;intro a S
 refine Dl ?_
 replace S:=S.k5 0 1 9 10 11 rfl
 obtain ⟨j1,hj1,h⟩:=Dw h
 refine Dk (fun a w'=>j1 = some r ∧ Sx w [] nov [] [(0,Bc),(1,Bf)] 36 a w') ?_ ?_
 ·refine wp_block (Fq (fun (ys1 : List Int) a w'=>∃ i1 : Nat,(∃ dn,Bh = dn ++ ys1 ∧ dn.length = i1) ∧ Ez Bl j1 ys1 i1 = some r ∧ Sx w [] nov [] [(0,Bc),(1,Bf),(9,Bc),(10,iV (Bh.length : Int)),(11,iV (i1 : Int))] 36 a w') List.length Bh ⟨0,⟨[],rfl,rfl⟩,h,S.nf [] rfl (subR rfl)⟩ ?_)
  clear S h;rintro ys1 a w1 ⟨i1,⟨dn,hd1,hi1⟩,h,S⟩
  cases ys1 with
  | nil =>
   rw [Ez.eq_1] at h
   refine Fr (Vb S Dp rfl rfl rfl fun a S=>Ld ?_)
   replace S:=S.k6 0 1 9 10 11 12 rfl
   exact Tn (Fs (wp_cond_false ((S.tm rfl).trans (congrArg Value.bool (Hj hd1 hi1))) (wp_exit (De (De (Fk (Tn (⟨h,S.nf [] rfl (subR rfl)⟩))))))))
  | cons y1 ys1 =>
   rw [Ez.eq_2] at h
   refine Fr (Vb S Dp rfl rfl rfl fun a S=>Ld ?_)
   replace S:=S.k6 0 1 9 10 11 12 rfl
   refine Tn (Fs (wp_cond_true ((S.tm rfl).trans (congrArg Value.bool (Fy hd1 hi1))) (wp_skip (Tn (Fs (wp_block (Fr (Vm S rfl rfl ?_))))))));clear S;intro a S
   obtain ⟨b1,o1,hm1,hr1⟩:=Ea (a:=a) (x:=.tmp 9) (y:=.tmp 11) (ty:=0) Mz Az (Hd hd1 hi1) rfl (S.tm rfl) (S.tm rfl)
   refine lv S (hr1 _) rfl ?_;clear S;intro a S
   clear hr1
   refine lv S (Gy isAgg3 (off:=o1) (o:=0) (S.tm rfl) (hm1.at S.emb0) rfl) rfl fun a S=>Va S rfl rfl fun a S=>Va S rfl rfl fun a S=>Dl (Fs (Fr (Vm S rfl rfl fun a S=>Vm S rfl rfl fun a S=>lv S (Ec Mz (S.tm rfl) (Ew Bj)) rfl ?_)));clear S;intro a S
   refine Vb S Ms rfl rfl rfl fun a S=>Ld ?_
   replace S:=S.k8 0 1 5 6 9 10 11 19 rfl
   refine Tn (Fc h (S.tm rfl) (fun hb1 h=>?_) (fun hb1 h=>?_))
   ·refine Fr (Vk S rfl rfl fun a S=>Dl (wp_ret (Cp (Fb (Cp (Cp (Fb ?_)))))))
    refine Cp (Cp ?_)
    obtain rfl:=Option.some.inj h
    exact Ee S results39 rfl rfl
   ·refine wp_skip (Tn (Fr (Vm S rfl rfl fun a S=>Vm S rfl rfl ?_)));clear S;intro a S
    obtain ⟨hc1,h⟩:=Gn h
    obtain ⟨b2,o2,hm2,hr2⟩:=Ea (a:=a) (x:=.tmp 20) (y:=.tmp 21) (ty:=0) Mz Bj (Cn hc1).1 (Cn hc1).2 (S.tm rfl) (S.tm rfl)
    refine lv S (hr2 _) rfl ?_;clear S;intro a S
    clear hr2
    refine lv S (Gy isAgg3 (off:=o2) (o:=0) (S.tm rfl) (hm2.at S.emb0) rfl) rfl fun a S=>Va S rfl rfl fun a S=>Dz (Vm S rfl rfl fun a S=>Vm S rfl rfl fun a S=>Df S (fun _=>Ck (vs:=[iV y1,iV (nth Bl (i1 : Int))]) ⟨(S.tm rfl),(S.tm rfl),trivial⟩ call56) (Tp _ y1 (nth Bl (i1 : Int)) _ rfl) rfl ?_);clear S;intro v1 a w3 hv1 hk1 hn1 S
    subst hv1
    refine Va S rfl rfl fun a S=>Ld ?_
    replace S:=S.k6 0 1 8 9 10 11 rfl
    refine Tn (Fr (Vm S rfl rfl fun a S=>Vq S Ot rfl rfl rfl fun a S=>Dl (Fc h (S.tm rfl) (fun hb2 h=>?_) (fun hb2 h=>?_))))
    ·refine Fr (Vm S rfl rfl fun a S=>Va S rfl rfl fun a S=>Dl (wp_ret (Fb (Cp (Cp (Fb ?_))))))
     refine Cp (Cp ?_)
     obtain rfl:=Option.some.inj h
     exact Ee S results39 rfl rfl
    ·exact wp_skip (Hf (Tn (Fg (Vq S Eh rfl rfl rfl fun a S=>Vm S rfl rfl fun a S=>Dl (⟨ys1,⟨i1 + 1,⟨_,(hd1).trans (List.append_cons _ _ _),by simp [hi1]⟩,h,S.nf [] rfl ⟨rfl,rfl,rfl,rfl,(congrArg (fun z=>some (Value.int .i64 z)) (Fz hd1 hi1 (Il Az))),trivial⟩⟩,Nat.lt_succ_self _⟩)))))
 clear S h;rintro a w2 ⟨h,S⟩;rw [hj1] at h;clear hj1 j1
 refine Tn (Fs (Fr (Vm S rfl rfl fun a S=>lv S (Ec Mz (S.tm rfl) (Ew Az)) rfl fun a S=>Vm S rfl rfl fun a S=>lv S (Ec Mz (S.tm rfl) (Ew Bj)) rfl fun a S=>Vb S Dp rfl rfl rfl fun a S=>Dl ?_)))
 refine Fc h (S.tm rfl) (fun hb3 h=>?_) (fun hb3 h=>?_)
 ·refine Fr (Vk S rfl rfl fun a S=>Dl (wp_ret (Cp ?_)))
  obtain rfl:=Option.some.inj h
  exact Ee S results39 rfl rfl
 ·refine wp_skip (Tn (Fr (Vk S rfl rfl fun a S=>Dl (wp_ret ?_))))
  obtain rfl:=Option.some.inj h
  exact Ee S results39 rfl rfl
set_option maxRecDepth 20000 in
theorem Qo (w : World) (Ad : ByteArray) (Ae : ByteArray) (Ce : Nat) (Cc : Nat) (Bm : List (ByteArray × Cj)) (Cb : (view w []) Cc = some (.map (Ix Value.string (fun x=>Value.agg (Cj.enc x).toArray) Bm) Bm.length)) (Ca : (view w []) Ce = some (.cells [.map (some Cc)].toArray 74 (0,0))) (r : Int) (h : Jb Ad Ae Bm = some r) :
    Calls prog 38 [sV Ad,sV Ae,.pointer (some ⟨Ce,0,none⟩)].toArray w (Ret w [] fun _ v _=>v = iV r):=by
 refine Fe func38 rfl ntmps38 rfl fun a S=>?_
 unfold Jb at h
 replace S:=S.k3 0 1 2 rfl
 refine Fr (Vk S rfl rfl fun a S=>Dz (lv S (Gy isAgg74 (off:=0) (o:=0) (S.tm rfl) ((Ub Ca).at S.emb0) rfl) rfl fun a S=>Vm S rfl rfl fun a S=>lv S (Ql (kv:=Value.string) (vv:=(fun x=>Value.agg (Cj.enc x).toArray)) (m:=Bm) (key:=Ad) (z:=(Cj.mk 0 0 0)) (S.emb0 _ _ Cb) underlying74 (Sc underlying9) zeroValue62 (S.tm rfl) (S.tm rfl)) rfl fun a S=>lv S (Gy isAgg74 (off:=0) (o:=0) (S.tm rfl) ((Ub Ca).at S.emb0) rfl) rfl ?_));clear S;intro a S
 refine Vm S rfl rfl fun a S=>lv S (Ql (kv:=Value.string) (vv:=(fun x=>Value.agg (Cj.enc x).toArray)) (m:=Bm) (key:=Ae) (z:=(Cj.mk 0 0 0)) (S.emb0 _ _ Cb) underlying74 (Sc underlying9) zeroValue62 (S.tm rfl) (S.tm rfl)) rfl fun a S=>Iq S zeroValue62 (cs:=[iV 0,iV 0,iV 0]) rfl rfl ?_;clear S;intro a w1 b1 hz1 hk1 S
 refine Iq S zeroValue62 (cs:=[iV 0,iV 0,iV 0]) rfl rfl ?_;clear S;intro a w2 b2 hz2 hk2 S
 refine Hy S (S.tm rfl) (S.tm rfl) (i:=1) (off:=0) rfl sizeOf62 (vs:=(Cj.enc (Cr Bm Ad (Cj.mk 0 0 0)))) rfl rfl rfl rfl ?_;clear S;intro w3 hk3 S
 refine Hy S (S.tm rfl) (S.tm rfl) (i:=0) (off:=0) rfl sizeOf62 (vs:=(Cj.enc (Cr Bm Ae (Cj.mk 0 0 0)))) rfl rfl rfl rfl ?_;clear S;intro w4 hk4 S
 refine Dl (Fs ?_)
 obtain ⟨r1,hr1,h⟩:=Em h
 refine Gf [] ([]) Tryz.mixed S rfl (by kernel_rfl) ?_;clear S;intro w6 hk6 hsel S
 refine Cw 0 S hsel rfl rfl rfl (by kernel_rfl) (by kernel_rfl) rfl (fun _ hw=>(Uv (n:=3) Ni (S.tm rfl) rfl)) fun a S=>Cw 1 S hsel rfl rfl rfl (by kernel_rfl) (by kernel_rfl) rfl (fun _ hw=>(Uv (n:=3) Ni (S.tm rfl) rfl)) fun a S=>Gu 2 (by kernel_rfl) rfl (Df S (fun _=>Ck (vs:=[.slice (some ⟨b2,0,none⟩) 3 3,.slice (some ⟨b1,0,none⟩) 3 3]) ⟨(S.tm rfl),(S.tm rfl),trivial⟩ call39) (Rx _ (.slice (some ⟨b2,0,none⟩) 3 3) [(Cr Bm Ae (Cj.mk 0 0 0)).a0_,(Cr Bm Ae (Cj.mk 0 0 0)).a1_,(Cr Bm Ae (Cj.mk 0 0 0)).a2_] (Iw Nf S (i:=0) rfl rfl rfl rfl ((Hg (e':=.blk b2 (Cj.enc (Cr Bm Ae (Cj.mk 0 0 0))) 62)) _ rfl)) (.slice (some ⟨b1,0,none⟩) 3 3) [(Cr Bm Ad (Cj.mk 0 0 0)).a0_,(Cr Bm Ad (Cj.mk 0 0 0)).a1_,(Cr Bm Ad (Cj.mk 0 0 0)).a2_] (Iw Nf S (i:=1) rfl rfl rfl rfl ((Hg (e':=.blk b1 (Cj.enc (Cr Bm Ad (Cj.mk 0 0 0))) 62)) _ rfl)) _ hr1) rfl ?_);clear S;intro v2 a w7 hv2 hk7 hn2 S
 subst hv2
 refine Ld (Ib hk7 (Ji [3] hsel (by kernel_rfl) rfl ?_))
 clear hsel
 refine Ei S rfl (Ra (S.tm rfl)) rfl fun a S=>Ic ?_
 replace S:=S.n0.k1 5 rfl
 refine Tn (wp_ret ?_)
 obtain rfl:=Option.some.inj h
 exact Ee S results38 rfl rfl
set_option maxRecDepth 20000 in
theorem Hx (w : World) (V : Value) (Ah : List ByteArray) (Ay : (LEnt.own V 9 1 Ah.length (Ah.flatMap Hi)).holds w) (Ad : Int) (Ae : Int) (Aj : Nat) (Av : Nat) (Au : List (ByteArray × Cj)) (Bg : (view w (V.ownBlock.toList)) Av = some (.map (Ix Value.string (fun x=>Value.agg (Cj.enc x).toArray) Au) Au.length)) (Be : (view w (V.ownBlock.toList)) Aj = some (.cells [.map (some Av)].toArray 74 (0,0))) (r : (List ByteArray)) (h : Du Ah Ad Ae Au = some r) :
    Calls prog 90 [V,iV Ad,iV Ae,.func (.func 38) #[] #[.pointer (some ⟨Aj,0,none⟩)]].toArray w (Ret w (V.ownBlock.toList) fun _ v w'=>(LEnt.own V 9 1 r.length (r.flatMap Hi)).holds w' ∧ v = .tuple #[]):=by
 refine Jt (V.ownBlock.toList) [.own V 9 1 Ah.length (Ah.flatMap Hi)] func90 rfl ntmps90 rfl (fun e he=>by simp only [List.mem_singleton] at he;subst he;exact Ay) (Jd _) (Kb _) fun a S=>?_
 unfold Du at h
 replace S:=(S.nl [.own V 9 1 Ah.length (Ah.flatMap Hi)] [true] rfl).k4 0 1 2 3 rfl
 refine Fr (Vm S rfl rfl fun a S=>Vq S Eh rfl rfl rfl fun a S=>Va S rfl rfl fun a S=>Dl ?_)
 replace S:=S.k5 0 1 2 3 8 rfl
 obtain ⟨j1,hj1,h⟩:=Dw h
 refine Dk (fun a w'=>∃ x1 : List ByteArray,j1 x1 = some r ∧ Sx w (V.ownBlock.toList) nov [.own V 9 1 x1.length (x1.flatMap Hi)] [] 53 a w') ?_ ?_
 ·refine wp_block (Fq (fun (m1 : Nat) a w'=>∃ x1 : List ByteArray,∃ x2 : Int,Cu Ae Ad Au j1 m1 x1 x2 = some r ∧ Sx w (V.ownBlock.toList) nov [.own V 9 1 x1.length (x1.flatMap Hi)] [(0,V),(1,iV Ad),(2,iV Ae),(3,.func (.func 38) #[] #[.pointer (some ⟨Aj,0,none⟩)]),(8,iV x2)] 53 a w') id ((Ae - (W (Ad + 1))).toNat + 2) ⟨Ah,W (Ad + 1),h,S.nf [true] rfl (subR rfl)⟩ ?_)
  clear S h;rintro m1 a w1 ⟨x1,x2,h,S⟩
  cases m1 with
  | zero=>rw [Cu.eq_1] at h;cases h
  | succ m1 =>
   rw [Cu.eq_2] at h
   refine Fs (Fr (Vm S rfl rfl fun a S=>Vm S rfl rfl fun a S=>Vb S Dp rfl rfl rfl fun a S=>Dl (Fc h (S.tm rfl) (fun hb1 h=>?_) (fun hb1 h=>?_))))
   ·refine wp_skip (Tn (Fs (wp_block (Fr (Vm S rfl rfl fun a S=>Va S rfl rfl fun a S=>Dl ?_)))))
    replace S:=S.k6 0 1 2 3 8 9 rfl
    obtain ⟨j2,hj2,h⟩:=Dw h
    refine Dk (fun a w'=>∃ x3 : List ByteArray,j2 x3 = some r ∧ Sx w (V.ownBlock.toList) nov [.own V 9 1 x3.length (x3.flatMap Hi)] [(0,V),(1,iV Ad),(2,iV Ae),(3,.func (.func 38) #[] #[.pointer (some ⟨Aj,0,none⟩)]),(8,iV x2)] 53 a w') ?_ ?_
    ·refine wp_block (Fq (fun (m2 : Nat) a w'=>∃ x3 : List ByteArray,∃ x4 : Int,Cm Ad Au j2 m2 x3 x4 = some r ∧ Sx w (V.ownBlock.toList) nov [.own V 9 1 x3.length (x3.flatMap Hi)] [(0,V),(1,iV Ad),(2,iV Ae),(3,.func (.func 38) #[] #[.pointer (some ⟨Aj,0,none⟩)]),(8,iV x2),(9,iV x4)] 53 a w') id ((x2 - Ad).toNat + 2) ⟨x1,x2,h,S.nf [true] rfl (subR rfl)⟩ ?_)
     clear S h;rintro m2 a w3 ⟨x3,x4,h,S⟩
     cases m2 with
     | zero=>rw [Cm.eq_1] at h;cases h
     | succ m2 =>
      rw [Cm.eq_2] at h
      refine Fs (Fs ?_)
      obtain ⟨j3,hj3,h⟩:=Dw h
      refine Dk (fun a w'=>∃ x5 : Bool,j3 x5 = some r ∧ Sx w (V.ownBlock.toList) nov [.own V 9 1 x3.length (x3.flatMap Hi)] [(0,V),(1,iV Ad),(2,iV Ae),(3,.func (.func 38) #[] #[.pointer (some ⟨Aj,0,none⟩)]),(8,iV x2),(9,iV x4),(34,bV x5)] 53 a w') ?_ ?_
      ·rcases Bool.eq_false_or_eq_true (decide (Ad < x4)) with hb2 | hb2
       ·replace h:=Oo h hb2
        obtain ⟨hc1,h⟩:=Gn h
        obtain ⟨hc2,h⟩:=Gn h
        obtain ⟨r1,hr3,h⟩:=Em h
        refine Gf [] ([]) Tryz.mixed S rfl (by kernel_rfl) ?_;clear S;intro w7 hk2 hsel S
        refine Cw 0 S hsel rfl rfl rfl (by kernel_rfl) (by kernel_rfl) rfl (fun _ hw=>(Rm (S.tm rfl))) fun a S=>Cw 1 S hsel rfl rfl rfl (by kernel_rfl) (by kernel_rfl) rfl (fun _ hw=>(Rm (S.tm rfl))) fun a S=>Cw 2 S hsel rfl rfl rfl (by kernel_rfl) (by kernel_rfl) rfl (fun _ hw=>(Iv (S.tm rfl) (S.tm rfl))) fun a S=>Cw 3 S hsel rfl rfl rfl (by kernel_rfl) (by kernel_rfl) rfl (fun _ hw=>(Rm (S.tm rfl))) fun a S=>Eg 4 S hsel rfl rfl rfl rfl hb2 rfl rfl (by kernel_rfl) (by kernel_rfl) rfl (fun _ hw=>(Rm (S.tm rfl))) fun a S=>Eg 5 S hsel rfl rfl rfl rfl hb2 rfl rfl (by kernel_rfl) (by kernel_rfl) rfl (fun _ hw=>(Rm (S.tm rfl))) fun a S=>Eg 6 S hsel rfl rfl rfl rfl hb2 rfl rfl (by kernel_rfl) (by kernel_rfl) rfl (fun _ hw=>(Rm (S.tm rfl))) ?_;clear S;intro a S
        obtain ⟨b3,hg3,hr4⟩:=Ft (a:=a) (x:=.tmp 23) (y:=.tmp 24) (ty:=0) Kp Fa S (i:=0) rfl (Cn hc1).1 (Cn hc1).2 (S.tm rfl) (S.tm rfl)
        refine Eg 7 S hsel rfl rfl rfl rfl hb2 rfl rfl (by kernel_rfl) (by kernel_rfl) rfl (fun _ hw=>(hr4 _)) ?_;clear S;intro a S
        clear hr4
        refine Eg 8 S hsel rfl rfl rfl rfl hb2 rfl rfl (by kernel_rfl) (by kernel_rfl) rfl (fun _ hw=>(Gy isAgg9 (off:=x4.toNat * 1) (o:=0) (S.tm rfl) ((Lq Fa S (i:=0) rfl hg3 (Cn hc1).1 (Hg (e':=.own V 9 1 x3.length (x3.flatMap Hi)))).kept hw) rfl)) fun a S=>Eg 9 S hsel rfl rfl rfl rfl hb2 rfl rfl (by kernel_rfl) (by kernel_rfl) rfl (fun _ hw=>(Rm (S.tm rfl))) fun a S=>Eg 10 S hsel rfl rfl rfl rfl hb2 rfl rfl (by kernel_rfl) (by kernel_rfl) rfl (fun _ hw=>(Rm (S.tm rfl))) fun a S=>Eg 11 S hsel rfl rfl rfl rfl hb2 rfl rfl (by kernel_rfl) (by kernel_rfl) rfl (fun _ hw=>(It (S.tm rfl) rfl)) ?_;clear S;intro a S
        obtain ⟨b4,hg4,hr5⟩:=Ft (a:=a) (x:=.tmp 27) (y:=.tmp 29) (ty:=0) Kp Fa S (i:=0) rfl (Cn hc2).1 (Cn hc2).2 (S.tm rfl) (S.tm rfl)
        refine Eg 12 S hsel rfl rfl rfl rfl hb2 rfl rfl (by kernel_rfl) (by kernel_rfl) rfl (fun _ hw=>(hr5 _)) ?_;clear S;intro a S
        clear hr5
        refine Eg 13 S hsel rfl rfl rfl rfl hb2 rfl rfl (by kernel_rfl) (by kernel_rfl) rfl (fun _ hw=>(Gy isAgg9 (off:=((W (x4 - 1)).toNat) * 1) (o:=0) (S.tm rfl) ((Lq Fa S (i:=0) rfl hg4 (Cn hc2).1 (Hg (e':=.own V 9 1 x3.length (x3.flatMap Hi)))).kept hw) rfl)) fun a S=>Gu 14 (by kernel_rfl) rfl (Cq S rfl rfl rfl hb2 (Df S (fun _=>Nc (cap:=[.pointer (some ⟨Aj,0,none⟩)]) (S.tm rfl) (vs:=[sV (nth x3 x4),sV (nth x3 (W (x4 - 1)))]) ⟨(S.tm rfl),(S.tm rfl),trivial⟩ call38) (Qo _ (nth x3 x4) (nth x3 (W (x4 - 1))) Aj Av Au ((S.le_arg Gm) _ _ Bg) ((S.le_arg Gm) _ _ Be) _ hr3) rfl ?_));clear S;intro v2 a w8 hv2 hk3 hn2 S
        subst hv2
        refine Ld (Ib hk3 (Ji [15,16] hsel (by kernel_rfl) rfl ?_))
        clear hsel
        refine Fo S rfl rfl rfl rfl hb2 (Hm S (Dp (S.tm rfl) rfl) rfl fun a S=>Ei S rfl (Pp hb2 (S.tm rfl) (S.tm rfl)) rfl fun a S=>Ic ?_)
        replace S:=S.nk [.own V 9 1 x3.length (x3.flatMap Hi)] [(0,V),(1,iV Ad),(2,iV Ae),(3,.func (.func 38) #[] #[.pointer (some ⟨Aj,0,none⟩)]),(8,iV x2),(9,iV x4),(22,.func (.func 38) #[] #[.pointer (some ⟨Aj,0,none⟩)]),(23,V),(24,iV x4),(25,.pointer (some ⟨b3,x4.toNat * 1,none⟩)),(26,sV (nth x3 x4)),(27,V),(28,iV x4),(29,iV (W (x4 - 1))),(30,.pointer (some ⟨b4,((W (x4 - 1)).toNat) * 1,none⟩)),(31,sV (nth x3 (W (x4 - 1)))),(32,iV r1),(33,bV (decide (r1 < 0))),(34,bV (decide (r1 < 0)))] [true] rfl (subR rfl)
        exact Tn (⟨decide (r1 < 0),h,S.nf [true] rfl (subR rfl)⟩)
       ·replace h:=Oq h hb2
        refine Gf [] ([]) Tryz.mixed S rfl (by kernel_rfl) ?_;clear S;intro w9 hk4 hsel S
        refine Ji [0,1,2,3,4,5,6,7,8,9,10,11,12,13,14,15,16] hsel (by kernel_rfl) rfl ?_
        clear hsel
        refine Ei S rfl (Rm (S.tm rfl)) rfl fun a S=>Ei S rfl (Rm (S.tm rfl)) rfl fun a S=>Ei S rfl (Iv (S.tm rfl) (S.tm rfl)) rfl fun a S=>Ei S rfl (Rm (S.tm rfl)) rfl ?_;clear S;intro a S
        iterate 12 (refine Pf S rfl rfl rfl rfl (Jh hb2) rfl ?_ rfl;clear S;intro a S)
        refine Ei S rfl (Pq hb2 (S.tm rfl) rfl) rfl fun a S=>Ic ?_
        replace S:=S.k7 0 1 2 3 8 9 34 rfl
        exact Tn (⟨false,h,S.nf [true] rfl (subR rfl)⟩)
      clear S h;rintro a w5 ⟨x5,h,S⟩;rw [hj3] at h;clear hj3 j3
      refine Tn (Fc h (S.tm rfl) (fun hb3 h=>?_) (fun hb3 h=>?_))
      ·refine wp_skip (Tn (Fs (wp_block ?_)))
       obtain ⟨hc3,h⟩:=Gn h
       obtain ⟨hc4,h⟩:=Gn h
       obtain ⟨hc5,h⟩:=Gn h
       obtain ⟨hc6,h⟩:=Gn h
       refine Gf [15,17] ([]) Tryz.mixed S rfl (by kernel_rfl) ?_;clear S;intro w14 hk9 hsel S
       refine Es 0 S hsel rfl rfl (by kernel_rfl) (by kernel_rfl) rfl (fun _=>(Rm (S.tm rfl))) fun a S=>Es 1 S hsel rfl rfl (by kernel_rfl) (by kernel_rfl) rfl (fun _=>(Rm (S.tm rfl))) fun a S=>Es 2 S hsel rfl rfl (by kernel_rfl) (by kernel_rfl) rfl (fun _=>(Rm (S.tm rfl))) fun a S=>Es 3 S hsel rfl rfl (by kernel_rfl) (by kernel_rfl) rfl (fun _=>(Rm (S.tm rfl))) fun a S=>Es 4 S hsel rfl rfl (by kernel_rfl) (by kernel_rfl) rfl (fun _=>(It (S.tm rfl) rfl)) fun a S=>Es 5 S hsel rfl rfl (by kernel_rfl) (by kernel_rfl) rfl (fun _=>(Rm (S.tm rfl))) fun a S=>Es 6 S hsel rfl rfl (by kernel_rfl) (by kernel_rfl) rfl (fun _=>(Rm (S.tm rfl))) fun a S=>Es 7 S hsel rfl rfl (by kernel_rfl) (by kernel_rfl) rfl (fun _=>(It (S.tm rfl) rfl)) ?_;clear S;intro a S
       obtain ⟨b9,hg9,hr10⟩:=Ft (a:=a) (x:=.tmp 42) (y:=.tmp 44) (ty:=0) Kp Fa S (i:=0) rfl (Cn hc3).1 (Cn hc3).2 (S.tm rfl) (S.tm rfl)
       refine Es 8 S hsel rfl rfl (by kernel_rfl) (by kernel_rfl) rfl (fun _=>(hr10 _)) ?_;clear S;intro a S
       clear hr10
       refine Cw 9 S hsel rfl (by kernel_rfl) (by kernel_rfl) (by kernel_rfl) (by kernel_rfl) rfl (fun _ hw=>(Gy isAgg9 (off:=((W (x4 - 1)).toNat) * 1) (o:=0) (S.tm rfl) ((Lq Fa S (i:=0) rfl hg9 (Cn hc3).1 (Hg (e':=.own V 9 1 x3.length (x3.flatMap Hi)))).kept hw) rfl)) fun a S=>Es 10 S hsel rfl rfl (by kernel_rfl) (by kernel_rfl) rfl (fun _=>(Rm (S.tm rfl))) fun a S=>Es 11 S hsel rfl rfl (by kernel_rfl) (by kernel_rfl) rfl (fun _=>(Rm (S.tm rfl))) ?_;clear S;intro a S
       obtain ⟨b10,hg10,hr11⟩:=Ft (a:=a) (x:=.tmp 47) (y:=.tmp 48) (ty:=0) Kp Fa S (i:=0) rfl (Cn hc4).1 (Cn hc4).2 (S.tm rfl) (S.tm rfl)
       refine Es 12 S hsel rfl rfl (by kernel_rfl) (by kernel_rfl) rfl (fun _=>(hr11 _)) ?_;clear S;intro a S
       clear hr11
       refine Cw 13 S hsel rfl (by kernel_rfl) (by kernel_rfl) (by kernel_rfl) (by kernel_rfl) rfl (fun _ hw=>(Gy isAgg9 (off:=x4.toNat * 1) (o:=0) (S.tm rfl) ((Lq Fa S (i:=0) rfl hg10 (Cn hc4).1 (Hg (e':=.own V 9 1 x3.length (x3.flatMap Hi)))).kept hw) rfl)) ?_;clear S;intro a S
       obtain ⟨b11,hg11,hr12⟩:=Ft (a:=a) (x:=.tmp 37) (y:=.tmp 38) (ty:=0) Kp Fa S (i:=0) rfl (Cn hc5).1 (Cn hc5).2 (S.tm rfl) (S.tm rfl)
       refine Es 14 S hsel rfl rfl (by kernel_rfl) (by kernel_rfl) rfl (fun _=>(hr12 _)) ?_;clear S;intro a S
       clear hr12
       refine Qy 15 (V.ownBlock.toList) rfl (by kernel_rfl) rfl (Je (c:=0) (j:=x4.toNat) (nth x3 (W (x4 - 1))) Fa S (S.tm rfl) (S.tm rfl) (i:=0) rfl hg11 (Cn hc5).1 sizeOf9 (vs:=[sV (nth x3 (W (x4 - 1)))]) rfl rfl rfl rfl rfl ?_);clear S;intro w16 hk11 S
       refine Ld (Rd ?_)
       obtain ⟨b12,hg12,hr13⟩:=Ft (a:=a) (x:=.tmp 39) (y:=.tmp 41) (ty:=0) Kp Fa S (i:=0) rfl (Cn hc6).1 (Cn hc6).2 (S.tm rfl) (S.tm rfl)
       refine Cw 16 S hsel rfl rfl rfl (by kernel_rfl) (by kernel_rfl) rfl (fun _ hw=>(hr13 _)) ?_;clear S;intro a S
       clear hr13
       refine Gu 17 (by kernel_rfl) rfl (Je (c:=0) (j:=(W (x4 - 1)).toNat) (nth x3 x4) Fa S (S.tm rfl) (S.tm rfl) (i:=0) rfl hg12 (Cn hc6).1 sizeOf9 (vs:=[sV (nth x3 x4)]) rfl rfl rfl rfl rfl ?_);clear S;intro w18 hk13 S
       refine Ld (Ib hk13 (Wo (by kernel_rfl) ?_))
       clear hsel
       replace S:=(S.nl [.own V 9 1 ((x3.set x4.toNat (nth x3 (W (x4 - 1)))).set ((W (x4 - 1)).toNat) (nth x3 x4)).length (((x3.set x4.toNat (nth x3 (W (x4 - 1)))).set ((W (x4 - 1)).toNat) (nth x3 x4)).flatMap Hi)] [true] rfl).k6 0 1 2 3 8 9 rfl
       exact Hf (Tn (Fg (Vm S rfl rfl fun a S=>Vq S It rfl rfl rfl fun a S=>Va S rfl rfl fun a S=>Dl (⟨m2,⟨((x3.set x4.toNat (nth x3 (W (x4 - 1)))).set ((W (x4 - 1)).toNat) (nth x3 x4)),W (x4 - 1),h,S.nf [true] rfl ⟨rfl,rfl,rfl,rfl,rfl,rfl,trivial⟩⟩,Nat.lt_succ_self _⟩))))
      ·exact wp_exit (De (De (Fk (Tn (⟨x3,h,S.nf [true] rfl (subR rfl)⟩)))))
    clear S h;rintro a w4 ⟨x3,h,S⟩;rw [hj2] at h;clear hj2 j2
    exact Hf (Tn (Fg (Vm S rfl rfl fun a S=>Vq S Eh rfl rfl rfl fun a S=>Va S rfl rfl fun a S=>Dl (⟨m1,⟨x3,W (x2 + 1),h,S.nf [true] rfl ⟨rfl,rfl,rfl,rfl,rfl,trivial⟩⟩,Nat.lt_succ_self _⟩))))
   ·exact wp_exit (De (De (Fk (Tn (⟨x1,h,S.nf [true] rfl trivial⟩)))))
 clear S h;rintro a w2 ⟨x1,h,S⟩;rw [hj1] at h;clear hj1 j1
 obtain rfl:=Option.some.inj h
 exact Rc S results90 ⟨(S.holds _ (List.mem_of_getElem? (i:=0) rfl)),rfl⟩
theorem Kg (w : World) (V : Value) (Ah : List ByteArray) (Ay : (LEnt.own V 9 1 Ah.length (Ah.flatMap Hi)).holds w) (Ao : Int) (Aj : Nat) (Av : Nat) (Au : List (ByteArray × Cj)) (Bg : (view w (V.ownBlock.toList)) Av = some (.map (Ix Value.string (fun x=>Value.agg (Cj.enc x).toArray) Au) Au.length)) (Be : (view w (V.ownBlock.toList)) Aj = some (.cells [.map (some Av)].toArray 74 (0,0))) (r : (List ByteArray)) (h : Fm Ah Ao Au = some r) :
    Calls prog 55 [V,iV Ao,.func (.func 38) #[] #[.pointer (some ⟨Aj,0,none⟩)]].toArray w (Ret w (V.ownBlock.toList) fun _ v w'=>(LEnt.own V 9 1 r.length (r.flatMap Hi)).holds w' ∧ v = .tuple #[]):=by
 refine Jt (V.ownBlock.toList) [.own V 9 1 Ah.length (Ah.flatMap Hi)] func55 rfl ntmps55 rfl (fun e he=>by simp only [List.mem_singleton] at he;subst he;exact Ay) (Jd _) (Kb _) fun a S=>?_
 unfold Fm at h
 replace S:=(S.nl [.own V 9 1 Ah.length (Ah.flatMap Hi)] [true] rfl).k3 0 1 2 rfl
 refine Fr (Vk S rfl rfl fun a S=>Dz (Vm S rfl rfl fun a S=>Vk S rfl rfl fun a S=>Va S rfl rfl fun a S=>Ld ?_))
 refine Tn (Fs ?_)
 replace S:=S.k6 0 1 2 6 7 8 rfl
 obtain ⟨j1,hj1,h⟩:=Dw h
 refine Dk (fun a w'=>∃ x1 : List ByteArray,∃ x2 : Int,j1 x1 x2 = some r ∧ Sx w (V.ownBlock.toList) nov [.own V 9 1 x1.length (x1.flatMap Hi)] [(0,V),(1,iV Ao),(2,.func (.func 38) #[] #[.pointer (some ⟨Aj,0,none⟩)]),(6,iV 20),(7,iV x2)] 63 a w') ?_ ?_
 ·refine wp_block (Fq (fun (m1 : Nat) a w'=>∃ x1 : List ByteArray,∃ x2 : Int,∃ x3 : Int,Cy Ao Au j1 m1 x1 x2 x3 = some r ∧ Sx w (V.ownBlock.toList) nov [.own V 9 1 x1.length (x1.flatMap Hi)] [(0,V),(1,iV Ao),(2,.func (.func 38) #[] #[.pointer (some ⟨Aj,0,none⟩)]),(6,iV 20),(7,iV x2),(8,iV x3)] 63 a w') id ((Ao - 20).toNat + 2) ⟨Ah,0,20,h,S.nf [true] rfl (subR rfl)⟩ ?_)
  clear S h;rintro m1 a w1 ⟨x1,x2,x3,h,S⟩
  cases m1 with
  | zero=>rw [Cy.eq_1] at h;cases h
  | succ m1 =>
   rw [Cy.eq_2] at h
   refine Fs (Fr (Vm S rfl rfl fun a S=>Vm S rfl rfl fun a S=>Vb S Qc rfl rfl rfl fun a S=>Dl (Fc h (S.tm rfl) (fun hb1 h=>?_) (fun hb1 h=>?_))))
   ·refine wp_skip (Tn (wp_block (Fs (Fg ?_))))
    iterate 4 (refine Vm S rfl rfl ?_;clear S;intro a S)
    obtain ⟨r1,hr1,h⟩:=Em h
    refine Ly 0 S rfl (fun _=>.own V 9 1 r1.length (r1.flatMap Hi)) (fun _=>Ck (vs:=[V,iV x2,iV x3,.func (.func 38) #[] #[.pointer (some ⟨Aj,0,none⟩)]]) ⟨(S.tm rfl),(S.tm rfl),(S.tm rfl),(S.tm rfl),trivial⟩ call90) (Hx _ V x1 (S.holds _ (List.mem_of_getElem? (i:=0) rfl)) x2 x3 Aj Av Au ((S.le_arg (Hn (i:=0) (e:=.own V 9 1 x1.length (x1.flatMap Hi)) rfl)) _ _ Bg) ((S.le_arg (Hn (i:=0) (e:=.own V 9 1 x1.length (x1.flatMap Hi)) rfl)) _ _ Be) _ hr1) rfl (fun _ _ _ h=>⟨h.1,fun _ hc=>hc⟩) ?_;clear S;intro v1 a w3 hv1 hk1 hn1 S
    replace hv1:=hv1.2
    subst hv1
    refine Dz (Vm S rfl rfl fun a S=>Va S rfl rfl fun a S=>Ld ?_)
    replace S:=(S.nl [.own V 9 1 r1.length (r1.flatMap Hi)] [true] rfl).k6 0 1 2 6 7 8 rfl
    exact Tn (Fg (Vm S rfl rfl fun a S=>Vm S rfl rfl fun a S=>Vb S Eh rfl rfl rfl fun a S=>Va S rfl rfl fun a S=>Ld (Hf (Tn (⟨m1,⟨r1,x3,W (x3 + 20),h,S.nf [true] rfl ⟨rfl,rfl,rfl,rfl,rfl,rfl,trivial⟩⟩,Nat.lt_succ_self _⟩)))))
   ·exact wp_exit (De (De (Fk (Tn (⟨x1,x2,h,S.nf [true] rfl (subR rfl)⟩)))))
 clear S h;rintro a w2 ⟨x1,x2,h,S⟩;rw [hj1] at h;clear hj1 j1
 refine Tn (Fs (Fg ?_))
 iterate 4 (refine Vm S rfl rfl ?_;clear S;intro a S)
 obtain ⟨r2,hr2,h⟩:=Em h
 refine Ly 0 S rfl (fun _=>.own V 9 1 r2.length (r2.flatMap Hi)) (fun _=>Ck (vs:=[V,iV x2,iV Ao,.func (.func 38) #[] #[.pointer (some ⟨Aj,0,none⟩)]]) ⟨(S.tm rfl),(S.tm rfl),(S.tm rfl),(S.tm rfl),trivial⟩ call90) (Hx _ V x1 (S.holds _ (List.mem_of_getElem? (i:=0) rfl)) x2 Ao Aj Av Au ((S.le_arg (Hn (i:=0) (e:=.own V 9 1 x1.length (x1.flatMap Hi)) rfl)) _ _ Bg) ((S.le_arg (Hn (i:=0) (e:=.own V 9 1 x1.length (x1.flatMap Hi)) rfl)) _ _ Be) _ hr2) rfl (fun _ _ _ h=>⟨h.1,fun _ hc=>hc⟩) ?_;clear S;intro v2 a w4 hv2 hk2 hn2 S
 replace hv2:=hv2.2
 subst hv2
 refine Dl ?_
 replace S:=(S.nl [.own V 9 1 r2.length (r2.flatMap Hi)] [true] rfl).k2 1 6 rfl
 obtain ⟨j2,hj2,h⟩:=Dw h
 refine Dk (fun a w'=>j2 = some r ∧ Sx w (V.ownBlock.toList) nov [.own V 9 1 r2.length (r2.flatMap Hi)] [] 63 a w') ?_ ?_
 ·refine wp_block (Fq (fun (m2 : Nat) a w'=>∃ x4 : Int,Cz Ao j2 m2 x4 = some r ∧ Sx w (V.ownBlock.toList) nov [.own V 9 1 r2.length (r2.flatMap Hi)] [(1,iV Ao),(6,iV x4)] 63 a w') id ((Ao - 20).toNat + 2) ⟨20,h,S.nf [true] rfl (subR rfl)⟩ ?_)
  clear S h;rintro m2 a w5 ⟨x4,h,S⟩
  cases m2 with
  | zero=>rw [Cz.eq_1] at h;cases h
  | succ m2 =>
   rw [Cz.eq_2] at h
   refine Fs (Fr (Vm S rfl rfl fun a S=>Vm S rfl rfl fun a S=>Vb S Dp rfl rfl rfl fun a S=>Dl (Fc h (S.tm rfl) (fun hb2 h=>?_) (fun hb2 h=>?_))))
   ·refine wp_skip (Tn (wp_block (Fr (Vm S rfl rfl fun a S=>Vu S (Qv rfl) rfl rfl fun a S=>Vk S rfl rfl fun a S=>Va S rfl rfl fun a S=>Dl ?_))))
    refine Fs ?_
    replace S:=S.k4 1 6 7 8 rfl
    obtain ⟨j3,hj3,h⟩:=Dw h
    refine Dk (fun a w'=>∃ x5 : Int,j3 x5 = some r ∧ Sx w (V.ownBlock.toList) nov [.own V 9 1 r2.length (r2.flatMap Hi)] [(1,iV Ao),(6,iV x4),(7,iV x5)] 63 a w') ?_ ?_
    ·refine wp_block (Fq (fun (m3 : Nat) a w'=>∃ x5 : Int,∃ x6 : Int,Dm Ao j3 m3 x5 x6 = some r ∧ Sx w (V.ownBlock.toList) nov [.own V 9 1 r2.length (r2.flatMap Hi)] [(1,iV Ao),(6,iV x4),(7,iV x5),(8,iV x6)] 63 a w') id ((Ao - (W (2 * x4))).toNat + 2) ⟨0,W (2 * x4),h,S.nf [true] rfl (subR rfl)⟩ ?_)
     clear S h;rintro m3 a w7 ⟨x5,x6,h,S⟩
     cases m3 with
     | zero=>rw [Dm.eq_1] at h;cases h
     | succ m3 =>
      rw [Dm.eq_2] at h
      refine Fs (Fr (Vm S rfl rfl fun a S=>Vm S rfl rfl fun a S=>Vb S Qc rfl rfl rfl fun a S=>Dl (Fc h (S.tm rfl) (fun hb3 h=>?_) (fun hb3 h=>?_))))
      ·refine wp_skip (Tn (wp_block (Fs ?_)))
       cases h
      ·exact wp_exit (De (De (Fk (Tn (⟨x5,h,S.nf [true] rfl (subR rfl)⟩)))))
    clear S h;rintro a w8 ⟨x5,h,S⟩;rw [hj3] at h;clear hj3 j3
    refine Tn (Fs (Fr (Vm S rfl rfl fun a S=>Vm S rfl rfl fun a S=>Vb S Eh rfl rfl rfl fun a S=>Va S rfl rfl fun a S=>Dl (Fs ?_))))
    refine Fg (Vm S rfl rfl fun a S=>Vm S rfl rfl fun a S=>Vb S Dp rfl rfl rfl fun a S=>Dl (Fc h (S.tm rfl) (fun hb4 h=>?_) (fun hb4 h=>?_)))
    ·cases h
    ·exact wp_skip (Tn (Fg (Vm S rfl rfl fun a S=>Vq S Qv rfl rfl rfl fun a S=>Va S rfl rfl fun a S=>Ld (Hf (Tn (⟨m2,⟨W (x4 * 2),h,S.nf [true] rfl ⟨rfl,rfl,trivial⟩⟩,Nat.lt_succ_self _⟩))))))
   ·exact wp_exit (De (De (Fk (Tn (⟨h,S.nf [true] rfl trivial⟩)))))
 clear S h;rintro a w6 ⟨h,S⟩;rw [hj2] at h;clear hj2 j2
 obtain rfl:=Option.some.inj h
 exact Rc S results55 ⟨(S.holds _ (List.mem_of_getElem? (i:=0) rfl)),rfl⟩
theorem Ka (w : World) (Al : Value) (Ai : List ByteArray) (Br : (LEnt.own Al 9 1 Ai.length (Ai.flatMap Hi)).holds w) (Aj : Nat) (Av : Nat) (Au : List (ByteArray × Cj)) (Bg : (view w (Al.ownBlock.toList)) Av = some (.map (Ix Value.string (fun x=>Value.agg (Cj.enc x).toArray) Au) Au.length)) (Be : (view w (Al.ownBlock.toList)) Aj = some (.cells [.map (some Av)].toArray 74 (0,0))) (r : (List ByteArray)) (h : Ds Ai Au = some r) :
    Calls prog 37 [Al,.func (.func 38) #[] #[.pointer (some ⟨Aj,0,none⟩)]].toArray w (Ret w (Al.ownBlock.toList) fun _ v w'=>(LEnt.own Al 9 1 r.length (r.flatMap Hi)).holds w' ∧ v = .tuple #[]):=by
 refine Jt (Al.ownBlock.toList) [.own Al 9 1 Ai.length (Ai.flatMap Hi)] func37 rfl ntmps37 rfl (fun e he=>by simp only [List.mem_singleton] at he;subst he;exact Br) (Jd _) (Kb _) fun a S=>?_
 unfold Ds at h
 replace S:=(S.nl [.own Al 9 1 Ai.length (Ai.flatMap Hi)] [true] rfl).k2 0 1 rfl
 refine Fg (Vm S rfl rfl fun a S=>Vm S rfl rfl fun a S=>lv S (Ec Kp (S.tm rfl) (Nd (S.own_at (i:=0) rfl))) rfl fun a S=>Vm S rfl rfl ?_);clear S;intro a S
 obtain ⟨r1,hr1,h⟩:=Em h
 refine Ly 0 S rfl (fun _=>.own Al 9 1 r1.length (r1.flatMap Hi)) (fun _=>Ck (vs:=[Al,iV (Ai.length : Int),.func (.func 38) #[] #[.pointer (some ⟨Aj,0,none⟩)]]) ⟨(S.tm rfl),(S.tm rfl),(S.tm rfl),trivial⟩ call55) (Kg _ Al Ai (S.holds _ (List.mem_of_getElem? (i:=0) rfl)) (Ai.length : Int) Aj Av Au ((S.le_arg (Hn (i:=0) (e:=.own Al 9 1 Ai.length (Ai.flatMap Hi)) rfl)) _ _ Bg) ((S.le_arg (Hn (i:=0) (e:=.own Al 9 1 Ai.length (Ai.flatMap Hi)) rfl)) _ _ Be) _ hr1) rfl (fun _ _ _ h=>⟨h.1,fun _ hc=>hc⟩) ?_;clear S;intro v1 a w1 hv1 hk1 hn1 S
 replace hv1:=hv1.2
 subst hv1
 refine Ld ?_
 obtain rfl:=Option.some.inj h
 exact Rc S results37 ⟨(S.holds _ (List.mem_of_getElem? (i:=0) rfl)),rfl⟩
theorem We (w : World) (v_xs : Value) (xs : List ByteArray) (hs_xs : Slc (view w []) 1 v_xs (xs.map Hi)) (sep : ByteArray) (r : ByteArray) (h : Pl xs sep = some r) : Calls prog 57 [v_xs,sV sep].toArray w (Ret w [] fun _ v _=>v = .string r):=by
  unfold Pl at h
  obtain ⟨hc,h⟩:=Gn h
  simp only [Bool.and_eq_true,decide_eq_true_eq] at hc
  obtain rfl:=Option.some.inj h
  exact EG Tryz.lays156 Tryz.bx156 v_xs xs sep w hs_xs hc.1 hc.2
theorem Tc (w : World) (Z : Value) (Aa : List Int) (Ab : Slc (view w []) 1 Z (Aa.map eInt)) (hg_pow10 : Uw (view w []) 3 Pv) (r : ByteArray) (h : Lm Aa = some r) :
    Calls prog 40 [Z].toArray w (Ret w [] fun _ v _=>v = sV r):=by
 refine Fe func40 rfl ntmps40 rfl fun a S=>?_
 unfold Lm at h
 replace S:=S.k1 0 rfl
 refine Fr (Vk S rfl rfl fun a S=>Dz (Vk S rfl rfl ?_));clear S;intro a S
 replace S:=S.nil 9 1
 refine Dl (Fs (Fr (Vm S rfl rfl fun a S=>lv S (Ec Mz (S.tm rfl) (Ew Ab)) rfl fun a S=>lv S (Rm rfl) rfl fun a S=>Dl ?_)))
 replace S:=(S.nl [.own (.slice none 0 0) 9 1 ([] : List ByteArray).length (([] : List ByteArray).flatMap Hi)] [true] rfl).k4 3 6 7 8 rfl
 obtain ⟨j1,hj1,h⟩:=Dw h
 refine Dk (fun a w'=>∃ x1 : List ByteArray,∃ v1 : Value,j1 x1 = some r ∧ Sx w [] nov [.own v1 9 1 x1.length (x1.flatMap Hi)] [(3,v1)] 20 a w') ?_ ?_
 ·refine wp_block (Fq (fun (ys1 : List Int) a w'=>∃ i1 : Nat,∃ x1 : List ByteArray,∃ v1 : Value,(∃ dn,Aa = dn ++ ys1 ∧ dn.length = i1) ∧ Hp j1 ys1 i1 x1 = some r ∧ Sx w [] nov [.own v1 9 1 x1.length (x1.flatMap Hi)] [(3,v1),(6,Z),(7,iV (Aa.length : Int)),(8,iV (i1 : Int))] 20 a w') List.length Aa ⟨0,([] : List ByteArray),(.slice none 0 0),⟨[],rfl,rfl⟩,h,S.nf [true] rfl (subR rfl)⟩ ?_)
  clear S h;rintro ys1 a w1 ⟨i1,x1,v1,⟨dn,hd1,hi1⟩,h,S⟩
  cases ys1 with
  | nil =>
   rw [Hp.eq_1] at h
   refine Fr (Vb S Dp rfl rfl rfl fun a S=>Ld ?_)
   replace S:=S.k5 3 6 7 8 9 rfl
   exact Tn (Fs (wp_cond_false ((S.tm rfl).trans (congrArg Value.bool (Hj hd1 hi1))) (wp_exit (De (De (Fk (Tn (⟨x1,v1,h,S.nf [true] rfl ⟨rfl,trivial⟩⟩))))))))
  | cons y1 ys1 =>
   rw [Hp.eq_2] at h
   refine Fr (Vb S Dp rfl rfl rfl fun a S=>Ld ?_)
   replace S:=S.k5 3 6 7 8 9 rfl
   refine Tn (Fs (wp_cond_true ((S.tm rfl).trans (congrArg Value.bool (Fy hd1 hi1))) (wp_skip (Tn (Fs (wp_block (Fs (Fg ?_))))))))
   obtain ⟨b1,o1,hm1,hr1⟩:=Ea (a:=a) (x:=.tmp 6) (y:=.tmp 8) (ty:=0) Mz Ab (Hd hd1 hi1) rfl (S.tm rfl) (S.tm rfl)
   refine lv S (hr1 _) rfl ?_;clear S;intro a S
   clear hr1
   refine lv S (Gy isAgg3 (off:=o1) (o:=0) (S.tm rfl) (hm1.at S.emb0) rfl) rfl fun a S=>Va S rfl rfl fun a S=>Dl (Fg (Vm S rfl rfl fun a S=>Vm S rfl rfl ?_));clear S;intro a S
   obtain ⟨r1,hr2,h⟩:=Em h
   refine Df S (fun _=>Ck (vs:=[iV y1]) ⟨(S.tm rfl),trivial⟩ call31) (Nt _ y1 (hg_pow10.mono (S.le_arg Gm)) _ hr2) rfl ?_;clear S;intro v2 a w3 hv1 hk1 hn1 S
   subst hv1
   refine Eb S underlying75 sizeOf9 zeroValue9 rfl rfl (pv:=[(0,sV r1)]) ⟨rfl,(S.tm rfl),trivial⟩ (cs:=[sV r1]) (by kernel_rfl) rfl ?_;clear S;intro a w4 b2 hz1 hk2 S
   obtain ⟨hc1,h⟩:=Gn h
   refine Mb Kp Fa S (S.tm rfl) (i:=1) rfl (S.tm rfl) (j:=0) rfl (ys:=[r1]) rfl rfl rfl rfl (by have:=Lh hc1;omega) rfl ?_;clear S;intro v3 a w5 hk3 S
   exact Va S rfl rfl fun a S=>Ld (Hf (Tn (Fg (Vq S Eh rfl rfl rfl fun a S=>Vm S rfl rfl fun a S=>Dl (⟨ys1,⟨i1 + 1,(x1 ++ [r1]),v3,⟨_,(hd1).trans (List.append_cons _ _ _),by simp [hi1]⟩,h,S.nf [false,true] rfl ⟨rfl,rfl,rfl,(congrArg (fun z=>some (Value.int .i64 z)) (Fz hd1 hi1 (Il Ab))),trivial⟩⟩,Nat.lt_succ_self _⟩)))))
 clear S h;rintro a w2 ⟨x1,v1,h,S⟩;rw [hj1] at h;clear hj1 j1
 refine Tn (Fr (Vm S rfl rfl ?_));clear S;intro a S
 obtain ⟨r2,hr3,h⟩:=Em h
 refine Df S (fun _=>Ck (vs:=[v1,sV Iz]) ⟨(S.tm rfl),rfl,trivial⟩ call57) (We _ v1 x1 (Wp Fa S (i:=0) rfl (Hg (e':=.own v1 9 1 x1.length (x1.flatMap Hi)))) Iz _ hr3) rfl ?_;clear S;intro v4 a w6 hv2 hk4 hn2 S
 subst hv2
 refine Va S rfl rfl fun a S=>Dl (wp_ret ?_)
 obtain rfl:=Option.some.inj h
 exact Ee S results40 rfl rfl
theorem Sj (w : World) (Z : Value) (Aa : List An) (Ab : Slc (view w []) 5 Z (Aa.map An.enc)) (hg_pow10 : Uw (view w []) 3 Pv) (r : (List Dy)) (h : Ju Aa = some r) :
    Calls prog 11 [Z].toArray w (Ret w [] fun τ v _=>Pr τ 43 2 v r.length (r.flatMap Dy.enc)):=by
 refine Fe func11 rfl ntmps11 rfl fun a S=>?_
 unfold Ju at h
 replace S:=S.k1 0 rfl
 refine Fr (Vk S rfl rfl fun a S=>Dz (Xw (κ:=ByteArray) (ν:=Cj) S rfl Value.string (fun x=>Value.agg (Cj.enc x).toArray) ?_));clear S;intro a w1 b1 hz1 hk1 S
 refine Iq S zeroValue74 (cs:=[.map none]) rfl rfl ?_;clear S;intro a w2 b2 hz2 hk2 S
 refine Hy S (S.tm rfl) (S.tm rfl) (i:=0) (off:=0) rfl sizeOf74 (vs:=[.map (some b1)]) rfl rfl rfl rfl ?_;clear S;intro w3 hk3 S
 refine Dz (Vk S rfl rfl ?_);clear S;intro a S
 replace S:=S.nil 9 1
 refine Dl (Fs (Fr (Vm S rfl rfl fun a S=>lv S (Ec Hz (S.tm rfl) (Ew Ab)) rfl fun a S=>lv S (Rm rfl) rfl fun a S=>Dl ?_)))
 replace S:=(S.nl [.own (.slice none 0 0) 9 1 ([] : List ByteArray).length (([] : List ByteArray).flatMap Hi),.blk b2 [.map (some b1)] 74,.map b1 (Ix Value.string (fun x=>Value.agg (Cj.enc x).toArray) ([] : List (ByteArray × Cj))) ([] : List (ByteArray × Cj)).length] [true,true,true] rfl).k5 3 4 13 14 15 rfl
 obtain ⟨j1,hj1,h⟩:=Dw h
 refine Dk (fun a w'=>∃ x1 : List ByteArray,∃ x2 : List (ByteArray × Cj),∃ v1 : Value,j1 x1 x2 = some r ∧ Sx w [] nov [.own v1 9 1 x1.length (x1.flatMap Hi),.blk b2 [.map (some b1)] 74,.map b1 (Ix Value.string (fun x=>Value.agg (Cj.enc x).toArray) x2) x2.length] [(3,.pointer (some ⟨b2,0,none⟩)),(4,v1)] 73 a w') ?_ ?_
 ·refine wp_block (Fq (fun (ys1 : List An) a w'=>∃ i1 : Nat,∃ x1 : List ByteArray,∃ x2 : List (ByteArray × Cj),∃ v1 : Value,(∃ dn,Aa = dn ++ ys1 ∧ dn.length = i1) ∧ Gk j1 ys1 i1 x1 x2 = some r ∧ Sx w [] nov [.own v1 9 1 x1.length (x1.flatMap Hi),.blk b2 [.map (some b1)] 74,.map b1 (Ix Value.string (fun x=>Value.agg (Cj.enc x).toArray) x2) x2.length] [(3,.pointer (some ⟨b2,0,none⟩)),(4,v1),(13,Z),(14,iV (Aa.length : Int)),(15,iV (i1 : Int))] 73 a w') List.length Aa ⟨0,([] : List ByteArray),([] : List (ByteArray × Cj)),(.slice none 0 0),⟨[],rfl,rfl⟩,h,S.nf [true,true,true] rfl (subR rfl)⟩ ?_)
  clear S h;rintro ys1 a w4 ⟨i1,x1,x2,v1,⟨dn,hd1,hi1⟩,h,S⟩
  cases ys1 with
  | nil =>
   rw [Gk.eq_1] at h
   refine Fr (Vb S Dp rfl rfl rfl fun a S=>Ld ?_)
   replace S:=S.k6 3 4 13 14 15 16 rfl
   exact Tn (Fs (wp_cond_false ((S.tm rfl).trans (congrArg Value.bool (Hj hd1 hi1))) (wp_exit (De (De (Fk (Tn (⟨x1,x2,v1,h,S.nf [true,true,true] rfl (subR rfl)⟩))))))))
  | cons y1 ys1 =>
   rw [Gk.eq_2] at h
   refine Fr (Vb S Dp rfl rfl rfl fun a S=>Ld ?_)
   replace S:=S.k6 3 4 13 14 15 16 rfl
   refine Tn (Fs (wp_cond_true ((S.tm rfl).trans (congrArg Value.bool (Fy hd1 hi1))) (wp_skip (Tn (Fs ?_)))))
   obtain ⟨j2,hj2,h⟩:=Dw h
   refine Dk (fun a w'=>∃ x3 : List ByteArray,∃ x4 : List (ByteArray × Cj),∃ v2 : Value,j2 x3 x4 = some r ∧ Sx w [] nov [.own v2 9 1 x3.length (x3.flatMap Hi),.blk b2 [.map (some b1)] 74,.map b1 (Ix Value.string (fun x=>Value.agg (Cj.enc x).toArray) x4) x4.length] [(3,.pointer (some ⟨b2,0,none⟩)),(4,v2),(13,Z),(14,iV (Aa.length : Int)),(15,iV (i1 : Int))] 73 a w') ?_ ?_
   ·refine wp_block (Fs (Fg ?_))
    obtain ⟨b3,o1,hm1,hr1⟩:=Ea (a:=a) (x:=.tmp 13) (y:=.tmp 15) (ty:=0) Hz Ab (Hd hd1 hi1) rfl (S.tm rfl) (S.tm rfl)
    refine lv S (hr1 _) rfl ?_;clear S;intro a S
    clear hr1
    refine lv S (He isAgg55 sizeOf55 (off:=o1) (o:=0) (part:=(An.enc y1)) rfl rfl (S.tm rfl) (hm1.at S.emb0)) rfl fun a S=>Iq S zeroValue55 (cs:=[sV Co,sV Co,sV Co,iV 0,bV false]) rfl rfl ?_;clear S;intro a w7 b4 hz3 hk4 S
    refine Hy S (S.tm rfl) (S.tm rfl) (i:=0) (off:=0) rfl sizeOf55 (vs:=(An.enc y1)) rfl rfl rfl rfl ?_;clear S;intro w8 hk5 S
    refine Dz (Vf Ns S rfl rfl fun a S=>Vl isAgg9 0 S rfl rfl rfl rfl fun a S=>Vq S Sr rfl rfl rfl fun a S=>Vm S rfl rfl fun a S=>Ik 4 (fun a w'=>Keep [] w8 w' ∧ Sx w [] nov [.blk b4 (An.enc y1) 55,.own v1 9 1 x1.length (x1.flatMap Hi),.blk b2 [.map (some b1)] 74,.map b1 (Ix Value.string (fun x=>Value.agg (Cj.enc x).toArray) x2) x2.length] [(3,.pointer (some ⟨b2,0,none⟩)),(4,v1),(6,.pointer (some ⟨b4,0,none⟩)),(13,Z),(14,iV (Aa.length : Int)),(15,iV (i1 : Int)),(26,bV ((!decide (y1.Club = Co)) && (Ev y1.Rank 1 3)))] 73 a w') ?_ ?_)
    ·rcases Bool.eq_false_or_eq_true (!decide (y1.Club = Co)) with hb1 | hb1
     ·refine Cq S rfl rfl rfl hb1 (Vf Hh S rfl rfl fun a S=>Cq S rfl rfl rfl hb1 (Vl isAgg3 0 S rfl rfl rfl rfl fun a S=>Cq S rfl rfl rfl hb1 (Df S (fun _=>Ck (vs:=[iV y1.Rank,iV 1,iV 3]) ⟨(S.tm rfl),rfl,rfl,trivial⟩ call32) (Na _ y1.Rank 1 3 _ rfl) rfl ?_)));clear S;intro v3 a w10 hv1 hk6 hn1 S
      subst hv1
      exact lv S (Hr hb1 (S.tm rfl) (S.tm rfl)) rfl fun a S=>Dl (⟨hk6,S.nf [true,true,true,true] rfl (subR rfl)⟩)
     ·iterate 3 (refine Gz S rfl rfl rfl (Jh hb1) rfl ?_ rfl;clear S;intro a S)
      exact lv S (Hs (Ev y1.Rank 1 3) hb1 (S.tm rfl) rfl) rfl fun a S=>Dl (⟨Keep.refl _ _,S.nf [true,true,true,true] rfl (subR rfl)⟩)
    clear S;rintro a w9 ⟨hk7,S⟩
    refine Dl ?_
    obtain ⟨j3,hj3,h⟩:=Dw h
    refine Dk (fun a w'=>∃ x5 : List ByteArray,∃ x6 : List (ByteArray × Cj),∃ v4 : Value,j3 x5 x6 = some r ∧ Sx w [] nov [.own v4 9 1 x5.length (x5.flatMap Hi),.blk b2 [.map (some b1)] 74,.map b1 (Ix Value.string (fun x=>Value.agg (Cj.enc x).toArray) x6) x6.length] [(3,.pointer (some ⟨b2,0,none⟩)),(4,v4),(13,Z),(14,iV (Aa.length : Int)),(15,iV (i1 : Int))] 73 a w') ?_ ?_
    ·refine Fc h (S.tm rfl) (fun hb2 h=>?_) (fun hb2 h=>?_)
     ·refine Fr (Vl isAgg74 2 S rfl rfl rfl rfl fun a S=>Vf Ns S rfl rfl fun a S=>Vl isAgg9 0 S rfl rfl rfl rfl fun a S=>lv S (Ql (kv:=Value.string) (vv:=(fun x=>Value.agg (Cj.enc x).toArray)) (m:=x2) (key:=y1.Club) (z:=(Cj.mk 0 0 0)) (S.map_at (i:=3) rfl) underlying74 (Sc underlying9) zeroValue62 (S.tm rfl) (S.tm rfl)) rfl fun a S=>Iq S zeroValue62 (cs:=[iV 0,iV 0,iV 0]) rfl rfl ?_);clear S;intro a w12 b5 hz4 hk8 S
      refine Hy S (S.tm rfl) (S.tm rfl) (i:=0) (off:=0) rfl sizeOf62 (vs:=(Cj.enc (Cr x2 y1.Club (Cj.mk 0 0 0)))) rfl rfl rfl rfl ?_;clear S;intro w13 hk9 S
      refine Dz (Vf Hh S rfl rfl fun a S=>Vl isAgg3 1 S rfl rfl rfl rfl fun a S=>Vq S It rfl rfl rfl ?_);clear S;intro a S
      obtain ⟨hc1,h⟩:=Gn h
      refine lv S (AS (n:=3) (off:=0) (z:=(W (y1.Rank - 1))) Ni (S.tm rfl) (S.tm rfl) hc1) rfl fun a S=>lv S (rn_ldV isAgg3 (S.tm rfl) (Nat.zero_add _).symm (S.cellsAt (i:=0) rfl) (get3 (pre:=[]) (post:=[]) hc1)) rfl fun a S=>Vq S Eh rfl rfl rfl ?_;clear S;intro a S
      obtain ⟨hc2,h⟩:=Gn h
      refine lv S (AS (n:=3) (off:=0) (z:=(W (y1.Rank - 1))) Ni (S.tm rfl) (S.tm rfl) hc2) rfl ?_;clear S;intro a S
      replace S:=S.nl [.blk b5 (Cj.enc (Cr x2 y1.Club (Cj.mk 0 0 0))) 62,.blk b4 (An.enc y1) 55,.own v1 9 1 x1.length (x1.flatMap Hi),.blk b2 [.map (some b1)] 74,.map b1 (Ix Value.string (fun x=>Value.agg (Cj.enc x).toArray) x2) x2.length] [true,true,true,true,true] rfl
      have hl1 : lay (Cj.enc (Cr x2 y1.Club (Cj.mk 0 0 0))) (0 + (W (y1.Rank - 1)).toNat) [iV (W ((nth [(Cr x2 y1.Club (Cj.mk 0 0 0)).a0_,(Cr x2 y1.Club (Cj.mk 0 0 0)).a1_,(Cr x2 y1.Club (Cj.mk 0 0 0)).a2_] (W (y1.Rank - 1))) + 1))] = [iV (if (W (y1.Rank - 1)) = 0 then W ((nth [(Cr x2 y1.Club (Cj.mk 0 0 0)).a0_,(Cr x2 y1.Club (Cj.mk 0 0 0)).a1_,(Cr x2 y1.Club (Cj.mk 0 0 0)).a2_] (W (y1.Rank - 1))) + 1) else (Cr x2 y1.Club (Cj.mk 0 0 0)).a0_),iV (if (W (y1.Rank - 1)) = 1 then W ((nth [(Cr x2 y1.Club (Cj.mk 0 0 0)).a0_,(Cr x2 y1.Club (Cj.mk 0 0 0)).a1_,(Cr x2 y1.Club (Cj.mk 0 0 0)).a2_] (W (y1.Rank - 1))) + 1) else (Cr x2 y1.Club (Cj.mk 0 0 0)).a1_),iV (if (W (y1.Rank - 1)) = 2 then W ((nth [(Cr x2 y1.Club (Cj.mk 0 0 0)).a0_,(Cr x2 y1.Club (Cj.mk 0 0 0)).a1_,(Cr x2 y1.Club (Cj.mk 0 0 0)).a2_] (W (y1.Rank - 1))) + 1) else (Cr x2 y1.Club (Cj.mk 0 0 0)).a2_)]:=(lay3 (pre:=[]) (post:=[]) hc2)
      refine Hy S (S.tm rfl) (S.tm rfl) (i:=0) (off:=0 + (W (y1.Rank - 1)).toNat) rfl sizeOf3 (vs:=[iV (W ((nth [(Cr x2 y1.Club (Cj.mk 0 0 0)).a0_,(Cr x2 y1.Club (Cj.mk 0 0 0)).a1_,(Cr x2 y1.Club (Cj.mk 0 0 0)).a2_] (W (y1.Rank - 1))) + 1))]) rfl rfl (fit3 (pre:=[]) (post:=[]) hc2) rfl ?_;clear S;intro w15 hk11 S
      rw [hl1] at S
      refine Ld ?_
      replace S:=(S.nl [.blk b5 [iV (if (W (y1.Rank - 1)) = 0 then W ((nth [(Cr x2 y1.Club (Cj.mk 0 0 0)).a0_,(Cr x2 y1.Club (Cj.mk 0 0 0)).a1_,(Cr x2 y1.Club (Cj.mk 0 0 0)).a2_] (W (y1.Rank - 1))) + 1) else (Cr x2 y1.Club (Cj.mk 0 0 0)).a0_),iV (if (W (y1.Rank - 1)) = 1 then W ((nth [(Cr x2 y1.Club (Cj.mk 0 0 0)).a0_,(Cr x2 y1.Club (Cj.mk 0 0 0)).a1_,(Cr x2 y1.Club (Cj.mk 0 0 0)).a2_] (W (y1.Rank - 1))) + 1) else (Cr x2 y1.Club (Cj.mk 0 0 0)).a1_),iV (if (W (y1.Rank - 1)) = 2 then W ((nth [(Cr x2 y1.Club (Cj.mk 0 0 0)).a0_,(Cr x2 y1.Club (Cj.mk 0 0 0)).a1_,(Cr x2 y1.Club (Cj.mk 0 0 0)).a2_] (W (y1.Rank - 1))) + 1) else (Cr x2 y1.Club (Cj.mk 0 0 0)).a2_)] 62,.blk b4 (An.enc y1) 55,.own v1 9 1 x1.length (x1.flatMap Hi),.blk b2 [.map (some b1)] 74,.map b1 (Ix Value.string (fun x=>Value.agg (Cj.enc x).toArray) x2) x2.length] [true,true,true,true,true] rfl).k7 3 4 6 7 13 14 15 rfl
      refine Tn (Fr (Vl isAgg74 3 S rfl rfl rfl rfl fun a S=>Vf Ns S rfl rfl fun a S=>Vl isAgg9 1 S rfl rfl rfl rfl fun a S=>lv S (He isAgg62 sizeOf62 (off:=0) (o:=0) (part:=[iV (if (W (y1.Rank - 1)) = 0 then W ((nth [(Cr x2 y1.Club (Cj.mk 0 0 0)).a0_,(Cr x2 y1.Club (Cj.mk 0 0 0)).a1_,(Cr x2 y1.Club (Cj.mk 0 0 0)).a2_] (W (y1.Rank - 1))) + 1) else (Cr x2 y1.Club (Cj.mk 0 0 0)).a0_),iV (if (W (y1.Rank - 1)) = 1 then W ((nth [(Cr x2 y1.Club (Cj.mk 0 0 0)).a0_,(Cr x2 y1.Club (Cj.mk 0 0 0)).a1_,(Cr x2 y1.Club (Cj.mk 0 0 0)).a2_] (W (y1.Rank - 1))) + 1) else (Cr x2 y1.Club (Cj.mk 0 0 0)).a1_),iV (if (W (y1.Rank - 1)) = 2 then W ((nth [(Cr x2 y1.Club (Cj.mk 0 0 0)).a0_,(Cr x2 y1.Club (Cj.mk 0 0 0)).a1_,(Cr x2 y1.Club (Cj.mk 0 0 0)).a2_] (W (y1.Rank - 1))) + 1) else (Cr x2 y1.Club (Cj.mk 0 0 0)).a2_)]) rfl rfl (S.tm rfl) (S.cellsAt (i:=0) rfl)) rfl fun a S=>Vp (kv:=Value.string) (vv:=(fun x=>Value.agg (Cj.enc x).toArray)) (m:=x2) (key:=y1.Club) (val:=(Cj.mk (if (W (y1.Rank - 1)) = 0 then W ((nth [(Cr x2 y1.Club (Cj.mk 0 0 0)).a0_,(Cr x2 y1.Club (Cj.mk 0 0 0)).a1_,(Cr x2 y1.Club (Cj.mk 0 0 0)).a2_] (W (y1.Rank - 1))) + 1) else (Cr x2 y1.Club (Cj.mk 0 0 0)).a0_) (if (W (y1.Rank - 1)) = 1 then W ((nth [(Cr x2 y1.Club (Cj.mk 0 0 0)).a0_,(Cr x2 y1.Club (Cj.mk 0 0 0)).a1_,(Cr x2 y1.Club (Cj.mk 0 0 0)).a2_] (W (y1.Rank - 1))) + 1) else (Cr x2 y1.Club (Cj.mk 0 0 0)).a1_) (if (W (y1.Rank - 1)) = 2 then W ((nth [(Cr x2 y1.Club (Cj.mk 0 0 0)).a0_,(Cr x2 y1.Club (Cj.mk 0 0 0)).a1_,(Cr x2 y1.Club (Cj.mk 0 0 0)).a2_] (W (y1.Rank - 1))) + 1) else (Cr x2 y1.Club (Cj.mk 0 0 0)).a2_))) S (i:=4) rfl underlying74 (Sc underlying9) (S.tm rfl) (S.tm rfl) (S.tm rfl) ?_));clear S;intro w16 hk12 S
      refine Dl (Fg (Vm S rfl rfl fun a S=>Vf Ns S rfl rfl fun a S=>Vl isAgg9 1 S rfl rfl rfl rfl fun a S=>Eb S underlying75 sizeOf9 zeroValue9 rfl rfl (pv:=[(0,sV y1.Club)]) ⟨rfl,(S.tm rfl),trivial⟩ (cs:=[sV y1.Club]) (by kernel_rfl) rfl ?_));clear S;intro a w17 b6 hz5 hk13 S
      obtain ⟨hc3,h⟩:=Gn h
      refine Mb Kp Fa S (S.tm rfl) (i:=3) rfl (S.tm rfl) (j:=0) rfl (ys:=[y1.Club]) rfl rfl rfl rfl (by have:=Lh hc3;omega) rfl ?_;clear S;intro v5 a w18 hk14 S
      refine Va S rfl rfl fun a S=>Ld ?_
      replace S:=(S.nl [.own v5 9 1 (x1 ++ [y1.Club]).length ((x1 ++ [y1.Club]).flatMap Hi),.blk b2 [.map (some b1)] 74,.map b1 (Ix Value.string (fun x=>Value.agg (Cj.enc x).toArray) (Mo x2 y1.Club (Cj.mk (if (W (y1.Rank - 1)) = 0 then W ((nth [(Cr x2 y1.Club (Cj.mk 0 0 0)).a0_,(Cr x2 y1.Club (Cj.mk 0 0 0)).a1_,(Cr x2 y1.Club (Cj.mk 0 0 0)).a2_] (W (y1.Rank - 1))) + 1) else (Cr x2 y1.Club (Cj.mk 0 0 0)).a0_) (if (W (y1.Rank - 1)) = 1 then W ((nth [(Cr x2 y1.Club (Cj.mk 0 0 0)).a0_,(Cr x2 y1.Club (Cj.mk 0 0 0)).a1_,(Cr x2 y1.Club (Cj.mk 0 0 0)).a2_] (W (y1.Rank - 1))) + 1) else (Cr x2 y1.Club (Cj.mk 0 0 0)).a1_) (if (W (y1.Rank - 1)) = 2 then W ((nth [(Cr x2 y1.Club (Cj.mk 0 0 0)).a0_,(Cr x2 y1.Club (Cj.mk 0 0 0)).a1_,(Cr x2 y1.Club (Cj.mk 0 0 0)).a2_] (W (y1.Rank - 1))) + 1) else (Cr x2 y1.Club (Cj.mk 0 0 0)).a2_)))) (Mo x2 y1.Club (Cj.mk (if (W (y1.Rank - 1)) = 0 then W ((nth [(Cr x2 y1.Club (Cj.mk 0 0 0)).a0_,(Cr x2 y1.Club (Cj.mk 0 0 0)).a1_,(Cr x2 y1.Club (Cj.mk 0 0 0)).a2_] (W (y1.Rank - 1))) + 1) else (Cr x2 y1.Club (Cj.mk 0 0 0)).a0_) (if (W (y1.Rank - 1)) = 1 then W ((nth [(Cr x2 y1.Club (Cj.mk 0 0 0)).a0_,(Cr x2 y1.Club (Cj.mk 0 0 0)).a1_,(Cr x2 y1.Club (Cj.mk 0 0 0)).a2_] (W (y1.Rank - 1))) + 1) else (Cr x2 y1.Club (Cj.mk 0 0 0)).a1_) (if (W (y1.Rank - 1)) = 2 then W ((nth [(Cr x2 y1.Club (Cj.mk 0 0 0)).a0_,(Cr x2 y1.Club (Cj.mk 0 0 0)).a1_,(Cr x2 y1.Club (Cj.mk 0 0 0)).a2_] (W (y1.Rank - 1))) + 1) else (Cr x2 y1.Club (Cj.mk 0 0 0)).a2_))).length] [false,false,false,true,true,true] rfl).k5 3 4 13 14 15 rfl
      exact Tn (⟨(x1 ++ [y1.Club]),(Mo x2 y1.Club (Cj.mk (if (W (y1.Rank - 1)) = 0 then W ((nth [(Cr x2 y1.Club (Cj.mk 0 0 0)).a0_,(Cr x2 y1.Club (Cj.mk 0 0 0)).a1_,(Cr x2 y1.Club (Cj.mk 0 0 0)).a2_] (W (y1.Rank - 1))) + 1) else (Cr x2 y1.Club (Cj.mk 0 0 0)).a0_) (if (W (y1.Rank - 1)) = 1 then W ((nth [(Cr x2 y1.Club (Cj.mk 0 0 0)).a0_,(Cr x2 y1.Club (Cj.mk 0 0 0)).a1_,(Cr x2 y1.Club (Cj.mk 0 0 0)).a2_] (W (y1.Rank - 1))) + 1) else (Cr x2 y1.Club (Cj.mk 0 0 0)).a1_) (if (W (y1.Rank - 1)) = 2 then W ((nth [(Cr x2 y1.Club (Cj.mk 0 0 0)).a0_,(Cr x2 y1.Club (Cj.mk 0 0 0)).a1_,(Cr x2 y1.Club (Cj.mk 0 0 0)).a2_] (W (y1.Rank - 1))) + 1) else (Cr x2 y1.Club (Cj.mk 0 0 0)).a2_))),v5,h,S.nf [true,true,true] rfl (subR rfl)⟩)
     ·exact wp_skip (Tn (⟨x1,x2,v1,h,S.nf [false,true,true,true] rfl (subR rfl)⟩))
    clear S h;rintro a w11 ⟨x5,x6,v4,h,S⟩;rw [hj3] at h;clear hj3 j3
    exact Hf (Tn (⟨x5,x6,v4,h,S.nf [true,true,true] rfl (subR rfl)⟩))
   clear S h;rintro a w6 ⟨x3,x4,v2,h,S⟩;rw [hj2] at h;clear hj2 j2
   exact Tn (Fg (Vq S Eh rfl rfl rfl fun a S=>Vm S rfl rfl fun a S=>Dl (⟨ys1,⟨i1 + 1,x3,x4,v2,⟨_,(hd1).trans (List.append_cons _ _ _),by simp [hi1]⟩,h,S.nf [true,true,true] rfl ⟨rfl,rfl,rfl,rfl,(congrArg (fun z=>some (Value.int .i64 z)) (Fz hd1 hi1 (Il Ab))),trivial⟩⟩,Nat.lt_succ_self _⟩)))
 clear S h;rintro a w5 ⟨x1,x2,v1,h,S⟩;rw [hj1] at h;clear hj1 j1
 refine Tn (Fr (Vm S rfl rfl ?_));clear S;intro a S
 obtain ⟨r1,hr2,h⟩:=Em h
 refine Ly 0 S rfl (fun _=>.own v1 9 1 r1.length (r1.flatMap Hi)) (fun _=>Ck (vs:=[v1]) ⟨(S.tm rfl),trivial⟩ call35) (Rw _ v1 x1 (S.holds _ (List.mem_of_getElem? (i:=0) rfl)) _ hr2) rfl (fun _ _ _ h=>⟨h.1,fun _ hc=>hc⟩) ?_;clear S;intro v6 a w19 hv2 hk15 hn2 S
 replace hv2:=hv2.2
 subst hv2
 refine Dz (Vm S rfl rfl ?_);clear S;intro a S
 obtain ⟨r2,hr3,h⟩:=Em h
 have hz6:=S.keep.size
 refine Ly 0 S rfl (fun v7=>.own v7 9 1 r2.length (r2.flatMap Hi)) (fun _=>Ck (vs:=[v1]) ⟨(S.tm rfl),trivial⟩ call36) (Qh _ v1 r1 (S.holds _ (List.mem_of_getElem? (i:=0) rfl)) _ hr3) rfl (fun _ _ _ h=>⟨h.1,fun _ hc=>h.2.symm.trans hc⟩) ?_;clear S;intro v7 a w20 hv3 hk16 hn3 S
 clear hv3
 refine Va S rfl rfl fun a S=>Dz (Vm S rfl rfl fun a S=>lv S (Sa (us:=#[]) (xs:=[].toArray) (ys:=[.tmp 3].toArray) (by simp) (evA ⟨(S.tm rfl),trivial⟩ (vs:=[.pointer (some ⟨b2,0,none⟩)]))) rfl ?_);clear S;intro a S
 obtain ⟨r3,hr4,h⟩:=Em h
 refine Ly 0 S rfl (fun _=>.own v7 9 1 r3.length (r3.flatMap Hi)) (fun _=>Ck (vs:=[v7,.func (.func 38) #[] #[.pointer (some ⟨b2,0,none⟩)]]) ⟨(S.tm rfl),(S.tm rfl),trivial⟩ call37) (Ka _ v7 r2 (S.holds _ (List.mem_of_getElem? (i:=0) rfl)) b2 b1 x2 (S.map_view (i:=2) rfl (Mw (i:=0) (j:=2) (e:=.own v7 9 1 r2.length (r2.flatMap Hi)) (e':=.map b1 (Ix Value.string (fun x=>Value.agg (Cj.enc x).toArray) x2) x2.length) S rfl rfl rfl)) (S.blk_view (i:=1) rfl ((Mw (i:=0) (j:=1) (e:=.own v7 9 1 r2.length (r2.flatMap Hi)) (e':=.blk b2 [.map (some b1)] 74) S rfl rfl rfl) _ rfl)) _ hr4) rfl (fun _ _ _ h=>⟨h.1,fun _ hc=>hc⟩) ?_;clear S;intro v8 a w21 hv4 hk17 hn4 S
 replace hv4:=hv4.2
 subst hv4
 refine Dz (Vk S rfl rfl ?_);clear S;intro a S
 replace S:=S.nil 43 2
 refine Dl (Fs (Fr (Vm S rfl rfl fun a S=>lv S (Ec Kp (S.tm rfl) (Nd (S.own_at (i:=1) rfl))) rfl fun a S=>lv S (Rm rfl) rfl fun a S=>Dl ?_)))
 replace S:=(S.nl [.own (.slice none 0 0) 43 2 ([] : List Dy).length (([] : List Dy).flatMap Dy.enc),.own v7 9 1 r3.length (r3.flatMap Hi),.blk b2 [.map (some b1)] 74,.map b1 (Ix Value.string (fun x=>Value.agg (Cj.enc x).toArray) x2) x2.length] [true,true,true,true] rfl).k5 3 8 55 56 57 rfl
 have hm2:=Ua (S.own_at (i:=1) rfl)
 obtain ⟨j4,hj4,h⟩:=Dw h
 refine Dk (fun a w'=>∃ x7 : List Dy,∃ v9 : Value,j4 x7 = some r ∧ Sx w [] nov [.own v9 43 2 x7.length (x7.flatMap Dy.enc),.own v7 9 1 r3.length (r3.flatMap Hi),.blk b2 [.map (some b1)] 74,.map b1 (Ix Value.string (fun x=>Value.agg (Cj.enc x).toArray) x2) x2.length] [(8,v9)] 73 a w') ?_ ?_
 ·refine wp_block (Fq (fun (ys2 : List ByteArray) a w'=>∃ i2 : Nat,∃ x7 : List Dy,∃ v9 : Value,(∃ dn,r3 = dn ++ ys2 ∧ dn.length = i2) ∧ Fj x2 j4 ys2 i2 x7 = some r ∧ Sx w [] nov [.own v9 43 2 x7.length (x7.flatMap Dy.enc),.own v7 9 1 r3.length (r3.flatMap Hi),.blk b2 [.map (some b1)] 74,.map b1 (Ix Value.string (fun x=>Value.agg (Cj.enc x).toArray) x2) x2.length] [(3,.pointer (some ⟨b2,0,none⟩)),(8,v9),(55,v7),(56,iV (r3.length : Int)),(57,iV (i2 : Int))] 73 a w') List.length r3 ⟨0,([] : List Dy),(.slice none 0 0),⟨[],rfl,rfl⟩,h,S.nf [true,true,true,true] rfl (subR rfl)⟩ ?_)
  clear S h;rintro ys2 a w22 ⟨i2,x7,v9,⟨dn,hd2,hi2⟩,h,S⟩
  cases ys2 with
  | nil =>
   rw [Fj.eq_1] at h
   refine Fr (Vb S Dp rfl rfl rfl fun a S=>Ld ?_)
   replace S:=S.k6 3 8 55 56 57 58 rfl
   exact Tn (Fs (wp_cond_false ((S.tm rfl).trans (congrArg Value.bool (Hj hd2 hi2))) (wp_exit (De (De (Fk (Tn (⟨x7,v9,h,S.nf [true,true,true,true] rfl ⟨rfl,trivial⟩⟩))))))))
  | cons y2 ys2 =>
   rw [Fj.eq_2] at h
   refine Fr (Vb S Dp rfl rfl rfl fun a S=>Ld ?_)
   replace S:=S.k6 3 8 55 56 57 58 rfl
   refine Tn (Fs (wp_cond_true ((S.tm rfl).trans (congrArg Value.bool (Fy hd2 hi2))) (wp_skip (Tn (Fs (wp_block (Fs (Fg ?_))))))))
   obtain ⟨b7,hg1,hr5⟩:=Ft (a:=a) (x:=.tmp 55) (y:=.tmp 57) (ty:=0) Kp Fa S (i:=1) rfl (Hd hd2 hi2) rfl (S.tm rfl) (S.tm rfl)
   refine lv S (hr5 _) rfl ?_;clear S;intro a S
   clear hr5
   refine lv S (Gy isAgg9 (off:=i2 * 1) (o:=0) (S.tm rfl) (Ks Fa S (i:=1) rfl hg1 (Hd hd2 hi2)) rfl) rfl fun a S=>Va S rfl rfl fun a S=>Dz (Vl isAgg74 2 S rfl rfl rfl rfl fun a S=>Vm S rfl rfl fun a S=>lv S (Ql (kv:=Value.string) (vv:=(fun x=>Value.agg (Cj.enc x).toArray)) (m:=x2) (key:=y2) (z:=(Cj.mk 0 0 0)) (S.map_at (i:=3) rfl) underlying74 (Sc underlying9) zeroValue62 (S.tm rfl) (S.tm rfl)) rfl fun a S=>Iq S zeroValue62 (cs:=[iV 0,iV 0,iV 0]) rfl rfl ?_);clear S;intro a w24 b8 hz7 hk18 S
   refine Hy S (S.tm rfl) (S.tm rfl) (i:=0) (off:=0) rfl sizeOf62 (vs:=(Cj.enc (Cr x2 y2 (Cj.mk 0 0 0)))) rfl rfl rfl rfl ?_;clear S;intro w25 hk19 S
   refine Dl (Fg (Vm S rfl rfl fun a S=>Vm S rfl rfl fun a S=>lv S (Uv (n:=3) Ni (S.tm rfl) rfl) rfl ?_));clear S;intro a S
   obtain ⟨r4,hr6,h⟩:=Em h
   refine Df S (fun _=>Ck (vs:=[.slice (some ⟨b8,0,none⟩) 3 3]) ⟨(S.tm rfl),trivial⟩ call40) (Tc _ (.slice (some ⟨b8,0,none⟩) 3 3) [(Cr x2 y2 (Cj.mk 0 0 0)).a0_,(Cr x2 y2 (Cj.mk 0 0 0)).a1_,(Cr x2 y2 (Cj.mk 0 0 0)).a2_] (Iw Nf S (i:=0) rfl rfl rfl rfl ((Hg (e':=.blk b8 (Cj.enc (Cr x2 y2 (Cj.mk 0 0 0))) 62)) _ rfl)) (hg_pow10.mono (S.le_arg Gm)) _ hr6) rfl ?_;clear S;intro v10 a w26 hv5 hk20 hn5 S
   subst hv5
   refine lv S (Nu bt_43 (pv:=[(0,sV y2),(1,sV r4)]) ⟨rfl,(S.tm rfl),rfl,(S.tm rfl),trivial⟩ (cs:=[sV y2,sV r4]) (by kernel_rfl)) rfl fun a S=>Eb S underlying33 sizeOf43 zeroValue43 rfl rfl (pv:=[(0,.agg #[sV y2,sV r4])]) ⟨rfl,(S.tm rfl),trivial⟩ (cs:=[sV y2,sV r4]) (by kernel_rfl) rfl ?_;clear S;intro a w27 b9 hz8 hk21 S
   obtain ⟨hc4,h⟩:=Gn h
   refine Mb Ww Dy.enc_ok S (S.tm rfl) (i:=2) rfl (S.tm rfl) (j:=0) rfl (ys:=[(Dy.mk y2 r4)]) rfl rfl rfl rfl (by have:=Lh hc4;omega) rfl ?_;clear S;intro v11 a w28 hk22 S
   refine Va S rfl rfl fun a S=>Ld ?_
   replace S:=(S.nl [.own v11 43 2 (x7 ++ [(Dy.mk y2 r4)]).length ((x7 ++ [(Dy.mk y2 r4)]).flatMap Dy.enc),.own v7 9 1 r3.length (r3.flatMap Hi),.blk b2 [.map (some b1)] 74,.map b1 (Ix Value.string (fun x=>Value.agg (Cj.enc x).toArray) x2) x2.length] [false,false,true,true,true,true] rfl).k5 3 8 55 56 57 rfl
   exact Hf (Tn (Fg (Vq S Eh rfl rfl rfl fun a S=>Vm S rfl rfl fun a S=>Dl (⟨ys2,⟨i2 + 1,(x7 ++ [(Dy.mk y2 r4)]),v11,⟨_,(hd2).trans (List.append_cons _ _ _),by simp [hi2]⟩,h,S.nf [true,true,true,true] rfl ⟨rfl,rfl,rfl,rfl,(congrArg (fun z=>some (Value.int .i64 z)) (Fz hd2 hi2 hm2)),trivial⟩⟩,Nat.lt_succ_self _⟩))))
 clear S h;rintro a w23 ⟨x7,v9,h,S⟩;rw [hj4] at h;clear hj4 j4
 refine Tn (Fr (Vm S rfl rfl fun a S=>Va S rfl rfl fun a S=>Dl (wp_ret ?_)))
 obtain rfl:=Option.some.inj h
 exact Ee S results11 rfl (Tz S (i:=0) rfl rfl)
set_option maxRecDepth 20000 in
theorem Td (w : World) (Bc : Value) (Bh : List Int) (Az : Slc (view w []) 1 Bc (Bh.map eInt)) (Bf : Value) (Bl : List Int) (Bj : Slc (view w []) 1 Bf (Bl.map eInt)) (r : Bool) (h : Ke Bh Bl = some r) :
    Calls prog 12 [Bc,Bf].toArray w (Ret w [] fun _ v _=>v = bV r):=by
 refine Fe func12 rfl ntmps12 rfl fun a S=>?_
 unfold Ke at h
 replace S:=S.k2 0 1 rfl
 refine Fr (Vk S rfl rfl fun a S=>Dl (Fs (Fr (Vm S rfl rfl fun a S=>lv S (Ec Mz (S.tm rfl) (Ew Az)) rfl fun a S=>Vm S rfl rfl ?_))));clear S;intro a S
 refine lv S (Ec Mz (S.tm rfl) (Ew Bj)) rfl fun a S=>Vb S Ot rfl rfl rfl fun a S=>Dl (Fc h (S.tm rfl) (fun hb1 h=>?_) (fun hb1 h=>?_))
 ·refine Fr (Vk S rfl rfl fun a S=>Dl (wp_ret (Cp ?_)))
  obtain rfl:=Option.some.inj h
  exact Ee S results12 rfl rfl
 ·refine wp_skip (Tn (Fs (Fr (Vm S rfl rfl fun a S=>lv S (Ec Mz (S.tm rfl) (Ew Az)) rfl fun a S=>lv S (Rm rfl) rfl fun a S=>Dl ?_))))
  replace S:=S.k4 0 1 12 13 rfl
  obtain ⟨j1,hj1,h⟩:=Dw h
  refine Dk (fun a w'=>j1 = some r ∧ Sx w [] nov [] [] 26 a w') ?_ ?_
  ·refine wp_block (Fq (fun (ys1 : List Int) a w'=>∃ i1 : Nat,(∃ dn,Bh = dn ++ ys1 ∧ dn.length = i1) ∧ Gx Bl j1 ys1 i1 = some r ∧ Sx w [] nov [] [(0,Bc),(1,Bf),(12,iV (Bh.length : Int)),(13,iV (i1 : Int))] 26 a w') List.length Bh ⟨0,⟨[],rfl,rfl⟩,h,S.nf [] rfl (subR rfl)⟩ ?_)
   clear S h;rintro ys1 a w1 ⟨i1,⟨dn,hd1,hi1⟩,h,S⟩
   cases ys1 with
   | nil =>
    rw [Gx.eq_1] at h
    refine Fr (Vb S Dp rfl rfl rfl fun a S=>Ld ?_)
    replace S:=S.k5 0 1 12 13 14 rfl
    exact Tn (Fs (wp_cond_false ((S.tm rfl).trans (congrArg Value.bool (Hj hd1 hi1))) (wp_exit (De (De (Fk (Tn (⟨h,S.nf [] rfl trivial⟩))))))))
   | cons y1 ys1 =>
    rw [Gx.eq_2] at h
    refine Fr (Vb S Dp rfl rfl rfl fun a S=>Ld ?_)
    replace S:=S.k5 0 1 12 13 14 rfl
    refine Tn (Fs (wp_cond_true ((S.tm rfl).trans (congrArg Value.bool (Fy hd1 hi1))) (wp_skip (Tn (Fs (wp_block (Fr (Vm S rfl rfl fun a S=>Va S rfl rfl ?_))))))));clear S;intro a S
    refine Dl (Fs (Gf [] ([]) Tryz.mixed S rfl (by kernel_rfl) ?_));clear S;intro w3 hk1 hsel S
    refine Ji [0,1,2,3,4,5,6,7,8] hsel (by kernel_rfl) rfl ?_
    clear hsel
    refine Ei S rfl (Rm (S.tm rfl)) rfl fun a S=>Ei S rfl (Rm (S.tm rfl)) rfl ?_;clear S;intro a S
    obtain ⟨b1,o1,hm1,hr1⟩:=Ea (a:=a) (x:=.tmp 16) (y:=.tmp 17) (ty:=0) Mz Az (Hd hd1 hi1) rfl (S.tm rfl) (S.tm rfl)
    refine Ei S rfl (hr1 _) rfl ?_;clear S;intro a S
    clear hr1
    refine Ei S rfl (Gy isAgg3 (off:=o1) (o:=0) (S.tm rfl) (hm1.at S.emb0) rfl) rfl fun a S=>Ei S rfl (Rm (S.tm rfl)) rfl fun a S=>Ei S rfl (Rm (S.tm rfl)) rfl ?_;clear S;intro a S
    obtain ⟨hc1,h⟩:=Gn h
    obtain ⟨b2,o2,hm2,hr2⟩:=Ea (a:=a) (x:=.tmp 20) (y:=.tmp 21) (ty:=0) Mz Bj (Cn hc1).1 (Cn hc1).2 (S.tm rfl) (S.tm rfl)
    refine Ei S rfl (hr2 _) rfl ?_;clear S;intro a S
    clear hr2
    refine Ei S rfl (Gy isAgg3 (off:=o2) (o:=0) (S.tm rfl) (hm2.at S.emb0) rfl) rfl fun a S=>Ei S rfl (Ot (S.tm rfl) (S.tm rfl)) rfl fun a S=>Ic ?_
    replace S:=S.k5 0 1 12 13 24 rfl
    refine Tn (Fc h (S.tm rfl) (fun hb2 h=>?_) (fun hb2 h=>?_))
    ·refine Fr (Vk S rfl rfl fun a S=>Dl (wp_ret (Fb (Cp (Cp (Fb (Cp ?_)))))))
     refine Cp ?_
     obtain rfl:=Option.some.inj h
     exact Ee S results12 rfl rfl
    ·exact wp_skip (Hf (Tn (Fg (Vq S Eh rfl rfl rfl fun a S=>Vm S rfl rfl fun a S=>Dl (⟨ys1,⟨i1 + 1,⟨_,(hd1).trans (List.append_cons _ _ _),by simp [hi1]⟩,h,S.nf [] rfl ⟨rfl,rfl,rfl,(congrArg (fun z=>some (Value.int .i64 z)) (Fz hd1 hi1 (Il Az))),trivial⟩⟩,Nat.lt_succ_self _⟩)))))
  clear S h;rintro a w2 ⟨h,S⟩;rw [hj1] at h;clear hj1 j1
  refine Tn (Fr (Vk S rfl rfl fun a S=>Dl (wp_ret ?_)))
  obtain rfl:=Option.some.inj h
  exact Ee S results12 rfl rfl
set_option maxRecDepth 20000 in
theorem Sk (w : World) (Bc : Value) (Bh : List Dy) (Az : Slc (view w []) 2 Bc (Bh.map Dy.enc)) (Bf : Value) (Bl : List Dy) (Bj : Slc (view w []) 2 Bf (Bl.map Dy.enc)) (r : Bool) (h : Jv Bh Bl = some r) :
    Calls prog 13 [Bc,Bf].toArray w (Ret w [] fun _ v _=>v = bV r):=by
 refine Fe func13 rfl ntmps13 rfl fun a S=>?_
 unfold Jv at h
 replace S:=S.k2 0 1 rfl
 refine Fr (Vk S rfl rfl fun a S=>Dl (Fs (Fr (Vm S rfl rfl fun a S=>lv S (Ec Ww (S.tm rfl) (Ew Az)) rfl fun a S=>Vm S rfl rfl ?_))));clear S;intro a S
 refine lv S (Ec Ww (S.tm rfl) (Ew Bj)) rfl fun a S=>Vb S Ot rfl rfl rfl fun a S=>Dl (Fc h (S.tm rfl) (fun hb1 h=>?_) (fun hb1 h=>?_))
 ·refine Fr (Vk S rfl rfl fun a S=>Dl (wp_ret (Cp ?_)))
  obtain rfl:=Option.some.inj h
  exact Ee S results13 rfl rfl
 ·refine wp_skip (Tn (Fs (Fr (Vm S rfl rfl fun a S=>lv S (Ec Ww (S.tm rfl) (Ew Az)) rfl fun a S=>lv S (Rm rfl) rfl fun a S=>Dl ?_))))
  replace S:=S.k4 0 1 12 13 rfl
  obtain ⟨j1,hj1,h⟩:=Dw h
  refine Dk (fun a w'=>j1 = some r ∧ Sx w [] nov [] [] 26 a w') ?_ ?_
  ·refine wp_block (Fq (fun (ys1 : List Dy) a w'=>∃ i1 : Nat,(∃ dn,Bh = dn ++ ys1 ∧ dn.length = i1) ∧ Gl Bl j1 ys1 i1 = some r ∧ Sx w [] nov [] [(0,Bc),(1,Bf),(12,iV (Bh.length : Int)),(13,iV (i1 : Int))] 26 a w') List.length Bh ⟨0,⟨[],rfl,rfl⟩,h,S.nf [] rfl (subR rfl)⟩ ?_)
   clear S h;rintro ys1 a w1 ⟨i1,⟨dn,hd1,hi1⟩,h,S⟩
   cases ys1 with
   | nil =>
    rw [Gl.eq_1] at h
    refine Fr (Vb S Dp rfl rfl rfl fun a S=>Ld ?_)
    replace S:=S.k5 0 1 12 13 14 rfl
    exact Tn (Fs (wp_cond_false ((S.tm rfl).trans (congrArg Value.bool (Hj hd1 hi1))) (wp_exit (De (De (Fk (Tn (⟨h,S.nf [] rfl trivial⟩))))))))
   | cons y1 ys1 =>
    rw [Gl.eq_2] at h
    refine Fr (Vb S Dp rfl rfl rfl fun a S=>Ld ?_)
    replace S:=S.k5 0 1 12 13 14 rfl
    refine Tn (Fs (wp_cond_true ((S.tm rfl).trans (congrArg Value.bool (Fy hd1 hi1))) (wp_skip (Tn (Fs (wp_block (Fr (Vm S rfl rfl fun a S=>Va S rfl rfl ?_))))))));clear S;intro a S
    refine Dl (Fs (Gf [] ([]) Tryz.mixed S rfl (by kernel_rfl) ?_));clear S;intro w3 hk1 hsel S
    refine Ji [0,1,2,3,4,5,6,7,8] hsel (by kernel_rfl) rfl ?_
    clear hsel
    refine Ei S rfl (Rm (S.tm rfl)) rfl fun a S=>Ei S rfl (Rm (S.tm rfl)) rfl ?_;clear S;intro a S
    obtain ⟨b1,o1,hm1,hr1⟩:=Ea (a:=a) (x:=.tmp 16) (y:=.tmp 17) (ty:=0) Ww Az (Hd hd1 hi1) rfl (S.tm rfl) (S.tm rfl)
    refine Ei S rfl (hr1 _) rfl ?_;clear S;intro a S
    clear hr1
    refine Ei S rfl (He isAgg43 sizeOf43 (off:=o1) (o:=0) (part:=(Dy.enc y1)) rfl rfl (S.tm rfl) (hm1.at S.emb0)) rfl fun a S=>Ei S rfl (Rm (S.tm rfl)) rfl fun a S=>Ei S rfl (Rm (S.tm rfl)) rfl ?_;clear S;intro a S
    obtain ⟨hc1,h⟩:=Gn h
    obtain ⟨b2,o2,hm2,hr2⟩:=Ea (a:=a) (x:=.tmp 20) (y:=.tmp 21) (ty:=0) Ww Bj (Cn hc1).1 (Cn hc1).2 (S.tm rfl) (S.tm rfl)
    refine Ei S rfl (hr2 _) rfl ?_;clear S;intro a S
    clear hr2
    refine Ei S rfl (He isAgg43 sizeOf43 (off:=o2) (o:=0) (part:=(Dy.enc (nth Bl (i1 : Int)))) rfl rfl (S.tm rfl) (hm2.at S.emb0)) rfl fun a S=>Ei S rfl (CV (m:=y1) (n:=(nth Bl (i1 : Int))) (S.tm rfl) (S.tm rfl)) rfl fun a S=>Ic ?_
    replace S:=S.k5 0 1 12 13 24 rfl
    refine Tn (Fc h (S.tm rfl) (fun hb2 h=>?_) (fun hb2 h=>?_))
    ·refine Fr (Vk S rfl rfl fun a S=>Dl (wp_ret (Fb (Cp (Cp (Fb (Cp ?_)))))))
     refine Cp ?_
     obtain rfl:=Option.some.inj h
     exact Ee S results13 rfl rfl
    ·exact wp_skip (Hf (Tn (Fg (Vq S Eh rfl rfl rfl fun a S=>Vm S rfl rfl fun a S=>Dl (⟨ys1,⟨i1 + 1,⟨_,(hd1).trans (List.append_cons _ _ _),by simp [hi1]⟩,h,S.nf [] rfl ⟨rfl,rfl,rfl,(congrArg (fun z=>some (Value.int .i64 z)) (Fz hd1 hi1 (Il Az))),trivial⟩⟩,Nat.lt_succ_self _⟩)))))
  clear S h;rintro a w2 ⟨h,S⟩;rw [hj1] at h;clear hj1 j1
  refine Tn (Fr (Vk S rfl rfl fun a S=>Dl (wp_ret ?_)))
  obtain rfl:=Option.some.inj h
  exact Ee S results13 rfl rfl
theorem Qp (w : World) (Ao : Int) (r : Bool) (h : Ox Ao = r) :
    Calls prog 60 [iV Ao].toArray w (Ret w [] fun _ v _=>v = bV r):=by
 refine Fe func60 rfl ntmps60 rfl fun a S=>?_
 unfold Ox at h
 replace S:=S.k1 0 rfl
 refine Fr (Vk S rfl rfl fun a S=>Dz (Vm S rfl rfl fun a S=>Df S (fun _=>Ck (vs:=[iV Ao,iV 1,iV 360000]) ⟨(S.tm rfl),rfl,rfl,trivial⟩ call22) (Lz _ Ao 1 360000 _ rfl) rfl ?_));clear S;intro v1 a w1 hv1 hk1 hn1 S
 subst hv1
 refine Va S rfl rfl fun a S=>Dl (wp_ret ?_)
 subst h
 exact Ee S results60 rfl rfl
set_option maxRecDepth 20000 in
theorem Te (w : World) (Z : Value) (Aa : List Le) (Ab : Slc (view w []) 2 Z (Aa.map Le.enc)) (r : Int) (h : Ov Aa = some r) :
    Calls prog 58 [Z].toArray w (Ret w [] fun _ v _=>v = iV r):=by
 refine Fe func58 rfl ntmps58 rfl fun a S=>?_
 unfold Ov at h
 replace S:=S.k1 0 rfl
 refine Fr (Vk S rfl rfl fun a S=>Dl (Fs (Fr (Vm S rfl rfl fun a S=>lv S (Ec Yb (S.tm rfl) (Ew Ab)) rfl fun a S=>Vq S Iv rfl rfl rfl ?_))));clear S;intro a S
 refine Dl (Fc h (S.tm rfl) (fun hb1 h=>?_) (fun hb1 h=>?_))
 ·refine Fr (Vk S rfl rfl fun a S=>Dl (wp_ret (Cp ?_)))
  obtain rfl:=Option.some.inj h
  exact Ee S results58 rfl rfl
 ·refine wp_skip (Tn (Fs (Fr (Vm S rfl rfl fun a S=>lv S (Ec Yb (S.tm rfl) (Ew Ab)) rfl fun a S=>lv S (Rm rfl) rfl fun a S=>Dl ?_))))
  replace S:=S.k4 0 8 9 10 rfl
  obtain ⟨j1,hj1,h⟩:=Dw h
  refine Dk (fun a w'=>j1 = some r ∧ Sx w [] nov [] [] 40 a w') ?_ ?_
  ·refine wp_block (Fq (fun (ys1 : List Le) a w'=>∃ i1 : Nat,(∃ dn,Aa = dn ++ ys1 ∧ dn.length = i1) ∧ Ij Aa j1 ys1 i1 = some r ∧ Sx w [] nov [] [(0,Z),(8,Z),(9,iV (Aa.length : Int)),(10,iV (i1 : Int))] 40 a w') List.length Aa ⟨0,⟨[],rfl,rfl⟩,h,S.nf [] rfl (subR rfl)⟩ ?_)
   clear S h;rintro ys1 a w1 ⟨i1,⟨dn,hd1,hi1⟩,h,S⟩
   cases ys1 with
   | nil =>
    rw [Ij.eq_1] at h
    refine Fr (Vb S Dp rfl rfl rfl fun a S=>Ld ?_)
    replace S:=S.k5 0 8 9 10 11 rfl
    exact Tn (Fs (wp_cond_false ((S.tm rfl).trans (congrArg Value.bool (Hj hd1 hi1))) (wp_exit (De (De (Fk (Tn (⟨h,S.nf [] rfl trivial⟩))))))))
   | cons y1 ys1 =>
    rw [Ij.eq_2] at h
    refine Fr (Vb S Dp rfl rfl rfl fun a S=>Ld ?_)
    replace S:=S.k5 0 8 9 10 11 rfl
    refine Tn (Fs (wp_cond_true ((S.tm rfl).trans (congrArg Value.bool (Fy hd1 hi1))) (wp_skip (Tn (Fs (wp_block (Fr (Vm S rfl rfl ?_))))))));clear S;intro a S
    obtain ⟨b1,o1,hm1,hr1⟩:=Ea (a:=a) (x:=.tmp 8) (y:=.tmp 10) (ty:=0) Yb Ab (Hd hd1 hi1) rfl (S.tm rfl) (S.tm rfl)
    refine lv S (hr1 _) rfl ?_;clear S;intro a S
    clear hr1
    refine lv S (He isAgg84 sizeOf84 (off:=o1) (o:=0) (part:=(Le.enc y1)) rfl rfl (S.tm rfl) (hm1.at S.emb0)) rfl fun a S=>Iq S zeroValue84 (cs:=[sV Co,iV 0]) rfl rfl ?_;clear S;intro a w3 b2 hz1 hk1 S
    refine Va S rfl rfl fun a S=>Hy S (S.tm rfl) (S.tm rfl) (i:=0) (off:=0) rfl sizeOf84 (vs:=(Le.enc y1)) rfl rfl rfl rfl ?_;clear S;intro w4 hk2 S
    refine Dl (wp_block (Fr (Vf Wi S rfl rfl fun a S=>Vl isAgg9 0 S rfl rfl rfl rfl ?_)));clear S;intro a S
    obtain ⟨r1,hr2,h⟩:=Em h
    refine Df S (fun _=>Ck (vs:=[sV y1.Race]) ⟨(S.tm rfl),trivial⟩ call44) (Ol _ y1.Race _ hr2) rfl ?_;clear S;intro v1 a w5 hv1 hk3 hn1 S
    subst hv1
    refine Vu S Lj rfl rfl fun a S=>Va S rfl rfl fun a S=>Ld ?_
    replace S:=(S.nl [.blk b2 (Le.enc y1) 84] [true] rfl).k7 0 3 4 8 9 10 15 rfl
    refine Tn (Fc h (S.tm rfl) (fun hb2 h=>?_) (fun hb2 h=>?_))
    ·refine Fr (Vk S rfl rfl fun a S=>Dl (wp_ret (Fb (Fb (Cp (Cp (Fb ?_)))))))
     refine Cp (Cp ?_)
     obtain rfl:=Option.some.inj h
     exact Ee S results58 rfl rfl
    ·refine Fs (Gf [] ([]) Tryz.mixed S rfl (by kernel_rfl) ?_);clear S;intro w6 hk4 hsel S
     refine Ji [0,1,2,3,4,5,6,7,8,9,10,11,12,13] hsel (by kernel_rfl) rfl ?_
     clear hsel
     refine Ei S rfl (Rm (S.tm rfl)) rfl fun a S=>Ei S rfl (Iv (S.tm rfl) rfl) rfl fun a S=>Ei S rfl (Rm (S.tm rfl)) rfl ?_;clear S;intro a S
     obtain ⟨j2,hj2,h⟩:=Dw h
     refine Uu 10 (fun a w'=>∃ c1,j2 c1 = some r ∧ Keep [] w6 w' ∧ Sx w [] nov [.blk b2 (Le.enc y1) 84] [(0,Z),(4,.pointer (some ⟨b2,0,none⟩)),(8,Z),(9,iV (Aa.length : Int)),(10,iV (i1 : Int)),(33,bV c1)] 40 a w') ?_ ?_
     ·rcases Bool.eq_false_or_eq_true (decide (0 < (i1 : Int))) with hb3 | hb3
      ·replace h:=Oo h hb3
       refine Fo S rfl rfl rfl rfl hb3 (Hm S (Gp Wi (S.tm rfl)) rfl fun a S=>Fo S rfl rfl rfl rfl hb3 (Hm S (Od isAgg9 (S.tm rfl) (S.cell (i:=0) rfl rfl)) rfl fun a S=>Fo S rfl rfl rfl rfl hb3 (Hm S (Rm (S.tm rfl)) rfl fun a S=>Fo S rfl rfl rfl rfl hb3 (Hm S (Rm (S.tm rfl)) rfl fun a S=>Fo S rfl rfl rfl rfl hb3 (Hm S (It (S.tm rfl) rfl) rfl fun a S=>Fo S rfl rfl rfl rfl hb3 ?_)))))
       obtain ⟨hc1,h⟩:=Gn h
       obtain ⟨b3,o2,hm2,hr3⟩:=Ea (a:=a) (x:=.tmp 26) (y:=.tmp 28) (ty:=0) Yb Ab (Cn hc1).1 (Cn hc1).2 (S.tm rfl) (S.tm rfl)
       refine Hm S (hr3 _) rfl ?_;clear S;intro a S
       clear hr3
       exact Fo S rfl rfl rfl rfl hb3 (Hm S (Gp Wi (S.tm rfl)) rfl fun a S=>Fo S rfl rfl rfl rfl hb3 (Hm S (Gy isAgg9 (off:=o2) (o:=0) (S.tm rfl) (hm2.at S.emb0) rfl) rfl fun a S=>Fo S rfl rfl rfl rfl hb3 (Hm S (rn_sleq (S.tm rfl) (S.tm rfl)) rfl fun a S=>Ei S rfl (Hr hb3 (S.tm rfl) (S.tm rfl)) rfl fun a S=>Ic (⟨_,h,Keep.refl _ _,S.nf [true] rfl (subR rfl)⟩))))
      ·replace h:=Oq h hb3
       iterate 9 (refine Pf S rfl rfl rfl rfl (Jh hb3) rfl ?_ rfl;clear S;intro a S)
       exact Ei S rfl (Hs true hb3 (S.tm rfl) rfl) rfl fun a S=>Ic (⟨_,h,Keep.refl _ _,S.nf [true] rfl (subR rfl)⟩)
     clear S h;rintro a w7 ⟨c1,h,hk5,S⟩;rw [hj2] at h;clear hj2 j2
     refine Ei S rfl (Ra (S.tm rfl)) rfl fun a S=>Ic ?_
     replace S:=S.k6 0 4 8 9 10 20 rfl
     refine Tn (Fc h (S.tm rfl) (fun hb4 h=>?_) (fun hb4 h=>?_))
     ·refine Fr (Vk S rfl rfl fun a S=>Dl (wp_ret (Fb (Fb (Cp (Cp (Fb ?_)))))))
      refine Cp (Cp ?_)
      obtain rfl:=Option.some.inj h
      exact Ee S results58 rfl rfl
     ·refine Fr (Vf BT S rfl rfl fun a S=>Vl isAgg3 0 S rfl rfl rfl rfl fun a S=>Df S (fun _=>Ck (vs:=[iV y1.Time]) ⟨(S.tm rfl),trivial⟩ call60) (Qp _ y1.Time _ rfl) rfl ?_);clear S;intro v2 a w8 hv2 hk6 hn2 S
      subst hv2
      refine Vu S Lj rfl rfl fun a S=>Va S rfl rfl fun a S=>Dl (Fc h (S.tm rfl) (fun hb5 h=>?_) (fun hb5 h=>?_))
      ·refine Fr (Vk S rfl rfl fun a S=>Dl (wp_ret (Fb (Fb (Cp (Cp (Fb ?_)))))))
       refine Cp (Cp ?_)
       obtain rfl:=Option.some.inj h
       exact Ee S results58 rfl rfl
      ·exact wp_skip (Hf (Hf (Tn (Fg (Vq S Eh rfl rfl rfl fun a S=>Vm S rfl rfl fun a S=>Dl (⟨ys1,⟨i1 + 1,⟨_,(hd1).trans (List.append_cons _ _ _),by simp [hi1]⟩,h,S.nf [false] rfl ⟨rfl,rfl,rfl,(congrArg (fun z=>some (Value.int .i64 z)) (Fz hd1 hi1 (Il Ab))),trivial⟩⟩,Nat.lt_succ_self _⟩))))))
  clear S h;rintro a w2 ⟨h,S⟩;rw [hj1] at h;clear hj1 j1
  refine Tn (Fr (Vk S rfl rfl fun a S=>Dl (wp_ret ?_)))
  obtain rfl:=Option.some.inj h
  exact Ee S results58 rfl rfl
theorem Vd (w : World) (Z : Value) (Aa : List Le) (Ab : Slc (view w []) 2 Z (Aa.map Le.enc)) (Bi : ByteArray) (r : Int) (h : Mf Aa Bi = r) :
    Calls prog 59 [Z,sV Bi].toArray w (Ret w [] fun _ v _=>v = iV r):=by
 refine Fe func59 rfl ntmps59 rfl fun a S=>?_
 unfold Mf at h
 replace S:=S.k2 0 1 rfl
 refine Fr (Vk S rfl rfl fun a S=>Dl (Fs (Fr (Vm S rfl rfl fun a S=>lv S (Ec Yb (S.tm rfl) (Ew Ab)) rfl fun a S=>lv S (Rm rfl) rfl ?_))));clear S;intro a S
 refine Dl ?_
 replace S:=S.k4 1 7 8 9 rfl
 obtain ⟨j1,hj1,h⟩:=Dw h
 refine Dk (fun a w'=>j1 = r ∧ Sx w [] nov [] [] 20 a w') ?_ ?_
 ·refine wp_block (Fq (fun (ys1 : List Le) a w'=>∃ i1 : Nat,(∃ dn,Aa = dn ++ ys1 ∧ dn.length = i1) ∧ Jc Bi j1 ys1 i1 = r ∧ Sx w [] nov [] [(1,sV Bi),(7,Z),(8,iV (Aa.length : Int)),(9,iV (i1 : Int))] 20 a w') List.length Aa ⟨0,⟨[],rfl,rfl⟩,h,S.nf [] rfl (subR rfl)⟩ ?_)
  clear S h;rintro ys1 a w1 ⟨i1,⟨dn,hd1,hi1⟩,h,S⟩
  cases ys1 with
  | nil =>
   rw [Jc.eq_1] at h
   refine Fr (Vb S Dp rfl rfl rfl fun a S=>Ld ?_)
   replace S:=S.k5 1 7 8 9 10 rfl
   exact Tn (Fs (wp_cond_false ((S.tm rfl).trans (congrArg Value.bool (Hj hd1 hi1))) (wp_exit (De (De (Fk (Tn (⟨h,S.nf [] rfl trivial⟩))))))))
  | cons y1 ys1 =>
   rw [Jc.eq_2] at h
   refine Fr (Vb S Dp rfl rfl rfl fun a S=>Ld ?_)
   replace S:=S.k5 1 7 8 9 10 rfl
   refine Tn (Fs (wp_cond_true ((S.tm rfl).trans (congrArg Value.bool (Fy hd1 hi1))) (wp_skip (Tn (Fs (wp_block (Fs (Fg ?_))))))))
   obtain ⟨b1,o1,hm1,hr1⟩:=Ea (a:=a) (x:=.tmp 7) (y:=.tmp 9) (ty:=0) Yb Ab (Hd hd1 hi1) rfl (S.tm rfl) (S.tm rfl)
   refine lv S (hr1 _) rfl ?_;clear S;intro a S
   clear hr1
   refine lv S (He isAgg84 sizeOf84 (off:=o1) (o:=0) (part:=(Le.enc y1)) rfl rfl (S.tm rfl) (hm1.at S.emb0)) rfl fun a S=>Iq S zeroValue84 (cs:=[sV Co,iV 0]) rfl rfl ?_;clear S;intro a w3 b2 hz1 hk1 S
   refine Hy S (S.tm rfl) (S.tm rfl) (i:=0) (off:=0) rfl sizeOf84 (vs:=(Le.enc y1)) rfl rfl rfl rfl ?_;clear S;intro w4 hk2 S
   refine Dz (Vf Wi S rfl rfl fun a S=>Vl isAgg9 0 S rfl rfl rfl rfl fun a S=>Vm S rfl rfl fun a S=>Vb S Pk rfl rfl rfl fun a S=>Dl (Fc h (S.tm rfl) (fun hb1 h=>?_) (fun hb1 h=>?_)))
   ·refine Fr (Vf BT S rfl rfl fun a S=>Vl isAgg3 0 S rfl rfl rfl rfl fun a S=>Va S rfl rfl fun a S=>Ld ?_)
    replace S:=S.n0.k1 4 rfl
    refine Tn (wp_ret (Fb (Cp (Cp (Fb (Cp (Cp ?_)))))))
    subst h
    exact Ee S results59 rfl rfl
   ·exact wp_skip (Hf (Tn (Fg (Vq S Eh rfl rfl rfl fun a S=>Vm S rfl rfl fun a S=>Dl (⟨ys1,⟨i1 + 1,⟨_,(hd1).trans (List.append_cons _ _ _),by simp [hi1]⟩,h,S.nf [false] rfl ⟨rfl,rfl,rfl,(congrArg (fun z=>some (Value.int .i64 z)) (Fz hd1 hi1 (Il Ab))),trivial⟩⟩,Nat.lt_succ_self _⟩)))))
 clear S h;rintro a w2 ⟨h,S⟩;rw [hj1] at h;clear hj1 j1
 refine Tn (Fr (Vk S rfl rfl fun a S=>Dl (wp_ret ?_)))
 subst h
 exact Ee S results59 rfl rfl
theorem Xk (w : World) (Ai : Int) (Aq : Int) (r : Int × Int) (h : Lv Ai Aq = r) :
    Calls prog 96 [.int .u64 Ai,.int .u64 Aq].toArray w (Ret w [] fun _ v _=>v = .tuple #[.int .u64 r.1,.int .u64 r.2]):=by
 refine Fe func96 rfl ntmps96 rfl fun a S=>?_
 unfold Lv at h
 replace S:=S.k2 0 1 rfl
 refine Fr (Vk S rfl rfl fun a S=>Vk S rfl rfl fun a S=>Dz (Vm S rfl rfl fun a S=>Vq S Tu rfl rfl rfl fun a S=>Va S rfl rfl ?_));clear S;intro a S
 refine Dz (Vm S rfl rfl fun a S=>lv S (Oc (S.tm rfl) rfl (by decide)) rfl fun a S=>Va S rfl rfl fun a S=>Dl (Fs (Fg ?_)))
 refine Vm S rfl rfl fun a S=>Vq S Tu rfl rfl rfl fun a S=>Va S rfl rfl fun a S=>Dz (Vm S rfl rfl fun a S=>lv S (Oc (S.tm rfl) rfl (by decide)) rfl fun a S=>Va S rfl rfl fun a S=>Ld ?_)
 replace S:=S.k6 0 1 6 7 8 9 rfl
 refine Tn (Fr (Vm S rfl rfl fun a S=>Vm S rfl rfl fun a S=>Vb S Js rfl rfl rfl fun a S=>Va S rfl rfl fun a S=>Dl (Fs (Fg ?_))))
 refine Vm S rfl rfl fun a S=>Vm S rfl rfl fun a S=>Vb S Js rfl rfl rfl fun a S=>Vm S rfl rfl fun a S=>lv S (Oc (S.tm rfl) rfl (by decide)) rfl fun a S=>Vb S Ob rfl rfl rfl fun a S=>Va S rfl rfl fun a S=>Ld ?_
 replace S:=S.k6 0 1 6 7 9 11 rfl
 refine Tn (Fr (Vm S rfl rfl fun a S=>Vq S Tu rfl rfl rfl fun a S=>Va S rfl rfl fun a S=>Dz (Vm S rfl rfl ?_)));clear S;intro a S
 refine lv S (Oc (S.tm rfl) rfl (by decide)) rfl fun a S=>Va S rfl rfl fun a S=>Dl (Fs (Fg ?_))
 iterate 3 (refine Vm S rfl rfl ?_;clear S;intro a S)
 refine Vb S Js rfl rfl rfl fun a S=>Vb S Ob rfl rfl rfl fun a S=>Va S rfl rfl fun a S=>Ld ?_
 replace S:=S.k6 0 1 7 9 12 13 rfl
 refine Tn (Fr (Vm S rfl rfl fun a S=>Vm S rfl rfl fun a S=>Vb S Js rfl rfl rfl fun a S=>Vm S rfl rfl fun a S=>Vb S Ob rfl rfl rfl fun a S=>Vm S rfl rfl fun a S=>lv S (Oc (S.tm rfl) rfl (by decide)) rfl fun a S=>Vb S Ob rfl rfl rfl ?_));clear S;intro a S
 refine Va S rfl rfl fun a S=>Ld ?_
 replace S:=S.k3 0 1 4 rfl
 refine Tn (Fr (Vm S rfl rfl fun a S=>Vm S rfl rfl fun a S=>Vb S Js rfl rfl rfl fun a S=>Va S rfl rfl fun a S=>Dl (wp_ret ?_)))
 subst h
 exact Ou S results96 rfl rfl rfl
theorem Rl (w : World) (Ai : Int) (r : Int) (h : Nh Ai = some r) :
    Calls prog 131 [.int .u64 Ai].toArray w (Ret w [] fun _ v _=>v = iV r):=by
 refine Fe func131 rfl ntmps131 rfl fun a S=>?_
 unfold Nh at h
 replace S:=S.k1 0 rfl
 refine Fr (Vk S rfl rfl fun a S=>Dz (Vm S rfl rfl ?_));clear S;intro a S
 obtain ⟨r1,hr1,h⟩:=Em h
 refine Df S (fun _=>Ck (vs:=[.int .u64 Ai]) ⟨(S.tm rfl),trivial⟩ call77) (Tg _ Ai _ hr1) rfl ?_;clear S;intro v1 a w1 hv1 hk1 hn1 S
 subst hv1
 refine Vu S (It rfl) rfl rfl fun a S=>Va S rfl rfl fun a S=>Dl (wp_ret ?_)
 obtain rfl:=Option.some.inj h
 exact Ee S results131 rfl rfl
set_option maxRecDepth 20000 in
theorem Xl (w : World) (Bk : Int) (Ar : Int) (Aq : Int) (r : Int × Int) (h : Tl Bk Ar Aq = some r) :
    Calls prog 97 [.int .u64 Bk,.int .u64 Ar,.int .u64 Aq].toArray w (Ret w [] fun _ v _=>v = .tuple #[.int .u64 r.1,.int .u64 r.2]):=by
 refine Fe func97 rfl ntmps97 rfl fun a S=>?_
 unfold Tl at h
 replace S:=S.k3 0 1 2 rfl
 refine Fr (Vk S rfl rfl fun a S=>Vk S rfl rfl fun a S=>Dl (Fs (Fr (Vm S rfl rfl fun a S=>Vq S Kq rfl rfl rfl ?_))));clear S;intro a S
 refine Dl (Fc h (S.tm rfl) (fun hb1 h=>?_) (fun hb1 h=>?_))
 ·cases h
 ·refine wp_skip (Tn (Fs (Fr (Vm S rfl rfl fun a S=>Vm S rfl rfl fun a S=>Vb S Qc rfl rfl rfl fun a S=>Dl (Fc h (S.tm rfl) (fun hb2 h=>?_) (fun hb2 h=>?_))))))
  ·cases h
  ·refine wp_skip (Tn (Fs (Fr (Vm S rfl rfl fun a S=>Vq S Kq rfl rfl rfl fun a S=>Dl (Fc h (S.tm rfl) (fun hb3 h=>?_) (fun hb3 h=>?_))))))
   ·refine Fs (Gf [] ([]) Tryz.mixed S rfl (by kernel_rfl) ?_);clear S;intro w1 hk1 hsel S
    refine Ji [0,1,2,3,4,5,6,7] hsel (by kernel_rfl) rfl ?_
    clear hsel
    refine Ei S rfl (Rm (S.tm rfl)) rfl fun a S=>Ei S rfl (Rm (S.tm rfl)) rfl ?_;clear S;intro a S
    obtain ⟨hc1,h⟩:=Gn h
    refine Ei S rfl (Yr (S.tm rfl) (S.tm rfl) (Ti hc1)) rfl fun a S=>Ei S rfl (Rm (S.tm rfl)) rfl fun a S=>Ei S rfl (Rm (S.tm rfl)) rfl ?_;clear S;intro a S
    obtain ⟨hc2,h⟩:=Gn h
    refine Ei S rfl (rn_remk (S.tm rfl) (S.tm rfl) (Ti hc2)) rfl fun a S=>Ei S rfl (Ra (S.tm rfl)) rfl fun a S=>Ei S rfl (Ra (S.tm rfl)) rfl fun a S=>Ic ?_
    replace S:=S.k2 6 7 rfl
    refine Tn (wp_ret (Cp ?_))
    obtain rfl:=Option.some.inj h
    exact Ou S results97 rfl rfl rfl
   ·refine wp_skip (Tn (Fr (Vm S rfl rfl ?_)));clear S;intro a S
    obtain ⟨r1,hr1,h⟩:=Em h
    refine Df S (fun _=>Ck (vs:=[.int .u64 Aq]) ⟨(S.tm rfl),trivial⟩ call131) (Rl _ Aq _ hr1) rfl ?_;clear S;intro v1 a w2 hv1 hk2 hn1 S
    subst hv1
    refine Vu S (Nn underlying3 underlying89) rfl rfl fun a S=>Va S rfl rfl fun a S=>Ld ?_
    replace S:=S.k4 0 1 2 8 rfl
    refine Tn (Fr (Vm S rfl rfl fun a S=>Vm S rfl rfl ?_));clear S;intro a S
    obtain ⟨hc3,h⟩:=Gn h
    refine lv S (AN (S.tm rfl) (S.tm rfl) (of_decide_eq_true hc3)) rfl fun a S=>Va S rfl rfl fun a S=>Dz (Vm S rfl rfl fun a S=>lv S (Oc (S.tm rfl) rfl (by decide)) rfl fun a S=>Va S rfl rfl fun a S=>Dl ?_)
    refine Fr (Vm S rfl rfl fun a S=>Vq S Tu rfl rfl rfl fun a S=>Va S rfl rfl fun a S=>Dz (Vm S rfl rfl fun a S=>Vm S rfl rfl ?_));clear S;intro a S
    obtain ⟨hc4,h⟩:=Gn h
    refine lv S (AN (S.tm rfl) (S.tm rfl) (of_decide_eq_true hc4)) rfl fun a S=>Vm S rfl rfl fun a S=>Vm S rfl rfl fun a S=>Vu S (Qw rfl) rfl rfl ?_;clear S;intro a S
    obtain ⟨hc5,h⟩:=Gn h
    refine lv S (Oc (S.tm rfl) (S.tm rfl) (of_decide_eq_true hc5)) rfl fun a S=>Vb S rn_or_ rfl rfl rfl fun a S=>Va S rfl rfl fun a S=>Ld ?_
    replace S:=S.k6 1 2 8 9 10 11 rfl
    refine Tn (Fr (Vm S rfl rfl fun a S=>Vm S rfl rfl ?_));clear S;intro a S
    obtain ⟨hc6,h⟩:=Gn h
    refine lv S (AN (S.tm rfl) (S.tm rfl) (of_decide_eq_true hc6)) rfl fun a S=>Va S rfl rfl fun a S=>Dz (Vm S rfl rfl fun a S=>lv S (Oc (S.tm rfl) rfl (by decide)) rfl fun a S=>Va S rfl rfl fun a S=>Dl ?_)
    refine Fr (Vm S rfl rfl fun a S=>Vq S Tu rfl rfl rfl fun a S=>Va S rfl rfl fun a S=>Ld ?_)
    replace S:=S.k7 2 8 9 10 11 13 14 rfl
    refine Tn (Fr (Vm S rfl rfl fun a S=>Vm S rfl rfl ?_));clear S;intro a S
    obtain ⟨hc7,h⟩:=Gn h
    refine lv S (Yr (S.tm rfl) (S.tm rfl) (Ti hc7)) rfl fun a S=>Va S rfl rfl fun a S=>Dl (Fs (Fg ?_))
    iterate 3 (refine Vm S rfl rfl ?_;clear S;intro a S)
    refine Vb S Js rfl rfl rfl fun a S=>Vb S Qw rfl rfl rfl fun a S=>Va S rfl rfl fun a S=>Ld ?_
    replace S:=S.k9 2 8 9 10 11 13 14 15 16 rfl
    refine Tn (Fs ?_)
    obtain ⟨j1,hj1,h⟩:=Dw h
    refine Dk (fun a w'=>∃ x1 : Int,j1 x1 = some r ∧ Sx w [] nov [] [(2,.int .u64 (Dc .u64 Aq (IntKind.wrap .u64 r1))),(8,.int .u64 (IntKind.wrap .u64 r1)),(9,.int .u64 (Dt .u64 (Dc .u64 Aq (IntKind.wrap .u64 r1)) 32)),(10,.int .u64 (Iy .u64 (Dc .u64 Aq (IntKind.wrap .u64 r1)) 4294967295)),(11,.int .u64 (Lw .u64 (Dc .u64 Bk (IntKind.wrap .u64 r1)) (Dt .u64 Ar (IntKind.wrap .u64 (64 - (IntKind.wrap .u64 r1)))))),(13,.int .u64 (Dt .u64 (Dc .u64 Ar (IntKind.wrap .u64 r1)) 32)),(14,.int .u64 (Iy .u64 (Dc .u64 Ar (IntKind.wrap .u64 r1)) 4294967295)),(15,.int .u64 x1)] 135 a w') ?_ ?_
    ·refine wp_block (Fq (fun (m1 : Nat) a w'=>∃ x1 : Int,∃ x2 : Int,Kc Ar r1 Aq j1 m1 x1 x2 = some r ∧ Sx w [] nov [] [(2,.int .u64 (Dc .u64 Aq (IntKind.wrap .u64 r1))),(8,.int .u64 (IntKind.wrap .u64 r1)),(9,.int .u64 (Dt .u64 (Dc .u64 Aq (IntKind.wrap .u64 r1)) 32)),(10,.int .u64 (Iy .u64 (Dc .u64 Aq (IntKind.wrap .u64 r1)) 4294967295)),(11,.int .u64 (Lw .u64 (Dc .u64 Bk (IntKind.wrap .u64 r1)) (Dt .u64 Ar (IntKind.wrap .u64 (64 - (IntKind.wrap .u64 r1)))))),(13,.int .u64 (Dt .u64 (Dc .u64 Ar (IntKind.wrap .u64 r1)) 32)),(14,.int .u64 (Iy .u64 (Dc .u64 Ar (IntKind.wrap .u64 r1)) 4294967295)),(15,.int .u64 x1),(16,.int .u64 x2)] 135 a w') id (((IntKind.wrap .u64 (Int.tdiv (Lw .u64 (Dc .u64 Bk (IntKind.wrap .u64 r1)) (Dt .u64 Ar (IntKind.wrap .u64 (64 - (IntKind.wrap .u64 r1))))) (Dt .u64 (Dc .u64 Aq (IntKind.wrap .u64 r1)) 32))) - 4294967296).toNat + 2) ⟨IntKind.wrap .u64 (Int.tdiv (Lw .u64 (Dc .u64 Bk (IntKind.wrap .u64 r1)) (Dt .u64 Ar (IntKind.wrap .u64 (64 - (IntKind.wrap .u64 r1))))) (Dt .u64 (Dc .u64 Aq (IntKind.wrap .u64 r1)) 32)),IntKind.wrap .u64 ((Lw .u64 (Dc .u64 Bk (IntKind.wrap .u64 r1)) (Dt .u64 Ar (IntKind.wrap .u64 (64 - (IntKind.wrap .u64 r1))))) - (IntKind.wrap .u64 ((IntKind.wrap .u64 (Int.tdiv (Lw .u64 (Dc .u64 Bk (IntKind.wrap .u64 r1)) (Dt .u64 Ar (IntKind.wrap .u64 (64 - (IntKind.wrap .u64 r1))))) (Dt .u64 (Dc .u64 Aq (IntKind.wrap .u64 r1)) 32))) * (Dt .u64 (Dc .u64 Aq (IntKind.wrap .u64 r1)) 32)))),h,S.nf [] rfl (subR rfl)⟩ ?_)
     clear S h;rintro m1 a w3 ⟨x1,x2,h,S⟩
     cases m1 with
     | zero=>rw [Kc.eq_1] at h;cases h
     | succ m1 =>
      rw [Kc.eq_2] at h
      refine Fs (Fr (Vm S rfl rfl fun a S=>Vq S Ms rfl rfl rfl fun a S=>Vm S rfl rfl fun a S=>Ik 9 (fun a w'=>Keep [] w3 w' ∧ Sx w [] nov [] [(2,.int .u64 (Dc .u64 Aq (IntKind.wrap .u64 r1))),(8,.int .u64 (IntKind.wrap .u64 r1)),(9,.int .u64 (Dt .u64 (Dc .u64 Aq (IntKind.wrap .u64 r1)) 32)),(10,.int .u64 (Iy .u64 (Dc .u64 Aq (IntKind.wrap .u64 r1)) 4294967295)),(11,.int .u64 (Lw .u64 (Dc .u64 Bk (IntKind.wrap .u64 r1)) (Dt .u64 Ar (IntKind.wrap .u64 (64 - (IntKind.wrap .u64 r1)))))),(13,.int .u64 (Dt .u64 (Dc .u64 Ar (IntKind.wrap .u64 r1)) 32)),(14,.int .u64 (Iy .u64 (Dc .u64 Ar (IntKind.wrap .u64 r1)) 4294967295)),(15,.int .u64 x1),(16,.int .u64 x2),(78,bV ((decide (4294967296 ≤ x1)) || (decide ((IntKind.wrap .u64 ((IntKind.wrap .u64 (4294967296 * x2)) + (Dt .u64 (Dc .u64 Ar (IntKind.wrap .u64 r1)) 32))) < (IntKind.wrap .u64 (x1 * (Iy .u64 (Dc .u64 Aq (IntKind.wrap .u64 r1)) 4294967295)))))))] 135 a w') ?_ ?_))
      ·rcases Bool.eq_false_or_eq_true (decide (4294967296 ≤ x1)) with hb4 | hb4
       ·iterate 8 (refine Gz S rfl rfl rfl (Nz hb4) rfl ?_ rfl;clear S;intro a S)
        exact lv S (Mj (decide ((IntKind.wrap .u64 ((IntKind.wrap .u64 (4294967296 * x2)) + (Dt .u64 (Dc .u64 Ar (IntKind.wrap .u64 r1)) 32))) < (IntKind.wrap .u64 (x1 * (Iy .u64 (Dc .u64 Aq (IntKind.wrap .u64 r1)) 4294967295))))) hb4 (S.tm rfl) rfl) rfl fun a S=>Dl (⟨Keep.refl _ _,S.nf [] rfl (subR rfl)⟩)
       ·refine Cq S rfl rfl rfl hb4 (Vm S rfl rfl fun a S=>Cq S rfl rfl rfl hb4 (Vm S rfl rfl fun a S=>Cq S rfl rfl rfl hb4 (Vb S Js rfl rfl rfl fun a S=>Cq S rfl rfl rfl hb4 (Vm S rfl rfl fun a S=>Cq S rfl rfl rfl hb4 (Vu S (Js rfl) rfl rfl fun a S=>Cq S rfl rfl rfl hb4 ?_)))))
        exact Vm S rfl rfl fun a S=>Cq S rfl rfl rfl hb4 (Vb S Ob rfl rfl rfl fun a S=>Cq S rfl rfl rfl hb4 (Vb S Iv rfl rfl rfl fun a S=>lv S (Mk hb4 (S.tm rfl) (S.tm rfl)) rfl fun a S=>Dl (⟨Keep.refl _ _,S.nf [] rfl (subR rfl)⟩)))
      clear S;rintro a w5 ⟨hk3,S⟩
      refine Dl (Fc h (S.tm rfl) (fun hb5 h=>?_) (fun hb5 h=>?_))
      ·refine wp_skip (Tn (wp_block (Fr (Vm S rfl rfl fun a S=>Vq S Qw rfl rfl rfl fun a S=>Va S rfl rfl fun a S=>Dl (Fs ?_)))))
       refine Fg (Vm S rfl rfl fun a S=>Vm S rfl rfl fun a S=>Vb S Ob rfl rfl rfl fun a S=>Va S rfl rfl fun a S=>Ld ?_)
       replace S:=S.k9 2 8 9 10 11 13 14 15 16 rfl
       refine Tn (Fr (Vm S rfl rfl fun a S=>Vq S Ms rfl rfl rfl fun a S=>Dl (Fc h (S.tm rfl) (fun hb6 h=>?_) (fun hb6 h=>?_))))
       ·exact wp_exit (BI rfl (De (Fk (Tn (⟨IntKind.wrap .u64 (x1 - 1),h,S.nf [] rfl (subR rfl)⟩)))))
       ·exact wp_skip (Hf (Tn (⟨m1,⟨IntKind.wrap .u64 (x1 - 1),IntKind.wrap .u64 (x2 + (Dt .u64 (Dc .u64 Aq (IntKind.wrap .u64 r1)) 32)),h,S.nf [] rfl ⟨rfl,rfl,rfl,rfl,rfl,rfl,rfl,rfl,rfl,trivial⟩⟩,Nat.lt_succ_self _⟩)))
      ·exact wp_exit (De (De (Fk (Tn (⟨x1,h,S.nf [] rfl (subR rfl)⟩)))))
    clear S h;rintro a w4 ⟨x1,h,S⟩;rw [hj1] at h;clear hj1 j1
    refine Tn (Fr (Vm S rfl rfl fun a S=>Vq S Js rfl rfl rfl fun a S=>Vm S rfl rfl fun a S=>Vb S Ob rfl rfl rfl fun a S=>Vm S rfl rfl fun a S=>Vm S rfl rfl fun a S=>Vb S Js rfl rfl rfl fun a S=>Vb S Qw rfl rfl rfl ?_));clear S;intro a S
    refine Va S rfl rfl fun a S=>Ld ?_
    replace S:=S.k7 2 8 9 10 14 15 17 rfl
    refine Tn (Fr (Vm S rfl rfl fun a S=>Vm S rfl rfl ?_));clear S;intro a S
    obtain ⟨hc8,h⟩:=Gn h
    refine lv S (Yr (S.tm rfl) (S.tm rfl) (Ti hc8)) rfl fun a S=>Va S rfl rfl fun a S=>Dl (Fs (Fg ?_))
    iterate 3 (refine Vm S rfl rfl ?_;clear S;intro a S)
    refine Vb S Js rfl rfl rfl fun a S=>Vb S Qw rfl rfl rfl fun a S=>Va S rfl rfl fun a S=>Ld ?_
    replace S:=S.k9 2 8 9 10 14 15 16 17 18 rfl
    refine Tn (Fs ?_)
    obtain ⟨j2,hj2,h⟩:=Dw h
    refine Dk (fun a w'=>∃ x4 : Int,j2 x4 = some r ∧ Sx w [] nov [] [(2,.int .u64 (Dc .u64 Aq (IntKind.wrap .u64 r1))),(8,.int .u64 (IntKind.wrap .u64 r1)),(14,.int .u64 (Iy .u64 (Dc .u64 Ar (IntKind.wrap .u64 r1)) 4294967295)),(15,.int .u64 x1),(17,.int .u64 (IntKind.wrap .u64 ((IntKind.wrap .u64 ((IntKind.wrap .u64 ((Lw .u64 (Dc .u64 Bk (IntKind.wrap .u64 r1)) (Dt .u64 Ar (IntKind.wrap .u64 (64 - (IntKind.wrap .u64 r1))))) * 4294967296)) + (Dt .u64 (Dc .u64 Ar (IntKind.wrap .u64 r1)) 32))) - (IntKind.wrap .u64 (x1 * (Dc .u64 Aq (IntKind.wrap .u64 r1))))))),(18,.int .u64 x4)] 135 a w') ?_ ?_
    ·refine wp_block (Fq (fun (m2 : Nat) a w'=>∃ x3 : Int,∃ x4 : Int,Kd Ar r1 Aq j2 m2 x3 x4 = some r ∧ Sx w [] nov [] [(2,.int .u64 (Dc .u64 Aq (IntKind.wrap .u64 r1))),(8,.int .u64 (IntKind.wrap .u64 r1)),(9,.int .u64 (Dt .u64 (Dc .u64 Aq (IntKind.wrap .u64 r1)) 32)),(10,.int .u64 (Iy .u64 (Dc .u64 Aq (IntKind.wrap .u64 r1)) 4294967295)),(14,.int .u64 (Iy .u64 (Dc .u64 Ar (IntKind.wrap .u64 r1)) 4294967295)),(15,.int .u64 x1),(16,.int .u64 x3),(17,.int .u64 (IntKind.wrap .u64 ((IntKind.wrap .u64 ((IntKind.wrap .u64 ((Lw .u64 (Dc .u64 Bk (IntKind.wrap .u64 r1)) (Dt .u64 Ar (IntKind.wrap .u64 (64 - (IntKind.wrap .u64 r1))))) * 4294967296)) + (Dt .u64 (Dc .u64 Ar (IntKind.wrap .u64 r1)) 32))) - (IntKind.wrap .u64 (x1 * (Dc .u64 Aq (IntKind.wrap .u64 r1))))))),(18,.int .u64 x4)] 135 a w') id (((IntKind.wrap .u64 (Int.tdiv (IntKind.wrap .u64 ((IntKind.wrap .u64 ((IntKind.wrap .u64 ((Lw .u64 (Dc .u64 Bk (IntKind.wrap .u64 r1)) (Dt .u64 Ar (IntKind.wrap .u64 (64 - (IntKind.wrap .u64 r1))))) * 4294967296)) + (Dt .u64 (Dc .u64 Ar (IntKind.wrap .u64 r1)) 32))) - (IntKind.wrap .u64 (x1 * (Dc .u64 Aq (IntKind.wrap .u64 r1)))))) (Dt .u64 (Dc .u64 Aq (IntKind.wrap .u64 r1)) 32))) - 4294967296).toNat + 2) ⟨IntKind.wrap .u64 ((IntKind.wrap .u64 ((IntKind.wrap .u64 ((IntKind.wrap .u64 ((Lw .u64 (Dc .u64 Bk (IntKind.wrap .u64 r1)) (Dt .u64 Ar (IntKind.wrap .u64 (64 - (IntKind.wrap .u64 r1))))) * 4294967296)) + (Dt .u64 (Dc .u64 Ar (IntKind.wrap .u64 r1)) 32))) - (IntKind.wrap .u64 (x1 * (Dc .u64 Aq (IntKind.wrap .u64 r1)))))) - (IntKind.wrap .u64 ((IntKind.wrap .u64 (Int.tdiv (IntKind.wrap .u64 ((IntKind.wrap .u64 ((IntKind.wrap .u64 ((Lw .u64 (Dc .u64 Bk (IntKind.wrap .u64 r1)) (Dt .u64 Ar (IntKind.wrap .u64 (64 - (IntKind.wrap .u64 r1))))) * 4294967296)) + (Dt .u64 (Dc .u64 Ar (IntKind.wrap .u64 r1)) 32))) - (IntKind.wrap .u64 (x1 * (Dc .u64 Aq (IntKind.wrap .u64 r1)))))) (Dt .u64 (Dc .u64 Aq (IntKind.wrap .u64 r1)) 32))) * (Dt .u64 (Dc .u64 Aq (IntKind.wrap .u64 r1)) 32)))),IntKind.wrap .u64 (Int.tdiv (IntKind.wrap .u64 ((IntKind.wrap .u64 ((IntKind.wrap .u64 ((Lw .u64 (Dc .u64 Bk (IntKind.wrap .u64 r1)) (Dt .u64 Ar (IntKind.wrap .u64 (64 - (IntKind.wrap .u64 r1))))) * 4294967296)) + (Dt .u64 (Dc .u64 Ar (IntKind.wrap .u64 r1)) 32))) - (IntKind.wrap .u64 (x1 * (Dc .u64 Aq (IntKind.wrap .u64 r1)))))) (Dt .u64 (Dc .u64 Aq (IntKind.wrap .u64 r1)) 32)),h,S.nf [] rfl (subR rfl)⟩ ?_)
     clear S h;rintro m2 a w6 ⟨x3,x4,h,S⟩
     cases m2 with
     | zero=>rw [Kd.eq_1] at h;cases h
     | succ m2 =>
      rw [Kd.eq_2] at h
      refine Fs (Fr (Vm S rfl rfl fun a S=>Vq S Ms rfl rfl rfl fun a S=>Vm S rfl rfl fun a S=>Ik 9 (fun a w'=>Keep [] w6 w' ∧ Sx w [] nov [] [(2,.int .u64 (Dc .u64 Aq (IntKind.wrap .u64 r1))),(8,.int .u64 (IntKind.wrap .u64 r1)),(9,.int .u64 (Dt .u64 (Dc .u64 Aq (IntKind.wrap .u64 r1)) 32)),(10,.int .u64 (Iy .u64 (Dc .u64 Aq (IntKind.wrap .u64 r1)) 4294967295)),(14,.int .u64 (Iy .u64 (Dc .u64 Ar (IntKind.wrap .u64 r1)) 4294967295)),(15,.int .u64 x1),(16,.int .u64 x3),(17,.int .u64 (IntKind.wrap .u64 ((IntKind.wrap .u64 ((IntKind.wrap .u64 ((Lw .u64 (Dc .u64 Bk (IntKind.wrap .u64 r1)) (Dt .u64 Ar (IntKind.wrap .u64 (64 - (IntKind.wrap .u64 r1))))) * 4294967296)) + (Dt .u64 (Dc .u64 Ar (IntKind.wrap .u64 r1)) 32))) - (IntKind.wrap .u64 (x1 * (Dc .u64 Aq (IntKind.wrap .u64 r1))))))),(18,.int .u64 x4),(113,bV ((decide (4294967296 ≤ x4)) || (decide ((IntKind.wrap .u64 ((IntKind.wrap .u64 (4294967296 * x3)) + (Iy .u64 (Dc .u64 Ar (IntKind.wrap .u64 r1)) 4294967295))) < (IntKind.wrap .u64 (x4 * (Iy .u64 (Dc .u64 Aq (IntKind.wrap .u64 r1)) 4294967295)))))))] 135 a w') ?_ ?_))
      ·rcases Bool.eq_false_or_eq_true (decide (4294967296 ≤ x4)) with hb7 | hb7
       ·iterate 8 (refine Gz S rfl rfl rfl (Nz hb7) rfl ?_ rfl;clear S;intro a S)
        exact lv S (Mj (decide ((IntKind.wrap .u64 ((IntKind.wrap .u64 (4294967296 * x3)) + (Iy .u64 (Dc .u64 Ar (IntKind.wrap .u64 r1)) 4294967295))) < (IntKind.wrap .u64 (x4 * (Iy .u64 (Dc .u64 Aq (IntKind.wrap .u64 r1)) 4294967295))))) hb7 (S.tm rfl) rfl) rfl fun a S=>Dl (⟨Keep.refl _ _,S.nf [] rfl (subR rfl)⟩)
       ·refine Cq S rfl rfl rfl hb7 (Vm S rfl rfl fun a S=>Cq S rfl rfl rfl hb7 (Vm S rfl rfl fun a S=>Cq S rfl rfl rfl hb7 (Vb S Js rfl rfl rfl fun a S=>Cq S rfl rfl rfl hb7 (Vm S rfl rfl fun a S=>Cq S rfl rfl rfl hb7 (Vu S (Js rfl) rfl rfl fun a S=>Cq S rfl rfl rfl hb7 ?_)))))
        exact Vm S rfl rfl fun a S=>Cq S rfl rfl rfl hb7 (Vb S Ob rfl rfl rfl fun a S=>Cq S rfl rfl rfl hb7 (Vb S Iv rfl rfl rfl fun a S=>lv S (Mk hb7 (S.tm rfl) (S.tm rfl)) rfl fun a S=>Dl (⟨Keep.refl _ _,S.nf [] rfl (subR rfl)⟩)))
      clear S;rintro a w8 ⟨hk4,S⟩
      refine Dl (Fc h (S.tm rfl) (fun hb8 h=>?_) (fun hb8 h=>?_))
      ·refine wp_skip (Tn (wp_block (Fr (Vm S rfl rfl fun a S=>Vq S Qw rfl rfl rfl fun a S=>Va S rfl rfl fun a S=>Dl (Fs ?_)))))
       refine Fg (Vm S rfl rfl fun a S=>Vm S rfl rfl fun a S=>Vb S Ob rfl rfl rfl fun a S=>Va S rfl rfl fun a S=>Ld ?_)
       replace S:=S.k9 2 8 9 10 14 15 16 17 18 rfl
       refine Tn (Fr (Vm S rfl rfl fun a S=>Vq S Ms rfl rfl rfl fun a S=>Dl (Fc h (S.tm rfl) (fun hb9 h=>?_) (fun hb9 h=>?_))))
       ·exact wp_exit (BI rfl (De (Fk (Tn (⟨IntKind.wrap .u64 (x4 - 1),h,S.nf [] rfl (subR rfl)⟩)))))
       ·exact wp_skip (Hf (Tn (⟨m2,⟨IntKind.wrap .u64 (x3 + (Dt .u64 (Dc .u64 Aq (IntKind.wrap .u64 r1)) 32)),IntKind.wrap .u64 (x4 - 1),h,S.nf [] rfl ⟨rfl,rfl,rfl,rfl,rfl,rfl,rfl,rfl,rfl,trivial⟩⟩,Nat.lt_succ_self _⟩)))
      ·exact wp_exit (De (De (Fk (Tn (⟨x4,h,S.nf [] rfl (subR rfl)⟩)))))
    clear S h;rintro a w7 ⟨x4,h,S⟩;rw [hj2] at h;clear hj2 j2
    refine Tn (Fr (Vm S rfl rfl fun a S=>Vq S Js rfl rfl rfl fun a S=>Vm S rfl rfl fun a S=>Vb S Ob rfl rfl rfl fun a S=>Vm S rfl rfl fun a S=>Vq S Js rfl rfl rfl fun a S=>Vm S rfl rfl fun a S=>Vb S Ob rfl rfl rfl ?_));clear S;intro a S
    refine Vm S rfl rfl fun a S=>Vm S rfl rfl fun a S=>Vb S Js rfl rfl rfl fun a S=>Vb S Qw rfl rfl rfl fun a S=>Vm S rfl rfl ?_;clear S;intro a S
    obtain ⟨hc9,h⟩:=Gn h
    refine lv S (Oc (S.tm rfl) (S.tm rfl) (of_decide_eq_true hc9)) rfl fun a S=>Va S rfl rfl fun a S=>Va S rfl rfl fun a S=>Ld ?_
    replace S:=S.k2 6 7 rfl
    refine Tn (wp_ret ?_)
    obtain rfl:=Option.some.inj h
    exact Ou S results97 rfl rfl rfl
theorem Ve (w : World) (Aw : Int) (Ba : Int) (r : Int) (h : Qe Aw Ba = some r) :
    Calls prog 61 [iV Aw,iV Ba].toArray w (Ret w [] fun _ v _=>v = iV r):=by
 refine Fe func61 rfl ntmps61 rfl fun a S=>?_
 unfold Qe at h
 replace S:=S.k2 0 1 rfl
 refine Fr (Vk S rfl rfl fun a S=>Dz (Vm S rfl rfl fun a S=>Vu S (Nn underlying3 underlying117) rfl rfl fun a S=>Vm S rfl rfl fun a S=>Vu S (Nn underlying3 underlying117) rfl rfl ?_));clear S;intro a S
 refine Va S rfl rfl fun a S=>Va S rfl rfl fun a S=>Dz (Vm S rfl rfl fun a S=>Vm S rfl rfl fun a S=>Vb S Js rfl rfl rfl fun a S=>Vm S rfl rfl fun a S=>Vb S Js rfl rfl rfl ?_);clear S;intro a S
 refine Df S (fun _=>Ck (vs:=[.int .u64 (IntKind.wrap .u64 ((IntKind.wrap .u64 ((IntKind.wrap .u64 Aw) * (IntKind.wrap .u64 Aw))) * (IntKind.wrap .u64 Aw))),.int .u64 1000]) ⟨(S.tm rfl),rfl,trivial⟩ call96) (Xk _ (IntKind.wrap .u64 ((IntKind.wrap .u64 ((IntKind.wrap .u64 Aw) * (IntKind.wrap .u64 Aw))) * (IntKind.wrap .u64 Aw))) 1000 _ rfl) rfl ?_;clear S;intro v1 a w1 hv1 hk1 hn1 S
 subst hv1
 refine Vm S rfl rfl fun a S=>Vq S Kz rfl rfl rfl fun a S=>Vq S Kz rfl rfl rfl fun a S=>Va S rfl rfl fun a S=>Va S rfl rfl fun a S=>Ld ?_
 replace S:=S.k3 6 7 8 rfl
 refine Tn (Fr (Vm S rfl rfl fun a S=>Vm S rfl rfl fun a S=>Vb S Js rfl rfl rfl fun a S=>Vm S rfl rfl fun a S=>Vb S Js rfl rfl rfl fun a S=>Va S rfl rfl fun a S=>Dl ?_))
 refine Fs (Fr (Vm S rfl rfl fun a S=>Vm S rfl rfl fun a S=>Vb S Ms rfl rfl rfl fun a S=>Dl (Fc h (S.tm rfl) (fun hb1 h=>?_) (fun hb1 h=>?_))))
 ·refine Fr (Vk S rfl rfl fun a S=>Dl (wp_ret (Cp ?_)))
  obtain rfl:=Option.some.inj h
  exact Ee S results61 rfl rfl
 ·refine wp_skip (Tn (Fs (Fg ?_)))
  iterate 3 (refine Vm S rfl rfl ?_;clear S;intro a S)
  obtain ⟨r1,hr1,h⟩:=Em h
  refine Df S (fun _=>Ck (vs:=[.int .u64 ((Lv (IntKind.wrap .u64 ((IntKind.wrap .u64 ((IntKind.wrap .u64 Aw) * (IntKind.wrap .u64 Aw))) * (IntKind.wrap .u64 Aw))) 1000).1),.int .u64 ((Lv (IntKind.wrap .u64 ((IntKind.wrap .u64 ((IntKind.wrap .u64 Aw) * (IntKind.wrap .u64 Aw))) * (IntKind.wrap .u64 Aw))) 1000).2),.int .u64 (IntKind.wrap .u64 ((IntKind.wrap .u64 ((IntKind.wrap .u64 Ba) * (IntKind.wrap .u64 Ba))) * (IntKind.wrap .u64 Ba)))]) ⟨(S.tm rfl),(S.tm rfl),(S.tm rfl),trivial⟩ call97) (Xl _ ((Lv (IntKind.wrap .u64 ((IntKind.wrap .u64 ((IntKind.wrap .u64 Aw) * (IntKind.wrap .u64 Aw))) * (IntKind.wrap .u64 Aw))) 1000).1) ((Lv (IntKind.wrap .u64 ((IntKind.wrap .u64 ((IntKind.wrap .u64 Aw) * (IntKind.wrap .u64 Aw))) * (IntKind.wrap .u64 Aw))) 1000).2) (IntKind.wrap .u64 ((IntKind.wrap .u64 ((IntKind.wrap .u64 Ba) * (IntKind.wrap .u64 Ba))) * (IntKind.wrap .u64 Ba))) _ hr1) rfl ?_;clear S;intro v2 a w2 hv2 hk2 hn2 S
  subst hv2
  refine Vm S rfl rfl fun a S=>Vq S Kz rfl rfl rfl fun a S=>Vq S Kz rfl rfl rfl fun a S=>Va S rfl rfl fun a S=>Va S rfl rfl fun a S=>Ld ?_
  replace S:=S.k1 9 rfl
  refine Tn (Fr (Vm S rfl rfl fun a S=>Vq S rn_min2 rfl rfl rfl fun a S=>Vu S (Nn underlying117 underlying3) rfl rfl fun a S=>Va S rfl rfl fun a S=>Dl (wp_ret ?_)))
  obtain rfl:=Option.some.inj h
  exact Ee S results61 rfl rfl
theorem Vg (w : World) (Z : Value) (Aa : List Le) (Ab : Slc (view w []) 2 Z (Aa.map Le.enc)) (Bi : ByteArray) (Ba : Int) (r : Int × Int) (h : Qf Aa Bi Ba = some r) :
    Calls prog 41 [Z,sV Bi,iV Ba].toArray w (Ret w [] fun _ v _=>v = .tuple #[iV r.1,iV r.2]):=by
 refine Fe func41 rfl ntmps41 rfl fun a S=>?_
 unfold Qf at h
 replace S:=S.k3 0 1 2 rfl
 refine Fr (Vk S rfl rfl fun a S=>Vk S rfl rfl fun a S=>Dl (Fs (Fr (Vm S rfl rfl ?_))));clear S;intro a S
 obtain ⟨r1,hr1,h⟩:=Em h
 refine Df S (fun _=>Ck (vs:=[Z]) ⟨(S.tm rfl),trivial⟩ call58) (Te _ Z Aa (Ab.mono (S.le_arg Gm)) _ hr1) rfl ?_;clear S;intro v1 a w1 hv1 hk1 hn1 S
 subst hv1
 refine Va S rfl rfl fun a S=>Dz (Vm S rfl rfl fun a S=>Vq S Ot rfl rfl rfl fun a S=>Dl (Fc h (S.tm rfl) (fun hb1 h=>?_) (fun hb1 h=>?_)))
 ·refine Fr (Vm S rfl rfl fun a S=>Vk S rfl rfl fun a S=>Va S rfl rfl fun a S=>Dl (wp_ret (Cp ?_)))
  obtain rfl:=Option.some.inj h
  exact Ou S results41 rfl rfl rfl
 ·refine wp_skip (Tn (Fr (Vm S rfl rfl fun a S=>Vm S rfl rfl fun a S=>Df S (fun _=>Ck (vs:=[Z,sV Bi]) ⟨(S.tm rfl),(S.tm rfl),trivial⟩ call59) (Vd _ Z Aa (Ab.mono (S.le_arg Gm)) Bi _ rfl) rfl ?_)));clear S;intro v2 a w2 hv2 hk2 hn2 S
  subst hv2
  refine Va S rfl rfl fun a S=>Dl (Fs (Fr (Vm S rfl rfl fun a S=>Vq S Kq rfl rfl rfl fun a S=>Ld ?_)))
  replace S:=S.k3 2 9 19 rfl
  refine Tn (Fc h (S.tm rfl) (fun hb2 h=>?_) (fun hb2 h=>?_))
  ·refine Fr (Vk S rfl rfl fun a S=>Vk S rfl rfl fun a S=>Dl (wp_ret (Cp ?_)))
   obtain rfl:=Option.some.inj h
   exact Ou S results41 rfl rfl rfl
  ·refine wp_skip (Tn (Fs (Fr (Vm S rfl rfl fun a S=>Df S (fun _=>Ck (vs:=[iV Ba]) ⟨(S.tm rfl),trivial⟩ call60) (Qp _ Ba _ rfl) rfl ?_))));clear S;intro v3 a w3 hv3 hk3 hn3 S
   subst hv3
   refine Vu S Lj rfl rfl fun a S=>Dl (Fc h (S.tm rfl) (fun hb3 h=>?_) (fun hb3 h=>?_))
   ·refine Fr (Vk S rfl rfl fun a S=>Vk S rfl rfl fun a S=>Dl (wp_ret (Cp ?_)))
    obtain rfl:=Option.some.inj h
    exact Ou S results41 rfl rfl rfl
   ·refine wp_skip (Tn (Fr (Vm S rfl rfl fun a S=>Vm S rfl rfl ?_)));clear S;intro a S
    obtain ⟨r2,hr2,h⟩:=Em h
    refine Df S (fun _=>Ck (vs:=[iV (Mf Aa Bi),iV Ba]) ⟨(S.tm rfl),(S.tm rfl),trivial⟩ call61) (Ve _ (Mf Aa Bi) Ba _ hr2) rfl ?_;clear S;intro v4 a w4 hv4 hk4 hn4 S
    subst hv4
    refine Va S rfl rfl fun a S=>Vk S rfl rfl fun a S=>Dl (wp_ret ?_)
    obtain rfl:=Option.some.inj h
    exact Ou S results41 rfl rfl rfl
theorem Tf (w : World) (r : Bool) (h : Ng = some r) :
    Calls prog 14 [].toArray w (Ret w [] fun _ v _=>v = bV r):=by
 refine Fe func14 rfl ntmps14 rfl fun a S=>?_
 unfold Ng at h
 replace S:=S.k0
 refine Fr (Vk S rfl rfl fun a S=>Dz (lv S (Nu bt_84 (pv:=[(0,sV k_r),(1,iV 3000)]) ⟨rfl,rfl,rfl,rfl,trivial⟩ (cs:=[sV k_r,iV 3000]) (by kernel_rfl)) rfl fun a S=>Eb S underlying85 sizeOf84 zeroValue84 rfl rfl (pv:=[(0,.agg #[sV k_r,iV 3000])]) ⟨rfl,(S.tm rfl),trivial⟩ (cs:=[sV k_r,iV 3000]) (by kernel_rfl) rfl ?_));clear S;intro a w1 b1 hz1 hk1 S
 obtain ⟨r1,hr1,h⟩:=Em h
 refine Df S (fun _=>Ck (vs:=[.slice (some ⟨b1,0,none⟩) 1 1,sV k_r,iV 6000]) ⟨(S.tm rfl),rfl,rfl,trivial⟩ call41) (Vg _ (.slice (some ⟨b1,0,none⟩) 1 1) [(Le.mk k_r 3000)] (Iw Le.enc_ok S (i:=0) rfl rfl rfl rfl ((Hg (e':=.blk b1 [sV k_r,iV 3000] 84)) _ rfl)) k_r 6000 _ hr1) rfl ?_;clear S;intro v1 a w2 hv1 hk2 hn1 S
 subst hv1
 refine Vm S rfl rfl fun a S=>Vq S Kz rfl rfl rfl fun a S=>Vq S Kz rfl rfl rfl fun a S=>Va S rfl rfl fun a S=>Va S rfl rfl fun a S=>Dz (Vm S rfl rfl fun a S=>Vq S Kq rfl rfl rfl ?_);clear S;intro a S
 refine Vm S rfl rfl fun a S=>Ik 3 (fun a w'=>Keep [] w2 w' ∧ Sx w [] nov [.blk b1 [sV k_r,iV 3000] 84] [(14,bV ((decide (r1.2 = 0)) && (decide (r1.1 = 125))))] 15 a w') ?_ ?_
 ·rcases Bool.eq_false_or_eq_true (decide (r1.2 = 0)) with hb1 | hb1
  ·exact Cq S rfl rfl rfl hb1 (Vm S rfl rfl fun a S=>Cq S rfl rfl rfl hb1 (Vq S Kq rfl rfl rfl fun a S=>lv S (Hr hb1 (S.tm rfl) (S.tm rfl)) rfl fun a S=>Dl (⟨Keep.refl _ _,S.nf [true] rfl ⟨rfl,trivial⟩⟩)))
  ·exact Gz S rfl rfl rfl (Jh hb1) rfl (fun a S=>Gz S rfl rfl rfl (Jh hb1) rfl (fun a S=>lv S (Hs (decide (r1.1 = 125)) hb1 (S.tm rfl) rfl) rfl fun a S=>Dl (⟨Keep.refl _ _,S.nf [true] rfl ⟨rfl,trivial⟩⟩)) rfl) rfl
 clear S;rintro a w3 ⟨hk3,S⟩
 refine Va S rfl rfl fun a S=>Dl (wp_ret ?_)
 obtain rfl:=Option.some.inj h
 exact Ee S results14 rfl rfl
theorem Ro (w : World) (Z : Value) (Aa : List Int) (Ab : Slc (view w []) 1 Z (Aa.map eInt)) (hg_pow10 : Uw (view w []) 3 Pv) (r : Bool) (h : Li Aa = some r) :
    Calls prog 3 [Z].toArray w (Ret w [] fun _ v _=>v = bV r):=by
 refine Fe func3 rfl ntmps3 rfl fun a S=>?_
 unfold Li at h
 replace S:=S.k1 0 rfl
 refine Fr (Vk S rfl rfl fun a S=>Dz (Vm S rfl rfl ?_));clear S;intro a S
 refine lv S (Nu bt_25 (pv:=[(0,Z)]) ⟨rfl,(S.tm rfl),trivial⟩ (cs:=[Z,iV 0]) (by obtain ⟨_,_,hv⟩:=(Ew Ab);rw [hv];clear hv;kernel_rfl)) rfl ?_;clear S;intro a S
 refine Rr S (S.tm rfl) (cs:=[Z,iV 0]) rfl rfl ?_;clear S;intro a w1 b1 hz1 hk1 S
 refine Va S rfl rfl fun a S=>Dz (Vm S rfl rfl ?_);clear S;intro a S
 obtain ⟨r1,hr1,h⟩:=Em h
 have hz2:=S.keep.size
 refine Fv 0 S (b:=b1) rfl rfl (fun _=>.blk b1 [Z,iV r1.2] 25) (fun _=>Ck (vs:=[.pointer (some ⟨b1,0,none⟩)]) ⟨(S.tm rfl),trivial⟩ call4) (Ux _ b1 Z Aa (Ab.mono (S.le_arg (Hn (i:=0) (e:=.blk b1 [Z,iV 0] 25) rfl))) 0 (S.holds _ (List.mem_of_getElem? (i:=0) rfl)) _ hr1) rfl (fun _ _ _ h=>⟨h.1,fun _ hc=>by cases hc;rfl⟩) ?_;clear S;intro v1 a w2 hv1 hk2 hn1 S
 replace hv1:=hv1.2
 obtain ⟨φ1,hl1,hm1,S⟩:=S.see' hn1 hz2
 have hs1:=hv1.mono hm1
 refine Vm S rfl rfl ?_;clear S;intro a S
 obtain ⟨r2,hr2,h⟩:=Em h
 have hz3:=S.keep.size
 refine Fv 0 S (b:=b1) rfl rfl (fun _=>.blk b1 [Z,iV r2.2] 25) (fun _=>Ck (vs:=[.pointer (some ⟨b1,0,none⟩)]) ⟨(S.tm rfl),trivial⟩ call5) (Uz _ b1 Z Aa (Ab.mono (S.le_arg (Hn (i:=0) (e:=.blk b1 [Z,iV r1.2] 25) rfl))) r1.2 (S.holds _ (List.mem_of_getElem? (i:=0) rfl)) _ hr2) rfl (fun _ _ _ h=>⟨h.1,fun _ hc=>by cases hc;rfl⟩) ?_;clear S;intro v2 a w3 hv2 hk3 hn2 S
 replace hv2:=hv2.2
 obtain ⟨φ2,hl2,hm2,S⟩:=S.see' hn2 hz3
 have hs2:=hv2.mono hm2
 refine Va S rfl rfl fun a S=>Va S rfl rfl fun a S=>Dz (Vm S rfl rfl ?_);clear S;intro a S
 obtain ⟨r3,hr3,h⟩:=Em h
 have hz4:=S.keep.size
 refine Df S (fun _=>Ck (vs:=[v1]) ⟨(S.tm rfl),trivial⟩ call6) (Wb _ v1 r1.1 ((Ir Dj.enc_ok hs1).mono (View.le_trans hl2 (S.le_new Gm))) _ hr3) rfl ?_;clear S;intro v3 a w4 hv3 hk4 hn3 S
 obtain ⟨u3,rfl,ho3⟩:=hv3
 obtain ⟨φ3,hl3,hm3,S⟩:=S.see' hn3 hz4
 have hs3:=ho3.mono hm3
 refine Vm S rfl rfl fun a S=>Vq S Kz rfl rfl rfl fun a S=>Vq S Kz rfl rfl rfl fun a S=>Va S rfl rfl fun a S=>Va S rfl rfl fun a S=>Ld ?_
 replace S:=S.n0.k4 4 5 6 7 rfl
 refine Tn (Fr (Vm S rfl rfl ?_));clear S;intro a S
 obtain ⟨r4,hr4,h⟩:=Em h
 have hz5:=S.keep.size
 refine Df S (fun _=>Ck (vs:=[v2]) ⟨(S.tm rfl),trivial⟩ call7) (Vc _ v2 r2.1 ((Ir An.enc_ok hs2).mono (View.le_trans hl3 (S.le_new Gm))) (hg_pow10.mono (S.le_arg Gm)) _ hr4) rfl ?_;clear S;intro v4 a w5 hv4 hk5 hn4 S
 obtain ⟨u4,rfl,ho4⟩:=hv4
 obtain ⟨φ4,hl4,hm4,S⟩:=S.see' hn4 hz5
 have hs4:=ho4.mono hm4
 refine Vm S rfl rfl fun a S=>Vq S Kz rfl rfl rfl fun a S=>Vq S Kz rfl rfl rfl fun a S=>Va S rfl rfl fun a S=>Va S rfl rfl fun a S=>Dz (Vk S rfl rfl fun a S=>Ld ?_)
 refine Tn (Fr (Vm S rfl rfl fun a S=>Df S (fun _=>Ck (vs:=[v1]) ⟨(S.tm rfl),trivial⟩ call8) (Rk _ v1 r1.1 ((Ir Dj.enc_ok hs1).mono (View.le_trans (View.le_trans (View.le_trans hl2 hl3) hl4) (S.le_new Gm))) _ rfl) rfl ?_));clear S;intro v5 a w6 hv5 hk6 hn5 S
 subst hv5
 refine Va S rfl rfl fun a S=>Ld ?_
 replace S:=S.k8 4 5 6 7 8 9 10 11 rfl
 refine Tn (Fs (Fr (Vm S rfl rfl fun a S=>Vq S Kq rfl rfl rfl fun a S=>Dl ?_)))
 obtain ⟨j1,hj1,h⟩:=Dw h
 refine Dk (fun a w'=>∃ x1 : List Int,∃ φ5 : View,∃ v6 : Value,j1 x1 = some r ∧ View.le φ4 φ5 ∧ Pr φ5 3 1 v6 x1.length (x1.flatMap eInt) ∧ Sx w [] φ5 [] [(5,v2),(6,u3),(7,iV r3.2),(8,u4),(9,iV r4.2),(10,v6),(11,iV (Gg r1.1))] 63 a w') ?_ ?_
 ·refine Fc h (S.tm rfl) (fun hb1 h=>?_) (fun hb1 h=>?_)
  ·refine Fg (Vm S rfl rfl ?_);clear S;intro a S
   obtain ⟨r5,hr5,h⟩:=Em h
   have hz6:=S.keep.size
   refine Df S (fun _=>Ck (vs:=[v1]) ⟨(S.tm rfl),trivial⟩ call9) (Tb _ v1 r1.1 ((Ir Dj.enc_ok hs1).mono (View.le_trans (View.le_trans (View.le_trans hl2 hl3) hl4) (S.le_new Gm))) _ hr5) rfl ?_;clear S;intro v7 a w8 hv6 hk7 hn6 S
   obtain ⟨φ6,hl6,hm5,S⟩:=S.see' hn6 hz6
   have hs6:=hv6.mono hm5
   exact Va S rfl rfl fun a S=>Dl (⟨r5,φ6,v7,h,hl6,hs6,S.nf [] rfl (subR rfl)⟩)
  ·exact wp_skip (Tn (⟨([] : List Int),φ4,.slice none 0 0,h,(View.le_refl _),(Qk _ _ _),S.nf [] rfl (subR rfl)⟩))
 clear S h;rintro a w7 ⟨x1,φ5,v6,h,hl5,hs5,S⟩;rw [hj1] at h;clear hj1 j1
 refine Tn (Fr (Vk S rfl rfl fun a S=>Dl (Fs (Fr (Vm S rfl rfl ?_)))));clear S;intro a S
 obtain ⟨r6,hr6,h⟩:=Em h
 refine Df S (fun _=>Ck (vs:=[v2]) ⟨(S.tm rfl),trivial⟩ call10) (Ny _ v2 r2.1 ((Ir An.enc_ok hs2).mono (View.le_trans (View.le_trans (View.le_trans hl3 hl4) hl5) (S.le_new Gm))) _ hr6) rfl ?_;clear S;intro v8 a w9 hv7 hk8 hn7 S
 subst hv7
 refine Vq S Kq rfl rfl rfl fun a S=>Dl ?_
 obtain ⟨j2,hj2,h⟩:=Dw h
 refine Dk (fun a w'=>∃ x2 : List Dy,∃ φ7 : View,∃ v9 : Value,j2 x2 = some r ∧ View.le φ5 φ7 ∧ Pr φ7 43 2 v9 x2.length (x2.flatMap Dy.enc) ∧ Sx w [] φ7 [] [(5,v2),(6,u3),(7,iV r3.2),(8,u4),(9,iV r4.2),(10,v6),(11,iV (Gg r1.1)),(12,v9)] 63 a w') ?_ ?_
 ·refine Fc h (S.tm rfl) (fun hb2 h=>?_) (fun hb2 h=>?_)
  ·refine Fg (Vm S rfl rfl ?_);clear S;intro a S
   obtain ⟨r7,hr7,h⟩:=Em h
   have hz7:=S.keep.size
   refine Df S (fun _=>Ck (vs:=[v2]) ⟨(S.tm rfl),trivial⟩ call11) (Sj _ v2 r2.1 ((Ir An.enc_ok hs2).mono (View.le_trans (View.le_trans (View.le_trans hl3 hl4) hl5) (S.le_new Gm))) (hg_pow10.mono (S.le_arg Gm)) _ hr7) rfl ?_;clear S;intro v10 a w11 hv8 hk9 hn8 S
   obtain ⟨φ8,hl8,hm6,S⟩:=S.see' hn8 hz7
   have hs8:=hv8.mono hm6
   exact Va S rfl rfl fun a S=>Dl (⟨r7,φ8,v10,h,hl8,hs8,S.nf [] rfl (subR rfl)⟩)
  ·exact wp_skip (Tn (⟨([] : List Dy),φ5,.slice none 0 0,h,(View.le_refl _),(Qk _ _ _),S.nf [] rfl (subR rfl)⟩))
 clear S h;rintro a w10 ⟨x2,φ7,v9,h,hl7,hs7,S⟩;rw [hj2] at h;clear hj2 j2
 refine Tn (Fr (Vm S rfl rfl fun a S=>Vm S rfl rfl fun a S=>Vb S Kq rfl rfl rfl fun a S=>Vm S rfl rfl ?_));clear S;intro a S
 obtain ⟨j3,hj3,h⟩:=Dw h
 refine Ik 4 (fun a w'=>∃ c1,j3 c1 = some r ∧ Keep [] w10 w' ∧ Sx w [] φ7 [] [(5,v2),(8,u4),(9,iV r4.2),(12,v9),(48,bV c1)] 63 a w') ?_ ?_
 ·rcases Bool.eq_false_or_eq_true (decide (r3.2 = (Gg r1.1))) with hb3 | hb3
  ·replace h:=Oo h hb3
   refine Cq S rfl rfl rfl hb3 (Vm S rfl rfl fun a S=>Cq S rfl rfl rfl hb3 (Vm S rfl rfl fun a S=>Cq S rfl rfl rfl hb3 ?_))
   obtain ⟨r8,hr8,h⟩:=Em h
   refine Df S (fun _=>Ck (vs:=[u3,v6]) ⟨(S.tm rfl),(S.tm rfl),trivial⟩ call12) (Td _ u3 r3.1 ((Ir Nf hs3).mono (View.le_trans (View.le_trans (View.le_trans hl4 hl5) hl7) (S.le_new Gm))) v6 x1 ((Ir Nf hs5).mono (View.le_trans hl7 (S.le_new Gm))) _ hr8) rfl ?_;clear S;intro v11 a w13 hv9 hk10 hn9 S
   subst hv9
   exact lv S (Hr hb3 (S.tm rfl) (S.tm rfl)) rfl fun a S=>Dl (⟨_,h,hk10,S.nf [] rfl (subR rfl)⟩)
  ·replace h:=Oq h hb3
   iterate 3 (refine Gz S rfl rfl rfl (Jh hb3) rfl ?_ rfl;clear S;intro a S)
   exact Vq S (Hs true hb3) rfl rfl rfl fun a S=>Dl (⟨_,h,Keep.refl _ _,S.nf [] rfl (subR rfl)⟩)
 clear S h;rintro a w12 ⟨c1,h,hk11,S⟩;rw [hj3] at h;clear hj3 j3
 refine Vm S rfl rfl ?_;clear S;intro a S
 obtain ⟨j4,hj4,h⟩:=Dw h
 refine Ik 5 (fun a w'=>∃ c2,j4 c2 = some r ∧ Keep [] w12 w' ∧ Sx w [] φ7 [] [(8,u4),(12,v9),(54,bV c2)] 63 a w') ?_ ?_
 ·rcases Bool.eq_false_or_eq_true c1 with hb4 | hb4
  ·replace h:=Oo h hb4
   refine Cq S rfl rfl rfl hb4 (Vm S rfl rfl fun a S=>Cq S rfl rfl rfl hb4 (Vm S rfl rfl fun a S=>Cq S rfl rfl rfl hb4 ?_))
   obtain ⟨r9,hr9,h⟩:=Em h
   refine Df S (fun _=>Ck (vs:=[v2]) ⟨(S.tm rfl),trivial⟩ call10) (Ny _ v2 r2.1 ((Ir An.enc_ok hs2).mono (View.le_trans (View.le_trans (View.le_trans (View.le_trans hl3 hl4) hl5) hl7) (S.le_new Gm))) _ hr9) rfl ?_;clear S;intro v12 a w15 hv10 hk12 hn10 S
   subst hv10
   exact Cq S rfl rfl rfl hb4 (Vb S Kq rfl rfl rfl fun a S=>lv S (Hr hb4 (S.tm rfl) (S.tm rfl)) rfl fun a S=>Dl (⟨_,h,hk12,S.nf [] rfl (subR rfl)⟩))
  ·replace h:=Oq h hb4
   iterate 4 (refine Gz S rfl rfl rfl (Jh hb4) rfl ?_ rfl;clear S;intro a S)
   exact Vq S (Hs true hb4) rfl rfl rfl fun a S=>Dl (⟨_,h,Keep.refl _ _,S.nf [] rfl (subR rfl)⟩)
 clear S h;rintro a w14 ⟨c2,h,hk13,S⟩;rw [hj4] at h;clear hj4 j4
 refine Vm S rfl rfl ?_;clear S;intro a S
 obtain ⟨j5,hj5,h⟩:=Dw h
 refine Ik 4 (fun a w'=>∃ c3,j5 c3 = some r ∧ Keep [] w14 w' ∧ Sx w [] φ7 [] [(59,bV c3)] 63 a w') ?_ ?_
 ·rcases Bool.eq_false_or_eq_true c2 with hb5 | hb5
  ·replace h:=Oo h hb5
   refine Cq S rfl rfl rfl hb5 (Vm S rfl rfl fun a S=>Cq S rfl rfl rfl hb5 (Vm S rfl rfl fun a S=>Cq S rfl rfl rfl hb5 ?_))
   obtain ⟨r10,hr10,h⟩:=Em h
   refine Df S (fun _=>Ck (vs:=[u4,v9]) ⟨(S.tm rfl),(S.tm rfl),trivial⟩ call13) (Sk _ u4 r4.1 ((Ir Dy.enc_ok hs4).mono (View.le_trans (View.le_trans hl5 hl7) (S.le_new Gm))) v9 x2 ((Ir Dy.enc_ok hs7).mono (S.le_new Gm)) _ hr10) rfl ?_;clear S;intro v13 a w17 hv11 hk14 hn11 S
   subst hv11
   exact lv S (Hr hb5 (S.tm rfl) (S.tm rfl)) rfl fun a S=>Dl (⟨_,h,hk14,S.nf [] rfl ⟨rfl,trivial⟩⟩)
  ·replace h:=Oq h hb5
   iterate 3 (refine Gz S rfl rfl rfl (Jh hb5) rfl ?_ rfl;clear S;intro a S)
   exact Vq S (Hs true hb5) rfl rfl rfl fun a S=>Dl (⟨_,h,Keep.refl _ _,S.nf [] rfl ⟨rfl,trivial⟩⟩)
 clear S h;rintro a w16 ⟨c3,h,hk15,S⟩;rw [hj5] at h;clear hj5 j5
 refine Vm S rfl rfl ?_;clear S;intro a S
 obtain ⟨j6,hj6,h⟩:=Dw h
 refine Ik 2 (fun a w'=>∃ c4,j6 c4 = some r ∧ Keep [] w16 w' ∧ Sx w [] φ7 [] [(62,bV c4)] 63 a w') ?_ ?_
 ·rcases Bool.eq_false_or_eq_true c3 with hb6 | hb6
  ·replace h:=Oo h hb6
   refine Cq S rfl rfl rfl hb6 ?_
   obtain ⟨r11,hr11,h⟩:=Em h
   refine Df S (fun _=>Ck (vs:=[]) trivial call14) (Tf _ _ hr11) rfl ?_;clear S;intro v14 a w19 hv12 hk16 hn12 S
   subst hv12
   exact lv S (Hr hb6 (S.tm rfl) (S.tm rfl)) rfl fun a S=>Dl (⟨_,h,hk16,S.nf [] rfl ⟨rfl,trivial⟩⟩)
  ·replace h:=Oq h hb6
   exact Gz S rfl rfl rfl (Jh hb6) rfl (fun a S=>Vq S (Hs true hb6) rfl rfl rfl fun a S=>Dl (⟨_,h,Keep.refl _ _,S.nf [] rfl ⟨rfl,trivial⟩⟩)) rfl
 clear S h;rintro a w18 ⟨c4,h,hk17,S⟩;rw [hj6] at h;clear hj6 j6
 refine Va S rfl rfl fun a S=>Dl (wp_ret ?_)
 obtain rfl:=Option.some.inj h
 exact Ee S results3 rfl rfl
end Go.Proofs.YtocmlionnalaaaaGreatDoor
