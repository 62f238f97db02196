/- Each Go function computes its plain twin,by program. -/
import Derived.Test.YtfdmkmnjfhbliaaGreatDoorWk1
namespace Go.Proofs.YtfdmkmnjfhbliaaGreatDoor
open Go
open Go.Proofs.Tryz
theorem Yk (w : World) (Ao : Jx) (Ca : R28) (Cf : Xt (view w []) Ao Ca) (r : Int) (h : Pj Ao = some r) :
    Calls prog 64 [.agg (R28.enc Ca).toArray].toArray w (Ret w [] fun _ v _=>v = iV r):=by
 obtain ⟨u1,rfl,hs1⟩:=Cf
 refine Fe func64 rfl ntmps64 rfl fun a S=>?_
 unfold Pj at h
 replace S:=S.k1 0 rfl
 refine Fr (Lw S (S.tm rfl) (cs:=[u1.val,iV Ao.Relay,iV Ao.Most]) rfl rfl ?_);clear S;intro a w1 b1 hz1 hk1 S
 refine Vk S rfl rfl fun a S=>Dl (Fs (Fr (Vf BT S rfl rfl fun a S=>Vl isAgg22 0 S rfl rfl rfl rfl fun a S=>lv S (Gi Qg (S.tm rfl) (Gf hs1)) rfl fun a S=>Vq S Kb rfl rfl rfl fun a S=>Ld ?_)))
 refine Tn (Fc h (S.tm rfl) (fun hb1 h=>?_) (fun hb1 h=>?_))
 ·refine Fr (Vk S rfl rfl fun a S=>Dl (wp_ret (Dv ?_)))
  obtain rfl:=Option.some.inj h
  exact Et S results64 rfl rfl
 ·refine wp_skip (Tn (Fs (Fr (Vf BT S rfl rfl fun a S=>Vl isAgg22 0 S rfl rfl rfl rfl fun a S=>lv S (Gi Qg (S.tm rfl) (Gf hs1)) rfl fun a S=>lv S (Rm rfl) rfl fun a S=>Dl ?_))))
  replace S:=(S.nl [.blk b1 [u1.val,iV Ao.Relay,iV Ao.Most] 28] [true] rfl).k4 1 10 11 12 rfl
  obtain ⟨j1,hj1,h⟩:=Eu h
  refine Eh (fun a w'=>j1 = some r ∧ Sx w [] nov [.blk b1 [u1.val,iV Ao.Relay,iV Ao.Most] 28] [(1,.pointer (some ⟨b1,0,none⟩))] 43 a w') ?_ ?_
  ·refine wp_block (Gr (fun (ys1 : List Int) a w'=>∃ i1 : Nat,(∃ dn,Ao.Points = dn ++ ys1 ∧ dn.length = i1) ∧ Kv Ao j1 ys1 i1 = some r ∧ Sx w [] nov [.blk b1 [u1.val,iV Ao.Relay,iV Ao.Most] 28] [(1,.pointer (some ⟨b1,0,none⟩)),(10,u1.val),(11,iV (Ao.Points.length : Int)),(12,iV (i1 : Int))] 43 a w') List.length Ao.Points ⟨0,⟨[],rfl,rfl⟩,h,S.nf [true] rfl (subR rfl)⟩ ?_)
   clear S h;rintro ys1 a w2 ⟨i1,⟨dn,hd1,hi1⟩,h,S⟩
   cases ys1 with
   | nil =>
    rw [Kv.eq_1] at h
    refine Fr (Vb S Es rfl rfl rfl fun a S=>Ld ?_)
    replace S:=S.k5 1 10 11 12 13 rfl
    exact Tn (Fs (wp_cond_false ((S.tm rfl).trans (congrArg Value.bool (Jd hd1 hi1))) (wp_exit (Ed (Ed (Gn (Tn (⟨h,S.nf [true] rfl ⟨rfl,trivial⟩⟩))))))))
   | cons y1 ys1 =>
    rw [Kv.eq_2] at h
    refine Fr (Vb S Es rfl rfl rfl fun a S=>Ld ?_)
    replace S:=S.k5 1 10 11 12 13 rfl
    refine Tn (Fs (wp_cond_true ((S.tm rfl).trans (congrArg Value.bool (Ia hd1 hi1))) (wp_skip (Tn (Fs (wp_block (Fr (Vm S rfl rfl ?_))))))));clear S;intro a S
    obtain ⟨b2,o1,hm1,hr1⟩:=Fk (a:=a) (x:=.tmp 10) (y:=.tmp 12) (ty:=0) Qg hs1 (Jc hd1 hi1) rfl (S.tm rfl) (S.tm rfl)
    refine lv S (hr1 _) rfl ?_;clear S;intro a S
    clear hr1
    refine lv S (Hx isAgg3 (off:=o1) (o:=0) (S.tm rfl) (hm1.at S.emb0) rfl) rfl fun a S=>Va S rfl rfl fun a S=>Va S rfl rfl fun a S=>Dl (Fs (Fr (Vm S rfl rfl fun a S=>Eb S (fun _=>Dq (vs:=[iV y1,iV 0,iV 10000]) ⟨(S.tm rfl),rfl,rfl,trivial⟩ call79) (Gj _ y1 0 10000 _ rfl) rfl ?_)));clear S;intro v1 a w4 hv1 hk2 hn1 S
    subst hv1
    refine Vu S Ih rfl rfl fun a S=>Dl (Fc h (S.tm rfl) (fun hb2 h=>?_) (fun hb2 h=>?_))
    ·refine Fr (Vk S rfl rfl fun a S=>Dl (wp_ret (Dv (Gq (Dv (Dv (Gq ?_)))))))
     refine Dv (Dv ?_)
     obtain rfl:=Option.some.inj h
     exact Et S results64 rfl rfl
    ·refine wp_skip (Tn (Fr (Vm S rfl rfl fun a S=>Vq S Kb rfl rfl rfl fun a S=>Vm S rfl rfl ?_)));clear S;intro a S
     obtain ⟨j2,hj2,h⟩:=Eu h
     refine Iy 9 (fun a w'=>∃ c1,j2 c1 = some r ∧ Keep [] w4 w' ∧ Sx w [] nov [.blk b1 [u1.val,iV Ao.Relay,iV Ao.Most] 28] [(1,.pointer (some ⟨b1,0,none⟩)),(10,u1.val),(11,iV (Ao.Points.length : Int)),(12,iV (i1 : Int)),(31,bV c1)] 43 a w') ?_ ?_
     ·rcases Bool.eq_false_or_eq_true (decide (0 < (i1 : Int))) with hb3 | hb3
      ·replace h:=Ti h hb3
       refine Dy S rfl rfl rfl hb3 (Vm S rfl rfl fun a S=>Dy S rfl rfl rfl hb3 (Vf BT S rfl rfl fun a S=>Dy S rfl rfl rfl hb3 (Vl isAgg22 0 S rfl rfl rfl rfl fun a S=>Dy S rfl rfl rfl hb3 (Vm S rfl rfl fun a S=>Dy S rfl rfl rfl hb3 (Vq S Iw rfl rfl rfl fun a S=>Dy S rfl rfl rfl hb3 ?_)))))
       obtain ⟨hc1,h⟩:=Ig h
       obtain ⟨b3,o2,hm2,hr2⟩:=Fk (a:=a) (x:=.tmp 25) (y:=.tmp 27) (ty:=0) Qg hs1 (Dw hc1).1 (Dw hc1).2 (S.tm rfl) (S.tm rfl)
       refine lv S (hr2 _) rfl ?_;clear S;intro a S
       clear hr2
       exact Dy S rfl rfl rfl hb3 (lv S (Hx isAgg3 (off:=o2) (o:=0) (S.tm rfl) (hm2.at S.emb0) rfl) rfl fun a S=>Dy S rfl rfl rfl hb3 (Vb S Kb rfl rfl rfl fun a S=>lv S (Io hb3 (S.tm rfl) (S.tm rfl)) rfl fun a S=>Dl (⟨_,h,Keep.refl _ _,S.nf [true] rfl (subR rfl)⟩)))
      ·replace h:=Tj h hb3
       iterate 8 (refine Ht S rfl rfl rfl (Kp hb3) rfl ?_ rfl;clear S;intro a S)
       exact Vq S (Ip true hb3) rfl rfl rfl fun a S=>Dl (⟨_,h,Keep.refl _ _,S.nf [true] rfl (subR rfl)⟩)
     clear S h;rintro a w5 ⟨c1,h,hk3,S⟩;rw [hj2] at h;clear hj2 j2
     refine Dl (Fc h (S.tm rfl) (fun hb4 h=>?_) (fun hb4 h=>?_))
     ·refine Fr (Vk S rfl rfl fun a S=>Dl (wp_ret (Gq (Dv (Dv (Gq (Dv ?_)))))))
      refine Dv ?_
      obtain rfl:=Option.some.inj h
      exact Et S results64 rfl rfl
     ·exact wp_skip (Hp (Tn (Fg (Vq S Gc rfl rfl rfl fun a S=>Vm S rfl rfl fun a S=>Dl (⟨ys1,⟨i1 + 1,⟨_,(hd1).trans (List.append_cons _ _ _),by simp [hi1]⟩,h,S.nf [true] rfl ⟨rfl,rfl,rfl,(congrArg (fun z=>some (Value.int .i64 z)) (Ib hd1 hi1 (Jp hs1))),trivial⟩⟩,Nat.lt_succ_self _⟩)))))
  clear S h;rintro a w3 ⟨h,S⟩;rw [hj1] at h;clear hj1 j1
  refine Tn (Fs (Fr (Vf TC S rfl rfl fun a S=>Vl isAgg3 0 S rfl rfl rfl rfl fun a S=>Eb S (fun _=>Dq (vs:=[iV Ao.Relay,iV 1,iV 10]) ⟨(S.tm rfl),rfl,rfl,trivial⟩ call79) (Gj _ Ao.Relay 1 10 _ rfl) rfl ?_)));clear S;intro v2 a w6 hv2 hk4 hn2 S
  subst hv2
  refine Vu S Ih rfl rfl fun a S=>Vm S rfl rfl fun a S=>Iy 5 (fun a w'=>Keep [] w6 w' ∧ Sx w [] nov [.blk b1 [u1.val,iV Ao.Relay,iV Ao.Most] 28] [(42,bV ((!(Dt Ao.Relay 1 10)) || (!(Dt Ao.Most 0 10))))] 43 a w') ?_ ?_
  ·rcases Bool.eq_false_or_eq_true (!(Dt Ao.Relay 1 10)) with hb5 | hb5
   ·iterate 4 (refine Ht S rfl rfl rfl (Oa hb5) rfl ?_ rfl;clear S;intro a S)
    exact lv S (Mo (!(Dt Ao.Most 0 10)) hb5 (S.tm rfl) rfl) rfl fun a S=>Dl (⟨Keep.refl _ _,S.nf [true] rfl ⟨rfl,trivial⟩⟩)
   ·refine Dy S rfl rfl rfl hb5 (Vf NN S rfl rfl fun a S=>Dy S rfl rfl rfl hb5 (Vl isAgg3 0 S rfl rfl rfl rfl fun a S=>Dy S rfl rfl rfl hb5 (Eb S (fun _=>Dq (vs:=[iV Ao.Most,iV 0,iV 10]) ⟨(S.tm rfl),rfl,rfl,trivial⟩ call79) (Gj _ Ao.Most 0 10 _ rfl) rfl ?_)));clear S;intro v3 a w8 hv3 hk5 hn3 S
    subst hv3
    exact Dy S rfl rfl rfl hb5 (Vu S Ih rfl rfl fun a S=>lv S (Mp hb5 (S.tm rfl) (S.tm rfl)) rfl fun a S=>Dl (⟨hk5,S.nf [true] rfl ⟨rfl,trivial⟩⟩))
  clear S;rintro a w7 ⟨hk6,S⟩
  refine Dl (Fc h (S.tm rfl) (fun hb6 h=>?_) (fun hb6 h=>?_))
  ·refine Fr (Vk S rfl rfl fun a S=>Dl (wp_ret (Dv ?_)))
   obtain rfl:=Option.some.inj h
   exact Et S results64 rfl rfl
  ·refine wp_skip (Tn (Fr (Vk S rfl rfl fun a S=>Dl (wp_ret ?_))))
   obtain rfl:=Option.some.inj h
   exact Et S results64 rfl rfl
theorem FI (w : World) (Cl : Uk) (r : Int) (h : Sa Cl = r) :
    Calls prog 116 [.agg (Uk.enc Cl).toArray].toArray w (Ret w [] fun _ v _=>v = iV r):=by
 refine Fe func116 rfl ntmps116 rfl fun a S=>?_
 unfold Sa at h
 replace S:=S.k1 0 rfl
 refine Fr (Lw S (S.tm rfl) (cs:=(Uk.enc Cl)) rfl rfl ?_);clear S;intro a w1 b1 hz1 hk1 S
 refine Vk S rfl rfl fun a S=>Dl (Fs (Fr (Vf fa_30_0 S rfl rfl fun a S=>Vl isAgg3 0 S rfl rfl rfl rfl fun a S=>Eb S (fun _=>Dq (vs:=[iV Cl.Size,iV 1,iV 10]) ⟨(S.tm rfl),rfl,rfl,trivial⟩ call79) (Gj _ Cl.Size 1 10 _ rfl) rfl ?_)));clear S;intro v1 a w2 hv1 hk2 hn1 S
 subst hv1
 refine Vu S Ih rfl rfl fun a S=>Vm S rfl rfl fun a S=>Iy 5 (fun a w'=>Keep [] w2 w' ∧ Sx w [] nov [.blk b1 (Uk.enc Cl) 30] [(1,.pointer (some ⟨b1,0,none⟩)),(12,bV ((!(Dt Cl.Size 1 10)) || (!(Dt Cl.Many 1 5))))] 19 a w') ?_ ?_
 ·rcases Bool.eq_false_or_eq_true (!(Dt Cl.Size 1 10)) with hb1 | hb1
  ·iterate 4 (refine Ht S rfl rfl rfl (Oa hb1) rfl ?_ rfl;clear S;intro a S)
   exact lv S (Mo (!(Dt Cl.Many 1 5)) hb1 (S.tm rfl) rfl) rfl fun a S=>Dl (⟨Keep.refl _ _,S.nf [true] rfl (subR rfl)⟩)
  ·refine Dy S rfl rfl rfl hb1 (Vf fa_30_1 S rfl rfl fun a S=>Dy S rfl rfl rfl hb1 (Vl isAgg3 0 S rfl rfl rfl rfl fun a S=>Dy S rfl rfl rfl hb1 (Eb S (fun _=>Dq (vs:=[iV Cl.Many,iV 1,iV 5]) ⟨(S.tm rfl),rfl,rfl,trivial⟩ call79) (Gj _ Cl.Many 1 5 _ rfl) rfl ?_)));clear S;intro v2 a w4 hv2 hk3 hn2 S
   subst hv2
   exact Dy S rfl rfl rfl hb1 (Vu S Ih rfl rfl fun a S=>lv S (Mp hb1 (S.tm rfl) (S.tm rfl)) rfl fun a S=>Dl (⟨hk3,S.nf [true] rfl (subR rfl)⟩))
 clear S;rintro a w3 ⟨hk4,S⟩
 refine Vm S rfl rfl fun a S=>Iy 5 (fun a w'=>Keep [] w3 w' ∧ Sx w [] nov [.blk b1 (Uk.enc Cl) 30] [(18,bV (((!(Dt Cl.Size 1 10)) || (!(Dt Cl.Many 1 5))) || (!(Dt Cl.Reserves 0 10))))] 19 a w') ?_ ?_
 ·rcases Bool.eq_false_or_eq_true ((!(Dt Cl.Size 1 10)) || (!(Dt Cl.Many 1 5))) with hb2 | hb2
  ·iterate 4 (refine Ht S rfl rfl rfl (Oa hb2) rfl ?_ rfl;clear S;intro a S)
   exact lv S (Mo (!(Dt Cl.Reserves 0 10)) hb2 (S.tm rfl) rfl) rfl fun a S=>Dl (⟨Keep.refl _ _,S.nf [true] rfl ⟨rfl,trivial⟩⟩)
  ·refine Dy S rfl rfl rfl hb2 (Vf fa_30_2 S rfl rfl fun a S=>Dy S rfl rfl rfl hb2 (Vl isAgg3 0 S rfl rfl rfl rfl fun a S=>Dy S rfl rfl rfl hb2 (Eb S (fun _=>Dq (vs:=[iV Cl.Reserves,iV 0,iV 10]) ⟨(S.tm rfl),rfl,rfl,trivial⟩ call79) (Gj _ Cl.Reserves 0 10 _ rfl) rfl ?_)));clear S;intro v3 a w6 hv3 hk5 hn3 S
   subst hv3
   exact Dy S rfl rfl rfl hb2 (Vu S Ih rfl rfl fun a S=>lv S (Mp hb2 (S.tm rfl) (S.tm rfl)) rfl fun a S=>Dl (⟨hk5,S.nf [true] rfl ⟨rfl,trivial⟩⟩))
 clear S;rintro a w5 ⟨hk6,S⟩
 refine Dl (Fc h (S.tm rfl) (fun hb3 h=>?_) (fun hb3 h=>?_))
 ·refine Fr (Vk S rfl rfl fun a S=>Dl (wp_ret (Dv ?_)))
  subst h
  exact Et S results116 rfl rfl
 ·refine wp_skip (Tn (Fr (Vk S rfl rfl fun a S=>Dl (wp_ret ?_))))
  subst h
  exact Et S results116 rfl rfl
theorem GF (w : World) (Ad : Jr) (Cc : R32) (Cj : Tt (view w []) Ad Cc) (r : Int) (h : Uw Ad = some r) :
    Calls prog 71 [.agg (R32.enc Cc).toArray].toArray w (Ret w [] fun _ v _=>v = iV r):=by
 obtain ⟨u1,u2,rfl,hs1,⟨u3,rfl,hs2⟩⟩:=Cj
 refine Fe func71 rfl ntmps71 rfl fun a S=>?_
 unfold Uw at h
 replace S:=S.k1 0 rfl
 refine Fr (Lw S (S.tm rfl) (cs:=[u1.val,u3.val,iV Ad.Table.Relay,iV Ad.Table.Most,iV Ad.Final.Size,iV Ad.Final.Many,iV Ad.Final.Reserves]) rfl rfl ?_);clear S;intro a w1 b1 hz1 hk1 S
 refine Vk S rfl rfl fun a S=>Dl (Fs (Fr (Vf Yu S rfl rfl fun a S=>Vl isAgg26 0 S rfl rfl rfl rfl fun a S=>lv S (Gi Sh (S.tm rfl) (Gf hs1)) rfl fun a S=>Vq S Kb rfl rfl rfl fun a S=>Ld ?_)))
 refine Tn (Fc h (S.tm rfl) (fun hb1 h=>?_) (fun hb1 h=>?_))
 ·refine Fr (Vk S rfl rfl fun a S=>Dl (wp_ret (Dv ?_)))
  obtain rfl:=Option.some.inj h
  exact Et S results71 rfl rfl
 ·refine wp_skip (Tn (Fs (Fr (Vf Yu S rfl rfl fun a S=>Vl isAgg26 0 S rfl rfl rfl rfl fun a S=>lv S (Gi Sh (S.tm rfl) (Gf hs1)) rfl fun a S=>lv S (Rm rfl) rfl fun a S=>Dl ?_))))
  replace S:=(S.nl [.blk b1 [u1.val,u3.val,iV Ad.Table.Relay,iV Ad.Table.Most,iV Ad.Final.Size,iV Ad.Final.Many,iV Ad.Final.Reserves] 32] [true] rfl).k4 1 12 13 14 rfl
  obtain ⟨j1,hj1,h⟩:=Eu h
  refine Eh (fun a w'=>j1 = some r ∧ Sx w [] nov [.blk b1 [u1.val,u3.val,iV Ad.Table.Relay,iV Ad.Table.Most,iV Ad.Final.Size,iV Ad.Final.Many,iV Ad.Final.Reserves] 32] [(1,.pointer (some ⟨b1,0,none⟩))] 40 a w') ?_ ?_
  ·refine wp_block (Gr (fun (ys1 : List Du) a w'=>∃ i1 : Nat,(∃ dn,Ad.Races = dn ++ ys1 ∧ dn.length = i1) ∧ Mh Ad j1 ys1 i1 = some r ∧ Sx w [] nov [.blk b1 [u1.val,u3.val,iV Ad.Table.Relay,iV Ad.Table.Most,iV Ad.Final.Size,iV Ad.Final.Many,iV Ad.Final.Reserves] 32] [(1,.pointer (some ⟨b1,0,none⟩)),(12,u1.val),(13,iV (Ad.Races.length : Int)),(14,iV (i1 : Int))] 40 a w') List.length Ad.Races ⟨0,⟨[],rfl,rfl⟩,h,S.nf [true] rfl (subR rfl)⟩ ?_)
   clear S h;rintro ys1 a w2 ⟨i1,⟨dn,hd1,hi1⟩,h,S⟩
   cases ys1 with
   | nil =>
    rw [Mh.eq_1] at h
    refine Fr (Vb S Es rfl rfl rfl fun a S=>Ld ?_)
    replace S:=S.k5 1 12 13 14 15 rfl
    exact Tn (Fs (wp_cond_false ((S.tm rfl).trans (congrArg Value.bool (Jd hd1 hi1))) (wp_exit (Ed (Ed (Gn (Tn (⟨h,S.nf [true] rfl ⟨rfl,trivial⟩⟩))))))))
   | cons y1 ys1 =>
    rw [Mh.eq_2] at h
    refine Fr (Vb S Es rfl rfl rfl fun a S=>Ld ?_)
    replace S:=S.k5 1 12 13 14 15 rfl
    refine Tn (Fs (wp_cond_true ((S.tm rfl).trans (congrArg Value.bool (Ia hd1 hi1))) (wp_skip (Tn (Fs (wp_block (Fr (Vm S rfl rfl ?_))))))));clear S;intro a S
    obtain ⟨b2,o1,hm1,hr1⟩:=Fk (a:=a) (x:=.tmp 12) (y:=.tmp 14) (ty:=0) Sh hs1 (Jc hd1 hi1) rfl (S.tm rfl) (S.tm rfl)
    refine lv S (hr1 _) rfl ?_;clear S;intro a S
    clear hr1
    refine lv S (Fb isAgg40 sizeOf40 (off:=o1) (o:=0) (part:=(Du.enc y1)) rfl rfl (S.tm rfl) (hm1.at S.emb0)) rfl fun a S=>Hq S zeroValue40 (cs:=[sV An,iV 0,iV 0,iV 0,iV 0,iV 0,iV 0,iV 0]) rfl rfl ?_;clear S;intro a w4 b3 hz2 hk2 S
    refine Va S rfl rfl fun a S=>Ex S (S.tm rfl) (S.tm rfl) (i:=0) (off:=0) rfl sizeOf40 (vs:=(Du.enc y1)) rfl rfl rfl rfl ?_;clear S;intro w5 hk3 S
    refine Dl (Fs (Fr (lv S (Fb isAgg40 sizeOf40 (off:=0) (o:=0) (part:=(Du.enc y1)) rfl rfl (S.tm rfl) (S.cellsAt (i:=0) rfl)) rfl ?_)));clear S;intro a S
    obtain ⟨r1,hr2,h⟩:=Fa h
    refine Eb S (fun _=>Dq (vs:=[.agg (Du.enc y1).toArray]) ⟨(S.tm rfl),trivial⟩ call113) (EJ _ y1 _ hr2) rfl ?_;clear S;intro v1 a w6 hv1 hk4 hn1 S
    subst hv1
    refine Va S rfl rfl fun a S=>Dz (Vm S rfl rfl fun a S=>Vq S Mn rfl rfl rfl fun a S=>Ld ?_)
    replace S:=(S.nl [.blk b3 (Du.enc y1) 40,.blk b1 [u1.val,u3.val,iV Ad.Table.Relay,iV Ad.Table.Most,iV Ad.Final.Size,iV Ad.Final.Many,iV Ad.Final.Reserves] 32] [true,true] rfl).k8 1 3 4 5 12 13 14 22 rfl
    refine Tn (Fc h (S.tm rfl) (fun hb2 h=>?_) (fun hb2 h=>?_))
    ·refine Fr (Vm S rfl rfl fun a S=>Va S rfl rfl fun a S=>Dl (wp_ret (Dv (Gq (Dv (Dv ?_))))))
     refine Gq (Dv (Dv ?_))
     obtain rfl:=Option.some.inj h
     exact Et S results71 rfl rfl
    ·refine wp_skip (Tn (Fr (Vf Yu S rfl rfl fun a S=>Vl isAgg26 1 S rfl rfl rfl rfl fun a S=>Vm S rfl rfl ?_)));clear S;intro a S
     obtain ⟨hc1,h⟩:=Ig h
     obtain ⟨v2,hs3,hr3⟩:=OT (a:=a) (x:=.tmp 25) (y':=.tmp 26) (ty:=26) Sh hs1 (S.tm rfl) (S.tm rfl) hc1
     refine lv S (hr3 _) rfl ?_;clear S;intro a S
     clear hr3
     refine lv S (Tk (us:=#[]) (xs:=[].toArray) (ys:=[.tmp 4].toArray) (by simp) (evA ⟨(S.tm rfl),trivial⟩ (vs:=[.pointer (some ⟨b3,0,none⟩)]))) rfl fun a S=>Eb S (fun _=>Dq (vs:=[v2,.func (.func 115) #[] #[.pointer (some ⟨b3,0,none⟩)]]) ⟨(S.tm rfl),(S.tm rfl),trivial⟩ call114) (Su _ v2 (cut Ad.Races 0 (i1 : Int)) (hs3.mono (S.le_arg Eg)) b3 y1 (S.blk_view (i:=0) rfl ((Hg (e':=.blk b3 (Du.enc y1) 40)) _ rfl)) _ rfl) rfl ?_;clear S;intro v3 a w7 hv2 hk5 hn2 S
     subst hv2
     refine Dl (Fc h (S.tm rfl) (fun hb3 h=>?_) (fun hb3 h=>?_))
     ·refine Fr (Vk S rfl rfl fun a S=>Ld ?_)
      replace S:=S.n0.k1 2 rfl
      refine Tn (wp_ret (Gq (Dv (Dv (Gq (Dv (Dv ?_)))))))
      obtain rfl:=Option.some.inj h
      exact Et S results71 rfl rfl
     ·refine wp_skip (Hp (Tn (Fg (Vq S Gc rfl rfl rfl fun a S=>Vm S rfl rfl fun a S=>Ld ?_))))
      replace S:=S.d0.k4 1 12 13 14 rfl
      exact Tn (⟨ys1,⟨i1 + 1,⟨_,(hd1).trans (List.append_cons _ _ _),by simp [hi1]⟩,h,S.nf [true] rfl ⟨rfl,rfl,rfl,(congrArg (fun z=>some (Value.int .i64 z)) (Ib hd1 hi1 (Jp hs1))),trivial⟩⟩,Nat.lt_succ_self _⟩)
  clear S h;rintro a w3 ⟨h,S⟩;rw [hj1] at h;clear hj1 j1
  refine Tn (Fs (Fr (Vf NO S rfl rfl fun a S=>lv S (Fb isAgg28 sizeOf28 (off:=0) (o:=1) (part:=[u3.val,iV Ad.Table.Relay,iV Ad.Table.Most]) rfl rfl (S.tm rfl) (S.cellsAt (i:=0) rfl)) rfl ?_)));clear S;intro a S
  obtain ⟨r2,hr4,h⟩:=Fa h
  refine Eb S (fun _=>Dq (vs:=[.agg (R28.enc (R28.mk u3 Ad.Table.Relay Ad.Table.Most)).toArray]) ⟨(S.tm rfl),trivial⟩ call64) (Yk _ Ad.Table (R28.mk u3 Ad.Table.Relay Ad.Table.Most) ⟨u3,rfl,(hs2.mono (S.le_arg Eg))⟩ _ hr4) rfl ?_;clear S;intro v4 a w8 hv3 hk6 hn3 S
  subst hv3
  refine Va S rfl rfl fun a S=>Dz (Vm S rfl rfl fun a S=>Vq S Mn rfl rfl rfl fun a S=>Dl (Fc h (S.tm rfl) (fun hb4 h=>?_) (fun hb4 h=>?_)))
  ·refine Fr (Vm S rfl rfl fun a S=>Va S rfl rfl fun a S=>Dl (wp_ret (Dv ?_)))
   obtain rfl:=Option.some.inj h
   exact Et S results71 rfl rfl
  ·refine wp_skip (Tn (Fr (Vf fa_32_2 S rfl rfl fun a S=>lv S (Fb isAgg30 sizeOf30 (off:=0) (o:=4) (part:=(Uk.enc Ad.Final)) rfl rfl (S.tm rfl) (S.cellsAt (i:=0) rfl)) rfl fun a S=>Eb S (fun _=>Dq (vs:=[.agg (Uk.enc Ad.Final).toArray]) ⟨(S.tm rfl),trivial⟩ call116) (FI _ Ad.Final _ rfl) rfl ?_)));clear S;intro v5 a w9 hv4 hk7 hn4 S
   subst hv4
   refine Va S rfl rfl fun a S=>Dl (wp_ret ?_)
   obtain rfl:=Option.some.inj h
   exact Et S results71 rfl rfl
theorem Xh (w : World) (Bb : Int) (r : Bool) (h : Jb Bb = r) :
    Calls prog 73 [iV Bb].toArray w (Ret w [] fun _ v _=>v = bV r):=by
 refine Fe func73 rfl ntmps73 rfl fun a S=>?_
 unfold Jb at h
 replace S:=S.k1 0 rfl
 refine Fr (Vk S rfl rfl fun a S=>Dz (Vm S rfl rfl fun a S=>Vq S Rl rfl rfl rfl fun a S=>Vm S rfl rfl fun a S=>Iy 3 (fun a w'=>Keep [] w w' ∧ Sx w [] nov [] [(8,bV ((decide (0 ≤ Bb)) && (decide (Bb < 345686400000))))] 9 a w') ?_ ?_))
 ·rcases Bool.eq_false_or_eq_true (decide (0 ≤ Bb)) with hb1 | hb1
  ·exact Dy S rfl rfl rfl hb1 (Vm S rfl rfl fun a S=>Dy S rfl rfl rfl hb1 (Vq S Es rfl rfl rfl fun a S=>lv S (Io hb1 (S.tm rfl) (S.tm rfl)) rfl fun a S=>Dl (⟨Keep.refl _ _,S.nf [] rfl ⟨rfl,trivial⟩⟩)))
  ·exact Ht S rfl rfl rfl (Kp hb1) rfl (fun a S=>Ht S rfl rfl rfl (Kp hb1) rfl (fun a S=>lv S (Ip (decide (Bb < 345686400000)) hb1 (S.tm rfl) rfl) rfl fun a S=>Dl (⟨Keep.refl _ _,S.nf [] rfl ⟨rfl,trivial⟩⟩)) rfl) rfl
 clear S;rintro a w1 ⟨hk1,S⟩
 refine Va S rfl rfl fun a S=>Dl (wp_ret ?_)
 subst h
 exact Et S results73 rfl rfl
set_option maxRecDepth 20000 in
theorem GG (w : World) (Ab : Di) (r : Int) (h : Rt Ab = some r) :
    Calls prog 117 [.agg (Di.enc Ab).toArray].toArray w (Ret w [] fun _ v _=>v = iV r):=by
 refine Fe func117 rfl ntmps117 rfl fun a S=>?_
 unfold Rt at h
 replace S:=S.k1 0 rfl
 refine Fr (Lw S (S.tm rfl) (cs:=(Di.enc Ab)) rfl rfl ?_);clear S;intro a w1 b1 hz1 hk1 S
 refine Vk S rfl rfl fun a S=>Dl (Fs (wp_block (Fr (Vf Qw S rfl rfl fun a S=>Vl isAgg9 0 S rfl rfl rfl rfl ?_))));clear S;intro a S
 obtain ⟨r1,hr1,h⟩:=Fa h
 refine Eb S (fun _=>Dq (vs:=[sV Ab.Site]) ⟨(S.tm rfl),trivial⟩ call106) (Mf _ Ab.Site _ hr1) rfl ?_;clear S;intro v1 a w2 hv1 hk2 hn1 S
 subst hv1
 refine Vu S Ih rfl rfl fun a S=>Va S rfl rfl fun a S=>Dl (Fc h (S.tm rfl) (fun hb1 h=>?_) (fun hb1 h=>?_))
 ·refine Fr (Vk S rfl rfl fun a S=>Dl (wp_ret (Gq (Dv ?_))))
  obtain rfl:=Option.some.inj h
  exact Et S results117 rfl rfl
 ·refine Fr (Vf Tg S rfl rfl fun a S=>Vl isAgg3 0 S rfl rfl rfl rfl fun a S=>Eb S (fun _=>Dq (vs:=[iV Ab.No,iV 1,iV 1000000]) ⟨(S.tm rfl),rfl,rfl,trivial⟩ call79) (Gj _ Ab.No 1 1000000 _ rfl) rfl ?_);clear S;intro v2 a w3 hv2 hk3 hn2 S
  subst hv2
  refine Vu S Ih rfl rfl fun a S=>Vm S rfl rfl fun a S=>Iy 5 (fun a w'=>Keep [] w3 w' ∧ Sx w [] nov [.blk b1 (Di.enc Ab) 102] [(1,.pointer (some ⟨b1,0,none⟩)),(22,bV ((!(Dt Ab.No 1 1000000)) || (!(Jb Ab.At))))] 152 a w') ?_ ?_
  ·rcases Bool.eq_false_or_eq_true (!(Dt Ab.No 1 1000000)) with hb2 | hb2
   ·iterate 4 (refine Ht S rfl rfl rfl (Oa hb2) rfl ?_ rfl;clear S;intro a S)
    exact lv S (Mo (!(Jb Ab.At)) hb2 (S.tm rfl) rfl) rfl fun a S=>Dl (⟨Keep.refl _ _,S.nf [true] rfl (subR rfl)⟩)
   ·refine Dy S rfl rfl rfl hb2 (Vf Uc S rfl rfl fun a S=>Dy S rfl rfl rfl hb2 (Vl isAgg3 0 S rfl rfl rfl rfl fun a S=>Dy S rfl rfl rfl hb2 (Eb S (fun _=>Dq (vs:=[iV Ab.At]) ⟨(S.tm rfl),trivial⟩ call73) (Xh _ Ab.At _ rfl) rfl ?_)));clear S;intro v3 a w5 hv3 hk4 hn3 S
    subst hv3
    exact Dy S rfl rfl rfl hb2 (Vu S Ih rfl rfl fun a S=>lv S (Mp hb2 (S.tm rfl) (S.tm rfl)) rfl fun a S=>Dl (⟨hk4,S.nf [true] rfl (subR rfl)⟩))
  clear S;rintro a w4 ⟨hk5,S⟩
  refine Va S rfl rfl fun a S=>Dl (Fc h (S.tm rfl) (fun hb3 h=>?_) (fun hb3 h=>?_))
  ·refine Fr (Vk S rfl rfl fun a S=>Dl (wp_ret (Gq (Dv ?_))))
   obtain rfl:=Option.some.inj h
   exact Et S results117 rfl rfl
  ·refine Fr (Vf Pl S rfl rfl fun a S=>Vl isAgg3 0 S rfl rfl rfl rfl fun a S=>Eb S (fun _=>Dq (vs:=[iV Ab.Kind,iV 1,iV 4]) ⟨(S.tm rfl),rfl,rfl,trivial⟩ call79) (Gj _ Ab.Kind 1 4 _ rfl) rfl ?_);clear S;intro v4 a w6 hv4 hk6 hn4 S
   subst hv4
   refine Vu S Ih rfl rfl fun a S=>Va S rfl rfl fun a S=>Dl (Fc h (S.tm rfl) (fun hb4 h=>?_) (fun hb4 h=>?_))
   ·refine Fr (Vk S rfl rfl fun a S=>Dl (wp_ret (Gq (Dv ?_))))
    obtain rfl:=Option.some.inj h
    exact Et S results117 rfl rfl
   ·refine wp_skip (Hp (Tn (Fs (Gt [] ([]) Tryz.mixed S rfl (by kernel_rfl) ?_))));clear S;intro w7 hk7 hsel S
    refine Li [0,1,2,3,4,5,6,7,8,9,10,11] hsel (by kernel_rfl) rfl ?_
    clear hsel
    refine Gp S rfl (Gd Pl (S.tm rfl)) rfl fun a S=>Gp S rfl (Nf isAgg3 (S.tm rfl) (S.cell (i:=0) rfl rfl)) rfl fun a S=>Gp S rfl (Jk (S.tm rfl) rfl) rfl fun a S=>Gp S rfl (Gd Pl (S.tm rfl)) rfl fun a S=>Gp S rfl (Nf isAgg3 (S.tm rfl) (S.cell (i:=0) rfl rfl)) rfl fun a S=>Gp S rfl (Jk (S.tm rfl) rfl) rfl fun a S=>Gp S rfl (Gd Pl (S.tm rfl)) rfl fun a S=>Gp S rfl (Nf isAgg3 (S.tm rfl) (S.cell (i:=0) rfl rfl)) rfl fun a S=>Gp S rfl (Jk (S.tm rfl) rfl) rfl ?_;clear S;intro a S
    iterate 3 (refine Gp S rfl (Ra (S.tm rfl)) rfl ?_;clear S;intro a S)
    refine Ij ?_
    replace S:=(S.nl [.blk b1 (Di.enc Ab) 102] [true] rfl).k4 1 3 4 5 rfl
    refine Tn (Fs (wp_block (Fs (Fr (Vm S rfl rfl fun a S=>Vu S Ih rfl rfl fun a S=>Vm S rfl rfl ?_)))));clear S;intro a S
    obtain ⟨j1,hj1,h⟩:=Eu h
    refine Iy 11 (fun a w'=>∃ c1,j1 c1 = some r ∧ Keep [] w7 w' ∧ Sx w [] nov [.blk b1 (Di.enc Ab) 102] [(1,.pointer (some ⟨b1,0,none⟩)),(3,bV (decide (Ab.Kind = 1))),(4,bV (decide (Ab.Kind = 3))),(5,bV (decide (Ab.Kind = 4))),(51,bV c1)] 152 a w') ?_ ?_
    ·rcases Bool.eq_false_or_eq_true (!(decide (Ab.Kind = 4))) with hb5 | hb5
     ·replace h:=Ti h hb5
      refine Dy S rfl rfl rfl hb5 (Vf Oh S rfl rfl fun a S=>Dy S rfl rfl rfl hb5 (Vl isAgg9 0 S rfl rfl rfl rfl fun a S=>Dy S rfl rfl rfl hb5 ?_))
      obtain ⟨r2,hr2,h⟩:=Fa h
      refine Eb S (fun _=>Dq (vs:=[sV Ab.Who]) ⟨(S.tm rfl),trivial⟩ call106) (Mf _ Ab.Who _ hr2) rfl ?_;clear S;intro v5 a w9 hv5 hk8 hn5 S
      subst hv5
      refine Dy S rfl rfl rfl hb5 (Vu S Ih rfl rfl fun a S=>Dy S rfl rfl rfl hb5 (Vm S rfl rfl ?_));clear S;intro a S
      obtain ⟨j2,hj2,h⟩:=Eu h
      refine Iy 5 (fun a w'=>∃ c2,j2 c2 = some r ∧ Keep [] w9 w' ∧ Sx w [] nov [.blk b1 (Di.enc Ab) 102] [(1,.pointer (some ⟨b1,0,none⟩)),(3,bV (decide (Ab.Kind = 1))),(4,bV (decide (Ab.Kind = 3))),(5,bV (decide (Ab.Kind = 4))),(40,bV (!(decide (Ab.Kind = 4)))),(50,bV c2)] 152 a w') ?_ ?_
      ·rcases Bool.eq_false_or_eq_true (!r2) with hb6 | hb6
       ·replace h:=Ti h hb6
        iterate 4 (refine Ht S rfl rfl rfl (Oa hb6) rfl ?_ rfl;clear S;intro a S)
        exact Dy S rfl rfl rfl hb5 (Vq S (Mo true hb6) rfl rfl rfl fun a S=>Dl (⟨_,h,Keep.refl _ _,S.nf [true] rfl (subR rfl)⟩))
       ·replace h:=Tj h hb6
        refine Dy S rfl rfl rfl hb6 (Vf Sj S rfl rfl fun a S=>Dy S rfl rfl rfl hb6 (Vl isAgg9 0 S rfl rfl rfl rfl fun a S=>Dy S rfl rfl rfl hb6 ?_))
        obtain ⟨r3,hr3,h⟩:=Fa h
        refine Eb S (fun _=>Dq (vs:=[sV Ab.Race]) ⟨(S.tm rfl),trivial⟩ call106) (Mf _ Ab.Race _ hr3) rfl ?_;clear S;intro v6 a w11 hv6 hk9 hn6 S
        subst hv6
        exact Dy S rfl rfl rfl hb6 (Vu S Ih rfl rfl fun a S=>Dy S rfl rfl rfl hb5 (lv S (Mp hb6 (S.tm rfl) (S.tm rfl)) rfl fun a S=>Dl (⟨_,h,hk9,S.nf [true] rfl (subR rfl)⟩)))
      clear S h;rintro a w10 ⟨c2,h,hk10,S⟩;rw [hj2] at h;clear hj2 j2
      exact lv S (Io hb5 (S.tm rfl) (S.tm rfl)) rfl fun a S=>Dl (⟨_,h,(hk8).trans hk10,S.nf [true] rfl (subR rfl)⟩)
     ·replace h:=Tj h hb5
      iterate 5 (refine Ht S rfl rfl rfl (Kp hb5) rfl ?_ rfl;clear S;intro a S)
      iterate 4 (refine FV S rfl rfl rfl rfl ?_;clear S;intro a S)
      exact Ht S rfl rfl rfl (Kp hb5) rfl (fun a S=>Vq S (Ip true hb5) rfl rfl rfl fun a S=>Dl (⟨_,h,Keep.refl _ _,S.nf [true] rfl (subR rfl)⟩)) rfl
    clear S h;rintro a w8 ⟨c1,h,hk11,S⟩;rw [hj1] at h;clear hj1 j1
    refine Va S rfl rfl fun a S=>Dl ?_
    obtain ⟨j3,hj3,h⟩:=Eu h
    refine Eh (fun a w'=>∃ x1 : Bool,j3 x1 = some r ∧ Sx w [] nov [.blk b1 (Di.enc Ab) 102] [(1,.pointer (some ⟨b1,0,none⟩)),(3,bV (decide (Ab.Kind = 1))),(4,bV (decide (Ab.Kind = 3))),(5,bV (decide (Ab.Kind = 4))),(37,bV x1)] 152 a w') ?_ ?_
    ·refine Fc h (S.tm rfl) (fun hb7 h=>?_) (fun hb7 h=>?_)
     ·exact wp_skip (Tn (⟨c1,h,S.nf [true] rfl (subR rfl)⟩))
     ·refine Fg (Vm S rfl rfl fun a S=>Vm S rfl rfl fun a S=>Iy 4 (fun a w'=>Keep [] w8 w' ∧ Sx w [] nov [.blk b1 (Di.enc Ab) 102] [(1,.pointer (some ⟨b1,0,none⟩)),(3,bV (decide (Ab.Kind = 1))),(4,bV (decide (Ab.Kind = 3))),(5,bV (decide (Ab.Kind = 4))),(57,bV ((decide (Ab.Kind = 1)) && (!decide (Ab.Club = An))))] 152 a w') ?_ ?_)
      ·rcases Bool.eq_false_or_eq_true (decide (Ab.Kind = 1)) with hb8 | hb8
       ·exact Dy S rfl rfl rfl hb8 (Vf Si S rfl rfl fun a S=>Dy S rfl rfl rfl hb8 (Vl isAgg9 0 S rfl rfl rfl rfl fun a S=>Dy S rfl rfl rfl hb8 (Vq S Zv rfl rfl rfl fun a S=>lv S (Io hb8 (S.tm rfl) (S.tm rfl)) rfl fun a S=>Dl (⟨Keep.refl _ _,S.nf [true] rfl (subR rfl)⟩))))
       ·iterate 3 (refine Ht S rfl rfl rfl (Kp hb8) rfl ?_ rfl;clear S;intro a S)
        exact lv S (Ip (!decide (Ab.Club = An)) hb8 (S.tm rfl) rfl) rfl fun a S=>Dl (⟨Keep.refl _ _,S.nf [true] rfl (subR rfl)⟩)
      clear S;rintro a w13 ⟨hk12,S⟩
      refine Vm S rfl rfl ?_;clear S;intro a S
      obtain ⟨j4,hj4,h⟩:=Eu h
      refine Iy 5 (fun a w'=>∃ c3,j4 c3 = some r ∧ Keep [] w13 w' ∧ Sx w [] nov [.blk b1 (Di.enc Ab) 102] [(1,.pointer (some ⟨b1,0,none⟩)),(3,bV (decide (Ab.Kind = 1))),(4,bV (decide (Ab.Kind = 3))),(5,bV (decide (Ab.Kind = 4))),(63,bV c3)] 152 a w') ?_ ?_
      ·rcases Bool.eq_false_or_eq_true ((decide (Ab.Kind = 1)) && (!decide (Ab.Club = An))) with hb9 | hb9
       ·replace h:=Ti h hb9
        refine Dy S rfl rfl rfl hb9 (Vf Si S rfl rfl fun a S=>Dy S rfl rfl rfl hb9 (Vl isAgg9 0 S rfl rfl rfl rfl fun a S=>Dy S rfl rfl rfl hb9 ?_))
        obtain ⟨r4,hr4,h⟩:=Fa h
        refine Eb S (fun _=>Dq (vs:=[sV Ab.Club]) ⟨(S.tm rfl),trivial⟩ call106) (Mf _ Ab.Club _ hr4) rfl ?_;clear S;intro v7 a w15 hv7 hk13 hn7 S
        subst hv7
        exact Dy S rfl rfl rfl hb9 (Vu S Ih rfl rfl fun a S=>lv S (Io hb9 (S.tm rfl) (S.tm rfl)) rfl fun a S=>Dl (⟨_,h,hk13,S.nf [true] rfl (subR rfl)⟩))
       ·replace h:=Tj h hb9
        iterate 4 (refine Ht S rfl rfl rfl (Kp hb9) rfl ?_ rfl;clear S;intro a S)
        exact Vq S (Ip true hb9) rfl rfl rfl fun a S=>Dl (⟨_,h,Keep.refl _ _,S.nf [true] rfl (subR rfl)⟩)
      clear S h;rintro a w14 ⟨c3,h,hk14,S⟩;rw [hj4] at h;clear hj4 j4
      exact Va S rfl rfl fun a S=>Dl (⟨c3,h,S.nf [true] rfl (subR rfl)⟩)
    clear S h;rintro a w12 ⟨x1,h,S⟩;rw [hj3] at h;clear hj3 j3
    refine Tn (Fc h (S.tm rfl) (fun hb10 h=>?_) (fun hb10 h=>?_))
    ·refine Fr (Vk S rfl rfl fun a S=>Dl (wp_ret (Gq (Dv ?_))))
     obtain rfl:=Option.some.inj h
     exact Et S results117 rfl rfl
    ·refine Fs (Fr (Vm S rfl rfl fun a S=>Vm S rfl rfl fun a S=>Iy 2 (fun a w'=>Keep [] w12 w' ∧ Sx w [] nov [.blk b1 (Di.enc Ab) 102] [(1,.pointer (some ⟨b1,0,none⟩)),(3,bV (decide (Ab.Kind = 1))),(4,bV (decide (Ab.Kind = 3))),(5,bV (decide (Ab.Kind = 4))),(68,bV ((decide (Ab.Kind = 1)) || (decide (Ab.Kind = 3))))] 152 a w') ?_ ?_))
     ·rcases Bool.eq_false_or_eq_true (decide (Ab.Kind = 1)) with hb11 | hb11
      ·exact Ht S rfl rfl rfl (Oa hb11) rfl (fun a S=>lv S (Mo (decide (Ab.Kind = 3)) hb11 (S.tm rfl) rfl) rfl fun a S=>Dl (⟨Keep.refl _ _,S.nf [true] rfl (subR rfl)⟩)) rfl
      ·exact Dy S rfl rfl rfl hb11 (Vm S rfl rfl fun a S=>lv S (Mp hb11 (S.tm rfl) (S.tm rfl)) rfl fun a S=>Dl (⟨Keep.refl _ _,S.nf [true] rfl (subR rfl)⟩))
     clear S;rintro a w16 ⟨hk15,S⟩
     refine Vm S rfl rfl fun a S=>Iy 5 (fun a w'=>Keep [] w16 w' ∧ Sx w [] nov [.blk b1 (Di.enc Ab) 102] [(1,.pointer (some ⟨b1,0,none⟩)),(3,bV (decide (Ab.Kind = 1))),(4,bV (decide (Ab.Kind = 3))),(5,bV (decide (Ab.Kind = 4))),(74,bV (((decide (Ab.Kind = 1)) || (decide (Ab.Kind = 3))) && (!(Dt Ab.Time 0 360000))))] 152 a w') ?_ ?_
     ·rcases Bool.eq_false_or_eq_true ((decide (Ab.Kind = 1)) || (decide (Ab.Kind = 3))) with hb12 | hb12
      ·refine Dy S rfl rfl rfl hb12 (Vf Ud S rfl rfl fun a S=>Dy S rfl rfl rfl hb12 (Vl isAgg3 0 S rfl rfl rfl rfl fun a S=>Dy S rfl rfl rfl hb12 (Eb S (fun _=>Dq (vs:=[iV Ab.Time,iV 0,iV 360000]) ⟨(S.tm rfl),rfl,rfl,trivial⟩ call79) (Gj _ Ab.Time 0 360000 _ rfl) rfl ?_)));clear S;intro v8 a w18 hv8 hk16 hn8 S
       subst hv8
       exact Dy S rfl rfl rfl hb12 (Vu S Ih rfl rfl fun a S=>lv S (Io hb12 (S.tm rfl) (S.tm rfl)) rfl fun a S=>Dl (⟨hk16,S.nf [true] rfl (subR rfl)⟩))
      ·iterate 4 (refine Ht S rfl rfl rfl (Kp hb12) rfl ?_ rfl;clear S;intro a S)
       exact lv S (Ip (!(Dt Ab.Time 0 360000)) hb12 (S.tm rfl) rfl) rfl fun a S=>Dl (⟨Keep.refl _ _,S.nf [true] rfl (subR rfl)⟩)
     clear S;rintro a w17 ⟨hk17,S⟩
     refine Va S rfl rfl fun a S=>Dl ?_
     obtain ⟨j5,hj5,h⟩:=Eu h
     refine Eh (fun a w'=>∃ x2 : Bool,j5 x2 = some r ∧ Sx w [] nov [.blk b1 (Di.enc Ab) 102] [(1,.pointer (some ⟨b1,0,none⟩)),(3,bV (decide (Ab.Kind = 1))),(4,bV (decide (Ab.Kind = 3))),(5,bV (decide (Ab.Kind = 4))),(64,bV x2)] 152 a w') ?_ ?_
     ·refine Fc h (S.tm rfl) (fun hb13 h=>?_) (fun hb13 h=>?_)
      ·exact wp_skip (Tn (⟨(((decide (Ab.Kind = 1)) || (decide (Ab.Kind = 3))) && (!(Dt Ab.Time 0 360000))),h,S.nf [true] rfl (subR rfl)⟩))
      ·refine Fg (Vm S rfl rfl fun a S=>Vm S rfl rfl fun a S=>Iy 5 (fun a w'=>Keep [] w17 w' ∧ Sx w [] nov [.blk b1 (Di.enc Ab) 102] [(1,.pointer (some ⟨b1,0,none⟩)),(3,bV (decide (Ab.Kind = 1))),(4,bV (decide (Ab.Kind = 3))),(5,bV (decide (Ab.Kind = 4))),(81,bV ((decide (Ab.Kind = 3)) && (!(Dt Ab.Fault 0 8))))] 152 a w') ?_ ?_)
       ·rcases Bool.eq_false_or_eq_true (decide (Ab.Kind = 3)) with hb14 | hb14
        ·refine Dy S rfl rfl rfl hb14 (Vf We S rfl rfl fun a S=>Dy S rfl rfl rfl hb14 (Vl isAgg3 0 S rfl rfl rfl rfl fun a S=>Dy S rfl rfl rfl hb14 (Eb S (fun _=>Dq (vs:=[iV Ab.Fault,iV 0,iV 8]) ⟨(S.tm rfl),rfl,rfl,trivial⟩ call79) (Gj _ Ab.Fault 0 8 _ rfl) rfl ?_)));clear S;intro v9 a w21 hv9 hk18 hn9 S
         subst hv9
         exact Dy S rfl rfl rfl hb14 (Vu S Ih rfl rfl fun a S=>lv S (Io hb14 (S.tm rfl) (S.tm rfl)) rfl fun a S=>Dl (⟨hk18,S.nf [true] rfl (subR rfl)⟩))
        ·iterate 4 (refine Ht S rfl rfl rfl (Kp hb14) rfl ?_ rfl;clear S;intro a S)
         exact lv S (Ip (!(Dt Ab.Fault 0 8)) hb14 (S.tm rfl) rfl) rfl fun a S=>Dl (⟨Keep.refl _ _,S.nf [true] rfl (subR rfl)⟩)
       clear S;rintro a w20 ⟨hk19,S⟩
       exact Va S rfl rfl fun a S=>Dl (⟨((decide (Ab.Kind = 3)) && (!(Dt Ab.Fault 0 8))),h,S.nf [true] rfl (subR rfl)⟩)
     clear S h;rintro a w19 ⟨x2,h,S⟩;rw [hj5] at h;clear hj5 j5
     refine Tn (Fc h (S.tm rfl) (fun hb15 h=>?_) (fun hb15 h=>?_))
     ·refine Fr (Vk S rfl rfl fun a S=>Dl (wp_ret (Gq (Dv ?_))))
      obtain rfl:=Option.some.inj h
      exact Et S results117 rfl rfl
     ·refine Fr (Vm S rfl rfl fun a S=>Vm S rfl rfl ?_);clear S;intro a S
      obtain ⟨j6,hj6,h⟩:=Eu h
      refine Iy 5 (fun a w'=>∃ c4,j6 c4 = some r ∧ Keep [] w19 w' ∧ Sx w [] nov [.blk b1 (Di.enc Ab) 102] [(1,.pointer (some ⟨b1,0,none⟩)),(3,bV (decide (Ab.Kind = 1))),(4,bV (decide (Ab.Kind = 3))),(5,bV (decide (Ab.Kind = 4))),(89,bV c4)] 152 a w') ?_ ?_
      ·rcases Bool.eq_false_or_eq_true (decide (Ab.Kind = 4)) with hb16 | hb16
       ·replace h:=Ti h hb16
        refine Dy S rfl rfl rfl hb16 (Vf Yj S rfl rfl fun a S=>Dy S rfl rfl rfl hb16 (Vl isAgg9 0 S rfl rfl rfl rfl fun a S=>Dy S rfl rfl rfl hb16 ?_))
        obtain ⟨r5,hr5,h⟩:=Fa h
        refine Eb S (fun _=>Dq (vs:=[sV Ab.Of]) ⟨(S.tm rfl),trivial⟩ call106) (Mf _ Ab.Of _ hr5) rfl ?_;clear S;intro v10 a w23 hv10 hk20 hn10 S
        subst hv10
        exact Dy S rfl rfl rfl hb16 (Vu S Ih rfl rfl fun a S=>lv S (Io hb16 (S.tm rfl) (S.tm rfl)) rfl fun a S=>Dl (⟨_,h,hk20,S.nf [true] rfl (subR rfl)⟩))
       ·replace h:=Tj h hb16
        iterate 4 (refine Ht S rfl rfl rfl (Kp hb16) rfl ?_ rfl;clear S;intro a S)
        exact Vq S (Ip true hb16) rfl rfl rfl fun a S=>Dl (⟨_,h,Keep.refl _ _,S.nf [true] rfl (subR rfl)⟩)
      clear S h;rintro a w22 ⟨c4,h,hk21,S⟩;rw [hj6] at h;clear hj6 j6
      refine Va S rfl rfl fun a S=>Dl (Fc h (S.tm rfl) (fun hb17 h=>?_) (fun hb17 h=>?_))
      ·refine Fr (Vk S rfl rfl fun a S=>Dl (wp_ret (Gq (Dv ?_))))
       obtain rfl:=Option.some.inj h
       exact Et S results117 rfl rfl
      ·refine Fr (Vm S rfl rfl fun a S=>Vm S rfl rfl fun a S=>Iy 5 (fun a w'=>Keep [] w22 w' ∧ Sx w [] nov [.blk b1 (Di.enc Ab) 102] [(1,.pointer (some ⟨b1,0,none⟩)),(3,bV (decide (Ab.Kind = 1))),(4,bV (decide (Ab.Kind = 3))),(5,bV (decide (Ab.Kind = 4))),(97,bV ((decide (Ab.Kind = 4)) && (!(Dt Ab.Other 1 1000000))))] 152 a w') ?_ ?_)
       ·rcases Bool.eq_false_or_eq_true (decide (Ab.Kind = 4)) with hb18 | hb18
        ·refine Dy S rfl rfl rfl hb18 (Vf Vs S rfl rfl fun a S=>Dy S rfl rfl rfl hb18 (Vl isAgg3 0 S rfl rfl rfl rfl fun a S=>Dy S rfl rfl rfl hb18 (Eb S (fun _=>Dq (vs:=[iV Ab.Other,iV 1,iV 1000000]) ⟨(S.tm rfl),rfl,rfl,trivial⟩ call79) (Gj _ Ab.Other 1 1000000 _ rfl) rfl ?_)));clear S;intro v11 a w25 hv11 hk22 hn11 S
         subst hv11
         exact Dy S rfl rfl rfl hb18 (Vu S Ih rfl rfl fun a S=>lv S (Io hb18 (S.tm rfl) (S.tm rfl)) rfl fun a S=>Dl (⟨hk22,S.nf [true] rfl (subR rfl)⟩))
        ·iterate 4 (refine Ht S rfl rfl rfl (Kp hb18) rfl ?_ rfl;clear S;intro a S)
         exact lv S (Ip (!(Dt Ab.Other 1 1000000)) hb18 (S.tm rfl) rfl) rfl fun a S=>Dl (⟨Keep.refl _ _,S.nf [true] rfl (subR rfl)⟩)
       clear S;rintro a w24 ⟨hk23,S⟩
       refine Va S rfl rfl fun a S=>Dl (Fc h (S.tm rfl) (fun hb19 h=>?_) (fun hb19 h=>?_))
       ·refine Fr (Vk S rfl rfl fun a S=>Dl (wp_ret (Gq (Dv ?_))))
        obtain rfl:=Option.some.inj h
        exact Et S results117 rfl rfl
       ·refine wp_skip (Hp (Tn (Fr (Vf Qw S rfl rfl fun a S=>Vl isAgg9 0 S rfl rfl rfl rfl fun a S=>Vf Tg S rfl rfl fun a S=>Vl isAgg3 0 S rfl rfl rfl rfl fun a S=>Vf Uc S rfl rfl fun a S=>Vl isAgg3 0 S rfl rfl rfl rfl ?_))));clear S;intro a S
        refine Vf Pl S rfl rfl fun a S=>Vl isAgg3 0 S rfl rfl rfl rfl fun a S=>lv S (Nl RJ (pv:=[(0,sV Ab.Site),(1,iV Ab.No),(2,iV Ab.At),(3,iV Ab.Kind)]) ⟨rfl,(S.tm rfl),rfl,(S.tm rfl),rfl,(S.tm rfl),rfl,(S.tm rfl),trivial⟩ (cs:=[sV Ab.Site,iV Ab.No,iV Ab.At,iV Ab.Kind,sV An,sV An,sV An,iV 0,iV 0,sV An,iV 0]) (by kernel_rfl)) rfl fun a S=>Hq S zeroValue102 (cs:=[sV An,iV 0,iV 0,iV 0,sV An,sV An,sV An,iV 0,iV 0,sV An,iV 0]) rfl rfl ?_;clear S;intro a w26 b2 hz2 hk24 S
        refine Ex S (S.tm rfl) (S.tm rfl) (i:=0) (off:=0) rfl sizeOf102 (vs:=(Di.enc (Di.mk Ab.Site Ab.No Ab.At Ab.Kind An An An 0 0 An 0))) rfl rfl rfl rfl ?_;clear S;intro w27 hk25 S
        refine Ld ?_
        replace S:=(S.nl [.blk b2 (Di.enc (Di.mk Ab.Site Ab.No Ab.At Ab.Kind An An An 0 0 An 0)) 102,.blk b1 (Di.enc Ab) 102] [true,true] rfl).k5 1 3 4 5 6 rfl
        refine Tn (Fs ?_)
        obtain ⟨j7,hj7,h⟩:=Eu h
        refine Eh (fun a w'=>∃ x3 : ByteArray,∃ x4 : ByteArray,∃ x5 : ByteArray,∃ x6 : Int,∃ x7 : Int,∃ x8 : ByteArray,∃ x9 : Int,j7 x3 x4 x5 x6 x7 x8 x9 = some r ∧ Sx w [] nov [.blk b2 (Di.enc (Di.mk Ab.Site Ab.No Ab.At Ab.Kind x3 x4 x5 x6 x7 x8 x9)) 102,.blk b1 (Di.enc Ab) 102] [(1,.pointer (some ⟨b1,0,none⟩)),(6,.pointer (some ⟨b2,0,none⟩))] 152 a w') ?_ ?_
        ·refine wp_block (Fr (Vm S rfl rfl fun a S=>Va S rfl rfl fun a S=>Dl ?_))
         obtain ⟨j8,hj8,h⟩:=Eu h
         refine Eh (fun a w'=>∃ x10 : ByteArray,∃ x11 : ByteArray,∃ x12 : ByteArray,∃ x13 : Int,∃ x14 : Int,∃ x15 : ByteArray,∃ x16 : Int,j8 x10 x11 x12 x13 x14 x15 x16 = some r ∧ Sx w [] nov [.blk b2 (Di.enc (Di.mk Ab.Site Ab.No Ab.At Ab.Kind x10 x11 x12 x13 x14 x15 x16)) 102,.blk b1 (Di.enc Ab) 102] [(1,.pointer (some ⟨b1,0,none⟩)),(6,.pointer (some ⟨b2,0,none⟩))] 152 a w') ?_ ?_
         ·refine Fc h (S.tm rfl) (fun hb20 h=>?_) (fun hb20 h=>?_)
          ·refine Gt [] ([b2]) Tryz.mixed S rfl (by kernel_rfl) ?_;clear S;intro w34 hk30 hsel S
           refine Ea 0 S hsel rfl rfl rfl (by kernel_rfl) (by kernel_rfl) rfl (fun _ hw=>(Gd Oh (S.tm rfl))) fun a S=>Ea 1 S hsel rfl rfl rfl (by kernel_rfl) (by kernel_rfl) rfl (fun _ hw=>(Hx isAgg9 (off:=0) (o:=4) (S.tm rfl) ((S.blk_mem (i:=1) (cells:=(Di.enc Ab)) (b:=b1) (T:=102) rfl (Nc (i:=0) (j:=1) (e:=.blk b2 (Di.enc (Di.mk Ab.Site Ab.No Ab.At Ab.Kind An An An 0 0 An 0)) 102) (e':=.blk b1 (Di.enc Ab) 102) S rfl rfl rfl)).kept hw) rfl)) fun a S=>Ea 2 S hsel rfl rfl rfl (by kernel_rfl) (by kernel_rfl) rfl (fun _ hw=>(Gd Si (S.tm rfl))) fun a S=>Ea 3 S hsel rfl rfl rfl (by kernel_rfl) (by kernel_rfl) rfl (fun _ hw=>(Hx isAgg9 (off:=0) (o:=5) (S.tm rfl) ((S.blk_mem (i:=1) (cells:=(Di.enc Ab)) (b:=b1) (T:=102) rfl (Nc (i:=0) (j:=1) (e:=.blk b2 (Di.enc (Di.mk Ab.Site Ab.No Ab.At Ab.Kind An An An 0 0 An 0)) 102) (e':=.blk b1 (Di.enc Ab) 102) S rfl rfl rfl)).kept hw) rfl)) fun a S=>Ea 4 S hsel rfl rfl rfl (by kernel_rfl) (by kernel_rfl) rfl (fun _ hw=>(Gd Sj (S.tm rfl))) fun a S=>Ea 5 S hsel rfl rfl rfl (by kernel_rfl) (by kernel_rfl) rfl (fun _ hw=>(Hx isAgg9 (off:=0) (o:=6) (S.tm rfl) ((S.blk_mem (i:=1) (cells:=(Di.enc Ab)) (b:=b1) (T:=102) rfl (Nc (i:=0) (j:=1) (e:=.blk b2 (Di.enc (Di.mk Ab.Site Ab.No Ab.At Ab.Kind An An An 0 0 An 0)) 102) (e':=.blk b1 (Di.enc Ab) 102) S rfl rfl rfl)).kept hw) rfl)) fun a S=>Ea 6 S hsel rfl rfl rfl (by kernel_rfl) (by kernel_rfl) rfl (fun _ hw=>(Gd Ud (S.tm rfl))) fun a S=>Ea 7 S hsel rfl rfl rfl (by kernel_rfl) (by kernel_rfl) rfl (fun _ hw=>(Hx isAgg3 (off:=0) (o:=7) (S.tm rfl) ((S.blk_mem (i:=1) (cells:=(Di.enc Ab)) (b:=b1) (T:=102) rfl (Nc (i:=0) (j:=1) (e:=.blk b2 (Di.enc (Di.mk Ab.Site Ab.No Ab.At Ab.Kind An An An 0 0 An 0)) 102) (e':=.blk b1 (Di.enc Ab) 102) S rfl rfl rfl)).kept hw) rfl)) ?_;clear S;intro a S
           refine Ea 8 S hsel rfl rfl rfl (by kernel_rfl) (by kernel_rfl) rfl (fun _ hw=>(Gd Oh (S.tm rfl))) fun a S=>Hb 9 (by kernel_rfl) rfl (Ex S (S.tm rfl) (S.tm rfl) (i:=0) (off:=4) rfl sizeOf9 (vs:=[sV Ab.Who]) rfl rfl rfl rfl ?_);clear S;intro w35 hk31 S
           refine Ld (Hy hk31 (Ea 10 S hsel rfl rfl rfl (by kernel_rfl) (by kernel_rfl) rfl (fun _ hw=>(Gd Si (S.tm rfl))) fun a S=>Hb 11 (by kernel_rfl) rfl (Ex S (S.tm rfl) (S.tm rfl) (i:=0) (off:=5) rfl sizeOf9 (vs:=[sV Ab.Club]) rfl rfl rfl rfl ?_)));clear S;intro w36 hk32 S
           refine Ld (Hy hk32 (Ea 12 S hsel rfl rfl rfl (by kernel_rfl) (by kernel_rfl) rfl (fun _ hw=>(Gd Sj (S.tm rfl))) fun a S=>Hb 13 (by kernel_rfl) rfl (Ex S (S.tm rfl) (S.tm rfl) (i:=0) (off:=6) rfl sizeOf9 (vs:=[sV Ab.Race]) rfl rfl rfl rfl ?_)));clear S;intro w37 hk33 S
           refine Ld (Hy hk33 (Ea 14 S hsel rfl rfl rfl (by kernel_rfl) (by kernel_rfl) rfl (fun _ hw=>(Gd Ud (S.tm rfl))) fun a S=>Hb 15 (by kernel_rfl) rfl (Ex S (S.tm rfl) (S.tm rfl) (i:=0) (off:=7) rfl sizeOf3 (vs:=[iV Ab.Time]) rfl rfl rfl rfl ?_)));clear S;intro w38 hk34 S
           refine Ld (Hy hk34 (Vt (by kernel_rfl) ?_))
           clear hsel
           replace S:=(S.nl [.blk b2 (Di.enc (Di.mk Ab.Site Ab.No Ab.At Ab.Kind Ab.Who Ab.Club Ab.Race Ab.Time 0 An 0)) 102,.blk b1 (Di.enc Ab) 102] [true,true] rfl).k2 1 6 rfl
           exact Tn (⟨Ab.Who,Ab.Club,Ab.Race,Ab.Time,0,An,0,h,S.nf [true,true] rfl (subR rfl)⟩)
          ·refine Fr (Vm S rfl rfl fun a S=>Va S rfl rfl fun a S=>Dl ?_)
           obtain ⟨j9,hj9,h⟩:=Eu h
           refine Eh (fun a w'=>∃ x17 : ByteArray,∃ x18 : ByteArray,∃ x19 : Int,∃ x20 : Int,∃ x21 : ByteArray,∃ x22 : Int,j9 x17 x18 x19 x20 x21 x22 = some r ∧ Sx w [] nov [.blk b2 (Di.enc (Di.mk Ab.Site Ab.No Ab.At Ab.Kind x17 An x18 x19 x20 x21 x22)) 102,.blk b1 (Di.enc Ab) 102] [(1,.pointer (some ⟨b1,0,none⟩)),(6,.pointer (some ⟨b2,0,none⟩))] 152 a w') ?_ ?_
           ·refine Fc h (S.tm rfl) (fun hb21 h=>?_) (fun hb21 h=>?_)
            ·refine Gt [] ([b2]) Tryz.mixed S rfl (by kernel_rfl) ?_;clear S;intro w44 hk39 hsel S
             refine Ea 0 S hsel rfl rfl rfl (by kernel_rfl) (by kernel_rfl) rfl (fun _ hw=>(Gd Oh (S.tm rfl))) fun a S=>Ea 1 S hsel rfl rfl rfl (by kernel_rfl) (by kernel_rfl) rfl (fun _ hw=>(Hx isAgg9 (off:=0) (o:=4) (S.tm rfl) ((S.blk_mem (i:=1) (cells:=(Di.enc Ab)) (b:=b1) (T:=102) rfl (Nc (i:=0) (j:=1) (e:=.blk b2 (Di.enc (Di.mk Ab.Site Ab.No Ab.At Ab.Kind An An An 0 0 An 0)) 102) (e':=.blk b1 (Di.enc Ab) 102) S rfl rfl rfl)).kept hw) rfl)) fun a S=>Ea 2 S hsel rfl rfl rfl (by kernel_rfl) (by kernel_rfl) rfl (fun _ hw=>(Gd Sj (S.tm rfl))) fun a S=>Ea 3 S hsel rfl rfl rfl (by kernel_rfl) (by kernel_rfl) rfl (fun _ hw=>(Hx isAgg9 (off:=0) (o:=6) (S.tm rfl) ((S.blk_mem (i:=1) (cells:=(Di.enc Ab)) (b:=b1) (T:=102) rfl (Nc (i:=0) (j:=1) (e:=.blk b2 (Di.enc (Di.mk Ab.Site Ab.No Ab.At Ab.Kind An An An 0 0 An 0)) 102) (e':=.blk b1 (Di.enc Ab) 102) S rfl rfl rfl)).kept hw) rfl)) fun a S=>Ea 4 S hsel rfl rfl rfl (by kernel_rfl) (by kernel_rfl) rfl (fun _ hw=>(Gd Ud (S.tm rfl))) fun a S=>Ea 5 S hsel rfl rfl rfl (by kernel_rfl) (by kernel_rfl) rfl (fun _ hw=>(Hx isAgg3 (off:=0) (o:=7) (S.tm rfl) ((S.blk_mem (i:=1) (cells:=(Di.enc Ab)) (b:=b1) (T:=102) rfl (Nc (i:=0) (j:=1) (e:=.blk b2 (Di.enc (Di.mk Ab.Site Ab.No Ab.At Ab.Kind An An An 0 0 An 0)) 102) (e':=.blk b1 (Di.enc Ab) 102) S rfl rfl rfl)).kept hw) rfl)) fun a S=>Ea 6 S hsel rfl rfl rfl (by kernel_rfl) (by kernel_rfl) rfl (fun _ hw=>(Gd We (S.tm rfl))) fun a S=>Ea 7 S hsel rfl rfl rfl (by kernel_rfl) (by kernel_rfl) rfl (fun _ hw=>(Hx isAgg3 (off:=0) (o:=8) (S.tm rfl) ((S.blk_mem (i:=1) (cells:=(Di.enc Ab)) (b:=b1) (T:=102) rfl (Nc (i:=0) (j:=1) (e:=.blk b2 (Di.enc (Di.mk Ab.Site Ab.No Ab.At Ab.Kind An An An 0 0 An 0)) 102) (e':=.blk b1 (Di.enc Ab) 102) S rfl rfl rfl)).kept hw) rfl)) ?_;clear S;intro a S
             refine Ea 8 S hsel rfl rfl rfl (by kernel_rfl) (by kernel_rfl) rfl (fun _ hw=>(Gd Oh (S.tm rfl))) fun a S=>Hb 9 (by kernel_rfl) rfl (Ex S (S.tm rfl) (S.tm rfl) (i:=0) (off:=4) rfl sizeOf9 (vs:=[sV Ab.Who]) rfl rfl rfl rfl ?_);clear S;intro w45 hk40 S
             refine Ld (Hy hk40 (Ea 10 S hsel rfl rfl rfl (by kernel_rfl) (by kernel_rfl) rfl (fun _ hw=>(Gd Sj (S.tm rfl))) fun a S=>Hb 11 (by kernel_rfl) rfl (Ex S (S.tm rfl) (S.tm rfl) (i:=0) (off:=6) rfl sizeOf9 (vs:=[sV Ab.Race]) rfl rfl rfl rfl ?_)));clear S;intro w46 hk41 S
             refine Ld (Hy hk41 (Ea 12 S hsel rfl rfl rfl (by kernel_rfl) (by kernel_rfl) rfl (fun _ hw=>(Gd Ud (S.tm rfl))) fun a S=>Hb 13 (by kernel_rfl) rfl (Ex S (S.tm rfl) (S.tm rfl) (i:=0) (off:=7) rfl sizeOf3 (vs:=[iV Ab.Time]) rfl rfl rfl rfl ?_)));clear S;intro w47 hk42 S
             refine Ld (Hy hk42 (Ea 14 S hsel rfl rfl rfl (by kernel_rfl) (by kernel_rfl) rfl (fun _ hw=>(Gd We (S.tm rfl))) fun a S=>Hb 15 (by kernel_rfl) rfl (Ex S (S.tm rfl) (S.tm rfl) (i:=0) (off:=8) rfl sizeOf3 (vs:=[iV Ab.Fault]) rfl rfl rfl rfl ?_)));clear S;intro w48 hk43 S
             refine Ld (Hy hk43 (Vt (by kernel_rfl) ?_))
             clear hsel
             replace S:=(S.nl [.blk b2 (Di.enc (Di.mk Ab.Site Ab.No Ab.At Ab.Kind Ab.Who An Ab.Race Ab.Time Ab.Fault An 0)) 102,.blk b1 (Di.enc Ab) 102] [true,true] rfl).k2 1 6 rfl
             exact Tn (⟨Ab.Who,Ab.Race,Ab.Time,Ab.Fault,An,0,h,S.nf [true,true] rfl (subR rfl)⟩)
            ·refine Fr (Vm S rfl rfl fun a S=>Va S rfl rfl fun a S=>Dl ?_)
             obtain ⟨j10,hj10,h⟩:=Eu h
             refine Eh (fun a w'=>∃ x23 : ByteArray,∃ x24 : ByteArray,∃ x25 : ByteArray,∃ x26 : Int,j10 x23 x24 x25 x26 = some r ∧ Sx w [] nov [.blk b2 (Di.enc (Di.mk Ab.Site Ab.No Ab.At Ab.Kind x23 An x24 0 0 x25 x26)) 102,.blk b1 (Di.enc Ab) 102] [(1,.pointer (some ⟨b1,0,none⟩)),(6,.pointer (some ⟨b2,0,none⟩))] 152 a w') ?_ ?_
             ·refine Fc h (S.tm rfl) (fun hb22 h=>?_) (fun hb22 h=>?_)
              ·refine Gt [] ([b2]) Tryz.mixed S rfl (by kernel_rfl) ?_;clear S;intro w52 hk46 hsel S
               refine Ea 0 S hsel rfl rfl rfl (by kernel_rfl) (by kernel_rfl) rfl (fun _ hw=>(Gd Yj (S.tm rfl))) fun a S=>Ea 1 S hsel rfl rfl rfl (by kernel_rfl) (by kernel_rfl) rfl (fun _ hw=>(Hx isAgg9 (off:=0) (o:=9) (S.tm rfl) ((S.blk_mem (i:=1) (cells:=(Di.enc Ab)) (b:=b1) (T:=102) rfl (Nc (i:=0) (j:=1) (e:=.blk b2 (Di.enc (Di.mk Ab.Site Ab.No Ab.At Ab.Kind An An An 0 0 An 0)) 102) (e':=.blk b1 (Di.enc Ab) 102) S rfl rfl rfl)).kept hw) rfl)) fun a S=>Ea 2 S hsel rfl rfl rfl (by kernel_rfl) (by kernel_rfl) rfl (fun _ hw=>(Gd Vs (S.tm rfl))) fun a S=>Ea 3 S hsel rfl rfl rfl (by kernel_rfl) (by kernel_rfl) rfl (fun _ hw=>(Hx isAgg3 (off:=0) (o:=10) (S.tm rfl) ((S.blk_mem (i:=1) (cells:=(Di.enc Ab)) (b:=b1) (T:=102) rfl (Nc (i:=0) (j:=1) (e:=.blk b2 (Di.enc (Di.mk Ab.Site Ab.No Ab.At Ab.Kind An An An 0 0 An 0)) 102) (e':=.blk b1 (Di.enc Ab) 102) S rfl rfl rfl)).kept hw) rfl)) fun a S=>Ea 4 S hsel rfl rfl rfl (by kernel_rfl) (by kernel_rfl) rfl (fun _ hw=>(Gd Yj (S.tm rfl))) fun a S=>Hb 5 (by kernel_rfl) rfl (Ex S (S.tm rfl) (S.tm rfl) (i:=0) (off:=9) rfl sizeOf9 (vs:=[sV Ab.Of]) rfl rfl rfl rfl ?_);clear S;intro w53 hk47 S
               refine Ld (Hy hk47 (Ea 6 S hsel rfl rfl rfl (by kernel_rfl) (by kernel_rfl) rfl (fun _ hw=>(Gd Vs (S.tm rfl))) fun a S=>Hb 7 (by kernel_rfl) rfl (Ex S (S.tm rfl) (S.tm rfl) (i:=0) (off:=10) rfl sizeOf3 (vs:=[iV Ab.Other]) rfl rfl rfl rfl ?_)));clear S;intro w54 hk48 S
               refine Ld (Hy hk48 (Vt (by kernel_rfl) ?_))
               clear hsel
               replace S:=(S.nl [.blk b2 (Di.enc (Di.mk Ab.Site Ab.No Ab.At Ab.Kind An An An 0 0 Ab.Of Ab.Other)) 102,.blk b1 (Di.enc Ab) 102] [true,true] rfl).k2 1 6 rfl
               exact Tn (⟨An,An,Ab.Of,Ab.Other,h,S.nf [true,true] rfl (subR rfl)⟩)
              ·refine Gt [] ([b2]) Tryz.mixed S rfl (by kernel_rfl) ?_;clear S;intro w57 hk51 hsel S
               refine Ea 0 S hsel rfl rfl rfl (by kernel_rfl) (by kernel_rfl) rfl (fun _ hw=>(Gd Oh (S.tm rfl))) fun a S=>Ea 1 S hsel rfl rfl rfl (by kernel_rfl) (by kernel_rfl) rfl (fun _ hw=>(Hx isAgg9 (off:=0) (o:=4) (S.tm rfl) ((S.blk_mem (i:=1) (cells:=(Di.enc Ab)) (b:=b1) (T:=102) rfl (Nc (i:=0) (j:=1) (e:=.blk b2 (Di.enc (Di.mk Ab.Site Ab.No Ab.At Ab.Kind An An An 0 0 An 0)) 102) (e':=.blk b1 (Di.enc Ab) 102) S rfl rfl rfl)).kept hw) rfl)) fun a S=>Ea 2 S hsel rfl rfl rfl (by kernel_rfl) (by kernel_rfl) rfl (fun _ hw=>(Gd Sj (S.tm rfl))) fun a S=>Ea 3 S hsel rfl rfl rfl (by kernel_rfl) (by kernel_rfl) rfl (fun _ hw=>(Hx isAgg9 (off:=0) (o:=6) (S.tm rfl) ((S.blk_mem (i:=1) (cells:=(Di.enc Ab)) (b:=b1) (T:=102) rfl (Nc (i:=0) (j:=1) (e:=.blk b2 (Di.enc (Di.mk Ab.Site Ab.No Ab.At Ab.Kind An An An 0 0 An 0)) 102) (e':=.blk b1 (Di.enc Ab) 102) S rfl rfl rfl)).kept hw) rfl)) fun a S=>Ea 4 S hsel rfl rfl rfl (by kernel_rfl) (by kernel_rfl) rfl (fun _ hw=>(Gd Oh (S.tm rfl))) fun a S=>Hb 5 (by kernel_rfl) rfl (Ex S (S.tm rfl) (S.tm rfl) (i:=0) (off:=4) rfl sizeOf9 (vs:=[sV Ab.Who]) rfl rfl rfl rfl ?_);clear S;intro w58 hk52 S
               refine Ld (Hy hk52 (Ea 6 S hsel rfl rfl rfl (by kernel_rfl) (by kernel_rfl) rfl (fun _ hw=>(Gd Sj (S.tm rfl))) fun a S=>Hb 7 (by kernel_rfl) rfl (Ex S (S.tm rfl) (S.tm rfl) (i:=0) (off:=6) rfl sizeOf9 (vs:=[sV Ab.Race]) rfl rfl rfl rfl ?_)));clear S;intro w59 hk53 S
               refine Ld (Hy hk53 (Vt (by kernel_rfl) ?_))
               clear hsel
               replace S:=(S.nl [.blk b2 (Di.enc (Di.mk Ab.Site Ab.No Ab.At Ab.Kind Ab.Who An Ab.Race 0 0 An 0)) 102,.blk b1 (Di.enc Ab) 102] [true,true] rfl).k2 1 6 rfl
               exact Tn (⟨Ab.Who,Ab.Race,An,0,h,S.nf [true,true] rfl (subR rfl)⟩)
             clear S h;rintro a w49 ⟨x23,x24,x25,x26,h,S⟩;rw [hj10] at h;clear hj10 j10
             exact Tn (⟨x23,x24,0,0,x25,x26,h,S.nf [true,true] rfl (subR rfl)⟩)
           clear S h;rintro a w39 ⟨x17,x18,x19,x20,x21,x22,h,S⟩;rw [hj9] at h;clear hj9 j9
           exact Tn (⟨x17,An,x18,x19,x20,x21,x22,h,S.nf [true,true] rfl (subR rfl)⟩)
         clear S h;rintro a w29 ⟨x10,x11,x12,x13,x14,x15,x16,h,S⟩;rw [hj8] at h;clear hj8 j8
         exact Hp (Tn (⟨x10,x11,x12,x13,x14,x15,x16,h,S.nf [true,true] rfl (subR rfl)⟩))
        clear S h;rintro a w28 ⟨x3,x4,x5,x6,x7,x8,x9,h,S⟩;rw [hj7] at h;clear hj7 j7
        refine Tn (Fs (Fr (lv S (Fb isAgg102 sizeOf102 (off:=0) (o:=0) (part:=(Di.enc Ab)) rfl rfl (S.tm rfl) (S.cellsAt (i:=1) rfl)) rfl fun a S=>lv S (Fb isAgg102 sizeOf102 (off:=0) (o:=0) (part:=(Di.enc (Di.mk Ab.Site Ab.No Ab.At Ab.Kind x3 x4 x5 x6 x7 x8 x9))) rfl rfl (S.tm rfl) (S.cellsAt (i:=0) rfl)) rfl fun a S=>lv S (JT (m:=Ab) (n:=(Di.mk Ab.Site Ab.No Ab.At Ab.Kind x3 x4 x5 x6 x7 x8 x9)) (S.tm rfl) (S.tm rfl)) rfl fun a S=>Dl (Fc h (S.tm rfl) (fun hb23 h=>?_) (fun hb23 h=>?_)))))
        ·refine Fr (Vk S rfl rfl fun a S=>Dl (wp_ret (Dv ?_)))
         obtain rfl:=Option.some.inj h
         exact Et S results117 rfl rfl
        ·refine wp_skip (Tn (Fr (Vk S rfl rfl fun a S=>Dl (wp_ret ?_))))
         obtain rfl:=Option.some.inj h
         exact Et S results117 rfl rfl
theorem AW (w : World) (Ab : Int) (r : Bool) (h : Uh Ab = r) :
    Calls prog 173 [iV Ab].toArray w (Ret w [] fun _ v _=>v = bV r):=by
 refine Fe func173 rfl ntmps173 rfl fun a S=>?_
 unfold Uh at h
 replace S:=S.k1 0 rfl
 refine Fr (Vk S rfl rfl fun a S=>Dz (Vm S rfl rfl fun a S=>Vm S rfl rfl fun a S=>Vb S Mn rfl rfl rfl fun a S=>Va S rfl rfl ?_));clear S;intro a S
 refine Dl (wp_ret ?_)
 subst h
 exact Et S results173 rfl rfl
theorem Zk (w : World) (Ab : Int) (Bl : Int) (r : Int) (h : Kw Ab Bl = r) :
    Calls prog 149 [iV Ab,iV Bl].toArray w (Ret w [] fun _ v _=>v = iV r):=by
 refine Fe func149 rfl ntmps149 rfl fun a S=>?_
 unfold Kw at h
 replace S:=S.k2 0 1 rfl
 refine Fr (Vk S rfl rfl fun a S=>Dz (Vm S rfl rfl fun a S=>Eb S (fun _=>Dq (vs:=[iV Ab]) ⟨(S.tm rfl),trivial⟩ call173) (AW _ Ab _ rfl) rfl ?_));clear S;intro v1 a w1 hv1 hk1 hn1 S
 subst hv1
 refine Va S rfl rfl fun a S=>Dz (Vm S rfl rfl fun a S=>Eb S (fun _=>Dq (vs:=[iV Bl]) ⟨(S.tm rfl),trivial⟩ call173) (AW _ Bl _ rfl) rfl ?_);clear S;intro v2 a w2 hv2 hk2 hn2 S
 subst hv2
 refine Va S rfl rfl fun a S=>Dl (Fs (Fr (Vm S rfl rfl fun a S=>Dl (Fc h (S.tm rfl) (fun hb1 h=>?_) (fun hb1 h=>?_)))))
 ·refine Fs (Fr (Vm S rfl rfl fun a S=>Dl (Fc h (S.tm rfl) (fun hb2 h=>?_) (fun hb2 h=>?_))))
  ·refine Fr (Vk S rfl rfl fun a S=>Dl (wp_ret (Dv (Dv ?_))))
   subst h
   exact Et S results149 rfl rfl
  ·refine wp_skip (Tn (Fr (Vk S rfl rfl fun a S=>Dl (wp_ret (Dv ?_)))))
   subst h
   exact Et S results149 rfl rfl
 ·refine wp_skip (Tn (Fs (Fr (Vm S rfl rfl fun a S=>Dl (Fc h (S.tm rfl) (fun hb3 h=>?_) (fun hb3 h=>?_))))))
  ·refine Fr (Vk S rfl rfl fun a S=>Dl (wp_ret (Dv ?_)))
   subst h
   exact Et S results149 rfl rfl
  ·refine wp_skip (Tn (Fs (Fr (Vm S rfl rfl fun a S=>Vm S rfl rfl fun a S=>Vb S Es rfl rfl rfl fun a S=>Dl (Fc h (S.tm rfl) (fun hb4 h=>?_) (fun hb4 h=>?_))))))
   ·refine Fr (Vk S rfl rfl fun a S=>Dl (wp_ret (Dv ?_)))
    subst h
    exact Et S results149 rfl rfl
   ·refine wp_skip (Tn (Fs (Fr (Vm S rfl rfl fun a S=>Vm S rfl rfl fun a S=>Vb S Kb rfl rfl rfl fun a S=>Ld ?_))))
    replace S:=S.k1 19 rfl
    refine Tn (Fc h (S.tm rfl) (fun hb5 h=>?_) (fun hb5 h=>?_))
    ·refine Fr (Vk S rfl rfl fun a S=>Dl (wp_ret (Dv ?_)))
     subst h
     exact Et S results149 rfl rfl
    ·refine wp_skip (Tn (Fr (Vk S rfl rfl fun a S=>Dl (wp_ret ?_))))
     subst h
     exact Et S results149 rfl rfl
theorem EU (w : World) (Cw : Value) (Ct : List Int) (Cu : Slc (view w []) 1 Cw (Ct.map eInt)) (r : Int) (h : Ux Ct = r) :
    Calls prog 137 [Cw].toArray w (Ret w [] fun _ v _=>v = iV r):=by
 refine Fe func137 rfl ntmps137 rfl fun a S=>?_
 unfold Ux at h
 replace S:=S.k1 0 rfl
 refine Fr (Vk S rfl rfl fun a S=>Dz (Vk S rfl rfl fun a S=>Dl (Fs ?_)))
 refine Fr (Vm S rfl rfl fun a S=>lv S (Gi Qg (S.tm rfl) (Gf Cu)) rfl fun a S=>lv S (Rm rfl) rfl fun a S=>Dl ?_)
 replace S:=S.k4 3 6 7 8 rfl
 obtain ⟨j1,hj1,h⟩:=Eu h
 refine Eh (fun a w'=>j1 = r ∧ Sx w [] nov [] [(3,iV 0)] 18 a w') ?_ ?_
 ·refine wp_block (Gr (fun (ys1 : List Int) a w'=>∃ i1 : Nat,(∃ dn,Ct = dn ++ ys1 ∧ dn.length = i1) ∧ Mz j1 ys1 i1 = r ∧ Sx w [] nov [] [(3,iV 0),(6,Cw),(7,iV (Ct.length : Int)),(8,iV (i1 : Int))] 18 a w') List.length Ct ⟨0,⟨[],rfl,rfl⟩,h,S.nf [] rfl (subR rfl)⟩ ?_)
  clear S h;rintro ys1 a w1 ⟨i1,⟨dn,hd1,hi1⟩,h,S⟩
  cases ys1 with
  | nil =>
   rw [Mz.eq_1] at h
   refine Fr (Vb S Es rfl rfl rfl fun a S=>Ld ?_)
   replace S:=S.k5 3 6 7 8 9 rfl
   exact Tn (Fs (wp_cond_false ((S.tm rfl).trans (congrArg Value.bool (Jd hd1 hi1))) (wp_exit (Ed (Ed (Gn (Tn (⟨h,S.nf [] rfl ⟨rfl,trivial⟩⟩))))))))
  | cons y1 ys1 =>
   rw [Mz.eq_2] at h
   refine Fr (Vb S Es rfl rfl rfl fun a S=>Ld ?_)
   replace S:=S.k5 3 6 7 8 9 rfl
   refine Tn (Fs (wp_cond_true ((S.tm rfl).trans (congrArg Value.bool (Ia hd1 hi1))) (wp_skip (Tn (Fs (wp_block (Fs (Fg ?_))))))))
   obtain ⟨b1,o1,hm1,hr1⟩:=Fk (a:=a) (x:=.tmp 6) (y:=.tmp 8) (ty:=0) Qg Cu (Jc hd1 hi1) rfl (S.tm rfl) (S.tm rfl)
   refine lv S (hr1 _) rfl ?_;clear S;intro a S
   clear hr1
   refine lv S (Hx isAgg3 (off:=o1) (o:=0) (S.tm rfl) (hm1.at S.emb0) rfl) rfl fun a S=>Va S rfl rfl fun a S=>Dz (Vm S rfl rfl fun a S=>Vm S rfl rfl fun a S=>Vb S Mn rfl rfl rfl fun a S=>Dl ?_)
   refine Fc h (S.tm rfl) (fun hb1 h=>?_) (fun hb1 h=>?_)
   ·refine Fr (Vm S rfl rfl fun a S=>Va S rfl rfl fun a S=>Dl (wp_ret (Gq (Dv (Dv (Gq ?_))))))
    refine Dv (Dv ?_)
    subst h
    exact Et S results137 rfl rfl
   ·exact wp_skip (Hp (Tn (Fg (Vq S Gc rfl rfl rfl fun a S=>Vm S rfl rfl fun a S=>Dl (⟨ys1,⟨i1 + 1,⟨_,(hd1).trans (List.append_cons _ _ _),by simp [hi1]⟩,h,S.nf [] rfl ⟨rfl,rfl,rfl,(congrArg (fun z=>some (Value.int .i64 z)) (Ib hd1 hi1 (Jp Cu))),trivial⟩⟩,Nat.lt_succ_self _⟩)))))
 clear S h;rintro a w2 ⟨h,S⟩;rw [hj1] at h;clear hj1 j1
 refine Tn (Fr (Vm S rfl rfl fun a S=>Va S rfl rfl fun a S=>Dl (wp_ret ?_)))
 subst h
 exact Et S results137 rfl rfl
set_option maxRecDepth 20000 in
theorem IM (w : World) (Ah : Di) (Ak : Di) (r : Int) (h : Nw Ah Ak = r) :
    Calls prog 118 [.agg (Di.enc Ah).toArray,.agg (Di.enc Ak).toArray].toArray w (Ret w [] fun _ v _=>v = iV r):=by
 refine Fe func118 rfl ntmps118 rfl fun a S=>?_
 unfold Nw at h
 replace S:=S.k2 0 1 rfl
 refine Fr (Lw S (S.tm rfl) (cs:=(Di.enc Ah)) rfl rfl ?_);clear S;intro a w1 b1 hz1 hk1 S
 refine Lw S (S.tm rfl) (cs:=(Di.enc Ak)) rfl rfl ?_;clear S;intro a w2 b2 hz2 hk2 S
 refine Vk S rfl rfl fun a S=>Dl (Fs (Gt [] ([]) Tryz.mixed S rfl (by kernel_rfl) ?_));clear S;intro w8 hk8 hsel S
 refine Ea 0 S hsel rfl rfl rfl (by kernel_rfl) (by kernel_rfl) rfl (fun _ hw=>(Gd Uc (S.tm rfl))) fun a S=>Ea 1 S hsel rfl rfl rfl (by kernel_rfl) (by kernel_rfl) rfl (fun _ hw=>(Hx isAgg3 (off:=0) (o:=2) (S.tm rfl) ((S.blk_mem (i:=1) (cells:=(Di.enc Ah)) (b:=b1) (T:=102) rfl (Hg (e':=.blk b1 (Di.enc Ah) 102))).kept hw) rfl)) fun a S=>Ea 2 S hsel rfl rfl rfl (by kernel_rfl) (by kernel_rfl) rfl (fun _ hw=>(Gd Uc (S.tm rfl))) fun a S=>Ea 3 S hsel rfl rfl rfl (by kernel_rfl) (by kernel_rfl) rfl (fun _ hw=>(Hx isAgg3 (off:=0) (o:=2) (S.tm rfl) ((S.blk_mem (i:=0) (cells:=(Di.enc Ak)) (b:=b2) (T:=102) rfl (Hg (e':=.blk b2 (Di.enc Ak) 102))).kept hw) rfl)) fun a S=>Ea 5 S hsel rfl rfl rfl (by kernel_rfl) (by kernel_rfl) rfl (fun _ hw=>(Gd Qw (S.tm rfl))) fun a S=>Ea 6 S hsel rfl rfl rfl (by kernel_rfl) (by kernel_rfl) rfl (fun _ hw=>(Hx isAgg9 (off:=0) (o:=0) (S.tm rfl) ((S.blk_mem (i:=1) (cells:=(Di.enc Ah)) (b:=b1) (T:=102) rfl (Hg (e':=.blk b1 (Di.enc Ah) 102))).kept hw) rfl)) fun a S=>Ea 7 S hsel rfl rfl rfl (by kernel_rfl) (by kernel_rfl) rfl (fun _ hw=>(Gd Qw (S.tm rfl))) fun a S=>Ea 8 S hsel rfl rfl rfl (by kernel_rfl) (by kernel_rfl) rfl (fun _ hw=>(Hx isAgg9 (off:=0) (o:=0) (S.tm rfl) ((S.blk_mem (i:=0) (cells:=(Di.enc Ak)) (b:=b2) (T:=102) rfl (Hg (e':=.blk b2 (Di.enc Ak) 102))).kept hw) rfl)) fun a S=>Ea 10 S hsel rfl rfl rfl (by kernel_rfl) (by kernel_rfl) rfl (fun _ hw=>(Gd Tg (S.tm rfl))) fun a S=>Ea 11 S hsel rfl rfl rfl (by kernel_rfl) (by kernel_rfl) rfl (fun _ hw=>(Hx isAgg3 (off:=0) (o:=1) (S.tm rfl) ((S.blk_mem (i:=1) (cells:=(Di.enc Ah)) (b:=b1) (T:=102) rfl (Hg (e':=.blk b1 (Di.enc Ah) 102))).kept hw) rfl)) ?_;clear S;intro a S
 refine Ea 12 S hsel rfl rfl rfl (by kernel_rfl) (by kernel_rfl) rfl (fun _ hw=>(Gd Tg (S.tm rfl))) fun a S=>Ea 13 S hsel rfl rfl rfl (by kernel_rfl) (by kernel_rfl) rfl (fun _ hw=>(Hx isAgg3 (off:=0) (o:=1) (S.tm rfl) ((S.blk_mem (i:=0) (cells:=(Di.enc Ak)) (b:=b2) (T:=102) rfl (Hg (e':=.blk b2 (Di.enc Ak) 102))).kept hw) rfl)) fun a S=>Hb 4 (by kernel_rfl) rfl (Eb S (fun _=>Dq (vs:=[iV Ah.At,iV Ak.At]) ⟨(S.tm rfl),(S.tm rfl),trivial⟩ call149) (Zk _ Ah.At Ak.At _ rfl) rfl ?_);clear S;intro v5 a w9 hv5 hk9 hn5 S
 subst hv5
 refine Ld (Hy hk9 (Hb 9 (by kernel_rfl) rfl (Eb S (fun _=>Dq (vs:=[sV Ah.Site,sV Ak.Site]) ⟨(S.tm rfl),(S.tm rfl),trivial⟩ call62) (Nr _ Ah.Site Ak.Site _ rfl) rfl ?_)));clear S;intro v6 a w10 hv6 hk10 hn6 S
 subst hv6
 refine Ld (Hy hk10 (Hb 14 (by kernel_rfl) rfl (Eb S (fun _=>Dq (vs:=[iV Ah.No,iV Ak.No]) ⟨(S.tm rfl),(S.tm rfl),trivial⟩ call149) (Zk _ Ah.No Ak.No _ rfl) rfl ?_)));clear S;intro v7 a w11 hv7 hk11 hn7 S
 subst hv7
 refine Ld (Hy hk11 (Hb 15 (by kernel_rfl) rfl (Ey S underlying22 sizeOf3 zeroValue3 rfl rfl (pv:=[(0,iV (Kw Ah.At Ak.At)),(1,iV (Hl Ah.Site Ak.Site)),(2,iV (Kw Ah.No Ak.No))]) ⟨rfl,(S.tm rfl),rfl,(S.tm rfl),rfl,(S.tm rfl),trivial⟩ (cs:=[iV (Kw Ah.At Ak.At),iV (Hl Ah.Site Ak.Site),iV (Kw Ah.No Ak.No)]) (by kernel_rfl) rfl ?_)));clear S;intro a w12 b4 hz4 hk12 S
 refine Ld (Hy hk12 (Hb 16 (by kernel_rfl) rfl (Eb S (fun _=>Dq (vs:=[.slice (some ⟨b4,0,none⟩) 3 3]) ⟨(S.tm rfl),trivial⟩ call137) (EU _ (.slice (some ⟨b4,0,none⟩) 3 3) [(Kw Ah.At Ak.At),(Hl Ah.Site Ak.Site),(Kw Ah.No Ak.No)] (Lg Jf S (i:=0) rfl rfl rfl rfl ((Hg (e':=.blk b4 [iV (Kw Ah.At Ak.At),iV (Hl Ah.Site Ak.Site),iV (Kw Ah.No Ak.No)] 3)) _ rfl)) _ rfl) rfl ?_)));clear S;intro v8 a w13 hv8 hk13 hn8 S
 subst hv8
 refine Ld (Hy hk13 (Li [17] hsel (by kernel_rfl) rfl ?_))
 clear hsel
 refine Gp S rfl (Ra (S.tm rfl)) rfl fun a S=>Ij ?_
 replace S:=S.n0.k1 4 rfl
 refine Tn (wp_ret ?_)
 subst h
 exact Et S results118 rfl rfl
theorem Yn (w : World) (Ab : Di) (r : Ev) (h : Fl Ab = r) :
    Calls prog 119 [.agg (Di.enc Ab).toArray].toArray w (Ret w [] fun _ v _=>v = .agg (Ev.enc r).toArray):=by
 refine Fe func119 rfl ntmps119 rfl fun a S=>?_
 unfold Fl at h
 replace S:=S.k1 0 rfl
 refine Fr (Lw S (S.tm rfl) (cs:=(Di.enc Ab)) rfl rfl ?_);clear S;intro a w1 b1 hz1 hk1 S
 refine Hq S zeroValue188 (cs:=[sV An,iV 0]) rfl rfl ?_;clear S;intro a w2 b2 hz2 hk2 S
 refine Dz (Vf Qw S rfl rfl fun a S=>Vl isAgg9 1 S rfl rfl rfl rfl fun a S=>Vf Tg S rfl rfl fun a S=>Vl isAgg3 1 S rfl rfl rfl rfl fun a S=>lv S (Nl XK (pv:=[(0,sV Ab.Site),(1,iV Ab.No)]) ⟨rfl,(S.tm rfl),rfl,(S.tm rfl),trivial⟩ (cs:=[sV Ab.Site,iV Ab.No]) (by kernel_rfl)) rfl fun a S=>Ex S (S.tm rfl) (S.tm rfl) (i:=0) (off:=0) rfl sizeOf188 (vs:=[sV Ab.Site,iV Ab.No]) rfl rfl rfl rfl ?_);clear S;intro w3 hk3 S
 refine Dl (wp_ret ?_)
 subst h
 exact Xo S (rs:=[.cell 2 188]) (vs:=[.agg #[sV Ab.Site,iV Ab.No]]) results119 ⟨(Tc (off:=0) S rfl isAgg188 sizeOf188 rfl (S.cellsAt (i:=0) rfl)),trivial⟩ rfl rfl
set_option maxRecDepth 20000 in
theorem FJ (w : World) (Ac : Value) (Aj : List Di) (Ai : Slc (view w []) 11 Ac (Aj.map Di.enc)) (r : Int) (h : Qq Aj = some r) :
    Calls prog 72 [Ac].toArray w (Ret w [] fun _ v _=>v = iV r):=by
 refine Fe func72 rfl ntmps72 rfl fun a S=>?_
 unfold Qq at h
 replace S:=S.k1 0 rfl
 refine Fr (Vk S rfl rfl fun a S=>Dl (Fs (Fr (Vm S rfl rfl fun a S=>lv S (Gi Oo (S.tm rfl) (Gf Ai)) rfl fun a S=>Vq S Kb rfl rfl rfl ?_))));clear S;intro a S
 refine Dl (Fc h (S.tm rfl) (fun hb1 h=>?_) (fun hb1 h=>?_))
 ·refine Fr (Vk S rfl rfl fun a S=>Dl (wp_ret (Dv ?_)))
  obtain rfl:=Option.some.inj h
  exact Et S results72 rfl rfl
 ·refine wp_skip (Tn (Fr (Rg (κ:=Ev) (ν:=Bool) S rfl (fun x=>Value.agg (Ev.enc x).toArray) Value.bool ?_)));clear S;intro a w1 b1 hz1 hk1 S
  refine Va S rfl rfl fun a S=>Dz (Vk S rfl rfl fun a S=>Dl (Fs (Fs (Fg ?_))))
  refine Vm S rfl rfl fun a S=>lv S (Gi Oo (S.tm rfl) (Gf Ai)) rfl fun a S=>lv S (Rm rfl) rfl fun a S=>Dl ?_
  replace S:=(S.nl [.map b1 (Fi (fun x=>Value.agg (Ev.enc x).toArray) Value.bool ([] : List (Ev × Bool))) ([] : List (Ev × Bool)).length] [true] rfl).k6 0 3 4 12 13 14 rfl
  obtain ⟨j1,hj1,h⟩:=Eu h
  refine Eh (fun a w'=>∃ x1 : List (Ev × Bool),∃ x2 : Bool,j1 x1 x2 = some r ∧ Sx w [] nov [.map b1 (Fi (fun x=>Value.agg (Ev.enc x).toArray) Value.bool x1) x1.length] [(4,bV x2)] 48 a w') ?_ ?_
  ·refine wp_block (Gr (fun (ys1 : List Di) a w'=>∃ i1 : Nat,∃ x1 : List (Ev × Bool),∃ x2 : Bool,(∃ dn,Aj = dn ++ ys1 ∧ dn.length = i1) ∧ Iv Aj j1 ys1 i1 x1 x2 = some r ∧ Sx w [] nov [.map b1 (Fi (fun x=>Value.agg (Ev.enc x).toArray) Value.bool x1) x1.length] [(0,Ac),(3,.map (some b1)),(4,bV x2),(12,Ac),(13,iV (Aj.length : Int)),(14,iV (i1 : Int))] 48 a w') List.length Aj ⟨0,([] : List (Ev × Bool)),false,⟨[],rfl,rfl⟩,h,S.nf [true] rfl (subR rfl)⟩ ?_)
   clear S h;rintro ys1 a w2 ⟨i1,x1,x2,⟨dn,hd1,hi1⟩,h,S⟩
   cases ys1 with
   | nil =>
    rw [Iv.eq_1] at h
    refine Fr (Vb S Es rfl rfl rfl fun a S=>Ld ?_)
    replace S:=S.k7 0 3 4 12 13 14 15 rfl
    exact Tn (Fs (wp_cond_false ((S.tm rfl).trans (congrArg Value.bool (Jd hd1 hi1))) (wp_exit (Ed (Ed (Gn (Tn (⟨x1,x2,h,S.nf [true] rfl ⟨rfl,trivial⟩⟩))))))))
   | cons y1 ys1 =>
    rw [Iv.eq_2] at h
    refine Fr (Vb S Es rfl rfl rfl fun a S=>Ld ?_)
    replace S:=S.k7 0 3 4 12 13 14 15 rfl
    refine Tn (Fs (wp_cond_true ((S.tm rfl).trans (congrArg Value.bool (Ia hd1 hi1))) (wp_skip (Tn (Fs (wp_block (Fr (Vm S rfl rfl ?_))))))));clear S;intro a S
    obtain ⟨b2,o1,hm1,hr1⟩:=Fk (a:=a) (x:=.tmp 12) (y:=.tmp 14) (ty:=0) Oo Ai (Jc hd1 hi1) rfl (S.tm rfl) (S.tm rfl)
    refine lv S (hr1 _) rfl ?_;clear S;intro a S
    clear hr1
    refine lv S (Fb isAgg102 sizeOf102 (off:=o1) (o:=0) (part:=(Di.enc y1)) rfl rfl (S.tm rfl) (hm1.at S.emb0)) rfl fun a S=>Hq S zeroValue102 (cs:=[sV An,iV 0,iV 0,iV 0,sV An,sV An,sV An,iV 0,iV 0,sV An,iV 0]) rfl rfl ?_;clear S;intro a w4 b3 hz2 hk2 S
    refine Va S rfl rfl fun a S=>Ex S (S.tm rfl) (S.tm rfl) (i:=0) (off:=0) rfl sizeOf102 (vs:=(Di.enc y1)) rfl rfl rfl rfl ?_;clear S;intro w5 hk3 S
    refine Dl (Fs (Fr (lv S (Fb isAgg102 sizeOf102 (off:=0) (o:=0) (part:=(Di.enc y1)) rfl rfl (S.tm rfl) (S.cellsAt (i:=0) rfl)) rfl ?_)));clear S;intro a S
    obtain ⟨r1,hr2,h⟩:=Fa h
    refine Eb S (fun _=>Dq (vs:=[.agg (Di.enc y1).toArray]) ⟨(S.tm rfl),trivial⟩ call117) (GG _ y1 _ hr2) rfl ?_;clear S;intro v1 a w6 hv1 hk4 hn1 S
    subst hv1
    refine Va S rfl rfl fun a S=>Ld ?_
    replace S:=(S.nl [.blk b3 (Di.enc y1) 102,.map b1 (Fi (fun x=>Value.agg (Ev.enc x).toArray) Value.bool x1) x1.length] [true,true] rfl).k9 0 3 4 5 6 7 12 13 14 rfl
    refine Tn (Fr (Vm S rfl rfl fun a S=>Vq S Mn rfl rfl rfl fun a S=>Dl (Fc h (S.tm rfl) (fun hb2 h=>?_) (fun hb2 h=>?_))))
    ·refine Fr (Vm S rfl rfl fun a S=>Va S rfl rfl fun a S=>Dl (wp_ret (Dv (Gq (Dv (Dv ?_))))))
     refine Gq (Dv (Dv ?_))
     obtain rfl:=Option.some.inj h
     exact Et S results72 rfl rfl
    ·refine wp_skip (Tn (Fs (Fs ?_)))
     obtain ⟨j2,hj2,h⟩:=Eu h
     refine Eh (fun a w'=>∃ x3 : Bool,j2 x3 = some r ∧ Sx w [] nov [.blk b3 (Di.enc y1) 102,.map b1 (Fi (fun x=>Value.agg (Ev.enc x).toArray) Value.bool x1) x1.length] [(0,Ac),(3,.map (some b1)),(4,bV x2),(6,.pointer (some ⟨b3,0,none⟩)),(12,Ac),(13,iV (Aj.length : Int)),(14,iV (i1 : Int)),(35,bV x3)] 48 a w') ?_ ?_
     ·rcases Bool.eq_false_or_eq_true (decide (0 < (i1 : Int))) with hb3 | hb3
      ·replace h:=Ti h hb3
       obtain ⟨hc1,h⟩:=Ig h
       refine Gt [] ([]) Tryz.mixed S rfl (by kernel_rfl) ?_;clear S;intro w9 hk6 hsel S
       refine Ea 0 S hsel rfl rfl rfl (by kernel_rfl) (by kernel_rfl) rfl (fun _ hw=>(Rm (S.tm rfl))) fun a S=>Ea 1 S hsel rfl rfl rfl (by kernel_rfl) (by kernel_rfl) rfl (fun _ hw=>(Kb (S.tm rfl) rfl)) fun a S=>Ea 2 S hsel rfl rfl rfl (by kernel_rfl) (by kernel_rfl) rfl (fun _ hw=>(Rm (S.tm rfl))) fun a S=>Ef 3 S hsel rfl rfl rfl rfl hb3 rfl rfl (by kernel_rfl) (by kernel_rfl) rfl (fun _ hw=>(Rm (S.tm rfl))) fun a S=>Ef 4 S hsel rfl rfl rfl rfl hb3 rfl rfl (by kernel_rfl) (by kernel_rfl) rfl (fun _ hw=>(Rm (S.tm rfl))) fun a S=>Ef 5 S hsel rfl rfl rfl rfl hb3 rfl rfl (by kernel_rfl) (by kernel_rfl) rfl (fun _ hw=>(Iw (S.tm rfl) rfl)) ?_;clear S;intro a S
       obtain ⟨b5,o3,hm3,hr4⟩:=Fk (a:=a) (x:=.tmp 27) (y:=.tmp 29) (ty:=0) Oo (Ai.mono (S.le_arg Eg)) (Dw hc1).1 (Dw hc1).2 (S.tm rfl) (S.tm rfl)
       refine Ef 6 S hsel rfl rfl rfl rfl hb3 rfl rfl (by kernel_rfl) (by kernel_rfl) rfl (fun _ hw=>hr4 _) ?_;clear S;intro a S
       clear hr4
       refine Ef 7 S hsel rfl rfl rfl rfl hb3 rfl rfl (by kernel_rfl) (by kernel_rfl) rfl (fun _ hw=>(Fb isAgg102 sizeOf102 (off:=o3) (o:=0) (part:=(Di.enc (nth Aj (W ((i1 : Int) - 1))))) rfl rfl (S.tm rfl) (hm3.kept hw))) fun a S=>Ef 8 S hsel rfl rfl rfl rfl hb3 rfl rfl (by kernel_rfl) (by kernel_rfl) rfl (fun _ hw=>(Fb isAgg102 sizeOf102 (off:=0) (o:=0) (part:=(Di.enc y1)) rfl rfl (S.tm rfl) ((S.blk_mem (i:=0) (cells:=(Di.enc y1)) (b:=b3) (T:=102) rfl (Hg (e':=.blk b3 (Di.enc y1) 102))).kept hw))) fun a S=>Hb 9 (by kernel_rfl) rfl (Dy S rfl rfl rfl hb3 (Eb S (fun _=>Dq (vs:=[.agg (Di.enc (nth Aj (W ((i1 : Int) - 1)))).toArray,.agg (Di.enc y1).toArray]) ⟨(S.tm rfl),(S.tm rfl),trivial⟩ call118) (IM _ (nth Aj (W ((i1 : Int) - 1))) y1 _ rfl) rfl ?_));clear S;intro v3 a w10 hv3 hk7 hn3 S
       subst hv3
       refine Ld (Hy hk7 (Li [10,11] hsel (by kernel_rfl) rfl ?_))
       clear hsel
       refine Fj S rfl rfl rfl rfl hb3 (Ha S (Rl (S.tm rfl) rfl) rfl fun a S=>Gp S rfl (Pq hb3 (S.tm rfl) (S.tm rfl)) rfl fun a S=>Ij ?_)
       replace S:=S.k16 0 3 4 6 12 13 14 27 28 29 30 31 32 33 34 35 rfl
       exact Tn (⟨decide (0 ≤ (Nw (nth Aj (W ((i1 : Int) - 1))) y1)),h,S.nf [true,true] rfl (subR rfl)⟩)
      ·replace h:=Tj h hb3
       refine Gt [] ([]) Tryz.mixed S rfl (by kernel_rfl) ?_;clear S;intro w11 hk8 hsel S
       refine Li [0,1,2,3,4,5,6,7,8,9,10,11] hsel (by kernel_rfl) rfl ?_
       clear hsel
       refine Gp S rfl (Rm (S.tm rfl)) rfl fun a S=>Gp S rfl (Kb (S.tm rfl) rfl) rfl fun a S=>Gp S rfl (Rm (S.tm rfl)) rfl ?_;clear S;intro a S
       iterate 8 (refine Pn S rfl rfl rfl rfl (Kp hb3) rfl ?_ rfl;clear S;intro a S)
       refine Gp S rfl (Ps hb3 (S.tm rfl) rfl) rfl fun a S=>Ij ?_
       replace S:=S.k8 0 3 4 6 12 13 14 35 rfl
       exact Tn (⟨false,h,S.nf [true,true] rfl (subR rfl)⟩)
     clear S h;rintro a w7 ⟨x3,h,S⟩;rw [hj2] at h;clear hj2 j2
     refine Tn (Fc h (S.tm rfl) (fun hb4 h=>?_) (fun hb4 h=>?_))
     ·refine Fr (Vk S rfl rfl fun a S=>Dl (wp_ret (Dv (Gq (Dv (Dv (Gq ?_)))))))
      refine Dv (Dv ?_)
      obtain rfl:=Option.some.inj h
      exact Et S results72 rfl rfl
     ·refine wp_skip (Tn (Fr (Vm S rfl rfl fun a S=>Vm S rfl rfl fun a S=>Iy 5 (fun a w'=>Keep [] w7 w' ∧ Sx w [] nov [.blk b3 (Di.enc y1) 102,.map b1 (Fi (fun x=>Value.agg (Ev.enc x).toArray) Value.bool x1) x1.length] [(0,Ac),(3,.map (some b1)),(6,.pointer (some ⟨b3,0,none⟩)),(12,Ac),(13,iV (Aj.length : Int)),(14,iV (i1 : Int)),(42,bV (x2 || (Ec x1 (Fl y1) false)))] 48 a w') ?_ ?_)))
      ·rcases Bool.eq_false_or_eq_true x2 with hb5 | hb5
       ·iterate 4 (refine Ht S rfl rfl rfl (Oa hb5) rfl ?_ rfl;clear S;intro a S)
        exact lv S (Mo (Ec x1 (Fl y1) false) hb5 (S.tm rfl) rfl) rfl fun a S=>Dl (⟨Keep.refl _ _,S.nf [true,true] rfl (subR rfl)⟩)
       ·refine Dy S rfl rfl rfl hb5 (Vm S rfl rfl fun a S=>Dy S rfl rfl rfl hb5 (lv S (Fb isAgg102 sizeOf102 (off:=0) (o:=0) (part:=(Di.enc y1)) rfl rfl (S.tm rfl) (S.cellsAt (i:=0) rfl)) rfl fun a S=>Dy S rfl rfl rfl hb5 (Eb S (fun _=>Dq (vs:=[.agg (Di.enc y1).toArray]) ⟨(S.tm rfl),trivial⟩ call119) (Yn _ y1 _ rfl) rfl ?_)));clear S;intro v4 a w13 hv4 hk9 hn4 S
        subst hv4
        exact Dy S rfl rfl rfl hb5 (lv S (Pt (kv:=(fun x=>Value.agg (Ev.enc x).toArray)) (vv:=Value.bool) (m:=x1) (key:=(Fl y1)) (z:=false) (S.map_at (i:=1) rfl) underlying186 GE zeroValue4 (S.tm rfl) (S.tm rfl)) rfl fun a S=>lv S (Mp hb5 (S.tm rfl) (S.tm rfl)) rfl fun a S=>Dl (⟨hk9,S.nf [true,true] rfl (subR rfl)⟩))
      clear S;rintro a w12 ⟨hk10,S⟩
      refine Va S rfl rfl fun a S=>Dl (Fg (Vm S rfl rfl fun a S=>lv S (Fb isAgg102 sizeOf102 (off:=0) (o:=0) (part:=(Di.enc y1)) rfl rfl (S.tm rfl) (S.cellsAt (i:=0) rfl)) rfl fun a S=>Eb S (fun _=>Dq (vs:=[.agg (Di.enc y1).toArray]) ⟨(S.tm rfl),trivial⟩ call119) (Yn _ y1 _ rfl) rfl ?_));clear S;intro v5 a w14 hv5 hk11 hn5 S
      subst hv5
      refine Nm (kv:=(fun x=>Value.agg (Ev.enc x).toArray)) (vv:=Value.bool) (m:=x1) (key:=(Fl y1)) (val:=true) S (i:=1) rfl underlying186 GE (S.tm rfl) (S.tm rfl) rfl ?_;clear S;intro w15 hk12 S
      exact Ld (Hp (Tn (Fg (Vq S Gc rfl rfl rfl fun a S=>Vm S rfl rfl fun a S=>Dl (⟨ys1,⟨i1 + 1,(Gk x1 (Fl y1) true),(x2 || (Ec x1 (Fl y1) false)),⟨_,(hd1).trans (List.append_cons _ _ _),by simp [hi1]⟩,h,S.nf [false,true] rfl ⟨rfl,rfl,rfl,rfl,rfl,(congrArg (fun z=>some (Value.int .i64 z)) (Ib hd1 hi1 (Jp Ai))),trivial⟩⟩,Nat.lt_succ_self _⟩)))))
  clear S h;rintro a w3 ⟨x1,x2,h,S⟩;rw [hj1] at h;clear hj1 j1
  refine Tn (Fs (Fr (Vm S rfl rfl fun a S=>Dl (Fc h (S.tm rfl) (fun hb6 h=>?_) (fun hb6 h=>?_)))))
  ·refine Fr (Vk S rfl rfl fun a S=>Dl (wp_ret (Dv ?_)))
   obtain rfl:=Option.some.inj h
   exact Et S results72 rfl rfl
  ·refine wp_skip (Tn (Fr (Vk S rfl rfl fun a S=>Dl (wp_ret ?_))))
   obtain rfl:=Option.some.inj h
   exact Et S results72 rfl rfl
theorem CH (w : World) (Ax : Value) (Ba : List Int) (Da : (LEnt.own Ax 3 1 Ba.length (Ba.flatMap eInt)).holds w) (r : (List Int)) (h : Pu Ba = some r) :
    Calls prog 151 [Ax].toArray w (Ret w (Ax.ownBlock.toList) fun _ v w'=>(LEnt.own Ax 3 1 r.length (r.flatMap eInt)).holds w' ∧ v = .tuple #[]):=by
 refine Lb (Ax.ownBlock.toList) [.own Ax 3 1 Ba.length (Ba.flatMap eInt)] func151 rfl ntmps151 rfl (fun e he=>by simp only [List.mem_singleton] at he;subst he;exact Da) (Ix _) (Jw _) fun a S=>?_
 unfold Pu at h
 replace S:=(S.nl [.own Ax 3 1 Ba.length (Ba.flatMap eInt)] [true] rfl).k1 0 rfl
 refine Fr (Vm S rfl rfl fun a S=>lv S (Gi Qg (S.tm rfl) (Pb (S.own_at (i:=0) rfl))) rfl fun a S=>Vq S Iw rfl rfl rfl fun a S=>Vk S rfl rfl fun a S=>Va S rfl rfl fun a S=>Dl ?_)
 replace S:=S.k3 0 2 3 rfl
 obtain ⟨j1,hj1,h⟩:=Eu h
 refine Eh (fun a w'=>∃ x1 : List Int,j1 x1 = some r ∧ Sx w (Ax.ownBlock.toList) nov [.own Ax 3 1 x1.length (x1.flatMap eInt)] [] 28 a w') ?_ ?_
 ·refine wp_block (Gr (fun (m1 : Nat) a w'=>∃ x1 : List Int,∃ x2 : Int,∃ x3 : Int,Kf j1 m1 x1 x2 x3 = some r ∧ Sx w (Ax.ownBlock.toList) nov [.own Ax 3 1 x1.length (x1.flatMap eInt)] [(0,Ax),(2,iV x2),(3,iV x3)] 28 a w') id (((W ((Ba.length : Int) - 1)) - 0).toNat + 2) ⟨Ba,0,W ((Ba.length : Int) - 1),h,S.nf [true] rfl (subR rfl)⟩ ?_)
  clear S h;rintro m1 a w1 ⟨x1,x2,x3,h,S⟩
  cases m1 with
  | zero=>rw [Kf.eq_1] at h;cases h
  | succ m1 =>
   rw [Kf.eq_2] at h
   refine Fs (Fr (Vm S rfl rfl fun a S=>Vm S rfl rfl fun a S=>Vb S Es rfl rfl rfl fun a S=>Dl (Fc h (S.tm rfl) (fun hb1 h=>?_) (fun hb1 h=>?_))))
   ·refine wp_skip (Tn (Fs (wp_block ?_)))
    obtain ⟨hc1,h⟩:=Ig h
    obtain ⟨hc2,h⟩:=Ig h
    obtain ⟨hc3,h⟩:=Ig h
    obtain ⟨hc4,h⟩:=Ig h
    refine Gt [13,15] ([]) Tryz.mixed S rfl (by kernel_rfl) ?_;clear S;intro w7 hk5 hsel S
    refine Ew 0 S hsel rfl rfl (by kernel_rfl) (by kernel_rfl) rfl (fun _=>(Rm (S.tm rfl))) fun a S=>Ew 1 S hsel rfl rfl (by kernel_rfl) (by kernel_rfl) rfl (fun _=>(Rm (S.tm rfl))) fun a S=>Ew 2 S hsel rfl rfl (by kernel_rfl) (by kernel_rfl) rfl (fun _=>(Rm (S.tm rfl))) fun a S=>Ew 3 S hsel rfl rfl (by kernel_rfl) (by kernel_rfl) rfl (fun _=>(Rm (S.tm rfl))) fun a S=>Ew 4 S hsel rfl rfl (by kernel_rfl) (by kernel_rfl) rfl (fun _=>(Rm (S.tm rfl))) fun a S=>Ew 5 S hsel rfl rfl (by kernel_rfl) (by kernel_rfl) rfl (fun _=>(Rm (S.tm rfl))) ?_;clear S;intro a S
    obtain ⟨b5,hg5,hr5⟩:=Gh (a:=a) (x:=.tmp 18) (y:=.tmp 19) (ty:=0) Qg Jf S (i:=0) rfl (Dw hc1).1 (Dw hc1).2 (S.tm rfl) (S.tm rfl)
    refine Ew 6 S hsel rfl rfl (by kernel_rfl) (by kernel_rfl) rfl (fun _=>(hr5 _)) ?_;clear S;intro a S
    clear hr5
    refine Ea 7 S hsel rfl (by kernel_rfl) (by kernel_rfl) (by kernel_rfl) (by kernel_rfl) rfl (fun _ hw=>(Hx isAgg3 (off:=x3.toNat * 1) (o:=0) (S.tm rfl) ((Mg Jf S (i:=0) rfl hg5 (Dw hc1).1 (Hg (e':=.own Ax 3 1 x1.length (x1.flatMap eInt)))).kept hw) rfl)) fun a S=>Ew 8 S hsel rfl rfl (by kernel_rfl) (by kernel_rfl) rfl (fun _=>(Rm (S.tm rfl))) fun a S=>Ew 9 S hsel rfl rfl (by kernel_rfl) (by kernel_rfl) rfl (fun _=>(Rm (S.tm rfl))) ?_;clear S;intro a S
    obtain ⟨b6,hg6,hr6⟩:=Gh (a:=a) (x:=.tmp 22) (y:=.tmp 23) (ty:=0) Qg Jf S (i:=0) rfl (Dw hc2).1 (Dw hc2).2 (S.tm rfl) (S.tm rfl)
    refine Ew 10 S hsel rfl rfl (by kernel_rfl) (by kernel_rfl) rfl (fun _=>(hr6 _)) ?_;clear S;intro a S
    clear hr6
    refine Ea 11 S hsel rfl (by kernel_rfl) (by kernel_rfl) (by kernel_rfl) (by kernel_rfl) rfl (fun _ hw=>(Hx isAgg3 (off:=x2.toNat * 1) (o:=0) (S.tm rfl) ((Mg Jf S (i:=0) rfl hg6 (Dw hc2).1 (Hg (e':=.own Ax 3 1 x1.length (x1.flatMap eInt)))).kept hw) rfl)) ?_;clear S;intro a S
    obtain ⟨b7,hg7,hr7⟩:=Gh (a:=a) (x:=.tmp 14) (y:=.tmp 15) (ty:=0) Qg Jf S (i:=0) rfl (Dw hc3).1 (Dw hc3).2 (S.tm rfl) (S.tm rfl)
    refine Ew 12 S hsel rfl rfl (by kernel_rfl) (by kernel_rfl) rfl (fun _=>(hr7 _)) ?_;clear S;intro a S
    clear hr7
    refine Vg 13 (Ax.ownBlock.toList) rfl (by kernel_rfl) rfl (Ob (c:=0) (j:=x2.toNat) (nth x1 x3) Jf S (S.tm rfl) (S.tm rfl) (i:=0) rfl hg7 (Dw hc3).1 sizeOf3 (vs:=[iV (nth x1 x3)]) rfl rfl rfl rfl rfl ?_);clear S;intro w9 hk7 S
    refine Ld (Vh ?_)
    obtain ⟨b8,hg8,hr8⟩:=Gh (a:=a) (x:=.tmp 16) (y:=.tmp 17) (ty:=0) Qg Jf S (i:=0) rfl (Dw hc4).1 (Dw hc4).2 (S.tm rfl) (S.tm rfl)
    refine Ea 14 S hsel rfl rfl rfl (by kernel_rfl) (by kernel_rfl) rfl (fun _ hw=>(hr8 _)) ?_;clear S;intro a S
    clear hr8
    refine Hb 15 (by kernel_rfl) rfl (Ob (c:=0) (j:=x3.toNat) (nth x1 x2) Jf S (S.tm rfl) (S.tm rfl) (i:=0) rfl hg8 (Dw hc4).1 sizeOf3 (vs:=[iV (nth x1 x2)]) rfl rfl rfl rfl rfl ?_);clear S;intro w11 hk9 S
    refine Ld (Hy hk9 (Vt (by kernel_rfl) ?_))
    clear hsel
    replace S:=(S.nl [.own Ax 3 1 ((x1.set x2.toNat (nth x1 x3)).set x3.toNat (nth x1 x2)).length (((x1.set x2.toNat (nth x1 x3)).set x3.toNat (nth x1 x2)).flatMap eInt)] [true] rfl).k3 0 2 3 rfl
    refine Hp (Tn (Fg (Vm S rfl rfl fun a S=>Vq S Gc rfl rfl rfl fun a S=>Vm S rfl rfl fun a S=>Vq S Iw rfl rfl rfl fun a S=>Va S rfl rfl fun a S=>Va S rfl rfl fun a S=>Dl ?_)))
    exact ⟨m1,⟨((x1.set x2.toNat (nth x1 x3)).set x3.toNat (nth x1 x2)),W (x2 + 1),W (x3 - 1),h,S.nf [true] rfl ⟨rfl,rfl,rfl,trivial⟩⟩,Nat.lt_succ_self _⟩
   ·exact wp_exit (Ed (Ed (Gn (Tn (⟨x1,h,S.nf [true] rfl trivial⟩)))))
 clear S h;rintro a w2 ⟨x1,h,S⟩;rw [hj1] at h;clear hj1 j1
 obtain rfl:=Option.some.inj h
 exact Rp S results151 ⟨(S.holds _ (List.mem_of_getElem? (i:=0) rfl)),rfl⟩
def PM (xs : List Di) (j : Nat) : Array Value:=#[iV (j : Int),.agg (Di.enc (nth xs (j : Int))).toArray]
theorem back_in (φ ξ : View) (n Bs : Nat) (sv : Value) (xs : List Di) (hB : φ Bs = some (.cells [sv].toArray 34 (0,0))) (hs : Slc ξ 11 sv (xs.map Di.enc)) (l : Nat) (J : Nat → World → Prop) (w : World) (hJ : ∀ k w,J k w → Emb φ w ∧ Emb ξ w) (h0 : J 0 w)
    (hr : ∀ k x w1,(Zb xs.length)[k]? = some x → J k w1 → YieldAt (WF none) (n - 1) prog l (PM xs x) w1 fun e w'=>e = .returned (.bool true) ∧ J (k + 1) w') :
    CallsIn (WF none) n prog 174 (#[.func (.yield l) #[] #[]] ++ #[.pointer (some ⟨Bs,0,none⟩)]) w fun e w'=>(∃ v,e = .returned v) ∧ J (Zb xs.length).length w':=by
  refine i_enter (vs:=[.func (.yield l) #[] #[],.pointer (some ⟨Bs,0,none⟩)]) func174 rfl ntmps174 rfl fun a S=>?_
  have hlen : (Zb xs.length).length = xs.length:=by simp [Zb]
  have hmx:=Jp hs
  have hQ : ∀ fn a w,¬ bodyPost prog fn (fun e w'=>(∃ v,e = .returned v) ∧ J (Zb xs.length).length w') .outgrown a w:=fun _ _ _ ⟨⟨_,e⟩,_⟩=>by cases e
  have hbox : ∀ {k : Nat} {w : World},J k w → Ta w Bs 0 [sv]:=fun hj=>(Sc hB).at (hJ _ _ hj).1
  have hw : ∀ k : Nat,k ≤ xs.length → W ((xs.length : Int) - 1 - (k : Int)) = (xs.length : Int) - 1 - (k : Int):=fun k hk=>Oj (by omega) (by omega)
  refine Zi (Sk (hQ f174) rfl (lv S (Hx isAgg34 (off:=0) (o:=0) (S.tm rfl) (hbox h0) rfl) rfl fun a S=>lv S (Gi Oo (S.tm rfl) (Gf hs)) rfl fun a S=>lv S (Iw (S.tm rfl) rfl) rfl fun a S=>lv S (Ra (S.tm rfl)) rfl fun a S=>Ld (Tn (wpIn_block (i_loop (fun m a w'=>∃ k : Nat,k ≤ xs.length ∧ m = xs.length - k ∧ J k w' ∧ Sx w' [] nov [] [(0,.func (.yield l) #[] #[]),(1,.pointer (some ⟨Bs,0,none⟩)),(3,iV ((xs.length : Int) - 1 - (k : Int)))] 19 a w') xs.length ⟨0,Nat.zero_le _,rfl,h0,?_⟩ ?_)))))
  · have h1:=(S.rebase (w':=w)).sub (K':=[(0,.func (.yield l) #[] #[]),(1,.pointer (some ⟨Bs,0,none⟩)),(3,iV (W ((xs.length : Int) - 1)))]) (subR rfl)
    have h2:=hw 0 (Nat.zero_le _)
    rw [show (((0 : Nat) : Int)) = 0 from rfl,Int.sub_zero] at h2 ⊢
    rw [h2] at h1
    exact h1
  · clear S;rintro m a w1 ⟨k,hk,rfl,hj,S⟩
    refine Zi (Zi (Sk (hQ f174) rfl (lv S (Rm (S.tm rfl)) rfl fun a S=>lv S (Rl (S.tm rfl) rfl) rfl fun a S=>Ld (Tn (NX (S.tm rfl) (fun hb=>?_) (fun hb=>?_))))))
    · have hb' : (0 : Int) ≤ (xs.length : Int) - 1 - (k : Int):=by simpa using hb
      have hlt : k < xs.length:=by omega
      have hx:=revI_at hlt
      have hy:=hr k _ w1 hx hj
      have hidx : ((xs.length - 1 - k : Nat) : Int) = (xs.length : Int) - 1 - (k : Int):=by omega
      refine wpIn_skip (Tn (Zi (wpIn_block (Zi (wpIn_region_lit (RL S (Rm (S.tm rfl)) (fun _ h=>by cases h) rfl fun a S=>RL S (Rm (S.tm rfl)) (fun _ h=>by cases h) rfl fun a S=>RL S (Hx isAgg34 (off:=0) (o:=0) (S.tm rfl) (hbox hj) rfl) (fun _ h=>by cases h) rfl fun a S=>RL S (Rm (S.tm rfl)) (fun _ h=>by cases h) rfl ?_))))));clear S;intro a S
      obtain ⟨b1,o1,hm1,hr1⟩:=Fk (a:=a) (x:=.tmp 13) (y:=.tmp 14) (ty:=0) Oo hs (nth_q (show xs.length - 1 - k < xs.length by omega)) rfl (S.tm rfl) (S.tm (by rw [hidx];rfl))
      refine RL S (hr1 _) (fun _ h=>by cases h) rfl fun a S=>RL S (Fb isAgg102 sizeOf102 (off:=o1) (o:=0) (part:=(Di.enc (nth xs ((xs.length - 1 - k : Nat) : Int)))) rfl rfl (S.tm rfl) (hm1.at (hJ _ _ hj).2)) (fun _ h=>by cases h) rfl ?_;clear S;intro a S
      have h12 : a.eval (.tmp 12) = iV (((xs.length - 1 - k : Nat)) : Int):=by rw [hidx];exact S.tm rfl
      have h16:=S.tm (t:=16) rfl
      refine n_yield S (S.tm rfl) (vs:=PM xs (xs.length - 1 - k)) (by simp [PM,h12,h16]) rfl hy ?_ (fun e w' h=>⟨_,h.1⟩)
      clear S;rintro v w2 a ⟨hv,hj2⟩ S
      obtain rfl : v = .bool true:=by injection hv
      refine RL S (Ih (S.tm rfl)) (fun _ h=>by cases h) rfl fun a S=>n_done (Tn (NX (S.tm rfl) (fun h=>by cases h) (fun _=>wpIn_skip (Hp (Tn ?_)))))
      refine Sk (fun a w h=>hQ f174 a w h) rfl (lv S (Rm (S.tm rfl)) rfl fun a S=>lv S (Iw (S.tm rfl) rfl) rfl fun a S=>lv S (Ra (S.tm rfl)) rfl fun a S=>Ld (Tn ⟨xs.length - (k + 1),a,by omega,rfl,k + 1,hlt,rfl,hj2,?_⟩))
      have h1:=S.sub (K':=[(0,.func (.yield l) #[] #[]),(1,.pointer (some ⟨Bs,0,none⟩)),(3,iV (W ((xs.length : Int) - 1 - (k : Int) - 1)))]) (subR rfl)
      have h2:=hw (k + 1) hlt
      have h3 : (xs.length : Int) - 1 - ((k + 1 : Nat) : Int) = (xs.length : Int) - 1 - (k : Int) - 1:=by omega
      rw [h3] at h2 ⊢
      rw [h2] at h1
      exact h1
    · have hb' : ¬ (0 : Int) ≤ (xs.length : Int) - 1 - (k : Int):=by simpa using hb
      obtain rfl : k = xs.length:=by omega
      refine wpIn_exit (Ed (Ed (Gn ?_)))
      show bodyPost _ _ _ .normal _ _
      rw [DE]
      refine ⟨S.nodefer,.tuple #[],by rw [results_none results174],⟨_,rfl⟩,?_⟩
      rw [hlen]
      exact hj
theorem back_ok (w : World) (sv : Value) (m : Nat) (hsl : Lp sv m) : Calls prog 150 [sv].toArray w (Ret w [] fun τ v _=>∃ Bs,v = .func (.func 174) #[] #[.pointer (some ⟨Bs,0,none⟩)] ∧ τ Bs = some (.cells [sv].toArray 34 (0,0))):=by
  refine Lb [] [] func150 rfl ntmps150 rfl (by simp) (by simp [fps]) (by simp [fps]) fun a S=>(Fs (Fg (Lw S (S.tm rfl) (cs:=[sv]) (Lp.cells hsl) rfl ?_)));clear S;intro a w1 b1 hz1 hk1 S
  refine lv S (Ra rfl) rfl fun a S=>Ld (Tn (Fs (Fg (lv S (Tk (us:=#[]) (vs:=#[.pointer (some ⟨b1,0,none⟩)]) (by simp) (by simp [S.tm (t:=1) rfl])) rfl fun a S=>lv S (Ra (S.tm rfl)) rfl fun a S=>Ld (Tn (wp_ret ?_))))))
  exact Et S results150 rfl ⟨b1,rfl,blk_ret S (i:=0) rfl rfl⟩
abbrev kvP : Ev → Value:=fun x=>Value.agg (Ev.enc x).toArray
abbrev JV (b1 b2 b3 b4 : Nat) (at_ : Int) (m : List (Ev × Bool)) (x : List Int) (v : Value) : List LEnt :=
  [.own v 3 1 x.length (x.flatMap eInt),.blk b4 [v] 22,.blk b3 [.map (some b2)] 186,.map b2 (Fi kvP Value.bool m) m.length,.blk b1 [iV at_] 3]
set_option maxRecDepth 20000 in
theorem HK (w : World) (v_l : Value) (l : List Di) (hs_l : Slc (view w []) 11 v_l (l.map Di.enc)) (at_ : Int) (r : List Int) (h : Xz l at_ = some r) :
    Calls prog 120 [v_l,iV at_].toArray w (Ret w [] fun τ v _=>Uq τ 3 1 v r.length (r.flatMap eInt)):=by
  have hcons : ∀ {dn is : List Nat} {i : Nat} {k : Nat},Zb l.length = dn ++ i :: is → dn.length = k → (Zb l.length)[k]? = some i:=fun hd hk=>by rw [hd,← hk];simp
  have hQ : ∀ fn a w',¬ bodyPostM (WF none) 3 prog fn (Ret w [] fun τ v _=>Uq τ 3 1 v r.length (r.flatMap eInt)) .outgrown a w':=fun _ _ _ ⟨_,e,_⟩=>by cases e
  refine XO 3 func120 rfl ntmps120 rfl fun a S=>?_
  replace S:=S.nk [] [(0,v_l),(1,iV at_)] [] rfl (subR rfl)
  refine Zi (Sk (hQ f120) rfl (Lw S (S.tm rfl) (cs:=[iV at_]) rfl rfl ?_));clear S;intro a w1 b1 hz1 hk1 S
  refine lv S (Ra rfl) rfl fun a S=>Ld (Tn (Zi (Sk (hQ f120) rfl (Rg (κ:=Ev) (ν:=Bool) S rfl kvP Value.bool ?_))));clear S;intro a w2 b2 hz2 hk2 S
  refine Hq S zeroValue186 (cs:=[.map none]) rfl rfl ?_;clear S;intro a w3 b3 hz3 hk3 S
  refine Ex S (S.tm rfl) (S.tm rfl) (i:=0) (off:=0) rfl sizeOf186 (vs:=[.map (some b2)]) rfl rfl rfl rfl ?_;clear S;intro w4 hk4 S
  refine Ld (Tn (Zi (Sk (hQ f120) rfl (Hq S zeroValue22 (cs:=[.slice none 0 0]) rfl rfl ?_))));clear S;intro a w5 b4 hz5 hk5 S
  replace S:=S.nil 3 1
  refine Ld (Tn (Zi (Zi (Sk (hQ f120) rfl (lv S (Rm (S.tm rfl)) rfl ?_)))));clear S;intro a S
  have hz6:=S.keep.size
  refine Eb S (fun _=>Dq (vs:=[v_l]) ⟨(S.tm rfl),trivial⟩ call150) (back_ok _ v_l _ (Gf hs_l)) rfl ?_;clear S;intro v1 a w6 hv1 hk6 hn1 S
  obtain ⟨φ1,hl1,hm1,S⟩:=S.see' hn1 hz6
  obtain ⟨Bs,rfl,hB⟩:=hv1
  replace hB:=hm1 _ _ hB
  refine Ld (Tn (wpIn_block ?_))
  replace S:=S.nk (JV b1 b2 b3 b4 at_ [] [] (.slice none 0 0)) [(3,.pointer (some ⟨b1,0,none⟩)),(5,.pointer (some ⟨b3,0,none⟩)),(6,.pointer (some ⟨b4,0,none⟩)),(11,.func (.func 174) #[] #[.pointer (some ⟨Bs,0,none⟩)])] [true,true,true,true,true] rfl (subR rfl)
  rw [DE]
  refine i_range (n:=3) (Zb l.length) (PM l) S (S.tm rfl) (fun args w=>call174 args w) (fun _=>rfl)
    (fun ll J W hJ h0 hr=>back_in φ1 (view w []) (3 - 1) Bs v_l l hB hs_l ll J W hJ h0 hr)
    (fun k L'=>∃ m x v,(∃ dn is,Zb l.length = dn ++ is ∧ dn.length = k ∧ Lk l at_ is m x = some r) ∧ L' = JV b1 b2 b3 b4 at_ m x v)
    ⟨[],[],.slice none 0 0,⟨[],_,rfl,rfl,h⟩,rfl⟩ ?_ ?_
  · clear h
    rintro ll D rec k i L' w7 hst hss hx ⟨m,x,v,⟨dn,is,hd,hk,h⟩,rfl⟩ S0
    have hact:=prms2 a 12 13 (iV (i : Int)) (.agg (Di.enc (nth l (i : Int))).toArray) S0.nodefer
    obtain ⟨is',rfl⟩ : ∃ is',is = i :: is':=by
      cases is with
      | nil=>rw [hd,List.append_nil,← hk] at hx;simp at hx
      | cons j is' =>
        have:=hcons hd hk
        rw [hx] at this
        exact ⟨is',by rw [Option.some.inj this]⟩
    unfold PM
    rw [hact]
    have S:=(S0.put (d:=12) (v:=iV (i : Int)) (by decide)).put (d:=13) (v:=.agg (Di.enc (nth l (i : Int))).toArray) (by decide)
    generalize ((a.put (some 12) (iV (i : Int))).put (some 13) (.agg (Di.enc (nth l (i : Int))).toArray)) = a' at S
    refine Zi (Sk (fun _ _ h=>h) rfl (lv S (Ra (S.tm rfl)) rfl fun a S=>Ld (Tn (Sk (fun _ _ h=>h) rfl (Hq S zeroValue102 (cs:=[sV An,iV 0,iV 0,iV 0,sV An,sV An,sV An,iV 0,iV 0,sV An,iV 0]) rfl rfl ?_)))));clear S;intro a w8 b5 hz8 hk8 S
    refine Ex S (S.tm rfl) (S.tm rfl) (i:=0) (off:=0) rfl sizeOf102 (vs:=(Di.enc (nth l (i : Int)))) rfl rfl rfl rfl ?_;clear S;intro w9 hk9 S
    refine Ld (Tn (i_begin S (i:=1) rfl (hst _) ?_));clear S;intro w10 S
    rw [hss] at S
    replace S:=S.nk (.blk b5 (Di.enc (nth l (i : Int))) 102 :: .obj ll (.loop (rec .busy)) :: .obj D (.deferred (some [])) :: JV b1 b2 b3 b4 at_ m x v) [(3,.pointer (some ⟨b1,0,none⟩)),(5,.pointer (some ⟨b3,0,none⟩)),(6,.pointer (some ⟨b4,0,none⟩)),(7,iV (i : Int)),(8,.pointer (some ⟨b5,0,none⟩))] [true,true,true,true,true,true,true,true] rfl (subR rfl)
    rw [Lk] at h
    refine wpIn_block (Zi (i_mid (fun b w'=>∃ a,b = Qb [] a ∧ Sx w [] φ1 (.blk b5 (Di.enc (nth l (i : Int))) 102 :: .obj ll (.loop (rec .busy)) :: .obj D (.deferred (some [])) :: JV b1 b2 b3 b4 at_ m x v) [(3,.pointer (some ⟨b1,0,none⟩)),(5,.pointer (some ⟨b3,0,none⟩)),(6,.pointer (some ⟨b4,0,none⟩)),(7,iV (i : Int)),(8,.pointer (some ⟨b5,0,none⟩)),(23,bV (Xp l at_ i m))] 40 a w') ?_ ?_))
    · rcases Bool.eq_false_or_eq_true (decide (at_ < ((nth l (i : Int)).At))) with hb1 | hb1
      · refine JU [] [] Tryz.mixed rfl S rfl (by kernel_rfl) ?_;clear S;intro w11 hk11 hsel S
        refine Li [0,1,2,3,4,5,6,7,8,9] hsel (by kernel_rfl) rfl (Gp S rfl (Gd Uc (S.tm rfl)) rfl fun a S=>Gp S rfl (Nf isAgg3 (S.tm rfl) (S.cell (i:=0) rfl rfl)) rfl fun a S=>Gp S rfl (Nf isAgg3 (S.tm rfl) (S.cell (i:=7) rfl rfl)) rfl fun a S=>Gp S rfl (Kb (S.tm rfl) (S.tm rfl)) rfl fun a S=>Gp S rfl (Rm (S.tm rfl)) rfl ?_);clear S;intro a S
        iterate 4 (refine Pn S rfl rfl rfl rfl (Oa hb1) rfl ?_ rfl;clear S;intro a S)
        refine Gp S rfl (Pq hb1 (S.tm rfl) rfl) rfl fun a S=>Ij ?_
        have hq : Xp l at_ i m = true:=by unfold Xp;rw [hb1];rfl
        refine Tn ⟨a,rfl,?_⟩
        rw [hq]
        exact S.nk (.blk b5 (Di.enc (nth l (i : Int))) 102 :: .obj ll (.loop (rec .busy)) :: .obj D (.deferred (some [])) :: JV b1 b2 b3 b4 at_ m x v) [(3,.pointer (some ⟨b1,0,none⟩)),(5,.pointer (some ⟨b3,0,none⟩)),(6,.pointer (some ⟨b4,0,none⟩)),(7,iV (i : Int)),(8,.pointer (some ⟨b5,0,none⟩)),(23,bV true)] [true,true,true,true,true,true,true,true] rfl (subR rfl)
      · refine JU [] [] Tryz.mixed rfl S rfl (by kernel_rfl) ?_;clear S;intro w11 hk11 hsel S
        refine Ea 0 S hsel rfl rfl rfl (by kernel_rfl) (by kernel_rfl) rfl (fun _ hw=>(Gd Uc (S.tm rfl))) fun a S=>Ea 1 S hsel rfl rfl rfl (by kernel_rfl) (by kernel_rfl) rfl (fun _ hw=>(Hx isAgg3 (off:=0) (o:=2) (S.tm rfl) ((S.blk_mem (i:=0) (cells:=(Di.enc (nth l (i : Int)))) (b:=b5) (T:=102) rfl (Hg (e':=.blk b5 (Di.enc (nth l (i : Int))) 102))).kept hw) rfl)) fun a S=>Ea 2 S hsel rfl rfl rfl (by kernel_rfl) (by kernel_rfl) rfl (fun _ hw=>(Hx isAgg3 (off:=0) (o:=0) (S.tm rfl) ((S.blk_mem (i:=7) (cells:=[iV at_]) (b:=b1) (T:=3) rfl (Hg (e':=.blk b1 [iV at_] 3))).kept hw) rfl)) fun a S=>Ea 3 S hsel rfl rfl rfl (by kernel_rfl) (by kernel_rfl) rfl (fun _ hw=>(Kb (S.tm rfl) (S.tm rfl))) fun a S=>Ea 4 S hsel rfl rfl rfl (by kernel_rfl) (by kernel_rfl) rfl (fun _ hw=>(Rm (S.tm rfl))) fun a S=>Ef 5 S hsel rfl rfl rfl rfl hb1 rfl rfl (by kernel_rfl) (by kernel_rfl) rfl (fun _ hw=>(Hx isAgg186 (off:=0) (o:=0) (S.tm rfl) ((S.blk_mem (i:=5) (cells:=[.map (some b2)]) (b:=b3) (T:=186) rfl (Hg (e':=.blk b3 [.map (some b2)] 186))).kept hw) rfl)) fun a S=>Ef 6 S hsel rfl rfl rfl rfl hb1 rfl rfl (by kernel_rfl) (by kernel_rfl) rfl (fun _ hw=>(Fb isAgg102 sizeOf102 (off:=0) (o:=0) (part:=(Di.enc (nth l (i : Int)))) rfl rfl (S.tm rfl) ((S.blk_mem (i:=0) (cells:=(Di.enc (nth l (i : Int)))) (b:=b5) (T:=102) rfl (Hg (e':=.blk b5 (Di.enc (nth l (i : Int))) 102))).kept hw))) fun a S=>Hb 7 (by kernel_rfl) rfl (Dy S rfl rfl rfl hb1 (Eb S (fun _=>Dq (vs:=[.agg (Di.enc (nth l (i : Int))).toArray]) ⟨(S.tm rfl),trivial⟩ call119) (Yn _ (nth l (i : Int)) _ rfl) rfl ?_));clear S;intro v3 a w12 hv2 hk9 hn2 S
        subst hv2
        refine Ld (Hy hk9 (Li [8,9] hsel (by kernel_rfl) rfl ?_))
        refine Fj S rfl rfl rfl rfl hb1 (Ha S (Pt (kv:=kvP) (vv:=Value.bool) (m:=m) (key:=(Fl (nth l (i : Int)))) (z:=false) (S.map_at (i:=6) rfl) underlying186 GE zeroValue4 (S.tm rfl) (S.tm rfl)) rfl fun a S=>Gp S rfl (Ps hb1 (S.tm rfl) (S.tm rfl)) rfl fun a S=>Ij ?_)
        have hq : Xp l at_ i m = Ec m (Fl (nth l (i : Int))) false:=by unfold Xp;rw [hb1];rfl
        refine Tn ⟨a,rfl,?_⟩
        rw [hq]
        exact S.nk (.blk b5 (Di.enc (nth l (i : Int))) 102 :: .obj ll (.loop (rec .busy)) :: .obj D (.deferred (some [])) :: JV b1 b2 b3 b4 at_ m x v) [(3,.pointer (some ⟨b1,0,none⟩)),(5,.pointer (some ⟨b3,0,none⟩)),(6,.pointer (some ⟨b4,0,none⟩)),(7,iV (i : Int)),(8,.pointer (some ⟨b5,0,none⟩)),(23,bV (Ec m (Fl (nth l (i : Int))) false))] [true,true,true,true,true,true,true,true] rfl (subR rfl)
    · clear S;rintro _ w11 ⟨a,rfl,S⟩
      refine NX (S.tm rfl) (fun hb2=>?_) (fun hb2=>?_)
      · rw [if_pos hb2] at h
        refine wpIn_exit (Ed (Gn ?_))
        exact ⟨_,⟨m,x,v,⟨dn ++ [i],is',by rw [hd];simp,by simp [hk],h⟩,rfl⟩,S0.back (S.nk (.obj ll (.loop (rec .busy)) :: .obj D (.deferred (some [])) :: JV b1 b2 b3 b4 at_ m x v) [] [false,true,true,true,true,true,true,true] rfl (subR rfl))⟩
      · rw [if_neg (by rw [hb2];simp)] at h
        obtain ⟨hc2,h⟩:=Ig h
        refine wpIn_skip (Tn (i_mid (fun b w'=>∃ a,b = Qb [] a ∧ Sx w [] φ1 (.blk b5 (Di.enc (nth l (i : Int))) 102 :: .obj ll (.loop (rec .busy)) :: .obj D (.deferred (some [])) :: JV b1 b2 b3 b4 at_ (if decide ((nth l (i : Int)).Kind = 4) = true then Gk m (Ev.mk ((nth l (i : Int)).Of) ((nth l (i : Int)).Other)) true else m) x v) [(6,.pointer (some ⟨b4,0,none⟩)),(7,iV (i : Int)),(8,.pointer (some ⟨b5,0,none⟩))] 40 a w') ?_ ?_))
        · refine Zi (Sk (fun _ _ h=>h) rfl (lv S (Gd Pl (S.tm rfl)) rfl ?_));clear S;intro a S
          refine lv S (Nf isAgg3 (S.tm rfl) (S.cell (i:=0) rfl rfl)) rfl fun a S=>lv S (Jk (S.tm rfl) rfl) rfl fun a S=>Ld (Tn (NX (S.tm rfl) (fun hb3=>?_) (fun hb3=>?_)))
          · rw [if_pos hb3]
            refine Sk (fun _ _ h=>h) rfl (lv S (Nf isAgg186 (S.tm rfl) (S.cell (i:=5) rfl rfl)) rfl fun a S=>lv S (Gd Yj (S.tm rfl)) rfl fun a S=>lv S (Nf isAgg9 (S.tm rfl) (S.cell (i:=0) rfl rfl)) rfl fun a S=>lv S (Gd Vs (S.tm rfl)) rfl fun a S=>lv S (Nf isAgg3 (S.tm rfl) (S.cell (i:=0) rfl rfl)) rfl fun a S=>lv S (Nl XK (pv:=[(0,sV ((nth l (i : Int)).Of)),(1,iV ((nth l (i : Int)).Other))]) ⟨rfl,(S.tm rfl),rfl,(S.tm rfl),trivial⟩ (cs:=[sV ((nth l (i : Int)).Of),iV ((nth l (i : Int)).Other)]) (by kernel_rfl)) rfl fun a S=>Nm (kv:=kvP) (vv:=Value.bool) (m:=m) (key:=(Ev.mk ((nth l (i : Int)).Of) ((nth l (i : Int)).Other))) (val:=true) S (i:=6) rfl underlying186 GE (S.tm rfl) (S.tm rfl) rfl ?_);clear S;intro w13 hk10 S
            refine Ld (Tn ⟨a,rfl,?_⟩)
            exact S.nk (.blk b5 (Di.enc (nth l (i : Int))) 102 :: .obj ll (.loop (rec .busy)) :: .obj D (.deferred (some [])) :: JV b1 b2 b3 b4 at_ (Gk m (Ev.mk ((nth l (i : Int)).Of) ((nth l (i : Int)).Other)) true) x v) [(6,.pointer (some ⟨b4,0,none⟩)),(7,iV (i : Int)),(8,.pointer (some ⟨b5,0,none⟩))] [true,true,true,true,true,true,true,true] rfl (subR rfl)
          · rw [if_neg (by rw [hb3];simp)]
            refine wpIn_skip (Tn ⟨a,rfl,?_⟩)
            exact S.nk (.blk b5 (Di.enc (nth l (i : Int))) 102 :: .obj ll (.loop (rec .busy)) :: .obj D (.deferred (some [])) :: JV b1 b2 b3 b4 at_ m x v) [(6,.pointer (some ⟨b4,0,none⟩)),(7,iV (i : Int)),(8,.pointer (some ⟨b5,0,none⟩))] [true,true,true,true,true,true,true,true] rfl (subR rfl)
        · clear S;rintro _ w12 ⟨a,rfl,S⟩
          generalize (if decide ((nth l (i : Int)).Kind = 4) = true then Gk m (Ev.mk ((nth l (i : Int)).Of) ((nth l (i : Int)).Other)) true else m) = m2 at h S
          refine Sk (fun _ _ h=>h) rfl (lv S (Nf isAgg22 (S.tm rfl) (S.cell (i:=4) rfl rfl)) rfl fun a S=>lv S (Rm (S.tm rfl)) rfl fun a S=>Ey S underlying22 sizeOf3 zeroValue3 rfl rfl (pv:=[(0,iV (i : Int))]) ⟨rfl,(S.tm rfl),trivial⟩ (cs:=[iV (i : Int)]) (by kernel_rfl) rfl ?_);clear S;intro a w14 b6 hz5 hk11 S
          refine Ni Qg Jf S (S.tm rfl) (i:=4) rfl (S.tm rfl) (j:=0) rfl (ys:=[(i : Int)]) rfl rfl rfl rfl (by have:=Nu hc2;omega) rfl ?_;clear S;intro v4 a w15 hk12 S
          refine Ex S (S.tm rfl) (S.tm rfl) (i:=5) (off:=0) rfl sizeOf22 (vs:=[v4]) (Lp.cells (Pb (S.own_at (i:=4) rfl))) rfl rfl (Vi (Lp.one (Pb (S.own_at (i:=4) rfl))) rfl) ?_;clear S;intro w16 hk13 S
          refine Ld (Hp ?_)
          exact ⟨_,⟨m2,x ++ [(i : Int)],v4,⟨dn ++ [i],is',by rw [hd];simp,by simp [hk],h⟩,rfl⟩,S0.back (S.nk (.obj ll (.loop (rec .busy)) :: .obj D (.deferred (some [])) :: JV b1 b2 b3 b4 at_ m2 (x ++ [(i : Int)]) v4) [] [false,false,true,true,true,true,true,true,true] rfl (subR rfl))⟩
  · rintro D ll o L' w7 ⟨m,x,v,⟨dn,is,hd,hk,h⟩,rfl⟩ S
    obtain rfl : is = []:=by
      have h1:=congrArg List.length hd
      rw [List.length_append] at h1
      exact List.length_eq_zero_iff.1 (by omega)
    rw [Lk] at h
    refine Hp (Tn (Zi (Sk (hQ f120) rfl (lv S (Nf isAgg22 (S.tm rfl) (S.cell (i:=3) rfl rfl)) rfl fun a S=>Mj 2 S rfl (fun _=>.own v 3 1 r.length (r.flatMap eInt)) (fun _=>Dq (vs:=[v]) ⟨(S.tm rfl),trivial⟩ call151) (CH _ v x (S.holds _ (List.mem_of_getElem? (i:=2) rfl)) _ h) rfl (fun _ _ _ h=>⟨h.1,fun _ hc=>hc⟩) ?_))));clear S;intro v5 a w17 hv3 hk14 hn3 S
    replace hv3:=hv3.2
    subst hv3
    refine Ld (Tn (Zi (Sk (hQ f120) rfl (lv S (Nf isAgg22 (S.tm rfl) (S.cell (i:=3) rfl rfl)) rfl fun a S=>lv S (Ra (S.tm rfl)) rfl fun a S=>Ld (Tn (wpIn_ret ?_))))))
    exact i_ret S (i:=1) rfl results120 rfl (fun w' S=>Ut S (i:=2) rfl rfl)
theorem IP (w : World) (ψ : View) (hψ : View.le ψ (view w [])) (Ad : Jr) (Cc : R32) (Cj : Tt ψ Ad Cc) (Ac : Value) (Aj : List Di) (Ai : Slc ψ 11 Ac (Aj.map Di.enc)) (Bg : Int) (r : (Option Lc)) (h : Wz Ad Aj Bg = some r) :
    Calls prog 74 [.agg (R32.enc Cc).toArray,Ac,iV Bg].toArray w (Ret w [] fun τ v _=>CU (join ψ τ) 133 FY.enc BR v r):=by
 obtain ⟨u1,u2,rfl,hs1,⟨u3,rfl,hs2⟩⟩:=Cj
 refine Fe func74 rfl ntmps74 rfl fun a S=>?_
 unfold Wz at h
 replace S:=S.k3 0 1 2 rfl
 refine Fr (Lw S (S.tm rfl) (cs:=[u1.val,u3.val,iV Ad.Table.Relay,iV Ad.Table.Most,iV Ad.Final.Size,iV Ad.Final.Many,iV Ad.Final.Reserves]) rfl rfl ?_);clear S;intro a w1 b1 hz1 hk1 S
 refine Vk S rfl rfl fun a S=>Dz (lv S (Fb isAgg32 sizeOf32 (off:=0) (o:=0) (part:=[u1.val,u3.val,iV Ad.Table.Relay,iV Ad.Table.Most,iV Ad.Final.Size,iV Ad.Final.Many,iV Ad.Final.Reserves]) rfl rfl (S.tm rfl) (S.cellsAt (i:=0) rfl)) rfl ?_);clear S;intro a S
 refine lv S (Nl bt_133 (pv:=[(0,.agg #[u1.val,u3.val,iV Ad.Table.Relay,iV Ad.Table.Most,iV Ad.Final.Size,iV Ad.Final.Many,iV Ad.Final.Reserves])]) ⟨rfl,(S.tm rfl),trivial⟩ (cs:=[u1.val,u3.val,iV Ad.Table.Relay,iV Ad.Table.Most,iV Ad.Final.Size,iV Ad.Final.Many,iV Ad.Final.Reserves,.slice none 0 0]) (by obtain ⟨_,_,hv⟩:=(Gf hs1);rw [hv];clear hv;obtain ⟨_,_,hv⟩:=(Gf hs2);rw [hv];clear hv;kernel_rfl)) rfl ?_;clear S;intro a S
 refine Lw S (S.tm rfl) (cs:=[u1.val,u3.val,iV Ad.Table.Relay,iV Ad.Table.Most,iV Ad.Final.Size,iV Ad.Final.Many,iV Ad.Final.Reserves,.slice none 0 0]) rfl rfl ?_;clear S;intro a w2 b2 hz2 hk2 S
 replace S:=S.nil 102 11
 refine Va S rfl rfl fun a S=>Dl (Fs (Fr (Vm S rfl rfl fun a S=>Vm S rfl rfl ?_)));clear S;intro a S
 obtain ⟨r1,hr1,h⟩:=Fa h
 have hz3:=S.keep.size
 refine Eb S (fun _=>Dq (vs:=[Ac,iV Bg]) ⟨(S.tm rfl),(S.tm rfl),trivial⟩ call120) (HK _ Ac Aj (Ai.mono (View.le_trans hψ (S.le_arg Eg))) Bg _ hr1) rfl ?_;clear S;intro v1 a w3 hv1 hk3 hn1 S
 obtain ⟨φ1,hl1,hm1,S⟩:=S.see' hn1 hz3
 have hs3:=hv1.mono hm1
 refine lv S (Gi Qg (S.tm rfl) (Gf (Ge Jf hs3))) rfl fun a S=>lv S (Rm rfl) rfl fun a S=>Dl ?_
 replace S:=(S.nl [.own (.slice none 0 0) 102 11 ([] : List Di).length (([] : List Di).flatMap Di.enc),.blk b2 [u1.val,u3.val,iV Ad.Table.Relay,iV Ad.Table.Most,iV Ad.Final.Size,iV Ad.Final.Many,iV Ad.Final.Reserves,(.slice none 0 0)] 133] [true,true,false] rfl).k5 1 7 15 16 17 rfl
 obtain ⟨j1,hj1,h⟩:=Eu h
 refine Eh (fun a w'=>∃ x1 : List Di,∃ v2 : Value,j1 x1 = some r ∧ Sx w [] φ1 [.own v2 102 11 x1.length (x1.flatMap Di.enc),.blk b2 [u1.val,u3.val,iV Ad.Table.Relay,iV Ad.Table.Most,iV Ad.Final.Size,iV Ad.Final.Many,iV Ad.Final.Reserves,v2] 133] [(7,.pointer (some ⟨b2,0,none⟩))] 36 a w') ?_ ?_
 ·refine wp_block (Gr (fun (ys1 : List Int) a w'=>∃ i1 : Nat,∃ x1 : List Di,∃ v2 : Value,(∃ dn,r1 = dn ++ ys1 ∧ dn.length = i1) ∧ Ms Aj j1 ys1 i1 x1 = some r ∧ Sx w [] φ1 [.own v2 102 11 x1.length (x1.flatMap Di.enc),.blk b2 [u1.val,u3.val,iV Ad.Table.Relay,iV Ad.Table.Most,iV Ad.Final.Size,iV Ad.Final.Many,iV Ad.Final.Reserves,v2] 133] [(1,Ac),(7,.pointer (some ⟨b2,0,none⟩)),(15,v1),(16,iV (r1.length : Int)),(17,iV (i1 : Int))] 36 a w') List.length r1 ⟨0,([] : List Di),(.slice none 0 0),⟨[],rfl,rfl⟩,h,S.nf [true,true] rfl (subR rfl)⟩ ?_)
  clear S h;rintro ys1 a w4 ⟨i1,x1,v2,⟨dn,hd1,hi1⟩,h,S⟩
  cases ys1 with
  | nil =>
   rw [Ms.eq_1] at h
   refine Fr (Vb S Es rfl rfl rfl fun a S=>Ld ?_)
   replace S:=S.k6 1 7 15 16 17 18 rfl
   exact Tn (Fs (wp_cond_false ((S.tm rfl).trans (congrArg Value.bool (Jd hd1 hi1))) (wp_exit (Ed (Ed (Gn (Tn (⟨x1,v2,h,S.nf [true,true] rfl ⟨rfl,trivial⟩⟩))))))))
  | cons y1 ys1 =>
   rw [Ms.eq_2] at h
   refine Fr (Vb S Es rfl rfl rfl fun a S=>Ld ?_)
   replace S:=S.k6 1 7 15 16 17 18 rfl
   refine Tn (Fs (wp_cond_true ((S.tm rfl).trans (congrArg Value.bool (Ia hd1 hi1))) (wp_skip (Tn (Fs (wp_block (Fs (Fg ?_))))))))
   obtain ⟨b3,o1,hm2,hr2⟩:=Fk (a:=a) (x:=.tmp 15) (y:=.tmp 17) (ty:=0) Qg (Ge Jf hs3) (Jc hd1 hi1) rfl (S.tm rfl) (S.tm rfl)
   refine lv S (hr2 _) rfl ?_;clear S;intro a S
   clear hr2
   refine lv S (Hx isAgg3 (off:=o1) (o:=0) (S.tm rfl) (hm2.at S.emb) rfl) rfl fun a S=>Va S rfl rfl fun a S=>Dl ?_
   obtain ⟨hc1,h⟩:=Ig h
   obtain ⟨hc2,h⟩:=Ig h
   refine Gt [13] (v2.ownBlock.toList) Tryz.mixed S rfl (by kernel_rfl) ?_;clear S;intro w9 hk7 hsel S
   refine Ew 0 S hsel rfl rfl (by kernel_rfl) (by kernel_rfl) rfl (fun _=>(Rm (S.tm rfl))) fun a S=>Ew 1 S hsel rfl rfl (by kernel_rfl) (by kernel_rfl) rfl (fun _=>(Rm (S.tm rfl))) fun a S=>Ew 2 S hsel rfl rfl (by kernel_rfl) (by kernel_rfl) rfl (fun _=>(Lv (S.tm rfl))) fun a S=>Ew 3 S hsel rfl rfl (by kernel_rfl) (by kernel_rfl) rfl (fun _=>(Gd GC (S.tm rfl))) fun a S=>Ea 4 S hsel rfl (by kernel_rfl) (by kernel_rfl) (by kernel_rfl) (by kernel_rfl) rfl (fun _ hw=>(Hx isAgg34 (off:=0) (o:=7) (S.tm rfl) ((S.blk_mem (i:=1) (cells:=[u1.val,u3.val,iV Ad.Table.Relay,iV Ad.Table.Most,iV Ad.Final.Size,iV Ad.Final.Many,iV Ad.Final.Reserves,v2]) (b:=b2) (T:=133) rfl (Nc (i:=0) (j:=1) (e:=.own v2 102 11 x1.length (x1.flatMap Di.enc)) (e':=.blk b2 [u1.val,u3.val,iV Ad.Table.Relay,iV Ad.Table.Most,iV Ad.Final.Size,iV Ad.Final.Many,iV Ad.Final.Reserves,v2] 133) S rfl rfl rfl)).kept hw) rfl)) fun a S=>Ew 5 S hsel rfl rfl (by kernel_rfl) (by kernel_rfl) rfl (fun _=>(Rm (S.tm rfl))) fun a S=>Ew 6 S hsel rfl rfl (by kernel_rfl) (by kernel_rfl) rfl (fun _=>(Rm (S.tm rfl))) ?_;clear S;intro a S
   obtain ⟨b6,o3,hm4,hr4⟩:=Fk (a:=a) (x:=.tmp 26) (y:=.tmp 27) (ty:=0) Oo (Ai.mono (View.le_trans hψ (S.le_arg (Jn (i:=0) (e:=.own v2 102 11 x1.length (x1.flatMap Di.enc)) rfl)))) (Dw hc1).1 (Dw hc1).2 (S.tm rfl) (S.tm rfl)
   refine Ew 7 S hsel rfl rfl (by kernel_rfl) (by kernel_rfl) rfl (fun _=>hr4 _) ?_;clear S;intro a S
   clear hr4
   refine Ea 8 S hsel rfl (by kernel_rfl) (by kernel_rfl) (by kernel_rfl) (by kernel_rfl) rfl (fun _ hw=>(Fb isAgg102 sizeOf102 (off:=o3) (o:=0) (part:=(Di.enc (nth Aj y1))) rfl rfl (S.tm rfl) (hm4.kept hw))) fun a S=>Hb 9 (by kernel_rfl) rfl (Ey S underlying34 sizeOf102 zeroValue102 rfl rfl (pv:=[(0,.agg (Di.enc (nth Aj y1)).toArray)]) ⟨rfl,(S.tm rfl),trivial⟩ (cs:=[sV ((nth Aj y1).Site),iV ((nth Aj y1).No),iV ((nth Aj y1).At),iV ((nth Aj y1).Kind),sV ((nth Aj y1).Who),sV ((nth Aj y1).Club),sV ((nth Aj y1).Race),iV ((nth Aj y1).Time),iV ((nth Aj y1).Fault),sV ((nth Aj y1).Of),iV ((nth Aj y1).Other)]) (by kernel_rfl) rfl ?_);clear S;intro a w10 b7 hz5 hk8 S
   refine Ld (Hy (Keep.none hk8) (Hb 10 (by kernel_rfl) rfl ?_))
   refine Ni Oo Di.enc_ok S (S.tm rfl) (i:=1) rfl (S.tm rfl) (j:=0) rfl (ys:=[(nth Aj y1)]) rfl rfl rfl rfl (by have:=Nu hc2;omega) rfl ?_;clear S;intro v4 a w11 hk9 S
   refine Ld (Hy hk9 (Ew 11 S hsel rfl rfl (by kernel_rfl) (by kernel_rfl) rfl (fun _=>(Lv (S.tm rfl))) fun a S=>Ew 12 S hsel rfl rfl (by kernel_rfl) (by kernel_rfl) rfl (fun _=>(Gd GC (S.tm rfl))) fun a S=>Vg 13 (v4.ownBlock.toList ++ [b2]) rfl (by kernel_rfl) rfl (Ex S (S.tm rfl) (S.tm rfl) (i:=2) (off:=7) rfl sizeOf34 (vs:=[v4]) (Lp.cells (Pb (S.own_at (i:=1) rfl))) rfl rfl (Vi (Lp.one (Pb (S.own_at (i:=1) rfl))) rfl) ?_)));clear S;intro w12 hk10 S
   refine Ld (Vh (Vt (by kernel_rfl) ?_))
   clear hsel
   replace S:=(S.nl [.own v4 102 11 (x1 ++ [(nth Aj y1)]).length ((x1 ++ [(nth Aj y1)]).flatMap Di.enc),.blk b2 [u1.val,u3.val,iV Ad.Table.Relay,iV Ad.Table.Most,iV Ad.Final.Size,iV Ad.Final.Many,iV Ad.Final.Reserves,v4] 133] [false,true,true] rfl).k5 1 7 15 16 17 rfl
   exact Hp (Tn (Fg (Vq S Gc rfl rfl rfl fun a S=>Vm S rfl rfl fun a S=>Dl (⟨ys1,⟨i1 + 1,(x1 ++ [(nth Aj y1)]),v4,⟨_,(hd1).trans (List.append_cons _ _ _),by simp [hi1]⟩,h,S.nf [true,true] rfl ⟨rfl,rfl,rfl,rfl,(congrArg (fun z=>some (Value.int .i64 z)) (Ib hd1 hi1 (Jp (Ge Jf hs3)))),trivial⟩⟩,Nat.lt_succ_self _⟩))))
 clear S h;rintro a w5 ⟨x1,v2,h,S⟩;rw [hj1] at h;clear hj1 j1
 refine Tn (Fr (Vm S rfl rfl fun a S=>Va S rfl rfl fun a S=>Dl (wp_ret ?_)))
 obtain ⟨φ2,hl2,hs4,S⟩:=S.freezeT (xs:=x1) (enc:=Di.enc) (i:=0) rfl (fun _ h=>by cases h)
 replace S:=S.nk [.blk b2 [u1.val,u3.val,iV Ad.Table.Relay,iV Ad.Table.Most,iV Ad.Final.Size,iV Ad.Final.Many,iV Ad.Final.Reserves,v2] 133] [(6,.pointer (some ⟨b2,0,none⟩)),(7,.pointer (some ⟨b2,0,none⟩)),(35,.pointer (some ⟨b2,0,none⟩))] [] rfl (subR rfl)
 obtain ⟨φ3,hl3,hb1,S⟩:=S.freezeB (i:=0) rfl (by simp)
 replace S:=S.nk [] [(6,.pointer (some ⟨b2,0,none⟩)),(7,.pointer (some ⟨b2,0,none⟩)),(35,.pointer (some ⟨b2,0,none⟩))] [] rfl (subR rfl)
 obtain rfl:=Option.some.inj h
 exact Et S results74 rfl (CU.mk (FY.mk (R32.mk u1 (R28.mk u3 Ad.Table.Relay Ad.Table.Most) Ad.Final) ⟨v2,Lp.one (Gf (Ge Di.enc_ok hs4))⟩) (Sg (Zx hψ S.le_newer) _ _ ⟨(R32.mk u1 (R28.mk u3 Ad.Table.Relay Ad.Table.Most) Ad.Final),⟨v2,Lp.one (Gf (Ge Di.enc_ok hs4))⟩,rfl,⟨u1,(R28.mk u3 Ad.Table.Relay Ad.Table.Most),rfl,(hs1.mono (le_join_left _ _)),⟨u3,rfl,(hs2.mono (le_join_left _ _))⟩⟩,((Ge Di.enc_ok hs4).mono (View.le_trans hl3 (S.all_right hψ)))⟩) ((Zx hψ S.le_newer) _ _ ((S.all_right hψ) _ _ hb1)))
set_option maxRecDepth 20000 in
theorem GH (w : World) (ψ : View) (hψ : View.le ψ (view w [])) (Ad : Jr) (Cc : R32) (Cj : Tt ψ Ad Cc) (Ac : Value) (Aj : List Di) (Ai : Slc ψ 11 Ac (Aj.map Di.enc)) (Cv : Value) (Bg : List Int) (Cs : Slc ψ 1 Cv (Bg.map eInt)) (r : (Option Lc) × Int) (h : Za Ad Aj Bg = some r) :
    Calls prog 31 [.agg (R32.enc Cc).toArray,Ac,Cv].toArray w (Ret w [] fun τ v _=>∃ u1 : Value,v = .tuple #[u1,iV r.2] ∧ CU (join ψ τ) 133 FY.enc BR u1 r.1):=by
 obtain ⟨u1,u2,rfl,hs1,⟨u3,rfl,hs2⟩⟩:=Cj
 refine Fe func31 rfl ntmps31 rfl fun a S=>?_
 unfold Za at h
 replace S:=S.k3 0 1 2 rfl
 refine Fr (Lw S (S.tm rfl) (cs:=[u1.val,u3.val,iV Ad.Table.Relay,iV Ad.Table.Most,iV Ad.Final.Size,iV Ad.Final.Many,iV Ad.Final.Reserves]) rfl rfl ?_);clear S;intro a w1 b1 hz1 hk1 S
 refine Vk S rfl rfl fun a S=>Vk S rfl rfl fun a S=>Dl (Fs (Fr (lv S (Fb isAgg32 sizeOf32 (off:=0) (o:=0) (part:=[u1.val,u3.val,iV Ad.Table.Relay,iV Ad.Table.Most,iV Ad.Final.Size,iV Ad.Final.Many,iV Ad.Final.Reserves]) rfl rfl (S.tm rfl) (S.cellsAt (i:=0) rfl)) rfl ?_)));clear S;intro a S
 obtain ⟨r1,hr1,h⟩:=Fa h
 refine Eb S (fun _=>Dq (vs:=[.agg (R32.enc (R32.mk u1 (R28.mk u3 Ad.Table.Relay Ad.Table.Most) Ad.Final)).toArray]) ⟨(S.tm rfl),trivial⟩ call71) (GF _ Ad (R32.mk u1 (R28.mk u3 Ad.Table.Relay Ad.Table.Most) Ad.Final) ⟨u1,(R28.mk u3 Ad.Table.Relay Ad.Table.Most),rfl,(hs1.mono (View.le_trans hψ (S.le_arg Eg))),⟨u3,rfl,(hs2.mono (View.le_trans hψ (S.le_arg Eg)))⟩⟩ _ hr1) rfl ?_;clear S;intro v1 a w2 hv1 hk2 hn1 S
 subst hv1
 refine Va S rfl rfl fun a S=>Dz (Vm S rfl rfl fun a S=>Vq S Mn rfl rfl rfl fun a S=>Dl (Fc h (S.tm rfl) (fun hb1 h=>?_) (fun hb1 h=>?_)))
 ·refine Fr (Vm S rfl rfl fun a S=>Vk S rfl rfl fun a S=>Va S rfl rfl fun a S=>Dl (wp_ret (Dv ?_)))
  obtain rfl:=Option.some.inj h
  exact Mq S results31 rfl rfl ⟨_,rfl,rfl⟩
 ·refine wp_skip (Tn (Fs (Fr (Vm S rfl rfl ?_))));clear S;intro a S
  obtain ⟨r2,hr2,h⟩:=Fa h
  refine Eb S (fun _=>Dq (vs:=[Ac]) ⟨(S.tm rfl),trivial⟩ call72) (FJ _ Ac Aj (Ai.mono (View.le_trans hψ (S.le_arg Eg))) _ hr2) rfl ?_;clear S;intro v2 a w3 hv2 hk3 hn2 S
  subst hv2
  refine Va S rfl rfl fun a S=>Dz (Vm S rfl rfl fun a S=>Vq S Mn rfl rfl rfl fun a S=>Ld ?_)
  replace S:=(S.nl [.blk b1 [u1.val,u3.val,iV Ad.Table.Relay,iV Ad.Table.Most,iV Ad.Final.Size,iV Ad.Final.Many,iV Ad.Final.Reserves] 32] [true] rfl).k5 1 2 3 9 20 rfl
  refine Tn (Fc h (S.tm rfl) (fun hb2 h=>?_) (fun hb2 h=>?_))
  ·refine Fr (Vm S rfl rfl fun a S=>Vk S rfl rfl fun a S=>Va S rfl rfl fun a S=>Dl (wp_ret (Dv ?_)))
   obtain rfl:=Option.some.inj h
   exact Mq S results31 rfl rfl ⟨_,rfl,rfl⟩
  ·refine wp_skip (Tn (Fs (Fr (Vm S rfl rfl fun a S=>lv S (Gi Qg (S.tm rfl) (Gf Cs)) rfl fun a S=>lv S (Rm rfl) rfl fun a S=>Dl ?_))))
   replace S:=S.k6 1 2 3 22 23 24 rfl
   obtain ⟨j1,hj1,h⟩:=Eu h
   refine Eh (fun a w'=>j1 = some r ∧ Sx w [] nov [.blk b1 [u1.val,u3.val,iV Ad.Table.Relay,iV Ad.Table.Most,iV Ad.Final.Size,iV Ad.Final.Many,iV Ad.Final.Reserves] 32] [(1,Ac),(2,Cv),(3,.pointer (some ⟨b1,0,none⟩))] 41 a w') ?_ ?_
   ·refine wp_block (Gr (fun (ys1 : List Int) a w'=>∃ i1 : Nat,(∃ dn,Bg = dn ++ ys1 ∧ dn.length = i1) ∧ Py j1 ys1 i1 = some r ∧ Sx w [] nov [.blk b1 [u1.val,u3.val,iV Ad.Table.Relay,iV Ad.Table.Most,iV Ad.Final.Size,iV Ad.Final.Many,iV Ad.Final.Reserves] 32] [(1,Ac),(2,Cv),(3,.pointer (some ⟨b1,0,none⟩)),(22,Cv),(23,iV (Bg.length : Int)),(24,iV (i1 : Int))] 41 a w') List.length Bg ⟨0,⟨[],rfl,rfl⟩,h,S.nf [true] rfl (subR rfl)⟩ ?_)
    clear S h;rintro ys1 a w4 ⟨i1,⟨dn,hd1,hi1⟩,h,S⟩
    cases ys1 with
    | nil =>
     rw [Py.eq_1] at h
     refine Fr (Vb S Es rfl rfl rfl fun a S=>Ld ?_)
     replace S:=S.k7 1 2 3 22 23 24 25 rfl
     exact Tn (Fs (wp_cond_false ((S.tm rfl).trans (congrArg Value.bool (Jd hd1 hi1))) (wp_exit (Ed (Ed (Gn (Tn (⟨h,S.nf [true] rfl (subR rfl)⟩))))))))
    | cons y1 ys1 =>
     rw [Py.eq_2] at h
     refine Fr (Vb S Es rfl rfl rfl fun a S=>Ld ?_)
     replace S:=S.k7 1 2 3 22 23 24 25 rfl
     refine Tn (Fs (wp_cond_true ((S.tm rfl).trans (congrArg Value.bool (Ia hd1 hi1))) (wp_skip (Tn (Fs (wp_block (Fs (Fg ?_))))))))
     obtain ⟨b2,o1,hm1,hr3⟩:=Fk (a:=a) (x:=.tmp 22) (y:=.tmp 24) (ty:=0) Qg Cs (Jc hd1 hi1) rfl (S.tm rfl) (S.tm rfl)
     refine lv S (hr3 _) rfl ?_;clear S;intro a S
     clear hr3
     refine lv S (Hx isAgg3 (off:=o1) (o:=0) (S.tm rfl) (hm1.at (RD hψ S.emb0)) rfl) rfl fun a S=>Va S rfl rfl fun a S=>Dz (Vm S rfl rfl fun a S=>Eb S (fun _=>Dq (vs:=[iV y1]) ⟨(S.tm rfl),trivial⟩ call73) (Xh _ y1 _ rfl) rfl ?_);clear S;intro v3 a w6 hv3 hk4 hn3 S
     subst hv3
     refine Vu S Ih rfl rfl fun a S=>Dl (Fc h (S.tm rfl) (fun hb3 h=>?_) (fun hb3 h=>?_))
     ·refine Fr (Vk S rfl rfl fun a S=>Vk S rfl rfl fun a S=>Ld ?_)
      replace S:=S.n0.k2 6 7 rfl
      refine Tn (wp_ret (Gq (Dv (Dv (Gq (Dv (Dv ?_)))))))
      obtain rfl:=Option.some.inj h
      exact Mq S results31 rfl rfl ⟨_,rfl,rfl⟩
     ·exact wp_skip (Hp (Tn (Fg (Vq S Gc rfl rfl rfl fun a S=>Vm S rfl rfl fun a S=>Dl (⟨ys1,⟨i1 + 1,⟨_,(hd1).trans (List.append_cons _ _ _),by simp [hi1]⟩,h,S.nf [true] rfl ⟨rfl,rfl,rfl,rfl,rfl,(congrArg (fun z=>some (Value.int .i64 z)) (Ib hd1 hi1 (Jp Cs))),trivial⟩⟩,Nat.lt_succ_self _⟩)))))
   clear S h;rintro a w5 ⟨h,S⟩;rw [hj1] at h;clear hj1 j1
   refine Tn (Fs ?_)
   obtain ⟨hc1,h⟩:=Ig h
   obtain ⟨r3,hr5,h⟩:=Fa h
   refine Gt [] ([]) Tryz.mixed S rfl (by kernel_rfl) ?_;clear S;intro w8 hk6 hsel S
   refine Ea 0 S hsel rfl rfl rfl (by kernel_rfl) (by kernel_rfl) rfl (fun _ hw=>(Fb isAgg32 sizeOf32 (off:=0) (o:=0) (part:=[u1.val,u3.val,iV Ad.Table.Relay,iV Ad.Table.Most,iV Ad.Final.Size,iV Ad.Final.Many,iV Ad.Final.Reserves]) rfl rfl (S.tm rfl) ((S.blk_mem (i:=0) (cells:=[u1.val,u3.val,iV Ad.Table.Relay,iV Ad.Table.Most,iV Ad.Final.Size,iV Ad.Final.Many,iV Ad.Final.Reserves]) (b:=b1) (T:=32) rfl (Hg (e':=.blk b1 [u1.val,u3.val,iV Ad.Table.Relay,iV Ad.Table.Most,iV Ad.Final.Size,iV Ad.Final.Many,iV Ad.Final.Reserves] 32))).kept hw))) fun a S=>Ea 1 S hsel rfl rfl rfl (by kernel_rfl) (by kernel_rfl) rfl (fun _ hw=>(Rm (S.tm rfl))) fun a S=>Ea 2 S hsel rfl rfl rfl (by kernel_rfl) (by kernel_rfl) rfl (fun _ hw=>(Rm (S.tm rfl))) fun a S=>Ea 3 S hsel rfl rfl rfl (by kernel_rfl) (by kernel_rfl) rfl (fun _ hw=>(Rm (S.tm rfl))) fun a S=>Ea 4 S hsel rfl rfl rfl (by kernel_rfl) (by kernel_rfl) rfl (fun _ hw=>(Gi Qg (S.tm rfl) (Gf Cs))) fun a S=>Ea 5 S hsel rfl rfl rfl (by kernel_rfl) (by kernel_rfl) rfl (fun _ hw=>(Iw (S.tm rfl) rfl)) ?_;clear S;intro a S
   obtain ⟨b4,o3,hm4,hr6⟩:=Fk (a:=a) (x:=.tmp 34) (y:=.tmp 37) (ty:=0) Qg (Cs.mono (View.le_trans hψ (S.le_arg Eg))) (Dw hc1).1 (Dw hc1).2 (S.tm rfl) (S.tm rfl)
   refine Ea 6 S hsel rfl rfl rfl (by kernel_rfl) (by kernel_rfl) rfl (fun _ hw=>hr6 _) ?_;clear S;intro a S
   clear hr6
   refine Ea 7 S hsel rfl rfl rfl (by kernel_rfl) (by kernel_rfl) rfl (fun _ hw=>(Hx isAgg3 (off:=o3) (o:=0) (S.tm rfl) (hm4.kept hw) rfl)) fun a S=>Hb 8 (by kernel_rfl) rfl ?_
   have hz3:=S.keep.size
   refine Eb S (fun _=>Dq (vs:=[.agg (R32.enc (R32.mk u1 (R28.mk u3 Ad.Table.Relay Ad.Table.Most) Ad.Final)).toArray,Ac,iV (nth Bg (W ((Bg.length : Int) - 1)))]) ⟨(S.tm rfl),(S.tm rfl),(S.tm rfl),trivial⟩ call74) (IP _ (join ψ nov) (Pw (View.le_trans hψ (S.le_arg Eg)) (S.le_new Eg)) Ad (R32.mk u1 (R28.mk u3 Ad.Table.Relay Ad.Table.Most) Ad.Final) ⟨u1,(R28.mk u3 Ad.Table.Relay Ad.Table.Most),rfl,(hs1.mono (le_join_left _ _)),⟨u3,rfl,(hs2.mono (le_join_left _ _))⟩⟩ Ac Aj (Ai.mono (le_join_left _ _)) (nth Bg (W ((Bg.length : Int) - 1))) _ hr5) rfl ?_;clear S;intro v5 a w9 hv5 hk7 hn5 S
   obtain ⟨φ2,hl2,hm5,S⟩:=S.see' hn5 hz3
   have hq2:=CU.mono (Sg (Tx hl2 hm5)) (Tx hl2 hm5) hv5
   refine Ld (Hy hk7 (Li [9,10] hsel (by kernel_rfl) rfl ?_))
   clear hsel
   refine Gp S rfl (Ra (S.tm rfl)) rfl fun a S=>Gp S rfl (Ra rfl) rfl fun a S=>Ij ?_
   replace S:=S.n0.k2 6 7 rfl
   refine Tn (wp_ret ?_)
   obtain rfl:=Option.some.inj h
   exact Mq S results31 rfl rfl ⟨_,rfl,(CU.mono (Sg (Zx hψ S.le_newer)) (Zx hψ S.le_newer) hq2)⟩
theorem HL (w : World) (Au : Du) (By : Nat) (Bj : ByteArray) (Bz : (view w []) By = some (.cells [sV Bj].toArray 9 (0,0))) (r : Bool) (h : Ya Au Bj = r) :
    Calls prog 101 [.agg (Du.enc Au).toArray,.pointer (some ⟨By,0,none⟩)].toArray w (Ret w [] fun _ v _=>v = bV r):=by
 refine Fe func101 rfl ntmps101 rfl fun a S=>?_
 unfold Ya at h
 replace S:=S.k2 0 1 rfl
 refine Fr (Lw S (S.tm rfl) (cs:=(Du.enc Au)) rfl rfl ?_);clear S;intro a w1 b1 hz1 hk1 S
 refine Vk S rfl rfl fun a S=>Dz (Vf Vr S rfl rfl fun a S=>Vl isAgg9 0 S rfl rfl rfl rfl fun a S=>lv S (Hx isAgg9 (off:=0) (o:=0) (S.tm rfl) ((Sc Bz).at S.emb0) rfl) rfl fun a S=>Vb S Xy rfl rfl rfl fun a S=>Va S rfl rfl fun a S=>Ld ?_)
 refine Tn (wp_ret ?_)
 subst h
 exact Et S results101 rfl rfl
theorem Vc (w : World) (Ax : Value) (Ba : List Du) (Bf : Slc (view w []) 8 Ax (Ba.map Du.enc)) (Az : Nat) (Aw : ByteArray) (Bh : (view w []) Az = some (.cells [sV Aw].toArray 9 (0,0))) (r : Int) (h : Gv Ba Aw = r) :
    Calls prog 100 [Ax,.func (.func 101) #[] #[.pointer (some ⟨Az,0,none⟩)]].toArray w (Ret w [] fun _ v _=>v = iV r):=by
 refine Fe func100 rfl ntmps100 rfl fun a S=>?_
 unfold Gv at h
 replace S:=S.k2 0 1 rfl
 refine Fr (Vk S rfl rfl fun a S=>Dl (Fs (Fr (Vm S rfl rfl fun a S=>lv S (Gi Sh (S.tm rfl) (Gf Bf)) rfl fun a S=>lv S (Rm rfl) rfl ?_))));clear S;intro a S
 refine Dl ?_
 replace S:=S.k4 0 1 7 8 rfl
 obtain ⟨j1,hj1,h⟩:=Eu h
 refine Eh (fun a w'=>j1 = r ∧ Sx w [] nov [] [] 19 a w') ?_ ?_
 ·refine wp_block (Gr (fun (ys1 : List Du) a w'=>∃ i1 : Nat,(∃ dn,Ba = dn ++ ys1 ∧ dn.length = i1) ∧ Gu Aw j1 ys1 i1 = r ∧ Sx w [] nov [] [(0,Ax),(1,.func (.func 101) #[] #[.pointer (some ⟨Az,0,none⟩)]),(7,iV (Ba.length : Int)),(8,iV (i1 : Int))] 19 a w') List.length Ba ⟨0,⟨[],rfl,rfl⟩,h,S.nf [] rfl (subR rfl)⟩ ?_)
  clear S h;rintro ys1 a w1 ⟨i1,⟨dn,hd1,hi1⟩,h,S⟩
  cases ys1 with
  | nil =>
   rw [Gu.eq_1] at h
   refine Fr (Vb S Es rfl rfl rfl fun a S=>Ld ?_)
   replace S:=S.k5 0 1 7 8 9 rfl
   exact Tn (Fs (wp_cond_false ((S.tm rfl).trans (congrArg Value.bool (Jd hd1 hi1))) (wp_exit (Ed (Ed (Gn (Tn (⟨h,S.nf [] rfl trivial⟩))))))))
  | cons y1 ys1 =>
   rw [Gu.eq_2] at h
   refine Fr (Vb S Es rfl rfl rfl fun a S=>Ld ?_)
   replace S:=S.k5 0 1 7 8 9 rfl
   refine Tn (Fs (wp_cond_true ((S.tm rfl).trans (congrArg Value.bool (Ia hd1 hi1))) (wp_skip (Tn (Fs (wp_block (Fr (Vm S rfl rfl fun a S=>Va S rfl rfl ?_))))))));clear S;intro a S
   refine Dl (Fs (Fg ?_))
   iterate 3 (refine Vm S rfl rfl ?_;clear S;intro a S)
   obtain ⟨b1,o1,hm1,hr1⟩:=Fk (a:=a) (x:=.tmp 12) (y:=.tmp 13) (ty:=0) Sh Bf (Jc hd1 hi1) rfl (S.tm rfl) (S.tm rfl)
   refine lv S (hr1 _) rfl ?_;clear S;intro a S
   clear hr1
   refine lv S (Fb isAgg40 sizeOf40 (off:=o1) (o:=0) (part:=(Du.enc y1)) rfl rfl (S.tm rfl) (hm1.at S.emb0)) rfl fun a S=>Eb S (fun _=>Rf (cap:=[.pointer (some ⟨Az,0,none⟩)]) (S.tm rfl) (vs:=[.agg (Du.enc y1).toArray]) ⟨(S.tm rfl),trivial⟩ call101) (HL _ y1 Az Aw ((S.le_arg Eg) _ _ Bh) _ rfl) rfl ?_;clear S;intro v1 a w3 hv1 hk1 hn1 S
   subst hv1
   refine Dl (Fc h (S.tm rfl) (fun hb1 h=>?_) (fun hb1 h=>?_))
   ·refine Fr (Vm S rfl rfl fun a S=>Va S rfl rfl fun a S=>Ld ?_)
    replace S:=S.k1 4 rfl
    refine Tn (wp_ret (Gq (Dv (Dv (Gq (Dv (Dv ?_)))))))
    subst h
    exact Et S results100 rfl rfl
   ·exact wp_skip (Hp (Tn (Fg (Vq S Gc rfl rfl rfl fun a S=>Vm S rfl rfl fun a S=>Dl (⟨ys1,⟨i1 + 1,⟨_,(hd1).trans (List.append_cons _ _ _),by simp [hi1]⟩,h,S.nf [] rfl ⟨rfl,rfl,rfl,(congrArg (fun z=>some (Value.int .i64 z)) (Ib hd1 hi1 (Jp Bf))),trivial⟩⟩,Nat.lt_succ_self _⟩)))))
 clear S h;rintro a w2 ⟨h,S⟩;rw [hj1] at h;clear hj1 j1
 refine Tn (Fr (Vk S rfl rfl fun a S=>Dl (wp_ret ?_)))
 subst h
 exact Et S results100 rfl rfl
theorem EK (w : World) (Ah : Di) (Ak : Di) (r : Int) (h : Ow Ah Ak = r) :
    Calls prog 122 [.agg (Di.enc Ah).toArray,.agg (Di.enc Ak).toArray].toArray w (Ret w [] fun _ v _=>v = iV r):=by
 refine Fe func122 rfl ntmps122 rfl fun a S=>?_
 unfold Ow at h
 replace S:=S.k2 0 1 rfl
 refine Fr (Lw S (S.tm rfl) (cs:=(Di.enc Ah)) rfl rfl ?_);clear S;intro a w1 b1 hz1 hk1 S
 refine Lw S (S.tm rfl) (cs:=(Di.enc Ak)) rfl rfl ?_;clear S;intro a w2 b2 hz2 hk2 S
 refine Vk S rfl rfl fun a S=>Dz (Vf Oh S rfl rfl fun a S=>Vl isAgg9 1 S rfl rfl rfl rfl fun a S=>Vf Oh S rfl rfl fun a S=>Vl isAgg9 0 S rfl rfl rfl rfl fun a S=>Eb S (fun _=>Dq (vs:=[sV Ah.Who,sV Ak.Who]) ⟨(S.tm rfl),(S.tm rfl),trivial⟩ call62) (Nr _ Ah.Who Ak.Who _ rfl) rfl ?_);clear S;intro v1 a w3 hv1 hk3 hn1 S
 subst hv1
 refine Va S rfl rfl fun a S=>Dl (wp_ret ?_)
 subst h
 exact Et S results122 rfl rfl
set_option maxRecDepth 20000 in
theorem Qy (w : World) (O : Value) (Af : List Di) (Bc : (LEnt.own O 102 11 Af.length (Af.flatMap Di.enc)).holds w) (Ah : Int) (Ak : Int) (r : (List Di)) (h : Ii Af Ah Ak = some r) :
    Calls prog 128 [O,iV Ah,iV Ak,.func (.func 122) #[] #[]].toArray w (Ret w (O.ownBlock.toList) fun _ v w'=>(LEnt.own O 102 11 r.length (r.flatMap Di.enc)).holds w' ∧ v = .tuple #[]):=by
 refine Lb (O.ownBlock.toList) [.own O 102 11 Af.length (Af.flatMap Di.enc)] func128 rfl ntmps128 rfl (fun e he=>by simp only [List.mem_singleton] at he;subst he;exact Bc) (Ix _) (Jw _) fun a S=>?_
 unfold Ii at h
 replace S:=(S.nl [.own O 102 11 Af.length (Af.flatMap Di.enc)] [true] rfl).k4 0 1 2 3 rfl
 refine Fr (Vm S rfl rfl fun a S=>Vq S Gc rfl rfl rfl fun a S=>Va S rfl rfl fun a S=>Dl ?_)
 replace S:=S.k5 0 1 2 3 8 rfl
 obtain ⟨j1,hj1,h⟩:=Eu h
 refine Eh (fun a w'=>∃ x1 : List Di,j1 x1 = some r ∧ Sx w (O.ownBlock.toList) nov [.own O 102 11 x1.length (x1.flatMap Di.enc)] [] 53 a w') ?_ ?_
 ·refine wp_block (Gr (fun (m1 : Nat) a w'=>∃ x1 : List Di,∃ x2 : Int,Fm Ak Ah j1 m1 x1 x2 = some r ∧ Sx w (O.ownBlock.toList) nov [.own O 102 11 x1.length (x1.flatMap Di.enc)] [(0,O),(1,iV Ah),(2,iV Ak),(3,.func (.func 122) #[] #[]),(8,iV x2)] 53 a w') id ((Ak - (W (Ah + 1))).toNat + 2) ⟨Af,W (Ah + 1),h,S.nf [true] rfl (subR rfl)⟩ ?_)
  clear S h;rintro m1 a w1 ⟨x1,x2,h,S⟩
  cases m1 with
  | zero=>rw [Fm.eq_1] at h;cases h
  | succ m1 =>
   rw [Fm.eq_2] at h
   refine Fs (Fr (Vm S rfl rfl fun a S=>Vm S rfl rfl fun a S=>Vb S Es rfl rfl rfl fun a S=>Dl (Fc h (S.tm rfl) (fun hb1 h=>?_) (fun hb1 h=>?_))))
   ·refine wp_skip (Tn (Fs (wp_block (Fr (Vm S rfl rfl fun a S=>Va S rfl rfl fun a S=>Dl ?_)))))
    replace S:=S.k6 0 1 2 3 8 9 rfl
    obtain ⟨j2,hj2,h⟩:=Eu h
    refine Eh (fun a w'=>∃ x3 : List Di,j2 x3 = some r ∧ Sx w (O.ownBlock.toList) nov [.own O 102 11 x3.length (x3.flatMap Di.enc)] [(0,O),(1,iV Ah),(2,iV Ak),(3,.func (.func 122) #[] #[]),(8,iV x2)] 53 a w') ?_ ?_
    ·refine wp_block (Gr (fun (m2 : Nat) a w'=>∃ x3 : List Di,∃ x4 : Int,Em Ah j2 m2 x3 x4 = some r ∧ Sx w (O.ownBlock.toList) nov [.own O 102 11 x3.length (x3.flatMap Di.enc)] [(0,O),(1,iV Ah),(2,iV Ak),(3,.func (.func 122) #[] #[]),(8,iV x2),(9,iV x4)] 53 a w') id ((x2 - Ah).toNat + 2) ⟨x1,x2,h,S.nf [true] rfl (subR rfl)⟩ ?_)
     clear S h;rintro m2 a w3 ⟨x3,x4,h,S⟩
     cases m2 with
     | zero=>rw [Em.eq_1] at h;cases h
     | succ m2 =>
      rw [Em.eq_2] at h
      refine Fs (Fs ?_)
      obtain ⟨j3,hj3,h⟩:=Eu h
      refine Eh (fun a w'=>∃ x5 : Bool,j3 x5 = some r ∧ Sx w (O.ownBlock.toList) nov [.own O 102 11 x3.length (x3.flatMap Di.enc)] [(0,O),(1,iV Ah),(2,iV Ak),(3,.func (.func 122) #[] #[]),(8,iV x2),(9,iV x4),(34,bV x5)] 53 a w') ?_ ?_
      ·rcases Bool.eq_false_or_eq_true (decide (Ah < x4)) with hb2 | hb2
       ·replace h:=Ti h hb2
        obtain ⟨hc1,h⟩:=Ig h
        obtain ⟨hc2,h⟩:=Ig h
        refine Gt [] ([]) Tryz.mixed S rfl (by kernel_rfl) ?_;clear S;intro w7 hk2 hsel S
        refine Ea 0 S hsel rfl rfl rfl (by kernel_rfl) (by kernel_rfl) rfl (fun _ hw=>(Rm (S.tm rfl))) fun a S=>Ea 1 S hsel rfl rfl rfl (by kernel_rfl) (by kernel_rfl) rfl (fun _ hw=>(Rm (S.tm rfl))) fun a S=>Ea 2 S hsel rfl rfl rfl (by kernel_rfl) (by kernel_rfl) rfl (fun _ hw=>(Kb (S.tm rfl) (S.tm rfl))) fun a S=>Ea 3 S hsel rfl rfl rfl (by kernel_rfl) (by kernel_rfl) rfl (fun _ hw=>(Rm (S.tm rfl))) fun a S=>Ef 4 S hsel rfl rfl rfl rfl hb2 rfl rfl (by kernel_rfl) (by kernel_rfl) rfl (fun _ hw=>(Rm (S.tm rfl))) fun a S=>Ef 5 S hsel rfl rfl rfl rfl hb2 rfl rfl (by kernel_rfl) (by kernel_rfl) rfl (fun _ hw=>(Rm (S.tm rfl))) fun a S=>Ef 6 S hsel rfl rfl rfl rfl hb2 rfl rfl (by kernel_rfl) (by kernel_rfl) rfl (fun _ hw=>(Rm (S.tm rfl))) ?_;clear S;intro a S
        obtain ⟨b3,hg3,hr3⟩:=Gh (a:=a) (x:=.tmp 23) (y:=.tmp 24) (ty:=0) Oo Di.enc_ok S (i:=0) rfl (Dw hc1).1 (Dw hc1).2 (S.tm rfl) (S.tm rfl)
        refine Ef 7 S hsel rfl rfl rfl rfl hb2 rfl rfl (by kernel_rfl) (by kernel_rfl) rfl (fun _ hw=>(hr3 _)) ?_;clear S;intro a S
        clear hr3
        refine Ef 8 S hsel rfl rfl rfl rfl hb2 rfl rfl (by kernel_rfl) (by kernel_rfl) rfl (fun _ hw=>(Fb isAgg102 sizeOf102 (off:=x4.toNat * 11) (o:=0) (part:=(Di.enc (nth x3 x4))) rfl rfl (S.tm rfl) ((Mg Di.enc_ok S (i:=0) rfl hg3 (Dw hc1).1 (Hg (e':=.own O 102 11 x3.length (x3.flatMap Di.enc)))).kept hw))) fun a S=>Ef 9 S hsel rfl rfl rfl rfl hb2 rfl rfl (by kernel_rfl) (by kernel_rfl) rfl (fun _ hw=>(Rm (S.tm rfl))) fun a S=>Ef 10 S hsel rfl rfl rfl rfl hb2 rfl rfl (by kernel_rfl) (by kernel_rfl) rfl (fun _ hw=>(Rm (S.tm rfl))) fun a S=>Ef 11 S hsel rfl rfl rfl rfl hb2 rfl rfl (by kernel_rfl) (by kernel_rfl) rfl (fun _ hw=>(Iw (S.tm rfl) rfl)) ?_;clear S;intro a S
        obtain ⟨b4,hg4,hr4⟩:=Gh (a:=a) (x:=.tmp 27) (y:=.tmp 29) (ty:=0) Oo Di.enc_ok S (i:=0) rfl (Dw hc2).1 (Dw hc2).2 (S.tm rfl) (S.tm rfl)
        refine Ef 12 S hsel rfl rfl rfl rfl hb2 rfl rfl (by kernel_rfl) (by kernel_rfl) rfl (fun _ hw=>(hr4 _)) ?_;clear S;intro a S
        clear hr4
        refine Ef 13 S hsel rfl rfl rfl rfl hb2 rfl rfl (by kernel_rfl) (by kernel_rfl) rfl (fun _ hw=>(Fb isAgg102 sizeOf102 (off:=((W (x4 - 1)).toNat) * 11) (o:=0) (part:=(Di.enc (nth x3 (W (x4 - 1))))) rfl rfl (S.tm rfl) ((Mg Di.enc_ok S (i:=0) rfl hg4 (Dw hc2).1 (Hg (e':=.own O 102 11 x3.length (x3.flatMap Di.enc)))).kept hw))) fun a S=>Hb 14 (by kernel_rfl) rfl (Dy S rfl rfl rfl hb2 (Eb S (fun _=>Rf (cap:=[]) (S.tm rfl) (vs:=[.agg (Di.enc (nth x3 x4)).toArray,.agg (Di.enc (nth x3 (W (x4 - 1)))).toArray]) ⟨(S.tm rfl),(S.tm rfl),trivial⟩ call122) (EK _ (nth x3 x4) (nth x3 (W (x4 - 1))) _ rfl) rfl ?_));clear S;intro v2 a w8 hv2 hk3 hn2 S
        subst hv2
        refine Ld (Hy hk3 (Li [15,16] hsel (by kernel_rfl) rfl ?_))
        clear hsel
        refine Fj S rfl rfl rfl rfl hb2 (Ha S (Es (S.tm rfl) rfl) rfl fun a S=>Gp S rfl (Pq hb2 (S.tm rfl) (S.tm rfl)) rfl fun a S=>Ij ?_)
        replace S:=S.nk [.own O 102 11 x3.length (x3.flatMap Di.enc)] [(0,O),(1,iV Ah),(2,iV Ak),(3,.func (.func 122) #[] #[]),(8,iV x2),(9,iV x4),(22,.func (.func 122) #[] #[]),(23,O),(24,iV x4),(25,.pointer (some ⟨b3,x4.toNat * 11,none⟩)),(26,.agg (Di.enc (nth x3 x4)).toArray),(27,O),(28,iV x4),(29,iV (W (x4 - 1))),(30,.pointer (some ⟨b4,((W (x4 - 1)).toNat) * 11,none⟩)),(31,.agg (Di.enc (nth x3 (W (x4 - 1)))).toArray),(32,iV (Ow (nth x3 x4) (nth x3 (W (x4 - 1))))),(33,bV (decide ((Ow (nth x3 x4) (nth x3 (W (x4 - 1)))) < 0))),(34,bV (decide ((Ow (nth x3 x4) (nth x3 (W (x4 - 1)))) < 0)))] [true] rfl (subR rfl)
        exact Tn (⟨decide ((Ow (nth x3 x4) (nth x3 (W (x4 - 1)))) < 0),h,S.nf [true] rfl (subR rfl)⟩)
       ·replace h:=Tj h hb2
        refine Gt [] ([]) Tryz.mixed S rfl (by kernel_rfl) ?_;clear S;intro w9 hk4 hsel S
        refine Li [0,1,2,3,4,5,6,7,8,9,10,11,12,13,14,15,16] hsel (by kernel_rfl) rfl ?_
        clear hsel
        refine Gp S rfl (Rm (S.tm rfl)) rfl fun a S=>Gp S rfl (Rm (S.tm rfl)) rfl fun a S=>Gp S rfl (Kb (S.tm rfl) (S.tm rfl)) rfl fun a S=>Gp S rfl (Rm (S.tm rfl)) rfl ?_;clear S;intro a S
        iterate 12 (refine Pn S rfl rfl rfl rfl (Kp hb2) rfl ?_ rfl;clear S;intro a S)
        refine Gp S rfl (Ps hb2 (S.tm rfl) rfl) rfl fun a S=>Ij ?_
        replace S:=S.k7 0 1 2 3 8 9 34 rfl
        exact Tn (⟨false,h,S.nf [true] rfl (subR rfl)⟩)
      clear S h;rintro a w5 ⟨x5,h,S⟩;rw [hj3] at h;clear hj3 j3
      refine Tn (Fc h (S.tm rfl) (fun hb3 h=>?_) (fun hb3 h=>?_))
      ·refine wp_skip (Tn (Fs (wp_block ?_)))
       obtain ⟨hc3,h⟩:=Ig h
       obtain ⟨hc4,h⟩:=Ig h
       obtain ⟨hc5,h⟩:=Ig h
       obtain ⟨hc6,h⟩:=Ig h
       refine Gt [15,17] ([]) Tryz.mixed S rfl (by kernel_rfl) ?_;clear S;intro w14 hk9 hsel S
       refine Ew 0 S hsel rfl rfl (by kernel_rfl) (by kernel_rfl) rfl (fun _=>(Rm (S.tm rfl))) fun a S=>Ew 1 S hsel rfl rfl (by kernel_rfl) (by kernel_rfl) rfl (fun _=>(Rm (S.tm rfl))) fun a S=>Ew 2 S hsel rfl rfl (by kernel_rfl) (by kernel_rfl) rfl (fun _=>(Rm (S.tm rfl))) fun a S=>Ew 3 S hsel rfl rfl (by kernel_rfl) (by kernel_rfl) rfl (fun _=>(Rm (S.tm rfl))) fun a S=>Ew 4 S hsel rfl rfl (by kernel_rfl) (by kernel_rfl) rfl (fun _=>(Iw (S.tm rfl) rfl)) fun a S=>Ew 5 S hsel rfl rfl (by kernel_rfl) (by kernel_rfl) rfl (fun _=>(Rm (S.tm rfl))) fun a S=>Ew 6 S hsel rfl rfl (by kernel_rfl) (by kernel_rfl) rfl (fun _=>(Rm (S.tm rfl))) fun a S=>Ew 7 S hsel rfl rfl (by kernel_rfl) (by kernel_rfl) rfl (fun _=>(Iw (S.tm rfl) rfl)) ?_;clear S;intro a S
       obtain ⟨b9,hg9,hr9⟩:=Gh (a:=a) (x:=.tmp 42) (y:=.tmp 44) (ty:=0) Oo Di.enc_ok S (i:=0) rfl (Dw hc3).1 (Dw hc3).2 (S.tm rfl) (S.tm rfl)
       refine Ew 8 S hsel rfl rfl (by kernel_rfl) (by kernel_rfl) rfl (fun _=>(hr9 _)) ?_;clear S;intro a S
       clear hr9
       refine Ea 9 S hsel rfl (by kernel_rfl) (by kernel_rfl) (by kernel_rfl) (by kernel_rfl) rfl (fun _ hw=>(Fb isAgg102 sizeOf102 (off:=((W (x4 - 1)).toNat) * 11) (o:=0) (part:=(Di.enc (nth x3 (W (x4 - 1))))) rfl rfl (S.tm rfl) ((Mg Di.enc_ok S (i:=0) rfl hg9 (Dw hc3).1 (Hg (e':=.own O 102 11 x3.length (x3.flatMap Di.enc)))).kept hw))) fun a S=>Ew 10 S hsel rfl rfl (by kernel_rfl) (by kernel_rfl) rfl (fun _=>(Rm (S.tm rfl))) fun a S=>Ew 11 S hsel rfl rfl (by kernel_rfl) (by kernel_rfl) rfl (fun _=>(Rm (S.tm rfl))) ?_;clear S;intro a S
       obtain ⟨b10,hg10,hr10⟩:=Gh (a:=a) (x:=.tmp 47) (y:=.tmp 48) (ty:=0) Oo Di.enc_ok S (i:=0) rfl (Dw hc4).1 (Dw hc4).2 (S.tm rfl) (S.tm rfl)
       refine Ew 12 S hsel rfl rfl (by kernel_rfl) (by kernel_rfl) rfl (fun _=>(hr10 _)) ?_;clear S;intro a S
       clear hr10
       refine Ea 13 S hsel rfl (by kernel_rfl) (by kernel_rfl) (by kernel_rfl) (by kernel_rfl) rfl (fun _ hw=>(Fb isAgg102 sizeOf102 (off:=x4.toNat * 11) (o:=0) (part:=(Di.enc (nth x3 x4))) rfl rfl (S.tm rfl) ((Mg Di.enc_ok S (i:=0) rfl hg10 (Dw hc4).1 (Hg (e':=.own O 102 11 x3.length (x3.flatMap Di.enc)))).kept hw))) ?_;clear S;intro a S
       obtain ⟨b11,hg11,hr11⟩:=Gh (a:=a) (x:=.tmp 37) (y:=.tmp 38) (ty:=0) Oo Di.enc_ok S (i:=0) rfl (Dw hc5).1 (Dw hc5).2 (S.tm rfl) (S.tm rfl)
       refine Ew 14 S hsel rfl rfl (by kernel_rfl) (by kernel_rfl) rfl (fun _=>(hr11 _)) ?_;clear S;intro a S
       clear hr11
       refine Vg 15 (O.ownBlock.toList) rfl (by kernel_rfl) rfl (Ob (c:=0) (j:=x4.toNat) (nth x3 (W (x4 - 1))) Di.enc_ok S (S.tm rfl) (S.tm rfl) (i:=0) rfl hg11 (Dw hc5).1 sizeOf102 (vs:=[sV ((nth x3 (W (x4 - 1))).Site),iV ((nth x3 (W (x4 - 1))).No),iV ((nth x3 (W (x4 - 1))).At),iV ((nth x3 (W (x4 - 1))).Kind),sV ((nth x3 (W (x4 - 1))).Who),sV ((nth x3 (W (x4 - 1))).Club),sV ((nth x3 (W (x4 - 1))).Race),iV ((nth x3 (W (x4 - 1))).Time),iV ((nth x3 (W (x4 - 1))).Fault),sV ((nth x3 (W (x4 - 1))).Of),iV ((nth x3 (W (x4 - 1))).Other)]) rfl rfl rfl rfl rfl ?_);clear S;intro w16 hk11 S
       refine Ld (Vh ?_)
       obtain ⟨b12,hg12,hr12⟩:=Gh (a:=a) (x:=.tmp 39) (y:=.tmp 41) (ty:=0) Oo Di.enc_ok S (i:=0) rfl (Dw hc6).1 (Dw hc6).2 (S.tm rfl) (S.tm rfl)
       refine Ea 16 S hsel rfl rfl rfl (by kernel_rfl) (by kernel_rfl) rfl (fun _ hw=>(hr12 _)) ?_;clear S;intro a S
       clear hr12
       refine Hb 17 (by kernel_rfl) rfl (Ob (c:=0) (j:=(W (x4 - 1)).toNat) (nth x3 x4) Di.enc_ok S (S.tm rfl) (S.tm rfl) (i:=0) rfl hg12 (Dw hc6).1 sizeOf102 (vs:=[sV ((nth x3 x4).Site),iV ((nth x3 x4).No),iV ((nth x3 x4).At),iV ((nth x3 x4).Kind),sV ((nth x3 x4).Who),sV ((nth x3 x4).Club),sV ((nth x3 x4).Race),iV ((nth x3 x4).Time),iV ((nth x3 x4).Fault),sV ((nth x3 x4).Of),iV ((nth x3 x4).Other)]) rfl rfl rfl rfl rfl ?_);clear S;intro w18 hk13 S
       refine Ld (Hy hk13 (Vt (by kernel_rfl) ?_))
       clear hsel
       replace S:=(S.nl [.own O 102 11 ((x3.set x4.toNat (nth x3 (W (x4 - 1)))).set ((W (x4 - 1)).toNat) (nth x3 x4)).length (((x3.set x4.toNat (nth x3 (W (x4 - 1)))).set ((W (x4 - 1)).toNat) (nth x3 x4)).flatMap Di.enc)] [true] rfl).k6 0 1 2 3 8 9 rfl
       exact Hp (Tn (Fg (Vm S rfl rfl fun a S=>Vq S Iw rfl rfl rfl fun a S=>Va S rfl rfl fun a S=>Dl (⟨m2,⟨((x3.set x4.toNat (nth x3 (W (x4 - 1)))).set ((W (x4 - 1)).toNat) (nth x3 x4)),W (x4 - 1),h,S.nf [true] rfl ⟨rfl,rfl,rfl,rfl,rfl,rfl,trivial⟩⟩,Nat.lt_succ_self _⟩))))
      ·exact wp_exit (Ed (Ed (Gn (Tn (⟨x3,h,S.nf [true] rfl (subR rfl)⟩)))))
    clear S h;rintro a w4 ⟨x3,h,S⟩;rw [hj2] at h;clear hj2 j2
    exact Hp (Tn (Fg (Vm S rfl rfl fun a S=>Vq S Gc rfl rfl rfl fun a S=>Va S rfl rfl fun a S=>Dl (⟨m1,⟨x3,W (x2 + 1),h,S.nf [true] rfl ⟨rfl,rfl,rfl,rfl,rfl,trivial⟩⟩,Nat.lt_succ_self _⟩))))
   ·exact wp_exit (Ed (Ed (Gn (Tn (⟨x1,h,S.nf [true] rfl trivial⟩)))))
 clear S h;rintro a w2 ⟨x1,h,S⟩;rw [hj1] at h;clear hj1 j1
 obtain rfl:=Option.some.inj h
 exact Rp S results128 ⟨(S.holds _ (List.mem_of_getElem? (i:=0) rfl)),rfl⟩
theorem So (w : World) (O : Value) (Af : List Di) (Bc : (LEnt.own O 102 11 Af.length (Af.flatMap Di.enc)).holds w) (Ah : Int) (Ak : Int) (Bu : Int) (r : (List Di)) (h : Kl Af Ah Ak Bu = some r) :
    Calls prog 152 [O,iV Ah,iV Ak,iV Bu,.func (.func 122) #[] #[]].toArray w (Ret w (O.ownBlock.toList) fun _ v w'=>(LEnt.own O 102 11 r.length (r.flatMap Di.enc)).holds w' ∧ v = .tuple #[]):=by
 refine Lb (O.ownBlock.toList) [.own O 102 11 Af.length (Af.flatMap Di.enc)] func152 rfl ntmps152 rfl (fun e he=>by simp only [List.mem_singleton] at he;subst he;exact Bc) (Ix _) (Jw _) fun a S=>?_
 unfold Kl at h
 replace S:=(S.nl [.own O 102 11 Af.length (Af.flatMap Di.enc)] [true] rfl).k5 0 1 2 3 4 rfl
 refine Fr (Vk S rfl rfl fun a S=>Dz (Vk S rfl rfl fun a S=>Dl ?_))
 replace S:=S.k6 0 1 2 3 4 10 rfl
 refine Eh (fun a w'=>False) ?_ ?_
 ·refine wp_block (Gr (fun (m1 : Nat) a w'=>∃ x1 : Int,∃ x2 : Int,∃ x3 : Int,∃ x4 : Bool,Gw Af m1 x1 x2 x3 x4 = some r ∧ Sx w (O.ownBlock.toList) nov [.own O 102 11 Af.length (Af.flatMap Di.enc)] [(0,O),(1,iV x1),(2,iV x2),(3,iV x3),(4,.func (.func 122) #[] #[]),(10,bV x4)] 148 a w') id 4611686018427387904 ⟨Ah,Ak,Bu,true,h,S.nf [true] rfl (subR rfl)⟩ ?_)
  clear S h;rintro m1 a w1 ⟨x1,x2,x3,x4,h,S⟩
  cases m1 with
  | zero=>rw [Gw.eq_1] at h;cases h
  | succ m1 =>
   rw [Gw.eq_2] at h
   refine wp_block (Fr (Vm S rfl rfl fun a S=>Vm S rfl rfl fun a S=>Vb S Iw rfl rfl rfl fun a S=>Va S rfl rfl fun a S=>Dl (Fs (Fs ?_))))
   refine Fg (Vm S rfl rfl fun a S=>Vq S Uj rfl rfl rfl fun a S=>Dl (Fc h (S.tm rfl) (fun hb1 h=>?_) (fun hb1 h=>?_)))
   ·refine Fs (Fg ?_)
    iterate 4 (refine Vm S rfl rfl ?_;clear S;intro a S)
    obtain ⟨r1,hr1,h⟩:=Fa h
    refine Mj 0 S rfl (fun _=>.own O 102 11 r1.length (r1.flatMap Di.enc)) (fun _=>Dq (vs:=[O,iV x1,iV x2,.func (.func 122) #[] #[]]) ⟨(S.tm rfl),(S.tm rfl),(S.tm rfl),(S.tm rfl),trivial⟩ call128) (Qy _ O Af (S.holds _ (List.mem_of_getElem? (i:=0) rfl)) x1 x2 _ hr1) rfl (fun _ _ _ h=>⟨h.1,fun _ hc=>hc⟩) ?_;clear S;intro v1 a w3 hv1 hk1 hn1 S
    replace hv1:=hv1.2
    subst hv1
    refine Ld ?_
    replace S:=(S.nl [.own O 102 11 r1.length (r1.flatMap Di.enc)] [true] rfl).k0
    refine Tn (wp_ret (Dv (Gq (Dv (Gq (Dv ?_))))))
    obtain rfl:=Option.some.inj h
    exact Rp S results152 ⟨(S.holds _ (List.mem_of_getElem? (i:=0) rfl)),rfl⟩
   ·refine wp_skip (Tn (Fs (Fr (Vm S rfl rfl fun a S=>Vq S Jk rfl rfl rfl fun a S=>Dl (Fc h (S.tm rfl) (fun hb2 h=>?_) (fun hb2 h=>?_))))))
    ·refine Fs ?_
     cases h
    ·refine wp_skip (Tn (Fs (Fr (Vm S rfl rfl fun a S=>Vu S Ih rfl rfl fun a S=>Ld ?_))))
     replace S:=S.k1 39 rfl
     refine Tn (Fc h (S.tm rfl) (fun hb3 h=>?_) (fun hb3 h=>?_))
     ·refine Fs ?_
      cases h
     ·refine wp_skip (Tn (Fs ?_))
      cases h
 exact fun _ _ h=>h.elim
theorem Ul (w : World) (Ay : Value) (Ab : List Di) (Ce : (LEnt.own Ay 102 11 Ab.length (Ab.flatMap Di.enc)).holds w) (r : (List Di)) (h : Kd Ab = some r) :
    Calls prog 121 [Ay,.func (.func 122) #[] #[]].toArray w (Ret w (Ay.ownBlock.toList) fun _ v w'=>(LEnt.own Ay 102 11 r.length (r.flatMap Di.enc)).holds w' ∧ v = .tuple #[]):=by
 refine Lb (Ay.ownBlock.toList) [.own Ay 102 11 Ab.length (Ab.flatMap Di.enc)] func121 rfl ntmps121 rfl (fun e he=>by simp only [List.mem_singleton] at he;subst he;exact Ce) (Ix _) (Jw _) fun a S=>?_
 unfold Kd at h
 replace S:=(S.nl [.own Ay 102 11 Ab.length (Ab.flatMap Di.enc)] [true] rfl).k2 0 1 rfl
 refine Fr (Vm S rfl rfl fun a S=>lv S (Gi Oo (S.tm rfl) (Pb (S.own_at (i:=0) rfl))) rfl fun a S=>Va S rfl rfl fun a S=>Dl (Fg ?_))
 iterate 3 (refine Vm S rfl rfl ?_;clear S;intro a S)
 refine Vu S (Ve underlying3 underlying71) rfl rfl ?_;clear S;intro a S
 obtain ⟨r1,hr1,h⟩:=Fa h
 refine Eb S (fun _=>Dq (vs:=[.int .u64 (IntKind.wrap .u64 (Ab.length : Int))]) ⟨(S.tm rfl),trivial⟩ call25) (AE _ (IntKind.wrap .u64 (Ab.length : Int)) _ hr1) rfl ?_;clear S;intro v1 a w1 hv1 hk1 hn1 S
 subst hv1
 refine Vm S rfl rfl ?_;clear S;intro a S
 obtain ⟨r2,hr2,h⟩:=Fa h
 refine Mj 0 S rfl (fun _=>.own Ay 102 11 r2.length (r2.flatMap Di.enc)) (fun _=>Dq (vs:=[Ay,iV 0,iV (Ab.length : Int),iV r1,.func (.func 122) #[] #[]]) ⟨(S.tm rfl),rfl,(S.tm rfl),(S.tm rfl),(S.tm rfl),trivial⟩ call152) (So _ Ay Ab (S.holds _ (List.mem_of_getElem? (i:=0) rfl)) 0 (Ab.length : Int) r1 _ hr2) rfl (fun _ _ _ h=>⟨h.1,fun _ hc=>hc⟩) ?_;clear S;intro v2 a w2 hv2 hk2 hn2 S
 replace hv2:=hv2.2
 subst hv2
 refine Ld ?_
 obtain rfl:=Option.some.inj h
 exact Rp S results121 ⟨(S.holds _ (List.mem_of_getElem? (i:=0) rfl)),rfl⟩
theorem Xu (w : World) (U : Nat) (Ae : Jr) (Bn : R32) (Bv : Tt (view w []) Ae Bn) (Aq : Value) (Al : List Di) (Bd : Slc (view w []) 11 Aq (Al.map Di.enc)) (As : (view w []) U = some (.cells (R32.enc Bn ++ [Aq]).toArray 133 (0,0))) (Av : ByteArray) (r : (List Di)) (h : Rc Ae Al Av = some r) :
    Calls prog 76 [.pointer (some ⟨U,0,none⟩),sV Av].toArray w (Ret w [] fun τ v _=>Uq τ 102 11 v r.length (r.flatMap Di.enc)):=by
 obtain ⟨u1,u2,rfl,hs1,⟨u3,rfl,hs2⟩⟩:=Bv
 replace As : (view w []) U = some (.cells [u1.val,u3.val,iV Ae.Table.Relay,iV Ae.Table.Most,iV Ae.Final.Size,iV Ae.Final.Many,iV Ae.Final.Reserves,Aq].toArray 133 (0,0)):=As
 refine Fe func76 rfl ntmps76 rfl fun a S=>?_
 unfold Rc at h
 replace S:=S.k2 0 1 rfl
 refine Fr (Vk S rfl rfl fun a S=>Dz (RB (κ:=ByteArray) (ν:=Di) S rfl Value.string (fun x=>Value.agg (Di.enc x).toArray) ?_));clear S;intro a w1 b1 hz1 hk1 S
 refine Va S rfl rfl fun a S=>Dl (Fs (Fr (Vm S rfl rfl fun a S=>Vu S Lv rfl rfl fun a S=>Vf GC S rfl rfl fun a S=>lv S (Hx isAgg34 (off:=0) (o:=7) (S.tm rfl) ((Sc As).at S.emb0) rfl) rfl fun a S=>lv S (Gi Oo (S.tm rfl) (Gf Bd)) rfl ?_)));clear S;intro a S
 refine lv S (Rm rfl) rfl fun a S=>Dl ?_
 replace S:=(S.nl [.map b1 (Jv Value.string (fun x=>Value.agg (Di.enc x).toArray) ([] : List (ByteArray × Di)) ([] : List Nat)) 0] [true] rfl).k5 1 5 15 16 17 rfl
 obtain ⟨j1,hj1,h⟩:=Eu h
 refine Eh (fun a w'=>∃ x1 : List (ByteArray × Di),∃ bs1 : List Nat,∃ ck1 : Nat,j1 x1 = some r ∧ Vv x1.length bs1 ck1 ∧ Sx w [] nov [.map b1 (Jv Value.string (fun x=>Value.agg (Di.enc x).toArray) x1 bs1) ck1] [(5,.map (some b1))] 52 a w') ?_ ?_
 ·refine wp_block (Gr (fun (ys1 : List Di) a w'=>∃ i1 : Nat,∃ x1 : List (ByteArray × Di),∃ bs1 : List Nat,∃ ck1 : Nat,(∃ dn,Al = dn ++ ys1 ∧ dn.length = i1) ∧ Mc Av j1 ys1 i1 x1 = some r ∧ Vv x1.length bs1 ck1 ∧ Sx w [] nov [.map b1 (Jv Value.string (fun x=>Value.agg (Di.enc x).toArray) x1 bs1) ck1] [(1,sV Av),(5,.map (some b1)),(15,Aq),(16,iV (Al.length : Int)),(17,iV (i1 : Int))] 52 a w') List.length Al ⟨0,([] : List (ByteArray × Di)),([] : List Nat),0,⟨[],rfl,rfl⟩,h,(VD (κ:=ByteArray) (ν:=Di)),S.nf [true] rfl (subR rfl)⟩ ?_)
  clear S h;rintro ys1 a w2 ⟨i1,x1,bs1,ck1,⟨dn,hd1,hi1⟩,h,hB1,S⟩
  cases ys1 with
  | nil =>
   rw [Mc.eq_1] at h
   refine Fr (Vb S Es rfl rfl rfl fun a S=>Ld ?_)
   replace S:=S.k6 1 5 15 16 17 18 rfl
   exact Tn (Fs (wp_cond_false ((S.tm rfl).trans (congrArg Value.bool (Jd hd1 hi1))) (wp_exit (Ed (Ed (Gn (Tn (⟨x1,bs1,ck1,h,hB1,S.nf [true] rfl ⟨rfl,trivial⟩⟩))))))))
  | cons y1 ys1 =>
   rw [Mc.eq_2] at h
   refine Fr (Vb S Es rfl rfl rfl fun a S=>Ld ?_)
   replace S:=S.k6 1 5 15 16 17 18 rfl
   refine Tn (Fs (wp_cond_true ((S.tm rfl).trans (congrArg Value.bool (Ia hd1 hi1))) (wp_skip (Tn (Fs ?_)))))
   obtain ⟨j2,hj2,h⟩:=Eu h
   refine Eh (fun a w'=>∃ x2 : List (ByteArray × Di),∃ bs2 : List Nat,∃ ck2 : Nat,j2 x2 = some r ∧ Vv x2.length bs2 ck2 ∧ Sx w [] nov [.map b1 (Jv Value.string (fun x=>Value.agg (Di.enc x).toArray) x2 bs2) ck2] [(1,sV Av),(5,.map (some b1)),(15,Aq),(16,iV (Al.length : Int)),(17,iV (i1 : Int))] 52 a w') ?_ ?_
   ·refine wp_block (Fs (Fg ?_))
    obtain ⟨b2,o1,hm1,hr1⟩:=Fk (a:=a) (x:=.tmp 15) (y:=.tmp 17) (ty:=0) Oo Bd (Jc hd1 hi1) rfl (S.tm rfl) (S.tm rfl)
    refine lv S (hr1 _) rfl ?_;clear S;intro a S
    clear hr1
    refine lv S (Fb isAgg102 sizeOf102 (off:=o1) (o:=0) (part:=(Di.enc y1)) rfl rfl (S.tm rfl) (hm1.at S.emb0)) rfl fun a S=>Hq S zeroValue102 (cs:=[sV An,iV 0,iV 0,iV 0,sV An,sV An,sV An,iV 0,iV 0,sV An,iV 0]) rfl rfl ?_;clear S;intro a w5 b3 hz2 hk2 S
    refine Ex S (S.tm rfl) (S.tm rfl) (i:=0) (off:=0) rfl sizeOf102 (vs:=(Di.enc y1)) rfl rfl rfl rfl ?_;clear S;intro w6 hk3 S
    refine Dl (Fs (Fr (Vf Sj S rfl rfl fun a S=>Vl isAgg9 0 S rfl rfl rfl rfl fun a S=>Vm S rfl rfl fun a S=>Vb S Zv rfl rfl rfl fun a S=>Dl ?_)))
    refine Fc h (S.tm rfl) (fun hb1 h=>?_) (fun hb1 h=>?_)
    ·exact wp_exit (Ed (Gn (Tn (⟨x1,bs1,ck1,h,hB1,S.nf [false,true] rfl (subR rfl)⟩))))
    ·refine wp_skip (Tn (Fr (Vf Pl S rfl rfl fun a S=>Vl isAgg3 0 S rfl rfl rfl rfl fun a S=>Ld ?_)))
     replace S:=(S.nl [.blk b3 (Di.enc y1) 102,.map b1 (Jv Value.string (fun x=>Value.agg (Di.enc x).toArray) x1 bs1) ck1] [true,true] rfl).k7 1 5 7 15 16 17 26 rfl
     refine Tn ?_
     obtain ⟨j3,hj3,h⟩:=Eu h
     refine Eh (fun a w'=>∃ x3 : List (ByteArray × Di),∃ bs3 : List Nat,∃ ck3 : Nat,j3 x3 = some r ∧ Vv x3.length bs3 ck3 ∧ Sx w [] nov [.blk b3 (Di.enc y1) 102,.map b1 (Jv Value.string (fun x=>Value.agg (Di.enc x).toArray) x3 bs3) ck3] [(1,sV Av),(5,.map (some b1)),(15,Aq),(16,iV (Al.length : Int)),(17,iV (i1 : Int))] 52 a w') ?_ ?_
     ·refine wp_block (Fr (Vq S Jk rfl rfl rfl fun a S=>Va S rfl rfl fun a S=>Dl ?_))
      obtain ⟨j4,hj4,h⟩:=Eu h
      refine Eh (fun a w'=>∃ x4 : List (ByteArray × Di),∃ bs4 : List Nat,∃ ck4 : Nat,j4 x4 = some r ∧ Vv x4.length bs4 ck4 ∧ Sx w [] nov [.blk b3 (Di.enc y1) 102,.map b1 (Jv Value.string (fun x=>Value.agg (Di.enc x).toArray) x4 bs4) ck4] [(1,sV Av),(5,.map (some b1)),(15,Aq),(16,iV (Al.length : Int)),(17,iV (i1 : Int))] 52 a w') ?_ ?_
      ·refine Fc h (S.tm rfl) (fun hb2 h=>?_) (fun hb2 h=>?_)
       ·refine Fg (Vm S rfl rfl fun a S=>Vf Oh S rfl rfl fun a S=>Vl isAgg9 0 S rfl rfl rfl rfl fun a S=>lv S (Fb isAgg102 sizeOf102 (off:=0) (o:=0) (part:=(Di.enc y1)) rfl rfl (S.tm rfl) (S.cellsAt (i:=0) rfl)) rfl fun a S=>NJ (kv:=Value.string) (vv:=(fun x=>Value.agg (Di.enc x).toArray)) (m:=x1) (key:=y1.Who) (val:=y1) S (i:=1) rfl hB1 underlying167 (Lm underlying9) (S.tm rfl) (S.tm rfl) (S.tm rfl) ?_);clear S;intro w9 bs5 ck5 hB5 hk4 S
        exact Dl (⟨(Gk x1 y1.Who y1),bs5,ck5,h,hB5,S.nf [true,true] rfl (subR rfl)⟩)
       ·refine Fr (Vq S Jk rfl rfl rfl fun a S=>Va S rfl rfl fun a S=>Dl ?_)
        obtain ⟨j5,hj5,h⟩:=Eu h
        refine Eh (fun a w'=>∃ x5 : List (ByteArray × Di),∃ bs6 : List Nat,∃ ck6 : Nat,j5 x5 = some r ∧ Vv x5.length bs6 ck6 ∧ Sx w [] nov [.blk b3 (Di.enc y1) 102,.map b1 (Jv Value.string (fun x=>Value.agg (Di.enc x).toArray) x5 bs6) ck6] [(1,sV Av),(5,.map (some b1)),(15,Aq),(16,iV (Al.length : Int)),(17,iV (i1 : Int))] 52 a w') ?_ ?_
        ·refine Fc h (S.tm rfl) (fun hb3 h=>?_) (fun hb3 h=>?_)
         ·refine Fg (Vm S rfl rfl fun a S=>Vf Oh S rfl rfl fun a S=>Vl isAgg9 0 S rfl rfl rfl rfl fun a S=>VE (kv:=Value.string) (vv:=(fun x=>Value.agg (Di.enc x).toArray)) (m:=x1) (key:=y1.Who) S (i:=1) rfl hB1 rfl underlying167 (Lm underlying9) (S.tm rfl) (S.tm rfl) ?_);clear S;intro w11 bs7 ck7 hB7 hk5 S
          exact Dl (⟨(CF x1 y1.Who),bs7,ck7,h,hB7,S.nf [true,true] rfl (subR rfl)⟩)
         ·exact wp_skip (Tn (⟨x1,bs1,ck1,h,hB1,S.nf [true,true] rfl (subR rfl)⟩))
        clear S h;rintro a w10 ⟨x5,bs6,ck6,h,hB6,S⟩;rw [hj5] at h;clear hj5 j5
        exact Tn (⟨x5,bs6,ck6,h,hB6,S.nf [true,true] rfl (subR rfl)⟩)
      clear S h;rintro a w8 ⟨x4,bs4,ck4,h,hB4,S⟩;rw [hj4] at h;clear hj4 j4
      exact Hp (Tn (⟨x4,bs4,ck4,h,hB4,S.nf [true,true] rfl (subR rfl)⟩))
     clear S h;rintro a w7 ⟨x3,bs3,ck3,h,hB3,S⟩;rw [hj3] at h;clear hj3 j3
     exact Hp (Tn (⟨x3,bs3,ck3,h,hB3,S.nf [false,true] rfl (subR rfl)⟩))
   clear S h;rintro a w4 ⟨x2,bs2,ck2,h,hB2,S⟩;rw [hj2] at h;clear hj2 j2
   exact Tn (Fg (Vq S Gc rfl rfl rfl fun a S=>Vm S rfl rfl fun a S=>Dl (⟨ys1,⟨i1 + 1,x2,bs2,ck2,⟨_,(hd1).trans (List.append_cons _ _ _),by simp [hi1]⟩,h,hB2,S.nf [true] rfl ⟨rfl,rfl,rfl,rfl,(congrArg (fun z=>some (Value.int .i64 z)) (Ib hd1 hi1 (Jp Bd))),trivial⟩⟩,Nat.lt_succ_self _⟩)))
 clear S h;rintro a w3 ⟨x1,bs1,ck1,h,hB1,S⟩;rw [hj1] at h;clear hj1 j1
 refine Tn (Fr (Vk S rfl rfl ?_));clear S;intro a S
 replace S:=S.nil 102 11
 refine Dl (Fs (Fr (Vm S rfl rfl fun a S=>NH (es:=Jv Value.string (fun x=>Value.agg (Di.enc x).toArray) x1 bs1) (clk:=ck1) S (S.map_at (i:=1) rfl) underlying167 (S.tm rfl) rfl ?_)));clear S;intro a w12 b4 hz3 hk6 S
 refine Dl ?_
 replace S:=(S.nl [.iter b4 b1 ck1 #[] ck1,.own (.slice none 0 0) 102 11 ([] : List Di).length (([] : List Di).flatMap Di.enc),.map b1 (Jv Value.string (fun x=>Value.agg (Di.enc x).toArray) x1 bs1) ck1] [true,true,true] rfl).k2 8 40 rfl
 obtain ⟨j6,hj6,h⟩:=Eu h
 replace h:=allE h
 refine Eh (fun a w'=>∃ x6 : List Di,∃ v1 : Value,j6 x6 = some r ∧ Sx w [] nov [.own v1 102 11 x6.length (x6.flatMap Di.enc),.map b1 (Jv Value.string (fun x=>Value.agg (Di.enc x).toArray) x1 bs1) ck1] [(8,v1)] 52 a w') ?_ ?_
 ·refine wp_block (Gr (fun (q : List (ByteArray × Di)) a w'=>∃ x6 : List Di,∃ v1 : Value,∃ sn1 : Array Nat,ER x1 bs1 sn1 = q ∧ (∀ p,p.Perm q → Na j6 p x6 = some r) ∧ Sx w [] nov [.iter b4 b1 ck1 sn1 ck1,.own v1 102 11 x6.length (x6.flatMap Di.enc),.map b1 (Jv Value.string (fun x=>Value.agg (Di.enc x).toArray) x1 bs1) ck1] [(8,v1),(40,.pointer (some ⟨b4,0,none⟩))] 52 a w') List.length x1 ⟨([] : List Di),(.slice none 0 0),#[],(leftB_0 hB1),h,S.nf [true,true,true] rfl (subR rfl)⟩ ?_)
  clear S h;rintro q a w13 ⟨x6,v1,sn1,hq,h,S⟩
  refine Fr (l_nextB (kv:=Value.string) (vv:=(fun x=>Value.agg (Di.enc x).toArray)) (m:=x1) S (i:=0) rfl (S.map_at (i:=2) rfl) hB1 (S.tm rfl) rfl ?_ ?_)
  ·intro hn1;clear S;intro a S
   replace h:=JM h (hq.symm.trans hn1)
   rw [Na.eq_1] at h
   refine Vq S Fu rfl rfl rfl fun a S=>Ld ?_
   replace S:=S.k3 8 40 42 rfl
   exact Tn (Fs (wp_cond_false (S.tm rfl) (wp_exit (Ed (Ed (Gn (Tn (⟨x6,v1,h,S.nf [false,true,true] rfl ⟨rfl,trivial⟩⟩))))))))
  ·clear S;intro y2 sn2 a w15 hp1 hl1 hk7 S
   obtain ⟨sq1,h,hn2⟩:=HB h (by rw [← hq];exact hp1) (fun _=>rfl)
   refine Vq S Fu rfl rfl rfl fun a S=>Ld ?_
   replace S:=(S.nl [.iter b4 b1 ck1 sn2 ck1,.own v1 102 11 x6.length (x6.flatMap Di.enc),.map b1 (Jv Value.string (fun x=>Value.agg (Di.enc x).toArray) x1 bs1) ck1] [true,true,true] rfl).k3 8 40 42 rfl
   refine Tn (Fs (wp_cond_true (S.tm rfl) (wp_skip (Tn (wp_block (Fr (lv S (VF (kv:=Value.string) (vv:=(fun x=>Value.agg (Di.enc x).toArray)) (m:=x1) (e:=y2) (S.holds _ (List.mem_of_getElem? (i:=0) rfl)) (S.map_at (i:=2) rfl) hB1 hl1 (S.tm rfl)) rfl fun a S=>Vq S Fu rfl rfl rfl fun a S=>Hq S zeroValue102 (cs:=[sV An,iV 0,iV 0,iV 0,sV An,sV An,sV An,iV 0,iV 0,sV An,iV 0]) rfl rfl ?_)))))));clear S;intro a w16 b5 hz4 hk8 S
   refine Ex S (S.tm rfl) (S.tm rfl) (i:=0) (off:=0) rfl sizeOf102 (vs:=(Di.enc y2.2)) rfl rfl rfl rfl ?_;clear S;intro w17 hk9 S
   refine Dl (Fg (Vm S rfl rfl fun a S=>lv S (Fb isAgg102 sizeOf102 (off:=0) (o:=0) (part:=(Di.enc y2.2)) rfl rfl (S.tm rfl) (S.cellsAt (i:=0) rfl)) rfl fun a S=>Ey S underlying34 sizeOf102 zeroValue102 rfl rfl (pv:=[(0,.agg (Di.enc y2.2).toArray)]) ⟨rfl,(S.tm rfl),trivial⟩ (cs:=[sV y2.2.Site,iV y2.2.No,iV y2.2.At,iV y2.2.Kind,sV y2.2.Who,sV y2.2.Club,sV y2.2.Race,iV y2.2.Time,iV y2.2.Fault,sV y2.2.Of,iV y2.2.Other]) (by kernel_rfl) rfl ?_));clear S;intro a w18 b6 hz5 hk10 S
   obtain ⟨hc1,h⟩:=Ig h
   refine Ni Oo Di.enc_ok S (S.tm rfl) (i:=3) rfl (S.tm rfl) (j:=0) rfl (ys:=[y2.2]) rfl rfl rfl rfl (by have:=Nu hc1;omega) rfl ?_;clear S;intro v2 a w19 hk11 S
   refine Va S rfl rfl fun a S=>Ld (Hp (Tn ?_))
   obtain rfl:=Option.some.inj h
   exact ⟨ER x1 bs1 sn2,⟨(x6 ++ [y2.2]),v2,sn2,rfl,hn2,S.nf [false,false,true,true,true] rfl (subR rfl)⟩,by have:=hp1.length_eq;rw [hq] at this;simp only [List.length_cons] at this;omega⟩
 clear S h;rintro a w14 ⟨x6,v1,h,S⟩;rw [hj6] at h;clear hj6 j6
 refine Tn (Fr (Vm S rfl rfl ?_));clear S;intro a S
 obtain ⟨r1,hr2,h⟩:=Fa h
 refine Mj 0 S rfl (fun _=>.own v1 102 11 r1.length (r1.flatMap Di.enc)) (fun _=>Dq (vs:=[v1,.func (.func 122) #[] #[]]) ⟨(S.tm rfl),rfl,trivial⟩ call121) (Ul _ v1 x6 (S.holds _ (List.mem_of_getElem? (i:=0) rfl)) _ hr2) rfl (fun _ _ _ h=>⟨h.1,fun _ hc=>hc⟩) ?_;clear S;intro v3 a w20 hv1 hk12 hn3 S
 replace hv1:=hv1.2
 subst hv1
 refine Dz (Vm S rfl rfl fun a S=>Va S rfl rfl fun a S=>Dl (wp_ret ?_))
 obtain rfl:=Option.some.inj h
 exact Et S results76 rfl (Ut S (i:=0) rfl rfl)
theorem EV (w : World) (U : Nat) (Ae : Jr) (Bn : R32) (Bv : Tt (view w []) Ae Bn) (Aq : Value) (Al : List Di) (Bd : Slc (view w []) 11 Aq (Al.map Di.enc)) (As : (view w []) U = some (.cells (R32.enc Bn ++ [Aq]).toArray 133 (0,0))) (Br : ByteArray) (r : Du × Int) (h : Xq Ae Al Br = some r) :
    Calls prog 58 [.pointer (some ⟨U,0,none⟩),sV Br].toArray w (Ret w [] fun _ v _=>v = .tuple #[.agg (Du.enc r.1).toArray,iV r.2]):=by
 obtain ⟨u1,u2,rfl,hs1,⟨u3,rfl,hs2⟩⟩:=Bv
 replace As : (view w []) U = some (.cells [u1.val,u3.val,iV Ae.Table.Relay,iV Ae.Table.Most,iV Ae.Final.Size,iV Ae.Final.Many,iV Ae.Final.Reserves,Aq].toArray 133 (0,0)):=As
 refine Fe func58 rfl ntmps58 rfl fun a S=>?_
 unfold Xq at h
 replace S:=S.k2 0 1 rfl
 refine Fr (Lw S (S.tm rfl) (cs:=[sV Br]) rfl rfl ?_);clear S;intro a w1 b1 hz1 hk1 S
 refine Hq S zeroValue40 (cs:=[sV An,iV 0,iV 0,iV 0,iV 0,iV 0,iV 0,iV 0]) rfl rfl ?_;clear S;intro a w2 b2 hz2 hk2 S
 refine Vk S rfl rfl fun a S=>Dz (Vm S rfl rfl fun a S=>Vu S Lv rfl rfl fun a S=>Vf DC S rfl rfl fun a S=>Vf Yu S rfl rfl fun a S=>lv S (Hx isAgg26 (off:=0) (o:=0) (S.tm rfl) ((Sc As).at S.emb0) rfl) rfl fun a S=>lv S (Tk (us:=#[]) (xs:=[].toArray) (ys:=[.tmp 3].toArray) (by simp) (evA ⟨(S.tm rfl),trivial⟩ (vs:=[.pointer (some ⟨b1,0,none⟩)]))) rfl ?_);clear S;intro a S
 refine Eb S (fun _=>Dq (vs:=[u1.val,.func (.func 101) #[] #[.pointer (some ⟨b1,0,none⟩)]]) ⟨(S.tm rfl),(S.tm rfl),trivial⟩ call100) (Vc _ u1.val Ae.Races (hs1.mono (S.le_arg Eg)) b1 Br (S.blk_view (i:=1) rfl ((Hg (e':=.blk b1 [sV Br] 9)) _ rfl)) _ rfl) rfl ?_;clear S;intro v1 a w3 hv1 hk3 hn1 S
 subst hv1
 refine Va S rfl rfl fun a S=>Dl (Fs (Fr (Vm S rfl rfl fun a S=>Vq S Es rfl rfl rfl fun a S=>Ld ?_)))
 replace S:=(S.nl [.blk b2 (Du.enc (Du.mk An 0 0 0 0 0 0 0)) 40,.blk b1 [sV Br] 9] [true,true] rfl).k5 0 3 4 6 15 rfl
 refine Tn (Fc h (S.tm rfl) (fun hb1 h=>?_) (fun hb1 h=>?_))
 ·refine Fr (lv S (Nl TH (pv:=[]) trivial (cs:=[sV An,iV 0,iV 0,iV 0,iV 0,iV 0,iV 0,iV 0]) (by kernel_rfl)) rfl fun a S=>Ex S (S.tm rfl) (S.tm rfl) (i:=0) (off:=0) rfl sizeOf40 (vs:=(Du.enc (Du.mk An 0 0 0 0 0 0 0))) rfl rfl rfl rfl ?_);clear S;intro w4 hk4 S
  refine Vk S rfl rfl fun a S=>Dl (wp_ret (Dv ?_))
  obtain rfl:=Option.some.inj h
  exact Xo S (rs:=[.cell 4 40,.tmp 5]) (vs:=[.agg (Du.enc (Du.mk An 0 0 0 0 0 0 0)).toArray,iV 8]) results58 ⟨(Tc (off:=0) S rfl isAgg40 sizeOf40 rfl (S.cellsAt (i:=0) rfl)),(BK S rfl),trivial⟩ rfl rfl
 ·refine wp_skip (Tn (Fs (Fr (Vm S rfl rfl fun a S=>Vl isAgg9 1 S rfl rfl rfl rfl ?_))));clear S;intro a S
  obtain ⟨r1,hr1,h⟩:=Fa h
  have hz3:=S.keep.size
  refine Eb S (fun _=>Dq (vs:=[.pointer (some ⟨U,0,none⟩),sV Br]) ⟨(S.tm rfl),(S.tm rfl),trivial⟩ call76) (Xu _ U Ae (R32.mk u1 (R28.mk u3 Ae.Table.Relay Ae.Table.Most) Ae.Final) ⟨u1,(R28.mk u3 Ae.Table.Relay Ae.Table.Most),rfl,(hs1.mono (S.le_arg Eg)),⟨u3,rfl,(hs2.mono (S.le_arg Eg))⟩⟩ Aq Al (Bd.mono (S.le_arg Eg)) ((S.le_arg Eg) _ _ As) Br _ hr1) rfl ?_;clear S;intro v2 a w5 hv2 hk5 hn2 S
  obtain ⟨φ1,hl1,hm1,S⟩:=S.see' hn2 hz3
  have hs3:=hv2.mono hm1
  refine lv S (Gi Oo (S.tm rfl) (Gf (Ge Di.enc_ok hs3))) rfl fun a S=>Vq S Kb rfl rfl rfl fun a S=>Dl (Fc h (S.tm rfl) (fun hb2 h=>?_) (fun hb2 h=>?_))
  ·refine Fr (lv S (Nl TH (pv:=[]) trivial (cs:=[sV An,iV 0,iV 0,iV 0,iV 0,iV 0,iV 0,iV 0]) (by kernel_rfl)) rfl fun a S=>Ex S (S.tm rfl) (S.tm rfl) (i:=0) (off:=0) rfl sizeOf40 (vs:=(Du.enc (Du.mk An 0 0 0 0 0 0 0))) rfl rfl rfl rfl ?_);clear S;intro w6 hk6 S
   refine Vk S rfl rfl fun a S=>Dl (wp_ret (Dv ?_))
   obtain rfl:=Option.some.inj h
   exact Xo S (rs:=[.cell 4 40,.tmp 5]) (vs:=[.agg (Du.enc (Du.mk An 0 0 0 0 0 0 0)).toArray,iV 2]) results58 ⟨(Tc (off:=0) S rfl isAgg40 sizeOf40 rfl (S.cellsAt (i:=0) rfl)),(BK S rfl),trivial⟩ rfl rfl
  ·refine wp_skip (Tn (Fr (Vm S rfl rfl fun a S=>Vu S Lv rfl rfl fun a S=>Vf DC S rfl rfl fun a S=>Vf Yu S rfl rfl fun a S=>lv S (Hx isAgg26 (off:=0) (o:=0) (S.tm rfl) ((Sc As).at S.emb0) rfl) rfl fun a S=>Vm S rfl rfl ?_)));clear S;intro a S
   obtain ⟨hc1,h⟩:=Ig h
   obtain ⟨b3,o1,hm2,hr2⟩:=Fk (a:=a) (x:=.tmp 27) (y:=.tmp 28) (ty:=0) Sh hs1 (Dw hc1).1 (Dw hc1).2 (S.tm rfl) (S.tm rfl)
   refine lv S (hr2 _) rfl ?_;clear S;intro a S
   clear hr2
   refine lv S (Fb isAgg40 sizeOf40 (off:=o1) (o:=0) (part:=(Du.enc (nth Ae.Races (Gv Ae.Races Br)))) rfl rfl (S.tm rfl) (hm2.at S.emb0)) rfl fun a S=>Ex S (S.tm rfl) (S.tm rfl) (i:=0) (off:=0) rfl sizeOf40 (vs:=(Du.enc (nth Ae.Races (Gv Ae.Races Br)))) rfl rfl rfl rfl ?_;clear S;intro w7 hk7 S
   refine Vk S rfl rfl fun a S=>Ld ?_
   replace S:=(S.nl [.blk b2 (Du.enc (nth Ae.Races (Gv Ae.Races Br))) 40] [true,false] rfl).k2 4 5 rfl
   refine Tn (wp_ret ?_)
   obtain rfl:=Option.some.inj h
   exact Xo S (rs:=[.cell 4 40,.tmp 5]) (vs:=[.agg (Du.enc (nth Ae.Races (Gv Ae.Races Br))).toArray,iV 0]) results58 ⟨(Tc (off:=0) S rfl isAgg40 sizeOf40 rfl (S.cellsAt (i:=0) rfl)),(BK S rfl),trivial⟩ rfl rfl
set_option maxRecDepth 20000 in
theorem PN (w : World) (ψ : View) (hψ : View.le ψ (view w [])) (Ad : Jr) (Cc : R32) (Cj : Tt ψ Ad Cc) (Ac : Value) (Aj : List Di) (Ai : Slc ψ 11 Ac (Aj.map Di.enc)) (Av : ByteArray) (Bg : Int) (r : (Option Lc) × Du × Int) (h : CY Ad Aj Av Bg = some r) :
    Calls prog 26 [.agg (R32.enc Cc).toArray,Ac,sV Av,iV Bg].toArray w (Ret w [] fun τ v _=>∃ u1 : Value,v = .tuple #[u1,.agg (Du.enc r.2.1).toArray,iV r.2.2] ∧ CU (join ψ τ) 133 FY.enc BR u1 r.1):=by
 obtain ⟨u1,u2,rfl,hs1,⟨u3,rfl,hs2⟩⟩:=Cj
 refine Fe func26 rfl ntmps26 rfl fun a S=>?_
 unfold CY at h
 replace S:=S.k4 0 1 2 3 rfl
 refine Fr (Lw S (S.tm rfl) (cs:=[u1.val,u3.val,iV Ad.Table.Relay,iV Ad.Table.Most,iV Ad.Final.Size,iV Ad.Final.Many,iV Ad.Final.Reserves]) rfl rfl ?_);clear S;intro a w1 b1 hz1 hk1 S
 refine Vk S rfl rfl fun a S=>Hq S zeroValue40 (cs:=[sV An,iV 0,iV 0,iV 0,iV 0,iV 0,iV 0,iV 0]) rfl rfl ?_;clear S;intro a w2 b2 hz2 hk2 S
 refine Vk S rfl rfl fun a S=>Dz (lv S (Fb isAgg32 sizeOf32 (off:=0) (o:=0) (part:=[u1.val,u3.val,iV Ad.Table.Relay,iV Ad.Table.Most,iV Ad.Final.Size,iV Ad.Final.Many,iV Ad.Final.Reserves]) rfl rfl (S.tm rfl) (S.cellsAt (i:=1) rfl)) rfl fun a S=>Vm S rfl rfl fun a S=>Vm S rfl rfl fun a S=>Ey S underlying22 sizeOf3 zeroValue3 rfl rfl (pv:=[(0,iV Bg)]) ⟨rfl,(S.tm rfl),trivial⟩ (cs:=[iV Bg]) (by kernel_rfl) rfl ?_);clear S;intro a w3 b3 hz3 hk3 S
 replace S:=S.litOwn (i:=0) (xs:=[Bg]) rfl Jf rfl rfl rfl
 replace S:=S.nk [.own (.slice (some ⟨b3,0,none⟩) 1 1) 3 1 ([Bg] : List Int).length (([Bg] : List Int).flatMap eInt),.blk b2 (Du.enc (Du.mk An 0 0 0 0 0 0 0)) 40,.blk b1 [u1.val,u3.val,iV Ad.Table.Relay,iV Ad.Table.Most,iV Ad.Final.Size,iV Ad.Final.Many,iV Ad.Final.Reserves] 32] [(0,.agg #[u1.val,u3.val,iV Ad.Table.Relay,iV Ad.Table.Most,iV Ad.Final.Size,iV Ad.Final.Many,iV Ad.Final.Reserves]),(1,Ac),(2,sV Av),(3,iV Bg),(4,.pointer (some ⟨b1,0,none⟩)),(8,.pointer none),(9,.pointer (some ⟨b2,0,none⟩)),(10,iV 0),(15,.agg #[u1.val,u3.val,iV Ad.Table.Relay,iV Ad.Table.Most,iV Ad.Final.Size,iV Ad.Final.Many,iV Ad.Final.Reserves]),(16,Ac),(17,iV Bg),(18,(.slice (some ⟨b3,0,none⟩) 1 1))] [] rfl (subR rfl)
 obtain ⟨φ1,hl1,hs3,S⟩:=S.freezeT (xs:=([Bg] : List Int)) (enc:=eInt) (i:=0) rfl (fun _ h=>by cases h)
 replace S:=S.nk [.blk b2 (Du.enc (Du.mk An 0 0 0 0 0 0 0)) 40,.blk b1 [u1.val,u3.val,iV Ad.Table.Relay,iV Ad.Table.Most,iV Ad.Final.Size,iV Ad.Final.Many,iV Ad.Final.Reserves] 32] [(0,.agg #[u1.val,u3.val,iV Ad.Table.Relay,iV Ad.Table.Most,iV Ad.Final.Size,iV Ad.Final.Many,iV Ad.Final.Reserves]),(1,Ac),(2,sV Av),(3,iV Bg),(4,.pointer (some ⟨b1,0,none⟩)),(8,.pointer none),(9,.pointer (some ⟨b2,0,none⟩)),(10,iV 0),(15,.agg #[u1.val,u3.val,iV Ad.Table.Relay,iV Ad.Table.Most,iV Ad.Final.Size,iV Ad.Final.Many,iV Ad.Final.Reserves]),(16,Ac),(17,iV Bg),(18,(.slice (some ⟨b3,0,none⟩) 1 1))] [] rfl (subR rfl)
 obtain ⟨r1,hr1,h⟩:=Fa h
 have hz4:=S.keep.size
 refine Eb S (fun _=>Dq (vs:=[.agg (R32.enc (R32.mk u1 (R28.mk u3 Ad.Table.Relay Ad.Table.Most) Ad.Final)).toArray,Ac,(.slice (some ⟨b3,0,none⟩) 1 1)]) ⟨(S.tm rfl),(S.tm rfl),(S.tm rfl),trivial⟩ call31) (GH _ (join ψ φ1) (Pw (View.le_trans hψ (S.le_arg Eg)) (S.le_new Eg)) Ad (R32.mk u1 (R28.mk u3 Ad.Table.Relay Ad.Table.Most) Ad.Final) ⟨u1,(R28.mk u3 Ad.Table.Relay Ad.Table.Most),rfl,(hs1.mono (le_join_left _ _)),⟨u3,rfl,(hs2.mono (le_join_left _ _))⟩⟩ Ac Aj (Ai.mono (le_join_left _ _)) (.slice (some ⟨b3,0,none⟩) 1 1) ([Bg] : List Int) ((Ge Jf hs3).mono (S.all_right hψ)) _ hr1) rfl ?_;clear S;intro v1 a w4 hv1 hk4 hn1 S
 obtain ⟨u4,rfl,ho1⟩:=hv1
 obtain ⟨φ2,hl2,hm1,S⟩:=S.see' hn1 hz4
 have hq1:=CU.mono (Sg (Tx hl2 hm1)) (Tx hl2 hm1) ho1
 refine Vm S rfl rfl fun a S=>Vq S Fu rfl rfl rfl fun a S=>Vq S Fu rfl rfl rfl fun a S=>Va S rfl rfl fun a S=>Va S rfl rfl fun a S=>Ld ?_
 replace S:=(S.nl [.blk b2 (Du.enc (Du.mk An 0 0 0 0 0 0 0)) 40] [true,false] rfl).k4 2 9 11 12 rfl
 refine Tn (Fs (Fr (Vm S rfl rfl fun a S=>Vq S Mn rfl rfl rfl fun a S=>Dl (Fc h (S.tm rfl) (fun hb1 h=>?_) (fun hb1 h=>?_)))))
 ·refine Fr (lv S (Nl TH (pv:=[]) trivial (cs:=[sV An,iV 0,iV 0,iV 0,iV 0,iV 0,iV 0,iV 0]) (by kernel_rfl)) rfl fun a S=>Vm S rfl rfl fun a S=>Vk S rfl rfl fun a S=>Ex S (S.tm rfl) (S.tm rfl) (i:=0) (off:=0) rfl sizeOf40 (vs:=(Du.enc (Du.mk An 0 0 0 0 0 0 0))) rfl rfl rfl rfl ?_);clear S;intro w5 hk5 S
  refine Va S rfl rfl fun a S=>Dl (wp_ret (Dv ?_))
  obtain rfl:=Option.some.inj h
  exact Xo S (rs:=[.tmp 8,.cell 9 40,.tmp 10]) (vs:=[.pointer none,.agg (Du.enc (Du.mk An 0 0 0 0 0 0 0)).toArray,iV r1.2]) results26 ⟨(BK S rfl),(Tc (off:=0) S rfl isAgg40 sizeOf40 rfl (S.cellsAt (i:=0) rfl)),(BK S rfl),trivial⟩ rfl ⟨_,rfl,rfl⟩
 ·refine wp_skip (Tn (Fr (Vm S rfl rfl fun a S=>Vm S rfl rfl ?_)));clear S;intro a S
  obtain ⟨r2,hr2,h⟩:=Fa h
  obtain ⟨b4,q1,rfl,hq2,hb2⟩:=hq1.deref hr2
  obtain ⟨u5,u9,rfl,⟨u6,u7,rfl,hs4,⟨u8,rfl,hs5⟩⟩,hs6⟩:=hq2
  replace hb2 : (join ψ φ2) b4 = some (.cells [u6.val,u8.val,iV r2.p_.Table.Relay,iV r2.p_.Table.Most,iV r2.p_.Final.Size,iV r2.p_.Final.Many,iV r2.p_.Final.Reserves,u9.val].toArray 133 (0,0)):=hb2
  obtain ⟨r3,hr3,h⟩:=Fa h
  refine Eb S (fun _=>Dq (vs:=[.pointer (some ⟨b4,0,none⟩),sV Av]) ⟨(S.tm rfl),(S.tm rfl),trivial⟩ call58) (EV _ b4 r2.p_ (R32.mk u6 (R28.mk u8 r2.p_.Table.Relay r2.p_.Table.Most) r2.p_.Final) ⟨u6,(R28.mk u8 r2.p_.Table.Relay r2.p_.Table.Most),rfl,(hs4.mono (Pw (View.le_trans hψ (S.le_arg Eg)) (S.le_new Eg))),⟨u8,rfl,(hs5.mono (Pw (View.le_trans hψ (S.le_arg Eg)) (S.le_new Eg)))⟩⟩ u9.val r2.deeds_ (hs6.mono (Pw (View.le_trans hψ (S.le_arg Eg)) (S.le_new Eg))) ((Pw (View.le_trans hψ (S.le_arg Eg)) (S.le_new Eg)) _ _ hb2) Av _ hr3) rfl ?_;clear S;intro v2 a w6 hv2 hk6 hn2 S
  subst hv2
  refine Vm S rfl rfl fun a S=>Vq S Fu rfl rfl rfl fun a S=>Vq S Fu rfl rfl rfl fun a S=>Hq S zeroValue40 (cs:=[sV An,iV 0,iV 0,iV 0,iV 0,iV 0,iV 0,iV 0]) rfl rfl ?_;clear S;intro a w7 b5 hz5 hk7 S
  refine Ex S (S.tm rfl) (S.tm rfl) (i:=0) (off:=0) rfl sizeOf40 (vs:=(Du.enc r3.1)) rfl rfl rfl rfl ?_;clear S;intro w8 hk8 S
  refine Va S rfl rfl fun a S=>Dl (Fs (Gt [] ([b2]) Tryz.mixed S rfl (by kernel_rfl) ?_));clear S;intro w10 hk10 hsel S
  refine Ea 0 S hsel rfl rfl rfl (by kernel_rfl) (by kernel_rfl) rfl (fun _ hw=>(Rm (S.tm rfl))) fun a S=>Ea 1 S hsel rfl rfl rfl (by kernel_rfl) (by kernel_rfl) rfl (fun _ hw=>(Fb isAgg40 sizeOf40 (off:=0) (o:=0) (part:=(Du.enc r3.1)) rfl rfl (S.tm rfl) ((S.blk_mem (i:=0) (cells:=(Du.enc r3.1)) (b:=b5) (T:=40) rfl (Nc (i:=1) (j:=0) (e:=.blk b2 (Du.enc (Du.mk An 0 0 0 0 0 0 0)) 40) (e':=.blk b5 (Du.enc r3.1) 40) S rfl rfl rfl)).kept hw))) fun a S=>Ea 2 S hsel rfl rfl rfl (by kernel_rfl) (by kernel_rfl) rfl (fun _ hw=>(Rm (S.tm rfl))) fun a S=>Ea 3 S hsel rfl rfl rfl (by kernel_rfl) (by kernel_rfl) rfl (fun _ hw=>(Ra (S.tm rfl))) fun a S=>Hb 4 (by kernel_rfl) rfl (Ex S (S.tm rfl) (S.tm rfl) (i:=1) (off:=0) rfl sizeOf40 (vs:=(Du.enc r3.1)) rfl rfl rfl rfl ?_);clear S;intro w11 hk11 S
  refine Ld (Hy hk11 (Li [5] hsel (by kernel_rfl) rfl ?_))
  clear hsel
  refine Gp S rfl (Ra (S.tm rfl)) rfl fun a S=>Ij ?_
  replace S:=(S.nl [.blk b2 (Du.enc r3.1) 40] [false,true] rfl).k3 8 9 10 rfl
  refine Tn (wp_ret ?_)
  obtain rfl:=Option.some.inj h
  exact Xo S (rs:=[.tmp 8,.cell 9 40,.tmp 10]) (vs:=[.pointer (some ⟨b4,0,none⟩),.agg (Du.enc r3.1).toArray,iV r3.2]) results26 ⟨(BK S rfl),(Tc (off:=0) S rfl isAgg40 sizeOf40 rfl (S.cellsAt (i:=0) rfl)),(BK S rfl),trivial⟩ rfl ⟨_,rfl,(CU.mk (FY.mk (R32.mk u6 (R28.mk u8 r2.p_.Table.Relay r2.p_.Table.Most) r2.p_.Final) u9) (Sg (Zx hψ S.le_newer) _ _ ⟨(R32.mk u6 (R28.mk u8 r2.p_.Table.Relay r2.p_.Table.Most) r2.p_.Final),u9,rfl,⟨u6,(R28.mk u8 r2.p_.Table.Relay r2.p_.Table.Most),rfl,hs4,⟨u8,rfl,hs5⟩⟩,hs6⟩) ((Zx hψ S.le_newer) _ _ hb2))⟩
theorem LH (w : World) (U : Nat) (Ae : Jr) (Bn : R32) (Bv : Tt (view w []) Ae Bn) (Aq : Value) (Al : List Di) (Bd : Slc (view w []) 11 Aq (Al.map Di.enc)) (As : (view w []) U = some (.cells (R32.enc Bn ++ [Aq]).toArray 133 (0,0))) (Av : ByteArray) (r : (List (ByteArray × Di))) (h : Ic Ae Al Av = r) :
    Calls prog 102 [.pointer (some ⟨U,0,none⟩),sV Av].toArray w (Ret w [] fun τ v _=>∃ b : Nat,v = .map (some b) ∧ τ b = some (.map (Fi Value.string (fun x=>Value.agg (Di.enc x).toArray) r) r.length)):=by
 obtain ⟨u1,u2,rfl,hs1,⟨u3,rfl,hs2⟩⟩:=Bv
 replace As : (view w []) U = some (.cells [u1.val,u3.val,iV Ae.Table.Relay,iV Ae.Table.Most,iV Ae.Final.Size,iV Ae.Final.Many,iV Ae.Final.Reserves,Aq].toArray 133 (0,0)):=As
 refine Fe func102 rfl ntmps102 rfl fun a S=>?_
 unfold Ic at h
 replace S:=S.k2 0 1 rfl
 refine Fr (Vk S rfl rfl fun a S=>Dz (Rg (κ:=ByteArray) (ν:=Di) S rfl Value.string (fun x=>Value.agg (Di.enc x).toArray) ?_));clear S;intro a w1 b1 hz1 hk1 S
 refine Va S rfl rfl fun a S=>Dl (Fs (Fr (Vm S rfl rfl fun a S=>Vu S Lv rfl rfl fun a S=>Vf GC S rfl rfl fun a S=>lv S (Hx isAgg34 (off:=0) (o:=7) (S.tm rfl) ((Sc As).at S.emb0) rfl) rfl fun a S=>lv S (Gi Oo (S.tm rfl) (Gf Bd)) rfl ?_)));clear S;intro a S
 refine lv S (Rm rfl) rfl fun a S=>Dl ?_
 replace S:=(S.nl [.map b1 (Fi Value.string (fun x=>Value.agg (Di.enc x).toArray) ([] : List (ByteArray × Di))) ([] : List (ByteArray × Di)).length] [true] rfl).k5 1 5 12 13 14 rfl
 obtain ⟨j1,hj1,h⟩:=Eu h
 refine Eh (fun a w'=>∃ x1 : List (ByteArray × Di),j1 x1 = r ∧ Sx w [] nov [.map b1 (Fi Value.string (fun x=>Value.agg (Di.enc x).toArray) x1) x1.length] [(5,.map (some b1))] 33 a w') ?_ ?_
 ·refine wp_block (Gr (fun (ys1 : List Di) a w'=>∃ i1 : Nat,∃ x1 : List (ByteArray × Di),(∃ dn,Al = dn ++ ys1 ∧ dn.length = i1) ∧ Pd Av j1 ys1 i1 x1 = r ∧ Sx w [] nov [.map b1 (Fi Value.string (fun x=>Value.agg (Di.enc x).toArray) x1) x1.length] [(1,sV Av),(5,.map (some b1)),(12,Aq),(13,iV (Al.length : Int)),(14,iV (i1 : Int))] 33 a w') List.length Al ⟨0,([] : List (ByteArray × Di)),⟨[],rfl,rfl⟩,h,S.nf [true] rfl (subR rfl)⟩ ?_)
  clear S h;rintro ys1 a w2 ⟨i1,x1,⟨dn,hd1,hi1⟩,h,S⟩
  cases ys1 with
  | nil =>
   rw [Pd.eq_1] at h
   refine Fr (Vb S Es rfl rfl rfl fun a S=>Ld ?_)
   replace S:=S.k6 1 5 12 13 14 15 rfl
   exact Tn (Fs (wp_cond_false ((S.tm rfl).trans (congrArg Value.bool (Jd hd1 hi1))) (wp_exit (Ed (Ed (Gn (Tn (⟨x1,h,S.nf [true] rfl ⟨rfl,trivial⟩⟩))))))))
  | cons y1 ys1 =>
   rw [Pd.eq_2] at h
   refine Fr (Vb S Es rfl rfl rfl fun a S=>Ld ?_)
   replace S:=S.k6 1 5 12 13 14 15 rfl
   refine Tn (Fs (wp_cond_true ((S.tm rfl).trans (congrArg Value.bool (Ia hd1 hi1))) (wp_skip (Tn (Fs ?_)))))
   obtain ⟨j2,hj2,h⟩:=Eu h
   refine Eh (fun a w'=>∃ x2 : List (ByteArray × Di),j2 x2 = r ∧ Sx w [] nov [.map b1 (Fi Value.string (fun x=>Value.agg (Di.enc x).toArray) x2) x2.length] [(1,sV Av),(5,.map (some b1)),(12,Aq),(13,iV (Al.length : Int)),(14,iV (i1 : Int))] 33 a w') ?_ ?_
   ·refine wp_block (Fs (Fg ?_))
    obtain ⟨b2,o1,hm1,hr1⟩:=Fk (a:=a) (x:=.tmp 12) (y:=.tmp 14) (ty:=0) Oo Bd (Jc hd1 hi1) rfl (S.tm rfl) (S.tm rfl)
    refine lv S (hr1 _) rfl ?_;clear S;intro a S
    clear hr1
    refine lv S (Fb isAgg102 sizeOf102 (off:=o1) (o:=0) (part:=(Di.enc y1)) rfl rfl (S.tm rfl) (hm1.at S.emb0)) rfl fun a S=>Hq S zeroValue102 (cs:=[sV An,iV 0,iV 0,iV 0,sV An,sV An,sV An,iV 0,iV 0,sV An,iV 0]) rfl rfl ?_;clear S;intro a w5 b3 hz2 hk2 S
    refine Ex S (S.tm rfl) (S.tm rfl) (i:=0) (off:=0) rfl sizeOf102 (vs:=(Di.enc y1)) rfl rfl rfl rfl ?_;clear S;intro w6 hk3 S
    refine Dz (Vf Sj S rfl rfl fun a S=>Vl isAgg9 0 S rfl rfl rfl rfl fun a S=>Vm S rfl rfl fun a S=>Vb S Xy rfl rfl rfl fun a S=>Vm S rfl rfl fun a S=>Iy 4 (fun a w'=>Keep [] w6 w' ∧ Sx w [] nov [.blk b3 (Di.enc y1) 102,.map b1 (Fi Value.string (fun x=>Value.agg (Di.enc x).toArray) x1) x1.length] [(1,sV Av),(5,.map (some b1)),(7,.pointer (some ⟨b3,0,none⟩)),(12,Aq),(13,iV (Al.length : Int)),(14,iV (i1 : Int)),(26,bV ((decide (y1.Race = Av)) && (decide (y1.Kind = 3))))] 33 a w') ?_ ?_)
    ·rcases Bool.eq_false_or_eq_true (decide (y1.Race = Av)) with hb1 | hb1
     ·exact Dy S rfl rfl rfl hb1 (Vf Pl S rfl rfl fun a S=>Dy S rfl rfl rfl hb1 (Vl isAgg3 0 S rfl rfl rfl rfl fun a S=>Dy S rfl rfl rfl hb1 (Vq S Jk rfl rfl rfl fun a S=>lv S (Io hb1 (S.tm rfl) (S.tm rfl)) rfl fun a S=>Dl (⟨Keep.refl _ _,S.nf [true,true] rfl (subR rfl)⟩))))
     ·iterate 3 (refine Ht S rfl rfl rfl (Kp hb1) rfl ?_ rfl;clear S;intro a S)
      exact lv S (Ip (decide (y1.Kind = 3)) hb1 (S.tm rfl) rfl) rfl fun a S=>Dl (⟨Keep.refl _ _,S.nf [true,true] rfl (subR rfl)⟩)
    clear S;rintro a w7 ⟨hk4,S⟩
    refine Dl ?_
    obtain ⟨j3,hj3,h⟩:=Eu h
    refine Eh (fun a w'=>∃ x3 : List (ByteArray × Di),j3 x3 = r ∧ Sx w [] nov [.blk b3 (Di.enc y1) 102,.map b1 (Fi Value.string (fun x=>Value.agg (Di.enc x).toArray) x3) x3.length] [(1,sV Av),(5,.map (some b1)),(12,Aq),(13,iV (Al.length : Int)),(14,iV (i1 : Int))] 33 a w') ?_ ?_
    ·refine Fc h (S.tm rfl) (fun hb2 h=>?_) (fun hb2 h=>?_)
     ·refine Fg (Vm S rfl rfl fun a S=>Vf Oh S rfl rfl fun a S=>Vl isAgg9 0 S rfl rfl rfl rfl fun a S=>lv S (Fb isAgg102 sizeOf102 (off:=0) (o:=0) (part:=(Di.enc y1)) rfl rfl (S.tm rfl) (S.cellsAt (i:=0) rfl)) rfl fun a S=>Nm (kv:=Value.string) (vv:=(fun x=>Value.agg (Di.enc x).toArray)) (m:=x1) (key:=y1.Who) (val:=y1) S (i:=1) rfl underlying167 (Lm underlying9) (S.tm rfl) (S.tm rfl) (S.tm rfl) ?_);clear S;intro w9 hk5 S
      exact Dl (⟨(Gk x1 y1.Who y1),h,S.nf [true,true] rfl (subR rfl)⟩)
     ·exact wp_skip (Tn (⟨x1,h,S.nf [true,true] rfl (subR rfl)⟩))
    clear S h;rintro a w8 ⟨x3,h,S⟩;rw [hj3] at h;clear hj3 j3
    exact Hp (Tn (⟨x3,h,S.nf [false,true] rfl (subR rfl)⟩))
   clear S h;rintro a w4 ⟨x2,h,S⟩;rw [hj2] at h;clear hj2 j2
   exact Tn (Fg (Vq S Gc rfl rfl rfl fun a S=>Vm S rfl rfl fun a S=>Dl (⟨ys1,⟨i1 + 1,x2,⟨_,(hd1).trans (List.append_cons _ _ _),by simp [hi1]⟩,h,S.nf [true] rfl ⟨rfl,rfl,rfl,rfl,(congrArg (fun z=>some (Value.int .i64 z)) (Ib hd1 hi1 (Jp Bd))),trivial⟩⟩,Nat.lt_succ_self _⟩)))
 clear S h;rintro a w3 ⟨x1,h,S⟩;rw [hj1] at h;clear hj1 j1
 refine Tn (Fr (Vm S rfl rfl fun a S=>Va S rfl rfl fun a S=>Dl (wp_ret ?_)))
 subst h
 exact Et S results102 rfl ⟨_,rfl,S.map_ret (i:=0) rfl rfl⟩
theorem FK (w : World) (Ac : Value) (Aj : List Kj) (Ai : Slc (view w []) 2 Ac (Aj.map Kj.enc)) (r : Int) (h : Ua Aj = some r) :
    Calls prog 157 [Ac].toArray w (Ret w [] fun _ v _=>v = iV r):=by
 refine Fe func157 rfl ntmps157 rfl fun a S=>?_
 unfold Ua at h
 replace S:=S.k1 0 rfl
 refine Fr (Vk S rfl rfl fun a S=>Dl (Fs (Fr (Vm S rfl rfl fun a S=>lv S (Gi HJ (S.tm rfl) (Gf Ai)) rfl fun a S=>Vq S Kb rfl rfl rfl ?_))));clear S;intro a S
 refine Dl (Fc h (S.tm rfl) (fun hb1 h=>?_) (fun hb1 h=>?_))
 ·refine Fr (Vk S rfl rfl fun a S=>Dl (wp_ret (Dv ?_)))
  obtain rfl:=Option.some.inj h
  exact Et S results157 rfl rfl
 ·refine wp_skip (Tn (Fr (Rg (κ:=ByteArray) (ν:=Bool) S rfl Value.string Value.bool ?_)));clear S;intro a w1 b1 hz1 hk1 S
  refine Va S rfl rfl fun a S=>Dz (Vk S rfl rfl fun a S=>Dl (Fs (Fs (Fg ?_))))
  refine Vm S rfl rfl fun a S=>lv S (Gi HJ (S.tm rfl) (Gf Ai)) rfl fun a S=>lv S (Rm rfl) rfl fun a S=>Dl ?_
  replace S:=(S.nl [.map b1 (Fi Value.string Value.bool ([] : List (ByteArray × Bool))) ([] : List (ByteArray × Bool)).length] [true] rfl).k5 3 4 11 12 13 rfl
  obtain ⟨j1,hj1,h⟩:=Eu h
  refine Eh (fun a w'=>∃ x1 : List (ByteArray × Bool),∃ x2 : Bool,j1 x1 x2 = some r ∧ Sx w [] nov [.map b1 (Fi Value.string Value.bool x1) x1.length] [(4,bV x2)] 37 a w') ?_ ?_
  ·refine wp_block (Gr (fun (ys1 : List Kj) a w'=>∃ i1 : Nat,∃ x1 : List (ByteArray × Bool),∃ x2 : Bool,(∃ dn,Aj = dn ++ ys1 ∧ dn.length = i1) ∧ Lq j1 ys1 i1 x1 x2 = some r ∧ Sx w [] nov [.map b1 (Fi Value.string Value.bool x1) x1.length] [(3,.map (some b1)),(4,bV x2),(11,Ac),(12,iV (Aj.length : Int)),(13,iV (i1 : Int))] 37 a w') List.length Aj ⟨0,([] : List (ByteArray × Bool)),false,⟨[],rfl,rfl⟩,h,S.nf [true] rfl (subR rfl)⟩ ?_)
   clear S h;rintro ys1 a w2 ⟨i1,x1,x2,⟨dn,hd1,hi1⟩,h,S⟩
   cases ys1 with
   | nil =>
    rw [Lq.eq_1] at h
    refine Fr (Vb S Es rfl rfl rfl fun a S=>Ld ?_)
    replace S:=S.k6 3 4 11 12 13 14 rfl
    exact Tn (Fs (wp_cond_false ((S.tm rfl).trans (congrArg Value.bool (Jd hd1 hi1))) (wp_exit (Ed (Ed (Gn (Tn (⟨x1,x2,h,S.nf [true] rfl ⟨rfl,trivial⟩⟩))))))))
   | cons y1 ys1 =>
    rw [Lq.eq_2] at h
    refine Fr (Vb S Es rfl rfl rfl fun a S=>Ld ?_)
    replace S:=S.k6 3 4 11 12 13 14 rfl
    refine Tn (Fs (wp_cond_true ((S.tm rfl).trans (congrArg Value.bool (Ia hd1 hi1))) (wp_skip (Tn (Fs (wp_block (Fs (Fg ?_))))))))
    obtain ⟨b2,o1,hm1,hr1⟩:=Fk (a:=a) (x:=.tmp 11) (y:=.tmp 13) (ty:=0) HJ Ai (Jc hd1 hi1) rfl (S.tm rfl) (S.tm rfl)
    refine lv S (hr1 _) rfl ?_;clear S;intro a S
    clear hr1
    refine lv S (Fb isAgg173 sizeOf173 (off:=o1) (o:=0) (part:=(Kj.enc y1)) rfl rfl (S.tm rfl) (hm1.at S.emb0)) rfl fun a S=>Hq S zeroValue173 (cs:=[sV An,iV 0]) rfl rfl ?_;clear S;intro a w4 b3 hz2 hk2 S
    refine Ex S (S.tm rfl) (S.tm rfl) (i:=0) (off:=0) rfl sizeOf173 (vs:=(Kj.enc y1)) rfl rfl rfl rfl ?_;clear S;intro w5 hk3 S
    refine Dl (Fs (Fr (Vf DD S rfl rfl fun a S=>Vl isAgg9 0 S rfl rfl rfl rfl ?_)));clear S;intro a S
    obtain ⟨r1,hr2,h⟩:=Fa h
    refine Eb S (fun _=>Dq (vs:=[sV y1.Who]) ⟨(S.tm rfl),trivial⟩ call106) (Mf _ y1.Who _ hr2) rfl ?_;clear S;intro v1 a w6 hv1 hk4 hn1 S
    subst hv1
    refine Vu S Ih rfl rfl fun a S=>Dl (Fc h (S.tm rfl) (fun hb2 h=>?_) (fun hb2 h=>?_))
    ·refine Fr (Vk S rfl rfl fun a S=>Dl (wp_ret (Dv (Gq (Dv (Dv (Gq ?_)))))))
     refine Dv (Dv ?_)
     obtain rfl:=Option.some.inj h
     exact Et S results157 rfl rfl
    ·refine wp_skip (Tn (Fs (Fr (Vf PH S rfl rfl fun a S=>Vl isAgg3 0 S rfl rfl rfl rfl fun a S=>Eb S (fun _=>Dq (vs:=[iV y1.Time,iV 0,iV 360000]) ⟨(S.tm rfl),rfl,rfl,trivial⟩ call79) (Gj _ y1.Time 0 360000 _ rfl) rfl ?_))));clear S;intro v2 a w7 hv2 hk5 hn2 S
     subst hv2
     refine Vu S Ih rfl rfl fun a S=>Ld ?_
     replace S:=(S.nl [.blk b3 (Kj.enc y1) 173,.map b1 (Fi Value.string Value.bool x1) x1.length] [true,true] rfl).k7 3 4 6 11 12 13 24 rfl
     refine Tn (Fc h (S.tm rfl) (fun hb3 h=>?_) (fun hb3 h=>?_))
     ·refine Fr (Vk S rfl rfl fun a S=>Dl (wp_ret (Dv (Gq (Dv (Dv (Gq ?_)))))))
      refine Dv (Dv ?_)
      obtain rfl:=Option.some.inj h
      exact Et S results157 rfl rfl
     ·refine wp_skip (Tn (Fr (Vm S rfl rfl fun a S=>Vm S rfl rfl fun a S=>Iy 5 (fun a w'=>Keep [] w7 w' ∧ Sx w [] nov [.blk b3 (Kj.enc y1) 173,.map b1 (Fi Value.string Value.bool x1) x1.length] [(3,.map (some b1)),(6,.pointer (some ⟨b3,0,none⟩)),(11,Ac),(12,iV (Aj.length : Int)),(13,iV (i1 : Int)),(31,bV (x2 || (Ec x1 y1.Who false)))] 37 a w') ?_ ?_)))
      ·rcases Bool.eq_false_or_eq_true x2 with hb4 | hb4
       ·iterate 4 (refine Ht S rfl rfl rfl (Oa hb4) rfl ?_ rfl;clear S;intro a S)
        exact lv S (Mo (Ec x1 y1.Who false) hb4 (S.tm rfl) rfl) rfl fun a S=>Dl (⟨Keep.refl _ _,S.nf [true,true] rfl (subR rfl)⟩)
       ·refine Dy S rfl rfl rfl hb4 (Vm S rfl rfl fun a S=>Dy S rfl rfl rfl hb4 (Vf DD S rfl rfl fun a S=>Dy S rfl rfl rfl hb4 (Vl isAgg9 0 S rfl rfl rfl rfl fun a S=>Dy S rfl rfl rfl hb4 (lv S (Pt (kv:=Value.string) (vv:=Value.bool) (m:=x1) (key:=y1.Who) (z:=false) (S.map_at (i:=1) rfl) underlying223 (Lm underlying9) zeroValue4 (S.tm rfl) (S.tm rfl)) rfl fun a S=>lv S (Mp hb4 (S.tm rfl) (S.tm rfl)) rfl fun a S=>Dl ?_))))
        exact ⟨Keep.refl _ _,S.nf [true,true] rfl (subR rfl)⟩
      clear S;rintro a w8 ⟨hk6,S⟩
      refine Va S rfl rfl fun a S=>Dl (Fg (Vm S rfl rfl fun a S=>Vf DD S rfl rfl fun a S=>Vl isAgg9 0 S rfl rfl rfl rfl fun a S=>Nm (kv:=Value.string) (vv:=Value.bool) (m:=x1) (key:=y1.Who) (val:=true) S (i:=1) rfl underlying223 (Lm underlying9) (S.tm rfl) (S.tm rfl) rfl ?_));clear S;intro w9 hk7 S
      exact Ld (Hp (Tn (Fg (Vq S Gc rfl rfl rfl fun a S=>Vm S rfl rfl fun a S=>Dl (⟨ys1,⟨i1 + 1,(Gk x1 y1.Who true),(x2 || (Ec x1 y1.Who false)),⟨_,(hd1).trans (List.append_cons _ _ _),by simp [hi1]⟩,h,S.nf [false,true] rfl ⟨rfl,rfl,rfl,rfl,(congrArg (fun z=>some (Value.int .i64 z)) (Ib hd1 hi1 (Jp Ai))),trivial⟩⟩,Nat.lt_succ_self _⟩)))))
  clear S h;rintro a w3 ⟨x1,x2,h,S⟩;rw [hj1] at h;clear hj1 j1
  refine Tn (Fs (Fr (Vm S rfl rfl fun a S=>Dl (Fc h (S.tm rfl) (fun hb5 h=>?_) (fun hb5 h=>?_)))))
  ·refine Fr (Vk S rfl rfl fun a S=>Dl (wp_ret (Dv ?_)))
   obtain rfl:=Option.some.inj h
   exact Et S results157 rfl rfl
  ·refine wp_skip (Tn (Fr (Vk S rfl rfl fun a S=>Dl (wp_ret ?_))))
   obtain rfl:=Option.some.inj h
   exact Et S results157 rfl rfl
set_option maxRecDepth 20000 in
theorem BW (w : World) (Cd : Value) (Cn : List Iz) (Cm : List Ub) (Ch : Slc (view w []) 3 Cd (Cm.map Ub.enc)) (Ci : Ng (Wk (view w [])) Cn Cm) (r : Int) (h : Qv Cn = some r) :
    Calls prog 158 [Cd].toArray w (Ret w [] fun _ v _=>v = iV r):=by
 refine Fe func158 rfl ntmps158 rfl fun a S=>?_
 unfold Qv at h
 replace S:=S.k1 0 rfl
 refine Fr (Vk S rfl rfl fun a S=>Dl (Fs (Fr (Vm S rfl rfl fun a S=>lv S (Gi FD (S.tm rfl) (Zf Ch Ci)) rfl fun a S=>Vq S Kb rfl rfl rfl ?_))));clear S;intro a S
 refine Dl (Fc h (S.tm rfl) (fun hb1 h=>?_) (fun hb1 h=>?_))
 ·refine Fr (Vk S rfl rfl fun a S=>Dl (wp_ret (Dv ?_)))
  obtain rfl:=Option.some.inj h
  exact Et S results158 rfl rfl
 ·refine wp_skip (Tn (Fs (Fr (Vm S rfl rfl fun a S=>lv S (Gi FD (S.tm rfl) (Zf Ch Ci)) rfl fun a S=>lv S (Rm rfl) rfl fun a S=>Dl ?_))))
  replace S:=S.k4 0 8 9 10 rfl
  obtain ⟨j1,hj1,h⟩:=Eu h
  refine Eh (fun a w'=>j1 = some r ∧ Sx w [] nov [] [] 40 a w') ?_ ?_
  ·refine wp_block (Gr (fun (ys1 : List Iz) a w'=>∃ i1 : Nat,(∃ dn,Cn = dn ++ ys1 ∧ dn.length = i1) ∧ Jt Cn j1 ys1 i1 = some r ∧ Sx w [] nov [] [(0,Cd),(8,Cd),(9,iV (Cn.length : Int)),(10,iV (i1 : Int))] 40 a w') List.length Cn ⟨0,⟨[],rfl,rfl⟩,h,S.nf [] rfl (subR rfl)⟩ ?_)
   clear S h;rintro ys1 a w1 ⟨i1,⟨dn,hd1,hi1⟩,h,S⟩
   cases ys1 with
   | nil =>
    rw [Jt.eq_1] at h
    refine Fr (Vb S Es rfl rfl rfl fun a S=>Ld ?_)
    replace S:=S.k5 0 8 9 10 11 rfl
    exact Tn (Fs (wp_cond_false ((S.tm rfl).trans (congrArg Value.bool (Jd hd1 hi1))) (wp_exit (Ed (Ed (Gn (Tn (⟨h,S.nf [] rfl trivial⟩))))))))
   | cons y1 ys1 =>
    rw [Jt.eq_2] at h
    refine Fr (Vb S Es rfl rfl rfl fun a S=>Ld ?_)
    replace S:=S.k5 0 8 9 10 11 rfl
    refine Tn (Fs (wp_cond_true ((S.tm rfl).trans (congrArg Value.bool (Ia hd1 hi1))) (wp_skip (Tn (Fs (wp_block (Fr (Vm S rfl rfl ?_))))))));clear S;intro a S
    obtain ⟨r1,hg1,hl1⟩:=Ng.at Ci (Jc hd1 hi1)
    obtain ⟨u1,rfl,hs1⟩:=hl1
    obtain ⟨b1,o1,hm1,hr1⟩:=Fk (a:=a) (x:=.tmp 8) (y:=.tmp 10) (ty:=0) FD Ch hg1 rfl (S.tm rfl) (S.tm rfl)
    refine lv S (hr1 _) rfl ?_;clear S;intro a S
    clear hr1
    refine lv S (Fb isAgg175 sizeOf175 (off:=o1) (o:=0) (part:=[sV y1.Who,iV y1.Fault,u1.val]) rfl rfl (S.tm rfl) (hm1.at S.emb0)) rfl fun a S=>Hq S zeroValue175 (cs:=[sV An,iV 0,.slice none 0 0]) rfl rfl ?_;clear S;intro a w3 b2 hz1 hk1 S
    refine Va S rfl rfl fun a S=>Ex S (S.tm rfl) (S.tm rfl) (i:=0) (off:=0) rfl sizeOf175 (vs:=[sV y1.Who,iV y1.Fault,u1.val]) rfl rfl rfl (Vi rfl (Vi rfl (Vi (Lp.one (Gf hs1)) rfl))) ?_;clear S;intro w4 hk2 S
    refine Dl (wp_block (Fr (Vf GD S rfl rfl fun a S=>Vl isAgg9 0 S rfl rfl rfl rfl ?_)));clear S;intro a S
    obtain ⟨r2,hr2,h⟩:=Fa h
    refine Eb S (fun _=>Dq (vs:=[sV y1.Who]) ⟨(S.tm rfl),trivial⟩ call106) (Mf _ y1.Who _ hr2) rfl ?_;clear S;intro v1 a w5 hv1 hk3 hn1 S
    subst hv1
    refine Vu S Ih rfl rfl fun a S=>Va S rfl rfl fun a S=>Ld ?_
    replace S:=(S.nl [.blk b2 [sV y1.Who,iV y1.Fault,u1.val] 175] [true] rfl).k7 0 3 4 8 9 10 15 rfl
    refine Tn (Fc h (S.tm rfl) (fun hb2 h=>?_) (fun hb2 h=>?_))
    ·refine Fr (Vk S rfl rfl fun a S=>Dl (wp_ret (Gq (Gq (Dv (Dv (Gq ?_)))))))
     refine Dv (Dv ?_)
     obtain rfl:=Option.some.inj h
     exact Et S results158 rfl rfl
    ·refine Fr (Vf PI S rfl rfl fun a S=>Vl isAgg3 0 S rfl rfl rfl rfl fun a S=>Eb S (fun _=>Dq (vs:=[iV y1.Fault,iV 0,iV 8]) ⟨(S.tm rfl),rfl,rfl,trivial⟩ call79) (Gj _ y1.Fault 0 8 _ rfl) rfl ?_);clear S;intro v2 a w6 hv2 hk4 hn2 S
     subst hv2
     refine Vu S Ih rfl rfl fun a S=>Va S rfl rfl fun a S=>Dl (Fc h (S.tm rfl) (fun hb3 h=>?_) (fun hb3 h=>?_))
     ·refine Fr (Vk S rfl rfl fun a S=>Dl (wp_ret (Gq (Gq (Dv (Dv (Gq ?_)))))))
      refine Dv (Dv ?_)
      obtain rfl:=Option.some.inj h
      exact Et S results158 rfl rfl
     ·refine Fs (Gt [] ([]) Tryz.mixed S rfl (by kernel_rfl) ?_);clear S;intro w7 hk5 hsel S
      refine Li [0,1,2,3,4,5,6,7,8,9,10,11,12,13] hsel (by kernel_rfl) rfl ?_
      clear hsel
      refine Gp S rfl (Rm (S.tm rfl)) rfl fun a S=>Gp S rfl (Kb (S.tm rfl) rfl) rfl fun a S=>Gp S rfl (Rm (S.tm rfl)) rfl ?_;clear S;intro a S
      obtain ⟨j2,hj2,h⟩:=Eu h
      refine Ym 10 (fun a w'=>∃ c1,j2 c1 = some r ∧ Keep [] w7 w' ∧ Sx w [] nov [.blk b2 [sV y1.Who,iV y1.Fault,u1.val] 175] [(0,Cd),(8,Cd),(9,iV (Cn.length : Int)),(10,iV (i1 : Int)),(38,bV c1)] 40 a w') ?_ ?_
      ·rcases Bool.eq_false_or_eq_true (decide (0 < (i1 : Int))) with hb4 | hb4
       ·replace h:=Ti h hb4
        refine Fj S rfl rfl rfl rfl hb4 (Ha S (Gd GD (S.tm rfl)) rfl fun a S=>Fj S rfl rfl rfl rfl hb4 (Ha S (Nf isAgg9 (S.tm rfl) (S.cell (i:=0) rfl rfl)) rfl fun a S=>Fj S rfl rfl rfl rfl hb4 (Ha S (Rm (S.tm rfl)) rfl fun a S=>Fj S rfl rfl rfl rfl hb4 (Ha S (Rm (S.tm rfl)) rfl fun a S=>Fj S rfl rfl rfl rfl hb4 (Ha S (Iw (S.tm rfl) rfl) rfl fun a S=>Fj S rfl rfl rfl rfl hb4 ?_)))))
        obtain ⟨hc1,h⟩:=Ig h
        obtain ⟨r3,hg2,hl2⟩:=XE Ci hc1
        obtain ⟨u2,rfl,hs2⟩:=hl2
        obtain ⟨b3,o2,hm2,hr3⟩:=Fk (a:=a) (x:=.tmp 31) (y:=.tmp 33) (ty:=0) FD Ch hg2 (Dw hc1).2 (S.tm rfl) (S.tm rfl)
        refine Ha S (hr3 _) rfl ?_;clear S;intro a S
        clear hr3
        exact Fj S rfl rfl rfl rfl hb4 (Ha S (Gd GD (S.tm rfl)) rfl fun a S=>Fj S rfl rfl rfl rfl hb4 (Ha S (Hx isAgg9 (off:=o2) (o:=0) (S.tm rfl) (hm2.at S.emb0) rfl) rfl fun a S=>Fj S rfl rfl rfl rfl hb4 (Ha S (SN (S.tm rfl) (S.tm rfl)) rfl fun a S=>Gp S rfl (Io hb4 (S.tm rfl) (S.tm rfl)) rfl fun a S=>Ij (⟨_,h,Keep.refl _ _,S.nf [true] rfl (subR rfl)⟩))))
       ·replace h:=Tj h hb4
        iterate 9 (refine Pn S rfl rfl rfl rfl (Kp hb4) rfl ?_ rfl;clear S;intro a S)
        exact Gp S rfl (Ip true hb4 (S.tm rfl) rfl) rfl fun a S=>Ij (⟨_,h,Keep.refl _ _,S.nf [true] rfl (subR rfl)⟩)
      clear S h;rintro a w8 ⟨c1,h,hk6,S⟩;rw [hj2] at h;clear hj2 j2
      refine Gp S rfl (Ra (S.tm rfl)) rfl fun a S=>Ij ?_
      replace S:=S.n0.k5 0 8 9 10 25 rfl
      refine Tn (Fc h (S.tm rfl) (fun hb5 h=>?_) (fun hb5 h=>?_))
      ·refine Fr (Vk S rfl rfl fun a S=>Dl (wp_ret (Gq (Gq (Dv (Dv (Gq ?_)))))))
       refine Dv (Dv ?_)
       obtain rfl:=Option.some.inj h
       exact Et S results158 rfl rfl
      ·exact wp_skip (Hp (Hp (Tn (Fg (Vq S Gc rfl rfl rfl fun a S=>Vm S rfl rfl fun a S=>Dl (⟨ys1,⟨i1 + 1,⟨_,(hd1).trans (List.append_cons _ _ _),by simp [hi1]⟩,h,S.nf [] rfl ⟨rfl,rfl,rfl,(congrArg (fun z=>some (Value.int .i64 z)) (Ib hd1 hi1 (AO Ch Ci))),trivial⟩⟩,Nat.lt_succ_self _⟩))))))
  clear S h;rintro a w2 ⟨h,S⟩;rw [hj1] at h;clear hj1 j1
  refine Tn (Fr (Vk S rfl rfl fun a S=>Dl (wp_ret ?_)))
  obtain rfl:=Option.some.inj h
  exact Et S results158 rfl rfl
set_option maxRecDepth 20000 in
theorem HM (w : World) (Ah : Ds) (Ak : Ds) (De : Nat) (Dh : Int) (Cz : (view w []) De = some (.cells [iV Dh].toArray 3 (0,0))) (r : Int) (h : Wd Ah Ak Dh = some r) :
    Calls prog 160 [.agg (Ds.enc Ah).toArray,.agg (Ds.enc Ak).toArray,.pointer (some ⟨De,0,none⟩)].toArray w (Ret w [] fun _ v _=>v = iV r):=by
 refine Fe func160 rfl ntmps160 rfl fun a S=>?_
 unfold Wd at h
 replace S:=S.k3 0 1 2 rfl
 refine Fr (Lw S (S.tm rfl) (cs:=(Ds.enc Ah)) rfl rfl ?_);clear S;intro a w1 b1 hz1 hk1 S
 refine Lw S (S.tm rfl) (cs:=(Ds.enc Ak)) rfl rfl ?_;clear S;intro a w2 b2 hz2 hk2 S
 refine Vk S rfl rfl fun a S=>Dl (Fs (Gt [] ([]) Tryz.mixed S rfl (by kernel_rfl) ?_));clear S;intro w3 hk3 hsel S
 refine Li [0,1,2,3,4,5,6,7,8,9] hsel (by kernel_rfl) rfl ?_
 clear hsel
 refine Gp S rfl (Gd AR (S.tm rfl)) rfl fun a S=>Gp S rfl (Nf isAgg3 (S.tm rfl) (S.cell (i:=1) rfl rfl)) rfl fun a S=>Gp S rfl (Hx isAgg3 (off:=0) (o:=0) (S.tm rfl) ((Sc Cz).at S.emb0) rfl) rfl ?_;clear S;intro a S
 obtain ⟨hc1,h⟩:=Ig h
 refine Gp S rfl (EY (S.tm rfl) (S.tm rfl) (Vy hc1)) rfl fun a S=>Gp S rfl (Gd AR (S.tm rfl)) rfl fun a S=>Gp S rfl (Nf isAgg3 (S.tm rfl) (S.cell (i:=0) rfl rfl)) rfl fun a S=>Gp S rfl (Hx isAgg3 (off:=0) (o:=0) (S.tm rfl) ((Sc Cz).at S.emb0) rfl) rfl ?_;clear S;intro a S
 obtain ⟨hc2,h⟩:=Ig h
 refine Gp S rfl (EY (S.tm rfl) (S.tm rfl) (Vy hc2)) rfl fun a S=>Gp S rfl (Iw (S.tm rfl) (S.tm rfl)) rfl fun a S=>Gp S rfl (Ra (S.tm rfl)) rfl fun a S=>Ij ?_
 replace S:=S.n0.k1 5 rfl
 refine Tn (wp_ret ?_)
 obtain rfl:=Option.some.inj h
 exact Et S results160 rfl rfl
set_option maxRecDepth 20000 in
theorem Nk (w : World) (O : Value) (Af : List Ds) (Bc : (LEnt.own O 128 4 Af.length (Af.flatMap Ds.enc)).holds w) (Ah : Int) (Ak : Int) (Be : Nat) (Bw : Int) (Cg : (view w (O.ownBlock.toList)) Be = some (.cells [iV Bw].toArray 3 (0,0))) (r : (List Ds)) (h : Hs Af Ah Ak Bw = some r) :
    Calls prog 195 [O,iV Ah,iV Ak,.func (.func 160) #[] #[.pointer (some ⟨Be,0,none⟩)]].toArray w (Ret w (O.ownBlock.toList) fun _ v w'=>(LEnt.own O 128 4 r.length (r.flatMap Ds.enc)).holds w' ∧ v = .tuple #[]):=by
 refine Lb (O.ownBlock.toList) [.own O 128 4 Af.length (Af.flatMap Ds.enc)] func195 rfl ntmps195 rfl (fun e he=>by simp only [List.mem_singleton] at he;subst he;exact Bc) (Ix _) (Jw _) fun a S=>?_
 unfold Hs at h
 replace S:=(S.nl [.own O 128 4 Af.length (Af.flatMap Ds.enc)] [true] rfl).k4 0 1 2 3 rfl
 refine Fr (Vm S rfl rfl fun a S=>Vq S Gc rfl rfl rfl fun a S=>Va S rfl rfl fun a S=>Dl ?_)
 replace S:=S.k5 0 1 2 3 8 rfl
 obtain ⟨j1,hj1,h⟩:=Eu h
 refine Eh (fun a w'=>∃ x1 : List Ds,j1 x1 = some r ∧ Sx w (O.ownBlock.toList) nov [.own O 128 4 x1.length (x1.flatMap Ds.enc)] [] 53 a w') ?_ ?_
 ·refine wp_block (Gr (fun (m1 : Nat) a w'=>∃ x1 : List Ds,∃ x2 : Int,Fp Ak Ah Bw j1 m1 x1 x2 = some r ∧ Sx w (O.ownBlock.toList) nov [.own O 128 4 x1.length (x1.flatMap Ds.enc)] [(0,O),(1,iV Ah),(2,iV Ak),(3,.func (.func 160) #[] #[.pointer (some ⟨Be,0,none⟩)]),(8,iV x2)] 53 a w') id ((Ak - (W (Ah + 1))).toNat + 2) ⟨Af,W (Ah + 1),h,S.nf [true] rfl (subR rfl)⟩ ?_)
  clear S h;rintro m1 a w1 ⟨x1,x2,h,S⟩
  cases m1 with
  | zero=>rw [Fp.eq_1] at h;cases h
  | succ m1 =>
   rw [Fp.eq_2] at h
   refine Fs (Fr (Vm S rfl rfl fun a S=>Vm S rfl rfl fun a S=>Vb S Es rfl rfl rfl fun a S=>Dl (Fc h (S.tm rfl) (fun hb1 h=>?_) (fun hb1 h=>?_))))
   ·refine wp_skip (Tn (Fs (wp_block (Fr (Vm S rfl rfl fun a S=>Va S rfl rfl fun a S=>Dl ?_)))))
    replace S:=S.k6 0 1 2 3 8 9 rfl
    obtain ⟨j2,hj2,h⟩:=Eu h
    refine Eh (fun a w'=>∃ x3 : List Ds,j2 x3 = some r ∧ Sx w (O.ownBlock.toList) nov [.own O 128 4 x3.length (x3.flatMap Ds.enc)] [(0,O),(1,iV Ah),(2,iV Ak),(3,.func (.func 160) #[] #[.pointer (some ⟨Be,0,none⟩)]),(8,iV x2)] 53 a w') ?_ ?_
    ·refine wp_block (Gr (fun (m2 : Nat) a w'=>∃ x3 : List Ds,∃ x4 : Int,Eo Ah Bw j2 m2 x3 x4 = some r ∧ Sx w (O.ownBlock.toList) nov [.own O 128 4 x3.length (x3.flatMap Ds.enc)] [(0,O),(1,iV Ah),(2,iV Ak),(3,.func (.func 160) #[] #[.pointer (some ⟨Be,0,none⟩)]),(8,iV x2),(9,iV x4)] 53 a w') id ((x2 - Ah).toNat + 2) ⟨x1,x2,h,S.nf [true] rfl (subR rfl)⟩ ?_)
     clear S h;rintro m2 a w3 ⟨x3,x4,h,S⟩
     cases m2 with
     | zero=>rw [Eo.eq_1] at h;cases h
     | succ m2 =>
      rw [Eo.eq_2] at h
      refine Fs (Fs ?_)
      obtain ⟨j3,hj3,h⟩:=Eu h
      refine Eh (fun a w'=>∃ x5 : Bool,j3 x5 = some r ∧ Sx w (O.ownBlock.toList) nov [.own O 128 4 x3.length (x3.flatMap Ds.enc)] [(0,O),(1,iV Ah),(2,iV Ak),(3,.func (.func 160) #[] #[.pointer (some ⟨Be,0,none⟩)]),(8,iV x2),(9,iV x4),(34,bV x5)] 53 a w') ?_ ?_
      ·rcases Bool.eq_false_or_eq_true (decide (Ah < x4)) with hb2 | hb2
       ·replace h:=Ti h hb2
        obtain ⟨hc1,h⟩:=Ig h
        obtain ⟨hc2,h⟩:=Ig h
        obtain ⟨r1,hr3,h⟩:=Fa h
        refine Gt [] ([]) Tryz.mixed S rfl (by kernel_rfl) ?_;clear S;intro w7 hk2 hsel S
        refine Ea 0 S hsel rfl rfl rfl (by kernel_rfl) (by kernel_rfl) rfl (fun _ hw=>(Rm (S.tm rfl))) fun a S=>Ea 1 S hsel rfl rfl rfl (by kernel_rfl) (by kernel_rfl) rfl (fun _ hw=>(Rm (S.tm rfl))) fun a S=>Ea 2 S hsel rfl rfl rfl (by kernel_rfl) (by kernel_rfl) rfl (fun _ hw=>(Kb (S.tm rfl) (S.tm rfl))) fun a S=>Ea 3 S hsel rfl rfl rfl (by kernel_rfl) (by kernel_rfl) rfl (fun _ hw=>(Rm (S.tm rfl))) fun a S=>Ef 4 S hsel rfl rfl rfl rfl hb2 rfl rfl (by kernel_rfl) (by kernel_rfl) rfl (fun _ hw=>(Rm (S.tm rfl))) fun a S=>Ef 5 S hsel rfl rfl rfl rfl hb2 rfl rfl (by kernel_rfl) (by kernel_rfl) rfl (fun _ hw=>(Rm (S.tm rfl))) fun a S=>Ef 6 S hsel rfl rfl rfl rfl hb2 rfl rfl (by kernel_rfl) (by kernel_rfl) rfl (fun _ hw=>(Rm (S.tm rfl))) ?_;clear S;intro a S
        obtain ⟨b3,hg3,hr4⟩:=Gh (a:=a) (x:=.tmp 23) (y:=.tmp 24) (ty:=0) Tf Ds.enc_ok S (i:=0) rfl (Dw hc1).1 (Dw hc1).2 (S.tm rfl) (S.tm rfl)
        refine Ef 7 S hsel rfl rfl rfl rfl hb2 rfl rfl (by kernel_rfl) (by kernel_rfl) rfl (fun _ hw=>(hr4 _)) ?_;clear S;intro a S
        clear hr4
        refine Ef 8 S hsel rfl rfl rfl rfl hb2 rfl rfl (by kernel_rfl) (by kernel_rfl) rfl (fun _ hw=>(Fb isAgg128 sizeOf128 (off:=x4.toNat * 4) (o:=0) (part:=(Ds.enc (nth x3 x4))) rfl rfl (S.tm rfl) ((Mg Ds.enc_ok S (i:=0) rfl hg3 (Dw hc1).1 (Hg (e':=.own O 128 4 x3.length (x3.flatMap Ds.enc)))).kept hw))) fun a S=>Ef 9 S hsel rfl rfl rfl rfl hb2 rfl rfl (by kernel_rfl) (by kernel_rfl) rfl (fun _ hw=>(Rm (S.tm rfl))) fun a S=>Ef 10 S hsel rfl rfl rfl rfl hb2 rfl rfl (by kernel_rfl) (by kernel_rfl) rfl (fun _ hw=>(Rm (S.tm rfl))) fun a S=>Ef 11 S hsel rfl rfl rfl rfl hb2 rfl rfl (by kernel_rfl) (by kernel_rfl) rfl (fun _ hw=>(Iw (S.tm rfl) rfl)) ?_;clear S;intro a S
        obtain ⟨b4,hg4,hr5⟩:=Gh (a:=a) (x:=.tmp 27) (y:=.tmp 29) (ty:=0) Tf Ds.enc_ok S (i:=0) rfl (Dw hc2).1 (Dw hc2).2 (S.tm rfl) (S.tm rfl)
        refine Ef 12 S hsel rfl rfl rfl rfl hb2 rfl rfl (by kernel_rfl) (by kernel_rfl) rfl (fun _ hw=>(hr5 _)) ?_;clear S;intro a S
        clear hr5
        refine Ef 13 S hsel rfl rfl rfl rfl hb2 rfl rfl (by kernel_rfl) (by kernel_rfl) rfl (fun _ hw=>(Fb isAgg128 sizeOf128 (off:=((W (x4 - 1)).toNat) * 4) (o:=0) (part:=(Ds.enc (nth x3 (W (x4 - 1))))) rfl rfl (S.tm rfl) ((Mg Ds.enc_ok S (i:=0) rfl hg4 (Dw hc2).1 (Hg (e':=.own O 128 4 x3.length (x3.flatMap Ds.enc)))).kept hw))) fun a S=>Hb 14 (by kernel_rfl) rfl (Dy S rfl rfl rfl hb2 (Eb S (fun _=>Rf (cap:=[.pointer (some ⟨Be,0,none⟩)]) (S.tm rfl) (vs:=[.agg (Ds.enc (nth x3 x4)).toArray,.agg (Ds.enc (nth x3 (W (x4 - 1)))).toArray]) ⟨(S.tm rfl),(S.tm rfl),trivial⟩ call160) (HM _ (nth x3 x4) (nth x3 (W (x4 - 1))) Be Bw ((S.le_arg Eg) _ _ Cg) _ hr3) rfl ?_));clear S;intro v2 a w8 hv2 hk3 hn2 S
        subst hv2
        refine Ld (Hy hk3 (Li [15,16] hsel (by kernel_rfl) rfl ?_))
        clear hsel
        refine Fj S rfl rfl rfl rfl hb2 (Ha S (Es (S.tm rfl) rfl) rfl fun a S=>Gp S rfl (Pq hb2 (S.tm rfl) (S.tm rfl)) rfl fun a S=>Ij ?_)
        replace S:=S.nk [.own O 128 4 x3.length (x3.flatMap Ds.enc)] [(0,O),(1,iV Ah),(2,iV Ak),(3,.func (.func 160) #[] #[.pointer (some ⟨Be,0,none⟩)]),(8,iV x2),(9,iV x4),(22,.func (.func 160) #[] #[.pointer (some ⟨Be,0,none⟩)]),(23,O),(24,iV x4),(25,.pointer (some ⟨b3,x4.toNat * 4,none⟩)),(26,.agg (Ds.enc (nth x3 x4)).toArray),(27,O),(28,iV x4),(29,iV (W (x4 - 1))),(30,.pointer (some ⟨b4,((W (x4 - 1)).toNat) * 4,none⟩)),(31,.agg (Ds.enc (nth x3 (W (x4 - 1)))).toArray),(32,iV r1),(33,bV (decide (r1 < 0))),(34,bV (decide (r1 < 0)))] [true] rfl (subR rfl)
        exact Tn (⟨decide (r1 < 0),h,S.nf [true] rfl (subR rfl)⟩)
       ·replace h:=Tj h hb2
        refine Gt [] ([]) Tryz.mixed S rfl (by kernel_rfl) ?_;clear S;intro w9 hk4 hsel S
        refine Li [0,1,2,3,4,5,6,7,8,9,10,11,12,13,14,15,16] hsel (by kernel_rfl) rfl ?_
        clear hsel
        refine Gp S rfl (Rm (S.tm rfl)) rfl fun a S=>Gp S rfl (Rm (S.tm rfl)) rfl fun a S=>Gp S rfl (Kb (S.tm rfl) (S.tm rfl)) rfl fun a S=>Gp S rfl (Rm (S.tm rfl)) rfl ?_;clear S;intro a S
        iterate 12 (refine Pn S rfl rfl rfl rfl (Kp hb2) rfl ?_ rfl;clear S;intro a S)
        refine Gp S rfl (Ps hb2 (S.tm rfl) rfl) rfl fun a S=>Ij ?_
        replace S:=S.k7 0 1 2 3 8 9 34 rfl
        exact Tn (⟨false,h,S.nf [true] rfl (subR rfl)⟩)
      clear S h;rintro a w5 ⟨x5,h,S⟩;rw [hj3] at h;clear hj3 j3
      refine Tn (Fc h (S.tm rfl) (fun hb3 h=>?_) (fun hb3 h=>?_))
      ·refine wp_skip (Tn (Fs (wp_block ?_)))
       obtain ⟨hc3,h⟩:=Ig h
       obtain ⟨hc4,h⟩:=Ig h
       obtain ⟨hc5,h⟩:=Ig h
       obtain ⟨hc6,h⟩:=Ig h
       refine Gt [15,17] ([]) Tryz.mixed S rfl (by kernel_rfl) ?_;clear S;intro w14 hk9 hsel S
       refine Ew 0 S hsel rfl rfl (by kernel_rfl) (by kernel_rfl) rfl (fun _=>(Rm (S.tm rfl))) fun a S=>Ew 1 S hsel rfl rfl (by kernel_rfl) (by kernel_rfl) rfl (fun _=>(Rm (S.tm rfl))) fun a S=>Ew 2 S hsel rfl rfl (by kernel_rfl) (by kernel_rfl) rfl (fun _=>(Rm (S.tm rfl))) fun a S=>Ew 3 S hsel rfl rfl (by kernel_rfl) (by kernel_rfl) rfl (fun _=>(Rm (S.tm rfl))) fun a S=>Ew 4 S hsel rfl rfl (by kernel_rfl) (by kernel_rfl) rfl (fun _=>(Iw (S.tm rfl) rfl)) fun a S=>Ew 5 S hsel rfl rfl (by kernel_rfl) (by kernel_rfl) rfl (fun _=>(Rm (S.tm rfl))) fun a S=>Ew 6 S hsel rfl rfl (by kernel_rfl) (by kernel_rfl) rfl (fun _=>(Rm (S.tm rfl))) fun a S=>Ew 7 S hsel rfl rfl (by kernel_rfl) (by kernel_rfl) rfl (fun _=>(Iw (S.tm rfl) rfl)) ?_;clear S;intro a S
       obtain ⟨b9,hg9,hr10⟩:=Gh (a:=a) (x:=.tmp 42) (y:=.tmp 44) (ty:=0) Tf Ds.enc_ok S (i:=0) rfl (Dw hc3).1 (Dw hc3).2 (S.tm rfl) (S.tm rfl)
       refine Ew 8 S hsel rfl rfl (by kernel_rfl) (by kernel_rfl) rfl (fun _=>(hr10 _)) ?_;clear S;intro a S
       clear hr10
       refine Ea 9 S hsel rfl (by kernel_rfl) (by kernel_rfl) (by kernel_rfl) (by kernel_rfl) rfl (fun _ hw=>(Fb isAgg128 sizeOf128 (off:=((W (x4 - 1)).toNat) * 4) (o:=0) (part:=(Ds.enc (nth x3 (W (x4 - 1))))) rfl rfl (S.tm rfl) ((Mg Ds.enc_ok S (i:=0) rfl hg9 (Dw hc3).1 (Hg (e':=.own O 128 4 x3.length (x3.flatMap Ds.enc)))).kept hw))) fun a S=>Ew 10 S hsel rfl rfl (by kernel_rfl) (by kernel_rfl) rfl (fun _=>(Rm (S.tm rfl))) fun a S=>Ew 11 S hsel rfl rfl (by kernel_rfl) (by kernel_rfl) rfl (fun _=>(Rm (S.tm rfl))) ?_;clear S;intro a S
       obtain ⟨b10,hg10,hr11⟩:=Gh (a:=a) (x:=.tmp 47) (y:=.tmp 48) (ty:=0) Tf Ds.enc_ok S (i:=0) rfl (Dw hc4).1 (Dw hc4).2 (S.tm rfl) (S.tm rfl)
       refine Ew 12 S hsel rfl rfl (by kernel_rfl) (by kernel_rfl) rfl (fun _=>(hr11 _)) ?_;clear S;intro a S
       clear hr11
       refine Ea 13 S hsel rfl (by kernel_rfl) (by kernel_rfl) (by kernel_rfl) (by kernel_rfl) rfl (fun _ hw=>(Fb isAgg128 sizeOf128 (off:=x4.toNat * 4) (o:=0) (part:=(Ds.enc (nth x3 x4))) rfl rfl (S.tm rfl) ((Mg Ds.enc_ok S (i:=0) rfl hg10 (Dw hc4).1 (Hg (e':=.own O 128 4 x3.length (x3.flatMap Ds.enc)))).kept hw))) ?_;clear S;intro a S
       obtain ⟨b11,hg11,hr12⟩:=Gh (a:=a) (x:=.tmp 37) (y:=.tmp 38) (ty:=0) Tf Ds.enc_ok S (i:=0) rfl (Dw hc5).1 (Dw hc5).2 (S.tm rfl) (S.tm rfl)
       refine Ew 14 S hsel rfl rfl (by kernel_rfl) (by kernel_rfl) rfl (fun _=>(hr12 _)) ?_;clear S;intro a S
       clear hr12
       refine Vg 15 (O.ownBlock.toList) rfl (by kernel_rfl) rfl (Ob (c:=0) (j:=x4.toNat) (nth x3 (W (x4 - 1))) Ds.enc_ok S (S.tm rfl) (S.tm rfl) (i:=0) rfl hg11 (Dw hc5).1 sizeOf128 (vs:=[sV ((nth x3 (W (x4 - 1))).Who),iV ((nth x3 (W (x4 - 1))).Rank),iV ((nth x3 (W (x4 - 1))).Time),iV ((nth x3 (W (x4 - 1))).Fault)]) rfl rfl rfl rfl rfl ?_);clear S;intro w16 hk11 S
       refine Ld (Vh ?_)
       obtain ⟨b12,hg12,hr13⟩:=Gh (a:=a) (x:=.tmp 39) (y:=.tmp 41) (ty:=0) Tf Ds.enc_ok S (i:=0) rfl (Dw hc6).1 (Dw hc6).2 (S.tm rfl) (S.tm rfl)
       refine Ea 16 S hsel rfl rfl rfl (by kernel_rfl) (by kernel_rfl) rfl (fun _ hw=>(hr13 _)) ?_;clear S;intro a S
       clear hr13
       refine Hb 17 (by kernel_rfl) rfl (Ob (c:=0) (j:=(W (x4 - 1)).toNat) (nth x3 x4) Ds.enc_ok S (S.tm rfl) (S.tm rfl) (i:=0) rfl hg12 (Dw hc6).1 sizeOf128 (vs:=[sV ((nth x3 x4).Who),iV ((nth x3 x4).Rank),iV ((nth x3 x4).Time),iV ((nth x3 x4).Fault)]) rfl rfl rfl rfl rfl ?_);clear S;intro w18 hk13 S
       refine Ld (Hy hk13 (Vt (by kernel_rfl) ?_))
       clear hsel
       replace S:=(S.nl [.own O 128 4 ((x3.set x4.toNat (nth x3 (W (x4 - 1)))).set ((W (x4 - 1)).toNat) (nth x3 x4)).length (((x3.set x4.toNat (nth x3 (W (x4 - 1)))).set ((W (x4 - 1)).toNat) (nth x3 x4)).flatMap Ds.enc)] [true] rfl).k6 0 1 2 3 8 9 rfl
       exact Hp (Tn (Fg (Vm S rfl rfl fun a S=>Vq S Iw rfl rfl rfl fun a S=>Va S rfl rfl fun a S=>Dl (⟨m2,⟨((x3.set x4.toNat (nth x3 (W (x4 - 1)))).set ((W (x4 - 1)).toNat) (nth x3 x4)),W (x4 - 1),h,S.nf [true] rfl ⟨rfl,rfl,rfl,rfl,rfl,rfl,trivial⟩⟩,Nat.lt_succ_self _⟩))))
      ·exact wp_exit (Ed (Ed (Gn (Tn (⟨x3,h,S.nf [true] rfl (subR rfl)⟩)))))
    clear S h;rintro a w4 ⟨x3,h,S⟩;rw [hj2] at h;clear hj2 j2
    exact Hp (Tn (Fg (Vm S rfl rfl fun a S=>Vq S Gc rfl rfl rfl fun a S=>Va S rfl rfl fun a S=>Dl (⟨m1,⟨x3,W (x2 + 1),h,S.nf [true] rfl ⟨rfl,rfl,rfl,rfl,rfl,trivial⟩⟩,Nat.lt_succ_self _⟩))))
   ·exact wp_exit (Ed (Ed (Gn (Tn (⟨x1,h,S.nf [true] rfl trivial⟩)))))
 clear S h;rintro a w2 ⟨x1,h,S⟩;rw [hj1] at h;clear hj1 j1
 obtain rfl:=Option.some.inj h
 exact Rp S results195 ⟨(S.holds _ (List.mem_of_getElem? (i:=0) rfl)),rfl⟩
theorem Th (w : World) (O : Value) (Af : List Ds) (Bc : (LEnt.own O 128 4 Af.length (Af.flatMap Ds.enc)).holds w) (Bb : Int) (Be : Nat) (Bw : Int) (Cg : (view w (O.ownBlock.toList)) Be = some (.cells [iV Bw].toArray 3 (0,0))) (r : (List Ds)) (h : Kx Af Bb Bw = some r) :
    Calls prog 184 [O,iV Bb,.func (.func 160) #[] #[.pointer (some ⟨Be,0,none⟩)]].toArray w (Ret w (O.ownBlock.toList) fun _ v w'=>(LEnt.own O 128 4 r.length (r.flatMap Ds.enc)).holds w' ∧ v = .tuple #[]):=by
 refine Lb (O.ownBlock.toList) [.own O 128 4 Af.length (Af.flatMap Ds.enc)] func184 rfl ntmps184 rfl (fun e he=>by simp only [List.mem_singleton] at he;subst he;exact Bc) (Ix _) (Jw _) fun a S=>?_
 unfold Kx at h
 replace S:=(S.nl [.own O 128 4 Af.length (Af.flatMap Ds.enc)] [true] rfl).k3 0 1 2 rfl
 refine Fr (Vk S rfl rfl fun a S=>Dz (Vm S rfl rfl fun a S=>Vk S rfl rfl fun a S=>Va S rfl rfl fun a S=>Ld ?_))
 refine Tn (Fs ?_)
 replace S:=S.k6 0 1 2 6 7 8 rfl
 obtain ⟨j1,hj1,h⟩:=Eu h
 refine Eh (fun a w'=>∃ x1 : List Ds,∃ x2 : Int,j1 x1 x2 = some r ∧ Sx w (O.ownBlock.toList) nov [.own O 128 4 x1.length (x1.flatMap Ds.enc)] [(0,O),(1,iV Bb),(2,.func (.func 160) #[] #[.pointer (some ⟨Be,0,none⟩)]),(6,iV 20),(7,iV x2)] 63 a w') ?_ ?_
 ·refine wp_block (Gr (fun (m1 : Nat) a w'=>∃ x1 : List Ds,∃ x2 : Int,∃ x3 : Int,Gl Bb Bw j1 m1 x1 x2 x3 = some r ∧ Sx w (O.ownBlock.toList) nov [.own O 128 4 x1.length (x1.flatMap Ds.enc)] [(0,O),(1,iV Bb),(2,.func (.func 160) #[] #[.pointer (some ⟨Be,0,none⟩)]),(6,iV 20),(7,iV x2),(8,iV x3)] 63 a w') id ((Bb - 20).toNat + 2) ⟨Af,0,20,h,S.nf [true] rfl (subR rfl)⟩ ?_)
  clear S h;rintro m1 a w1 ⟨x1,x2,x3,h,S⟩
  cases m1 with
  | zero=>rw [Gl.eq_1] at h;cases h
  | succ m1 =>
   rw [Gl.eq_2] at h
   refine Fs (Fr (Vm S rfl rfl fun a S=>Vm S rfl rfl fun a S=>Vb S Uj rfl rfl rfl fun a S=>Dl (Fc h (S.tm rfl) (fun hb1 h=>?_) (fun hb1 h=>?_))))
   ·refine wp_skip (Tn (wp_block (Fs (Fg ?_))))
    iterate 4 (refine Vm S rfl rfl ?_;clear S;intro a S)
    obtain ⟨r1,hr1,h⟩:=Fa h
    refine Mj 0 S rfl (fun _=>.own O 128 4 r1.length (r1.flatMap Ds.enc)) (fun _=>Dq (vs:=[O,iV x2,iV x3,.func (.func 160) #[] #[.pointer (some ⟨Be,0,none⟩)]]) ⟨(S.tm rfl),(S.tm rfl),(S.tm rfl),(S.tm rfl),trivial⟩ call195) (Nk _ O x1 (S.holds _ (List.mem_of_getElem? (i:=0) rfl)) x2 x3 Be Bw ((S.le_arg (Jn (i:=0) (e:=.own O 128 4 x1.length (x1.flatMap Ds.enc)) rfl)) _ _ Cg) _ hr1) rfl (fun _ _ _ h=>⟨h.1,fun _ hc=>hc⟩) ?_;clear S;intro v1 a w3 hv1 hk1 hn1 S
    replace hv1:=hv1.2
    subst hv1
    refine Dz (Vm S rfl rfl fun a S=>Va S rfl rfl fun a S=>Ld ?_)
    replace S:=(S.nl [.own O 128 4 r1.length (r1.flatMap Ds.enc)] [true] rfl).k6 0 1 2 6 7 8 rfl
    exact Tn (Fg (Vm S rfl rfl fun a S=>Vm S rfl rfl fun a S=>Vb S Gc rfl rfl rfl fun a S=>Va S rfl rfl fun a S=>Ld (Hp (Tn (⟨m1,⟨r1,x3,W (x3 + 20),h,S.nf [true] rfl ⟨rfl,rfl,rfl,rfl,rfl,rfl,trivial⟩⟩,Nat.lt_succ_self _⟩)))))
   ·exact wp_exit (Ed (Ed (Gn (Tn (⟨x1,x2,h,S.nf [true] rfl (subR rfl)⟩)))))
 clear S h;rintro a w2 ⟨x1,x2,h,S⟩;rw [hj1] at h;clear hj1 j1
 refine Tn (Fs (Fg ?_))
 iterate 4 (refine Vm S rfl rfl ?_;clear S;intro a S)
 obtain ⟨r2,hr2,h⟩:=Fa h
 refine Mj 0 S rfl (fun _=>.own O 128 4 r2.length (r2.flatMap Ds.enc)) (fun _=>Dq (vs:=[O,iV x2,iV Bb,.func (.func 160) #[] #[.pointer (some ⟨Be,0,none⟩)]]) ⟨(S.tm rfl),(S.tm rfl),(S.tm rfl),(S.tm rfl),trivial⟩ call195) (Nk _ O x1 (S.holds _ (List.mem_of_getElem? (i:=0) rfl)) x2 Bb Be Bw ((S.le_arg (Jn (i:=0) (e:=.own O 128 4 x1.length (x1.flatMap Ds.enc)) rfl)) _ _ Cg) _ hr2) rfl (fun _ _ _ h=>⟨h.1,fun _ hc=>hc⟩) ?_;clear S;intro v2 a w4 hv2 hk2 hn2 S
 replace hv2:=hv2.2
 subst hv2
 refine Dl ?_
 replace S:=(S.nl [.own O 128 4 r2.length (r2.flatMap Ds.enc)] [true] rfl).k2 1 6 rfl
 obtain ⟨j2,hj2,h⟩:=Eu h
 refine Eh (fun a w'=>j2 = some r ∧ Sx w (O.ownBlock.toList) nov [.own O 128 4 r2.length (r2.flatMap Ds.enc)] [] 63 a w') ?_ ?_
 ·refine wp_block (Gr (fun (m2 : Nat) a w'=>∃ x4 : Int,Gm Bb j2 m2 x4 = some r ∧ Sx w (O.ownBlock.toList) nov [.own O 128 4 r2.length (r2.flatMap Ds.enc)] [(1,iV Bb),(6,iV x4)] 63 a w') id ((Bb - 20).toNat + 2) ⟨20,h,S.nf [true] rfl (subR rfl)⟩ ?_)
  clear S h;rintro m2 a w5 ⟨x4,h,S⟩
  cases m2 with
  | zero=>rw [Gm.eq_1] at h;cases h
  | succ m2 =>
   rw [Gm.eq_2] at h
   refine Fs (Fr (Vm S rfl rfl fun a S=>Vm S rfl rfl fun a S=>Vb S Es rfl rfl rfl fun a S=>Dl (Fc h (S.tm rfl) (fun hb2 h=>?_) (fun hb2 h=>?_))))
   ·refine wp_skip (Tn (wp_block (Fr (Vm S rfl rfl fun a S=>Vu S (Vx rfl) rfl rfl fun a S=>Vk S rfl rfl fun a S=>Va S rfl rfl fun a S=>Dl ?_))))
    refine Fs ?_
    replace S:=S.k4 1 6 7 8 rfl
    obtain ⟨j3,hj3,h⟩:=Eu h
    refine Eh (fun a w'=>∃ x5 : Int,j3 x5 = some r ∧ Sx w (O.ownBlock.toList) nov [.own O 128 4 r2.length (r2.flatMap Ds.enc)] [(1,iV Bb),(6,iV x4),(7,iV x5)] 63 a w') ?_ ?_
    ·refine wp_block (Gr (fun (m3 : Nat) a w'=>∃ x5 : Int,∃ x6 : Int,Hm Bb j3 m3 x5 x6 = some r ∧ Sx w (O.ownBlock.toList) nov [.own O 128 4 r2.length (r2.flatMap Ds.enc)] [(1,iV Bb),(6,iV x4),(7,iV x5),(8,iV x6)] 63 a w') id ((Bb - (W (2 * x4))).toNat + 2) ⟨0,W (2 * x4),h,S.nf [true] rfl (subR rfl)⟩ ?_)
     clear S h;rintro m3 a w7 ⟨x5,x6,h,S⟩
     cases m3 with
     | zero=>rw [Hm.eq_1] at h;cases h
     | succ m3 =>
      rw [Hm.eq_2] at h
      refine Fs (Fr (Vm S rfl rfl fun a S=>Vm S rfl rfl fun a S=>Vb S Uj rfl rfl rfl fun a S=>Dl (Fc h (S.tm rfl) (fun hb3 h=>?_) (fun hb3 h=>?_))))
      ·refine wp_skip (Tn (wp_block (Fs ?_)))
       cases h
      ·exact wp_exit (Ed (Ed (Gn (Tn (⟨x5,h,S.nf [true] rfl (subR rfl)⟩)))))
    clear S h;rintro a w8 ⟨x5,h,S⟩;rw [hj3] at h;clear hj3 j3
    refine Tn (Fs (Fr (Vm S rfl rfl fun a S=>Vm S rfl rfl fun a S=>Vb S Gc rfl rfl rfl fun a S=>Va S rfl rfl fun a S=>Dl (Fs ?_))))
    refine Fg (Vm S rfl rfl fun a S=>Vm S rfl rfl fun a S=>Vb S Es rfl rfl rfl fun a S=>Dl (Fc h (S.tm rfl) (fun hb4 h=>?_) (fun hb4 h=>?_)))
    ·cases h
    ·exact wp_skip (Tn (Fg (Vm S rfl rfl fun a S=>Vq S Vx rfl rfl rfl fun a S=>Va S rfl rfl fun a S=>Ld (Hp (Tn (⟨m2,⟨W (x4 * 2),h,S.nf [true] rfl ⟨rfl,rfl,trivial⟩⟩,Nat.lt_succ_self _⟩))))))
   ·exact wp_exit (Ed (Ed (Gn (Tn (⟨h,S.nf [true] rfl trivial⟩)))))
 clear S h;rintro a w6 ⟨h,S⟩;rw [hj2] at h;clear hj2 j2
 obtain rfl:=Option.some.inj h
 exact Rp S results184 ⟨(S.holds _ (List.mem_of_getElem? (i:=0) rfl)),rfl⟩
theorem Sv (w : World) (Ay : Value) (Ab : List Ds) (Ce : (LEnt.own Ay 128 4 Ab.length (Ab.flatMap Ds.enc)).holds w) (Be : Nat) (Bw : Int) (Cg : (view w (Ay.ownBlock.toList)) Be = some (.cells [iV Bw].toArray 3 (0,0))) (r : (List Ds)) (h : Ji Ab Bw = some r) :
    Calls prog 159 [Ay,.func (.func 160) #[] #[.pointer (some ⟨Be,0,none⟩)]].toArray w (Ret w (Ay.ownBlock.toList) fun _ v w'=>(LEnt.own Ay 128 4 r.length (r.flatMap Ds.enc)).holds w' ∧ v = .tuple #[]):=by
 refine Lb (Ay.ownBlock.toList) [.own Ay 128 4 Ab.length (Ab.flatMap Ds.enc)] func159 rfl ntmps159 rfl (fun e he=>by simp only [List.mem_singleton] at he;subst he;exact Ce) (Ix _) (Jw _) fun a S=>?_
 unfold Ji at h
 replace S:=(S.nl [.own Ay 128 4 Ab.length (Ab.flatMap Ds.enc)] [true] rfl).k2 0 1 rfl
 refine Fg (Vm S rfl rfl fun a S=>Vm S rfl rfl fun a S=>lv S (Gi Tf (S.tm rfl) (Pb (S.own_at (i:=0) rfl))) rfl fun a S=>Vm S rfl rfl ?_);clear S;intro a S
 obtain ⟨r1,hr1,h⟩:=Fa h
 refine Mj 0 S rfl (fun _=>.own Ay 128 4 r1.length (r1.flatMap Ds.enc)) (fun _=>Dq (vs:=[Ay,iV (Ab.length : Int),.func (.func 160) #[] #[.pointer (some ⟨Be,0,none⟩)]]) ⟨(S.tm rfl),(S.tm rfl),(S.tm rfl),trivial⟩ call184) (Th _ Ay Ab (S.holds _ (List.mem_of_getElem? (i:=0) rfl)) (Ab.length : Int) Be Bw ((S.le_arg (Jn (i:=0) (e:=.own Ay 128 4 Ab.length (Ab.flatMap Ds.enc)) rfl)) _ _ Cg) _ hr1) rfl (fun _ _ _ h=>⟨h.1,fun _ hc=>hc⟩) ?_;clear S;intro v1 a w1 hv1 hk1 hn1 S
 replace hv1:=hv1.2
 subst hv1
 refine Ld ?_
 obtain rfl:=Option.some.inj h
 exact Rp S results159 ⟨(S.holds _ (List.mem_of_getElem? (i:=0) rfl)),rfl⟩
set_option maxRecDepth 20000 in
theorem LI (w : World) (Ac : Value) (Aj : List Kj) (Ai : Slc (view w []) 2 Ac (Aj.map Kj.enc)) (Cd : Value) (Cn : List Iz) (Cm : List Ub) (Ch : Slc (view w []) 3 Cd (Cm.map Ub.enc)) (Ci : Ng (Wk (view w [])) Cn Cm) (Bx : Int) (r : (List Ds) × Int) (h : BO Aj Cn Bx = some r) :
    Calls prog 132 [Ac,Cd,iV Bx].toArray w (Ret w [] fun τ v _=>∃ u1 : Value,v = .tuple #[u1,iV r.2] ∧ Uq τ 128 4 u1 r.1.length (r.1.flatMap Ds.enc)):=by
 refine Fe func132 rfl ntmps132 rfl fun a S=>?_
 unfold BO at h
 replace S:=S.k3 0 1 2 rfl
 refine Fr (Lw S (S.tm rfl) (cs:=[iV Bx]) rfl rfl ?_);clear S;intro a w1 b1 hz1 hk1 S
 refine Vk S rfl rfl fun a S=>Vk S rfl rfl fun a S=>Dl (Fs (Fr (Vm S rfl rfl ?_)));clear S;intro a S
 obtain ⟨r1,hr1,h⟩:=Fa h
 refine Eb S (fun _=>Dq (vs:=[Ac]) ⟨(S.tm rfl),trivial⟩ call157) (FK _ Ac Aj (Ai.mono (S.le_arg Eg)) _ hr1) rfl ?_;clear S;intro v1 a w2 hv1 hk2 hn1 S
 subst hv1
 refine Va S rfl rfl fun a S=>Dz (Vm S rfl rfl fun a S=>Vq S Mn rfl rfl rfl fun a S=>Dl (Fc h (S.tm rfl) (fun hb1 h=>?_) (fun hb1 h=>?_)))
 ·refine Fr (Vm S rfl rfl fun a S=>Vk S rfl rfl fun a S=>Va S rfl rfl fun a S=>Dl (wp_ret (Dv ?_)))
  obtain rfl:=Option.some.inj h
  exact Mq S results132 rfl rfl ⟨_,rfl,(Ro _ _ _)⟩
 ·refine wp_skip (Tn (Fs (Fr (Vm S rfl rfl ?_))));clear S;intro a S
  obtain ⟨r2,hr2,h⟩:=Fa h
  refine Eb S (fun _=>Dq (vs:=[Cd]) ⟨(S.tm rfl),trivial⟩ call158) (BW _ Cd Cn Cm (Ch.mono (S.le_arg Eg)) (JR (S.le_arg Eg) Ci) _ hr2) rfl ?_;clear S;intro v2 a w3 hv2 hk3 hn2 S
  subst hv2
  refine Va S rfl rfl fun a S=>Dz (Vm S rfl rfl fun a S=>Vq S Mn rfl rfl rfl fun a S=>Ld ?_)
  replace S:=(S.nl [.blk b1 [iV Bx] 3] [true] rfl).k5 0 1 5 9 27 rfl
  refine Tn (Fc h (S.tm rfl) (fun hb2 h=>?_) (fun hb2 h=>?_))
  ·refine Fr (Vm S rfl rfl fun a S=>Vk S rfl rfl fun a S=>Va S rfl rfl fun a S=>Dl (wp_ret (Dv ?_)))
   obtain rfl:=Option.some.inj h
   exact Mq S results132 rfl rfl ⟨_,rfl,(Ro _ _ _)⟩
  ·refine wp_skip (Tn (Fr (Rg (κ:=ByteArray) (ν:=Int) S rfl Value.string (Value.int .i64) ?_)));clear S;intro a w4 b2 hz2 hk4 S
   refine Va S rfl rfl fun a S=>Dl (Fs (Fr (Vm S rfl rfl fun a S=>lv S (Gi FD (S.tm rfl) (Zf Ch Ci)) rfl fun a S=>lv S (Rm rfl) rfl fun a S=>Dl ?_)))
   replace S:=(S.nl [.map b2 (Fi Value.string (Value.int .i64) ([] : List (ByteArray × Int))) ([] : List (ByteArray × Int)).length,.blk b1 [iV Bx] 3] [true,true] rfl).k6 0 5 10 30 31 32 rfl
   obtain ⟨j1,hj1,h⟩:=Eu h
   refine Eh (fun a w'=>∃ x1 : List (ByteArray × Int),j1 x1 = some r ∧ Sx w [] nov [.map b2 (Fi Value.string (Value.int .i64) x1) x1.length,.blk b1 [iV Bx] 3] [(0,Ac),(5,.pointer (some ⟨b1,0,none⟩)),(10,.map (some b2))] 122 a w') ?_ ?_
   ·refine wp_block (Gr (fun (ys1 : List Iz) a w'=>∃ i1 : Nat,∃ x1 : List (ByteArray × Int),(∃ dn,Cn = dn ++ ys1 ∧ dn.length = i1) ∧ Pe j1 ys1 i1 x1 = some r ∧ Sx w [] nov [.map b2 (Fi Value.string (Value.int .i64) x1) x1.length,.blk b1 [iV Bx] 3] [(0,Ac),(5,.pointer (some ⟨b1,0,none⟩)),(10,.map (some b2)),(30,Cd),(31,iV (Cn.length : Int)),(32,iV (i1 : Int))] 122 a w') List.length Cn ⟨0,([] : List (ByteArray × Int)),⟨[],rfl,rfl⟩,h,S.nf [true,true] rfl (subR rfl)⟩ ?_)
    clear S h;rintro ys1 a w5 ⟨i1,x1,⟨dn,hd1,hi1⟩,h,S⟩
    cases ys1 with
    | nil =>
     rw [Pe.eq_1] at h
     refine Fr (Vb S Es rfl rfl rfl fun a S=>Ld ?_)
     replace S:=S.k7 0 5 10 30 31 32 33 rfl
     exact Tn (Fs (wp_cond_false ((S.tm rfl).trans (congrArg Value.bool (Jd hd1 hi1))) (wp_exit (Ed (Ed (Gn (Tn (⟨x1,h,S.nf [true,true] rfl (subR rfl)⟩))))))))
    | cons y1 ys1 =>
     rw [Pe.eq_2] at h
     refine Fr (Vb S Es rfl rfl rfl fun a S=>Ld ?_)
     replace S:=S.k7 0 5 10 30 31 32 33 rfl
     refine Tn (Fs (wp_cond_true ((S.tm rfl).trans (congrArg Value.bool (Ia hd1 hi1))) (wp_skip (Tn (Fs (wp_block (Fs (Fg ?_))))))))
     obtain ⟨r3,hg1,hl1⟩:=Ng.at Ci (Jc hd1 hi1)
     obtain ⟨u1,rfl,hs1⟩:=hl1
     obtain ⟨b3,o1,hm1,hr3⟩:=Fk (a:=a) (x:=.tmp 30) (y:=.tmp 32) (ty:=0) FD Ch hg1 rfl (S.tm rfl) (S.tm rfl)
     refine lv S (hr3 _) rfl ?_;clear S;intro a S
     clear hr3
     refine lv S (Fb isAgg175 sizeOf175 (off:=o1) (o:=0) (part:=[sV y1.Who,iV y1.Fault,u1.val]) rfl rfl (S.tm rfl) (hm1.at S.emb0)) rfl fun a S=>Hq S zeroValue175 (cs:=[sV An,iV 0,.slice none 0 0]) rfl rfl ?_;clear S;intro a w7 b4 hz3 hk5 S
     refine Ex S (S.tm rfl) (S.tm rfl) (i:=0) (off:=0) rfl sizeOf175 (vs:=[sV y1.Who,iV y1.Fault,u1.val]) rfl rfl rfl (Vi rfl (Vi rfl (Vi (Lp.one (Gf hs1)) rfl))) ?_;clear S;intro w8 hk6 S
     refine Dl (Fg (Vm S rfl rfl fun a S=>Vf GD S rfl rfl fun a S=>Vl isAgg9 0 S rfl rfl rfl rfl fun a S=>Vf PI S rfl rfl fun a S=>Vl isAgg3 0 S rfl rfl rfl rfl fun a S=>Nm (kv:=Value.string) (vv:=(Value.int .i64)) (m:=x1) (key:=y1.Who) (val:=y1.Fault) S (i:=1) rfl underlying99 (Lm underlying9) (S.tm rfl) (S.tm rfl) (S.tm rfl) ?_));clear S;intro w9 hk7 S
     refine Ld ?_
     replace S:=(S.nl [.map b2 (Fi Value.string (Value.int .i64) (Gk x1 y1.Who y1.Fault)) (Gk x1 y1.Who y1.Fault).length,.blk b1 [iV Bx] 3] [false,true,true] rfl).k6 0 5 10 30 31 32 rfl
     exact Hp (Tn (Fg (Vq S Gc rfl rfl rfl fun a S=>Vm S rfl rfl fun a S=>Dl (⟨ys1,⟨i1 + 1,(Gk x1 y1.Who y1.Fault),⟨_,(hd1).trans (List.append_cons _ _ _),by simp [hi1]⟩,h,S.nf [true,true] rfl ⟨rfl,rfl,rfl,rfl,rfl,(congrArg (fun z=>some (Value.int .i64 z)) (Ib hd1 hi1 (AO Ch Ci))),trivial⟩⟩,Nat.lt_succ_self _⟩))))
   clear S h;rintro a w6 ⟨x1,h,S⟩;rw [hj1] at h;clear hj1 j1
   refine Tn (Fr (Vk S rfl rfl ?_));clear S;intro a S
   replace S:=S.nil 128 4
   refine Vk S rfl rfl ?_;clear S;intro a S
   replace S:=S.nil 128 4
   refine Dl (Fs (Fr (Vm S rfl rfl fun a S=>lv S (Gi HJ (S.tm rfl) (Gf Ai)) rfl fun a S=>lv S (Rm rfl) rfl fun a S=>Dl ?_)))
   replace S:=(S.nl [.own (.slice none 0 0) 128 4 ([] : List Ds).length (([] : List Ds).flatMap Ds.enc),.own (.slice none 0 0) 128 4 ([] : List Ds).length (([] : List Ds).flatMap Ds.enc),.map b2 (Fi Value.string (Value.int .i64) x1) x1.length,.blk b1 [iV Bx] 3] [true,true,true,true] rfl).k7 5 10 13 14 42 43 44 rfl
   obtain ⟨j2,hj2,h⟩:=Eu h
   refine Eh (fun a w'=>∃ x2 : List Ds,∃ x3 : List Ds,∃ v3 : Value,∃ v4 : Value,j2 x2 x3 = some r ∧ Sx w [] nov [.own v3 128 4 x2.length (x2.flatMap Ds.enc),.own v4 128 4 x3.length (x3.flatMap Ds.enc),.map b2 (Fi Value.string (Value.int .i64) x1) x1.length,.blk b1 [iV Bx] 3] [(5,.pointer (some ⟨b1,0,none⟩)),(13,v4),(14,v3)] 122 a w') ?_ ?_
   ·refine wp_block (Gr (fun (ys2 : List Kj) a w'=>∃ i2 : Nat,∃ x2 : List Ds,∃ x3 : List Ds,∃ v3 : Value,∃ v4 : Value,(∃ dn,Aj = dn ++ ys2 ∧ dn.length = i2) ∧ Oc x1 j2 ys2 i2 x2 x3 = some r ∧ Sx w [] nov [.own v3 128 4 x2.length (x2.flatMap Ds.enc),.own v4 128 4 x3.length (x3.flatMap Ds.enc),.map b2 (Fi Value.string (Value.int .i64) x1) x1.length,.blk b1 [iV Bx] 3] [(5,.pointer (some ⟨b1,0,none⟩)),(10,.map (some b2)),(13,v4),(14,v3),(42,Ac),(43,iV (Aj.length : Int)),(44,iV (i2 : Int))] 122 a w') List.length Aj ⟨0,([] : List Ds),([] : List Ds),(.slice none 0 0),(.slice none 0 0),⟨[],rfl,rfl⟩,h,S.nf [true,true,true,true] rfl (subR rfl)⟩ ?_)
    clear S h;rintro ys2 a w10 ⟨i2,x2,x3,v3,v4,⟨dn,hd2,hi2⟩,h,S⟩
    cases ys2 with
    | nil =>
     rw [Oc.eq_1] at h
     refine Fr (Vb S Es rfl rfl rfl fun a S=>Ld ?_)
     replace S:=S.k8 5 10 13 14 42 43 44 45 rfl
     exact Tn (Fs (wp_cond_false ((S.tm rfl).trans (congrArg Value.bool (Jd hd2 hi2))) (wp_exit (Ed (Ed (Gn (Tn (⟨x2,x3,v3,v4,h,S.nf [true,true,true,true] rfl (subR rfl)⟩))))))))
    | cons y2 ys2 =>
     rw [Oc.eq_2] at h
     refine Fr (Vb S Es rfl rfl rfl fun a S=>Ld ?_)
     replace S:=S.k8 5 10 13 14 42 43 44 45 rfl
     refine Tn (Fs (wp_cond_true ((S.tm rfl).trans (congrArg Value.bool (Ia hd2 hi2))) (wp_skip (Tn (Fs ?_)))))
     obtain ⟨j3,hj3,h⟩:=Eu h
     refine Eh (fun a w'=>∃ x4 : List Ds,∃ x5 : List Ds,∃ v5 : Value,∃ v6 : Value,j3 x4 x5 = some r ∧ Sx w [] nov [.own v5 128 4 x4.length (x4.flatMap Ds.enc),.own v6 128 4 x5.length (x5.flatMap Ds.enc),.map b2 (Fi Value.string (Value.int .i64) x1) x1.length,.blk b1 [iV Bx] 3] [(5,.pointer (some ⟨b1,0,none⟩)),(10,.map (some b2)),(13,v6),(14,v5),(42,Ac),(43,iV (Aj.length : Int)),(44,iV (i2 : Int))] 122 a w') ?_ ?_
     ·refine wp_block (Fs (Fg ?_))
      obtain ⟨b5,o2,hm2,hr4⟩:=Fk (a:=a) (x:=.tmp 42) (y:=.tmp 44) (ty:=0) HJ Ai (Jc hd2 hi2) rfl (S.tm rfl) (S.tm rfl)
      refine lv S (hr4 _) rfl ?_;clear S;intro a S
      clear hr4
      refine lv S (Fb isAgg173 sizeOf173 (off:=o2) (o:=0) (part:=(Kj.enc y2)) rfl rfl (S.tm rfl) (hm2.at S.emb0)) rfl fun a S=>Hq S zeroValue173 (cs:=[sV An,iV 0]) rfl rfl ?_;clear S;intro a w13 b6 hz4 hk8 S
      refine Ex S (S.tm rfl) (S.tm rfl) (i:=0) (off:=0) rfl sizeOf173 (vs:=(Kj.enc y2)) rfl rfl rfl rfl ?_;clear S;intro w14 hk9 S
      refine Dz (Vf DD S rfl rfl fun a S=>Vl isAgg9 0 S rfl rfl rfl rfl fun a S=>Vf PH S rfl rfl fun a S=>Vl isAgg3 0 S rfl rfl rfl rfl fun a S=>Vm S rfl rfl fun a S=>Vf DD S rfl rfl fun a S=>Vl isAgg9 0 S rfl rfl rfl rfl ?_);clear S;intro a S
      refine lv S (Pt (kv:=Value.string) (vv:=(Value.int .i64)) (m:=x1) (key:=y2.Who) (z:=0) (S.map_at (i:=3) rfl) underlying99 (Lm underlying9) zeroValue3 (S.tm rfl) (S.tm rfl)) rfl fun a S=>lv S (Nl bt_128 (pv:=[(0,sV y2.Who),(2,iV y2.Time),(3,iV (Ec x1 y2.Who 0))]) ⟨rfl,(S.tm rfl),rfl,(S.tm rfl),rfl,(S.tm rfl),trivial⟩ (cs:=[sV y2.Who,iV 0,iV y2.Time,iV (Ec x1 y2.Who 0)]) (by kernel_rfl)) rfl fun a S=>Hq S zeroValue128 (cs:=[sV An,iV 0,iV 0,iV 0]) rfl rfl ?_;clear S;intro a w15 b7 hz5 hk10 S
      refine Ex S (S.tm rfl) (S.tm rfl) (i:=0) (off:=0) rfl sizeOf128 (vs:=[sV y2.Who,iV 0,iV y2.Time,iV (Ec x1 y2.Who 0)]) rfl rfl rfl rfl ?_;clear S;intro w16 hk11 S
      refine Ld ?_
      replace S:=(S.nl [.blk b7 [sV y2.Who,iV 0,iV y2.Time,iV (Ec x1 y2.Who 0)] 128,.own v3 128 4 x2.length (x2.flatMap Ds.enc),.own v4 128 4 x3.length (x3.flatMap Ds.enc),.map b2 (Fi Value.string (Value.int .i64) x1) x1.length,.blk b1 [iV Bx] 3] [true,false,true,true,true,true] rfl).k8 5 10 13 14 17 42 43 44 rfl
      refine Tn (Fr (Vf PG S rfl rfl fun a S=>Vl isAgg3 0 S rfl rfl rfl rfl fun a S=>Vq S Jk rfl rfl rfl fun a S=>Vm S rfl rfl fun a S=>Iy 4 (fun a w'=>Keep [] w16 w' ∧ Sx w [] nov [.blk b7 [sV y2.Who,iV 0,iV y2.Time,iV (Ec x1 y2.Who 0)] 128,.own v3 128 4 x2.length (x2.flatMap Ds.enc),.own v4 128 4 x3.length (x3.flatMap Ds.enc),.map b2 (Fi Value.string (Value.int .i64) x1) x1.length,.blk b1 [iV Bx] 3] [(5,.pointer (some ⟨b1,0,none⟩)),(10,.map (some b2)),(13,v4),(14,v3),(17,.pointer (some ⟨b7,0,none⟩)),(42,Ac),(43,iV (Aj.length : Int)),(44,iV (i2 : Int)),(64,bV ((decide ((Ec x1 y2.Who 0) = 0)) && (decide (0 < y2.Time))))] 122 a w') ?_ ?_))
      ·rcases Bool.eq_false_or_eq_true (decide ((Ec x1 y2.Who 0) = 0)) with hb3 | hb3
       ·exact Dy S rfl rfl rfl hb3 (Vf AR S rfl rfl fun a S=>Dy S rfl rfl rfl hb3 (Vl isAgg3 0 S rfl rfl rfl rfl fun a S=>Dy S rfl rfl rfl hb3 (Vq S Kb rfl rfl rfl fun a S=>lv S (Io hb3 (S.tm rfl) (S.tm rfl)) rfl fun a S=>Dl (⟨Keep.refl _ _,S.nf [true,true,true,true,true] rfl (subR rfl)⟩))))
       ·iterate 3 (refine Ht S rfl rfl rfl (Kp hb3) rfl ?_ rfl;clear S;intro a S)
        exact lv S (Ip (decide (0 < y2.Time)) hb3 (S.tm rfl) rfl) rfl fun a S=>Dl (⟨Keep.refl _ _,S.nf [true,true,true,true,true] rfl (subR rfl)⟩)
      clear S;rintro a w17 ⟨hk12,S⟩
      refine Dl ?_
      obtain ⟨j4,hj4,h⟩:=Eu h
      refine Eh (fun a w'=>∃ x6 : List Ds,∃ x7 : List Ds,∃ v7 : Value,∃ v8 : Value,j4 x6 x7 = some r ∧ Sx w [] nov [.own v7 128 4 x6.length (x6.flatMap Ds.enc),.own v8 128 4 x7.length (x7.flatMap Ds.enc),.map b2 (Fi Value.string (Value.int .i64) x1) x1.length,.blk b1 [iV Bx] 3] [(5,.pointer (some ⟨b1,0,none⟩)),(10,.map (some b2)),(13,v8),(14,v7),(42,Ac),(43,iV (Aj.length : Int)),(44,iV (i2 : Int))] 122 a w') ?_ ?_
      ·refine Fc h (S.tm rfl) (fun hb4 h=>?_) (fun hb4 h=>?_)
       ·refine Fg (Vm S rfl rfl fun a S=>lv S (Fb isAgg128 sizeOf128 (off:=0) (o:=0) (part:=[sV y2.Who,iV 0,iV y2.Time,iV (Ec x1 y2.Who 0)]) rfl rfl (S.tm rfl) (S.cellsAt (i:=0) rfl)) rfl fun a S=>Ey S underlying123 sizeOf128 zeroValue128 rfl rfl (pv:=[(0,.agg #[sV y2.Who,iV 0,iV y2.Time,iV (Ec x1 y2.Who 0)])]) ⟨rfl,(S.tm rfl),trivial⟩ (cs:=[sV y2.Who,iV 0,iV y2.Time,iV (Ec x1 y2.Who 0)]) (by kernel_rfl) rfl ?_);clear S;intro a w19 b8 hz6 hk13 S
        obtain ⟨hc1,h⟩:=Ig h
        refine Ni Tf Ds.enc_ok S (S.tm rfl) (i:=3) rfl (S.tm rfl) (j:=0) rfl (ys:=[(Ds.mk y2.Who 0 y2.Time (Ec x1 y2.Who 0))]) rfl rfl rfl rfl (by have:=Nu hc1;omega) rfl ?_;clear S;intro v9 a w20 hk14 S
        refine Va S rfl rfl fun a S=>Ld ?_
        replace S:=(S.nl [.own v3 128 4 x2.length (x2.flatMap Ds.enc),.own v9 128 4 (x3 ++ [(Ds.mk y2.Who 0 y2.Time (Ec x1 y2.Who 0))]).length ((x3 ++ [(Ds.mk y2.Who 0 y2.Time (Ec x1 y2.Who 0))]).flatMap Ds.enc),.map b2 (Fi Value.string (Value.int .i64) x1) x1.length,.blk b1 [iV Bx] 3] [false,false,true,true,true,true] rfl).k7 5 10 13 14 42 43 44 rfl
        exact Tn (⟨x2,(x3 ++ [(Ds.mk y2.Who 0 y2.Time (Ec x1 y2.Who 0))]),v3,v9,h,S.nf [true,true,true,true] rfl (subR rfl)⟩)
       ·refine Fg (Vm S rfl rfl fun a S=>lv S (Fb isAgg128 sizeOf128 (off:=0) (o:=0) (part:=[sV y2.Who,iV 0,iV y2.Time,iV (Ec x1 y2.Who 0)]) rfl rfl (S.tm rfl) (S.cellsAt (i:=0) rfl)) rfl fun a S=>Ey S underlying123 sizeOf128 zeroValue128 rfl rfl (pv:=[(0,.agg #[sV y2.Who,iV 0,iV y2.Time,iV (Ec x1 y2.Who 0)])]) ⟨rfl,(S.tm rfl),trivial⟩ (cs:=[sV y2.Who,iV 0,iV y2.Time,iV (Ec x1 y2.Who 0)]) (by kernel_rfl) rfl ?_);clear S;intro a w21 b9 hz7 hk15 S
        obtain ⟨hc2,h⟩:=Ig h
        refine Ni Tf Ds.enc_ok S (S.tm rfl) (i:=2) rfl (S.tm rfl) (j:=0) rfl (ys:=[(Ds.mk y2.Who 0 y2.Time (Ec x1 y2.Who 0))]) rfl rfl rfl rfl (by have:=Nu hc2;omega) rfl ?_;clear S;intro v10 a w22 hk16 S
        refine Va S rfl rfl fun a S=>Ld ?_
        replace S:=(S.nl [.own v10 128 4 (x2 ++ [(Ds.mk y2.Who 0 y2.Time (Ec x1 y2.Who 0))]).length ((x2 ++ [(Ds.mk y2.Who 0 y2.Time (Ec x1 y2.Who 0))]).flatMap Ds.enc),.own v4 128 4 x3.length (x3.flatMap Ds.enc),.map b2 (Fi Value.string (Value.int .i64) x1) x1.length,.blk b1 [iV Bx] 3] [false,false,true,true,true,true] rfl).k7 5 10 13 14 42 43 44 rfl
        exact Tn (⟨(x2 ++ [(Ds.mk y2.Who 0 y2.Time (Ec x1 y2.Who 0))]),x3,v10,v4,h,S.nf [true,true,true,true] rfl (subR rfl)⟩)
      clear S h;rintro a w18 ⟨x6,x7,v7,v8,h,S⟩;rw [hj4] at h;clear hj4 j4
      exact Hp (Tn (⟨x6,x7,v7,v8,h,S.nf [true,true,true,true] rfl (subR rfl)⟩))
     clear S h;rintro a w12 ⟨x4,x5,v5,v6,h,S⟩;rw [hj3] at h;clear hj3 j3
     exact Tn (Fg (Vq S Gc rfl rfl rfl fun a S=>Vm S rfl rfl fun a S=>Dl (⟨ys2,⟨i2 + 1,x4,x5,v5,v6,⟨_,(hd2).trans (List.append_cons _ _ _),by simp [hi2]⟩,h,S.nf [true,true,true,true] rfl ⟨rfl,rfl,rfl,rfl,rfl,rfl,(congrArg (fun z=>some (Value.int .i64 z)) (Ib hd2 hi2 (Jp Ai))),trivial⟩⟩,Nat.lt_succ_self _⟩)))
   clear S h;rintro a w11 ⟨x2,x3,v3,v4,h,S⟩;rw [hj2] at h;clear hj2 j2
   refine Tn (Fr (Vm S rfl rfl fun a S=>lv S (Tk (us:=#[]) (xs:=[].toArray) (ys:=[.tmp 5].toArray) (by simp) (evA ⟨(S.tm rfl),trivial⟩ (vs:=[.pointer (some ⟨b1,0,none⟩)]))) rfl ?_));clear S;intro a S
   obtain ⟨r4,hr5,h⟩:=Fa h
   refine Mj 1 S rfl (fun _=>.own v4 128 4 r4.length (r4.flatMap Ds.enc)) (fun _=>Dq (vs:=[v4,.func (.func 160) #[] #[.pointer (some ⟨b1,0,none⟩)]]) ⟨(S.tm rfl),(S.tm rfl),trivial⟩ call159) (Sv _ v4 x3 (S.holds _ (List.mem_of_getElem? (i:=1) rfl)) b1 Bx (S.blk_view (i:=3) rfl ((Nc (i:=1) (j:=3) (e:=.own v4 128 4 x3.length (x3.flatMap Ds.enc)) (e':=.blk b1 [iV Bx] 3) S rfl rfl rfl) _ rfl)) _ hr5) rfl (fun _ _ _ h=>⟨h.1,fun _ hc=>hc⟩) ?_;clear S;intro v11 a w23 hv3 hk17 hn3 S
   replace hv3:=hv3.2
   subst hv3
   refine Dl (Fs (Fr (Vm S rfl rfl fun a S=>lv S (Gi Tf (S.tm rfl) (Pb (S.own_at (i:=1) rfl))) rfl fun a S=>lv S (Rm rfl) rfl fun a S=>Dl ?_)))
   replace S:=(S.nl [.own v3 128 4 x2.length (x2.flatMap Ds.enc),.own v4 128 4 r4.length (r4.flatMap Ds.enc),.blk b1 [iV Bx] 3] [true,true,false,true] rfl).k5 5 13 14 78 79 rfl
   have hm3:=ST (S.own_at (i:=1) rfl)
   obtain ⟨j5,hj5,h⟩:=Eu h
   refine Eh (fun a w'=>∃ x8 : List Ds,∃ v12 : Value,j5 x8 = some r ∧ Sx w [] nov [.own v3 128 4 x2.length (x2.flatMap Ds.enc),.own v12 128 4 x8.length (x8.flatMap Ds.enc),.blk b1 [iV Bx] 3] [(13,v12),(14,v3)] 122 a w') ?_ ?_
   ·refine wp_block (Gr (fun (ys3 : List Ds) a w'=>∃ i3 : Nat,∃ x8 : List Ds,∃ v12 : Value,(∃ dn,r4 = dn ++ ys3 ∧ dn.length = i3) ∧ Od Bx j5 ys3 i3 x8 = some r ∧ Sx w [] nov [.own v3 128 4 x2.length (x2.flatMap Ds.enc),.own v12 128 4 x8.length (x8.flatMap Ds.enc),.blk b1 [iV Bx] 3] [(5,.pointer (some ⟨b1,0,none⟩)),(13,v12),(14,v3),(78,iV (r4.length : Int)),(79,iV (i3 : Int))] 122 a w') List.length r4 ⟨0,r4,v4,⟨[],rfl,rfl⟩,h,S.nf [true,true,true] rfl (subR rfl)⟩ ?_)
    clear S h;rintro ys3 a w24 ⟨i3,x8,v12,⟨dn,hd3,hi3⟩,h,S⟩
    cases ys3 with
    | nil =>
     rw [Od.eq_1] at h
     refine Fr (Vb S Es rfl rfl rfl fun a S=>Ld ?_)
     replace S:=S.k6 5 13 14 78 79 80 rfl
     exact Tn (Fs (wp_cond_false ((S.tm rfl).trans (congrArg Value.bool (Jd hd3 hi3))) (wp_exit (Ed (Ed (Gn (Tn (⟨x8,v12,h,S.nf [true,true,true] rfl (subR rfl)⟩))))))))
    | cons y3 ys3 =>
     rw [Od.eq_2] at h
     refine Fr (Vb S Es rfl rfl rfl fun a S=>Ld ?_)
     replace S:=S.k6 5 13 14 78 79 80 rfl
     refine Tn (Fs (wp_cond_true ((S.tm rfl).trans (congrArg Value.bool (Ia hd3 hi3))) (wp_skip (Tn (Fs ?_)))))
     obtain ⟨j6,hj6,h⟩:=Eu h
     refine Eh (fun a w'=>∃ x9 : List Ds,j6 x9 = some r ∧ Sx w [] nov [.own v3 128 4 x2.length (x2.flatMap Ds.enc),.own v12 128 4 x9.length (x9.flatMap Ds.enc),.blk b1 [iV Bx] 3] [(5,.pointer (some ⟨b1,0,none⟩)),(13,v12),(14,v3),(78,iV (r4.length : Int)),(79,iV (i3 : Int))] 122 a w') ?_ ?_
     ·refine wp_block (Fr (Vm S rfl rfl fun a S=>Va S rfl rfl fun a S=>Dl (Fs (Gt [] ([]) Tryz.mixed S rfl (by kernel_rfl) ?_))));clear S;intro w27 hk18 hsel S
      refine Li [0,1,2,3,4,5,6,7,8,9,10,11,12,13,14,15,16,17,18,19] hsel (by kernel_rfl) rfl ?_
      clear hsel
      refine Gp S rfl (Rm (S.tm rfl)) rfl fun a S=>Gp S rfl (Kb (S.tm rfl) rfl) rfl fun a S=>Gp S rfl (Rm (S.tm rfl)) rfl ?_;clear S;intro a S
      obtain ⟨j7,hj7,h⟩:=Eu h
      refine Ym 17 (fun a w'=>∃ c1,j7 c1 = some r ∧ Keep [] w27 w' ∧ Sx w [] nov [.own v3 128 4 x2.length (x2.flatMap Ds.enc),.own v12 128 4 x8.length (x8.flatMap Ds.enc),.blk b1 [iV Bx] 3] [(5,.pointer (some ⟨b1,0,none⟩)),(13,v12),(14,v3),(18,iV (i3 : Int)),(78,iV (r4.length : Int)),(79,iV (i3 : Int)),(101,bV c1)] 122 a w') ?_ ?_
      ·rcases Bool.eq_false_or_eq_true (decide (0 < (i3 : Int))) with hb5 | hb5
       ·replace h:=Ti h hb5
        refine Fj S rfl rfl rfl rfl hb5 (Ha S (Rm (S.tm rfl)) rfl fun a S=>Fj S rfl rfl rfl rfl hb5 (Ha S (Rm (S.tm rfl)) rfl fun a S=>Fj S rfl rfl rfl rfl hb5 ?_))
        obtain ⟨hc3,h⟩:=Ig h
        obtain ⟨b10,hg2,hr6⟩:=Gh (a:=a) (x:=.tmp 85) (y:=.tmp 86) (ty:=0) Tf Ds.enc_ok S (i:=1) rfl (Dw hc3).1 (Dw hc3).2 (S.tm rfl) (S.tm rfl)
        refine Ha S (hr6 _) rfl ?_;clear S;intro a S
        clear hr6
        refine Fj S rfl rfl rfl rfl hb5 (Ha S (Gd AR (S.tm rfl)) rfl fun a S=>Fj S rfl rfl rfl rfl hb5 (Ha S (Hx isAgg3 (off:=((i3 : Int).toNat) * 4) (o:=2) (S.tm rfl) (Uf Ds.enc_ok S (i:=1) rfl hg2 (Dw hc3).1) rfl) rfl fun a S=>Fj S rfl rfl rfl rfl hb5 (Ha S (Nf isAgg3 (S.tm rfl) (S.cell (i:=2) rfl rfl)) rfl fun a S=>Fj S rfl rfl rfl rfl hb5 ?_)))
        obtain ⟨hc4,h⟩:=Ig h
        refine Ha S (EY (S.tm rfl) (S.tm rfl) (Vy hc4)) rfl fun a S=>Fj S rfl rfl rfl rfl hb5 (Ha S (Rm (S.tm rfl)) rfl fun a S=>Fj S rfl rfl rfl rfl hb5 (Ha S (Rm (S.tm rfl)) rfl fun a S=>Fj S rfl rfl rfl rfl hb5 (Ha S (Iw (S.tm rfl) rfl) rfl fun a S=>Fj S rfl rfl rfl rfl hb5 ?_)))
        obtain ⟨hc5,h⟩:=Ig h
        obtain ⟨b11,hg3,hr7⟩:=Gh (a:=a) (x:=.tmp 92) (y:=.tmp 94) (ty:=0) Tf Ds.enc_ok S (i:=1) rfl (Dw hc5).1 (Dw hc5).2 (S.tm rfl) (S.tm rfl)
        refine Ha S (hr7 _) rfl ?_;clear S;intro a S
        clear hr7
        refine Fj S rfl rfl rfl rfl hb5 (Ha S (Gd AR (S.tm rfl)) rfl fun a S=>Fj S rfl rfl rfl rfl hb5 (Ha S (Hx isAgg3 (off:=((W ((i3 : Int) - 1)).toNat) * 4) (o:=2) (S.tm rfl) (Uf Ds.enc_ok S (i:=1) rfl hg3 (Dw hc5).1) rfl) rfl fun a S=>Fj S rfl rfl rfl rfl hb5 (Ha S (Nf isAgg3 (S.tm rfl) (S.cell (i:=2) rfl rfl)) rfl fun a S=>Fj S rfl rfl rfl rfl hb5 ?_)))
        obtain ⟨hc6,h⟩:=Ig h
        exact Ha S (EY (S.tm rfl) (S.tm rfl) (Vy hc6)) rfl fun a S=>Fj S rfl rfl rfl rfl hb5 (Ha S (Jk (S.tm rfl) (S.tm rfl)) rfl fun a S=>Gp S rfl (Io hb5 (S.tm rfl) (S.tm rfl)) rfl fun a S=>Ij (⟨_,h,Keep.refl _ _,S.nf [true,true,true] rfl (subR rfl)⟩))
       ·replace h:=Tj h hb5
        iterate 16 (refine Pn S rfl rfl rfl rfl (Kp hb5) rfl ?_ rfl;clear S;intro a S)
        exact Gp S rfl (Ip true hb5 (S.tm rfl) rfl) rfl fun a S=>Ij (⟨_,h,Keep.refl _ _,S.nf [true,true,true] rfl (subR rfl)⟩)
      clear S h;rintro a w28 ⟨c1,h,hk19,S⟩;rw [hj7] at h;clear hj7 j7
      refine Ij ?_
      replace S:=S.k7 5 13 14 18 78 79 101 rfl
      refine Tn ?_
      obtain ⟨j8,hj8,h⟩:=Eu h
      refine Eh (fun a w'=>∃ x10 : List Ds,j8 x10 = some r ∧ Sx w [] nov [.own v3 128 4 x2.length (x2.flatMap Ds.enc),.own v12 128 4 x10.length (x10.flatMap Ds.enc),.blk b1 [iV Bx] 3] [(5,.pointer (some ⟨b1,0,none⟩)),(13,v12),(14,v3),(78,iV (r4.length : Int)),(79,iV (i3 : Int))] 122 a w') ?_ ?_
      ·refine Fc h (S.tm rfl) (fun hb6 h=>?_) (fun hb6 h=>?_)
       ·refine Fg ?_
        iterate 4 (refine Vm S rfl rfl ?_;clear S;intro a S)
        refine Vq S Iw rfl rfl rfl ?_;clear S;intro a S
        obtain ⟨hc7,h⟩:=Ig h
        obtain ⟨b12,hg4,hr8⟩:=Gh (a:=a) (x:=.tmp 104) (y:=.tmp 106) (ty:=0) Tf Ds.enc_ok S (i:=1) rfl (Dw hc7).1 (Dw hc7).2 (S.tm rfl) (S.tm rfl)
        refine lv S (hr8 _) rfl ?_;clear S;intro a S
        clear hr8
        refine Vf DB S rfl rfl fun a S=>lv S (Hx isAgg3 (off:=((W ((i3 : Int) - 1)).toNat) * 4) (o:=1) (S.tm rfl) (Uf Ds.enc_ok S (i:=1) rfl hg4 (Dw hc7).1) rfl) rfl ?_;clear S;intro a S
        obtain ⟨hc8,h⟩:=Ig h
        obtain ⟨b13,hg5,hr9⟩:=Gh (a:=a) (x:=.tmp 102) (y:=.tmp 103) (ty:=0) Tf Ds.enc_ok S (i:=1) rfl (Dw hc8).1 (Dw hc8).2 (S.tm rfl) (S.tm rfl)
        refine lv S (hr9 _) rfl ?_;clear S;intro a S
        clear hr9
        refine Vf DB S rfl rfl fun a S=>Ob (c:=1) (j:=(i3 : Int).toNat) (Ds.mk ((nth x8 (i3 : Int)).Who) ((nth x8 (W ((i3 : Int) - 1))).Rank) ((nth x8 (i3 : Int)).Time) ((nth x8 (i3 : Int)).Fault)) Ds.enc_ok S (S.tm rfl) (S.tm rfl) (i:=1) rfl hg5 (Dw hc8).1 sizeOf3 (vs:=[iV ((nth x8 (W ((i3 : Int) - 1))).Rank)]) rfl rfl rfl rfl rfl ?_;clear S;intro w31 hk21 S
        refine Ld ?_
        replace S:=(S.nl [.own v3 128 4 x2.length (x2.flatMap Ds.enc),.own v12 128 4 (x8.set ((i3 : Int).toNat) (Ds.mk ((nth x8 (i3 : Int)).Who) ((nth x8 (W ((i3 : Int) - 1))).Rank) ((nth x8 (i3 : Int)).Time) ((nth x8 (i3 : Int)).Fault))).length ((x8.set ((i3 : Int).toNat) (Ds.mk ((nth x8 (i3 : Int)).Who) ((nth x8 (W ((i3 : Int) - 1))).Rank) ((nth x8 (i3 : Int)).Time) ((nth x8 (i3 : Int)).Fault))).flatMap Ds.enc),.blk b1 [iV Bx] 3] [true,true,true] rfl).k5 5 13 14 78 79 rfl
        exact Tn (⟨(x8.set ((i3 : Int).toNat) (Ds.mk ((nth x8 (i3 : Int)).Who) ((nth x8 (W ((i3 : Int) - 1))).Rank) ((nth x8 (i3 : Int)).Time) ((nth x8 (i3 : Int)).Fault))),h,S.nf [true,true,true] rfl (subR rfl)⟩)
       ·refine Fg ?_
        iterate 3 (refine Vm S rfl rfl ?_;clear S;intro a S)
        refine Vq S Gc rfl rfl rfl ?_;clear S;intro a S
        obtain ⟨hc9,h⟩:=Ig h
        obtain ⟨b14,hg6,hr10⟩:=Gh (a:=a) (x:=.tmp 112) (y:=.tmp 113) (ty:=0) Tf Ds.enc_ok S (i:=1) rfl (Dw hc9).1 (Dw hc9).2 (S.tm rfl) (S.tm rfl)
        refine lv S (hr10 _) rfl ?_;clear S;intro a S
        clear hr10
        refine Vf DB S rfl rfl fun a S=>Ob (c:=1) (j:=(i3 : Int).toNat) (Ds.mk ((nth x8 (i3 : Int)).Who) (W ((i3 : Int) + 1)) ((nth x8 (i3 : Int)).Time) ((nth x8 (i3 : Int)).Fault)) Ds.enc_ok S (S.tm rfl) (S.tm rfl) (i:=1) rfl hg6 (Dw hc9).1 sizeOf3 (vs:=[iV (W ((i3 : Int) + 1))]) rfl rfl rfl rfl rfl ?_;clear S;intro w33 hk23 S
        exact Dl (⟨(x8.set ((i3 : Int).toNat) (Ds.mk ((nth x8 (i3 : Int)).Who) (W ((i3 : Int) + 1)) ((nth x8 (i3 : Int)).Time) ((nth x8 (i3 : Int)).Fault))),h,S.nf [true,true,true] rfl (subR rfl)⟩)
      clear S h;rintro a w29 ⟨x10,h,S⟩;rw [hj8] at h;clear hj8 j8
      exact Hp (Tn (⟨x10,h,S.nf [true,true,true] rfl (subR rfl)⟩))
     clear S h;rintro a w26 ⟨x9,h,S⟩;rw [hj6] at h;clear hj6 j6
     exact Tn (Fg (Vq S Gc rfl rfl rfl fun a S=>Vm S rfl rfl fun a S=>Dl (⟨ys3,⟨i3 + 1,x9,v12,⟨_,(hd3).trans (List.append_cons _ _ _),by simp [hi3]⟩,h,S.nf [true,true,true] rfl ⟨rfl,rfl,rfl,rfl,(congrArg (fun z=>some (Value.int .i64 z)) (Ib hd3 hi3 hm3)),trivial⟩⟩,Nat.lt_succ_self _⟩)))
   clear S h;rintro a w25 ⟨x8,v12,h,S⟩;rw [hj5] at h;clear hj5 j5
   refine Tn (Fr (Vm S rfl rfl fun a S=>Vm S rfl rfl ?_));clear S;intro a S
   obtain ⟨hc10,h⟩:=Ig h
   refine HE (Y:=[]) Tf Ds.enc_ok S (S.tm rfl) (i:=1) rfl (S.tm rfl) (CQ Ds.enc_ok S (i:=0) rfl (fun _ _ h=>by cases h)) rfl rfl (by have:=Nu hc10;omega) rfl ?_;clear S;intro v13 a w34 hk24 S
   refine Va S rfl rfl fun a S=>Vk S rfl rfl fun a S=>Dl (wp_ret ?_)
   obtain rfl:=Option.some.inj h
   exact Mq S results132 rfl rfl ⟨_,rfl,(Ut S (i:=1) rfl rfl)⟩
theorem LJ (w : World) (Ac : Value) (Aj : List Kj) (Ai : Slc (view w []) 2 Ac (Aj.map Kj.enc)) (Cd : Value) (Cn : List Iz) (Cm : List Ub) (Ch : Slc (view w []) 3 Cd (Cm.map Ub.enc)) (Ci : Ng (Wk (view w [])) Cn Cm) (r : (List Ds) × Int) (h : Xr Aj Cn = some r) :
    Calls prog 103 [Ac,Cd].toArray w (Ret w [] fun τ v _=>∃ u1 : Value,v = .tuple #[u1,iV r.2] ∧ Uq τ 128 4 u1 r.1.length (r.1.flatMap Ds.enc)):=by
 refine Fe func103 rfl ntmps103 rfl fun a S=>?_
 unfold Xr at h
 replace S:=S.k2 0 1 rfl
 refine Fr (Vk S rfl rfl fun a S=>Vk S rfl rfl fun a S=>Dz (Vm S rfl rfl fun a S=>Vm S rfl rfl ?_));clear S;intro a S
 obtain ⟨r1,hr1,h⟩:=Fa h
 have hz1:=S.keep.size
 refine Eb S (fun _=>Dq (vs:=[Ac,Cd,iV 1]) ⟨(S.tm rfl),(S.tm rfl),rfl,trivial⟩ call132) (LI _ Ac Aj (Ai.mono (S.le_arg Eg)) Cd Cn Cm (Ch.mono (S.le_arg Eg)) (JR (S.le_arg Eg) Ci) 1 _ hr1) rfl ?_;clear S;intro v1 a w1 hv1 hk1 hn1 S
 obtain ⟨u1,rfl,ho1⟩:=hv1
 obtain ⟨φ1,hl1,hm1,S⟩:=S.see' hn1 hz1
 have hs1:=ho1.mono hm1
 refine Vq S Fu rfl rfl rfl fun a S=>Vq S Fu rfl rfl rfl fun a S=>Va S rfl rfl fun a S=>Va S rfl rfl fun a S=>Dl (wp_ret ?_)
 obtain rfl:=Option.some.inj h
 exact Mq S results103 rfl rfl ⟨_,rfl,((hs1).mono S.le_newer)⟩
end Go.Proofs.YtfdmkmnjfhbliaaGreatDoor
