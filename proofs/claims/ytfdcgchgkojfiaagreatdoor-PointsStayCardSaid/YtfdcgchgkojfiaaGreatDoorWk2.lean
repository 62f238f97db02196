/- Each Go function computes its plain twin,by program. -/
import Derived.Test.YtfdcgchgkojfiaaGreatDoorWk1
namespace Go.Proofs.YtfdcgchgkojfiaaGreatDoor
open Go
open Go.Proofs.Tryz
theorem Xt (w : World) (Ae : Hx) (Bd : R27) (Bi : Qe (view w []) Ae Bd) (Ab : Value) (Ad : List An) (Ac : Slc (view w []) 5 Ab (Ad.map An.enc)) (r : (List Cv) × Int) (h : Pa Ae Ad = some r) :
    Calls prog 7 [.agg (R27.enc Bd).toArray,Ab].toArray w (Ret w [] fun τ v _=>∃ u1 : Value,v = .tuple #[u1,iV r.2] ∧ Pu τ 41 3 u1 r.1.length (r.1.flatMap Cv.enc)):=by
 obtain ⟨u1,rfl,hs1⟩:=Bi
 refine Fe func7 rfl ntmps7 rfl fun a S=>?_
 unfold Pa at h
 replace S:=S.k2 0 1 rfl
 refine Fr (Nj S (S.tm rfl) (cs:=[u1.val,iV Ae.Relay,iV Ae.Most]) rfl rfl ?_);clear S;intro a w1 b1 hz1 hk1 S
 refine Vk S rfl rfl fun a S=>Vk S rfl rfl fun a S=>Dl (Fs (Fr (lv S (Fp isAgg27 sizeOf27 (off:=0) (o:=0) (part:=[u1.val,iV Ae.Relay,iV Ae.Most]) rfl rfl (S.tm rfl) (S.cellsAt (i:=0) rfl)) rfl fun a S=>Vm S rfl rfl ?_)));clear S;intro a S
 obtain ⟨r1,hr1,h⟩:=Eg h
 refine Dc S (fun _=>Cw (vs:=[.agg (R27.enc (R27.mk u1 Ae.Relay Ae.Most)).toArray,Ab]) ⟨(S.tm rfl),(S.tm rfl),trivial⟩ call22) (Qh _ Ae (R27.mk u1 Ae.Relay Ae.Most) ⟨u1,rfl,(hs1.mono (S.le_arg Eo))⟩ Ab Ad (Ac.mono (S.le_arg Eo)) _ hr1) rfl ?_;clear S;intro v1 a w2 hv1 hk2 hn1 S
 subst hv1
 refine Va S rfl rfl fun a S=>Dz (Vm S rfl rfl fun a S=>Vq S Lo rfl rfl rfl fun a S=>Dl (Fc h (S.tm rfl) (fun hb1 h=>?_) (fun hb1 h=>?_)))
 ·refine Fr (Vm S rfl rfl fun a S=>Vk S rfl rfl fun a S=>Va S rfl rfl fun a S=>Dl (wp_ret (Cx ?_)))
  obtain rfl:=Option.some.inj h
  exact Kj S results7 rfl rfl ⟨_,rfl,(Ob _ _ _)⟩
 ·refine wp_skip (Tn (Fr (Vk S rfl rfl ?_)));clear S;intro a S
  replace S:=S.nil 41 3
  refine Dl (Fs (Fr (lv S (Fp isAgg27 sizeOf27 (off:=0) (o:=0) (part:=[u1.val,iV Ae.Relay,iV Ae.Most]) rfl rfl (S.tm rfl) (S.cellsAt (i:=1) rfl)) rfl fun a S=>Vm S rfl rfl ?_)));clear S;intro a S
  obtain ⟨r2,hr2,h⟩:=Eg h
  have hz2:=S.keep.size
  refine Dc S (fun _=>Cw (vs:=[.agg (R27.enc (R27.mk u1 Ae.Relay Ae.Most)).toArray,Ab]) ⟨(S.tm rfl),(S.tm rfl),trivial⟩ call23) (Ua _ Ae (R27.mk u1 Ae.Relay Ae.Most) ⟨u1,rfl,(hs1.mono (S.le_arg Eo))⟩ Ab Ad (Ac.mono (S.le_arg Eo)) _ hr2) rfl ?_;clear S;intro v2 a w3 hv2 hk3 hn2 S
  obtain ⟨φ1,hl1,hm1,S⟩:=S.see' hn2 hz2
  have hs2:=hv2.mono hm1
  refine lv S (Ee Vd (S.tm rfl) (Ej (Ha Cs.enc_ok hs2))) rfl fun a S=>lv S (Rm rfl) rfl fun a S=>Ld ?_
  replace S:=(S.nl [.own (.slice none 0 0) 41 3 ([] : List Cv).length (([] : List Cv).flatMap Cv.enc)] [true,false] rfl).k4 7 18 19 20 rfl
  refine Tn ?_
  obtain ⟨j1,hj1,h⟩:=Ec h
  refine Ds (fun a w'=>∃ x1 : List Cv,∃ v3 : Value,j1 x1 = some r ∧ Sx w [] φ1 [.own v3 41 3 x1.length (x1.flatMap Cv.enc)] [(7,v3)] 40 a w') ?_ ?_
  ·refine wp_block (Fi (fun (ys1 : List Cs) a w'=>∃ i1 : Nat,∃ x1 : List Cv,∃ v3 : Value,(∃ dn,r2 = dn ++ ys1 ∧ dn.length = i1) ∧ Iq j1 ys1 i1 x1 = some r ∧ Sx w [] φ1 [.own v3 41 3 x1.length (x1.flatMap Cv.enc)] [(7,v3),(18,v2),(19,iV (r2.length : Int)),(20,iV (i1 : Int))] 40 a w') List.length r2 ⟨0,([] : List Cv),(.slice none 0 0),⟨[],rfl,rfl⟩,h,S.nf [true] rfl (subR rfl)⟩ ?_)
   clear S h;rintro ys1 a w4 ⟨i1,x1,v3,⟨dn,hd1,hi1⟩,h,S⟩
   cases ys1 with
   | nil =>
    rw [Iq.eq_1] at h
    refine Fr (Vb S Dt rfl rfl rfl fun a S=>Ld ?_)
    replace S:=S.k5 7 18 19 20 21 rfl
    exact Tn (Fs (wp_cond_false ((S.tm rfl).trans (congrArg Value.bool (Hq hd1 hi1))) (wp_exit (Dj (Dj (Fj (Tn (⟨x1,v3,h,S.nf [true] rfl ⟨rfl,trivial⟩⟩))))))))
   | cons y1 ys1 =>
    rw [Iq.eq_2] at h
    refine Fr (Vb S Dt rfl rfl rfl fun a S=>Ld ?_)
    replace S:=S.k5 7 18 19 20 21 rfl
    refine Tn (Fs (wp_cond_true ((S.tm rfl).trans (congrArg Value.bool (Gb hd1 hi1))) (wp_skip (Tn (Fs (wp_block (Fs (Fg ?_))))))))
    obtain ⟨b2,o1,hm2,hr3⟩:=Eb (a:=a) (x:=.tmp 18) (y:=.tmp 20) (ty:=0) Vd (Ha Cs.enc_ok hs2) (Hz hd1 hi1) rfl (S.tm rfl) (S.tm rfl)
    refine lv S (hr3 _) rfl ?_;clear S;intro a S
    clear hr3
    refine lv S (Fp isAgg66 sizeOf66 (off:=o1) (o:=0) (part:=(Cs.enc y1)) rfl rfl (S.tm rfl) (hm2.at S.emb)) rfl fun a S=>It S zeroValue66 (cs:=[sV Cy,sV Cy,sV Cy,iV 0,bV false,iV 0,iV 0]) rfl rfl ?_;clear S;intro a w6 b3 hz3 hk4 S
    refine Gl S (S.tm rfl) (S.tm rfl) (i:=0) (off:=0) rfl sizeOf66 (vs:=(Cs.enc y1)) rfl rfl rfl rfl ?_;clear S;intro w7 hk5 S
    refine Dl (Fg (Vm S rfl rfl fun a S=>Vf Uq S rfl rfl fun a S=>Vf Ol S rfl rfl fun a S=>Vl isAgg9 0 S rfl rfl rfl rfl ?_));clear S;intro a S
    obtain ⟨hc1,h⟩:=Hl h
    refine lv S (ED (m:=y1.x_.Race) (n:=Py) (S.tm rfl) rfl (by have:=Nd hc1;omega)) rfl ?_;clear S;intro a S
    refine Vf Uq S rfl rfl fun a S=>Vf Ri S rfl rfl fun a S=>Vl isAgg9 0 S rfl rfl rfl rfl ?_;clear S;intro a S
    obtain ⟨hc2,h⟩:=Hl h
    refine lv S (ED (m:=(y1.x_.Race ++ Py)) (n:=y1.x_.Who) (S.tm rfl) (S.tm rfl) (by have:=Nd hc2;omega)) rfl ?_;clear S;intro a S
    refine Vf BO S rfl rfl fun a S=>lv S (Fp isAgg39 sizeOf39 (off:=0) (o:=5) (part:=(Cu.enc y1.points_)) rfl rfl (S.tm rfl) (S.cellsAt (i:=0) rfl)) rfl fun a S=>lv S (Lp bt_41 (pv:=[(0,sV ((y1.x_.Race ++ Py) ++ y1.x_.Who)),(1,.agg (Cu.enc y1.points_).toArray)]) ⟨rfl,(S.tm rfl),rfl,(S.tm rfl),trivial⟩ (cs:=[sV ((y1.x_.Race ++ Py) ++ y1.x_.Who),iV y1.points_.Num,iV y1.points_.Den]) (by kernel_rfl)) rfl fun a S=>Ed S underlying33 sizeOf41 zeroValue41 rfl rfl (pv:=[(0,.agg #[sV ((y1.x_.Race ++ Py) ++ y1.x_.Who),iV y1.points_.Num,iV y1.points_.Den])]) ⟨rfl,(S.tm rfl),trivial⟩ (cs:=[sV ((y1.x_.Race ++ Py) ++ y1.x_.Who),iV y1.points_.Num,iV y1.points_.Den]) (by kernel_rfl) rfl ?_;clear S;intro a w8 b4 hz4 hk6 S
    obtain ⟨hc3,h⟩:=Hl h
    refine Mx Tw Cv.enc_ok S (S.tm rfl) (i:=2) rfl (S.tm rfl) (j:=0) rfl (ys:=[(Cv.mk ((y1.x_.Race ++ Py) ++ y1.x_.Who) y1.points_)]) rfl rfl rfl rfl (by have:=Nd hc3;omega) rfl ?_;clear S;intro v4 a w9 hk7 S
    refine Va S rfl rfl fun a S=>Ld ?_
    replace S:=(S.nl [.own v4 41 3 (x1 ++ [(Cv.mk ((y1.x_.Race ++ Py) ++ y1.x_.Who) y1.points_)]).length ((x1 ++ [(Cv.mk ((y1.x_.Race ++ Py) ++ y1.x_.Who) y1.points_)]).flatMap Cv.enc)] [false,false,true] rfl).k4 7 18 19 20 rfl
    exact Gx (Tn (Fg (Vq S Ek rfl rfl rfl fun a S=>Vm S rfl rfl fun a S=>Dl (⟨ys1,⟨i1 + 1,(x1 ++ [(Cv.mk ((y1.x_.Race ++ Py) ++ y1.x_.Who) y1.points_)]),v4,⟨_,(hd1).trans (List.append_cons _ _ _),by simp [hi1]⟩,h,S.nf [true] rfl ⟨rfl,rfl,rfl,(congrArg (fun z=>some (Value.int .i64 z)) (Gc hd1 hi1 (Jk (Ha Cs.enc_ok hs2)))),trivial⟩⟩,Nat.lt_succ_self _⟩))))
  clear S h;rintro a w5 ⟨x1,v3,h,S⟩;rw [hj1] at h;clear hj1 j1
  refine Tn (Fr (Vm S rfl rfl fun a S=>Va S rfl rfl fun a S=>Vk S rfl rfl fun a S=>Dl (wp_ret ?_)))
  obtain rfl:=Option.some.inj h
  exact Kj S results7 rfl rfl ⟨_,rfl,(Qu S (i:=0) rfl rfl)⟩
theorem Mq (w : World) (Ab : Value) (Ad : List Cv) (Cq : (LEnt.own Ab 41 3 Ad.length (Ad.flatMap Cv.enc)).holds w) (r : (List Cv)) (h : Iw Ad = some r) :
    Calls prog 8 [Ab].toArray w (Ret w (Ab.ownBlock.toList) fun _ v w'=>(LEnt.own Ab 41 3 r.length (r.flatMap Cv.enc)).holds w' ∧ v = .tuple #[]):=by
 refine Kv (Ab.ownBlock.toList) [.own Ab 41 3 Ad.length (Ad.flatMap Cv.enc)] func8 rfl ntmps8 rfl (fun e he=>by simp only [List.mem_singleton] at he;subst he;exact Cq) (Kb _) (Lc _) fun a S=>?_
 unfold Iw at h
 replace S:=(S.nl [.own Ab 41 3 Ad.length (Ad.flatMap Cv.enc)] [true] rfl).k1 0 rfl
 refine Fr (It S zeroValue41 (cs:=[sV Cy,iV 0,iV 0]) rfl rfl ?_);clear S;intro a w1 b1 hz1 hk1 S
 refine Dz (Vm S rfl rfl fun a S=>lv S (Ee Tw (S.tm rfl) (Nn (S.own_at (i:=1) rfl))) rfl fun a S=>lv S (Rm rfl) rfl fun a S=>Dl ?_)
 replace S:=(S.nl [.blk b1 [sV Cy,iV 0,iV 0] 41,.own Ab 41 3 Ad.length (Ad.flatMap Cv.enc)] [true,true] rfl).k4 0 2 5 6 rfl
 have hm1:=Wb (S.own_at (i:=1) rfl)
 obtain ⟨j1,hj1,h⟩:=Ec h
 refine Ds (fun a w'=>∃ x1 : List Cv,j1 x1 = some r ∧ Sx w (Ab.ownBlock.toList) nov [.blk b1 [sV Cy,iV 0,iV 0] 41,.own Ab 41 3 x1.length (x1.flatMap Cv.enc)] [] 14 a w') ?_ ?_
 ·refine wp_block (Fi (fun (ys1 : List Cv) a w'=>∃ i1 : Nat,∃ x1 : List Cv,(∃ dn,Ad = dn ++ ys1 ∧ dn.length = i1) ∧ Fb j1 ys1 i1 x1 = some r ∧ Sx w (Ab.ownBlock.toList) nov [.blk b1 [sV Cy,iV 0,iV 0] 41,.own Ab 41 3 x1.length (x1.flatMap Cv.enc)] [(0,Ab),(2,.pointer (some ⟨b1,0,none⟩)),(5,iV (Ad.length : Int)),(6,iV (i1 : Int))] 14 a w') List.length Ad ⟨0,Ad,⟨[],rfl,rfl⟩,h,S.nf [true,true] rfl (subR rfl)⟩ ?_)
  clear S h;rintro ys1 a w2 ⟨i1,x1,⟨dn,hd1,hi1⟩,h,S⟩
  cases ys1 with
  | nil =>
   rw [Fb.eq_1] at h
   refine Fr (Vb S Dt rfl rfl rfl fun a S=>Ld ?_)
   replace S:=S.k5 0 2 5 6 7 rfl
   exact Tn (Fs (wp_cond_false ((S.tm rfl).trans (congrArg Value.bool (Hq hd1 hi1))) (wp_exit (Dj (Dj (Fj (Tn (⟨x1,h,S.nf [true,true] rfl trivial⟩))))))))
  | cons y1 ys1 =>
   rw [Fb.eq_2] at h
   refine Fr (Vb S Dt rfl rfl rfl fun a S=>Ld ?_)
   replace S:=S.k5 0 2 5 6 7 rfl
   refine Tn (Fs (wp_cond_true ((S.tm rfl).trans (congrArg Value.bool (Gb hd1 hi1))) (wp_skip (Tn (Fs (wp_block (Fr (Vm S rfl rfl fun a S=>Va S rfl rfl ?_))))))));clear S;intro a S
   refine Dl (Fg (Vm S rfl rfl fun a S=>Vm S rfl rfl fun a S=>lv S (Fp isAgg41 sizeOf41 (off:=0) (o:=0) (part:=[sV Cy,iV 0,iV 0]) rfl rfl (S.tm rfl) (S.cellsAt (i:=0) rfl)) rfl ?_));clear S;intro a S
   obtain ⟨hc1,h⟩:=Hl h
   obtain ⟨b2,hg1,hr1⟩:=Gf (a:=a) (x:=.tmp 9) (y:=.tmp 10) (ty:=0) Tw Cv.enc_ok S (i:=1) rfl (Db hc1).1 (Db hc1).2 (S.tm rfl) (S.tm rfl)
   refine lv S (hr1 _) rfl ?_;clear S;intro a S
   clear hr1
   refine Oc (c:=0) (j:=(i1 : Int).toNat) (Cv.mk Cy (Cu.mk 0 0)) Cv.enc_ok S (S.tm rfl) (S.tm rfl) (i:=1) rfl hg1 (Db hc1).1 sizeOf41 (vs:=[sV Cy,iV 0,iV 0]) rfl rfl rfl rfl rfl ?_;clear S;intro w5 hk3 S
   exact Ld (Gx (Tn (Fg (Vq S Ek rfl rfl rfl fun a S=>Vm S rfl rfl fun a S=>Dl (⟨ys1,⟨i1 + 1,(x1.set ((i1 : Int).toNat) (Cv.mk Cy (Cu.mk 0 0))),⟨_,(hd1).trans (List.append_cons _ _ _),by simp [hi1]⟩,h,S.nf [true,true] rfl ⟨rfl,rfl,rfl,(congrArg (fun z=>some (Value.int .i64 z)) (Gc hd1 hi1 hm1)),trivial⟩⟩,Nat.lt_succ_self _⟩)))))
 clear S h;rintro a w3 ⟨x1,h,S⟩;rw [hj1] at h;clear hj1 j1
 obtain rfl:=Option.some.inj h
 exact Rp S results8 ⟨(S.holds _ (List.mem_of_getElem? (i:=1) rfl)),rfl⟩
theorem Zp (w : World) (Ag : Cu) (Ah : Cu) (r : Cu) (h : Qy Ag Ah = some r) :
    Calls prog 51 [.agg (Cu.enc Ag).toArray,.agg (Cu.enc Ah).toArray].toArray w (Ret w [] fun _ v _=>v = .agg (Cu.enc r).toArray):=by
 refine Fe func51 rfl ntmps51 rfl fun a S=>?_
 unfold Qy at h
 replace S:=S.k2 0 1 rfl
 refine Fr (Nj S (S.tm rfl) (cs:=(Cu.enc Ag)) rfl rfl ?_);clear S;intro a w1 b1 hz1 hk1 S
 refine Nj S (S.tm rfl) (cs:=(Cu.enc Ah)) rfl rfl ?_;clear S;intro a w2 b2 hz2 hk2 S
 refine It S zeroValue39 (cs:=[iV 0,iV 0]) rfl rfl ?_;clear S;intro a w3 b3 hz3 hk3 S
 refine Dz (Vf ER S rfl rfl fun a S=>Vl isAgg3 2 S rfl rfl rfl rfl fun a S=>Vf Yg S rfl rfl fun a S=>Vl isAgg3 1 S rfl rfl rfl rfl fun a S=>Vb S Vg rfl rfl rfl fun a S=>Vf ER S rfl rfl fun a S=>Vl isAgg3 1 S rfl rfl rfl rfl ?_);clear S;intro a S
 refine Vf Yg S rfl rfl fun a S=>Vl isAgg3 2 S rfl rfl rfl rfl fun a S=>Vb S Vg rfl rfl rfl fun a S=>Vb S Ek rfl rfl rfl fun a S=>Vf Yg S rfl rfl fun a S=>Vl isAgg3 2 S rfl rfl rfl rfl fun a S=>Vf Yg S rfl rfl fun a S=>Vl isAgg3 1 S rfl rfl rfl rfl fun a S=>Vb S Vg rfl rfl rfl ?_;clear S;intro a S
 obtain ⟨r1,hr1,h⟩:=Eg h
 refine Dc S (fun _=>Cw (vs:=[iV (W ((W (Ag.Num * Ah.Den)) + (W (Ah.Num * Ag.Den)))),iV (W (Ag.Den * Ah.Den))]) ⟨(S.tm rfl),(S.tm rfl),trivial⟩ call79) (Rj _ (W ((W (Ag.Num * Ah.Den)) + (W (Ah.Num * Ag.Den)))) (W (Ag.Den * Ah.Den)) _ hr1) rfl ?_;clear S;intro v1 a w4 hv1 hk4 hn1 S
 subst hv1
 refine Gl S (S.tm rfl) (S.tm rfl) (i:=0) (off:=0) rfl sizeOf39 (vs:=(Cu.enc r1)) rfl rfl rfl rfl ?_;clear S;intro w5 hk5 S
 refine Ld ?_
 replace S:=(S.nl [.blk b3 (Cu.enc r1) 39] [true,false,false] rfl).k1 4 rfl
 refine Tn (wp_ret ?_)
 obtain rfl:=Option.some.inj h
 exact BG S (rs:=[.cell 4 39]) (vs:=[.agg #[iV r1.Num,iV r1.Den]]) results51 ⟨(Wc (off:=0) S rfl isAgg39 sizeOf39 rfl (S.cellsAt (i:=0) rfl)),trivial⟩ rfl rfl
theorem Xu (w : World) (Ae : Hx) (Bd : R27) (Bi : Qe (view w []) Ae Bd) (Ab : Value) (Ad : List An) (Ac : Slc (view w []) 5 Ab (Ad.map An.enc)) (r : (List (ByteArray × Cu))) (h : Nw Ae Ad = some r) :
    Calls prog 25 [.agg (R27.enc Bd).toArray,Ab].toArray w (Ret w [] fun τ v _=>∃ b : Nat,v = .map (some b) ∧ τ b = some (.map (Eh Value.string (fun x=>Value.agg (Cu.enc x).toArray) r) r.length)):=by
 obtain ⟨u1,rfl,hs1⟩:=Bi
 refine Fe func25 rfl ntmps25 rfl fun a S=>?_
 unfold Nw at h
 replace S:=S.k2 0 1 rfl
 refine Fr (Nj S (S.tm rfl) (cs:=[u1.val,iV Ae.Relay,iV Ae.Most]) rfl rfl ?_);clear S;intro a w1 b1 hz1 hk1 S
 refine Vk S rfl rfl fun a S=>Dz (Pl (κ:=ByteArray) (ν:=Cu) S rfl Value.string (fun x=>Value.agg (Cu.enc x).toArray) ?_);clear S;intro a w2 b2 hz2 hk2 S
 refine Va S rfl rfl fun a S=>Dl (Fs (Fr (Vm S rfl rfl fun a S=>lv S (Ee Ja (S.tm rfl) (Ej Ac)) rfl fun a S=>lv S (Rm rfl) rfl fun a S=>Dl ?_)))
 replace S:=(S.nl [.map b2 (Eh Value.string (fun x=>Value.agg (Cu.enc x).toArray) ([] : List (ByteArray × Cu))) ([] : List (ByteArray × Cu)).length,.blk b1 [u1.val,iV Ae.Relay,iV Ae.Most] 27] [true,true] rfl).k6 1 2 5 11 12 13 rfl
 obtain ⟨j1,hj1,h⟩:=Ec h
 refine Ds (fun a w'=>∃ x1 : List (ByteArray × Cu),j1 x1 = some r ∧ Sx w [] nov [.map b2 (Eh Value.string (fun x=>Value.agg (Cu.enc x).toArray) x1) x1.length,.blk b1 [u1.val,iV Ae.Relay,iV Ae.Most] 27] [(1,Ab),(2,.pointer (some ⟨b1,0,none⟩)),(5,.map (some b2))] 47 a w') ?_ ?_
 ·refine wp_block (Fi (fun (ys1 : List An) a w'=>∃ i1 : Nat,∃ x1 : List (ByteArray × Cu),(∃ dn,Ad = dn ++ ys1 ∧ dn.length = i1) ∧ Ir j1 ys1 i1 x1 = some r ∧ Sx w [] nov [.map b2 (Eh Value.string (fun x=>Value.agg (Cu.enc x).toArray) x1) x1.length,.blk b1 [u1.val,iV Ae.Relay,iV Ae.Most] 27] [(1,Ab),(2,.pointer (some ⟨b1,0,none⟩)),(5,.map (some b2)),(11,Ab),(12,iV (Ad.length : Int)),(13,iV (i1 : Int))] 47 a w') List.length Ad ⟨0,([] : List (ByteArray × Cu)),⟨[],rfl,rfl⟩,h,S.nf [true,true] rfl (subR rfl)⟩ ?_)
  clear S h;rintro ys1 a w3 ⟨i1,x1,⟨dn,hd1,hi1⟩,h,S⟩
  cases ys1 with
  | nil =>
   rw [Ir.eq_1] at h
   refine Fr (Vb S Dt rfl rfl rfl fun a S=>Ld ?_)
   replace S:=S.k7 1 2 5 11 12 13 14 rfl
   exact Tn (Fs (wp_cond_false ((S.tm rfl).trans (congrArg Value.bool (Hq hd1 hi1))) (wp_exit (Dj (Dj (Fj (Tn (⟨x1,h,S.nf [true,true] rfl (subR rfl)⟩))))))))
  | cons y1 ys1 =>
   rw [Ir.eq_2] at h
   refine Fr (Vb S Dt rfl rfl rfl fun a S=>Ld ?_)
   replace S:=S.k7 1 2 5 11 12 13 14 rfl
   refine Tn (Fs (wp_cond_true ((S.tm rfl).trans (congrArg Value.bool (Gb hd1 hi1))) (wp_skip (Tn (Fs ?_)))))
   obtain ⟨j2,hj2,h⟩:=Ec h
   refine Ds (fun a w'=>∃ x2 : List (ByteArray × Cu),j2 x2 = some r ∧ Sx w [] nov [.map b2 (Eh Value.string (fun x=>Value.agg (Cu.enc x).toArray) x2) x2.length,.blk b1 [u1.val,iV Ae.Relay,iV Ae.Most] 27] [(1,Ab),(2,.pointer (some ⟨b1,0,none⟩)),(5,.map (some b2)),(11,Ab),(12,iV (Ad.length : Int)),(13,iV (i1 : Int))] 47 a w') ?_ ?_
   ·refine wp_block (Fs (Fg ?_))
    obtain ⟨b3,o1,hm1,hr1⟩:=Eb (a:=a) (x:=.tmp 11) (y:=.tmp 13) (ty:=0) Ja Ac (Hz hd1 hi1) rfl (S.tm rfl) (S.tm rfl)
    refine lv S (hr1 _) rfl ?_;clear S;intro a S
    clear hr1
    refine lv S (Fp isAgg49 sizeOf49 (off:=o1) (o:=0) (part:=(An.enc y1)) rfl rfl (S.tm rfl) (hm1.at S.emb0)) rfl fun a S=>It S zeroValue49 (cs:=[sV Cy,sV Cy,sV Cy,iV 0,bV false]) rfl rfl ?_;clear S;intro a w6 b4 hz3 hk3 S
    refine Gl S (S.tm rfl) (S.tm rfl) (i:=0) (off:=0) rfl sizeOf49 (vs:=(An.enc y1)) rfl rfl rfl rfl ?_;clear S;intro w7 hk4 S
    refine Dz (Vf Qp S rfl rfl fun a S=>Vl isAgg9 0 S rfl rfl rfl rfl fun a S=>Vq S Xz rfl rfl rfl fun a S=>Dl ?_)
    obtain ⟨j3,hj3,h⟩:=Ec h
    refine Ds (fun a w'=>∃ x3 : List (ByteArray × Cu),j3 x3 = some r ∧ Sx w [] nov [.map b2 (Eh Value.string (fun x=>Value.agg (Cu.enc x).toArray) x3) x3.length,.blk b1 [u1.val,iV Ae.Relay,iV Ae.Most] 27] [(1,Ab),(2,.pointer (some ⟨b1,0,none⟩)),(5,.map (some b2)),(11,Ab),(12,iV (Ad.length : Int)),(13,iV (i1 : Int))] 47 a w') ?_ ?_
    ·refine Fc h (S.tm rfl) (fun hb1 h=>?_) (fun hb1 h=>?_)
     ·refine Fw [] ([b2]) Tryz.mixed S rfl (by kernel_rfl) ?_;clear S;intro w11 hk7 hsel S
      refine Dk 0 S hsel rfl rfl rfl (by kernel_rfl) (by kernel_rfl) rfl (fun _ hw=>(Rm (S.tm rfl))) fun a S=>Dk 1 S hsel rfl rfl rfl (by kernel_rfl) (by kernel_rfl) rfl (fun _ hw=>(Fk Qp (S.tm rfl))) fun a S=>Dk 2 S hsel rfl rfl rfl (by kernel_rfl) (by kernel_rfl) rfl (fun _ hw=>(Gk isAgg9 (off:=0) (o:=2) (S.tm rfl) ((S.blk_mem (i:=0) (cells:=(An.enc y1)) (b:=b4) (T:=49) rfl (Ns (i:=1) (j:=0) (e:=.map b2 (Eh Value.string (fun x=>Value.agg (Cu.enc x).toArray) x1) x1.length) (e':=.blk b4 (An.enc y1) 49) S rfl rfl rfl)).kept hw) rfl)) fun a S=>Ex 3 (by kernel_rfl) rfl (Dc S (fun _=>Cw (vs:=[]) trivial call50) (Tz _ _ rfl) rfl ?_);clear S;intro v2 a w12 hv2 hk8 hn2 S
      subst hv2
      refine Ld (Fx (Keep.none hk8) (Ex 4 (by kernel_rfl) rfl (Mg (kv:=Value.string) (vv:=(fun x=>Value.agg (Cu.enc x).toArray)) (m:=x1) (key:=y1.Club) (val:=Gd) S (i:=1) rfl underlying68 (Nk underlying9) (S.tm rfl) (S.tm rfl) (S.tm rfl) ?_)));clear S;intro w13 hk9 S
      refine Ld (Fx hk9 (Tl (by kernel_rfl) ?_))
      clear hsel
      replace S:=(S.nl [.map b2 (Eh Value.string (fun x=>Value.agg (Cu.enc x).toArray) (Es x1 y1.Club Gd)) (Es x1 y1.Club Gd).length,.blk b1 [u1.val,iV Ae.Relay,iV Ae.Most] 27] [false,true,true] rfl).k6 1 2 5 11 12 13 rfl
      exact Tn (⟨(Es x1 y1.Club Gd),h,S.nf [true,true] rfl (subR rfl)⟩)
     ·exact wp_skip (Tn (⟨x1,h,S.nf [false,true,true] rfl (subR rfl)⟩))
    clear S h;rintro a w8 ⟨x3,h,S⟩;rw [hj3] at h;clear hj3 j3
    exact Gx (Tn (⟨x3,h,S.nf [true,true] rfl (subR rfl)⟩))
   clear S h;rintro a w5 ⟨x2,h,S⟩;rw [hj2] at h;clear hj2 j2
   exact Tn (Fg (Vq S Ek rfl rfl rfl fun a S=>Vm S rfl rfl fun a S=>Dl (⟨ys1,⟨i1 + 1,x2,⟨_,(hd1).trans (List.append_cons _ _ _),by simp [hi1]⟩,h,S.nf [true,true] rfl ⟨rfl,rfl,rfl,rfl,rfl,(congrArg (fun z=>some (Value.int .i64 z)) (Gc hd1 hi1 (Jk Ac))),trivial⟩⟩,Nat.lt_succ_self _⟩)))
 clear S h;rintro a w4 ⟨x1,h,S⟩;rw [hj1] at h;clear hj1 j1
 refine Tn (Fs (Fr (lv S (Fp isAgg27 sizeOf27 (off:=0) (o:=0) (part:=[u1.val,iV Ae.Relay,iV Ae.Most]) rfl rfl (S.tm rfl) (S.cellsAt (i:=1) rfl)) rfl fun a S=>Vm S rfl rfl ?_)));clear S;intro a S
 obtain ⟨r1,hr2,h⟩:=Eg h
 have hz4:=S.keep.size
 refine Dc S (fun _=>Cw (vs:=[.agg (R27.enc (R27.mk u1 Ae.Relay Ae.Most)).toArray,Ab]) ⟨(S.tm rfl),(S.tm rfl),trivial⟩ call23) (Ua _ Ae (R27.mk u1 Ae.Relay Ae.Most) ⟨u1,rfl,(hs1.mono (S.le_arg Eo))⟩ Ab Ad (Ac.mono (S.le_arg Eo)) _ hr2) rfl ?_;clear S;intro v3 a w14 hv3 hk10 hn3 S
 obtain ⟨φ1,hl1,hm2,S⟩:=S.see' hn3 hz4
 have hs2:=hv3.mono hm2
 refine lv S (Ee Vd (S.tm rfl) (Ej (Ha Cs.enc_ok hs2))) rfl fun a S=>lv S (Rm rfl) rfl fun a S=>Dl ?_
 replace S:=S.d1.k4 5 27 28 29 rfl
 obtain ⟨j4,hj4,h⟩:=Ec h
 refine Ds (fun a w'=>∃ x4 : List (ByteArray × Cu),j4 x4 = some r ∧ Sx w [] φ1 [.map b2 (Eh Value.string (fun x=>Value.agg (Cu.enc x).toArray) x4) x4.length] [(5,.map (some b2))] 47 a w') ?_ ?_
 ·refine wp_block (Fi (fun (ys2 : List Cs) a w'=>∃ i2 : Nat,∃ x4 : List (ByteArray × Cu),(∃ dn,r1 = dn ++ ys2 ∧ dn.length = i2) ∧ Hm j4 ys2 i2 x4 = some r ∧ Sx w [] φ1 [.map b2 (Eh Value.string (fun x=>Value.agg (Cu.enc x).toArray) x4) x4.length] [(5,.map (some b2)),(27,v3),(28,iV (r1.length : Int)),(29,iV (i2 : Int))] 47 a w') List.length r1 ⟨0,x1,⟨[],rfl,rfl⟩,h,S.nf [true] rfl (subR rfl)⟩ ?_)
  clear S h;rintro ys2 a w15 ⟨i2,x4,⟨dn,hd2,hi2⟩,h,S⟩
  cases ys2 with
  | nil =>
   rw [Hm.eq_1] at h
   refine Fr (Vb S Dt rfl rfl rfl fun a S=>Ld ?_)
   replace S:=S.k5 5 27 28 29 30 rfl
   exact Tn (Fs (wp_cond_false ((S.tm rfl).trans (congrArg Value.bool (Hq hd2 hi2))) (wp_exit (Dj (Dj (Fj (Tn (⟨x4,h,S.nf [true] rfl ⟨rfl,trivial⟩⟩))))))))
  | cons y2 ys2 =>
   rw [Hm.eq_2] at h
   refine Fr (Vb S Dt rfl rfl rfl fun a S=>Ld ?_)
   replace S:=S.k5 5 27 28 29 30 rfl
   refine Tn (Fs (wp_cond_true ((S.tm rfl).trans (congrArg Value.bool (Gb hd2 hi2))) (wp_skip (Tn (Fs (wp_block (Fs (Fg ?_))))))))
   obtain ⟨b5,o2,hm3,hr3⟩:=Eb (a:=a) (x:=.tmp 27) (y:=.tmp 29) (ty:=0) Vd (Ha Cs.enc_ok hs2) (Hz hd2 hi2) rfl (S.tm rfl) (S.tm rfl)
   refine lv S (hr3 _) rfl ?_;clear S;intro a S
   clear hr3
   refine lv S (Fp isAgg66 sizeOf66 (off:=o2) (o:=0) (part:=(Cs.enc y2)) rfl rfl (S.tm rfl) (hm3.at S.emb)) rfl fun a S=>It S zeroValue66 (cs:=[sV Cy,sV Cy,sV Cy,iV 0,bV false,iV 0,iV 0]) rfl rfl ?_;clear S;intro a w17 b6 hz5 hk11 S
   refine Gl S (S.tm rfl) (S.tm rfl) (i:=0) (off:=0) rfl sizeOf66 (vs:=(Cs.enc y2)) rfl rfl rfl rfl ?_;clear S;intro w18 hk12 S
   refine Dl ?_
   obtain ⟨r2,hr4,h⟩:=Eg h
   refine Fw [12] ([]) Tryz.mixed S rfl (by kernel_rfl) ?_;clear S;intro w21 hk15 hsel S
   refine Fd 0 S hsel rfl rfl (by kernel_rfl) (by kernel_rfl) rfl (fun _=>(Rm (S.tm rfl))) fun a S=>Fd 1 S hsel rfl rfl (by kernel_rfl) (by kernel_rfl) rfl (fun _=>(Fk Uq (S.tm rfl))) fun a S=>Fd 2 S hsel rfl rfl (by kernel_rfl) (by kernel_rfl) rfl (fun _=>(Fk Qp (S.tm rfl))) fun a S=>Dk 3 S hsel rfl (by kernel_rfl) (by kernel_rfl) (by kernel_rfl) (by kernel_rfl) rfl (fun _ hw=>(Gk isAgg9 (off:=0) (o:=2) (S.tm rfl) ((S.blk_mem (i:=0) (cells:=(Cs.enc y2)) (b:=b6) (T:=66) rfl (Gn (e':=.blk b6 (Cs.enc y2) 66))).kept hw) rfl)) fun a S=>Fd 4 S hsel rfl rfl (by kernel_rfl) (by kernel_rfl) rfl (fun _=>(Rm (S.tm rfl))) fun a S=>Fd 5 S hsel rfl rfl (by kernel_rfl) (by kernel_rfl) rfl (fun _=>(Fk Uq (S.tm rfl))) fun a S=>Fd 6 S hsel rfl rfl (by kernel_rfl) (by kernel_rfl) rfl (fun _=>(Fk Qp (S.tm rfl))) fun a S=>Dk 7 S hsel rfl (by kernel_rfl) (by kernel_rfl) (by kernel_rfl) (by kernel_rfl) rfl (fun _ hw=>(Gk isAgg9 (off:=0) (o:=2) (S.tm rfl) ((S.blk_mem (i:=0) (cells:=(Cs.enc y2)) (b:=b6) (T:=66) rfl (Gn (e':=.blk b6 (Cs.enc y2) 66))).kept hw) rfl)) fun a S=>Dk 8 S hsel rfl (by kernel_rfl) (by kernel_rfl) (by kernel_rfl) (by kernel_rfl) rfl (fun _ hw=>(Pm (kv:=Value.string) (vv:=(fun x=>Value.agg (Cu.enc x).toArray)) (m:=x4) (key:=y2.x_.Club) (z:=(Cu.mk 0 0)) (S.map_kept (i:=1) rfl (Gn (e':=.map b2 (Eh Value.string (fun x=>Value.agg (Cu.enc x).toArray) x4) x4.length)) hw) underlying68 (Nk underlying9) zeroValue39 (S.tm rfl) (S.tm rfl))) fun a S=>Fd 9 S hsel rfl rfl (by kernel_rfl) (by kernel_rfl) rfl (fun _=>(Fk BO (S.tm rfl))) ?_;clear S;intro a S
   refine Dk 10 S hsel rfl (by kernel_rfl) (by kernel_rfl) (by kernel_rfl) (by kernel_rfl) rfl (fun _ hw=>(Fp isAgg39 sizeOf39 (off:=0) (o:=5) (part:=(Cu.enc y2.points_)) rfl rfl (S.tm rfl) ((S.blk_mem (i:=0) (cells:=(Cs.enc y2)) (b:=b6) (T:=66) rfl (Gn (e':=.blk b6 (Cs.enc y2) 66))).kept hw))) fun a S=>Ex 11 (by kernel_rfl) rfl (Dc S (fun _=>Cw (vs:=[.agg (Cu.enc (Ff x4 y2.x_.Club (Cu.mk 0 0))).toArray,.agg (Cu.enc y2.points_).toArray]) ⟨(S.tm rfl),(S.tm rfl),trivial⟩ call51) (Zp _ (Ff x4 y2.x_.Club (Cu.mk 0 0)) y2.points_ _ hr4) rfl ?_);clear S;intro v5 a w22 hv5 hk16 hn5 S
   subst hv5
   refine Ld (Fx hk16 (Qk 12 ([b2]) rfl (by kernel_rfl) rfl (Mg (kv:=Value.string) (vv:=(fun x=>Value.agg (Cu.enc x).toArray)) (m:=x4) (key:=y2.x_.Club) (val:=r2) S (i:=1) rfl underlying68 (Nk underlying9) (S.tm rfl) (S.tm rfl) (S.tm rfl) ?_)));clear S;intro w23 hk17 S
   refine Ld (Ql (Tl (by kernel_rfl) ?_))
   clear hsel
   replace S:=(S.nl [.map b2 (Eh Value.string (fun x=>Value.agg (Cu.enc x).toArray) (Es x4 y2.x_.Club r2)) (Es x4 y2.x_.Club r2).length] [false,true] rfl).k4 5 27 28 29 rfl
   exact Gx (Tn (Fg (Vq S Ek rfl rfl rfl fun a S=>Vm S rfl rfl fun a S=>Dl (⟨ys2,⟨i2 + 1,(Es x4 y2.x_.Club r2),⟨_,(hd2).trans (List.append_cons _ _ _),by simp [hi2]⟩,h,S.nf [true] rfl ⟨rfl,rfl,rfl,(congrArg (fun z=>some (Value.int .i64 z)) (Gc hd2 hi2 (Jk (Ha Cs.enc_ok hs2)))),trivial⟩⟩,Nat.lt_succ_self _⟩))))
 clear S h;rintro a w16 ⟨x4,h,S⟩;rw [hj4] at h;clear hj4 j4
 refine Tn (Fr (Vm S rfl rfl fun a S=>Va S rfl rfl fun a S=>Dl (wp_ret ?_)))
 obtain rfl:=Option.some.inj h
 exact Dx S results25 rfl ⟨_,rfl,S.map_ret (i:=0) rfl rfl⟩
theorem Wk (w : World) (Ag : Cv) (Ah : Cv) (r : Int) (h : Kq Ag Ah = r) :
    Calls prog 49 [.agg (Cv.enc Ag).toArray,.agg (Cv.enc Ah).toArray].toArray w (Ret w [] fun _ v _=>v = iV r):=by
 refine Fe func49 rfl ntmps49 rfl fun a S=>?_
 unfold Kq at h
 replace S:=S.k2 0 1 rfl
 refine Fr (Nj S (S.tm rfl) (cs:=(Cv.enc Ag)) rfl rfl ?_);clear S;intro a w1 b1 hz1 hk1 S
 refine Nj S (S.tm rfl) (cs:=(Cv.enc Ah)) rfl rfl ?_;clear S;intro a w2 b2 hz2 hk2 S
 refine Vk S rfl rfl fun a S=>Dz (Vf ES S rfl rfl fun a S=>Vl isAgg9 1 S rfl rfl rfl rfl fun a S=>Vf ES S rfl rfl fun a S=>Vl isAgg9 0 S rfl rfl rfl rfl fun a S=>Dc S (fun _=>Cw (vs:=[sV Ag.Key,sV Ah.Key]) ⟨(S.tm rfl),(S.tm rfl),trivial⟩ call42) (Lw _ Ag.Key Ah.Key _ rfl) rfl ?_);clear S;intro v1 a w3 hv1 hk3 hn1 S
 subst hv1
 refine Va S rfl rfl fun a S=>Dl (wp_ret ?_)
 subst h
 exact Dx S results49 rfl rfl
set_option maxRecDepth 20000 in
theorem Lm (w : World) (Aa : Value) (Ai : List Cv) (Bc : (LEnt.own Aa 41 3 Ai.length (Ai.flatMap Cv.enc)).holds w) (Ag : Int) (Ah : Int) (r : (List Cv)) (h : Et Ai Ag Ah = some r) :
    Calls prog 106 [Aa,iV Ag,iV Ah,.func (.func 49) #[] #[]].toArray w (Ret w (Aa.ownBlock.toList) fun _ v w'=>(LEnt.own Aa 41 3 r.length (r.flatMap Cv.enc)).holds w' ∧ v = .tuple #[]):=by
 refine Kv (Aa.ownBlock.toList) [.own Aa 41 3 Ai.length (Ai.flatMap Cv.enc)] func106 rfl ntmps106 rfl (fun e he=>by simp only [List.mem_singleton] at he;subst he;exact Bc) (Kb _) (Lc _) fun a S=>?_
 unfold Et at h
 replace S:=(S.nl [.own Aa 41 3 Ai.length (Ai.flatMap Cv.enc)] [true] rfl).k4 0 1 2 3 rfl
 refine Fr (Vm S rfl rfl fun a S=>Vq S Ek rfl rfl rfl fun a S=>Va S rfl rfl fun a S=>Dl ?_)
 replace S:=S.k5 0 1 2 3 8 rfl
 obtain ⟨j1,hj1,h⟩:=Ec h
 refine Ds (fun a w'=>∃ x1 : List Cv,j1 x1 = some r ∧ Sx w (Aa.ownBlock.toList) nov [.own Aa 41 3 x1.length (x1.flatMap Cv.enc)] [] 53 a w') ?_ ?_
 ·refine wp_block (Fi (fun (m1 : Nat) a w'=>∃ x1 : List Cv,∃ x2 : Int,Dh Ah Ag j1 m1 x1 x2 = some r ∧ Sx w (Aa.ownBlock.toList) nov [.own Aa 41 3 x1.length (x1.flatMap Cv.enc)] [(0,Aa),(1,iV Ag),(2,iV Ah),(3,.func (.func 49) #[] #[]),(8,iV x2)] 53 a w') id ((Ah - (W (Ag + 1))).toNat + 2) ⟨Ai,W (Ag + 1),h,S.nf [true] rfl (subR rfl)⟩ ?_)
  clear S h;rintro m1 a w1 ⟨x1,x2,h,S⟩
  cases m1 with
  | zero=>rw [Dh.eq_1] at h;cases h
  | succ m1 =>
   rw [Dh.eq_2] at h
   refine Fs (Fr (Vm S rfl rfl fun a S=>Vm S rfl rfl fun a S=>Vb S Dt rfl rfl rfl fun a S=>Dl (Fc h (S.tm rfl) (fun hb1 h=>?_) (fun hb1 h=>?_))))
   ·refine wp_skip (Tn (Fs (wp_block (Fr (Vm S rfl rfl fun a S=>Va S rfl rfl fun a S=>Dl ?_)))))
    replace S:=S.k6 0 1 2 3 8 9 rfl
    obtain ⟨j2,hj2,h⟩:=Ec h
    refine Ds (fun a w'=>∃ x3 : List Cv,j2 x3 = some r ∧ Sx w (Aa.ownBlock.toList) nov [.own Aa 41 3 x3.length (x3.flatMap Cv.enc)] [(0,Aa),(1,iV Ag),(2,iV Ah),(3,.func (.func 49) #[] #[]),(8,iV x2)] 53 a w') ?_ ?_
    ·refine wp_block (Fi (fun (m2 : Nat) a w'=>∃ x3 : List Cv,∃ x4 : Int,De Ag j2 m2 x3 x4 = some r ∧ Sx w (Aa.ownBlock.toList) nov [.own Aa 41 3 x3.length (x3.flatMap Cv.enc)] [(0,Aa),(1,iV Ag),(2,iV Ah),(3,.func (.func 49) #[] #[]),(8,iV x2),(9,iV x4)] 53 a w') id ((x2 - Ag).toNat + 2) ⟨x1,x2,h,S.nf [true] rfl (subR rfl)⟩ ?_)
     clear S h;rintro m2 a w3 ⟨x3,x4,h,S⟩
     cases m2 with
     | zero=>rw [De.eq_1] at h;cases h
     | succ m2 =>
      rw [De.eq_2] at h
      refine Fs (Fs ?_)
      obtain ⟨j3,hj3,h⟩:=Ec h
      refine Ds (fun a w'=>∃ x5 : Bool,j3 x5 = some r ∧ Sx w (Aa.ownBlock.toList) nov [.own Aa 41 3 x3.length (x3.flatMap Cv.enc)] [(0,Aa),(1,iV Ag),(2,iV Ah),(3,.func (.func 49) #[] #[]),(8,iV x2),(9,iV x4),(34,bV x5)] 53 a w') ?_ ?_
      ·rcases Bool.eq_false_or_eq_true (decide (Ag < x4)) with hb2 | hb2
       ·replace h:=Om h hb2
        obtain ⟨hc1,h⟩:=Hl h
        obtain ⟨hc2,h⟩:=Hl h
        refine Fw [] ([]) Tryz.mixed S rfl (by kernel_rfl) ?_;clear S;intro w7 hk2 hsel S
        refine Dk 0 S hsel rfl rfl rfl (by kernel_rfl) (by kernel_rfl) rfl (fun _ hw=>(Rm (S.tm rfl))) fun a S=>Dk 1 S hsel rfl rfl rfl (by kernel_rfl) (by kernel_rfl) rfl (fun _ hw=>(Rm (S.tm rfl))) fun a S=>Dk 2 S hsel rfl rfl rfl (by kernel_rfl) (by kernel_rfl) rfl (fun _ hw=>(Ji (S.tm rfl) (S.tm rfl))) fun a S=>Dk 3 S hsel rfl rfl rfl (by kernel_rfl) (by kernel_rfl) rfl (fun _ hw=>(Rm (S.tm rfl))) fun a S=>Dy 4 S hsel rfl rfl rfl rfl hb2 rfl rfl (by kernel_rfl) (by kernel_rfl) rfl (fun _ hw=>(Rm (S.tm rfl))) fun a S=>Dy 5 S hsel rfl rfl rfl rfl hb2 rfl rfl (by kernel_rfl) (by kernel_rfl) rfl (fun _ hw=>(Rm (S.tm rfl))) fun a S=>Dy 6 S hsel rfl rfl rfl rfl hb2 rfl rfl (by kernel_rfl) (by kernel_rfl) rfl (fun _ hw=>(Rm (S.tm rfl))) ?_;clear S;intro a S
        obtain ⟨b3,hg3,hr3⟩:=Gf (a:=a) (x:=.tmp 23) (y:=.tmp 24) (ty:=0) Tw Cv.enc_ok S (i:=0) rfl (Db hc1).1 (Db hc1).2 (S.tm rfl) (S.tm rfl)
        refine Dy 7 S hsel rfl rfl rfl rfl hb2 rfl rfl (by kernel_rfl) (by kernel_rfl) rfl (fun _ hw=>(hr3 _)) ?_;clear S;intro a S
        clear hr3
        refine Dy 8 S hsel rfl rfl rfl rfl hb2 rfl rfl (by kernel_rfl) (by kernel_rfl) rfl (fun _ hw=>(Fp isAgg41 sizeOf41 (off:=x4.toNat * 3) (o:=0) (part:=(Cv.enc (Cv.mk ((nth x3 x4).Key) ((nth x3 x4).Points)))) rfl rfl (S.tm rfl) ((Oj Cv.enc_ok S (i:=0) rfl hg3 (Db hc1).1 (Gn (e':=.own Aa 41 3 x3.length (x3.flatMap Cv.enc)))).kept hw))) fun a S=>Dy 9 S hsel rfl rfl rfl rfl hb2 rfl rfl (by kernel_rfl) (by kernel_rfl) rfl (fun _ hw=>(Rm (S.tm rfl))) fun a S=>Dy 10 S hsel rfl rfl rfl rfl hb2 rfl rfl (by kernel_rfl) (by kernel_rfl) rfl (fun _ hw=>(Rm (S.tm rfl))) fun a S=>Dy 11 S hsel rfl rfl rfl rfl hb2 rfl rfl (by kernel_rfl) (by kernel_rfl) rfl (fun _ hw=>(Jb (S.tm rfl) rfl)) ?_;clear S;intro a S
        obtain ⟨b4,hg4,hr4⟩:=Gf (a:=a) (x:=.tmp 27) (y:=.tmp 29) (ty:=0) Tw Cv.enc_ok S (i:=0) rfl (Db hc2).1 (Db hc2).2 (S.tm rfl) (S.tm rfl)
        refine Dy 12 S hsel rfl rfl rfl rfl hb2 rfl rfl (by kernel_rfl) (by kernel_rfl) rfl (fun _ hw=>(hr4 _)) ?_;clear S;intro a S
        clear hr4
        refine Dy 13 S hsel rfl rfl rfl rfl hb2 rfl rfl (by kernel_rfl) (by kernel_rfl) rfl (fun _ hw=>(Fp isAgg41 sizeOf41 (off:=((W (x4 - 1)).toNat) * 3) (o:=0) (part:=(Cv.enc (Cv.mk ((nth x3 (W (x4 - 1))).Key) ((nth x3 (W (x4 - 1))).Points)))) rfl rfl (S.tm rfl) ((Oj Cv.enc_ok S (i:=0) rfl hg4 (Db hc2).1 (Gn (e':=.own Aa 41 3 x3.length (x3.flatMap Cv.enc)))).kept hw))) fun a S=>Ex 14 (by kernel_rfl) rfl (Cz S rfl rfl rfl hb2 (Dc S (fun _=>Oq (cap:=[]) (S.tm rfl) (vs:=[.agg (Cv.enc (Cv.mk ((nth x3 x4).Key) ((nth x3 x4).Points))).toArray,.agg (Cv.enc (Cv.mk ((nth x3 (W (x4 - 1))).Key) ((nth x3 (W (x4 - 1))).Points))).toArray]) ⟨(S.tm rfl),(S.tm rfl),trivial⟩ call49) (Wk _ (Cv.mk ((nth x3 x4).Key) ((nth x3 x4).Points)) (Cv.mk ((nth x3 (W (x4 - 1))).Key) ((nth x3 (W (x4 - 1))).Points)) _ rfl) rfl ?_));clear S;intro v2 a w8 hv2 hk3 hn2 S
        subst hv2
        refine Ld (Fx hk3 (Kc [15,16] hsel (by kernel_rfl) rfl ?_))
        clear hsel
        refine Ef S rfl rfl rfl rfl hb2 (Fa S (Dt (S.tm rfl) rfl) rfl fun a S=>En S rfl (Ot hb2 (S.tm rfl) (S.tm rfl)) rfl fun a S=>Hk ?_)
        replace S:=S.nk [.own Aa 41 3 x3.length (x3.flatMap Cv.enc)] [(0,Aa),(1,iV Ag),(2,iV Ah),(3,.func (.func 49) #[] #[]),(8,iV x2),(9,iV x4),(22,.func (.func 49) #[] #[]),(23,Aa),(24,iV x4),(25,.pointer (some ⟨b3,x4.toNat * 3,none⟩)),(26,.agg (Cv.enc (Cv.mk ((nth x3 x4).Key) ((nth x3 x4).Points))).toArray),(27,Aa),(28,iV x4),(29,iV (W (x4 - 1))),(30,.pointer (some ⟨b4,((W (x4 - 1)).toNat) * 3,none⟩)),(31,.agg (Cv.enc (Cv.mk ((nth x3 (W (x4 - 1))).Key) ((nth x3 (W (x4 - 1))).Points))).toArray),(32,iV (Kq (Cv.mk ((nth x3 x4).Key) ((nth x3 x4).Points)) (Cv.mk ((nth x3 (W (x4 - 1))).Key) ((nth x3 (W (x4 - 1))).Points)))),(33,bV (decide ((Kq (Cv.mk ((nth x3 x4).Key) ((nth x3 x4).Points)) (Cv.mk ((nth x3 (W (x4 - 1))).Key) ((nth x3 (W (x4 - 1))).Points))) < 0))),(34,bV (decide ((Kq (Cv.mk ((nth x3 x4).Key) ((nth x3 x4).Points)) (Cv.mk ((nth x3 (W (x4 - 1))).Key) ((nth x3 (W (x4 - 1))).Points))) < 0)))] [true] rfl (subR rfl)
        exact Tn (⟨decide ((Kq (Cv.mk ((nth x3 x4).Key) ((nth x3 x4).Points)) (Cv.mk ((nth x3 (W (x4 - 1))).Key) ((nth x3 (W (x4 - 1))).Points))) < 0),h,S.nf [true] rfl (subR rfl)⟩)
       ·replace h:=On h hb2
        refine Fw [] ([]) Tryz.mixed S rfl (by kernel_rfl) ?_;clear S;intro w9 hk4 hsel S
        refine Kc [0,1,2,3,4,5,6,7,8,9,10,11,12,13,14,15,16] hsel (by kernel_rfl) rfl ?_
        clear hsel
        refine En S rfl (Rm (S.tm rfl)) rfl fun a S=>En S rfl (Rm (S.tm rfl)) rfl fun a S=>En S rfl (Ji (S.tm rfl) (S.tm rfl)) rfl fun a S=>En S rfl (Rm (S.tm rfl)) rfl ?_;clear S;intro a S
        iterate 12 (refine Nx S rfl rfl rfl rfl (Jt hb2) rfl ?_ rfl;clear S;intro a S)
        refine En S rfl (Ou hb2 (S.tm rfl) rfl) rfl fun a S=>Hk ?_
        replace S:=S.k7 0 1 2 3 8 9 34 rfl
        exact Tn (⟨false,h,S.nf [true] rfl (subR rfl)⟩)
      clear S h;rintro a w5 ⟨x5,h,S⟩;rw [hj3] at h;clear hj3 j3
      refine Tn (Fc h (S.tm rfl) (fun hb3 h=>?_) (fun hb3 h=>?_))
      ·refine wp_skip (Tn (Fs (wp_block ?_)))
       obtain ⟨hc3,h⟩:=Hl h
       obtain ⟨hc4,h⟩:=Hl h
       obtain ⟨hc5,h⟩:=Hl h
       obtain ⟨hc6,h⟩:=Hl h
       refine Fw [15,17] ([]) Tryz.mixed S rfl (by kernel_rfl) ?_;clear S;intro w14 hk9 hsel S
       refine Fd 0 S hsel rfl rfl (by kernel_rfl) (by kernel_rfl) rfl (fun _=>(Rm (S.tm rfl))) fun a S=>Fd 1 S hsel rfl rfl (by kernel_rfl) (by kernel_rfl) rfl (fun _=>(Rm (S.tm rfl))) fun a S=>Fd 2 S hsel rfl rfl (by kernel_rfl) (by kernel_rfl) rfl (fun _=>(Rm (S.tm rfl))) fun a S=>Fd 3 S hsel rfl rfl (by kernel_rfl) (by kernel_rfl) rfl (fun _=>(Rm (S.tm rfl))) fun a S=>Fd 4 S hsel rfl rfl (by kernel_rfl) (by kernel_rfl) rfl (fun _=>(Jb (S.tm rfl) rfl)) fun a S=>Fd 5 S hsel rfl rfl (by kernel_rfl) (by kernel_rfl) rfl (fun _=>(Rm (S.tm rfl))) fun a S=>Fd 6 S hsel rfl rfl (by kernel_rfl) (by kernel_rfl) rfl (fun _=>(Rm (S.tm rfl))) fun a S=>Fd 7 S hsel rfl rfl (by kernel_rfl) (by kernel_rfl) rfl (fun _=>(Jb (S.tm rfl) rfl)) ?_;clear S;intro a S
       obtain ⟨b9,hg9,hr9⟩:=Gf (a:=a) (x:=.tmp 42) (y:=.tmp 44) (ty:=0) Tw Cv.enc_ok S (i:=0) rfl (Db hc3).1 (Db hc3).2 (S.tm rfl) (S.tm rfl)
       refine Fd 8 S hsel rfl rfl (by kernel_rfl) (by kernel_rfl) rfl (fun _=>(hr9 _)) ?_;clear S;intro a S
       clear hr9
       refine Dk 9 S hsel rfl (by kernel_rfl) (by kernel_rfl) (by kernel_rfl) (by kernel_rfl) rfl (fun _ hw=>(Fp isAgg41 sizeOf41 (off:=((W (x4 - 1)).toNat) * 3) (o:=0) (part:=(Cv.enc (Cv.mk ((nth x3 (W (x4 - 1))).Key) ((nth x3 (W (x4 - 1))).Points)))) rfl rfl (S.tm rfl) ((Oj Cv.enc_ok S (i:=0) rfl hg9 (Db hc3).1 (Gn (e':=.own Aa 41 3 x3.length (x3.flatMap Cv.enc)))).kept hw))) fun a S=>Fd 10 S hsel rfl rfl (by kernel_rfl) (by kernel_rfl) rfl (fun _=>(Rm (S.tm rfl))) fun a S=>Fd 11 S hsel rfl rfl (by kernel_rfl) (by kernel_rfl) rfl (fun _=>(Rm (S.tm rfl))) ?_;clear S;intro a S
       obtain ⟨b10,hg10,hr10⟩:=Gf (a:=a) (x:=.tmp 47) (y:=.tmp 48) (ty:=0) Tw Cv.enc_ok S (i:=0) rfl (Db hc4).1 (Db hc4).2 (S.tm rfl) (S.tm rfl)
       refine Fd 12 S hsel rfl rfl (by kernel_rfl) (by kernel_rfl) rfl (fun _=>(hr10 _)) ?_;clear S;intro a S
       clear hr10
       refine Dk 13 S hsel rfl (by kernel_rfl) (by kernel_rfl) (by kernel_rfl) (by kernel_rfl) rfl (fun _ hw=>(Fp isAgg41 sizeOf41 (off:=x4.toNat * 3) (o:=0) (part:=(Cv.enc (Cv.mk ((nth x3 x4).Key) ((nth x3 x4).Points)))) rfl rfl (S.tm rfl) ((Oj Cv.enc_ok S (i:=0) rfl hg10 (Db hc4).1 (Gn (e':=.own Aa 41 3 x3.length (x3.flatMap Cv.enc)))).kept hw))) ?_;clear S;intro a S
       obtain ⟨b11,hg11,hr11⟩:=Gf (a:=a) (x:=.tmp 37) (y:=.tmp 38) (ty:=0) Tw Cv.enc_ok S (i:=0) rfl (Db hc5).1 (Db hc5).2 (S.tm rfl) (S.tm rfl)
       refine Fd 14 S hsel rfl rfl (by kernel_rfl) (by kernel_rfl) rfl (fun _=>(hr11 _)) ?_;clear S;intro a S
       clear hr11
       refine Qk 15 (Aa.ownBlock.toList) rfl (by kernel_rfl) rfl (Oc (c:=0) (j:=x4.toNat) (Cv.mk ((nth x3 (W (x4 - 1))).Key) ((nth x3 (W (x4 - 1))).Points)) Cv.enc_ok S (S.tm rfl) (S.tm rfl) (i:=0) rfl hg11 (Db hc5).1 sizeOf41 (vs:=[sV ((nth x3 (W (x4 - 1))).Key),iV (((nth x3 (W (x4 - 1))).Points).Num),iV (((nth x3 (W (x4 - 1))).Points).Den)]) rfl rfl rfl rfl rfl ?_);clear S;intro w16 hk11 S
       refine Ld (Ql ?_)
       obtain ⟨b12,hg12,hr12⟩:=Gf (a:=a) (x:=.tmp 39) (y:=.tmp 41) (ty:=0) Tw Cv.enc_ok S (i:=0) rfl (Db hc6).1 (Db hc6).2 (S.tm rfl) (S.tm rfl)
       refine Dk 16 S hsel rfl rfl rfl (by kernel_rfl) (by kernel_rfl) rfl (fun _ hw=>(hr12 _)) ?_;clear S;intro a S
       clear hr12
       refine Ex 17 (by kernel_rfl) rfl (Oc (c:=0) (j:=(W (x4 - 1)).toNat) (Cv.mk ((nth x3 x4).Key) ((nth x3 x4).Points)) Cv.enc_ok S (S.tm rfl) (S.tm rfl) (i:=0) rfl hg12 (Db hc6).1 sizeOf41 (vs:=[sV ((nth x3 x4).Key),iV (((nth x3 x4).Points).Num),iV (((nth x3 x4).Points).Den)]) rfl rfl rfl rfl rfl ?_);clear S;intro w18 hk13 S
       refine Ld (Fx hk13 (Tl (by kernel_rfl) ?_))
       clear hsel
       replace S:=(S.nl [.own Aa 41 3 ((x3.set x4.toNat (Cv.mk ((nth x3 (W (x4 - 1))).Key) ((nth x3 (W (x4 - 1))).Points))).set ((W (x4 - 1)).toNat) (Cv.mk ((nth x3 x4).Key) ((nth x3 x4).Points))).length (((x3.set x4.toNat (Cv.mk ((nth x3 (W (x4 - 1))).Key) ((nth x3 (W (x4 - 1))).Points))).set ((W (x4 - 1)).toNat) (Cv.mk ((nth x3 x4).Key) ((nth x3 x4).Points))).flatMap Cv.enc)] [true] rfl).k6 0 1 2 3 8 9 rfl
       exact Gx (Tn (Fg (Vm S rfl rfl fun a S=>Vq S Jb rfl rfl rfl fun a S=>Va S rfl rfl fun a S=>Dl (⟨m2,⟨((x3.set x4.toNat (Cv.mk ((nth x3 (W (x4 - 1))).Key) ((nth x3 (W (x4 - 1))).Points))).set ((W (x4 - 1)).toNat) (Cv.mk ((nth x3 x4).Key) ((nth x3 x4).Points))),W (x4 - 1),h,S.nf [true] rfl ⟨rfl,rfl,rfl,rfl,rfl,rfl,trivial⟩⟩,Nat.lt_succ_self _⟩))))
      ·exact wp_exit (Dj (Dj (Fj (Tn (⟨x3,h,S.nf [true] rfl (subR rfl)⟩)))))
    clear S h;rintro a w4 ⟨x3,h,S⟩;rw [hj2] at h;clear hj2 j2
    exact Gx (Tn (Fg (Vm S rfl rfl fun a S=>Vq S Ek rfl rfl rfl fun a S=>Va S rfl rfl fun a S=>Dl (⟨m1,⟨x3,W (x2 + 1),h,S.nf [true] rfl ⟨rfl,rfl,rfl,rfl,rfl,trivial⟩⟩,Nat.lt_succ_self _⟩))))
   ·exact wp_exit (Dj (Dj (Fj (Tn (⟨x1,h,S.nf [true] rfl trivial⟩)))))
 clear S h;rintro a w2 ⟨x1,h,S⟩;rw [hj1] at h;clear hj1 j1
 obtain rfl:=Option.some.inj h
 exact Rp S results106 ⟨(S.holds _ (List.mem_of_getElem? (i:=0) rfl)),rfl⟩
theorem Mt (w : World) (Aa : Value) (Ai : List Cv) (Bc : (LEnt.own Aa 41 3 Ai.length (Ai.flatMap Cv.enc)).holds w) (Ag : Int) (Ah : Int) (Bh : Int) (r : (List Cv)) (h : Gr Ai Ag Ah Bh = some r) :
    Calls prog 80 [Aa,iV Ag,iV Ah,iV Bh,.func (.func 49) #[] #[]].toArray w (Ret w (Aa.ownBlock.toList) fun _ v w'=>(LEnt.own Aa 41 3 r.length (r.flatMap Cv.enc)).holds w' ∧ v = .tuple #[]):=by
 refine Kv (Aa.ownBlock.toList) [.own Aa 41 3 Ai.length (Ai.flatMap Cv.enc)] func80 rfl ntmps80 rfl (fun e he=>by simp only [List.mem_singleton] at he;subst he;exact Bc) (Kb _) (Lc _) fun a S=>?_
 unfold Gr at h
 replace S:=(S.nl [.own Aa 41 3 Ai.length (Ai.flatMap Cv.enc)] [true] rfl).k5 0 1 2 3 4 rfl
 refine Fr (Vk S rfl rfl fun a S=>Dz (Vk S rfl rfl fun a S=>Dl ?_))
 replace S:=S.k6 0 1 2 3 4 10 rfl
 refine Ds (fun a w'=>False) ?_ ?_
 ·refine wp_block (Fi (fun (m1 : Nat) a w'=>∃ x1 : Int,∃ x2 : Int,∃ x3 : Int,∃ x4 : Bool,Du Ai m1 x1 x2 x3 x4 = some r ∧ Sx w (Aa.ownBlock.toList) nov [.own Aa 41 3 Ai.length (Ai.flatMap Cv.enc)] [(0,Aa),(1,iV x1),(2,iV x2),(3,iV x3),(4,.func (.func 49) #[] #[]),(10,bV x4)] 148 a w') id 4611686018427387904 ⟨Ag,Ah,Bh,true,h,S.nf [true] rfl (subR rfl)⟩ ?_)
  clear S h;rintro m1 a w1 ⟨x1,x2,x3,x4,h,S⟩
  cases m1 with
  | zero=>rw [Du.eq_1] at h;cases h
  | succ m1 =>
   rw [Du.eq_2] at h
   refine wp_block (Fr (Vm S rfl rfl fun a S=>Vm S rfl rfl fun a S=>Vb S Jb rfl rfl rfl fun a S=>Va S rfl rfl fun a S=>Dl (Fs (Fs ?_))))
   refine Fg (Vm S rfl rfl fun a S=>Vq S Sj rfl rfl rfl fun a S=>Dl (Fc h (S.tm rfl) (fun hb1 h=>?_) (fun hb1 h=>?_)))
   ·refine Fs (Fg ?_)
    iterate 4 (refine Vm S rfl rfl ?_;clear S;intro a S)
    obtain ⟨r1,hr1,h⟩:=Eg h
    refine Nl 0 S rfl (fun _=>.own Aa 41 3 r1.length (r1.flatMap Cv.enc)) (fun _=>Cw (vs:=[Aa,iV x1,iV x2,.func (.func 49) #[] #[]]) ⟨(S.tm rfl),(S.tm rfl),(S.tm rfl),(S.tm rfl),trivial⟩ call106) (Lm _ Aa Ai (S.holds _ (List.mem_of_getElem? (i:=0) rfl)) x1 x2 _ hr1) rfl (fun _ _ _ h=>⟨h.1,fun _ hc=>hc⟩) ?_;clear S;intro v1 a w3 hv1 hk1 hn1 S
    replace hv1:=hv1.2
    subst hv1
    refine Ld ?_
    replace S:=(S.nl [.own Aa 41 3 r1.length (r1.flatMap Cv.enc)] [true] rfl).k0
    refine Tn (wp_ret (Cx (Em (Cx (Em (Cx ?_))))))
    obtain rfl:=Option.some.inj h
    exact Rp S results80 ⟨(S.holds _ (List.mem_of_getElem? (i:=0) rfl)),rfl⟩
   ·refine wp_skip (Tn (Fs (Fr (Vm S rfl rfl fun a S=>Vq S Jz rfl rfl rfl fun a S=>Dl (Fc h (S.tm rfl) (fun hb2 h=>?_) (fun hb2 h=>?_))))))
    ·refine Fs ?_
     cases h
    ·refine wp_skip (Tn (Fs (Fr (Vm S rfl rfl fun a S=>Vu S Hp rfl rfl fun a S=>Ld ?_))))
     replace S:=S.k1 39 rfl
     refine Tn (Fc h (S.tm rfl) (fun hb3 h=>?_) (fun hb3 h=>?_))
     ·refine Fs ?_
      cases h
     ·refine wp_skip (Tn (Fs ?_))
      cases h
 exact fun _ _ h=>h.elim
theorem Np (w : World) (Aq : Value) (Al : List Cv) (Ca : (LEnt.own Aq 41 3 Al.length (Al.flatMap Cv.enc)).holds w) (r : (List Cv)) (h : Gp Al = some r) :
    Calls prog 48 [Aq,.func (.func 49) #[] #[]].toArray w (Ret w (Aq.ownBlock.toList) fun _ v w'=>(LEnt.own Aq 41 3 r.length (r.flatMap Cv.enc)).holds w' ∧ v = .tuple #[]):=by
 refine Kv (Aq.ownBlock.toList) [.own Aq 41 3 Al.length (Al.flatMap Cv.enc)] func48 rfl ntmps48 rfl (fun e he=>by simp only [List.mem_singleton] at he;subst he;exact Ca) (Kb _) (Lc _) fun a S=>?_
 unfold Gp at h
 replace S:=(S.nl [.own Aq 41 3 Al.length (Al.flatMap Cv.enc)] [true] rfl).k2 0 1 rfl
 refine Fr (Vm S rfl rfl fun a S=>lv S (Ee Tw (S.tm rfl) (Nn (S.own_at (i:=0) rfl))) rfl fun a S=>Va S rfl rfl fun a S=>Dl (Fg ?_))
 iterate 3 (refine Vm S rfl rfl ?_;clear S;intro a S)
 refine Vu S (Og underlying3 underlying99) rfl rfl ?_;clear S;intro a S
 obtain ⟨r1,hr1,h⟩:=Eg h
 refine Dc S (fun _=>Cw (vs:=[.int .u64 (IntKind.wrap .u64 (Al.length : Int))]) ⟨(S.tm rfl),trivial⟩ call40) (Tx _ (IntKind.wrap .u64 (Al.length : Int)) _ hr1) rfl ?_;clear S;intro v1 a w1 hv1 hk1 hn1 S
 subst hv1
 refine Vm S rfl rfl ?_;clear S;intro a S
 obtain ⟨r2,hr2,h⟩:=Eg h
 refine Nl 0 S rfl (fun _=>.own Aq 41 3 r2.length (r2.flatMap Cv.enc)) (fun _=>Cw (vs:=[Aq,iV 0,iV (Al.length : Int),iV r1,.func (.func 49) #[] #[]]) ⟨(S.tm rfl),rfl,(S.tm rfl),(S.tm rfl),(S.tm rfl),trivial⟩ call80) (Mt _ Aq Al (S.holds _ (List.mem_of_getElem? (i:=0) rfl)) 0 (Al.length : Int) r1 _ hr2) rfl (fun _ _ _ h=>⟨h.1,fun _ hc=>hc⟩) ?_;clear S;intro v2 a w2 hv2 hk2 hn2 S
 replace hv2:=hv2.2
 subst hv2
 refine Ld ?_
 obtain rfl:=Option.some.inj h
 exact Rp S results48 ⟨(S.holds _ (List.mem_of_getElem? (i:=0) rfl)),rfl⟩
theorem Ub (w : World) (Cf : Nat) (Bv : List (ByteArray × Cu)) (Cj : (view w []) Cf = some (.map (Eh Value.string (fun x=>Value.agg (Cu.enc x).toArray) Bv) Bv.length)) (r : (List Cv)) (h : Kr Bv = some r) :
    Calls prog 24 [.map (some Cf)].toArray w (Ret w [] fun τ v _=>Pu τ 41 3 v r.length (r.flatMap Cv.enc)):=by
 refine Fe func24 rfl ntmps24 rfl fun a S=>?_
 unfold Kr at h
 replace S:=S.k1 0 rfl
 refine Fr (Vk S rfl rfl fun a S=>Dz (Vk S rfl rfl ?_));clear S;intro a S
 replace S:=S.nil 41 3
 refine Dl (Fs (Fr (Vm S rfl rfl fun a S=>BI (es:=Eh Value.string (fun x=>Value.agg (Cu.enc x).toArray) Bv) (clk:=Bv.length) S (S.emb0 _ _ Cj) underlying68 (S.tm rfl) rfl ?_)));clear S;intro a w1 b1 hz1 hk1 S
 refine Dl ?_
 replace S:=(S.nl [.iter b1 Cf Bv.length #[] Bv.length,.own (.slice none 0 0) 41 3 ([] : List Cv).length (([] : List Cv).flatMap Cv.enc)] [true,true] rfl).k2 3 7 rfl
 obtain ⟨j1,hj1,h⟩:=Ec h
 replace h:=allE h
 refine Ds (fun a w'=>∃ x1 : List Cv,∃ v1 : Value,j1 x1 = some r ∧ Sx w [] nov [.own v1 41 3 x1.length (x1.flatMap Cv.enc)] [(3,v1)] 22 a w') ?_ ?_
 ·refine wp_block (Fi (fun (q : List (ByteArray × Cu)) a w'=>∃ x1 : List Cv,∃ v1 : Value,∃ sn1 : Array Nat,Rf Bv sn1 = q ∧ (∀ p,p.Perm q → Jp j1 p x1 = some r) ∧ Sx w [] nov [.iter b1 Cf Bv.length sn1 Bv.length,.own v1 41 3 x1.length (x1.flatMap Cv.enc)] [(3,v1),(7,.pointer (some ⟨b1,0,none⟩))] 22 a w') List.length Bv ⟨([] : List Cv),(.slice none 0 0),#[],(BH _),h,S.nf [true,true] rfl (subR rfl)⟩ ?_)
  clear S h;rintro q a w2 ⟨x1,v1,sn1,hq,h,S⟩
  refine Fr (DR (kv:=Value.string) (vv:=(fun x=>Value.agg (Cu.enc x).toArray)) (m:=Bv) S (i:=0) rfl (S.emb0 _ _ Cj) (S.tm rfl) rfl ?_ ?_)
  ·intro hn1;clear S;intro a S
   replace h:=Yp h (hq.symm.trans hn1)
   rw [Jp.eq_1] at h
   refine Vq S Er rfl rfl rfl fun a S=>Ld ?_
   replace S:=S.k3 3 7 9 rfl
   exact Tn (Fs (wp_cond_false (S.tm rfl) (wp_exit (Dj (Dj (Fj (Tn (⟨x1,v1,h,S.nf [false,true] rfl ⟨rfl,trivial⟩⟩))))))))
  ·clear S;intro y1 sn2 a w4 hp1 hl1 hk2 S
   obtain ⟨sq1,h,hn2⟩:=Wv h (by rw [← hq];exact hp1) (fun _=>rfl)
   refine Vq S Er rfl rfl rfl fun a S=>Ld ?_
   replace S:=(S.nl [.iter b1 Cf Bv.length sn2 Bv.length,.own v1 41 3 x1.length (x1.flatMap Cv.enc)] [true,true] rfl).k3 3 7 9 rfl
   refine Tn (Fs (wp_cond_true (S.tm rfl) (wp_skip (Tn (wp_block (Fr (lv S (Yu (kv:=Value.string) (vv:=(fun x=>Value.agg (Cu.enc x).toArray)) (m:=Bv) (e:=y1) (S.holds _ (List.mem_of_getElem? (i:=0) rfl)) (S.emb0 _ _ Cj) hl1 (S.tm rfl)) rfl fun a S=>Vq S Er rfl rfl rfl fun a S=>Vq S Er rfl rfl rfl ?_)))))));clear S;intro a S
   refine It S zeroValue39 (cs:=[iV 0,iV 0]) rfl rfl ?_;clear S;intro a w5 b2 hz2 hk3 S
   refine Va S rfl rfl fun a S=>Gl S (S.tm rfl) (S.tm rfl) (i:=0) (off:=0) rfl sizeOf39 (vs:=(Cu.enc y1.2)) rfl rfl rfl rfl ?_;clear S;intro w6 hk4 S
   refine Dl (Fg (Vm S rfl rfl fun a S=>Vm S rfl rfl fun a S=>lv S (Fp isAgg39 sizeOf39 (off:=0) (o:=0) (part:=(Cu.enc y1.2)) rfl rfl (S.tm rfl) (S.cellsAt (i:=0) rfl)) rfl fun a S=>lv S (Lp bt_41 (pv:=[(0,sV y1.1),(1,.agg #[iV y1.2.Num,iV y1.2.Den])]) ⟨rfl,(S.tm rfl),rfl,(S.tm rfl),trivial⟩ (cs:=[sV y1.1,iV y1.2.Num,iV y1.2.Den]) (by kernel_rfl)) rfl fun a S=>Ed S underlying33 sizeOf41 zeroValue41 rfl rfl (pv:=[(0,.agg #[sV y1.1,iV y1.2.Num,iV y1.2.Den])]) ⟨rfl,(S.tm rfl),trivial⟩ (cs:=[sV y1.1,iV y1.2.Num,iV y1.2.Den]) (by kernel_rfl) rfl ?_));clear S;intro a w7 b3 hz3 hk5 S
   obtain ⟨hc1,h⟩:=Hl h
   refine Mx Tw Cv.enc_ok S (S.tm rfl) (i:=3) rfl (S.tm rfl) (j:=0) rfl (ys:=[(Cv.mk y1.1 y1.2)]) rfl rfl rfl rfl (by have:=Nd hc1;omega) rfl ?_;clear S;intro v2 a w8 hk6 S
   refine Va S rfl rfl fun a S=>Ld (Gx (Tn ?_))
   obtain rfl:=Option.some.inj h
   exact ⟨Rf Bv sn2,⟨(x1 ++ [(Cv.mk y1.1 y1.2)]),v2,sn2,rfl,hn2,S.nf [false,false,true,true] rfl (subR rfl)⟩,by have:=hp1.length_eq;rw [hq] at this;simp only [List.length_cons] at this;omega⟩
 clear S h;rintro a w3 ⟨x1,v1,h,S⟩;rw [hj1] at h;clear hj1 j1
 refine Tn (Fr (Vm S rfl rfl ?_));clear S;intro a S
 obtain ⟨r1,hr1,h⟩:=Eg h
 refine Nl 0 S rfl (fun _=>.own v1 41 3 r1.length (r1.flatMap Cv.enc)) (fun _=>Cw (vs:=[v1,.func (.func 49) #[] #[]]) ⟨(S.tm rfl),rfl,trivial⟩ call48) (Np _ v1 x1 (S.holds _ (List.mem_of_getElem? (i:=0) rfl)) _ hr1) rfl (fun _ _ _ h=>⟨h.1,fun _ hc=>hc⟩) ?_;clear S;intro v3 a w9 hv1 hk7 hn3 S
 replace hv1:=hv1.2
 subst hv1
 refine Dz (Vm S rfl rfl fun a S=>Va S rfl rfl fun a S=>Dl (wp_ret ?_))
 obtain rfl:=Option.some.inj h
 exact Dx S results24 rfl (Qu S (i:=0) rfl rfl)
theorem Xv (w : World) (Ae : Hx) (Bd : R27) (Bi : Qe (view w []) Ae Bd) (Ab : Value) (Ad : List An) (Ac : Slc (view w []) 5 Ab (Ad.map An.enc)) (r : (List Cv) × Int) (h : Pb Ae Ad = some r) :
    Calls prog 9 [.agg (R27.enc Bd).toArray,Ab].toArray w (Ret w [] fun τ v _=>∃ u1 : Value,v = .tuple #[u1,iV r.2] ∧ Pu τ 41 3 u1 r.1.length (r.1.flatMap Cv.enc)):=by
 obtain ⟨u1,rfl,hs1⟩:=Bi
 refine Fe func9 rfl ntmps9 rfl fun a S=>?_
 unfold Pb at h
 replace S:=S.k2 0 1 rfl
 refine Fr (Nj S (S.tm rfl) (cs:=[u1.val,iV Ae.Relay,iV Ae.Most]) rfl rfl ?_);clear S;intro a w1 b1 hz1 hk1 S
 refine Vk S rfl rfl fun a S=>Vk S rfl rfl fun a S=>Dl (Fs (Fr (lv S (Fp isAgg27 sizeOf27 (off:=0) (o:=0) (part:=[u1.val,iV Ae.Relay,iV Ae.Most]) rfl rfl (S.tm rfl) (S.cellsAt (i:=0) rfl)) rfl fun a S=>Vm S rfl rfl ?_)));clear S;intro a S
 obtain ⟨r1,hr1,h⟩:=Eg h
 refine Dc S (fun _=>Cw (vs:=[.agg (R27.enc (R27.mk u1 Ae.Relay Ae.Most)).toArray,Ab]) ⟨(S.tm rfl),(S.tm rfl),trivial⟩ call22) (Qh _ Ae (R27.mk u1 Ae.Relay Ae.Most) ⟨u1,rfl,(hs1.mono (S.le_arg Eo))⟩ Ab Ad (Ac.mono (S.le_arg Eo)) _ hr1) rfl ?_;clear S;intro v1 a w2 hv1 hk2 hn1 S
 subst hv1
 refine Va S rfl rfl fun a S=>Dz (Vm S rfl rfl fun a S=>Vq S Lo rfl rfl rfl fun a S=>Dl (Fc h (S.tm rfl) (fun hb1 h=>?_) (fun hb1 h=>?_)))
 ·refine Fr (Vm S rfl rfl fun a S=>Vk S rfl rfl fun a S=>Va S rfl rfl fun a S=>Dl (wp_ret (Cx ?_)))
  obtain rfl:=Option.some.inj h
  exact Kj S results9 rfl rfl ⟨_,rfl,(Ob _ _ _)⟩
 ·refine wp_skip (Tn (Fr (lv S (Fp isAgg27 sizeOf27 (off:=0) (o:=0) (part:=[u1.val,iV Ae.Relay,iV Ae.Most]) rfl rfl (S.tm rfl) (S.cellsAt (i:=0) rfl)) rfl fun a S=>Vm S rfl rfl ?_)));clear S;intro a S
  obtain ⟨r2,hr2,h⟩:=Eg h
  have hz2:=S.keep.size
  refine Dc S (fun _=>Cw (vs:=[.agg (R27.enc (R27.mk u1 Ae.Relay Ae.Most)).toArray,Ab]) ⟨(S.tm rfl),(S.tm rfl),trivial⟩ call25) (Xu _ Ae (R27.mk u1 Ae.Relay Ae.Most) ⟨u1,rfl,(hs1.mono (S.le_arg Eo))⟩ Ab Ad (Ac.mono (S.le_arg Eo)) _ hr2) rfl ?_;clear S;intro v2 a w3 hv2 hk3 hn2 S
  obtain ⟨φ1,hl1,hm1,S⟩:=S.see' hn2 hz2
  obtain ⟨b2,rfl,hq1⟩:=hv2
  replace hq1:=hm1 _ _ hq1
  obtain ⟨r3,hr3,h⟩:=Eg h
  have hz3:=S.keep.size
  refine Dc S (fun _=>Cw (vs:=[.map (some b2)]) ⟨(S.tm rfl),trivial⟩ call24) (Ub _ b2 r2 ((S.le_new Eo) _ _ hq1) _ hr3) rfl ?_;clear S;intro v3 a w4 hv3 hk4 hn3 S
  obtain ⟨φ2,hl2,hm2,S⟩:=S.see' hn3 hz3
  have hs2:=hv3.mono hm2
  refine Va S rfl rfl fun a S=>Vk S rfl rfl fun a S=>Ld ?_
  replace S:=S.n0.k2 4 5 rfl
  refine Tn (wp_ret ?_)
  obtain rfl:=Option.some.inj h
  exact Kj S results9 rfl rfl ⟨_,rfl,((hs2).mono S.le_newer)⟩
theorem Pp (w : World) (Ay : Int) (r : Bool) (h : Mn Ay = r) :
    Calls prog 53 [iV Ay].toArray w (Ret w [] fun _ v _=>v = bV r):=by
 refine Fe func53 rfl ntmps53 rfl fun a S=>?_
 unfold Mn at h
 replace S:=S.k1 0 rfl
 refine Fr (Vk S rfl rfl fun a S=>Dz (Vm S rfl rfl fun a S=>Dc S (fun _=>Cw (vs:=[iV Ay,iV 1,iV 360000]) ⟨(S.tm rfl),rfl,rfl,trivial⟩ call28) (El _ Ay 1 360000 _ rfl) rfl ?_));clear S;intro v1 a w1 hv1 hk1 hn1 S
 subst hv1
 refine Va S rfl rfl fun a S=>Dl (wp_ret ?_)
 subst h
 exact Dx S results53 rfl rfl
set_option maxRecDepth 20000 in
theorem Qi (w : World) (Ab : Value) (Ad : List Jr) (Ac : Slc (view w []) 2 Ab (Ad.map Jr.enc)) (r : Int) (h : Lk Ad = some r) :
    Calls prog 26 [Ab].toArray w (Ret w [] fun _ v _=>v = iV r):=by
 refine Fe func26 rfl ntmps26 rfl fun a S=>?_
 unfold Lk at h
 replace S:=S.k1 0 rfl
 refine Fr (Vk S rfl rfl fun a S=>Dl (Fs (Fr (Vm S rfl rfl fun a S=>lv S (Ee AH (S.tm rfl) (Ej Ac)) rfl fun a S=>Vq S Ji rfl rfl rfl ?_))));clear S;intro a S
 refine Dl (Fc h (S.tm rfl) (fun hb1 h=>?_) (fun hb1 h=>?_))
 ·refine Fr (Vk S rfl rfl fun a S=>Dl (wp_ret (Cx ?_)))
  obtain rfl:=Option.some.inj h
  exact Dx S results26 rfl rfl
 ·refine wp_skip (Tn (Fs (Fr (Vm S rfl rfl fun a S=>lv S (Ee AH (S.tm rfl) (Ej Ac)) rfl fun a S=>lv S (Rm rfl) rfl fun a S=>Dl ?_))))
  replace S:=S.k4 0 8 9 10 rfl
  obtain ⟨j1,hj1,h⟩:=Ec h
  refine Ds (fun a w'=>j1 = some r ∧ Sx w [] nov [] [] 40 a w') ?_ ?_
  ·refine wp_block (Fi (fun (ys1 : List Jr) a w'=>∃ i1 : Nat,(∃ dn,Ad = dn ++ ys1 ∧ dn.length = i1) ∧ Iu Ad j1 ys1 i1 = some r ∧ Sx w [] nov [] [(0,Ab),(8,Ab),(9,iV (Ad.length : Int)),(10,iV (i1 : Int))] 40 a w') List.length Ad ⟨0,⟨[],rfl,rfl⟩,h,S.nf [] rfl (subR rfl)⟩ ?_)
   clear S h;rintro ys1 a w1 ⟨i1,⟨dn,hd1,hi1⟩,h,S⟩
   cases ys1 with
   | nil =>
    rw [Iu.eq_1] at h
    refine Fr (Vb S Dt rfl rfl rfl fun a S=>Ld ?_)
    replace S:=S.k5 0 8 9 10 11 rfl
    exact Tn (Fs (wp_cond_false ((S.tm rfl).trans (congrArg Value.bool (Hq hd1 hi1))) (wp_exit (Dj (Dj (Fj (Tn (⟨h,S.nf [] rfl trivial⟩))))))))
   | cons y1 ys1 =>
    rw [Iu.eq_2] at h
    refine Fr (Vb S Dt rfl rfl rfl fun a S=>Ld ?_)
    replace S:=S.k5 0 8 9 10 11 rfl
    refine Tn (Fs (wp_cond_true ((S.tm rfl).trans (congrArg Value.bool (Gb hd1 hi1))) (wp_skip (Tn (Fs (wp_block (Fr (Vm S rfl rfl ?_))))))));clear S;intro a S
    obtain ⟨b1,o1,hm1,hr1⟩:=Eb (a:=a) (x:=.tmp 8) (y:=.tmp 10) (ty:=0) AH Ac (Hz hd1 hi1) rfl (S.tm rfl) (S.tm rfl)
    refine lv S (hr1 _) rfl ?_;clear S;intro a S
    clear hr1
    refine lv S (Fp isAgg44 sizeOf44 (off:=o1) (o:=0) (part:=(Jr.enc y1)) rfl rfl (S.tm rfl) (hm1.at S.emb0)) rfl fun a S=>It S zeroValue44 (cs:=[sV Cy,iV 0]) rfl rfl ?_;clear S;intro a w3 b2 hz1 hk1 S
    refine Va S rfl rfl fun a S=>Gl S (S.tm rfl) (S.tm rfl) (i:=0) (off:=0) rfl sizeOf44 (vs:=(Jr.enc y1)) rfl rfl rfl rfl ?_;clear S;intro w4 hk2 S
    refine Dl (wp_block (Fr (Vf Yh S rfl rfl fun a S=>Vl isAgg9 0 S rfl rfl rfl rfl ?_)));clear S;intro a S
    obtain ⟨r1,hr2,h⟩:=Eg h
    refine Dc S (fun _=>Cw (vs:=[sV y1.Race]) ⟨(S.tm rfl),trivial⟩ call52) (Ht _ y1.Race _ hr2) rfl ?_;clear S;intro v1 a w5 hv1 hk3 hn1 S
    subst hv1
    refine Vu S Hp rfl rfl fun a S=>Va S rfl rfl fun a S=>Ld ?_
    replace S:=(S.nl [.blk b2 (Jr.enc y1) 44] [true] rfl).k7 0 3 4 8 9 10 15 rfl
    refine Tn (Fc h (S.tm rfl) (fun hb2 h=>?_) (fun hb2 h=>?_))
    ·refine Fr (Vk S rfl rfl fun a S=>Dl (wp_ret (Em (Em (Cx (Cx (Em ?_)))))))
     refine Cx (Cx ?_)
     obtain rfl:=Option.some.inj h
     exact Dx S results26 rfl rfl
    ·refine Fs (Fw [] ([]) Tryz.mixed S rfl (by kernel_rfl) ?_);clear S;intro w6 hk4 hsel S
     refine Kc [0,1,2,3,4,5,6,7,8,9,10,11,12,13] hsel (by kernel_rfl) rfl ?_
     clear hsel
     refine En S rfl (Rm (S.tm rfl)) rfl fun a S=>En S rfl (Ji (S.tm rfl) rfl) rfl fun a S=>En S rfl (Rm (S.tm rfl)) rfl ?_;clear S;intro a S
     obtain ⟨j2,hj2,h⟩:=Ec h
     refine Ts 10 (fun a w'=>∃ c1,j2 c1 = some r ∧ Keep [] w6 w' ∧ Sx w [] nov [.blk b2 (Jr.enc y1) 44] [(0,Ab),(4,.pointer (some ⟨b2,0,none⟩)),(8,Ab),(9,iV (Ad.length : Int)),(10,iV (i1 : Int)),(33,bV c1)] 40 a w') ?_ ?_
     ·rcases Bool.eq_false_or_eq_true (decide (0 < (i1 : Int))) with hb3 | hb3
      ·replace h:=Om h hb3
       refine Ef S rfl rfl rfl rfl hb3 (Fa S (Fk Yh (S.tm rfl)) rfl fun a S=>Ef S rfl rfl rfl rfl hb3 (Fa S (Oh isAgg9 (S.tm rfl) (S.cell (i:=0) rfl rfl)) rfl fun a S=>Ef S rfl rfl rfl rfl hb3 (Fa S (Rm (S.tm rfl)) rfl fun a S=>Ef S rfl rfl rfl rfl hb3 (Fa S (Rm (S.tm rfl)) rfl fun a S=>Ef S rfl rfl rfl rfl hb3 (Fa S (Jb (S.tm rfl) rfl) rfl fun a S=>Ef S rfl rfl rfl rfl hb3 ?_)))))
       obtain ⟨hc1,h⟩:=Hl h
       obtain ⟨b3,o2,hm2,hr3⟩:=Eb (a:=a) (x:=.tmp 26) (y:=.tmp 28) (ty:=0) AH Ac (Db hc1).1 (Db hc1).2 (S.tm rfl) (S.tm rfl)
       refine Fa S (hr3 _) rfl ?_;clear S;intro a S
       clear hr3
       exact Ef S rfl rfl rfl rfl hb3 (Fa S (Fk Yh (S.tm rfl)) rfl fun a S=>Ef S rfl rfl rfl rfl hb3 (Fa S (Gk isAgg9 (off:=o2) (o:=0) (S.tm rfl) (hm2.at S.emb0) rfl) rfl fun a S=>Ef S rfl rfl rfl rfl hb3 (Fa S (AX (S.tm rfl) (S.tm rfl)) rfl fun a S=>En S rfl (Hg hb3 (S.tm rfl) (S.tm rfl)) rfl fun a S=>Hk (⟨_,h,Keep.refl _ _,S.nf [true] rfl (subR rfl)⟩))))
      ·replace h:=On h hb3
       iterate 9 (refine Nx S rfl rfl rfl rfl (Jt hb3) rfl ?_ rfl;clear S;intro a S)
       exact En S rfl (Hh true hb3 (S.tm rfl) rfl) rfl fun a S=>Hk (⟨_,h,Keep.refl _ _,S.nf [true] rfl (subR rfl)⟩)
     clear S h;rintro a w7 ⟨c1,h,hk5,S⟩;rw [hj2] at h;clear hj2 j2
     refine En S rfl (Ra (S.tm rfl)) rfl fun a S=>Hk ?_
     replace S:=S.k6 0 4 8 9 10 20 rfl
     refine Tn (Fc h (S.tm rfl) (fun hb4 h=>?_) (fun hb4 h=>?_))
     ·refine Fr (Vk S rfl rfl fun a S=>Dl (wp_ret (Em (Em (Cx (Cx (Em ?_)))))))
      refine Cx (Cx ?_)
      obtain rfl:=Option.some.inj h
      exact Dx S results26 rfl rfl
     ·refine Fr (Vf ET S rfl rfl fun a S=>Vl isAgg3 0 S rfl rfl rfl rfl fun a S=>Dc S (fun _=>Cw (vs:=[iV y1.Time]) ⟨(S.tm rfl),trivial⟩ call53) (Pp _ y1.Time _ rfl) rfl ?_);clear S;intro v2 a w8 hv2 hk6 hn2 S
      subst hv2
      refine Vu S Hp rfl rfl fun a S=>Va S rfl rfl fun a S=>Dl (Fc h (S.tm rfl) (fun hb5 h=>?_) (fun hb5 h=>?_))
      ·refine Fr (Vk S rfl rfl fun a S=>Dl (wp_ret (Em (Em (Cx (Cx (Em ?_)))))))
       refine Cx (Cx ?_)
       obtain rfl:=Option.some.inj h
       exact Dx S results26 rfl rfl
      ·exact wp_skip (Gx (Gx (Tn (Fg (Vq S Ek rfl rfl rfl fun a S=>Vm S rfl rfl fun a S=>Dl (⟨ys1,⟨i1 + 1,⟨_,(hd1).trans (List.append_cons _ _ _),by simp [hi1]⟩,h,S.nf [false] rfl ⟨rfl,rfl,rfl,(congrArg (fun z=>some (Value.int .i64 z)) (Gc hd1 hi1 (Jk Ac))),trivial⟩⟩,Nat.lt_succ_self _⟩))))))
  clear S h;rintro a w2 ⟨h,S⟩;rw [hj1] at h;clear hj1 j1
  refine Tn (Fr (Vk S rfl rfl fun a S=>Dl (wp_ret ?_)))
  obtain rfl:=Option.some.inj h
  exact Dx S results26 rfl rfl
theorem Sw (w : World) (Ci : Value) (Bt : List Dn) (Cg : Slc (view w []) 3 Ci (Bt.map Dn.enc)) (r : Int) (h : Kh Bt = some r) :
    Calls prog 27 [Ci].toArray w (Ret w [] fun _ v _=>v = iV r):=by
 refine Fe func27 rfl ntmps27 rfl fun a S=>?_
 unfold Kh at h
 replace S:=S.k1 0 rfl
 refine Fr (Vk S rfl rfl fun a S=>Dl (Fs (Fr (Vm S rfl rfl fun a S=>lv S (Ee Tv (S.tm rfl) (Ej Cg)) rfl fun a S=>Vq S Ji rfl rfl rfl ?_))));clear S;intro a S
 refine Dl (Fc h (S.tm rfl) (fun hb1 h=>?_) (fun hb1 h=>?_))
 ·refine Fr (Vk S rfl rfl fun a S=>Dl (wp_ret (Cx ?_)))
  obtain rfl:=Option.some.inj h
  exact Dx S results27 rfl rfl
 ·refine wp_skip (Tn (Fs (Fr (Vm S rfl rfl fun a S=>lv S (Ee Tv (S.tm rfl) (Ej Cg)) rfl fun a S=>lv S (Rm rfl) rfl fun a S=>Dl ?_))))
  replace S:=S.k3 8 9 10 rfl
  obtain ⟨j1,hj1,h⟩:=Ec h
  refine Ds (fun a w'=>j1 = some r ∧ Sx w [] nov [] [] 29 a w') ?_ ?_
  ·refine wp_block (Fi (fun (ys1 : List Dn) a w'=>∃ i1 : Nat,(∃ dn,Bt = dn ++ ys1 ∧ dn.length = i1) ∧ Fq j1 ys1 i1 = some r ∧ Sx w [] nov [] [(8,Ci),(9,iV (Bt.length : Int)),(10,iV (i1 : Int))] 29 a w') List.length Bt ⟨0,⟨[],rfl,rfl⟩,h,S.nf [] rfl (subR rfl)⟩ ?_)
   clear S h;rintro ys1 a w1 ⟨i1,⟨dn,hd1,hi1⟩,h,S⟩
   cases ys1 with
   | nil =>
    rw [Fq.eq_1] at h
    refine Fr (Vb S Dt rfl rfl rfl fun a S=>Ld ?_)
    replace S:=S.k4 8 9 10 11 rfl
    exact Tn (Fs (wp_cond_false ((S.tm rfl).trans (congrArg Value.bool (Hq hd1 hi1))) (wp_exit (Dj (Dj (Fj (Tn (⟨h,S.nf [] rfl trivial⟩))))))))
   | cons y1 ys1 =>
    rw [Fq.eq_2] at h
    refine Fr (Vb S Dt rfl rfl rfl fun a S=>Ld ?_)
    replace S:=S.k4 8 9 10 11 rfl
    refine Tn (Fs (wp_cond_true ((S.tm rfl).trans (congrArg Value.bool (Gb hd1 hi1))) (wp_skip (Tn (Fs (wp_block (Fs (Fg ?_))))))))
    obtain ⟨b1,o1,hm1,hr1⟩:=Eb (a:=a) (x:=.tmp 8) (y:=.tmp 10) (ty:=0) Tv Cg (Hz hd1 hi1) rfl (S.tm rfl) (S.tm rfl)
    refine lv S (hr1 _) rfl ?_;clear S;intro a S
    clear hr1
    refine lv S (Fp isAgg52 sizeOf52 (off:=o1) (o:=0) (part:=(Dn.enc y1)) rfl rfl (S.tm rfl) (hm1.at S.emb0)) rfl fun a S=>It S zeroValue52 (cs:=[sV Cy,sV Cy,iV 0]) rfl rfl ?_;clear S;intro a w3 b2 hz1 hk1 S
    refine Gl S (S.tm rfl) (S.tm rfl) (i:=0) (off:=0) rfl sizeOf52 (vs:=(Dn.enc y1)) rfl rfl rfl rfl ?_;clear S;intro w4 hk2 S
    refine Dl (Fs (Fr (Vf St S rfl rfl fun a S=>Vl isAgg9 0 S rfl rfl rfl rfl ?_)));clear S;intro a S
    obtain ⟨r1,hr2,h⟩:=Eg h
    refine Dc S (fun _=>Cw (vs:=[sV y1.Race]) ⟨(S.tm rfl),trivial⟩ call52) (Ht _ y1.Race _ hr2) rfl ?_;clear S;intro v1 a w5 hv1 hk3 hn1 S
    subst hv1
    refine Vu S Hp rfl rfl fun a S=>Vm S rfl rfl ?_;clear S;intro a S
    obtain ⟨j2,hj2,h⟩:=Ec h
    refine Hw 5 (fun a w'=>∃ c1,j2 c1 = some r ∧ Keep [] w5 w' ∧ Sx w [] nov [.blk b2 (Dn.enc y1) 52] [(4,.pointer (some ⟨b2,0,none⟩)),(8,Ci),(9,iV (Bt.length : Int)),(10,iV (i1 : Int)),(23,bV c1)] 29 a w') ?_ ?_
    ·rcases Bool.eq_false_or_eq_true (!r1) with hb2 | hb2
     ·replace h:=Om h hb2
      iterate 4 (refine Gm S rfl rfl rfl (Md hb2) rfl ?_ rfl;clear S;intro a S)
      exact Vq S (Kt true hb2) rfl rfl rfl fun a S=>Dl (⟨_,h,Keep.refl _ _,S.nf [true] rfl (subR rfl)⟩)
     ·replace h:=On h hb2
      refine Cz S rfl rfl rfl hb2 (Vf Su S rfl rfl fun a S=>Cz S rfl rfl rfl hb2 (Vl isAgg9 0 S rfl rfl rfl rfl fun a S=>Cz S rfl rfl rfl hb2 ?_))
      obtain ⟨r2,hr3,h⟩:=Eg h
      refine Dc S (fun _=>Cw (vs:=[sV y1.Who]) ⟨(S.tm rfl),trivial⟩ call52) (Ht _ y1.Who _ hr3) rfl ?_;clear S;intro v2 a w7 hv2 hk4 hn2 S
      subst hv2
      exact Cz S rfl rfl rfl hb2 (Vu S Hp rfl rfl fun a S=>lv S (Ku hb2 (S.tm rfl) (S.tm rfl)) rfl fun a S=>Dl (⟨_,h,hk4,S.nf [true] rfl (subR rfl)⟩))
    clear S h;rintro a w6 ⟨c1,h,hk5,S⟩;rw [hj2] at h;clear hj2 j2
    refine Dl (Fc h (S.tm rfl) (fun hb3 h=>?_) (fun hb3 h=>?_))
    ·refine Fr (Vk S rfl rfl fun a S=>Dl (wp_ret (Cx (Em (Cx (Cx (Em ?_)))))))
     refine Cx (Cx ?_)
     obtain rfl:=Option.some.inj h
     exact Dx S results27 rfl rfl
    ·refine wp_skip (Tn (Fr (Vf Up S rfl rfl fun a S=>Vl isAgg3 0 S rfl rfl rfl rfl fun a S=>Dc S (fun _=>Cw (vs:=[iV y1.Time,iV 0,iV 360000]) ⟨(S.tm rfl),rfl,rfl,trivial⟩ call28) (El _ y1.Time 0 360000 _ rfl) rfl ?_)));clear S;intro v3 a w8 hv3 hk6 hn3 S
     subst hv3
     refine Vu S Hp rfl rfl fun a S=>Dl (Fc h (S.tm rfl) (fun hb4 h=>?_) (fun hb4 h=>?_))
     ·refine Fr (Vk S rfl rfl fun a S=>Dl (wp_ret (Em (Cx (Cx (Em (Cx ?_)))))))
      refine Cx ?_
      obtain rfl:=Option.some.inj h
      exact Dx S results27 rfl rfl
     ·exact wp_skip (Gx (Tn (Fg (Vq S Ek rfl rfl rfl fun a S=>Vm S rfl rfl fun a S=>Dl (⟨ys1,⟨i1 + 1,⟨_,(hd1).trans (List.append_cons _ _ _),by simp [hi1]⟩,h,S.nf [false] rfl ⟨rfl,rfl,(congrArg (fun z=>some (Value.int .i64 z)) (Gc hd1 hi1 (Jk Cg))),trivial⟩⟩,Nat.lt_succ_self _⟩)))))
  clear S h;rintro a w2 ⟨h,S⟩;rw [hj1] at h;clear hj1 j1
  refine Tn (Fr (Vk S rfl rfl fun a S=>Dl (wp_ret ?_)))
  obtain rfl:=Option.some.inj h
  exact Dx S results27 rfl rfl
theorem Sa (w : World) (Ab : Value) (Ad : List Jr) (Ac : Slc (view w []) 2 Ab (Ad.map Jr.enc)) (Bl : ByteArray) (r : Int) (h : Fy Ad Bl = r) :
    Calls prog 29 [Ab,sV Bl].toArray w (Ret w [] fun _ v _=>v = iV r):=by
 refine Fe func29 rfl ntmps29 rfl fun a S=>?_
 unfold Fy at h
 replace S:=S.k2 0 1 rfl
 refine Fr (Vk S rfl rfl fun a S=>Dl (Fs (Fr (Vm S rfl rfl fun a S=>lv S (Ee AH (S.tm rfl) (Ej Ac)) rfl fun a S=>lv S (Rm rfl) rfl ?_))));clear S;intro a S
 refine Dl ?_
 replace S:=S.k4 1 7 8 9 rfl
 obtain ⟨j1,hj1,h⟩:=Ec h
 refine Ds (fun a w'=>j1 = r ∧ Sx w [] nov [] [] 20 a w') ?_ ?_
 ·refine wp_block (Fi (fun (ys1 : List Jr) a w'=>∃ i1 : Nat,(∃ dn,Ad = dn ++ ys1 ∧ dn.length = i1) ∧ Ju Bl j1 ys1 i1 = r ∧ Sx w [] nov [] [(1,sV Bl),(7,Ab),(8,iV (Ad.length : Int)),(9,iV (i1 : Int))] 20 a w') List.length Ad ⟨0,⟨[],rfl,rfl⟩,h,S.nf [] rfl (subR rfl)⟩ ?_)
  clear S h;rintro ys1 a w1 ⟨i1,⟨dn,hd1,hi1⟩,h,S⟩
  cases ys1 with
  | nil =>
   rw [Ju.eq_1] at h
   refine Fr (Vb S Dt rfl rfl rfl fun a S=>Ld ?_)
   replace S:=S.k5 1 7 8 9 10 rfl
   exact Tn (Fs (wp_cond_false ((S.tm rfl).trans (congrArg Value.bool (Hq hd1 hi1))) (wp_exit (Dj (Dj (Fj (Tn (⟨h,S.nf [] rfl trivial⟩))))))))
  | cons y1 ys1 =>
   rw [Ju.eq_2] at h
   refine Fr (Vb S Dt rfl rfl rfl fun a S=>Ld ?_)
   replace S:=S.k5 1 7 8 9 10 rfl
   refine Tn (Fs (wp_cond_true ((S.tm rfl).trans (congrArg Value.bool (Gb hd1 hi1))) (wp_skip (Tn (Fs (wp_block (Fs (Fg ?_))))))))
   obtain ⟨b1,o1,hm1,hr1⟩:=Eb (a:=a) (x:=.tmp 7) (y:=.tmp 9) (ty:=0) AH Ac (Hz hd1 hi1) rfl (S.tm rfl) (S.tm rfl)
   refine lv S (hr1 _) rfl ?_;clear S;intro a S
   clear hr1
   refine lv S (Fp isAgg44 sizeOf44 (off:=o1) (o:=0) (part:=(Jr.enc y1)) rfl rfl (S.tm rfl) (hm1.at S.emb0)) rfl fun a S=>It S zeroValue44 (cs:=[sV Cy,iV 0]) rfl rfl ?_;clear S;intro a w3 b2 hz1 hk1 S
   refine Gl S (S.tm rfl) (S.tm rfl) (i:=0) (off:=0) rfl sizeOf44 (vs:=(Jr.enc y1)) rfl rfl rfl rfl ?_;clear S;intro w4 hk2 S
   refine Dz (Vf Yh S rfl rfl fun a S=>Vl isAgg9 0 S rfl rfl rfl rfl fun a S=>Vm S rfl rfl fun a S=>Vb S Uk rfl rfl rfl fun a S=>Dl (Fc h (S.tm rfl) (fun hb1 h=>?_) (fun hb1 h=>?_)))
   ·refine Fr (Vf ET S rfl rfl fun a S=>Vl isAgg3 0 S rfl rfl rfl rfl fun a S=>Va S rfl rfl fun a S=>Ld ?_)
    replace S:=S.n0.k1 4 rfl
    refine Tn (wp_ret (Em (Cx (Cx (Em (Cx (Cx ?_)))))))
    subst h
    exact Dx S results29 rfl rfl
   ·exact wp_skip (Gx (Tn (Fg (Vq S Ek rfl rfl rfl fun a S=>Vm S rfl rfl fun a S=>Dl (⟨ys1,⟨i1 + 1,⟨_,(hd1).trans (List.append_cons _ _ _),by simp [hi1]⟩,h,S.nf [false] rfl ⟨rfl,rfl,rfl,(congrArg (fun z=>some (Value.int .i64 z)) (Gc hd1 hi1 (Jk Ac))),trivial⟩⟩,Nat.lt_succ_self _⟩)))))
 clear S h;rintro a w2 ⟨h,S⟩;rw [hj1] at h;clear hj1 j1
 refine Tn (Fr (Vk S rfl rfl fun a S=>Dl (wp_ret ?_)))
 subst h
 exact Dx S results29 rfl rfl
theorem Zq (w : World) (Al : Int) (Aw : Int) (r : Int × Int) (h : Lu Al Aw = r) :
    Calls prog 54 [.int .u64 Al,.int .u64 Aw].toArray w (Ret w [] fun _ v _=>v = .tuple #[.int .u64 r.1,.int .u64 r.2]):=by
 refine Fe func54 rfl ntmps54 rfl fun a S=>?_
 unfold Lu at h
 replace S:=S.k2 0 1 rfl
 refine Fr (Vk S rfl rfl fun a S=>Vk S rfl rfl fun a S=>Dz (Vm S rfl rfl fun a S=>Vq S Vx rfl rfl rfl fun a S=>Va S rfl rfl ?_));clear S;intro a S
 refine Dz (Vm S rfl rfl fun a S=>lv S (Ox (S.tm rfl) rfl (by decide)) rfl fun a S=>Va S rfl rfl fun a S=>Dl (Fs (Fg ?_)))
 refine Vm S rfl rfl fun a S=>Vq S Vx rfl rfl rfl fun a S=>Va S rfl rfl fun a S=>Dz (Vm S rfl rfl fun a S=>lv S (Ox (S.tm rfl) rfl (by decide)) rfl fun a S=>Va S rfl rfl fun a S=>Ld ?_)
 replace S:=S.k6 0 1 6 7 8 9 rfl
 refine Tn (Fr (Vm S rfl rfl fun a S=>Vm S rfl rfl fun a S=>Vb S Ks rfl rfl rfl fun a S=>Va S rfl rfl fun a S=>Dl (Fs (Fg ?_))))
 refine Vm S rfl rfl fun a S=>Vm S rfl rfl fun a S=>Vb S Ks rfl rfl rfl fun a S=>Vm S rfl rfl fun a S=>lv S (Ox (S.tm rfl) rfl (by decide)) rfl fun a S=>Vb S Ow rfl rfl rfl fun a S=>Va S rfl rfl fun a S=>Ld ?_
 replace S:=S.k6 0 1 6 7 9 11 rfl
 refine Tn (Fr (Vm S rfl rfl fun a S=>Vq S Vx rfl rfl rfl fun a S=>Va S rfl rfl fun a S=>Dz (Vm S rfl rfl ?_)));clear S;intro a S
 refine lv S (Ox (S.tm rfl) rfl (by decide)) rfl fun a S=>Va S rfl rfl fun a S=>Dl (Fs (Fg ?_))
 iterate 3 (refine Vm S rfl rfl ?_;clear S;intro a S)
 refine Vb S Ks rfl rfl rfl fun a S=>Vb S Ow rfl rfl rfl fun a S=>Va S rfl rfl fun a S=>Ld ?_
 replace S:=S.k6 0 1 7 9 12 13 rfl
 refine Tn (Fr (Vm S rfl rfl fun a S=>Vm S rfl rfl fun a S=>Vb S Ks rfl rfl rfl fun a S=>Vm S rfl rfl fun a S=>Vb S Ow rfl rfl rfl fun a S=>Vm S rfl rfl fun a S=>lv S (Ox (S.tm rfl) rfl (by decide)) rfl fun a S=>Vb S Ow rfl rfl rfl ?_));clear S;intro a S
 refine Va S rfl rfl fun a S=>Ld ?_
 replace S:=S.k3 0 1 4 rfl
 refine Tn (Fr (Vm S rfl rfl fun a S=>Vm S rfl rfl fun a S=>Vb S Ks rfl rfl rfl fun a S=>Va S rfl rfl fun a S=>Dl (wp_ret ?_)))
 subst h
 exact Kj S results54 rfl rfl rfl
theorem Sy (w : World) (Al : Int) (r : Int) (h : Ny Al = some r) :
    Calls prog 82 [.int .u64 Al].toArray w (Ret w [] fun _ v _=>v = iV r):=by
 refine Fe func82 rfl ntmps82 rfl fun a S=>?_
 unfold Ny at h
 replace S:=S.k1 0 rfl
 refine Fr (Vk S rfl rfl fun a S=>Dz (Vm S rfl rfl ?_));clear S;intro a S
 obtain ⟨r1,hr1,h⟩:=Eg h
 refine Dc S (fun _=>Cw (vs:=[.int .u64 Al]) ⟨(S.tm rfl),trivial⟩ call75) (Ve _ Al _ hr1) rfl ?_;clear S;intro v1 a w1 hv1 hk1 hn1 S
 subst hv1
 refine Vu S (Jb rfl) rfl rfl fun a S=>Va S rfl rfl fun a S=>Dl (wp_ret ?_)
 obtain rfl:=Option.some.inj h
 exact Dx S results82 rfl rfl
set_option maxRecDepth 20000 in
theorem Zr (w : World) (Bp : Int) (Ar : Int) (Aw : Int) (r : Int × Int) (h : Qz Bp Ar Aw = some r) :
    Calls prog 55 [.int .u64 Bp,.int .u64 Ar,.int .u64 Aw].toArray w (Ret w [] fun _ v _=>v = .tuple #[.int .u64 r.1,.int .u64 r.2]):=by
 refine Fe func55 rfl ntmps55 rfl fun a S=>?_
 unfold Qz at h
 replace S:=S.k3 0 1 2 rfl
 refine Fr (Vk S rfl rfl fun a S=>Vk S rfl rfl fun a S=>Dl (Fs (Fr (Vm S rfl rfl fun a S=>Vq S Jz rfl rfl rfl ?_))));clear S;intro a S
 refine Dl (Fc h (S.tm rfl) (fun hb1 h=>?_) (fun hb1 h=>?_))
 ·cases h
 ·refine wp_skip (Tn (Fs (Fr (Vm S rfl rfl fun a S=>Vm S rfl rfl fun a S=>Vb S Sj rfl rfl rfl fun a S=>Dl (Fc h (S.tm rfl) (fun hb2 h=>?_) (fun hb2 h=>?_))))))
  ·cases h
  ·refine wp_skip (Tn (Fs (Fr (Vm S rfl rfl fun a S=>Vq S Jz rfl rfl rfl fun a S=>Dl (Fc h (S.tm rfl) (fun hb3 h=>?_) (fun hb3 h=>?_))))))
   ·refine Fs (Fw [] ([]) Tryz.mixed S rfl (by kernel_rfl) ?_);clear S;intro w1 hk1 hsel S
    refine Kc [0,1,2,3,4,5,6,7] hsel (by kernel_rfl) rfl ?_
    clear hsel
    refine En S rfl (Rm (S.tm rfl)) rfl fun a S=>En S rfl (Rm (S.tm rfl)) rfl ?_;clear S;intro a S
    obtain ⟨hc1,h⟩:=Hl h
    refine En S rfl (AW (S.tm rfl) (S.tm rfl) (Ro hc1)) rfl fun a S=>En S rfl (Rm (S.tm rfl)) rfl fun a S=>En S rfl (Rm (S.tm rfl)) rfl ?_;clear S;intro a S
    obtain ⟨hc2,h⟩:=Hl h
    refine En S rfl (rn_remk (S.tm rfl) (S.tm rfl) (Ro hc2)) rfl fun a S=>En S rfl (Ra (S.tm rfl)) rfl fun a S=>En S rfl (Ra (S.tm rfl)) rfl fun a S=>Hk ?_
    replace S:=S.k2 6 7 rfl
    refine Tn (wp_ret (Cx ?_))
    obtain rfl:=Option.some.inj h
    exact Kj S results55 rfl rfl rfl
   ·refine wp_skip (Tn (Fr (Vm S rfl rfl ?_)));clear S;intro a S
    obtain ⟨r1,hr1,h⟩:=Eg h
    refine Dc S (fun _=>Cw (vs:=[.int .u64 Aw]) ⟨(S.tm rfl),trivial⟩ call82) (Sy _ Aw _ hr1) rfl ?_;clear S;intro v1 a w2 hv1 hk2 hn1 S
    subst hv1
    refine Vu S (Og underlying3 underlying99) rfl rfl fun a S=>Va S rfl rfl fun a S=>Ld ?_
    replace S:=S.k4 0 1 2 8 rfl
    refine Tn (Fr (Vm S rfl rfl fun a S=>Vm S rfl rfl ?_));clear S;intro a S
    obtain ⟨hc3,h⟩:=Hl h
    refine lv S (DP (S.tm rfl) (S.tm rfl) (of_decide_eq_true hc3)) rfl fun a S=>Va S rfl rfl fun a S=>Dz (Vm S rfl rfl fun a S=>lv S (Ox (S.tm rfl) rfl (by decide)) rfl fun a S=>Va S rfl rfl fun a S=>Dl ?_)
    refine Fr (Vm S rfl rfl fun a S=>Vq S Vx rfl rfl rfl fun a S=>Va S rfl rfl fun a S=>Dz (Vm S rfl rfl fun a S=>Vm S rfl rfl ?_));clear S;intro a S
    obtain ⟨hc4,h⟩:=Hl h
    refine lv S (DP (S.tm rfl) (S.tm rfl) (of_decide_eq_true hc4)) rfl fun a S=>Vm S rfl rfl fun a S=>Vm S rfl rfl fun a S=>Vu S (Sk rfl) rfl rfl ?_;clear S;intro a S
    obtain ⟨hc5,h⟩:=Hl h
    refine lv S (Ox (S.tm rfl) (S.tm rfl) (of_decide_eq_true hc5)) rfl fun a S=>Vb S rn_or_ rfl rfl rfl fun a S=>Va S rfl rfl fun a S=>Ld ?_
    replace S:=S.k6 1 2 8 9 10 11 rfl
    refine Tn (Fr (Vm S rfl rfl fun a S=>Vm S rfl rfl ?_));clear S;intro a S
    obtain ⟨hc6,h⟩:=Hl h
    refine lv S (DP (S.tm rfl) (S.tm rfl) (of_decide_eq_true hc6)) rfl fun a S=>Va S rfl rfl fun a S=>Dz (Vm S rfl rfl fun a S=>lv S (Ox (S.tm rfl) rfl (by decide)) rfl fun a S=>Va S rfl rfl fun a S=>Dl ?_)
    refine Fr (Vm S rfl rfl fun a S=>Vq S Vx rfl rfl rfl fun a S=>Va S rfl rfl fun a S=>Ld ?_)
    replace S:=S.k7 2 8 9 10 11 13 14 rfl
    refine Tn (Fr (Vm S rfl rfl fun a S=>Vm S rfl rfl ?_));clear S;intro a S
    obtain ⟨hc7,h⟩:=Hl h
    refine lv S (AW (S.tm rfl) (S.tm rfl) (Ro hc7)) rfl fun a S=>Va S rfl rfl fun a S=>Dl (Fs (Fg ?_))
    iterate 3 (refine Vm S rfl rfl ?_;clear S;intro a S)
    refine Vb S Ks rfl rfl rfl fun a S=>Vb S Sk rfl rfl rfl fun a S=>Va S rfl rfl fun a S=>Ld ?_
    replace S:=S.k9 2 8 9 10 11 13 14 15 16 rfl
    refine Tn (Fs ?_)
    obtain ⟨j1,hj1,h⟩:=Ec h
    refine Ds (fun a w'=>∃ x1 : Int,j1 x1 = some r ∧ Sx w [] nov [] [(2,.int .u64 (Dp .u64 Aw (IntKind.wrap .u64 r1))),(8,.int .u64 (IntKind.wrap .u64 r1)),(9,.int .u64 (Dw .u64 (Dp .u64 Aw (IntKind.wrap .u64 r1)) 32)),(10,.int .u64 (Iv .u64 (Dp .u64 Aw (IntKind.wrap .u64 r1)) 4294967295)),(11,.int .u64 (Ni .u64 (Dp .u64 Bp (IntKind.wrap .u64 r1)) (Dw .u64 Ar (IntKind.wrap .u64 (64 - (IntKind.wrap .u64 r1)))))),(13,.int .u64 (Dw .u64 (Dp .u64 Ar (IntKind.wrap .u64 r1)) 32)),(14,.int .u64 (Iv .u64 (Dp .u64 Ar (IntKind.wrap .u64 r1)) 4294967295)),(15,.int .u64 x1)] 135 a w') ?_ ?_
    ·refine wp_block (Fi (fun (m1 : Nat) a w'=>∃ x1 : Int,∃ x2 : Int,Le Ar r1 Aw j1 m1 x1 x2 = some r ∧ Sx w [] nov [] [(2,.int .u64 (Dp .u64 Aw (IntKind.wrap .u64 r1))),(8,.int .u64 (IntKind.wrap .u64 r1)),(9,.int .u64 (Dw .u64 (Dp .u64 Aw (IntKind.wrap .u64 r1)) 32)),(10,.int .u64 (Iv .u64 (Dp .u64 Aw (IntKind.wrap .u64 r1)) 4294967295)),(11,.int .u64 (Ni .u64 (Dp .u64 Bp (IntKind.wrap .u64 r1)) (Dw .u64 Ar (IntKind.wrap .u64 (64 - (IntKind.wrap .u64 r1)))))),(13,.int .u64 (Dw .u64 (Dp .u64 Ar (IntKind.wrap .u64 r1)) 32)),(14,.int .u64 (Iv .u64 (Dp .u64 Ar (IntKind.wrap .u64 r1)) 4294967295)),(15,.int .u64 x1),(16,.int .u64 x2)] 135 a w') id (((IntKind.wrap .u64 (Int.tdiv (Ni .u64 (Dp .u64 Bp (IntKind.wrap .u64 r1)) (Dw .u64 Ar (IntKind.wrap .u64 (64 - (IntKind.wrap .u64 r1))))) (Dw .u64 (Dp .u64 Aw (IntKind.wrap .u64 r1)) 32))) - 4294967296).toNat + 2) ⟨IntKind.wrap .u64 (Int.tdiv (Ni .u64 (Dp .u64 Bp (IntKind.wrap .u64 r1)) (Dw .u64 Ar (IntKind.wrap .u64 (64 - (IntKind.wrap .u64 r1))))) (Dw .u64 (Dp .u64 Aw (IntKind.wrap .u64 r1)) 32)),IntKind.wrap .u64 ((Ni .u64 (Dp .u64 Bp (IntKind.wrap .u64 r1)) (Dw .u64 Ar (IntKind.wrap .u64 (64 - (IntKind.wrap .u64 r1))))) - (IntKind.wrap .u64 ((IntKind.wrap .u64 (Int.tdiv (Ni .u64 (Dp .u64 Bp (IntKind.wrap .u64 r1)) (Dw .u64 Ar (IntKind.wrap .u64 (64 - (IntKind.wrap .u64 r1))))) (Dw .u64 (Dp .u64 Aw (IntKind.wrap .u64 r1)) 32))) * (Dw .u64 (Dp .u64 Aw (IntKind.wrap .u64 r1)) 32)))),h,S.nf [] rfl (subR rfl)⟩ ?_)
     clear S h;rintro m1 a w3 ⟨x1,x2,h,S⟩
     cases m1 with
     | zero=>rw [Le.eq_1] at h;cases h
     | succ m1 =>
      rw [Le.eq_2] at h
      refine Fs (Fr (Vm S rfl rfl fun a S=>Vq S Nr rfl rfl rfl fun a S=>Vm S rfl rfl fun a S=>Hw 9 (fun a w'=>Keep [] w3 w' ∧ Sx w [] nov [] [(2,.int .u64 (Dp .u64 Aw (IntKind.wrap .u64 r1))),(8,.int .u64 (IntKind.wrap .u64 r1)),(9,.int .u64 (Dw .u64 (Dp .u64 Aw (IntKind.wrap .u64 r1)) 32)),(10,.int .u64 (Iv .u64 (Dp .u64 Aw (IntKind.wrap .u64 r1)) 4294967295)),(11,.int .u64 (Ni .u64 (Dp .u64 Bp (IntKind.wrap .u64 r1)) (Dw .u64 Ar (IntKind.wrap .u64 (64 - (IntKind.wrap .u64 r1)))))),(13,.int .u64 (Dw .u64 (Dp .u64 Ar (IntKind.wrap .u64 r1)) 32)),(14,.int .u64 (Iv .u64 (Dp .u64 Ar (IntKind.wrap .u64 r1)) 4294967295)),(15,.int .u64 x1),(16,.int .u64 x2),(78,bV ((decide (4294967296 ≤ x1)) || (decide ((IntKind.wrap .u64 ((IntKind.wrap .u64 (4294967296 * x2)) + (Dw .u64 (Dp .u64 Ar (IntKind.wrap .u64 r1)) 32))) < (IntKind.wrap .u64 (x1 * (Iv .u64 (Dp .u64 Aw (IntKind.wrap .u64 r1)) 4294967295)))))))] 135 a w') ?_ ?_))
      ·rcases Bool.eq_false_or_eq_true (decide (4294967296 ≤ x1)) with hb4 | hb4
       ·iterate 8 (refine Gm S rfl rfl rfl (Md hb4) rfl ?_ rfl;clear S;intro a S)
        exact lv S (Kt (decide ((IntKind.wrap .u64 ((IntKind.wrap .u64 (4294967296 * x2)) + (Dw .u64 (Dp .u64 Ar (IntKind.wrap .u64 r1)) 32))) < (IntKind.wrap .u64 (x1 * (Iv .u64 (Dp .u64 Aw (IntKind.wrap .u64 r1)) 4294967295))))) hb4 (S.tm rfl) rfl) rfl fun a S=>Dl (⟨Keep.refl _ _,S.nf [] rfl (subR rfl)⟩)
       ·refine Cz S rfl rfl rfl hb4 (Vm S rfl rfl fun a S=>Cz S rfl rfl rfl hb4 (Vm S rfl rfl fun a S=>Cz S rfl rfl rfl hb4 (Vb S Ks rfl rfl rfl fun a S=>Cz S rfl rfl rfl hb4 (Vm S rfl rfl fun a S=>Cz S rfl rfl rfl hb4 (Vu S (Ks rfl) rfl rfl fun a S=>Cz S rfl rfl rfl hb4 ?_)))))
        exact Vm S rfl rfl fun a S=>Cz S rfl rfl rfl hb4 (Vb S Ow rfl rfl rfl fun a S=>Cz S rfl rfl rfl hb4 (Vb S Ji rfl rfl rfl fun a S=>lv S (Ku hb4 (S.tm rfl) (S.tm rfl)) rfl fun a S=>Dl (⟨Keep.refl _ _,S.nf [] rfl (subR rfl)⟩)))
      clear S;rintro a w5 ⟨hk3,S⟩
      refine Dl (Fc h (S.tm rfl) (fun hb5 h=>?_) (fun hb5 h=>?_))
      ·refine wp_skip (Tn (wp_block (Fr (Vm S rfl rfl fun a S=>Vq S Sk rfl rfl rfl fun a S=>Va S rfl rfl fun a S=>Dl (Fs ?_)))))
       refine Fg (Vm S rfl rfl fun a S=>Vm S rfl rfl fun a S=>Vb S Ow rfl rfl rfl fun a S=>Va S rfl rfl fun a S=>Ld ?_)
       replace S:=S.k9 2 8 9 10 11 13 14 15 16 rfl
       refine Tn (Fr (Vm S rfl rfl fun a S=>Vq S Nr rfl rfl rfl fun a S=>Dl (Fc h (S.tm rfl) (fun hb6 h=>?_) (fun hb6 h=>?_))))
       ·exact wp_exit (EG rfl (Dj (Fj (Tn (⟨IntKind.wrap .u64 (x1 - 1),h,S.nf [] rfl (subR rfl)⟩)))))
       ·exact wp_skip (Gx (Tn (⟨m1,⟨IntKind.wrap .u64 (x1 - 1),IntKind.wrap .u64 (x2 + (Dw .u64 (Dp .u64 Aw (IntKind.wrap .u64 r1)) 32)),h,S.nf [] rfl ⟨rfl,rfl,rfl,rfl,rfl,rfl,rfl,rfl,rfl,trivial⟩⟩,Nat.lt_succ_self _⟩)))
      ·exact wp_exit (Dj (Dj (Fj (Tn (⟨x1,h,S.nf [] rfl (subR rfl)⟩)))))
    clear S h;rintro a w4 ⟨x1,h,S⟩;rw [hj1] at h;clear hj1 j1
    refine Tn (Fr (Vm S rfl rfl fun a S=>Vq S Ks rfl rfl rfl fun a S=>Vm S rfl rfl fun a S=>Vb S Ow rfl rfl rfl fun a S=>Vm S rfl rfl fun a S=>Vm S rfl rfl fun a S=>Vb S Ks rfl rfl rfl fun a S=>Vb S Sk rfl rfl rfl ?_));clear S;intro a S
    refine Va S rfl rfl fun a S=>Ld ?_
    replace S:=S.k7 2 8 9 10 14 15 17 rfl
    refine Tn (Fr (Vm S rfl rfl fun a S=>Vm S rfl rfl ?_));clear S;intro a S
    obtain ⟨hc8,h⟩:=Hl h
    refine lv S (AW (S.tm rfl) (S.tm rfl) (Ro hc8)) rfl fun a S=>Va S rfl rfl fun a S=>Dl (Fs (Fg ?_))
    iterate 3 (refine Vm S rfl rfl ?_;clear S;intro a S)
    refine Vb S Ks rfl rfl rfl fun a S=>Vb S Sk rfl rfl rfl fun a S=>Va S rfl rfl fun a S=>Ld ?_
    replace S:=S.k9 2 8 9 10 14 15 16 17 18 rfl
    refine Tn (Fs ?_)
    obtain ⟨j2,hj2,h⟩:=Ec h
    refine Ds (fun a w'=>∃ x4 : Int,j2 x4 = some r ∧ Sx w [] nov [] [(2,.int .u64 (Dp .u64 Aw (IntKind.wrap .u64 r1))),(8,.int .u64 (IntKind.wrap .u64 r1)),(14,.int .u64 (Iv .u64 (Dp .u64 Ar (IntKind.wrap .u64 r1)) 4294967295)),(15,.int .u64 x1),(17,.int .u64 (IntKind.wrap .u64 ((IntKind.wrap .u64 ((IntKind.wrap .u64 ((Ni .u64 (Dp .u64 Bp (IntKind.wrap .u64 r1)) (Dw .u64 Ar (IntKind.wrap .u64 (64 - (IntKind.wrap .u64 r1))))) * 4294967296)) + (Dw .u64 (Dp .u64 Ar (IntKind.wrap .u64 r1)) 32))) - (IntKind.wrap .u64 (x1 * (Dp .u64 Aw (IntKind.wrap .u64 r1))))))),(18,.int .u64 x4)] 135 a w') ?_ ?_
    ·refine wp_block (Fi (fun (m2 : Nat) a w'=>∃ x3 : Int,∃ x4 : Int,Lf Ar r1 Aw j2 m2 x3 x4 = some r ∧ Sx w [] nov [] [(2,.int .u64 (Dp .u64 Aw (IntKind.wrap .u64 r1))),(8,.int .u64 (IntKind.wrap .u64 r1)),(9,.int .u64 (Dw .u64 (Dp .u64 Aw (IntKind.wrap .u64 r1)) 32)),(10,.int .u64 (Iv .u64 (Dp .u64 Aw (IntKind.wrap .u64 r1)) 4294967295)),(14,.int .u64 (Iv .u64 (Dp .u64 Ar (IntKind.wrap .u64 r1)) 4294967295)),(15,.int .u64 x1),(16,.int .u64 x3),(17,.int .u64 (IntKind.wrap .u64 ((IntKind.wrap .u64 ((IntKind.wrap .u64 ((Ni .u64 (Dp .u64 Bp (IntKind.wrap .u64 r1)) (Dw .u64 Ar (IntKind.wrap .u64 (64 - (IntKind.wrap .u64 r1))))) * 4294967296)) + (Dw .u64 (Dp .u64 Ar (IntKind.wrap .u64 r1)) 32))) - (IntKind.wrap .u64 (x1 * (Dp .u64 Aw (IntKind.wrap .u64 r1))))))),(18,.int .u64 x4)] 135 a w') id (((IntKind.wrap .u64 (Int.tdiv (IntKind.wrap .u64 ((IntKind.wrap .u64 ((IntKind.wrap .u64 ((Ni .u64 (Dp .u64 Bp (IntKind.wrap .u64 r1)) (Dw .u64 Ar (IntKind.wrap .u64 (64 - (IntKind.wrap .u64 r1))))) * 4294967296)) + (Dw .u64 (Dp .u64 Ar (IntKind.wrap .u64 r1)) 32))) - (IntKind.wrap .u64 (x1 * (Dp .u64 Aw (IntKind.wrap .u64 r1)))))) (Dw .u64 (Dp .u64 Aw (IntKind.wrap .u64 r1)) 32))) - 4294967296).toNat + 2) ⟨IntKind.wrap .u64 ((IntKind.wrap .u64 ((IntKind.wrap .u64 ((IntKind.wrap .u64 ((Ni .u64 (Dp .u64 Bp (IntKind.wrap .u64 r1)) (Dw .u64 Ar (IntKind.wrap .u64 (64 - (IntKind.wrap .u64 r1))))) * 4294967296)) + (Dw .u64 (Dp .u64 Ar (IntKind.wrap .u64 r1)) 32))) - (IntKind.wrap .u64 (x1 * (Dp .u64 Aw (IntKind.wrap .u64 r1)))))) - (IntKind.wrap .u64 ((IntKind.wrap .u64 (Int.tdiv (IntKind.wrap .u64 ((IntKind.wrap .u64 ((IntKind.wrap .u64 ((Ni .u64 (Dp .u64 Bp (IntKind.wrap .u64 r1)) (Dw .u64 Ar (IntKind.wrap .u64 (64 - (IntKind.wrap .u64 r1))))) * 4294967296)) + (Dw .u64 (Dp .u64 Ar (IntKind.wrap .u64 r1)) 32))) - (IntKind.wrap .u64 (x1 * (Dp .u64 Aw (IntKind.wrap .u64 r1)))))) (Dw .u64 (Dp .u64 Aw (IntKind.wrap .u64 r1)) 32))) * (Dw .u64 (Dp .u64 Aw (IntKind.wrap .u64 r1)) 32)))),IntKind.wrap .u64 (Int.tdiv (IntKind.wrap .u64 ((IntKind.wrap .u64 ((IntKind.wrap .u64 ((Ni .u64 (Dp .u64 Bp (IntKind.wrap .u64 r1)) (Dw .u64 Ar (IntKind.wrap .u64 (64 - (IntKind.wrap .u64 r1))))) * 4294967296)) + (Dw .u64 (Dp .u64 Ar (IntKind.wrap .u64 r1)) 32))) - (IntKind.wrap .u64 (x1 * (Dp .u64 Aw (IntKind.wrap .u64 r1)))))) (Dw .u64 (Dp .u64 Aw (IntKind.wrap .u64 r1)) 32)),h,S.nf [] rfl (subR rfl)⟩ ?_)
     clear S h;rintro m2 a w6 ⟨x3,x4,h,S⟩
     cases m2 with
     | zero=>rw [Lf.eq_1] at h;cases h
     | succ m2 =>
      rw [Lf.eq_2] at h
      refine Fs (Fr (Vm S rfl rfl fun a S=>Vq S Nr rfl rfl rfl fun a S=>Vm S rfl rfl fun a S=>Hw 9 (fun a w'=>Keep [] w6 w' ∧ Sx w [] nov [] [(2,.int .u64 (Dp .u64 Aw (IntKind.wrap .u64 r1))),(8,.int .u64 (IntKind.wrap .u64 r1)),(9,.int .u64 (Dw .u64 (Dp .u64 Aw (IntKind.wrap .u64 r1)) 32)),(10,.int .u64 (Iv .u64 (Dp .u64 Aw (IntKind.wrap .u64 r1)) 4294967295)),(14,.int .u64 (Iv .u64 (Dp .u64 Ar (IntKind.wrap .u64 r1)) 4294967295)),(15,.int .u64 x1),(16,.int .u64 x3),(17,.int .u64 (IntKind.wrap .u64 ((IntKind.wrap .u64 ((IntKind.wrap .u64 ((Ni .u64 (Dp .u64 Bp (IntKind.wrap .u64 r1)) (Dw .u64 Ar (IntKind.wrap .u64 (64 - (IntKind.wrap .u64 r1))))) * 4294967296)) + (Dw .u64 (Dp .u64 Ar (IntKind.wrap .u64 r1)) 32))) - (IntKind.wrap .u64 (x1 * (Dp .u64 Aw (IntKind.wrap .u64 r1))))))),(18,.int .u64 x4),(113,bV ((decide (4294967296 ≤ x4)) || (decide ((IntKind.wrap .u64 ((IntKind.wrap .u64 (4294967296 * x3)) + (Iv .u64 (Dp .u64 Ar (IntKind.wrap .u64 r1)) 4294967295))) < (IntKind.wrap .u64 (x4 * (Iv .u64 (Dp .u64 Aw (IntKind.wrap .u64 r1)) 4294967295)))))))] 135 a w') ?_ ?_))
      ·rcases Bool.eq_false_or_eq_true (decide (4294967296 ≤ x4)) with hb7 | hb7
       ·iterate 8 (refine Gm S rfl rfl rfl (Md hb7) rfl ?_ rfl;clear S;intro a S)
        exact lv S (Kt (decide ((IntKind.wrap .u64 ((IntKind.wrap .u64 (4294967296 * x3)) + (Iv .u64 (Dp .u64 Ar (IntKind.wrap .u64 r1)) 4294967295))) < (IntKind.wrap .u64 (x4 * (Iv .u64 (Dp .u64 Aw (IntKind.wrap .u64 r1)) 4294967295))))) hb7 (S.tm rfl) rfl) rfl fun a S=>Dl (⟨Keep.refl _ _,S.nf [] rfl (subR rfl)⟩)
       ·refine Cz S rfl rfl rfl hb7 (Vm S rfl rfl fun a S=>Cz S rfl rfl rfl hb7 (Vm S rfl rfl fun a S=>Cz S rfl rfl rfl hb7 (Vb S Ks rfl rfl rfl fun a S=>Cz S rfl rfl rfl hb7 (Vm S rfl rfl fun a S=>Cz S rfl rfl rfl hb7 (Vu S (Ks rfl) rfl rfl fun a S=>Cz S rfl rfl rfl hb7 ?_)))))
        exact Vm S rfl rfl fun a S=>Cz S rfl rfl rfl hb7 (Vb S Ow rfl rfl rfl fun a S=>Cz S rfl rfl rfl hb7 (Vb S Ji rfl rfl rfl fun a S=>lv S (Ku hb7 (S.tm rfl) (S.tm rfl)) rfl fun a S=>Dl (⟨Keep.refl _ _,S.nf [] rfl (subR rfl)⟩)))
      clear S;rintro a w8 ⟨hk4,S⟩
      refine Dl (Fc h (S.tm rfl) (fun hb8 h=>?_) (fun hb8 h=>?_))
      ·refine wp_skip (Tn (wp_block (Fr (Vm S rfl rfl fun a S=>Vq S Sk rfl rfl rfl fun a S=>Va S rfl rfl fun a S=>Dl (Fs ?_)))))
       refine Fg (Vm S rfl rfl fun a S=>Vm S rfl rfl fun a S=>Vb S Ow rfl rfl rfl fun a S=>Va S rfl rfl fun a S=>Ld ?_)
       replace S:=S.k9 2 8 9 10 14 15 16 17 18 rfl
       refine Tn (Fr (Vm S rfl rfl fun a S=>Vq S Nr rfl rfl rfl fun a S=>Dl (Fc h (S.tm rfl) (fun hb9 h=>?_) (fun hb9 h=>?_))))
       ·exact wp_exit (EG rfl (Dj (Fj (Tn (⟨IntKind.wrap .u64 (x4 - 1),h,S.nf [] rfl (subR rfl)⟩)))))
       ·exact wp_skip (Gx (Tn (⟨m2,⟨IntKind.wrap .u64 (x3 + (Dw .u64 (Dp .u64 Aw (IntKind.wrap .u64 r1)) 32)),IntKind.wrap .u64 (x4 - 1),h,S.nf [] rfl ⟨rfl,rfl,rfl,rfl,rfl,rfl,rfl,rfl,rfl,trivial⟩⟩,Nat.lt_succ_self _⟩)))
      ·exact wp_exit (Dj (Dj (Fj (Tn (⟨x4,h,S.nf [] rfl (subR rfl)⟩)))))
    clear S h;rintro a w7 ⟨x4,h,S⟩;rw [hj2] at h;clear hj2 j2
    refine Tn (Fr (Vm S rfl rfl fun a S=>Vq S Ks rfl rfl rfl fun a S=>Vm S rfl rfl fun a S=>Vb S Ow rfl rfl rfl fun a S=>Vm S rfl rfl fun a S=>Vq S Ks rfl rfl rfl fun a S=>Vm S rfl rfl fun a S=>Vb S Ow rfl rfl rfl ?_));clear S;intro a S
    refine Vm S rfl rfl fun a S=>Vm S rfl rfl fun a S=>Vb S Ks rfl rfl rfl fun a S=>Vb S Sk rfl rfl rfl fun a S=>Vm S rfl rfl ?_;clear S;intro a S
    obtain ⟨hc9,h⟩:=Hl h
    refine lv S (Ox (S.tm rfl) (S.tm rfl) (of_decide_eq_true hc9)) rfl fun a S=>Va S rfl rfl fun a S=>Va S rfl rfl fun a S=>Ld ?_
    replace S:=S.k2 6 7 rfl
    refine Tn (wp_ret ?_)
    obtain rfl:=Option.some.inj h
    exact Kj S results55 rfl rfl rfl
theorem Sb (w : World) (Ba : Int) (Bf : Int) (r : Int) (h : Lg Ba Bf = some r) :
    Calls prog 30 [iV Ba,iV Bf].toArray w (Ret w [] fun _ v _=>v = iV r):=by
 refine Fe func30 rfl ntmps30 rfl fun a S=>?_
 unfold Lg at h
 replace S:=S.k2 0 1 rfl
 refine Fr (Vk S rfl rfl fun a S=>Dz (Vm S rfl rfl fun a S=>Vu S (Og underlying3 underlying111) rfl rfl fun a S=>Vm S rfl rfl fun a S=>Vu S (Og underlying3 underlying111) rfl rfl ?_));clear S;intro a S
 refine Va S rfl rfl fun a S=>Va S rfl rfl fun a S=>Dz (Vm S rfl rfl fun a S=>Vm S rfl rfl fun a S=>Vb S Ks rfl rfl rfl fun a S=>Vm S rfl rfl fun a S=>Vb S Ks rfl rfl rfl ?_);clear S;intro a S
 refine Dc S (fun _=>Cw (vs:=[.int .u64 (IntKind.wrap .u64 ((IntKind.wrap .u64 ((IntKind.wrap .u64 Ba) * (IntKind.wrap .u64 Ba))) * (IntKind.wrap .u64 Ba))),.int .u64 1000]) ⟨(S.tm rfl),rfl,trivial⟩ call54) (Zq _ (IntKind.wrap .u64 ((IntKind.wrap .u64 ((IntKind.wrap .u64 Ba) * (IntKind.wrap .u64 Ba))) * (IntKind.wrap .u64 Ba))) 1000 _ rfl) rfl ?_;clear S;intro v1 a w1 hv1 hk1 hn1 S
 subst hv1
 refine Vm S rfl rfl fun a S=>Vq S Er rfl rfl rfl fun a S=>Vq S Er rfl rfl rfl fun a S=>Va S rfl rfl fun a S=>Va S rfl rfl fun a S=>Ld ?_
 replace S:=S.k3 6 7 8 rfl
 refine Tn (Fr (Vm S rfl rfl fun a S=>Vm S rfl rfl fun a S=>Vb S Ks rfl rfl rfl fun a S=>Vm S rfl rfl fun a S=>Vb S Ks rfl rfl rfl fun a S=>Va S rfl rfl fun a S=>Dl ?_))
 refine Fs (Fr (Vm S rfl rfl fun a S=>Vm S rfl rfl fun a S=>Vb S Nr rfl rfl rfl fun a S=>Dl (Fc h (S.tm rfl) (fun hb1 h=>?_) (fun hb1 h=>?_))))
 ·refine Fr (Vk S rfl rfl fun a S=>Dl (wp_ret (Cx ?_)))
  obtain rfl:=Option.some.inj h
  exact Dx S results30 rfl rfl
 ·refine wp_skip (Tn (Fs (Fg ?_)))
  iterate 3 (refine Vm S rfl rfl ?_;clear S;intro a S)
  obtain ⟨r1,hr1,h⟩:=Eg h
  refine Dc S (fun _=>Cw (vs:=[.int .u64 ((Lu (IntKind.wrap .u64 ((IntKind.wrap .u64 ((IntKind.wrap .u64 Ba) * (IntKind.wrap .u64 Ba))) * (IntKind.wrap .u64 Ba))) 1000).1),.int .u64 ((Lu (IntKind.wrap .u64 ((IntKind.wrap .u64 ((IntKind.wrap .u64 Ba) * (IntKind.wrap .u64 Ba))) * (IntKind.wrap .u64 Ba))) 1000).2),.int .u64 (IntKind.wrap .u64 ((IntKind.wrap .u64 ((IntKind.wrap .u64 Bf) * (IntKind.wrap .u64 Bf))) * (IntKind.wrap .u64 Bf)))]) ⟨(S.tm rfl),(S.tm rfl),(S.tm rfl),trivial⟩ call55) (Zr _ ((Lu (IntKind.wrap .u64 ((IntKind.wrap .u64 ((IntKind.wrap .u64 Ba) * (IntKind.wrap .u64 Ba))) * (IntKind.wrap .u64 Ba))) 1000).1) ((Lu (IntKind.wrap .u64 ((IntKind.wrap .u64 ((IntKind.wrap .u64 Ba) * (IntKind.wrap .u64 Ba))) * (IntKind.wrap .u64 Ba))) 1000).2) (IntKind.wrap .u64 ((IntKind.wrap .u64 ((IntKind.wrap .u64 Bf) * (IntKind.wrap .u64 Bf))) * (IntKind.wrap .u64 Bf))) _ hr1) rfl ?_;clear S;intro v2 a w2 hv2 hk2 hn2 S
  subst hv2
  refine Vm S rfl rfl fun a S=>Vq S Er rfl rfl rfl fun a S=>Vq S Er rfl rfl rfl fun a S=>Va S rfl rfl fun a S=>Va S rfl rfl fun a S=>Ld ?_
  replace S:=S.k1 9 rfl
  refine Tn (Fr (Vm S rfl rfl fun a S=>Vq S EF rfl rfl rfl fun a S=>Vu S (Og underlying111 underlying3) rfl rfl fun a S=>Va S rfl rfl fun a S=>Dl (wp_ret ?_)))
  obtain rfl:=Option.some.inj h
  exact Dx S results30 rfl rfl
theorem Uw (w : World) (Ag : Int) (Ah : Int) (r : Int) (h : Jj Ag Ah = r) :
    Calls prog 32 [iV Ag,iV Ah].toArray w (Ret w [] fun _ v _=>v = iV r):=by
 refine Fe func32 rfl ntmps32 rfl fun a S=>?_
 unfold Jj at h
 replace S:=S.k2 0 1 rfl
 refine Fr (Vk S rfl rfl fun a S=>Dz (Vm S rfl rfl fun a S=>Vm S rfl rfl fun a S=>Vb S Jb rfl rfl rfl fun a S=>Va S rfl rfl ?_));clear S;intro a S
 refine Dl (wp_ret ?_)
 subst h
 exact Dx S results32 rfl rfl
set_option maxRecDepth 20000 in
theorem Ln (w : World) (Aa : Value) (Ai : List Int) (Bc : (LEnt.own Aa 3 1 Ai.length (Ai.flatMap eInt)).holds w) (Ag : Int) (Ah : Int) (r : (List Int)) (h : Eu Ai Ag Ah = some r) :
    Calls prog 83 [Aa,iV Ag,iV Ah,.func (.func 32) #[] #[]].toArray w (Ret w (Aa.ownBlock.toList) fun _ v w'=>(LEnt.own Aa 3 1 r.length (r.flatMap eInt)).holds w' ∧ v = .tuple #[]):=by
 refine Kv (Aa.ownBlock.toList) [.own Aa 3 1 Ai.length (Ai.flatMap eInt)] func83 rfl ntmps83 rfl (fun e he=>by simp only [List.mem_singleton] at he;subst he;exact Bc) (Kb _) (Lc _) fun a S=>?_
 unfold Eu at h
 replace S:=(S.nl [.own Aa 3 1 Ai.length (Ai.flatMap eInt)] [true] rfl).k4 0 1 2 3 rfl
 refine Fr (Vm S rfl rfl fun a S=>Vq S Ek rfl rfl rfl fun a S=>Va S rfl rfl fun a S=>Dl ?_)
 replace S:=S.k5 0 1 2 3 8 rfl
 obtain ⟨j1,hj1,h⟩:=Ec h
 refine Ds (fun a w'=>∃ x1 : List Int,j1 x1 = some r ∧ Sx w (Aa.ownBlock.toList) nov [.own Aa 3 1 x1.length (x1.flatMap eInt)] [] 53 a w') ?_ ?_
 ·refine wp_block (Fi (fun (m1 : Nat) a w'=>∃ x1 : List Int,∃ x2 : Int,Di Ah Ag j1 m1 x1 x2 = some r ∧ Sx w (Aa.ownBlock.toList) nov [.own Aa 3 1 x1.length (x1.flatMap eInt)] [(0,Aa),(1,iV Ag),(2,iV Ah),(3,.func (.func 32) #[] #[]),(8,iV x2)] 53 a w') id ((Ah - (W (Ag + 1))).toNat + 2) ⟨Ai,W (Ag + 1),h,S.nf [true] rfl (subR rfl)⟩ ?_)
  clear S h;rintro m1 a w1 ⟨x1,x2,h,S⟩
  cases m1 with
  | zero=>rw [Di.eq_1] at h;cases h
  | succ m1 =>
   rw [Di.eq_2] at h
   refine Fs (Fr (Vm S rfl rfl fun a S=>Vm S rfl rfl fun a S=>Vb S Dt rfl rfl rfl fun a S=>Dl (Fc h (S.tm rfl) (fun hb1 h=>?_) (fun hb1 h=>?_))))
   ·refine wp_skip (Tn (Fs (wp_block (Fr (Vm S rfl rfl fun a S=>Va S rfl rfl fun a S=>Dl ?_)))))
    replace S:=S.k6 0 1 2 3 8 9 rfl
    obtain ⟨j2,hj2,h⟩:=Ec h
    refine Ds (fun a w'=>∃ x3 : List Int,j2 x3 = some r ∧ Sx w (Aa.ownBlock.toList) nov [.own Aa 3 1 x3.length (x3.flatMap eInt)] [(0,Aa),(1,iV Ag),(2,iV Ah),(3,.func (.func 32) #[] #[]),(8,iV x2)] 53 a w') ?_ ?_
    ·refine wp_block (Fi (fun (m2 : Nat) a w'=>∃ x3 : List Int,∃ x4 : Int,Df Ag j2 m2 x3 x4 = some r ∧ Sx w (Aa.ownBlock.toList) nov [.own Aa 3 1 x3.length (x3.flatMap eInt)] [(0,Aa),(1,iV Ag),(2,iV Ah),(3,.func (.func 32) #[] #[]),(8,iV x2),(9,iV x4)] 53 a w') id ((x2 - Ag).toNat + 2) ⟨x1,x2,h,S.nf [true] rfl (subR rfl)⟩ ?_)
     clear S h;rintro m2 a w3 ⟨x3,x4,h,S⟩
     cases m2 with
     | zero=>rw [Df.eq_1] at h;cases h
     | succ m2 =>
      rw [Df.eq_2] at h
      refine Fs (Fs ?_)
      obtain ⟨j3,hj3,h⟩:=Ec h
      refine Ds (fun a w'=>∃ x5 : Bool,j3 x5 = some r ∧ Sx w (Aa.ownBlock.toList) nov [.own Aa 3 1 x3.length (x3.flatMap eInt)] [(0,Aa),(1,iV Ag),(2,iV Ah),(3,.func (.func 32) #[] #[]),(8,iV x2),(9,iV x4),(34,bV x5)] 53 a w') ?_ ?_
      ·rcases Bool.eq_false_or_eq_true (decide (Ag < x4)) with hb2 | hb2
       ·replace h:=Om h hb2
        obtain ⟨hc1,h⟩:=Hl h
        obtain ⟨hc2,h⟩:=Hl h
        refine Fw [] ([]) Tryz.mixed S rfl (by kernel_rfl) ?_;clear S;intro w7 hk2 hsel S
        refine Dk 0 S hsel rfl rfl rfl (by kernel_rfl) (by kernel_rfl) rfl (fun _ hw=>(Rm (S.tm rfl))) fun a S=>Dk 1 S hsel rfl rfl rfl (by kernel_rfl) (by kernel_rfl) rfl (fun _ hw=>(Rm (S.tm rfl))) fun a S=>Dk 2 S hsel rfl rfl rfl (by kernel_rfl) (by kernel_rfl) rfl (fun _ hw=>(Ji (S.tm rfl) (S.tm rfl))) fun a S=>Dk 3 S hsel rfl rfl rfl (by kernel_rfl) (by kernel_rfl) rfl (fun _ hw=>(Rm (S.tm rfl))) fun a S=>Dy 4 S hsel rfl rfl rfl rfl hb2 rfl rfl (by kernel_rfl) (by kernel_rfl) rfl (fun _ hw=>(Rm (S.tm rfl))) fun a S=>Dy 5 S hsel rfl rfl rfl rfl hb2 rfl rfl (by kernel_rfl) (by kernel_rfl) rfl (fun _ hw=>(Rm (S.tm rfl))) fun a S=>Dy 6 S hsel rfl rfl rfl rfl hb2 rfl rfl (by kernel_rfl) (by kernel_rfl) rfl (fun _ hw=>(Rm (S.tm rfl))) ?_;clear S;intro a S
        obtain ⟨b3,hg3,hr3⟩:=Gf (a:=a) (x:=.tmp 23) (y:=.tmp 24) (ty:=0) Ka Hj S (i:=0) rfl (Db hc1).1 (Db hc1).2 (S.tm rfl) (S.tm rfl)
        refine Dy 7 S hsel rfl rfl rfl rfl hb2 rfl rfl (by kernel_rfl) (by kernel_rfl) rfl (fun _ hw=>(hr3 _)) ?_;clear S;intro a S
        clear hr3
        refine Dy 8 S hsel rfl rfl rfl rfl hb2 rfl rfl (by kernel_rfl) (by kernel_rfl) rfl (fun _ hw=>(Gk isAgg3 (off:=x4.toNat * 1) (o:=0) (S.tm rfl) ((Oj Hj S (i:=0) rfl hg3 (Db hc1).1 (Gn (e':=.own Aa 3 1 x3.length (x3.flatMap eInt)))).kept hw) rfl)) fun a S=>Dy 9 S hsel rfl rfl rfl rfl hb2 rfl rfl (by kernel_rfl) (by kernel_rfl) rfl (fun _ hw=>(Rm (S.tm rfl))) fun a S=>Dy 10 S hsel rfl rfl rfl rfl hb2 rfl rfl (by kernel_rfl) (by kernel_rfl) rfl (fun _ hw=>(Rm (S.tm rfl))) fun a S=>Dy 11 S hsel rfl rfl rfl rfl hb2 rfl rfl (by kernel_rfl) (by kernel_rfl) rfl (fun _ hw=>(Jb (S.tm rfl) rfl)) ?_;clear S;intro a S
        obtain ⟨b4,hg4,hr4⟩:=Gf (a:=a) (x:=.tmp 27) (y:=.tmp 29) (ty:=0) Ka Hj S (i:=0) rfl (Db hc2).1 (Db hc2).2 (S.tm rfl) (S.tm rfl)
        refine Dy 12 S hsel rfl rfl rfl rfl hb2 rfl rfl (by kernel_rfl) (by kernel_rfl) rfl (fun _ hw=>(hr4 _)) ?_;clear S;intro a S
        clear hr4
        refine Dy 13 S hsel rfl rfl rfl rfl hb2 rfl rfl (by kernel_rfl) (by kernel_rfl) rfl (fun _ hw=>(Gk isAgg3 (off:=((W (x4 - 1)).toNat) * 1) (o:=0) (S.tm rfl) ((Oj Hj S (i:=0) rfl hg4 (Db hc2).1 (Gn (e':=.own Aa 3 1 x3.length (x3.flatMap eInt)))).kept hw) rfl)) fun a S=>Ex 14 (by kernel_rfl) rfl (Cz S rfl rfl rfl hb2 (Dc S (fun _=>Oq (cap:=[]) (S.tm rfl) (vs:=[iV (nth x3 x4),iV (nth x3 (W (x4 - 1)))]) ⟨(S.tm rfl),(S.tm rfl),trivial⟩ call32) (Uw _ (nth x3 x4) (nth x3 (W (x4 - 1))) _ rfl) rfl ?_));clear S;intro v2 a w8 hv2 hk3 hn2 S
        subst hv2
        refine Ld (Fx hk3 (Kc [15,16] hsel (by kernel_rfl) rfl ?_))
        clear hsel
        refine Ef S rfl rfl rfl rfl hb2 (Fa S (Dt (S.tm rfl) rfl) rfl fun a S=>En S rfl (Ot hb2 (S.tm rfl) (S.tm rfl)) rfl fun a S=>Hk ?_)
        replace S:=S.nk [.own Aa 3 1 x3.length (x3.flatMap eInt)] [(0,Aa),(1,iV Ag),(2,iV Ah),(3,.func (.func 32) #[] #[]),(8,iV x2),(9,iV x4),(22,.func (.func 32) #[] #[]),(23,Aa),(24,iV x4),(25,.pointer (some ⟨b3,x4.toNat * 1,none⟩)),(26,iV (nth x3 x4)),(27,Aa),(28,iV x4),(29,iV (W (x4 - 1))),(30,.pointer (some ⟨b4,((W (x4 - 1)).toNat) * 1,none⟩)),(31,iV (nth x3 (W (x4 - 1)))),(32,iV (Jj (nth x3 x4) (nth x3 (W (x4 - 1))))),(33,bV (decide ((Jj (nth x3 x4) (nth x3 (W (x4 - 1)))) < 0))),(34,bV (decide ((Jj (nth x3 x4) (nth x3 (W (x4 - 1)))) < 0)))] [true] rfl (subR rfl)
        exact Tn (⟨decide ((Jj (nth x3 x4) (nth x3 (W (x4 - 1)))) < 0),h,S.nf [true] rfl (subR rfl)⟩)
       ·replace h:=On h hb2
        refine Fw [] ([]) Tryz.mixed S rfl (by kernel_rfl) ?_;clear S;intro w9 hk4 hsel S
        refine Kc [0,1,2,3,4,5,6,7,8,9,10,11,12,13,14,15,16] hsel (by kernel_rfl) rfl ?_
        clear hsel
        refine En S rfl (Rm (S.tm rfl)) rfl fun a S=>En S rfl (Rm (S.tm rfl)) rfl fun a S=>En S rfl (Ji (S.tm rfl) (S.tm rfl)) rfl fun a S=>En S rfl (Rm (S.tm rfl)) rfl ?_;clear S;intro a S
        iterate 12 (refine Nx S rfl rfl rfl rfl (Jt hb2) rfl ?_ rfl;clear S;intro a S)
        refine En S rfl (Ou hb2 (S.tm rfl) rfl) rfl fun a S=>Hk ?_
        replace S:=S.k7 0 1 2 3 8 9 34 rfl
        exact Tn (⟨false,h,S.nf [true] rfl (subR rfl)⟩)
      clear S h;rintro a w5 ⟨x5,h,S⟩;rw [hj3] at h;clear hj3 j3
      refine Tn (Fc h (S.tm rfl) (fun hb3 h=>?_) (fun hb3 h=>?_))
      ·refine wp_skip (Tn (Fs (wp_block ?_)))
       obtain ⟨hc3,h⟩:=Hl h
       obtain ⟨hc4,h⟩:=Hl h
       obtain ⟨hc5,h⟩:=Hl h
       obtain ⟨hc6,h⟩:=Hl h
       refine Fw [15,17] ([]) Tryz.mixed S rfl (by kernel_rfl) ?_;clear S;intro w14 hk9 hsel S
       refine Fd 0 S hsel rfl rfl (by kernel_rfl) (by kernel_rfl) rfl (fun _=>(Rm (S.tm rfl))) fun a S=>Fd 1 S hsel rfl rfl (by kernel_rfl) (by kernel_rfl) rfl (fun _=>(Rm (S.tm rfl))) fun a S=>Fd 2 S hsel rfl rfl (by kernel_rfl) (by kernel_rfl) rfl (fun _=>(Rm (S.tm rfl))) fun a S=>Fd 3 S hsel rfl rfl (by kernel_rfl) (by kernel_rfl) rfl (fun _=>(Rm (S.tm rfl))) fun a S=>Fd 4 S hsel rfl rfl (by kernel_rfl) (by kernel_rfl) rfl (fun _=>(Jb (S.tm rfl) rfl)) fun a S=>Fd 5 S hsel rfl rfl (by kernel_rfl) (by kernel_rfl) rfl (fun _=>(Rm (S.tm rfl))) fun a S=>Fd 6 S hsel rfl rfl (by kernel_rfl) (by kernel_rfl) rfl (fun _=>(Rm (S.tm rfl))) fun a S=>Fd 7 S hsel rfl rfl (by kernel_rfl) (by kernel_rfl) rfl (fun _=>(Jb (S.tm rfl) rfl)) ?_;clear S;intro a S
       obtain ⟨b9,hg9,hr9⟩:=Gf (a:=a) (x:=.tmp 42) (y:=.tmp 44) (ty:=0) Ka Hj S (i:=0) rfl (Db hc3).1 (Db hc3).2 (S.tm rfl) (S.tm rfl)
       refine Fd 8 S hsel rfl rfl (by kernel_rfl) (by kernel_rfl) rfl (fun _=>(hr9 _)) ?_;clear S;intro a S
       clear hr9
       refine Dk 9 S hsel rfl (by kernel_rfl) (by kernel_rfl) (by kernel_rfl) (by kernel_rfl) rfl (fun _ hw=>(Gk isAgg3 (off:=((W (x4 - 1)).toNat) * 1) (o:=0) (S.tm rfl) ((Oj Hj S (i:=0) rfl hg9 (Db hc3).1 (Gn (e':=.own Aa 3 1 x3.length (x3.flatMap eInt)))).kept hw) rfl)) fun a S=>Fd 10 S hsel rfl rfl (by kernel_rfl) (by kernel_rfl) rfl (fun _=>(Rm (S.tm rfl))) fun a S=>Fd 11 S hsel rfl rfl (by kernel_rfl) (by kernel_rfl) rfl (fun _=>(Rm (S.tm rfl))) ?_;clear S;intro a S
       obtain ⟨b10,hg10,hr10⟩:=Gf (a:=a) (x:=.tmp 47) (y:=.tmp 48) (ty:=0) Ka Hj S (i:=0) rfl (Db hc4).1 (Db hc4).2 (S.tm rfl) (S.tm rfl)
       refine Fd 12 S hsel rfl rfl (by kernel_rfl) (by kernel_rfl) rfl (fun _=>(hr10 _)) ?_;clear S;intro a S
       clear hr10
       refine Dk 13 S hsel rfl (by kernel_rfl) (by kernel_rfl) (by kernel_rfl) (by kernel_rfl) rfl (fun _ hw=>(Gk isAgg3 (off:=x4.toNat * 1) (o:=0) (S.tm rfl) ((Oj Hj S (i:=0) rfl hg10 (Db hc4).1 (Gn (e':=.own Aa 3 1 x3.length (x3.flatMap eInt)))).kept hw) rfl)) ?_;clear S;intro a S
       obtain ⟨b11,hg11,hr11⟩:=Gf (a:=a) (x:=.tmp 37) (y:=.tmp 38) (ty:=0) Ka Hj S (i:=0) rfl (Db hc5).1 (Db hc5).2 (S.tm rfl) (S.tm rfl)
       refine Fd 14 S hsel rfl rfl (by kernel_rfl) (by kernel_rfl) rfl (fun _=>(hr11 _)) ?_;clear S;intro a S
       clear hr11
       refine Qk 15 (Aa.ownBlock.toList) rfl (by kernel_rfl) rfl (Oc (c:=0) (j:=x4.toNat) (nth x3 (W (x4 - 1))) Hj S (S.tm rfl) (S.tm rfl) (i:=0) rfl hg11 (Db hc5).1 sizeOf3 (vs:=[iV (nth x3 (W (x4 - 1)))]) rfl rfl rfl rfl rfl ?_);clear S;intro w16 hk11 S
       refine Ld (Ql ?_)
       obtain ⟨b12,hg12,hr12⟩:=Gf (a:=a) (x:=.tmp 39) (y:=.tmp 41) (ty:=0) Ka Hj S (i:=0) rfl (Db hc6).1 (Db hc6).2 (S.tm rfl) (S.tm rfl)
       refine Dk 16 S hsel rfl rfl rfl (by kernel_rfl) (by kernel_rfl) rfl (fun _ hw=>(hr12 _)) ?_;clear S;intro a S
       clear hr12
       refine Ex 17 (by kernel_rfl) rfl (Oc (c:=0) (j:=(W (x4 - 1)).toNat) (nth x3 x4) Hj S (S.tm rfl) (S.tm rfl) (i:=0) rfl hg12 (Db hc6).1 sizeOf3 (vs:=[iV (nth x3 x4)]) rfl rfl rfl rfl rfl ?_);clear S;intro w18 hk13 S
       refine Ld (Fx hk13 (Tl (by kernel_rfl) ?_))
       clear hsel
       replace S:=(S.nl [.own Aa 3 1 ((x3.set x4.toNat (nth x3 (W (x4 - 1)))).set ((W (x4 - 1)).toNat) (nth x3 x4)).length (((x3.set x4.toNat (nth x3 (W (x4 - 1)))).set ((W (x4 - 1)).toNat) (nth x3 x4)).flatMap eInt)] [true] rfl).k6 0 1 2 3 8 9 rfl
       exact Gx (Tn (Fg (Vm S rfl rfl fun a S=>Vq S Jb rfl rfl rfl fun a S=>Va S rfl rfl fun a S=>Dl (⟨m2,⟨((x3.set x4.toNat (nth x3 (W (x4 - 1)))).set ((W (x4 - 1)).toNat) (nth x3 x4)),W (x4 - 1),h,S.nf [true] rfl ⟨rfl,rfl,rfl,rfl,rfl,rfl,trivial⟩⟩,Nat.lt_succ_self _⟩))))
      ·exact wp_exit (Dj (Dj (Fj (Tn (⟨x3,h,S.nf [true] rfl (subR rfl)⟩)))))
    clear S h;rintro a w4 ⟨x3,h,S⟩;rw [hj2] at h;clear hj2 j2
    exact Gx (Tn (Fg (Vm S rfl rfl fun a S=>Vq S Ek rfl rfl rfl fun a S=>Va S rfl rfl fun a S=>Dl (⟨m1,⟨x3,W (x2 + 1),h,S.nf [true] rfl ⟨rfl,rfl,rfl,rfl,rfl,trivial⟩⟩,Nat.lt_succ_self _⟩))))
   ·exact wp_exit (Dj (Dj (Fj (Tn (⟨x1,h,S.nf [true] rfl trivial⟩)))))
 clear S h;rintro a w2 ⟨x1,h,S⟩;rw [hj1] at h;clear hj1 j1
 obtain rfl:=Option.some.inj h
 exact Rp S results83 ⟨(S.holds _ (List.mem_of_getElem? (i:=0) rfl)),rfl⟩
theorem Mu (w : World) (Aa : Value) (Ai : List Int) (Bc : (LEnt.own Aa 3 1 Ai.length (Ai.flatMap eInt)).holds w) (Ag : Int) (Ah : Int) (Bh : Int) (r : (List Int)) (h : Gt Ai Ag Ah Bh = some r) :
    Calls prog 56 [Aa,iV Ag,iV Ah,iV Bh,.func (.func 32) #[] #[]].toArray w (Ret w (Aa.ownBlock.toList) fun _ v w'=>(LEnt.own Aa 3 1 r.length (r.flatMap eInt)).holds w' ∧ v = .tuple #[]):=by
 refine Kv (Aa.ownBlock.toList) [.own Aa 3 1 Ai.length (Ai.flatMap eInt)] func56 rfl ntmps56 rfl (fun e he=>by simp only [List.mem_singleton] at he;subst he;exact Bc) (Kb _) (Lc _) fun a S=>?_
 unfold Gt at h
 replace S:=(S.nl [.own Aa 3 1 Ai.length (Ai.flatMap eInt)] [true] rfl).k5 0 1 2 3 4 rfl
 refine Fr (Vk S rfl rfl fun a S=>Dz (Vk S rfl rfl fun a S=>Dl ?_))
 replace S:=S.k6 0 1 2 3 4 10 rfl
 refine Ds (fun a w'=>False) ?_ ?_
 ·refine wp_block (Fi (fun (m1 : Nat) a w'=>∃ x1 : Int,∃ x2 : Int,∃ x3 : Int,∃ x4 : Bool,Dv Ai m1 x1 x2 x3 x4 = some r ∧ Sx w (Aa.ownBlock.toList) nov [.own Aa 3 1 Ai.length (Ai.flatMap eInt)] [(0,Aa),(1,iV x1),(2,iV x2),(3,iV x3),(4,.func (.func 32) #[] #[]),(10,bV x4)] 148 a w') id 4611686018427387904 ⟨Ag,Ah,Bh,true,h,S.nf [true] rfl (subR rfl)⟩ ?_)
  clear S h;rintro m1 a w1 ⟨x1,x2,x3,x4,h,S⟩
  cases m1 with
  | zero=>rw [Dv.eq_1] at h;cases h
  | succ m1 =>
   rw [Dv.eq_2] at h
   refine wp_block (Fr (Vm S rfl rfl fun a S=>Vm S rfl rfl fun a S=>Vb S Jb rfl rfl rfl fun a S=>Va S rfl rfl fun a S=>Dl (Fs (Fs ?_))))
   refine Fg (Vm S rfl rfl fun a S=>Vq S Sj rfl rfl rfl fun a S=>Dl (Fc h (S.tm rfl) (fun hb1 h=>?_) (fun hb1 h=>?_)))
   ·refine Fs (Fg ?_)
    iterate 4 (refine Vm S rfl rfl ?_;clear S;intro a S)
    obtain ⟨r1,hr1,h⟩:=Eg h
    refine Nl 0 S rfl (fun _=>.own Aa 3 1 r1.length (r1.flatMap eInt)) (fun _=>Cw (vs:=[Aa,iV x1,iV x2,.func (.func 32) #[] #[]]) ⟨(S.tm rfl),(S.tm rfl),(S.tm rfl),(S.tm rfl),trivial⟩ call83) (Ln _ Aa Ai (S.holds _ (List.mem_of_getElem? (i:=0) rfl)) x1 x2 _ hr1) rfl (fun _ _ _ h=>⟨h.1,fun _ hc=>hc⟩) ?_;clear S;intro v1 a w3 hv1 hk1 hn1 S
    replace hv1:=hv1.2
    subst hv1
    refine Ld ?_
    replace S:=(S.nl [.own Aa 3 1 r1.length (r1.flatMap eInt)] [true] rfl).k0
    refine Tn (wp_ret (Cx (Em (Cx (Em (Cx ?_))))))
    obtain rfl:=Option.some.inj h
    exact Rp S results56 ⟨(S.holds _ (List.mem_of_getElem? (i:=0) rfl)),rfl⟩
   ·refine wp_skip (Tn (Fs (Fr (Vm S rfl rfl fun a S=>Vq S Jz rfl rfl rfl fun a S=>Dl (Fc h (S.tm rfl) (fun hb2 h=>?_) (fun hb2 h=>?_))))))
    ·refine Fs ?_
     cases h
    ·refine wp_skip (Tn (Fs (Fr (Vm S rfl rfl fun a S=>Vu S Hp rfl rfl fun a S=>Ld ?_))))
     replace S:=S.k1 39 rfl
     refine Tn (Fc h (S.tm rfl) (fun hb3 h=>?_) (fun hb3 h=>?_))
     ·refine Fs ?_
      cases h
     ·refine wp_skip (Tn (Fs ?_))
      cases h
 exact fun _ _ h=>h.elim
theorem Nq (w : World) (Aq : Value) (Al : List Int) (Ca : (LEnt.own Aq 3 1 Al.length (Al.flatMap eInt)).holds w) (r : (List Int)) (h : Fu Al = some r) :
    Calls prog 31 [Aq,.func (.func 32) #[] #[]].toArray w (Ret w (Aq.ownBlock.toList) fun _ v w'=>(LEnt.own Aq 3 1 r.length (r.flatMap eInt)).holds w' ∧ v = .tuple #[]):=by
 refine Kv (Aq.ownBlock.toList) [.own Aq 3 1 Al.length (Al.flatMap eInt)] func31 rfl ntmps31 rfl (fun e he=>by simp only [List.mem_singleton] at he;subst he;exact Ca) (Kb _) (Lc _) fun a S=>?_
 unfold Fu at h
 replace S:=(S.nl [.own Aq 3 1 Al.length (Al.flatMap eInt)] [true] rfl).k2 0 1 rfl
 refine Fr (Vm S rfl rfl fun a S=>lv S (Ee Ka (S.tm rfl) (Nn (S.own_at (i:=0) rfl))) rfl fun a S=>Va S rfl rfl fun a S=>Dl (Fg ?_))
 iterate 3 (refine Vm S rfl rfl ?_;clear S;intro a S)
 refine Vu S (Og underlying3 underlying99) rfl rfl ?_;clear S;intro a S
 obtain ⟨r1,hr1,h⟩:=Eg h
 refine Dc S (fun _=>Cw (vs:=[.int .u64 (IntKind.wrap .u64 (Al.length : Int))]) ⟨(S.tm rfl),trivial⟩ call40) (Tx _ (IntKind.wrap .u64 (Al.length : Int)) _ hr1) rfl ?_;clear S;intro v1 a w1 hv1 hk1 hn1 S
 subst hv1
 refine Vm S rfl rfl ?_;clear S;intro a S
 obtain ⟨r2,hr2,h⟩:=Eg h
 refine Nl 0 S rfl (fun _=>.own Aq 3 1 r2.length (r2.flatMap eInt)) (fun _=>Cw (vs:=[Aq,iV 0,iV (Al.length : Int),iV r1,.func (.func 32) #[] #[]]) ⟨(S.tm rfl),rfl,(S.tm rfl),(S.tm rfl),(S.tm rfl),trivial⟩ call56) (Mu _ Aq Al (S.holds _ (List.mem_of_getElem? (i:=0) rfl)) 0 (Al.length : Int) r1 _ hr2) rfl (fun _ _ _ h=>⟨h.1,fun _ hc=>hc⟩) ?_;clear S;intro v2 a w2 hv2 hk2 hn2 S
 replace hv2:=hv2.2
 subst hv2
 refine Ld ?_
 obtain rfl:=Option.some.inj h
 exact Rp S results31 ⟨(S.holds _ (List.mem_of_getElem? (i:=0) rfl)),rfl⟩
theorem Xb (w : World) (v_l : Value) (Ad : List Jr) (hs_l : Slc (view w []) 2 v_l (Ad.map Jr.enc)) (v_r : Value) (Bt : List Dn) (hs_r : Slc (view w []) 3 v_r (Bt.map Dn.enc)) (As : Int) (r : List Cv × Int) (h : Mo Ad Bt As = some r) :
    Calls prog 10 [v_l,v_r,iV As].toArray w (Ret w [] fun τ v _=>∃ u1,v = .tuple #[u1,iV r.2] ∧ Pu τ 41 3 u1 r.1.length (r.1.flatMap Cv.enc)):=by
 refine Fe func10 rfl ntmps10 rfl fun a S=>?_
 unfold Mo at h
 replace S:=S.k3 0 1 2 rfl
 refine Fr (Vk S rfl rfl fun a S=>Vk S rfl rfl fun a S=>Dl (Fs (Fr (Vm S rfl rfl ?_))));clear S;intro a S
 obtain ⟨r1,hr1,h⟩:=Eg h
 refine Dc S (fun _=>Cw (vs:=[v_l]) ⟨(S.tm rfl),trivial⟩ call26) (Qi _ v_l Ad (hs_l.mono (S.le_arg Eo)) _ hr1) rfl ?_;clear S;intro v1 a w1 hv1 hk1 hn1 S
 subst hv1
 refine Va S rfl rfl fun a S=>Dz (Vm S rfl rfl fun a S=>Vq S Lo rfl rfl rfl fun a S=>Dl (Fc h (S.tm rfl) (fun hb1 h=>?_) (fun hb1 h=>?_)))
 ·refine Fr (Vm S rfl rfl fun a S=>Vk S rfl rfl fun a S=>Va S rfl rfl fun a S=>Dl (wp_ret (Cx ?_)))
  obtain rfl:=Option.some.inj h
  exact Kj S results10 rfl rfl ⟨_,rfl,Ob _ _ _⟩
 ·refine wp_skip (Tn (Fs (Fr (Vm S rfl rfl ?_))));clear S;intro a S
  obtain ⟨r2,hr2,h⟩:=Eg h
  refine Dc S (fun _=>Cw (vs:=[v_r]) ⟨(S.tm rfl),trivial⟩ call27) (Sw _ v_r Bt (hs_r.mono (S.le_arg Eo)) _ hr2) rfl ?_;clear S;intro v2 a w2 hv2 hk2 hn2 S
  subst hv2
  refine Va S rfl rfl fun a S=>Dz (Vm S rfl rfl fun a S=>Vq S Lo rfl rfl rfl fun a S=>Dl (Fc h (S.tm rfl) (fun hb2 h=>?_) (fun hb2 h=>?_)))
  ·refine Fr (Vm S rfl rfl fun a S=>Vk S rfl rfl fun a S=>Va S rfl rfl fun a S=>Dl (wp_ret (Cx ?_)))
   obtain rfl:=Option.some.inj h
   exact Kj S results10 rfl rfl ⟨_,rfl,Ob _ _ _⟩
  ·refine wp_skip (Tn (Fs (Fr (Vm S rfl rfl ?_))));clear S;intro a S
   refine Dc S (fun _=>Cw (vs:=[iV As,iV 1,iV 100]) ⟨(S.tm rfl),rfl,rfl,trivial⟩ call28) (El _ As 1 100 _ rfl) rfl ?_;clear S;intro v3 a w3 hv3 hk3 hn3 S
   subst hv3
   refine Vu S Hp rfl rfl fun a S=>Dl (Fc h (S.tm rfl) (fun hb3 h=>?_) (fun hb3 h=>?_))
   ·refine Fr (Vk S rfl rfl fun a S=>Vk S rfl rfl fun a S=>Dl (wp_ret (Cx ?_)))
    obtain rfl:=Option.some.inj h
    exact Kj S results10 rfl rfl ⟨_,rfl,Ob _ _ _⟩
   ·refine wp_skip (Tn (Fs (Fg (Pl (κ:=Ct) (ν:=Int) S rfl (fun x=>Value.agg (Ct.enc x).toArray) (Value.int .i64) ?_))));clear S;intro a w4 b1 hz1 hk4 S
    refine Va S rfl rfl fun a S=>Dz (Pl (κ:=ByteArray) (ν:=Value) S rfl Value.string (fun v=>v) ?_);clear S;intro a w5 b2 hz2 hk5 S
    refine Va S rfl rfl fun a S=>Dl (Fs (Fr (Vm S rfl rfl fun a S=>lv S (Ee Tv (S.tm rfl) (Ej hs_r)) rfl fun a S=>lv S (Rm rfl) rfl fun a S=>Dl ?_)))
    replace S : Sx w [] nov ([.map b2 (Eh Value.string (fun v=>v) (rzM ([] : List (ByteArray × List Int)) [])) (rzM ([] : List (ByteArray × List Int)) []).length,.map b1 (Eh (fun x=>Value.agg (Ct.enc x).toArray) (Value.int .i64) ([] : List (Ct × Int))) ([] : List (Ct × Int)).length] ++ Jn 3 1 eInt [] (([] : List (ByteArray × List Int)).map (·.2))) [(0,v_l),(2,iV As),(10,.map (some b1)),(11,.map (some b2)),(39,v_r),(40,iV (Bt.length : Int)),(41,iV 0)] 123 a w5:=S.sub (subR rfl)
    obtain ⟨j1,hj1,h⟩:=Ec h
    refine Ds (fun a w'=>∃ x1 : List (Ct × Int),∃ x2 : List (ByteArray × List Int),∃ vs : List Value,j1 x1 x2 = some r ∧ vs.length = x2.length ∧ Sx w [] nov ([.map b2 (Eh Value.string (fun v=>v) (rzM x2 vs)) (rzM x2 vs).length,.map b1 (Eh (fun x=>Value.agg (Ct.enc x).toArray) (Value.int .i64) x1) x1.length] ++ Jn 3 1 eInt vs (x2.map (·.2))) [(2,iV As),(10,.map (some b1)),(11,.map (some b2))] 123 a w') ?_ ?_
    ·refine wp_block (Fi (fun (ys1 : List Dn) a w'=>∃ i1 : Nat,∃ x1 : List (Ct × Int),∃ x2 : List (ByteArray × List Int),∃ vs : List Value,(∃ dn,Bt = dn ++ ys1 ∧ dn.length = i1) ∧ Ig Ad j1 ys1 i1 x1 x2 = some r ∧ vs.length = x2.length ∧ Sx w [] nov ([.map b2 (Eh Value.string (fun v=>v) (rzM x2 vs)) (rzM x2 vs).length,.map b1 (Eh (fun x=>Value.agg (Ct.enc x).toArray) (Value.int .i64) x1) x1.length] ++ Jn 3 1 eInt vs (x2.map (·.2))) [(0,v_l),(2,iV As),(10,.map (some b1)),(11,.map (some b2)),(39,v_r),(40,iV (Bt.length : Int)),(41,iV (i1 : Int))] 123 a w') List.length Bt ⟨0,[],[],[],⟨[],rfl,rfl⟩,h,rfl,S.sub (subR rfl)⟩ ?_)
     clear S h;rintro ys1 a w6 ⟨i1,x1,x2,vs,⟨dn,hd1,hi1⟩,h,hl,S⟩
     cases ys1 with
     | nil =>
      rw [Ig.eq_1] at h
      refine Fr (Vb S Dt rfl rfl rfl fun a S=>Dl ?_)
      exact Fs (wp_cond_false ((S.tm rfl).trans (congrArg Value.bool (Hq hd1 hi1))) (wp_exit (Dj (Dj (Fj (Tn ⟨x1,x2,vs,h,hl,S.sub (subR rfl)⟩))))))
     | cons y1 ys1 =>
      rw [Ig.eq_2] at h
      refine Fr (Vb S Dt rfl rfl rfl fun a S=>Dl ?_)
      refine Fs (wp_cond_true ((S.tm rfl).trans (congrArg Value.bool (Gb hd1 hi1))) (wp_skip (Tn (Fs ?_))))
      refine wp_block (Fs (Fg ?_))
      obtain ⟨b3,o1,hm1,hr3⟩:=Eb (a:=a) (x:=.tmp 39) (y:=.tmp 41) (ty:=0) Tv hs_r (Hz hd1 hi1) rfl (S.tm rfl) (S.tm rfl)
      refine lv S (hr3 _) rfl ?_;clear S;intro a S
      clear hr3
      refine lv S (Fp isAgg52 sizeOf52 (off:=o1) (o:=0) (part:=(Dn.enc y1)) rfl rfl (S.tm rfl) (hm1.at S.emb0)) rfl fun a S=>It S zeroValue52 (cs:=[sV Cy,sV Cy,iV 0]) rfl rfl ?_;clear S;intro a w7 b4 hz3 hk6 S
      refine Gl S (S.tm rfl) (S.tm rfl) (i:=0) (off:=0) rfl sizeOf52 (vs:=(Dn.enc y1)) rfl rfl rfl rfl ?_;clear S;intro w8 hk7 S
      replace S : Sx w [] nov ([.blk b4 (Dn.enc y1) 52,.map b2 (Eh Value.string (fun v=>v) (rzM x2 vs)) (rzM x2 vs).length,.map b1 (Eh (fun x=>Value.agg (Ct.enc x).toArray) (Value.int .i64) x1) x1.length] ++ Jn 3 1 eInt vs (x2.map (·.2))) [(0,v_l),(2,iV As),(10,.map (some b1)),(11,.map (some b2)),(13,.pointer (some ⟨b4,0,none⟩)),(39,v_r),(40,iV (Bt.length : Int)),(41,iV (i1 : Int))] 123 a w8:=S.sub (subR rfl)
      obtain ⟨vs2,xss2,S1,hback⟩:=Sx.rows_open hl y1.Who S
      clear S
      have S:=(Sx.drop S1 (List.sublist_cons_self _ _)).nil 3 1
      clear S1
      refine Dl (Fs (Fg (Vm S rfl rfl fun a S=>Vf Su S rfl rfl fun a S=>Vl isAgg9 1 S rfl rfl rfl rfl fun a S=>Mg (kv:=Value.string) (vv:=fun v=>v) (m:=rzM x2 vs) (key:=y1.Who) (val:=.slice none 0 0) S (i:=2) rfl underlying74 (Nk underlying9) (S.tm rfl) (S.tm rfl) rfl ?_)));clear S;intro w9 hk8 S
      obtain ⟨vs3,hl3,he3,hb3⟩:=hback (.slice none 0 0) []
      rw [he3] at S
      replace S : Sx w [] nov ([.blk b4 (Dn.enc y1) 52,.map b2 (Eh Value.string (fun v=>v) (rzM (Es x2 y1.Who []) vs3)) (rzM (Es x2 y1.Who []) vs3).length,.map b1 (Eh (fun x=>Value.agg (Ct.enc x).toArray) (Value.int .i64) x1) x1.length] ++ Jn 3 1 eInt vs3 ((Es x2 y1.Who []).map (·.2))) [(0,v_l),(2,iV As),(10,.map (some b1)),(11,.map (some b2)),(13,.pointer (some ⟨b4,0,none⟩)),(39,v_r),(40,iV (Bt.length : Int)),(41,iV (i1 : Int))] 123 a w9:=(hb3 S).sub (subR rfl)
      clear hb3 hback
      refine Dz (Vm S rfl rfl fun a S=>Vf St S rfl rfl fun a S=>Vl isAgg9 0 S rfl rfl rfl rfl fun a S=>Dc S (fun _=>Cw (vs:=[v_l,sV y1.Race]) ⟨(S.tm rfl),(S.tm rfl),trivial⟩ call29) (Sa _ v_l Ad (hs_l.mono (S.le_arg Eo)) y1.Race _ rfl) rfl ?_);clear S;intro v4 a w10 hv4 hk9 hn4 S
      subst hv4
      obtain ⟨j2,hj2,h⟩:=Ec h
      refine Va S rfl rfl fun a S=>Dz (Vm S rfl rfl fun a S=>Vq S Ji rfl rfl rfl fun a S=>Vm S rfl rfl fun a S=>Hw 4 (fun a w'=>Keep [] w10 w' ∧ Sx w [] nov ([.blk b4 (Dn.enc y1) 52,.map b2 (Eh Value.string (fun v=>v) (rzM (Es x2 y1.Who []) vs3)) (rzM (Es x2 y1.Who []) vs3).length,.map b1 (Eh (fun x=>Value.agg (Ct.enc x).toArray) (Value.int .i64) x1) x1.length] ++ Jn 3 1 eInt vs3 ((Es x2 y1.Who []).map (·.2))) [(0,v_l),(2,iV As),(10,.map (some b1)),(11,.map (some b2)),(13,.pointer (some ⟨b4,0,none⟩)),(39,v_r),(40,iV (Bt.length : Int)),(41,iV (i1 : Int)),(14,iV (Fy Ad y1.Race)),(58,bV ((decide (0 < Fy Ad y1.Race)) && (decide (0 < y1.Time))))] 123 a w') ?_ ?_)
      ·rcases Bool.eq_false_or_eq_true (decide (0 < Fy Ad y1.Race)) with hb4 | hb4
       ·exact Cz S rfl rfl rfl hb4 (Vf Up S rfl rfl fun a S=>Cz S rfl rfl rfl hb4 (Vl isAgg3 0 S rfl rfl rfl rfl fun a S=>Cz S rfl rfl rfl hb4 (Vq S Ji rfl rfl rfl fun a S=>lv S (Hg hb4 (S.tm rfl) (S.tm rfl)) rfl fun a S=>Dl ⟨Keep.refl _ _,S.sub (subR rfl)⟩)))
       ·iterate 3 (refine Gm S rfl rfl rfl (Jt hb4) rfl ?_ rfl;clear S;intro a S)
        exact lv S (Hh (decide (0 < y1.Time)) hb4 (S.tm rfl) rfl) rfl fun a S=>Dl ⟨Keep.refl _ _,S.sub (subR rfl)⟩
      clear S;rintro a w11 ⟨hk10,S⟩
      refine Dl (Ds (fun a w'=>∃ x3 : List (Ct × Int),j2 x3 = some r ∧ Sx w [] nov ([.map b2 (Eh Value.string (fun v=>v) (rzM (Es x2 y1.Who []) vs3)) (rzM (Es x2 y1.Who []) vs3).length,.map b1 (Eh (fun x=>Value.agg (Ct.enc x).toArray) (Value.int .i64) x3) x3.length] ++ Jn 3 1 eInt vs3 ((Es x2 y1.Who []).map (·.2))) [(0,v_l),(2,iV As),(10,.map (some b1)),(11,.map (some b2)),(39,v_r),(40,iV (Bt.length : Int)),(41,iV (i1 : Int))] 123 a w') ?_ ?_)
      ·refine Fc h (S.tm rfl) (fun hb5 h=>?_) (fun hb5 h=>?_)
       ·obtain ⟨r4,hr4,h⟩:=Eg h
        refine Fr (Vf St S rfl rfl fun a S=>Vl isAgg9 0 S rfl rfl rfl rfl fun a S=>Vf Su S rfl rfl fun a S=>Vl isAgg9 0 S rfl rfl rfl rfl fun a S=>lv S (Lp IG (pv:=[(0,sV y1.Race),(1,sV y1.Who)]) ⟨rfl,(S.tm rfl),rfl,(S.tm rfl),trivial⟩ (cs:=[sV y1.Race,sV y1.Who]) (by kernel_rfl)) rfl fun a S=>It S zeroValue77 (cs:=[sV Cy,sV Cy]) rfl rfl ?_);clear S;intro a w12 b5 hz4 hk11 S
        refine Gl S (S.tm rfl) (S.tm rfl) (i:=0) (off:=0) rfl sizeOf77 (vs:=[sV y1.Race,sV y1.Who]) rfl rfl rfl rfl ?_;clear S;intro w13 hk12 S
        refine Dl ?_
        refine Fw [10] ([]) Tryz.mixed S rfl (by kernel_rfl) ?_;clear S;intro w14 hk13 hsel S
        refine Fd 0 S hsel rfl rfl (by kernel_rfl) (by kernel_rfl) rfl (fun _=>(Rm (S.tm rfl))) fun a S=>Dk 1 S hsel rfl (by kernel_rfl) (by kernel_rfl) (by kernel_rfl) (by kernel_rfl) rfl (fun _ hw=>(Fp isAgg77 sizeOf77 (off:=0) (o:=0) (part:=[sV y1.Race,sV y1.Who]) rfl rfl (S.tm rfl) ((S.blk_mem (i:=0) (cells:=[sV y1.Race,sV y1.Who]) (b:=b5) (T:=77) rfl (Gn (e':=.blk b5 [sV y1.Race,sV y1.Who] 77))).kept hw))) fun a S=>Fd 2 S hsel rfl rfl (by kernel_rfl) (by kernel_rfl) rfl (fun _=>(Rm (S.tm rfl))) fun a S=>Dk 3 S hsel rfl (by kernel_rfl) (by kernel_rfl) (by kernel_rfl) (by kernel_rfl) rfl (fun _ hw=>(Fp isAgg77 sizeOf77 (off:=0) (o:=0) (part:=[sV y1.Race,sV y1.Who]) rfl rfl (S.tm rfl) ((S.blk_mem (i:=0) (cells:=[sV y1.Race,sV y1.Who]) (b:=b5) (T:=77) rfl (Gn (e':=.blk b5 [sV y1.Race,sV y1.Who] 77))).kept hw))) ?_;clear S;intro a S
        refine Dk 4 S hsel rfl (by kernel_rfl) (by kernel_rfl) (by kernel_rfl) (by kernel_rfl) rfl (fun _ hw=>(Pm (kv:=fun x=>Value.agg (Ct.enc x).toArray) (vv:=(Value.int .i64)) (m:=x1) (key:=Ct.mk y1.Race y1.Who) (z:=0) (S.map_kept (i:=3) rfl (Gn (e':=.map b1 (Eh (fun x=>Value.agg (Ct.enc x).toArray) (Value.int .i64) x1) x1.length)) hw) underlying73 Yl zeroValue3 (S.tm rfl) (S.tm rfl))) ?_;clear S;intro a S
        refine Fd 5 S hsel rfl rfl (by kernel_rfl) (by kernel_rfl) rfl (fun _=>(Rm (S.tm rfl))) fun a S=>Fd 6 S hsel rfl rfl (by kernel_rfl) (by kernel_rfl) rfl (fun _=>(Fk Up (S.tm rfl))) fun a S=>Dk 7 S hsel rfl (by kernel_rfl) (by kernel_rfl) (by kernel_rfl) (by kernel_rfl) rfl (fun _ hw=>(Gk isAgg3 (off:=0) (o:=2) (S.tm rfl) ((S.blk_mem (i:=1) (cells:=(Dn.enc y1)) (b:=b4) (T:=52) rfl (Gn (e':=.blk b4 (Dn.enc y1) 52))).kept hw) rfl)) fun a S=>Ex 8 (by kernel_rfl) rfl (Dc S (fun _=>Cw (vs:=[iV (Fy Ad y1.Race),iV y1.Time]) ⟨(S.tm rfl),(S.tm rfl),trivial⟩ call30) (Sb _ (Fy Ad y1.Race) y1.Time _ hr4) rfl ?_);clear S;intro v5 a w15 hv5 hk14 hn5 S
        subst hv5
        refine Ld (Fx hk14 (Fd 9 S hsel rfl rfl (by kernel_rfl) (by kernel_rfl) rfl (fun _=>(EE (S.tm rfl) (S.tm rfl))) fun a S=>Qk 10 ([b1]) rfl (by kernel_rfl) rfl (Mg (kv:=fun x=>Value.agg (Ct.enc x).toArray) (vv:=(Value.int .i64)) (m:=x1) (key:=Ct.mk y1.Race y1.Who) (val:=Vt (Ff x1 (Ct.mk y1.Race y1.Who) 0) r4) S (i:=3) rfl underlying73 Yl (S.tm rfl) (S.tm rfl) (S.tm rfl) ?_)));clear S;intro w16 hk15 S
        refine Ld (Ql (Tl (by kernel_rfl) ?_))
        clear hsel
        exact ⟨Es x1 (Ct.mk y1.Race y1.Who) (Vt (Ff x1 (Ct.mk y1.Race y1.Who) 0) r4),h,S.nf [false,false,true,true] rfl (subR rfl)⟩
       ·exact wp_skip ⟨x1,h,S.nf [false,true,true] rfl (subR rfl)⟩
      clear S h;rintro a w12 ⟨x3,h,S⟩;rw [hj2] at h;clear hj2 j2
      refine Gx (Tn (Fg (Vq S Ek rfl rfl rfl fun a S=>Vm S rfl rfl fun a S=>Dl ?_)))
      exact ⟨ys1,⟨i1 + 1,x3,Es x2 y1.Who [],vs3,⟨_,(hd1).trans (List.append_cons _ _ _),by simp [hi1]⟩,h,hl3,S.sub ⟨rfl,rfl,rfl,rfl,rfl,rfl,(congrArg (fun z=>some (Value.int .i64 z)) (Gc hd1 hi1 (Jk hs_r))),trivial⟩⟩,Nat.lt_succ_self _⟩
    clear S h;rintro a w6 ⟨x1,x2,vs,h,hl,S⟩;rw [hj1] at h;clear hj1 j1
    refine Tn (Fs (Fr (Vm S rfl rfl fun a S=>BI (es:=Eh (fun x=>Value.agg (Ct.enc x).toArray) (Value.int .i64) x1) (clk:=x1.length) S (S.map_at (i:=1) rfl) underlying73 (S.tm rfl) rfl ?_)));clear S;intro a w7 b3 hz3 hk6 S
    refine Dl ?_
    obtain ⟨j3,hj3,h⟩:=Ec h
    replace h:=allE h
    refine Ds (fun a w'=>∃ x3 : List (ByteArray × List Int),∃ vs3 : List Value,j3 x3 = some r ∧ vs3.length = x3.length ∧ Sx w [] nov ([.map b2 (Eh Value.string (fun v=>v) (rzM x3 vs3)) (rzM x3 vs3).length] ++ Jn 3 1 eInt vs3 (x3.map (·.2))) [(2,iV As),(11,.map (some b2))] 123 a w') ?_ ?_
    ·refine wp_block (Fi (fun (q : List (Ct × Int)) a w'=>∃ x3 : List (ByteArray × List Int),∃ vs3 : List Value,∃ sn1 : Array Nat,Rf x1 sn1 = q ∧ (∀ p,p.Perm q → Ih j3 p x3 = some r) ∧ vs3.length = x3.length ∧ Sx w [] nov ([.iter b3 b1 x1.length sn1 x1.length,.map b2 (Eh Value.string (fun v=>v) (rzM x3 vs3)) (rzM x3 vs3).length,.map b1 (Eh (fun x=>Value.agg (Ct.enc x).toArray) (Value.int .i64) x1) x1.length] ++ Jn 3 1 eInt vs3 (x3.map (·.2))) [(2,iV As),(10,.map (some b1)),(11,.map (some b2)),(76,.pointer (some ⟨b3,0,none⟩))] 123 a w') List.length x1 ⟨x2,vs,#[],BH _,h,hl,S.sub (subR rfl)⟩ ?_)
     clear S h;rintro q a w8 ⟨x3,vs3,sn1,hq,h,hl3,S⟩
     refine Fr (DR (kv:=fun x=>Value.agg (Ct.enc x).toArray) (vv:=(Value.int .i64)) (m:=x1) S (i:=0) rfl (S.map_at (i:=2) rfl) (S.tm rfl) rfl ?_ ?_)
     ·intro hn4;clear S;intro a S
      replace h:=Yp h (hq.symm.trans hn4)
      rw [Ih.eq_1] at h
      refine Vq S Er rfl rfl rfl fun a S=>Dl ?_
      exact Fs (wp_cond_false (S.tm rfl) (wp_exit (Dj (Dj (Fj (Tn ⟨x3,vs3,h,hl3,S.nf [false,true,false] rfl (subR rfl)⟩))))))
     ·clear S;intro y2 sn2 a w9 hp1 hl1 hk7 S
      obtain ⟨sq1,h,hn5⟩:=Wv h (by rw [← hq];exact hp1) (fun _=>rfl)
      refine Vq S Er rfl rfl rfl fun a S=>Dl ?_
      refine Fs (wp_cond_true (S.tm rfl) (wp_skip (Tn (wp_block (Fr (lv S (Yu (kv:=fun x=>Value.agg (Ct.enc x).toArray) (vv:=(Value.int .i64)) (m:=x1) (e:=y2) (S.holds _ (List.mem_of_getElem? (i:=0) rfl)) (S.map_at (i:=2) rfl) hl1 (S.tm rfl)) rfl fun a S=>Vq S Er rfl rfl rfl fun a S=>Vq S Er rfl rfl rfl fun a S=>It S zeroValue77 (cs:=[sV Cy,sV Cy]) rfl rfl ?_))))));clear S;intro a w10 b4 hz4 hk8 S
      refine Gl S (S.tm rfl) (S.tm rfl) (i:=0) (off:=0) rfl sizeOf77 (vs:=(Ct.enc y2.1)) rfl rfl rfl rfl ?_;clear S;intro w11 hk9 S
      refine Va S rfl rfl fun a S=>Dl ?_
      replace S : Sx w [] nov ([.blk b4 (Ct.enc y2.1) 77,.iter b3 b1 x1.length sn2 x1.length,.map b2 (Eh Value.string (fun v=>v) (rzM x3 vs3)) (rzM x3 vs3).length,.map b1 (Eh (fun x=>Value.agg (Ct.enc x).toArray) (Value.int .i64) x1) x1.length] ++ Jn 3 1 eInt vs3 (x3.map (·.2))) [(2,iV As),(10,.map (some b1)),(11,.map (some b2)),(16,.pointer (some ⟨b4,0,none⟩)),(17,iV y2.2),(76,.pointer (some ⟨b3,0,none⟩))] 123 a w11:=S.sub (subR rfl)
      obtain ⟨vs4,xss4,S1,hback⟩:=Sx.rows_open hl3 y2.1.who_ S
      clear S
      obtain ⟨hc1,h⟩:=Hl h
      generalize hrw : Ff (rzM x3 vs3) y2.1.who_ (.slice none 0 0) = rw1 at S1
      refine Fw [10] (rw1.ownBlock.toList) Tryz.mixed S1 rfl (by kernel_rfl) ?_;clear S1;intro w12 hk10 hsel S
      refine Fd 0 S hsel rfl rfl (by kernel_rfl) (by kernel_rfl) rfl (fun _=>(Rm (S.tm rfl))) fun a S=>Fd 1 S hsel rfl rfl (by kernel_rfl) (by kernel_rfl) rfl (fun _=>(Fk EU (S.tm rfl))) fun a S=>Dk 2 S hsel rfl (by kernel_rfl) (by kernel_rfl) (by kernel_rfl) (by kernel_rfl) rfl (fun _ hw=>(Gk isAgg9 (off:=0) (o:=1) (S.tm rfl) ((S.blk_mem (i:=1) (cells:=(Ct.enc y2.1)) (b:=b4) (T:=77) rfl (Ns (i:=0) (j:=1) (e:=_) (e':=.blk b4 (Ct.enc y2.1) 77) S rfl rfl rfl)).kept hw) rfl)) fun a S=>Fd 3 S hsel rfl rfl (by kernel_rfl) (by kernel_rfl) rfl (fun _=>(Rm (S.tm rfl))) fun a S=>Fd 4 S hsel rfl rfl (by kernel_rfl) (by kernel_rfl) rfl (fun _=>(Fk EU (S.tm rfl))) fun a S=>Dk 5 S hsel rfl (by kernel_rfl) (by kernel_rfl) (by kernel_rfl) (by kernel_rfl) rfl (fun _ hw=>(Gk isAgg9 (off:=0) (o:=1) (S.tm rfl) ((S.blk_mem (i:=1) (cells:=(Ct.enc y2.1)) (b:=b4) (T:=77) rfl (Ns (i:=0) (j:=1) (e:=_) (e':=.blk b4 (Ct.enc y2.1) 77) S rfl rfl rfl)).kept hw) rfl)) ?_;clear S;intro a S
      refine Dk 6 S hsel rfl (by kernel_rfl) (by kernel_rfl) (by kernel_rfl) (by kernel_rfl) rfl (fun _ hw=>(Pm (kv:=Value.string) (vv:=fun v=>v) (m:=rzM x3 vs3) (key:=y2.1.who_) (z:=.slice none 0 0) (S.map_kept (i:=3) rfl (Ns (i:=0) (j:=3) (e:=_) (e':=.map b2 (Eh Value.string (fun v=>v) (rzM x3 vs3)) (rzM x3 vs3).length) S rfl rfl rfl) hw) underlying74 (Nk underlying9) zeroValue22 (S.tm rfl) (S.tm rfl))) ?_;clear S;intro a S
      rw [hrw] at S
      refine Fd 7 S hsel rfl rfl (by kernel_rfl) (by kernel_rfl) rfl (fun _=>(Rm (S.tm rfl))) fun a S=>Ex 8 (by kernel_rfl) rfl (Ed S underlying22 sizeOf3 zeroValue3 rfl rfl (pv:=[(0,iV y2.2)]) ⟨rfl,(S.tm rfl),trivial⟩ (cs:=[iV y2.2]) (by kernel_rfl) rfl ?_);clear S;intro a w13 b5 hz5 hk11 S
      refine Ld (Fx (Keep.none hk11) (Ex 9 (by kernel_rfl) rfl ?_))
      refine Mx Ka Hj S (S.tm rfl) (i:=1) rfl (S.tm rfl) (j:=0) rfl (ys:=[y2.2]) rfl rfl rfl rfl (by have:=Nd hc1;omega) rfl ?_;clear S;intro v6 a w14 hk12 S
      refine Ld (Fx hk12 ?_)
      refine Qk 10 ([b2]) rfl (by kernel_rfl) rfl (Mg (kv:=Value.string) (vv:=fun v=>v) (m:=rzM x3 vs3) (key:=y2.1.who_) (val:=v6) S (i:=4) rfl underlying74 (Nk underlying9) (S.tm rfl) (S.tm rfl) (S.tm rfl) ?_);clear S;intro w15 hk13 S
      refine Ld (Ql (Tl (by kernel_rfl) ?_))
      clear hsel
      obtain ⟨vs5,hl5,he5,hb5⟩:=hback v6 (Ff x3 y2.1.who_ [] ++ [y2.2])
      rw [he5] at S
      replace S : Sx w [] nov (.own v6 3 1 (Ff x3 y2.1.who_ [] ++ [y2.2]).length ((Ff x3 y2.1.who_ [] ++ [y2.2]).flatMap eInt) :: ([.blk b4 (Ct.enc y2.1) 77,.iter b3 b1 x1.length sn2 x1.length,.map b2 (Eh Value.string (fun v=>v) (rzM (Es x3 y2.1.who_ (Ff x3 y2.1.who_ [] ++ [y2.2])) vs5)) (rzM (Es x3 y2.1.who_ (Ff x3 y2.1.who_ [] ++ [y2.2])) vs5).length,.map b1 (Eh (fun x=>Value.agg (Ct.enc x).toArray) (Value.int .i64) x1) x1.length] ++ Jn 3 1 eInt vs4 xss4)) _ _ a _:=Sx.drop S (List.sublist_cons_self _ _)
      replace S:=hb5 S
      clear hb5 hback
      obtain rfl:=Option.some.inj h
      exact ⟨Rf x1 sn2,⟨Es x3 y2.1.who_ (Ff x3 y2.1.who_ [] ++ [y2.2]),vs5,sn2,rfl,hn5,hl5,S.nf [false,true,true,true] rfl (subR rfl)⟩,by have:=hp1.length_eq;rw [hq] at this;simp only [List.length_cons] at this;omega⟩
    clear S h;rintro a w8 ⟨x3,vs3,h,hl3,S⟩;rw [hj3] at h;clear hj3 j3
    rw [GK Value.string 0 x3 vs3,DS 0 x3 vs3] at S
    have hR:=rowsI_0 x3 vs3
    have hM:=rzT_map 0 x3 vs3 hl3
    generalize rzT 0 x3 vs3 = m3 at S hR hM
    refine Tn (Fs (Fg (Pl (κ:=ByteArray) (ν:=Cu) S rfl Value.string (fun x=>Value.agg (Cu.enc x).toArray) ?_)));clear S;intro a w9 b6 hz6 hk7 S
    refine Va S rfl rfl fun a S=>Dl (Fs (Fr (Vm S rfl rfl fun a S=>BI (es:=Eh Value.string (fun p=>p.2.2) m3) (clk:=m3.length) S (S.map_at (i:=1) rfl) underlying74 (S.tm rfl) rfl ?_)));clear S;intro a w10 b7 hz7 hk8 S
    refine Dl ?_
    obtain ⟨j4,hj4,h⟩:=Ec h
    replace h:=allE h
    refine Ds (fun a w'=>∃ x4 : List (ByteArray × Cu),j4 x4 = some r ∧ Sx w [] nov [.map b6 (Eh Value.string (fun x=>Value.agg (Cu.enc x).toArray) x4) x4.length] [(18,.map (some b6))] 123 a w') ?_ ?_
    ·refine wp_block (Fi (fun (q : List (ByteArray × (Nat × List Int × Value))) a w'=>∃ x4 : List (ByteArray × Cu),∃ vsC : List Value,∃ xsC : List (List Int),∃ sn1 : Array Nat,Rf m3 sn1 = q ∧ (∀ p,p.Perm (q.map (fun e=>(e.1,e.2.2.1))) → Ho As j4 p x4 = some r) ∧ CN q vsC xsC ∧ Sx w [] nov ([.iter b7 b2 m3.length sn1 m3.length,.map b6 (Eh Value.string (fun x=>Value.agg (Cu.enc x).toArray) x4) x4.length,.map b2 (Eh Value.string (fun p=>p.2.2) m3) m3.length] ++ Jn 3 1 eInt vsC xsC) [(2,iV As),(11,.map (some b2)),(18,.map (some b6)),(94,.pointer (some ⟨b7,0,none⟩))] 123 a w') List.length m3 ⟨[],vs3,x3.map (·.2),#[],BH _,(by rw [hM];exact h),hR,S.sub (subR rfl)⟩ ?_)
     clear S h;rintro q a w11 ⟨x4,vsC,xsC,sn1,hq,h,hR,S⟩
     refine Fr (DR (kv:=Value.string) (vv:=fun p : Nat × List Int × Value=>p.2.2) (m:=m3) S (i:=0) rfl (S.map_at (i:=2) rfl) (S.tm rfl) rfl ?_ ?_)
     ·intro hn4;clear S;intro a S
      replace h:=Yp h (by rw [← hq,hn4];rfl)
      rw [Ho.eq_1] at h
      refine Vq S Er rfl rfl rfl fun a S=>Dl ?_
      exact Fs (wp_cond_false (S.tm rfl) (wp_exit (Dj (Dj (Fj (Tn ⟨x4,h,(Sx.drop S (.cons _ (.cons_cons _ (List.nil_sublist _)))).sub (subR rfl)⟩))))))
     ·clear S;intro y3 sn2 a w12 hp1 hl1 hk9 S
      rw [hq] at hp1
      obtain ⟨sq1,h,hn5⟩:=Wv h (hp1.map _) (fun _=>rfl)
      obtain ⟨hr1,hr2,hR2⟩:=hR.step hp1 (.slice none 0 0) []
      refine Vq S Er rfl rfl rfl fun a S=>Dl ?_
      refine Fs (wp_cond_true (S.tm rfl) (wp_skip (Tn (wp_block (Fr (lv S (Yu (kv:=Value.string) (vv:=fun p : Nat × List Int × Value=>p.2.2) (m:=m3) (e:=y3) (S.holds _ (List.mem_of_getElem? (i:=0) rfl)) (S.map_at (i:=2) rfl) hl1 (S.tm rfl)) rfl fun a S=>Vq S Er rfl rfl rfl fun a S=>Vq S Er rfl rfl rfl fun a S=>Va S rfl rfl fun a S=>Va S rfl rfl fun a S=>Dl ?_))))))
      replace S : Sx w [] nov ([.iter b7 b2 m3.length sn2 m3.length,.map b6 (Eh Value.string (fun x=>Value.agg (Cu.enc x).toArray) x4) x4.length,.map b2 (Eh Value.string (fun p=>p.2.2) m3) m3.length] ++ Jn 3 1 eInt vsC xsC) [(2,iV As),(11,.map (some b2)),(18,.map (some b6)),(19,sV y3.1),(20,y3.2.2.2),(94,.pointer (some ⟨b7,0,none⟩))] 123 a w12:=S.sub (subR rfl)
      replace S:=S.take_row hr1 hr2
      obtain ⟨r5,hr5,h⟩:=Eg h
      obtain ⟨hc2,h⟩:=Hl h
      obtain ⟨j5,hj5,h⟩:=Ec h
      refine Fr (Vm S rfl rfl ?_);clear S;intro a S
      refine Nl 0 S rfl (fun _=>.own y3.2.2.2 3 1 r5.length (r5.flatMap eInt)) (fun _=>Cw (vs:=[y3.2.2.2,.func (.func 32) #[] #[]]) ⟨(S.tm rfl),rfl,trivial⟩ call31) (Nq _ y3.2.2.2 y3.2.2.1 (S.holds _ (List.mem_of_getElem? (i:=0) rfl)) _ hr5) rfl (fun _ _ _ h=>⟨h.1,fun _ hc=>hc⟩) ?_;clear S;intro v7 a w13 hv7 hk10 hn6 S
      refine Dz (Vk S rfl rfl fun a S=>Dl (Fs (Fr (Vm S rfl rfl fun a S=>Vm S rfl rfl fun a S=>Vm S rfl rfl fun a S=>lv S (Ee Ka (S.tm rfl) (Nn (S.own_at (i:=0) rfl))) rfl fun a S=>lv S (EF (S.tm rfl) (S.tm rfl)) rfl ?_))));clear S;intro a S
      replace S : Sx w [] nov ([.own y3.2.2.2 3 1 r5.length (r5.flatMap eInt),.iter b7 b2 m3.length sn2 m3.length,.map b6 (Eh Value.string (fun x=>Value.agg (Cu.enc x).toArray) x4) x4.length,.map b2 (Eh Value.string (fun p=>p.2.2) m3) m3.length] ++ Jn 3 1 eInt (vsC.set y3.2.1 (.slice none 0 0)) (xsC.set y3.2.1 [])) [(2,iV As),(11,.map (some b2)),(18,.map (some b6)),(19,sV y3.1),(21,iV 0),(94,.pointer (some ⟨b7,0,none⟩)),(102,y3.2.2.2),(106,iV (Vv As (r5.length : Int)))] 123 a w13:=S.sub (subR rfl)
      generalize hmn : Vv As (r5.length : Int) = mn at S h hc2
      obtain ⟨u1,hu1,hr6⟩:=rn_subh (a:=a) (x:=.tmp 102) (y':=.tmp 106) (ty:=22) Ka S (i:=0) rfl (S.tm rfl) (S.tm rfl) hc2
      refine lv S (hr6 _) rfl ?_;clear S hr6;intro a S
      have hln : mn.toNat - (0 : Int).toNat = (cut r5 0 mn).length:=by
        obtain ⟨c1,c2,c3⟩:=Pr.1 hc2
        simp [cut];omega
      have hmx : (cut r5 0 mn).length ≤ 9223372036854775807:=by
        have:=Wb (S.own_at (i:=0) rfl)
        have h2 : (cut r5 0 mn).length ≤ r5.length:=by simp [cut];omega
        omega
      have hsl:=HT hu1
      rw [hln] at hsl
      refine lv S (Ee Ka (S.tm rfl) hsl) rfl fun a S=>lv S (Rm rfl) rfl fun a S=>Dl ?_
      generalize hcr : cut r5 0 mn = zs at S h hmx hsl hln
      replace S : Sx w [] nov ([.own y3.2.2.2 3 1 r5.length (r5.flatMap eInt),.iter b7 b2 m3.length sn2 m3.length,.map b6 (Eh Value.string (fun x=>Value.agg (Cu.enc x).toArray) x4) x4.length,.map b2 (Eh Value.string (fun p=>p.2.2) m3) m3.length] ++ Jn 3 1 eInt (vsC.set y3.2.1 (.slice none 0 0)) (xsC.set y3.2.1 [])) [(2,iV As),(11,.map (some b2)),(18,.map (some b6)),(19,sV y3.1),(21,iV 0),(94,.pointer (some ⟨b7,0,none⟩)),(107,u1),(108,iV (zs.length : Int)),(109,iV 0)] 123 a w13:=S.sub (subR rfl)
      refine Ds (fun a w'=>∃ s1 : Int,j5 s1 = some sq1 ∧ Sx w [] nov ([.own y3.2.2.2 3 1 r5.length (r5.flatMap eInt),.iter b7 b2 m3.length sn2 m3.length,.map b6 (Eh Value.string (fun x=>Value.agg (Cu.enc x).toArray) x4) x4.length,.map b2 (Eh Value.string (fun p=>p.2.2) m3) m3.length] ++ Jn 3 1 eInt (vsC.set y3.2.1 (.slice none 0 0)) (xsC.set y3.2.1 [])) [(2,iV As),(11,.map (some b2)),(18,.map (some b6)),(19,sV y3.1),(21,iV s1),(94,.pointer (some ⟨b7,0,none⟩))] 123 a w') ?_ ?_
      ·refine wp_block (Fi (fun (ys4 : List Int) a w'=>∃ i4 : Nat,∃ s1 : Int,(∃ dn,zs = dn ++ ys4 ∧ dn.length = i4) ∧ Hn j5 ys4 i4 s1 = some sq1 ∧ Sx w [] nov ([.own y3.2.2.2 3 1 r5.length (r5.flatMap eInt),.iter b7 b2 m3.length sn2 m3.length,.map b6 (Eh Value.string (fun x=>Value.agg (Cu.enc x).toArray) x4) x4.length,.map b2 (Eh Value.string (fun p=>p.2.2) m3) m3.length] ++ Jn 3 1 eInt (vsC.set y3.2.1 (.slice none 0 0)) (xsC.set y3.2.1 [])) [(2,iV As),(11,.map (some b2)),(18,.map (some b6)),(19,sV y3.1),(21,iV s1),(94,.pointer (some ⟨b7,0,none⟩)),(107,u1),(108,iV (zs.length : Int)),(109,iV (i4 : Int))] 123 a w') List.length zs ⟨0,0,⟨[],rfl,rfl⟩,h,S.sub (subR rfl)⟩ ?_)
       clear S h;rintro ys4 a w14 ⟨i4,s1,⟨dn,hd4,hi4⟩,h,S⟩
       cases ys4 with
       | nil =>
        rw [Hn.eq_1] at h
        refine Fr (Vb S Dt rfl rfl rfl fun a S=>Dl ?_)
        exact Fs (wp_cond_false ((S.tm rfl).trans (congrArg Value.bool (Hq hd4 hi4))) (wp_exit (Dj (Dj (Fj (Tn ⟨s1,h,S.sub (subR rfl)⟩))))))
       | cons y4 ys4 =>
        rw [Hn.eq_2] at h
        refine Fr (Vb S Dt rfl rfl rfl fun a S=>Dl ?_)
        refine Fs (wp_cond_true ((S.tm rfl).trans (congrArg Value.bool (Gb hd4 hi4))) (wp_skip (Tn (Fs ?_))))
        have hj6:=Hz hd4 hi4
        rw [← hcr] at hj6
        obtain ⟨hj7,hlt⟩:=HZ hj6
        have hj8 : r5[(0 : Int).toNat + (i4 : Int).toNat]? = some y4:=by simpa using hj7
        have hc3 : inB (i4 : Int) (mn.toNat - (0 : Int).toNat) = true:=Jh.2 ⟨by omega,by omega⟩
        obtain ⟨b8,hg8,hr7⟩:=Xl (a:=a) (x:=.tmp 107) (y:=.tmp 109) (ty:=0) Ka Hj S (i:=0) rfl hu1 hc3 (S.tm rfl) (S.tm rfl)
        refine wp_block (Fr (lv S (hr7 _) rfl ?_));clear S hr7;intro a S
        refine lv S (Gk isAgg3 (off:=((0 : Int).toNat + (i4 : Int).toNat) * 1) (o:=0) (cs:=[iV y4]) (v:=iV y4) (S.tm rfl) (show Mv w14 b8 _ [iV y4] from Nm (enc:=eInt) Hj S (i:=0) rfl hg8 hj8) rfl) rfl fun a S=>Va S rfl rfl fun a S=>Dl (Fg (Vm S rfl rfl fun a S=>Vm S rfl rfl fun a S=>Vb S Ek rfl rfl rfl fun a S=>Va S rfl rfl fun a S=>Ld ?_))
        refine Gx (Tn (Fg (Vq S Ek rfl rfl rfl fun a S=>Vm S rfl rfl fun a S=>Dl ?_)))
        exact ⟨ys4,⟨i4 + 1,W (s1 + y4),⟨_,(hd4).trans (List.append_cons _ _ _),by simp [hi4]⟩,h,S.sub ⟨rfl,rfl,rfl,rfl,rfl,rfl,rfl,rfl,(congrArg (fun z=>some (Value.int .i64 z)) (Gc hd4 hi4 hmx)),trivial⟩⟩,Nat.lt_succ_self _⟩
      clear S h;rintro a w14 ⟨s1,h,S⟩;rw [hj5] at h;clear hj5 j5
      obtain rfl:=Option.some.inj h
      refine Tn (Fg (Vm S rfl rfl fun a S=>Vm S rfl rfl fun a S=>Vm S rfl rfl fun a S=>lv S (Lp IF (pv:=[(0,iV s1),(1,iV 1)]) ⟨rfl,(S.tm rfl),rfl,rfl,trivial⟩ (cs:=[iV s1,iV 1]) (by kernel_rfl)) rfl fun a S=>Mg (kv:=Value.string) (vv:=(fun x=>Value.agg (Cu.enc x).toArray)) (m:=x4) (key:=y3.1) (val:=Cu.mk s1 1) S (i:=2) rfl underlying68 (Nk underlying9) (S.tm rfl) (S.tm rfl) (S.tm rfl) ?_));clear S;intro w15 hk11 S
      replace S : Sx w [] nov (.own y3.2.2.2 3 1 r5.length (r5.flatMap eInt) :: ([.iter b7 b2 m3.length sn2 m3.length,.map b6 (Eh Value.string (fun x=>Value.agg (Cu.enc x).toArray) (Es x4 y3.1 (Cu.mk s1 1))) (Es x4 y3.1 (Cu.mk s1 1)).length,.map b2 (Eh Value.string (fun p=>p.2.2) m3) m3.length] ++ Jn 3 1 eInt (vsC.set y3.2.1 (.slice none 0 0)) (xsC.set y3.2.1 []))) [(2,iV As),(11,.map (some b2)),(18,.map (some b6)),(94,.pointer (some ⟨b7,0,none⟩))] 123 a w15:=S.sub (subR rfl)
      refine Ld ?_
      exact ⟨Rf m3 sn2,⟨Es x4 y3.1 (Cu.mk s1 1),vsC.set y3.2.1 (.slice none 0 0),xsC.set y3.2.1 [],sn2,rfl,hn5,hR2,Sx.drop S (List.sublist_cons_self _ _)⟩,by have:=hp1.length_eq;simp only [List.length_cons] at this;omega⟩
    clear S h;rintro a w11 ⟨x4,h,S⟩;rw [hj4] at h;clear hj4 j4
    obtain ⟨r6,hr6,h⟩:=Eg h
    obtain rfl:=Option.some.inj h
    refine Tn (Fr (Vm S rfl rfl ?_));clear S;intro a S
    have hz8:=S.keep.size
    refine Dc S (fun _=>Cw (vs:=[.map (some b6)]) ⟨(S.tm rfl),trivial⟩ call24) (Ub _ b6 x4 (S.map_view (i:=0) rfl (fun _ _=>List.not_mem_nil)) _ hr6) rfl ?_;clear S;intro v8 a w12 hv8 hk9 hn7 S
    replace S:=S.take hn7 hz8 hv8
    refine Va S rfl rfl fun a S=>Vk S rfl rfl fun a S=>Dl (wp_ret ?_)
    exact Kj S results10 rfl rfl ⟨_,rfl,Qu S (i:=0) rfl rfl⟩
set_option maxRecDepth 20000 in
theorem Ux (w : World) (Bm : Value) (Bn : List Int) (Be : Slc (view w []) 1 Bm (Bn.map eInt)) (Bo : Value) (Br : List Int) (Bs : Slc (view w []) 1 Bo (Br.map eInt)) (r : Bool) (h : Na Bn Br = some r) :
    Calls prog 11 [Bm,Bo].toArray w (Ret w [] fun _ v _=>v = bV r):=by
 refine Fe func11 rfl ntmps11 rfl fun a S=>?_
 unfold Na at h
 replace S:=S.k2 0 1 rfl
 refine Fr (Vk S rfl rfl fun a S=>Dl (Fs (Fr (Vm S rfl rfl fun a S=>lv S (Ee Ka (S.tm rfl) (Ej Be)) rfl fun a S=>Vm S rfl rfl ?_))));clear S;intro a S
 refine lv S (Ee Ka (S.tm rfl) (Ej Bs)) rfl fun a S=>Vb S Lo rfl rfl rfl fun a S=>Dl (Fc h (S.tm rfl) (fun hb1 h=>?_) (fun hb1 h=>?_))
 ·refine Fr (Vk S rfl rfl fun a S=>Dl (wp_ret (Cx ?_)))
  obtain rfl:=Option.some.inj h
  exact Dx S results11 rfl rfl
 ·refine wp_skip (Tn (Fs (Fr (Vm S rfl rfl fun a S=>lv S (Ee Ka (S.tm rfl) (Ej Be)) rfl fun a S=>lv S (Rm rfl) rfl fun a S=>Dl ?_))))
  replace S:=S.k4 0 1 12 13 rfl
  obtain ⟨j1,hj1,h⟩:=Ec h
  refine Ds (fun a w'=>j1 = some r ∧ Sx w [] nov [] [] 26 a w') ?_ ?_
  ·refine wp_block (Fi (fun (ys1 : List Int) a w'=>∃ i1 : Nat,(∃ dn,Bn = dn ++ ys1 ∧ dn.length = i1) ∧ Ib Br j1 ys1 i1 = some r ∧ Sx w [] nov [] [(0,Bm),(1,Bo),(12,iV (Bn.length : Int)),(13,iV (i1 : Int))] 26 a w') List.length Bn ⟨0,⟨[],rfl,rfl⟩,h,S.nf [] rfl (subR rfl)⟩ ?_)
   clear S h;rintro ys1 a w1 ⟨i1,⟨dn,hd1,hi1⟩,h,S⟩
   cases ys1 with
   | nil =>
    rw [Ib.eq_1] at h
    refine Fr (Vb S Dt rfl rfl rfl fun a S=>Ld ?_)
    replace S:=S.k5 0 1 12 13 14 rfl
    exact Tn (Fs (wp_cond_false ((S.tm rfl).trans (congrArg Value.bool (Hq hd1 hi1))) (wp_exit (Dj (Dj (Fj (Tn (⟨h,S.nf [] rfl trivial⟩))))))))
   | cons y1 ys1 =>
    rw [Ib.eq_2] at h
    refine Fr (Vb S Dt rfl rfl rfl fun a S=>Ld ?_)
    replace S:=S.k5 0 1 12 13 14 rfl
    refine Tn (Fs (wp_cond_true ((S.tm rfl).trans (congrArg Value.bool (Gb hd1 hi1))) (wp_skip (Tn (Fs (wp_block (Fr (Vm S rfl rfl fun a S=>Va S rfl rfl ?_))))))));clear S;intro a S
    refine Dl (Fs (Fw [] ([]) Tryz.mixed S rfl (by kernel_rfl) ?_));clear S;intro w3 hk1 hsel S
    refine Kc [0,1,2,3,4,5,6,7,8] hsel (by kernel_rfl) rfl ?_
    clear hsel
    refine En S rfl (Rm (S.tm rfl)) rfl fun a S=>En S rfl (Rm (S.tm rfl)) rfl ?_;clear S;intro a S
    obtain ⟨b1,o1,hm1,hr1⟩:=Eb (a:=a) (x:=.tmp 16) (y:=.tmp 17) (ty:=0) Ka Be (Hz hd1 hi1) rfl (S.tm rfl) (S.tm rfl)
    refine En S rfl (hr1 _) rfl ?_;clear S;intro a S
    clear hr1
    refine En S rfl (Gk isAgg3 (off:=o1) (o:=0) (S.tm rfl) (hm1.at S.emb0) rfl) rfl fun a S=>En S rfl (Rm (S.tm rfl)) rfl fun a S=>En S rfl (Rm (S.tm rfl)) rfl ?_;clear S;intro a S
    obtain ⟨hc1,h⟩:=Hl h
    obtain ⟨b2,o2,hm2,hr2⟩:=Eb (a:=a) (x:=.tmp 20) (y:=.tmp 21) (ty:=0) Ka Bs (Db hc1).1 (Db hc1).2 (S.tm rfl) (S.tm rfl)
    refine En S rfl (hr2 _) rfl ?_;clear S;intro a S
    clear hr2
    refine En S rfl (Gk isAgg3 (off:=o2) (o:=0) (S.tm rfl) (hm2.at S.emb0) rfl) rfl fun a S=>En S rfl (Lo (S.tm rfl) (S.tm rfl)) rfl fun a S=>Hk ?_
    replace S:=S.k5 0 1 12 13 24 rfl
    refine Tn (Fc h (S.tm rfl) (fun hb2 h=>?_) (fun hb2 h=>?_))
    ·refine Fr (Vk S rfl rfl fun a S=>Dl (wp_ret (Em (Cx (Cx (Em (Cx ?_)))))))
     refine Cx ?_
     obtain rfl:=Option.some.inj h
     exact Dx S results11 rfl rfl
    ·exact wp_skip (Gx (Tn (Fg (Vq S Ek rfl rfl rfl fun a S=>Vm S rfl rfl fun a S=>Dl (⟨ys1,⟨i1 + 1,⟨_,(hd1).trans (List.append_cons _ _ _),by simp [hi1]⟩,h,S.nf [] rfl ⟨rfl,rfl,rfl,(congrArg (fun z=>some (Value.int .i64 z)) (Gc hd1 hi1 (Jk Be))),trivial⟩⟩,Nat.lt_succ_self _⟩)))))
  clear S h;rintro a w2 ⟨h,S⟩;rw [hj1] at h;clear hj1 j1
  refine Tn (Fr (Vk S rfl rfl fun a S=>Dl (wp_ret ?_)))
  obtain rfl:=Option.some.inj h
  exact Dx S results11 rfl rfl
set_option maxRecDepth 20000 in
theorem Sz (w : World) (Bm : Value) (Bn : List An) (Be : Slc (view w []) 5 Bm (Bn.map An.enc)) (Bo : Value) (Br : List An) (Bs : Slc (view w []) 5 Bo (Br.map An.enc)) (r : Bool) (h : Ky Bn Br = some r) :
    Calls prog 12 [Bm,Bo].toArray w (Ret w [] fun _ v _=>v = bV r):=by
 refine Fe func12 rfl ntmps12 rfl fun a S=>?_
 unfold Ky at h
 replace S:=S.k2 0 1 rfl
 refine Fr (Vk S rfl rfl fun a S=>Dl (Fs (Fr (Vm S rfl rfl fun a S=>lv S (Ee Ja (S.tm rfl) (Ej Be)) rfl fun a S=>Vm S rfl rfl ?_))));clear S;intro a S
 refine lv S (Ee Ja (S.tm rfl) (Ej Bs)) rfl fun a S=>Vb S Lo rfl rfl rfl fun a S=>Dl (Fc h (S.tm rfl) (fun hb1 h=>?_) (fun hb1 h=>?_))
 ·refine Fr (Vk S rfl rfl fun a S=>Dl (wp_ret (Cx ?_)))
  obtain rfl:=Option.some.inj h
  exact Dx S results12 rfl rfl
 ·refine wp_skip (Tn (Fs (Fr (Vm S rfl rfl fun a S=>lv S (Ee Ja (S.tm rfl) (Ej Be)) rfl fun a S=>lv S (Rm rfl) rfl fun a S=>Dl ?_))))
  replace S:=S.k4 0 1 12 13 rfl
  obtain ⟨j1,hj1,h⟩:=Ec h
  refine Ds (fun a w'=>j1 = some r ∧ Sx w [] nov [] [] 26 a w') ?_ ?_
  ·refine wp_block (Fi (fun (ys1 : List An) a w'=>∃ i1 : Nat,(∃ dn,Bn = dn ++ ys1 ∧ dn.length = i1) ∧ Gu Br j1 ys1 i1 = some r ∧ Sx w [] nov [] [(0,Bm),(1,Bo),(12,iV (Bn.length : Int)),(13,iV (i1 : Int))] 26 a w') List.length Bn ⟨0,⟨[],rfl,rfl⟩,h,S.nf [] rfl (subR rfl)⟩ ?_)
   clear S h;rintro ys1 a w1 ⟨i1,⟨dn,hd1,hi1⟩,h,S⟩
   cases ys1 with
   | nil =>
    rw [Gu.eq_1] at h
    refine Fr (Vb S Dt rfl rfl rfl fun a S=>Ld ?_)
    replace S:=S.k5 0 1 12 13 14 rfl
    exact Tn (Fs (wp_cond_false ((S.tm rfl).trans (congrArg Value.bool (Hq hd1 hi1))) (wp_exit (Dj (Dj (Fj (Tn (⟨h,S.nf [] rfl trivial⟩))))))))
   | cons y1 ys1 =>
    rw [Gu.eq_2] at h
    refine Fr (Vb S Dt rfl rfl rfl fun a S=>Ld ?_)
    replace S:=S.k5 0 1 12 13 14 rfl
    refine Tn (Fs (wp_cond_true ((S.tm rfl).trans (congrArg Value.bool (Gb hd1 hi1))) (wp_skip (Tn (Fs (wp_block (Fr (Vm S rfl rfl fun a S=>Va S rfl rfl ?_))))))));clear S;intro a S
    refine Dl (Fs (Fw [] ([]) Tryz.mixed S rfl (by kernel_rfl) ?_));clear S;intro w3 hk1 hsel S
    refine Kc [0,1,2,3,4,5,6,7,8] hsel (by kernel_rfl) rfl ?_
    clear hsel
    refine En S rfl (Rm (S.tm rfl)) rfl fun a S=>En S rfl (Rm (S.tm rfl)) rfl ?_;clear S;intro a S
    obtain ⟨b1,o1,hm1,hr1⟩:=Eb (a:=a) (x:=.tmp 16) (y:=.tmp 17) (ty:=0) Ja Be (Hz hd1 hi1) rfl (S.tm rfl) (S.tm rfl)
    refine En S rfl (hr1 _) rfl ?_;clear S;intro a S
    clear hr1
    refine En S rfl (Fp isAgg49 sizeOf49 (off:=o1) (o:=0) (part:=(An.enc y1)) rfl rfl (S.tm rfl) (hm1.at S.emb0)) rfl fun a S=>En S rfl (Rm (S.tm rfl)) rfl fun a S=>En S rfl (Rm (S.tm rfl)) rfl ?_;clear S;intro a S
    obtain ⟨hc1,h⟩:=Hl h
    obtain ⟨b2,o2,hm2,hr2⟩:=Eb (a:=a) (x:=.tmp 20) (y:=.tmp 21) (ty:=0) Ja Bs (Db hc1).1 (Db hc1).2 (S.tm rfl) (S.tm rfl)
    refine En S rfl (hr2 _) rfl ?_;clear S;intro a S
    clear hr2
    refine En S rfl (Fp isAgg49 sizeOf49 (off:=o2) (o:=0) (part:=(An.enc (nth Br (i1 : Int)))) rfl rfl (S.tm rfl) (hm2.at S.emb0)) rfl fun a S=>En S rfl (GO (m:=y1) (n:=(nth Br (i1 : Int))) (S.tm rfl) (S.tm rfl)) rfl fun a S=>Hk ?_
    replace S:=S.k5 0 1 12 13 24 rfl
    refine Tn (Fc h (S.tm rfl) (fun hb2 h=>?_) (fun hb2 h=>?_))
    ·refine Fr (Vk S rfl rfl fun a S=>Dl (wp_ret (Em (Cx (Cx (Em (Cx ?_)))))))
     refine Cx ?_
     obtain rfl:=Option.some.inj h
     exact Dx S results12 rfl rfl
    ·exact wp_skip (Gx (Tn (Fg (Vq S Ek rfl rfl rfl fun a S=>Vm S rfl rfl fun a S=>Dl (⟨ys1,⟨i1 + 1,⟨_,(hd1).trans (List.append_cons _ _ _),by simp [hi1]⟩,h,S.nf [] rfl ⟨rfl,rfl,rfl,(congrArg (fun z=>some (Value.int .i64 z)) (Gc hd1 hi1 (Jk Be))),trivial⟩⟩,Nat.lt_succ_self _⟩)))))
  clear S h;rintro a w2 ⟨h,S⟩;rw [hj1] at h;clear hj1 j1
  refine Tn (Fr (Vk S rfl rfl fun a S=>Dl (wp_ret ?_)))
  obtain rfl:=Option.some.inj h
  exact Dx S results12 rfl rfl
set_option maxRecDepth 20000 in
theorem Ta (w : World) (Bm : Value) (Bn : List Dn) (Be : Slc (view w []) 3 Bm (Bn.map Dn.enc)) (Bo : Value) (Br : List Dn) (Bs : Slc (view w []) 3 Bo (Br.map Dn.enc)) (r : Bool) (h : Kz Bn Br = some r) :
    Calls prog 13 [Bm,Bo].toArray w (Ret w [] fun _ v _=>v = bV r):=by
 refine Fe func13 rfl ntmps13 rfl fun a S=>?_
 unfold Kz at h
 replace S:=S.k2 0 1 rfl
 refine Fr (Vk S rfl rfl fun a S=>Dl (Fs (Fr (Vm S rfl rfl fun a S=>lv S (Ee Tv (S.tm rfl) (Ej Be)) rfl fun a S=>Vm S rfl rfl ?_))));clear S;intro a S
 refine lv S (Ee Tv (S.tm rfl) (Ej Bs)) rfl fun a S=>Vb S Lo rfl rfl rfl fun a S=>Dl (Fc h (S.tm rfl) (fun hb1 h=>?_) (fun hb1 h=>?_))
 ·refine Fr (Vk S rfl rfl fun a S=>Dl (wp_ret (Cx ?_)))
  obtain rfl:=Option.some.inj h
  exact Dx S results13 rfl rfl
 ·refine wp_skip (Tn (Fs (Fr (Vm S rfl rfl fun a S=>lv S (Ee Tv (S.tm rfl) (Ej Be)) rfl fun a S=>lv S (Rm rfl) rfl fun a S=>Dl ?_))))
  replace S:=S.k4 0 1 12 13 rfl
  obtain ⟨j1,hj1,h⟩:=Ec h
  refine Ds (fun a w'=>j1 = some r ∧ Sx w [] nov [] [] 26 a w') ?_ ?_
  ·refine wp_block (Fi (fun (ys1 : List Dn) a w'=>∃ i1 : Nat,(∃ dn,Bn = dn ++ ys1 ∧ dn.length = i1) ∧ Gv Br j1 ys1 i1 = some r ∧ Sx w [] nov [] [(0,Bm),(1,Bo),(12,iV (Bn.length : Int)),(13,iV (i1 : Int))] 26 a w') List.length Bn ⟨0,⟨[],rfl,rfl⟩,h,S.nf [] rfl (subR rfl)⟩ ?_)
   clear S h;rintro ys1 a w1 ⟨i1,⟨dn,hd1,hi1⟩,h,S⟩
   cases ys1 with
   | nil =>
    rw [Gv.eq_1] at h
    refine Fr (Vb S Dt rfl rfl rfl fun a S=>Ld ?_)
    replace S:=S.k5 0 1 12 13 14 rfl
    exact Tn (Fs (wp_cond_false ((S.tm rfl).trans (congrArg Value.bool (Hq hd1 hi1))) (wp_exit (Dj (Dj (Fj (Tn (⟨h,S.nf [] rfl trivial⟩))))))))
   | cons y1 ys1 =>
    rw [Gv.eq_2] at h
    refine Fr (Vb S Dt rfl rfl rfl fun a S=>Ld ?_)
    replace S:=S.k5 0 1 12 13 14 rfl
    refine Tn (Fs (wp_cond_true ((S.tm rfl).trans (congrArg Value.bool (Gb hd1 hi1))) (wp_skip (Tn (Fs (wp_block (Fr (Vm S rfl rfl fun a S=>Va S rfl rfl ?_))))))));clear S;intro a S
    refine Dl (Fs (Fw [] ([]) Tryz.mixed S rfl (by kernel_rfl) ?_));clear S;intro w3 hk1 hsel S
    refine Kc [0,1,2,3,4,5,6,7,8] hsel (by kernel_rfl) rfl ?_
    clear hsel
    refine En S rfl (Rm (S.tm rfl)) rfl fun a S=>En S rfl (Rm (S.tm rfl)) rfl ?_;clear S;intro a S
    obtain ⟨b1,o1,hm1,hr1⟩:=Eb (a:=a) (x:=.tmp 16) (y:=.tmp 17) (ty:=0) Tv Be (Hz hd1 hi1) rfl (S.tm rfl) (S.tm rfl)
    refine En S rfl (hr1 _) rfl ?_;clear S;intro a S
    clear hr1
    refine En S rfl (Fp isAgg52 sizeOf52 (off:=o1) (o:=0) (part:=(Dn.enc y1)) rfl rfl (S.tm rfl) (hm1.at S.emb0)) rfl fun a S=>En S rfl (Rm (S.tm rfl)) rfl fun a S=>En S rfl (Rm (S.tm rfl)) rfl ?_;clear S;intro a S
    obtain ⟨hc1,h⟩:=Hl h
    obtain ⟨b2,o2,hm2,hr2⟩:=Eb (a:=a) (x:=.tmp 20) (y:=.tmp 21) (ty:=0) Tv Bs (Db hc1).1 (Db hc1).2 (S.tm rfl) (S.tm rfl)
    refine En S rfl (hr2 _) rfl ?_;clear S;intro a S
    clear hr2
    refine En S rfl (Fp isAgg52 sizeOf52 (off:=o2) (o:=0) (part:=(Dn.enc (nth Br (i1 : Int)))) rfl rfl (S.tm rfl) (hm2.at S.emb0)) rfl fun a S=>En S rfl (GP (m:=y1) (n:=(nth Br (i1 : Int))) (S.tm rfl) (S.tm rfl)) rfl fun a S=>Hk ?_
    replace S:=S.k5 0 1 12 13 24 rfl
    refine Tn (Fc h (S.tm rfl) (fun hb2 h=>?_) (fun hb2 h=>?_))
    ·refine Fr (Vk S rfl rfl fun a S=>Dl (wp_ret (Em (Cx (Cx (Em (Cx ?_)))))))
     refine Cx ?_
     obtain rfl:=Option.some.inj h
     exact Dx S results13 rfl rfl
    ·exact wp_skip (Gx (Tn (Fg (Vq S Ek rfl rfl rfl fun a S=>Vm S rfl rfl fun a S=>Dl (⟨ys1,⟨i1 + 1,⟨_,(hd1).trans (List.append_cons _ _ _),by simp [hi1]⟩,h,S.nf [] rfl ⟨rfl,rfl,rfl,(congrArg (fun z=>some (Value.int .i64 z)) (Gc hd1 hi1 (Jk Be))),trivial⟩⟩,Nat.lt_succ_self _⟩)))))
  clear S h;rintro a w2 ⟨h,S⟩;rw [hj1] at h;clear hj1 j1
  refine Tn (Fr (Vk S rfl rfl fun a S=>Dl (wp_ret ?_)))
  obtain rfl:=Option.some.inj h
  exact Dx S results13 rfl rfl
theorem Tf (w : World) (Av : Int) (r : Bool) (h : Qn Av = r) :
    Calls prog 91 [iV Av].toArray w (Ret w [] fun _ v _=>v = bV r):=by
 refine Fe func91 rfl ntmps91 rfl fun a S=>?_
 unfold Qn at h
 replace S:=S.k1 0 rfl
 refine Fr (Vk S rfl rfl fun a S=>Dz (Vm S rfl rfl fun a S=>lv S (Tj (S.tm rfl) rfl (by decide)) rfl fun a S=>Vq S Jz rfl rfl rfl fun a S=>Vm S rfl rfl ?_));clear S;intro a S
 refine Hw 9 (fun a w'=>Keep [] w w' ∧ Sx w [] nov [] [(15,bV ((decide ((Int.tmod Av 4) = 0)) && ((!decide ((Int.tmod Av 100) = 0)) || (decide ((Int.tmod Av 400) = 0)))))] 16 a w') ?_ ?_
 ·rcases Bool.eq_false_or_eq_true (decide ((Int.tmod Av 4) = 0)) with hb1 | hb1
  ·refine Cz S rfl rfl rfl hb1 (Vm S rfl rfl fun a S=>Cz S rfl rfl rfl hb1 (lv S (Tj (S.tm rfl) rfl (by decide)) rfl fun a S=>Cz S rfl rfl rfl hb1 (Vq S Lo rfl rfl rfl fun a S=>Cz S rfl rfl rfl hb1 (Vm S rfl rfl fun a S=>Hw 4 (fun a w'=>Keep [] w w' ∧ Sx w [] nov [] [(6,bV (decide ((Int.tmod Av 4) = 0))),(14,bV ((!decide ((Int.tmod Av 100) = 0)) || (decide ((Int.tmod Av 400) = 0))))] 16 a w') ?_ ?_))))
   ·rcases Bool.eq_false_or_eq_true (!decide ((Int.tmod Av 100) = 0)) with hb2 | hb2
    ·iterate 3 (refine Gm S rfl rfl rfl (Md hb2) rfl ?_ rfl;clear S;intro a S)
     exact Cz S rfl rfl rfl hb1 (lv S (Kt (decide ((Int.tmod Av 400) = 0)) hb2 (S.tm rfl) rfl) rfl fun a S=>Dl (⟨Keep.refl _ _,S.nf [] rfl (subR rfl)⟩))
    ·exact Cz S rfl rfl rfl hb2 (Vm S rfl rfl fun a S=>Cz S rfl rfl rfl hb2 (lv S (Tj (S.tm rfl) rfl (by decide)) rfl fun a S=>Cz S rfl rfl rfl hb2 (Vq S Jz rfl rfl rfl fun a S=>Cz S rfl rfl rfl hb1 (lv S (Ku hb2 (S.tm rfl) (S.tm rfl)) rfl fun a S=>Dl (⟨Keep.refl _ _,S.nf [] rfl (subR rfl)⟩)))))
   clear S;rintro a w2 ⟨hk1,S⟩
   exact lv S (Hg hb1 (S.tm rfl) (S.tm rfl)) rfl fun a S=>Dl (⟨hk1,S.nf [] rfl ⟨rfl,trivial⟩⟩)
  ·iterate 4 (refine Gm S rfl rfl rfl (Jt hb1) rfl ?_ rfl;clear S;intro a S)
   iterate 3 (refine Ya S rfl rfl rfl rfl ?_;clear S;intro a S)
   exact Gm S rfl rfl rfl (Jt hb1) rfl (fun a S=>lv S (Hh ((!decide ((Int.tmod Av 100) = 0)) || (decide ((Int.tmod Av 400) = 0))) hb1 (S.tm rfl) rfl) rfl fun a S=>Dl (⟨Keep.refl _ _,S.nf [] rfl ⟨rfl,trivial⟩⟩)) rfl
 clear S;rintro a w1 ⟨hk2,S⟩
 refine Va S rfl rfl fun a S=>Dl (wp_ret ?_)
 subst h
 exact Dx S results91 rfl rfl
theorem Qg (w : World) (Av : Int) (Bw : Int) (r : Int) (h : Jq Av Bw = r) :
    Calls prog 57 [iV Av,iV Bw].toArray w (Ret w [] fun _ v _=>v = iV r):=by
 refine Fe func57 rfl ntmps57 rfl fun a S=>?_
 unfold Jq at h
 replace S:=S.k2 0 1 rfl
 refine Fr (Vk S rfl rfl fun a S=>Dl (Fs (Fr (Vm S rfl rfl fun a S=>Dl ?_))))
 refine wp_block (Fr (Vq S Jz rfl rfl rfl fun a S=>Va S rfl rfl fun a S=>Dl (Fc h (S.tm rfl) (fun hb1 h=>?_) (fun hb1 h=>?_))))
 ·refine Fs (Fr (Vm S rfl rfl fun a S=>Dc S (fun _=>Cw (vs:=[iV Av]) ⟨(S.tm rfl),trivial⟩ call91) (Tf _ Av _ rfl) rfl ?_));clear S;intro v1 a w1 hv1 hk1 hn1 S
  subst hv1
  refine Dl (Fc h (S.tm rfl) (fun hb2 h=>?_) (fun hb2 h=>?_))
  ·refine Fr (Vk S rfl rfl fun a S=>Dl (wp_ret (Cx (Em (Cx ?_)))))
   subst h
   exact Dx S results57 rfl rfl
  ·refine wp_skip (Tn (Fr (Vk S rfl rfl fun a S=>Dl (wp_ret (Em (Cx ?_))))))
   subst h
   exact Dx S results57 rfl rfl
 ·refine Fs (Fr (Vq S Jz rfl rfl rfl fun a S=>Va S rfl rfl fun a S=>Dl ?_))
  obtain ⟨j1,hj1,h⟩:=Ec h
  refine Ds (fun a w'=>∃ x1 : Bool,j1 x1 = r ∧ Sx w [] nov [] [(10,bV x1)] 15 a w') ?_ ?_
  ·refine Fc h (S.tm rfl) (fun hb3 h=>?_) (fun hb3 h=>?_)
   ·exact wp_skip (Tn (⟨decide (Bw = 4),h,S.nf [] rfl ⟨rfl,trivial⟩⟩))
   ·refine Fr (Vq S Jz rfl rfl rfl fun a S=>Va S rfl rfl fun a S=>Dl ?_)
    obtain ⟨j2,hj2,h⟩:=Ec h
    refine Ds (fun a w'=>∃ x2 : Bool,j2 x2 = r ∧ Sx w [] nov [] [(10,bV x2)] 15 a w') ?_ ?_
    ·refine Fc h (S.tm rfl) (fun hb4 h=>?_) (fun hb4 h=>?_)
     ·exact wp_skip (Tn (⟨decide (Bw = 6),h,S.nf [] rfl ⟨rfl,trivial⟩⟩))
     ·refine Fr (Vq S Jz rfl rfl rfl fun a S=>Va S rfl rfl fun a S=>Dl ?_)
      obtain ⟨j3,hj3,h⟩:=Ec h
      refine Ds (fun a w'=>∃ x3 : Bool,j3 x3 = r ∧ Sx w [] nov [] [(10,bV x3)] 15 a w') ?_ ?_
      ·refine Fc h (S.tm rfl) (fun hb5 h=>?_) (fun hb5 h=>?_)
       ·exact wp_skip (Tn (⟨decide (Bw = 9),h,S.nf [] rfl ⟨rfl,trivial⟩⟩))
       ·exact Fg (Vq S Jz rfl rfl rfl fun a S=>Va S rfl rfl fun a S=>Dl (⟨decide (Bw = 11),h,S.nf [] rfl ⟨rfl,trivial⟩⟩))
      clear S h;rintro a w4 ⟨x3,h,S⟩;rw [hj3] at h;clear hj3 j3
      exact Tn (⟨x3,h,S.nf [] rfl ⟨rfl,trivial⟩⟩)
    clear S h;rintro a w3 ⟨x2,h,S⟩;rw [hj2] at h;clear hj2 j2
    exact Tn (⟨x2,h,S.nf [] rfl ⟨rfl,trivial⟩⟩)
  clear S h;rintro a w2 ⟨x1,h,S⟩;rw [hj1] at h;clear hj1 j1
  refine Tn (Fc h (S.tm rfl) (fun hb6 h=>?_) (fun hb6 h=>?_))
  ·refine Fr (Vk S rfl rfl fun a S=>Dl (wp_ret (Em (Cx ?_))))
   subst h
   exact Dx S results57 rfl rfl
  ·refine wp_skip (Gx (Tn (Fr (Vk S rfl rfl fun a S=>Dl (wp_ret ?_)))))
   subst h
   exact Dx S results57 rfl rfl
theorem Qj (w : World) (Av : Int) (r : Int) (h : Ll Av = r) :
    Calls prog 58 [iV Av].toArray w (Ret w [] fun _ v _=>v = iV r):=by
 refine Fe func58 rfl ntmps58 rfl fun a S=>?_
 unfold Ll at h
 replace S:=S.k1 0 rfl
 refine Fr (Vk S rfl rfl fun a S=>Dl (Fs (Fr (Vm S rfl rfl fun a S=>Dc S (fun _=>Cw (vs:=[iV Av]) ⟨(S.tm rfl),trivial⟩ call91) (Tf _ Av _ rfl) rfl ?_))));clear S;intro v1 a w1 hv1 hk1 hn1 S
 subst hv1
 refine Dl (Fc h (S.tm rfl) (fun hb1 h=>?_) (fun hb1 h=>?_))
 ·refine Fr (Vk S rfl rfl fun a S=>Dl (wp_ret (Cx ?_)))
  subst h
  exact Dx S results58 rfl rfl
 ·refine wp_skip (Tn (Fr (Vk S rfl rfl fun a S=>Dl (wp_ret ?_))))
  subst h
  exact Dx S results58 rfl rfl
theorem Xc (w : World) (Ay : Int) (r : Bool) (h : Rr Ay = r) :
    Calls prog 59 [iV Ay].toArray w (Ret w [] fun _ v _=>v = bV r):=by
 refine Fe func59 rfl ntmps59 rfl fun a S=>?_
 unfold Rr at h
 replace S:=S.k1 0 rfl
 refine Fr (Vk S rfl rfl fun a S=>Dz (Vm S rfl rfl fun a S=>Dc S (fun _=>Cw (vs:=[iV Ay,iV (-40000),iV 4000]) ⟨(S.tm rfl),rfl,rfl,trivial⟩ call28) (El _ Ay (-40000) 4000 _ rfl) rfl ?_));clear S;intro v1 a w1 hv1 hk1 hn1 S
 subst hv1
 refine Va S rfl rfl fun a S=>Dl (wp_ret ?_)
 subst h
 exact Dx S results59 rfl rfl
set_option maxRecDepth 20000 in
theorem Xd (w : World) (Ao : Iz) (r : Int × Int) (h : Rs Ao = some r) :
    Calls prog 33 [.agg (Iz.enc Ao).toArray].toArray w (Ret w [] fun _ v _=>v = .tuple #[iV r.1,iV r.2]):=by
 refine Fe func33 rfl ntmps33 rfl fun a S=>?_
 unfold Rs at h
 replace S:=S.k1 0 rfl
 refine Fr (Nj S (S.tm rfl) (cs:=(Iz.enc Ao)) rfl rfl ?_);clear S;intro a w1 b1 hz1 hk1 S
 refine Vk S rfl rfl fun a S=>Vk S rfl rfl fun a S=>Dl (Fs (Fs ?_))
 obtain ⟨j1,hj1,h⟩:=Ec h
 refine Ds (fun a w'=>∃ x1 : Bool,j1 x1 = some r ∧ Sx w [] nov [.blk b1 (Iz.enc Ao) 82] [(1,.pointer (some ⟨b1,0,none⟩)),(28,bV x1)] 68 a w') ?_ ?_
 ·rcases Bool.eq_false_or_eq_true (!(Dd Ao.Year 1900 2100)) with hb1 | hb1
  ·replace h:=Om h hb1
   rcases Bool.eq_false_or_eq_true true with hb2 | hb2
   ·replace h:=Om h hb2
    refine Fw [] ([]) Tryz.mixed S rfl (by kernel_rfl) ?_;clear S;intro w6 hk5 hsel S
    refine Dk 0 S hsel rfl rfl rfl (by kernel_rfl) (by kernel_rfl) rfl (fun _ hw=>(Fk Qq (S.tm rfl))) fun a S=>Dk 1 S hsel rfl rfl rfl (by kernel_rfl) (by kernel_rfl) rfl (fun _ hw=>(Gk isAgg3 (off:=0) (o:=0) (S.tm rfl) ((S.blk_mem (i:=0) (cells:=(Iz.enc Ao)) (b:=b1) (T:=82) rfl (Gn (e':=.blk b1 (Iz.enc Ao) 82))).kept hw) rfl)) fun a S=>Ex 2 (by kernel_rfl) rfl (Dc S (fun _=>Cw (vs:=[iV Ao.Year,iV 1900,iV 2100]) ⟨(S.tm rfl),rfl,rfl,trivial⟩ call28) (El _ Ao.Year 1900 2100 _ rfl) rfl ?_);clear S;intro v4 a w7 hv4 hk6 hn4 S
    subst hv4
    refine Ld (Fx hk6 (Kc [3,4,5,6,7,8,9,10,11,12,13,14,15,16,17,18,19,20] hsel (by kernel_rfl) rfl ?_))
    clear hsel
    refine En S rfl (Hp (S.tm rfl)) rfl fun a S=>En S rfl (Rm (S.tm rfl)) rfl ?_;clear S;intro a S
    iterate 4 (refine Nx S rfl rfl rfl rfl (Md hb1) rfl ?_ rfl;clear S;intro a S)
    refine En S rfl (Ot hb1 (S.tm rfl) rfl) rfl fun a S=>En S rfl (Rm (S.tm rfl)) rfl ?_;clear S;intro a S
    iterate 9 (refine Nx S rfl rfl rfl rfl (Md hb2) rfl ?_ rfl;clear S;intro a S)
    refine En S rfl (Ot hb2 (S.tm rfl) rfl) rfl fun a S=>Hk ?_
    replace S:=(S.nl [.blk b1 (Iz.enc Ao) 82] [true] rfl).k2 1 28 rfl
    exact Tn (⟨true,h,S.nf [true] rfl (subR rfl)⟩)
   ·replace h:=On h hb2
    refine Fw [] ([]) Tryz.mixed S rfl (by kernel_rfl) ?_;clear S;intro w11 hk10 hsel S
    refine Dk 0 S hsel rfl rfl rfl (by kernel_rfl) (by kernel_rfl) rfl (fun _ hw=>(Fk Qq (S.tm rfl))) fun a S=>Dk 1 S hsel rfl rfl rfl (by kernel_rfl) (by kernel_rfl) rfl (fun _ hw=>(Gk isAgg3 (off:=0) (o:=0) (S.tm rfl) ((S.blk_mem (i:=0) (cells:=(Iz.enc Ao)) (b:=b1) (T:=82) rfl (Gn (e':=.blk b1 (Iz.enc Ao) 82))).kept hw) rfl)) fun a S=>Ex 2 (by kernel_rfl) rfl (Dc S (fun _=>Cw (vs:=[iV Ao.Year,iV 1900,iV 2100]) ⟨(S.tm rfl),rfl,rfl,trivial⟩ call28) (El _ Ao.Year 1900 2100 _ rfl) rfl ?_);clear S;intro v8 a w12 hv8 hk11 hn8 S
    subst hv8
    refine Ld (Fx hk11 (Dk 3 S hsel rfl rfl rfl (by kernel_rfl) (by kernel_rfl) rfl (fun _ hw=>(Hp (S.tm rfl))) fun a S=>Dk 4 S hsel rfl rfl rfl (by kernel_rfl) (by kernel_rfl) rfl (fun _ hw=>(Rm (S.tm rfl))) fun a S=>BC 5 S hsel rfl rfl rfl rfl (Md hb1) rfl (by kernel_rfl) (by kernel_rfl) rfl fun a S=>BC 6 S hsel rfl rfl rfl rfl (Md hb1) rfl (by kernel_rfl) (by kernel_rfl) rfl fun a S=>BC 7 S hsel rfl rfl rfl rfl (Md hb1) rfl (by kernel_rfl) (by kernel_rfl) rfl fun a S=>BC 8 S hsel rfl rfl rfl rfl (Md hb1) rfl (by kernel_rfl) (by kernel_rfl) rfl fun a S=>Dk 9 S hsel rfl rfl rfl (by kernel_rfl) (by kernel_rfl) rfl (fun _ hw=>(Ot hb1 (S.tm rfl) rfl)) fun a S=>Dk 10 S hsel rfl rfl rfl (by kernel_rfl) (by kernel_rfl) rfl (fun _ hw=>(Rm (S.tm rfl))) fun a S=>Dy 11 S hsel rfl rfl rfl rfl hb2 rfl rfl (by kernel_rfl) (by kernel_rfl) rfl (fun _ hw=>(Fk BP (S.tm rfl))) ?_));clear S;intro a S
    refine Dy 12 S hsel rfl rfl rfl rfl hb2 rfl rfl (by kernel_rfl) (by kernel_rfl) rfl (fun _ hw=>(Gk isAgg3 (off:=0) (o:=2) (S.tm rfl) ((S.blk_mem (i:=0) (cells:=(Iz.enc Ao)) (b:=b1) (T:=82) rfl (Gn (e':=.blk b1 (Iz.enc Ao) 82))).kept hw) rfl)) fun a S=>Dy 13 S hsel rfl rfl rfl rfl hb2 rfl rfl (by kernel_rfl) (by kernel_rfl) rfl (fun _ hw=>(Fk Qq (S.tm rfl))) fun a S=>Dy 14 S hsel rfl rfl rfl rfl hb2 rfl rfl (by kernel_rfl) (by kernel_rfl) rfl (fun _ hw=>(Gk isAgg3 (off:=0) (o:=0) (S.tm rfl) ((S.blk_mem (i:=0) (cells:=(Iz.enc Ao)) (b:=b1) (T:=82) rfl (Gn (e':=.blk b1 (Iz.enc Ao) 82))).kept hw) rfl)) fun a S=>Dy 15 S hsel rfl rfl rfl rfl hb2 rfl rfl (by kernel_rfl) (by kernel_rfl) rfl (fun _ hw=>(Fk Wh (S.tm rfl))) fun a S=>Dy 16 S hsel rfl rfl rfl rfl hb2 rfl rfl (by kernel_rfl) (by kernel_rfl) rfl (fun _ hw=>(Gk isAgg3 (off:=0) (o:=1) (S.tm rfl) ((S.blk_mem (i:=0) (cells:=(Iz.enc Ao)) (b:=b1) (T:=82) rfl (Gn (e':=.blk b1 (Iz.enc Ao) 82))).kept hw) rfl)) fun a S=>Ex 17 (by kernel_rfl) rfl (Cz S rfl rfl rfl hb2 (Dc S (fun _=>Cw (vs:=[iV Ao.Year,iV Ao.Month]) ⟨(S.tm rfl),(S.tm rfl),trivial⟩ call57) (Qg _ Ao.Year Ao.Month _ rfl) rfl ?_));clear S;intro v9 a w13 hv9 hk12 hn9 S
    subst hv9
    refine Ld (Fx hk12 (Ex 18 (by kernel_rfl) rfl (Cz S rfl rfl rfl hb2 (Dc S (fun _=>Cw (vs:=[iV Ao.Day,iV 1,iV (Jq Ao.Year Ao.Month)]) ⟨(S.tm rfl),rfl,(S.tm rfl),trivial⟩ call28) (El _ Ao.Day 1 (Jq Ao.Year Ao.Month) _ rfl) rfl ?_))));clear S;intro v10 a w14 hv10 hk13 hn10 S
    subst hv10
    refine Ld (Fx hk13 (Kc [19,20] hsel (by kernel_rfl) rfl ?_))
    clear hsel
    refine Ef S rfl rfl rfl rfl hb2 (Fa S (Hp (S.tm rfl)) rfl fun a S=>En S rfl (Ou hb2 (S.tm rfl) (S.tm rfl)) rfl fun a S=>Hk ?_)
    replace S:=(S.nl [.blk b1 (Iz.enc Ao) 82] [true] rfl).k2 1 28 rfl
    exact Tn (⟨!(Dd Ao.Day 1 (Jq Ao.Year Ao.Month)),h,S.nf [true] rfl (subR rfl)⟩)
  ·replace h:=On h hb1
   rcases Bool.eq_false_or_eq_true (!(Dd Ao.Month 1 12)) with hb3 | hb3
   ·replace h:=Om h hb3
    refine Fw [] ([]) Tryz.mixed S rfl (by kernel_rfl) ?_;clear S;intro w19 hk18 hsel S
    refine Dk 0 S hsel rfl rfl rfl (by kernel_rfl) (by kernel_rfl) rfl (fun _ hw=>(Fk Qq (S.tm rfl))) fun a S=>Dk 1 S hsel rfl rfl rfl (by kernel_rfl) (by kernel_rfl) rfl (fun _ hw=>(Gk isAgg3 (off:=0) (o:=0) (S.tm rfl) ((S.blk_mem (i:=0) (cells:=(Iz.enc Ao)) (b:=b1) (T:=82) rfl (Gn (e':=.blk b1 (Iz.enc Ao) 82))).kept hw) rfl)) fun a S=>Ex 2 (by kernel_rfl) rfl (Dc S (fun _=>Cw (vs:=[iV Ao.Year,iV 1900,iV 2100]) ⟨(S.tm rfl),rfl,rfl,trivial⟩ call28) (El _ Ao.Year 1900 2100 _ rfl) rfl ?_);clear S;intro v15 a w20 hv15 hk19 hn15 S
    subst hv15
    refine Ld (Fx hk19 (Dk 3 S hsel rfl rfl rfl (by kernel_rfl) (by kernel_rfl) rfl (fun _ hw=>(Hp (S.tm rfl))) fun a S=>Dk 4 S hsel rfl rfl rfl (by kernel_rfl) (by kernel_rfl) rfl (fun _ hw=>(Rm (S.tm rfl))) fun a S=>Dy 5 S hsel rfl rfl rfl rfl hb1 rfl rfl (by kernel_rfl) (by kernel_rfl) rfl (fun _ hw=>(Fk Wh (S.tm rfl))) fun a S=>Dy 6 S hsel rfl rfl rfl rfl hb1 rfl rfl (by kernel_rfl) (by kernel_rfl) rfl (fun _ hw=>(Gk isAgg3 (off:=0) (o:=1) (S.tm rfl) ((S.blk_mem (i:=0) (cells:=(Iz.enc Ao)) (b:=b1) (T:=82) rfl (Gn (e':=.blk b1 (Iz.enc Ao) 82))).kept hw) rfl)) fun a S=>Ex 7 (by kernel_rfl) rfl (Cz S rfl rfl rfl hb1 (Dc S (fun _=>Cw (vs:=[iV Ao.Month,iV 1,iV 12]) ⟨(S.tm rfl),rfl,rfl,trivial⟩ call28) (El _ Ao.Month 1 12 _ rfl) rfl ?_))));clear S;intro v16 a w21 hv16 hk20 hn16 S
    subst hv16
    refine Ld (Fx hk20 (Kc [8,9,10,11,12,13,14,15,16,17,18,19,20] hsel (by kernel_rfl) rfl ?_))
    clear hsel
    refine Ef S rfl rfl rfl rfl hb1 (Fa S (Hp (S.tm rfl)) rfl fun a S=>En S rfl (Ou hb1 (S.tm rfl) (S.tm rfl)) rfl fun a S=>En S rfl (Rm (S.tm rfl)) rfl ?_);clear S;intro a S
    iterate 9 (refine Nx S rfl rfl rfl rfl (Md hb3) rfl ?_ rfl;clear S;intro a S)
    refine En S rfl (Ot hb3 (S.tm rfl) rfl) rfl fun a S=>Hk ?_
    replace S:=(S.nl [.blk b1 (Iz.enc Ao) 82] [true] rfl).k2 1 28 rfl
    exact Tn (⟨true,h,S.nf [true] rfl (subR rfl)⟩)
   ·replace h:=On h hb3
    refine Fw [] ([]) Tryz.mixed S rfl (by kernel_rfl) ?_;clear S;intro w26 hk25 hsel S
    refine Dk 0 S hsel rfl rfl rfl (by kernel_rfl) (by kernel_rfl) rfl (fun _ hw=>(Fk Qq (S.tm rfl))) fun a S=>Dk 1 S hsel rfl rfl rfl (by kernel_rfl) (by kernel_rfl) rfl (fun _ hw=>(Gk isAgg3 (off:=0) (o:=0) (S.tm rfl) ((S.blk_mem (i:=0) (cells:=(Iz.enc Ao)) (b:=b1) (T:=82) rfl (Gn (e':=.blk b1 (Iz.enc Ao) 82))).kept hw) rfl)) fun a S=>Ex 2 (by kernel_rfl) rfl (Dc S (fun _=>Cw (vs:=[iV Ao.Year,iV 1900,iV 2100]) ⟨(S.tm rfl),rfl,rfl,trivial⟩ call28) (El _ Ao.Year 1900 2100 _ rfl) rfl ?_);clear S;intro v21 a w27 hv21 hk26 hn21 S
    subst hv21
    refine Ld (Fx hk26 (Dk 3 S hsel rfl rfl rfl (by kernel_rfl) (by kernel_rfl) rfl (fun _ hw=>(Hp (S.tm rfl))) fun a S=>Dk 4 S hsel rfl rfl rfl (by kernel_rfl) (by kernel_rfl) rfl (fun _ hw=>(Rm (S.tm rfl))) fun a S=>Dy 5 S hsel rfl rfl rfl rfl hb1 rfl rfl (by kernel_rfl) (by kernel_rfl) rfl (fun _ hw=>(Fk Wh (S.tm rfl))) fun a S=>Dy 6 S hsel rfl rfl rfl rfl hb1 rfl rfl (by kernel_rfl) (by kernel_rfl) rfl (fun _ hw=>(Gk isAgg3 (off:=0) (o:=1) (S.tm rfl) ((S.blk_mem (i:=0) (cells:=(Iz.enc Ao)) (b:=b1) (T:=82) rfl (Gn (e':=.blk b1 (Iz.enc Ao) 82))).kept hw) rfl)) fun a S=>Ex 7 (by kernel_rfl) rfl (Cz S rfl rfl rfl hb1 (Dc S (fun _=>Cw (vs:=[iV Ao.Month,iV 1,iV 12]) ⟨(S.tm rfl),rfl,rfl,trivial⟩ call28) (El _ Ao.Month 1 12 _ rfl) rfl ?_))));clear S;intro v22 a w28 hv22 hk27 hn22 S
    subst hv22
    refine Ld (Fx hk27 (Dy 8 S hsel rfl rfl rfl rfl hb1 rfl rfl (by kernel_rfl) (by kernel_rfl) rfl (fun _ hw=>(Hp (S.tm rfl))) fun a S=>Dk 9 S hsel rfl rfl rfl (by kernel_rfl) (by kernel_rfl) rfl (fun _ hw=>(Ou hb1 (S.tm rfl) (S.tm rfl))) fun a S=>Dk 10 S hsel rfl rfl rfl (by kernel_rfl) (by kernel_rfl) rfl (fun _ hw=>(Rm (S.tm rfl))) fun a S=>Dy 11 S hsel rfl rfl rfl rfl hb3 rfl rfl (by kernel_rfl) (by kernel_rfl) rfl (fun _ hw=>(Fk BP (S.tm rfl))) fun a S=>Dy 12 S hsel rfl rfl rfl rfl hb3 rfl rfl (by kernel_rfl) (by kernel_rfl) rfl (fun _ hw=>(Gk isAgg3 (off:=0) (o:=2) (S.tm rfl) ((S.blk_mem (i:=0) (cells:=(Iz.enc Ao)) (b:=b1) (T:=82) rfl (Gn (e':=.blk b1 (Iz.enc Ao) 82))).kept hw) rfl)) fun a S=>Dy 13 S hsel rfl rfl rfl rfl hb3 rfl rfl (by kernel_rfl) (by kernel_rfl) rfl (fun _ hw=>(Fk Qq (S.tm rfl))) fun a S=>Dy 14 S hsel rfl rfl rfl rfl hb3 rfl rfl (by kernel_rfl) (by kernel_rfl) rfl (fun _ hw=>(Gk isAgg3 (off:=0) (o:=0) (S.tm rfl) ((S.blk_mem (i:=0) (cells:=(Iz.enc Ao)) (b:=b1) (T:=82) rfl (Gn (e':=.blk b1 (Iz.enc Ao) 82))).kept hw) rfl)) fun a S=>Dy 15 S hsel rfl rfl rfl rfl hb3 rfl rfl (by kernel_rfl) (by kernel_rfl) rfl (fun _ hw=>(Fk Wh (S.tm rfl))) fun a S=>Dy 16 S hsel rfl rfl rfl rfl hb3 rfl rfl (by kernel_rfl) (by kernel_rfl) rfl (fun _ hw=>(Gk isAgg3 (off:=0) (o:=1) (S.tm rfl) ((S.blk_mem (i:=0) (cells:=(Iz.enc Ao)) (b:=b1) (T:=82) rfl (Gn (e':=.blk b1 (Iz.enc Ao) 82))).kept hw) rfl)) ?_));clear S;intro a S
    refine Ex 17 (by kernel_rfl) rfl (Cz S rfl rfl rfl hb3 (Dc S (fun _=>Cw (vs:=[iV Ao.Year,iV Ao.Month]) ⟨(S.tm rfl),(S.tm rfl),trivial⟩ call57) (Qg _ Ao.Year Ao.Month _ rfl) rfl ?_));clear S;intro v23 a w29 hv23 hk28 hn23 S
    subst hv23
    refine Ld (Fx hk28 (Ex 18 (by kernel_rfl) rfl (Cz S rfl rfl rfl hb3 (Dc S (fun _=>Cw (vs:=[iV Ao.Day,iV 1,iV (Jq Ao.Year Ao.Month)]) ⟨(S.tm rfl),rfl,(S.tm rfl),trivial⟩ call28) (El _ Ao.Day 1 (Jq Ao.Year Ao.Month) _ rfl) rfl ?_))));clear S;intro v24 a w30 hv24 hk29 hn24 S
    subst hv24
    refine Ld (Fx hk29 (Kc [19,20] hsel (by kernel_rfl) rfl ?_))
    clear hsel
    refine Ef S rfl rfl rfl rfl hb3 (Fa S (Hp (S.tm rfl)) rfl fun a S=>En S rfl (Ou hb3 (S.tm rfl) (S.tm rfl)) rfl fun a S=>Hk ?_)
    replace S:=(S.nl [.blk b1 (Iz.enc Ao) 82] [true] rfl).k2 1 28 rfl
    exact Tn (⟨!(Dd Ao.Day 1 (Jq Ao.Year Ao.Month)),h,S.nf [true] rfl (subR rfl)⟩)
 clear S h;rintro a w2 ⟨x1,h,S⟩;rw [hj1] at h;clear hj1 j1
 refine Tn (Fc h (S.tm rfl) (fun hb4 h=>?_) (fun hb4 h=>?_))
 ·refine Fr (Vk S rfl rfl fun a S=>Vk S rfl rfl fun a S=>Dl (wp_ret (Cx ?_)))
  obtain rfl:=Option.some.inj h
  exact Kj S results33 rfl rfl rfl
 ·refine wp_skip (Tn (Fr (Vf BP S rfl rfl fun a S=>Vl isAgg3 0 S rfl rfl rfl rfl fun a S=>Vq S Jb rfl rfl rfl fun a S=>Va S rfl rfl fun a S=>Dl (Fs ?_))))
  refine Fr (Vk S rfl rfl fun a S=>Dl ?_)
  replace S:=S.k3 1 4 5 rfl
  obtain ⟨j2,hj2,h⟩:=Ec h
  refine Ds (fun a w'=>∃ x2 : Int,j2 x2 = some r ∧ Sx w [] nov [.blk b1 (Iz.enc Ao) 82] [(1,.pointer (some ⟨b1,0,none⟩)),(4,iV x2)] 68 a w') ?_ ?_
  ·refine wp_block (Fi (fun (m1 : Nat) a w'=>∃ x2 : Int,∃ x3 : Int,Jv Ao j2 m1 x2 x3 = some r ∧ Sx w [] nov [.blk b1 (Iz.enc Ao) 82] [(1,.pointer (some ⟨b1,0,none⟩)),(4,iV x2),(5,iV x3)] 68 a w') id ((Ao.Month - 1).toNat + 2) ⟨W (Ao.Day - 1),1,h,S.nf [true] rfl (subR rfl)⟩ ?_)
   clear S h;rintro m1 a w31 ⟨x2,x3,h,S⟩
   cases m1 with
   | zero=>rw [Jv.eq_1] at h;cases h
   | succ m1 =>
    rw [Jv.eq_2] at h
    refine Fs (Fr (Vm S rfl rfl fun a S=>Vf Wh S rfl rfl fun a S=>Vl isAgg3 0 S rfl rfl rfl rfl fun a S=>Vb S Dt rfl rfl rfl fun a S=>Dl (Fc h (S.tm rfl) (fun hb5 h=>?_) (fun hb5 h=>?_))))
    ·refine wp_skip (Tn (Fs (wp_block (Fg (Vm S rfl rfl fun a S=>Vf Qq S rfl rfl fun a S=>Vl isAgg3 0 S rfl rfl rfl rfl fun a S=>Vm S rfl rfl fun a S=>Dc S (fun _=>Cw (vs:=[iV Ao.Year,iV x3]) ⟨(S.tm rfl),(S.tm rfl),trivial⟩ call57) (Qg _ Ao.Year x3 _ rfl) rfl ?_)))));clear S;intro v25 a w33 hv25 hk30 hn25 S
     subst hv25
     refine Vb S Ek rfl rfl rfl fun a S=>Va S rfl rfl fun a S=>Ld (Gx (Tn (Fg (Vm S rfl rfl fun a S=>Vq S Ek rfl rfl rfl fun a S=>Va S rfl rfl fun a S=>Ld ?_))))
     replace S:=S.k3 1 4 5 rfl
     exact Tn (⟨m1,⟨W (x2 + (Jq Ao.Year x3)),W (x3 + 1),h,S.nf [true] rfl ⟨rfl,rfl,rfl,trivial⟩⟩,Nat.lt_succ_self _⟩)
    ·exact wp_exit (Dj (Dj (Fj (Tn (⟨x2,h,S.nf [true] rfl (subR rfl)⟩)))))
  clear S h;rintro a w32 ⟨x2,h,S⟩;rw [hj2] at h;clear hj2 j2
  refine Tn (Fs (Fr (Vk S rfl rfl fun a S=>Dl ?_)))
  replace S:=S.k3 1 4 6 rfl
  obtain ⟨j3,hj3,h⟩:=Ec h
  refine Ds (fun a w'=>∃ x4 : Int,j3 x4 = some r ∧ Sx w [] nov [.blk b1 (Iz.enc Ao) 82] [(1,.pointer (some ⟨b1,0,none⟩)),(4,iV x4)] 68 a w') ?_ ?_
  ·refine wp_block (Fi (fun (m2 : Nat) a w'=>∃ x4 : Int,∃ x5 : Int,Jw Ao j3 m2 x4 x5 = some r ∧ Sx w [] nov [.blk b1 (Iz.enc Ao) 82] [(1,.pointer (some ⟨b1,0,none⟩)),(4,iV x4),(6,iV x5)] 68 a w') id ((Ao.Year - 2024).toNat + 2) ⟨x2,2024,h,S.nf [true] rfl (subR rfl)⟩ ?_)
   clear S h;rintro m2 a w34 ⟨x4,x5,h,S⟩
   cases m2 with
   | zero=>rw [Jw.eq_1] at h;cases h
   | succ m2 =>
    rw [Jw.eq_2] at h
    refine Fs (Fr (Vm S rfl rfl fun a S=>Vf Qq S rfl rfl fun a S=>Vl isAgg3 0 S rfl rfl rfl rfl fun a S=>Vb S Dt rfl rfl rfl fun a S=>Dl (Fc h (S.tm rfl) (fun hb6 h=>?_) (fun hb6 h=>?_))))
    ·refine wp_skip (Tn (Fs (wp_block (Fg (Vm S rfl rfl fun a S=>Vm S rfl rfl fun a S=>Dc S (fun _=>Cw (vs:=[iV x5]) ⟨(S.tm rfl),trivial⟩ call58) (Qj _ x5 _ rfl) rfl ?_)))));clear S;intro v26 a w36 hv26 hk31 hn26 S
     subst hv26
     refine Vb S Ek rfl rfl rfl fun a S=>Va S rfl rfl fun a S=>Ld (Gx (Tn (Fg (Vm S rfl rfl fun a S=>Vq S Ek rfl rfl rfl fun a S=>Va S rfl rfl fun a S=>Dl ?_))))
     exact ⟨m2,⟨W (x4 + (Ll x5)),W (x5 + 1),h,S.nf [true] rfl ⟨rfl,rfl,rfl,trivial⟩⟩,Nat.lt_succ_self _⟩
    ·exact wp_exit (Dj (Dj (Fj (Tn (⟨x4,h,S.nf [true] rfl (subR rfl)⟩)))))
  clear S h;rintro a w35 ⟨x4,h,S⟩;rw [hj3] at h;clear hj3 j3
  refine Tn (Fs (Fr (Vf Qq S rfl rfl fun a S=>Vl isAgg3 0 S rfl rfl rfl rfl fun a S=>Va S rfl rfl fun a S=>Dl ?_)))
  replace S:=S.n0.k2 4 7 rfl
  obtain ⟨j4,hj4,h⟩:=Ec h
  refine Ds (fun a w'=>∃ x6 : Int,j4 x6 = some r ∧ Sx w [] nov [] [(4,iV x6)] 68 a w') ?_ ?_
  ·refine wp_block (Fi (fun (m3 : Nat) a w'=>∃ x6 : Int,∃ x7 : Int,Jx j4 m3 x6 x7 = some r ∧ Sx w [] nov [] [(4,iV x6),(7,iV x7)] 68 a w') id ((2024 - Ao.Year).toNat + 2) ⟨x4,Ao.Year,h,S.nf [] rfl (subR rfl)⟩ ?_)
   clear S h;rintro m3 a w37 ⟨x6,x7,h,S⟩
   cases m3 with
   | zero=>rw [Jx.eq_1] at h;cases h
   | succ m3 =>
    rw [Jx.eq_2] at h
    refine Fs (Fr (Vm S rfl rfl fun a S=>Vq S Dt rfl rfl rfl fun a S=>Dl (Fc h (S.tm rfl) (fun hb7 h=>?_) (fun hb7 h=>?_))))
    ·refine wp_skip (Tn (Fs (wp_block (Fg (Vm S rfl rfl fun a S=>Vm S rfl rfl fun a S=>Dc S (fun _=>Cw (vs:=[iV x7]) ⟨(S.tm rfl),trivial⟩ call58) (Qj _ x7 _ rfl) rfl ?_)))));clear S;intro v27 a w39 hv27 hk32 hn27 S
     subst hv27
     refine Vb S Jb rfl rfl rfl fun a S=>Va S rfl rfl fun a S=>Ld (Gx (Tn (Fg (Vm S rfl rfl fun a S=>Vq S Ek rfl rfl rfl fun a S=>Va S rfl rfl fun a S=>Dl ?_))))
     exact ⟨m3,⟨W (x6 - (Ll x7)),W (x7 + 1),h,S.nf [] rfl ⟨rfl,rfl,trivial⟩⟩,Nat.lt_succ_self _⟩
    ·exact wp_exit (Dj (Dj (Fj (Tn (⟨x6,h,S.nf [] rfl ⟨rfl,trivial⟩⟩)))))
  clear S h;rintro a w38 ⟨x6,h,S⟩;rw [hj4] at h;clear hj4 j4
  refine Tn (Fs (Fr (Vm S rfl rfl fun a S=>Dc S (fun _=>Cw (vs:=[iV x6]) ⟨(S.tm rfl),trivial⟩ call59) (Xc _ x6 _ rfl) rfl ?_)));clear S;intro v28 a w40 hv28 hk33 hn28 S
  subst hv28
  refine Vu S Hp rfl rfl fun a S=>Dl (Fc h (S.tm rfl) (fun hb8 h=>?_) (fun hb8 h=>?_))
  ·refine Fr (Vk S rfl rfl fun a S=>Vk S rfl rfl fun a S=>Dl (wp_ret (Cx ?_)))
   obtain rfl:=Option.some.inj h
   exact Kj S results33 rfl rfl rfl
  ·refine wp_skip (Tn (Fr (Vm S rfl rfl fun a S=>Va S rfl rfl fun a S=>Vk S rfl rfl fun a S=>Dl (wp_ret ?_))))
   obtain rfl:=Option.some.inj h
   exact Kj S results33 rfl rfl rfl
theorem Ti (w : World) (Ab : Value) (Ad : List Js) (Ac : Slc (view w []) 5 Ab (Ad.map Js.enc)) (r : Int) (h : Oo Ad = some r) :
    Calls prog 92 [Ab].toArray w (Ret w [] fun _ v _=>v = iV r):=by
 refine Fe func92 rfl ntmps92 rfl fun a S=>?_
 unfold Oo at h
 replace S:=S.k1 0 rfl
 refine Fr (Vk S rfl rfl fun a S=>Dl (Fs (Fr (Vm S rfl rfl fun a S=>lv S (Ee CQ (S.tm rfl) (Ej Ac)) rfl fun a S=>Vq S Ji rfl rfl rfl ?_))));clear S;intro a S
 refine Dl (Fc h (S.tm rfl) (fun hb1 h=>?_) (fun hb1 h=>?_))
 ·refine Fr (Vk S rfl rfl fun a S=>Dl (wp_ret (Cx ?_)))
  obtain rfl:=Option.some.inj h
  exact Dx S results92 rfl rfl
 ·refine wp_skip (Tn (Fr (Pl (κ:=ByteArray) (ν:=Bool) S rfl Value.string Value.bool ?_)));clear S;intro a w1 b1 hz1 hk1 S
  refine Va S rfl rfl fun a S=>Dl (Fs (Fr (Vm S rfl rfl fun a S=>lv S (Ee CQ (S.tm rfl) (Ej Ac)) rfl fun a S=>lv S (Rm rfl) rfl fun a S=>Dl ?_)))
  replace S:=(S.nl [.map b1 (Eh Value.string Value.bool ([] : List (ByteArray × Bool))) ([] : List (ByteArray × Bool)).length] [true] rfl).k4 3 10 11 12 rfl
  obtain ⟨j1,hj1,h⟩:=Ec h
  refine Ds (fun a w'=>∃ x1 : List (ByteArray × Bool),j1 x1 = some r ∧ Sx w [] nov [.map b1 (Eh Value.string Value.bool x1) x1.length] [] 53 a w') ?_ ?_
  ·refine wp_block (Fi (fun (ys1 : List Js) a w'=>∃ i1 : Nat,∃ x1 : List (ByteArray × Bool),(∃ dn,Ad = dn ++ ys1 ∧ dn.length = i1) ∧ Hy j1 ys1 i1 x1 = some r ∧ Sx w [] nov [.map b1 (Eh Value.string Value.bool x1) x1.length] [(3,.map (some b1)),(10,Ab),(11,iV (Ad.length : Int)),(12,iV (i1 : Int))] 53 a w') List.length Ad ⟨0,([] : List (ByteArray × Bool)),⟨[],rfl,rfl⟩,h,S.nf [true] rfl (subR rfl)⟩ ?_)
   clear S h;rintro ys1 a w2 ⟨i1,x1,⟨dn,hd1,hi1⟩,h,S⟩
   cases ys1 with
   | nil =>
    rw [Hy.eq_1] at h
    refine Fr (Vb S Dt rfl rfl rfl fun a S=>Ld ?_)
    replace S:=S.k5 3 10 11 12 13 rfl
    exact Tn (Fs (wp_cond_false ((S.tm rfl).trans (congrArg Value.bool (Hq hd1 hi1))) (wp_exit (Dj (Dj (Fj (Tn (⟨x1,h,S.nf [true] rfl trivial⟩))))))))
   | cons y1 ys1 =>
    rw [Hy.eq_2] at h
    refine Fr (Vb S Dt rfl rfl rfl fun a S=>Ld ?_)
    replace S:=S.k5 3 10 11 12 13 rfl
    refine Tn (Fs (wp_cond_true ((S.tm rfl).trans (congrArg Value.bool (Gb hd1 hi1))) (wp_skip (Tn (Fs (wp_block (Fs (Fg ?_))))))))
    obtain ⟨b2,o1,hm1,hr1⟩:=Eb (a:=a) (x:=.tmp 10) (y:=.tmp 12) (ty:=0) CQ Ac (Hz hd1 hi1) rfl (S.tm rfl) (S.tm rfl)
    refine lv S (hr1 _) rfl ?_;clear S;intro a S
    clear hr1
    refine lv S (Fp isAgg85 sizeOf85 (off:=o1) (o:=0) (part:=(Js.enc y1)) rfl rfl (S.tm rfl) (hm1.at S.emb0)) rfl fun a S=>It S zeroValue85 (cs:=[sV Cy,iV 0,iV 0,iV 0,iV 0]) rfl rfl ?_;clear S;intro a w4 b3 hz2 hk2 S
    refine Gl S (S.tm rfl) (S.tm rfl) (i:=0) (off:=0) rfl sizeOf85 (vs:=(Js.enc y1)) rfl rfl rfl rfl ?_;clear S;intro w5 hk3 S
    refine Dl (Fs (wp_block (Fr (Vf Yi S rfl rfl fun a S=>Vl isAgg9 0 S rfl rfl rfl rfl ?_))));clear S;intro a S
    obtain ⟨r1,hr2,h⟩:=Eg h
    refine Dc S (fun _=>Cw (vs:=[sV y1.Key]) ⟨(S.tm rfl),trivial⟩ call52) (Ht _ y1.Key _ hr2) rfl ?_;clear S;intro v1 a w6 hv1 hk4 hn1 S
    subst hv1
    refine Vu S Hp rfl rfl fun a S=>Va S rfl rfl fun a S=>Dl (Fc h (S.tm rfl) (fun hb2 h=>?_) (fun hb2 h=>?_))
    ·refine Fr (Vk S rfl rfl fun a S=>Dl (wp_ret (Em (Cx (Em (Cx (Cx ?_)))))))
     refine Em (Cx (Cx ?_))
     obtain rfl:=Option.some.inj h
     exact Dx S results92 rfl rfl
    ·refine Fr (Vm S rfl rfl fun a S=>Vf Yi S rfl rfl fun a S=>Vl isAgg9 0 S rfl rfl rfl rfl fun a S=>lv S (Pm (kv:=Value.string) (vv:=Value.bool) (m:=x1) (key:=y1.Key) (z:=false) (S.map_at (i:=1) rfl) underlying175 (Nk underlying9) zeroValue4 (S.tm rfl) (S.tm rfl)) rfl fun a S=>Va S rfl rfl fun a S=>Ld ?_)
     replace S:=(S.nl [.blk b3 (Js.enc y1) 85,.map b1 (Eh Value.string Value.bool x1) x1.length] [true,true] rfl).k6 3 5 10 11 12 21 rfl
     refine Tn (Fc h (S.tm rfl) (fun hb3 h=>?_) (fun hb3 h=>?_))
     ·refine Fr (Vk S rfl rfl fun a S=>Dl (wp_ret (Em (Cx (Em (Cx (Cx ?_)))))))
      refine Em (Cx (Cx ?_))
      obtain rfl:=Option.some.inj h
      exact Dx S results92 rfl rfl
     ·refine Fr (Vf BQ S rfl rfl fun a S=>Vl isAgg3 0 S rfl rfl rfl rfl fun a S=>Dc S (fun _=>Cw (vs:=[iV y1.Heats,iV 1,iV 60]) ⟨(S.tm rfl),rfl,rfl,trivial⟩ call28) (El _ y1.Heats 1 60 _ rfl) rfl ?_);clear S;intro v2 a w7 hv2 hk5 hn2 S
      subst hv2
      refine Vu S Hp rfl rfl fun a S=>Vm S rfl rfl fun a S=>Hw 5 (fun a w'=>Keep [] w7 w' ∧ Sx w [] nov [.blk b3 (Js.enc y1) 85,.map b1 (Eh Value.string Value.bool x1) x1.length] [(3,.map (some b1)),(5,.pointer (some ⟨b3,0,none⟩)),(10,Ab),(11,iV (Ad.length : Int)),(12,iV (i1 : Int)),(36,bV ((!(Dd y1.Heats 1 60)) || (!(Dd y1.Long 1 3600000))))] 53 a w') ?_ ?_
      ·rcases Bool.eq_false_or_eq_true (!(Dd y1.Heats 1 60)) with hb4 | hb4
       ·iterate 4 (refine Gm S rfl rfl rfl (Md hb4) rfl ?_ rfl;clear S;intro a S)
        exact lv S (Kt (!(Dd y1.Long 1 3600000)) hb4 (S.tm rfl) rfl) rfl fun a S=>Dl (⟨Keep.refl _ _,S.nf [true,true] rfl (subR rfl)⟩)
       ·refine Cz S rfl rfl rfl hb4 (Vf BR S rfl rfl fun a S=>Cz S rfl rfl rfl hb4 (Vl isAgg3 0 S rfl rfl rfl rfl fun a S=>Cz S rfl rfl rfl hb4 (Dc S (fun _=>Cw (vs:=[iV y1.Long,iV 1,iV 3600000]) ⟨(S.tm rfl),rfl,rfl,trivial⟩ call28) (El _ y1.Long 1 3600000 _ rfl) rfl ?_)));clear S;intro v3 a w9 hv3 hk6 hn3 S
        subst hv3
        exact Cz S rfl rfl rfl hb4 (Vu S Hp rfl rfl fun a S=>lv S (Ku hb4 (S.tm rfl) (S.tm rfl)) rfl fun a S=>Dl (⟨hk6,S.nf [true,true] rfl (subR rfl)⟩))
      clear S;rintro a w8 ⟨hk7,S⟩
      refine Vm S rfl rfl fun a S=>Hw 5 (fun a w'=>Keep [] w8 w' ∧ Sx w [] nov [.blk b3 (Js.enc y1) 85,.map b1 (Eh Value.string Value.bool x1) x1.length] [(3,.map (some b1)),(5,.pointer (some ⟨b3,0,none⟩)),(10,Ab),(11,iV (Ad.length : Int)),(12,iV (i1 : Int)),(42,bV (((!(Dd y1.Heats 1 60)) || (!(Dd y1.Long 1 3600000))) || (!(Dd y1.Gap 0 3600000))))] 53 a w') ?_ ?_
      ·rcases Bool.eq_false_or_eq_true ((!(Dd y1.Heats 1 60)) || (!(Dd y1.Long 1 3600000))) with hb5 | hb5
       ·iterate 4 (refine Gm S rfl rfl rfl (Md hb5) rfl ?_ rfl;clear S;intro a S)
        exact lv S (Kt (!(Dd y1.Gap 0 3600000)) hb5 (S.tm rfl) rfl) rfl fun a S=>Dl (⟨Keep.refl _ _,S.nf [true,true] rfl (subR rfl)⟩)
       ·refine Cz S rfl rfl rfl hb5 (Vf EV S rfl rfl fun a S=>Cz S rfl rfl rfl hb5 (Vl isAgg3 0 S rfl rfl rfl rfl fun a S=>Cz S rfl rfl rfl hb5 (Dc S (fun _=>Cw (vs:=[iV y1.Gap,iV 0,iV 3600000]) ⟨(S.tm rfl),rfl,rfl,trivial⟩ call28) (El _ y1.Gap 0 3600000 _ rfl) rfl ?_)));clear S;intro v4 a w11 hv4 hk8 hn4 S
        subst hv4
        exact Cz S rfl rfl rfl hb5 (Vu S Hp rfl rfl fun a S=>lv S (Ku hb5 (S.tm rfl) (S.tm rfl)) rfl fun a S=>Dl (⟨hk8,S.nf [true,true] rfl (subR rfl)⟩))
      clear S;rintro a w10 ⟨hk9,S⟩
      refine Vm S rfl rfl fun a S=>Hw 5 (fun a w'=>Keep [] w10 w' ∧ Sx w [] nov [.blk b3 (Js.enc y1) 85,.map b1 (Eh Value.string Value.bool x1) x1.length] [(3,.map (some b1)),(5,.pointer (some ⟨b3,0,none⟩)),(10,Ab),(11,iV (Ad.length : Int)),(12,iV (i1 : Int)),(48,bV ((((!(Dd y1.Heats 1 60)) || (!(Dd y1.Long 1 3600000))) || (!(Dd y1.Gap 0 3600000))) || (!(Dd y1.Break 0 3600000))))] 53 a w') ?_ ?_
      ·rcases Bool.eq_false_or_eq_true (((!(Dd y1.Heats 1 60)) || (!(Dd y1.Long 1 3600000))) || (!(Dd y1.Gap 0 3600000))) with hb6 | hb6
       ·iterate 4 (refine Gm S rfl rfl rfl (Md hb6) rfl ?_ rfl;clear S;intro a S)
        exact lv S (Kt (!(Dd y1.Break 0 3600000)) hb6 (S.tm rfl) rfl) rfl fun a S=>Dl (⟨Keep.refl _ _,S.nf [true,true] rfl (subR rfl)⟩)
       ·refine Cz S rfl rfl rfl hb6 (Vf EW S rfl rfl fun a S=>Cz S rfl rfl rfl hb6 (Vl isAgg3 0 S rfl rfl rfl rfl fun a S=>Cz S rfl rfl rfl hb6 (Dc S (fun _=>Cw (vs:=[iV y1.Break,iV 0,iV 3600000]) ⟨(S.tm rfl),rfl,rfl,trivial⟩ call28) (El _ y1.Break 0 3600000 _ rfl) rfl ?_)));clear S;intro v5 a w13 hv5 hk10 hn5 S
        subst hv5
        exact Cz S rfl rfl rfl hb6 (Vu S Hp rfl rfl fun a S=>lv S (Ku hb6 (S.tm rfl) (S.tm rfl)) rfl fun a S=>Dl (⟨hk10,S.nf [true,true] rfl (subR rfl)⟩))
      clear S;rintro a w12 ⟨hk11,S⟩
      refine Va S rfl rfl fun a S=>Dl (Fc h (S.tm rfl) (fun hb7 h=>?_) (fun hb7 h=>?_))
      ·refine Fr (Vk S rfl rfl fun a S=>Dl (wp_ret (Em (Cx (Em (Cx (Cx ?_)))))))
       refine Em (Cx (Cx ?_))
       obtain rfl:=Option.some.inj h
       exact Dx S results92 rfl rfl
      ·refine wp_skip (Gx (Tn (Fg (Vm S rfl rfl fun a S=>Vf Yi S rfl rfl fun a S=>Vl isAgg9 0 S rfl rfl rfl rfl fun a S=>Mg (kv:=Value.string) (vv:=Value.bool) (m:=x1) (key:=y1.Key) (val:=true) S (i:=1) rfl underlying175 (Nk underlying9) (S.tm rfl) (S.tm rfl) rfl ?_))));clear S;intro w14 hk12 S
       exact Ld (Gx (Tn (Fg (Vq S Ek rfl rfl rfl fun a S=>Vm S rfl rfl fun a S=>Dl (⟨ys1,⟨i1 + 1,(Es x1 y1.Key true),⟨_,(hd1).trans (List.append_cons _ _ _),by simp [hi1]⟩,h,S.nf [false,true] rfl ⟨rfl,rfl,rfl,(congrArg (fun z=>some (Value.int .i64 z)) (Gc hd1 hi1 (Jk Ac))),trivial⟩⟩,Nat.lt_succ_self _⟩)))))
  clear S h;rintro a w3 ⟨x1,h,S⟩;rw [hj1] at h;clear hj1 j1
  refine Tn (Fr (Vk S rfl rfl fun a S=>Dl (wp_ret ?_)))
  obtain rfl:=Option.some.inj h
  exact Dx S results92 rfl rfl
theorem Rk (w : World) (Ay : Int) (r : Bool) (h : Pc Ay = r) :
    Calls prog 124 [iV Ay].toArray w (Ret w [] fun _ v _=>v = bV r):=by
 refine Fe func124 rfl ntmps124 rfl fun a S=>?_
 unfold Pc at h
 replace S:=S.k1 0 rfl
 refine Fr (Vk S rfl rfl fun a S=>Dz (Vm S rfl rfl fun a S=>Vq S Nr rfl rfl rfl fun a S=>Vm S rfl rfl fun a S=>Hw 3 (fun a w'=>Keep [] w w' ∧ Sx w [] nov [] [(8,bV ((decide (0 ≤ Ay)) && (decide (Ay < 345686400000))))] 9 a w') ?_ ?_))
 ·rcases Bool.eq_false_or_eq_true (decide (0 ≤ Ay)) with hb1 | hb1
  ·exact Cz S rfl rfl rfl hb1 (Vm S rfl rfl fun a S=>Cz S rfl rfl rfl hb1 (Vq S Dt rfl rfl rfl fun a S=>lv S (Hg hb1 (S.tm rfl) (S.tm rfl)) rfl fun a S=>Dl (⟨Keep.refl _ _,S.nf [] rfl ⟨rfl,trivial⟩⟩)))
  ·exact Gm S rfl rfl rfl (Jt hb1) rfl (fun a S=>Gm S rfl rfl rfl (Jt hb1) rfl (fun a S=>lv S (Hh (decide (Ay < 345686400000)) hb1 (S.tm rfl) rfl) rfl fun a S=>Dl (⟨Keep.refl _ _,S.nf [] rfl ⟨rfl,trivial⟩⟩)) rfl) rfl
 clear S;rintro a w1 ⟨hk1,S⟩
 refine Va S rfl rfl fun a S=>Dl (wp_ret ?_)
 subst h
 exact Dx S results124 rfl rfl
theorem Uc (w : World) (Ab : Value) (Ad : List Js) (Ac : Slc (view w []) 5 Ab (Ad.map Js.enc)) (Ap : Int) (r : (List Hr)) (h : Pd Ad Ap = some r) :
    Calls prog 125 [Ab,iV Ap].toArray w (Ret w [] fun τ v _=>Pu τ 150 4 v r.length (r.flatMap Hr.enc)):=by
 refine Fe func125 rfl ntmps125 rfl fun a S=>?_
 unfold Pd at h
 replace S:=S.k2 0 1 rfl
 refine Fr (Vk S rfl rfl fun a S=>Dz (Vk S rfl rfl ?_));clear S;intro a S
 replace S:=S.nil 150 4
 refine Dz (Vm S rfl rfl fun a S=>Va S rfl rfl fun a S=>Dl (Fs (Fs (Fg ?_))))
 refine Vm S rfl rfl fun a S=>lv S (Ee CQ (S.tm rfl) (Ej Ac)) rfl fun a S=>lv S (Rm rfl) rfl fun a S=>Dl ?_
 replace S:=(S.nl [.own (.slice none 0 0) 150 4 ([] : List Hr).length (([] : List Hr).flatMap Hr.enc)] [true] rfl).k5 5 6 11 12 13 rfl
 obtain ⟨j1,hj1,h⟩:=Ec h
 refine Ds (fun a w'=>∃ x1 : List Hr,∃ v1 : Value,j1 x1 = some r ∧ Sx w [] nov [.own v1 150 4 x1.length (x1.flatMap Hr.enc)] [(5,v1)] 54 a w') ?_ ?_
 ·refine wp_block (Fi (fun (ys1 : List Js) a w'=>∃ i1 : Nat,∃ x1 : List Hr,∃ x2 : Int,∃ v1 : Value,(∃ dn,Ad = dn ++ ys1 ∧ dn.length = i1) ∧ Ik j1 ys1 i1 x1 x2 = some r ∧ Sx w [] nov [.own v1 150 4 x1.length (x1.flatMap Hr.enc)] [(5,v1),(6,iV x2),(11,Ab),(12,iV (Ad.length : Int)),(13,iV (i1 : Int))] 54 a w') List.length Ad ⟨0,([] : List Hr),Ap,(.slice none 0 0),⟨[],rfl,rfl⟩,h,S.nf [true] rfl (subR rfl)⟩ ?_)
  clear S h;rintro ys1 a w1 ⟨i1,x1,x2,v1,⟨dn,hd1,hi1⟩,h,S⟩
  cases ys1 with
  | nil =>
   rw [Ik.eq_1] at h
   refine Fr (Vb S Dt rfl rfl rfl fun a S=>Ld ?_)
   replace S:=S.k6 5 6 11 12 13 14 rfl
   exact Tn (Fs (wp_cond_false ((S.tm rfl).trans (congrArg Value.bool (Hq hd1 hi1))) (wp_exit (Dj (Dj (Fj (Tn (⟨x1,v1,h,S.nf [true] rfl ⟨rfl,trivial⟩⟩))))))))
  | cons y1 ys1 =>
   rw [Ik.eq_2] at h
   refine Fr (Vb S Dt rfl rfl rfl fun a S=>Ld ?_)
   replace S:=S.k6 5 6 11 12 13 14 rfl
   refine Tn (Fs (wp_cond_true ((S.tm rfl).trans (congrArg Value.bool (Gb hd1 hi1))) (wp_skip (Tn (Fs (wp_block (Fs (Fg ?_))))))))
   obtain ⟨b1,o1,hm1,hr1⟩:=Eb (a:=a) (x:=.tmp 11) (y:=.tmp 13) (ty:=0) CQ Ac (Hz hd1 hi1) rfl (S.tm rfl) (S.tm rfl)
   refine lv S (hr1 _) rfl ?_;clear S;intro a S
   clear hr1
   refine lv S (Fp isAgg85 sizeOf85 (off:=o1) (o:=0) (part:=(Js.enc y1)) rfl rfl (S.tm rfl) (hm1.at S.emb0)) rfl fun a S=>It S zeroValue85 (cs:=[sV Cy,iV 0,iV 0,iV 0,iV 0]) rfl rfl ?_;clear S;intro a w3 b2 hz1 hk1 S
   refine Gl S (S.tm rfl) (S.tm rfl) (i:=0) (off:=0) rfl sizeOf85 (vs:=(Js.enc y1)) rfl rfl rfl rfl ?_;clear S;intro w4 hk2 S
   refine Dl (Fs (Fr (Vk S rfl rfl fun a S=>Dl ?_)))
   replace S:=(S.nl [.blk b2 (Js.enc y1) 85,.own v1 150 4 x1.length (x1.flatMap Hr.enc)] [true,true] rfl).k7 5 6 8 9 11 12 13 rfl
   obtain ⟨j2,hj2,h⟩:=Ec h
   refine Ds (fun a w'=>∃ x3 : List Hr,∃ x4 : Int,∃ v2 : Value,j2 x3 x4 = some r ∧ Sx w [] nov [.blk b2 (Js.enc y1) 85,.own v2 150 4 x3.length (x3.flatMap Hr.enc)] [(5,v2),(6,iV x4),(8,.pointer (some ⟨b2,0,none⟩)),(11,Ab),(12,iV (Ad.length : Int)),(13,iV (i1 : Int))] 54 a w') ?_ ?_
   ·refine wp_block (Fi (fun (m1 : Nat) a w'=>∃ x3 : List Hr,∃ x4 : Int,∃ x5 : Int,∃ v2 : Value,Ij y1 j2 m1 x3 x4 x5 = some r ∧ Sx w [] nov [.blk b2 (Js.enc y1) 85,.own v2 150 4 x3.length (x3.flatMap Hr.enc)] [(5,v2),(6,iV x4),(8,.pointer (some ⟨b2,0,none⟩)),(9,iV x5),(11,Ab),(12,iV (Ad.length : Int)),(13,iV (i1 : Int))] 54 a w') id ((y1.Heats - 1).toNat + 2) ⟨x1,x2,1,v1,h,S.nf [true,true] rfl (subR rfl)⟩ ?_)
    clear S h;rintro m1 a w5 ⟨x3,x4,x5,v2,h,S⟩
    cases m1 with
    | zero=>rw [Ij.eq_1] at h;cases h
    | succ m1 =>
     rw [Ij.eq_2] at h
     refine Fs (Fr (Vm S rfl rfl fun a S=>Vf BQ S rfl rfl fun a S=>Vl isAgg3 0 S rfl rfl rfl rfl fun a S=>Vb S Sj rfl rfl rfl fun a S=>Dl (Fc h (S.tm rfl) (fun hb1 h=>?_) (fun hb1 h=>?_))))
     ·refine wp_skip (Tn (Fs ?_))
      obtain ⟨j3,hj3,h⟩:=Ec h
      refine Ds (fun a w'=>∃ x6 : List Hr,∃ x7 : Int,∃ v3 : Value,j3 x6 x7 = some r ∧ Sx w [] nov [.blk b2 (Js.enc y1) 85,.own v3 150 4 x6.length (x6.flatMap Hr.enc)] [(5,v3),(6,iV x7),(8,.pointer (some ⟨b2,0,none⟩)),(9,iV x5),(11,Ab),(12,iV (Ad.length : Int)),(13,iV (i1 : Int))] 54 a w') ?_ ?_
      ·refine wp_block (Fr (Vm S rfl rfl fun a S=>Vf Yi S rfl rfl fun a S=>Vl isAgg9 0 S rfl rfl rfl rfl ?_));clear S;intro a S
       iterate 3 (refine Vm S rfl rfl ?_;clear S;intro a S)
       refine Vf BR S rfl rfl fun a S=>Vl isAgg3 0 S rfl rfl rfl rfl fun a S=>Vb S Ek rfl rfl rfl fun a S=>lv S (Lp bt_148 (pv:=[(0,iV x4),(1,iV (W (x4 + y1.Long)))]) ⟨rfl,(S.tm rfl),rfl,(S.tm rfl),trivial⟩ (cs:=[iV x4,iV (W (x4 + y1.Long))]) (by kernel_rfl)) rfl fun a S=>lv S (Lp bt_150 (pv:=[(0,sV y1.Key),(1,iV x5),(2,.agg #[iV x4,iV (W (x4 + y1.Long))])]) ⟨rfl,(S.tm rfl),rfl,(S.tm rfl),rfl,(S.tm rfl),trivial⟩ (cs:=[sV y1.Key,iV x5,iV x4,iV (W (x4 + y1.Long))]) (by kernel_rfl)) rfl fun a S=>Ed S underlying116 sizeOf150 zeroValue150 rfl rfl (pv:=[(0,.agg #[sV y1.Key,iV x5,iV x4,iV (W (x4 + y1.Long))])]) ⟨rfl,(S.tm rfl),trivial⟩ (cs:=[sV y1.Key,iV x5,iV x4,iV (W (x4 + y1.Long))]) (by kernel_rfl) rfl ?_;clear S;intro a w8 b3 hz2 hk3 S
       obtain ⟨hc1,h⟩:=Hl h
       refine Mx BL Hr.enc_ok S (S.tm rfl) (i:=2) rfl (S.tm rfl) (j:=0) rfl (ys:=[(Hr.mk y1.Key x5 (Nu.mk x4 (W (x4 + y1.Long))))]) rfl rfl rfl rfl (by have:=Nd hc1;omega) rfl ?_;clear S;intro v4 a w9 hk4 S
       refine Va S rfl rfl fun a S=>Ld ?_
       replace S:=(S.nl [.blk b2 (Js.enc y1) 85,.own v4 150 4 (x3 ++ [(Hr.mk y1.Key x5 (Nu.mk x4 (W (x4 + y1.Long))))]).length ((x3 ++ [(Hr.mk y1.Key x5 (Nu.mk x4 (W (x4 + y1.Long))))]).flatMap Hr.enc)] [false,true,true] rfl).k7 5 6 8 9 11 12 13 rfl
       refine Tn (Fr (Vm S rfl rfl fun a S=>Vf BR S rfl rfl fun a S=>Vl isAgg3 0 S rfl rfl rfl rfl fun a S=>Vb S Ek rfl rfl rfl fun a S=>Va S rfl rfl fun a S=>Dl (Fs ?_)))
       refine Fg (Vm S rfl rfl fun a S=>Vf BQ S rfl rfl fun a S=>Vl isAgg3 0 S rfl rfl rfl rfl fun a S=>Vb S Dt rfl rfl rfl fun a S=>Ld ?_)
       replace S:=S.k8 5 6 8 9 11 12 13 43 rfl
       refine Tn ?_
       obtain ⟨j4,hj4,h⟩:=Ec h
       refine Ds (fun a w'=>∃ x8 : Int,j4 x8 = some r ∧ Sx w [] nov [.blk b2 (Js.enc y1) 85,.own v4 150 4 (x3 ++ [(Hr.mk y1.Key x5 (Nu.mk x4 (W (x4 + y1.Long))))]).length ((x3 ++ [(Hr.mk y1.Key x5 (Nu.mk x4 (W (x4 + y1.Long))))]).flatMap Hr.enc)] [(5,v4),(6,iV x8),(8,.pointer (some ⟨b2,0,none⟩)),(9,iV x5),(11,Ab),(12,iV (Ad.length : Int)),(13,iV (i1 : Int))] 54 a w') ?_ ?_
       ·refine Fc h (S.tm rfl) (fun hb2 h=>?_) (fun hb2 h=>?_)
        ·exact Fg (Vm S rfl rfl fun a S=>Vf EV S rfl rfl fun a S=>Vl isAgg3 0 S rfl rfl rfl rfl fun a S=>Vb S Ek rfl rfl rfl fun a S=>Va S rfl rfl fun a S=>Dl (⟨W ((W (x4 + y1.Long)) + y1.Gap),h,S.nf [true,true] rfl (subR rfl)⟩))
        ·exact wp_skip (Tn (⟨W (x4 + y1.Long),h,S.nf [true,true] rfl (subR rfl)⟩))
       clear S h;rintro a w10 ⟨x8,h,S⟩;rw [hj4] at h;clear hj4 j4
       exact Gx (Tn (⟨(x3 ++ [(Hr.mk y1.Key x5 (Nu.mk x4 (W (x4 + y1.Long))))]),x8,v4,h,S.nf [true,true] rfl (subR rfl)⟩))
      clear S h;rintro a w7 ⟨x6,x7,v3,h,S⟩;rw [hj3] at h;clear hj3 j3
      exact Tn (Fg (Vm S rfl rfl fun a S=>Vq S Ek rfl rfl rfl fun a S=>Va S rfl rfl fun a S=>Dl (⟨m1,⟨x6,x7,W (x5 + 1),v3,h,S.nf [true,true] rfl ⟨rfl,rfl,rfl,rfl,rfl,rfl,rfl,trivial⟩⟩,Nat.lt_succ_self _⟩)))
     ·exact wp_exit (Dj (Dj (Fj (Tn (⟨x3,x4,v2,h,S.nf [true,true] rfl (subR rfl)⟩)))))
   clear S h;rintro a w6 ⟨x3,x4,v2,h,S⟩;rw [hj2] at h;clear hj2 j2
   refine Tn (Fg (Vm S rfl rfl fun a S=>Vf EW S rfl rfl fun a S=>Vl isAgg3 0 S rfl rfl rfl rfl fun a S=>Vb S Ek rfl rfl rfl fun a S=>Va S rfl rfl fun a S=>Ld (Gx (Tn (Fg ?_)))))
   exact Vq S Ek rfl rfl rfl fun a S=>Vm S rfl rfl fun a S=>Dl (⟨ys1,⟨i1 + 1,x3,W (x4 + y1.Break),v2,⟨_,(hd1).trans (List.append_cons _ _ _),by simp [hi1]⟩,h,S.nf [false,true] rfl ⟨rfl,rfl,rfl,rfl,(congrArg (fun z=>some (Value.int .i64 z)) (Gc hd1 hi1 (Jk Ac))),trivial⟩⟩,Nat.lt_succ_self _⟩)
 clear S h;rintro a w2 ⟨x1,v1,h,S⟩;rw [hj1] at h;clear hj1 j1
 refine Tn (Fr (Vm S rfl rfl fun a S=>Va S rfl rfl fun a S=>Dl (wp_ret ?_)))
 obtain rfl:=Option.some.inj h
 exact Dx S results125 rfl (Qu S (i:=0) rfl rfl)
theorem Ud (w : World) (Ab : Value) (Ad : List Hr) (Ac : Slc (view w []) 4 Ab (Ad.map Hr.enc)) (Ap : Int) (r : Int) (h : Rg Ad Ap = some r) :
    Calls prog 61 [Ab,iV Ap].toArray w (Ret w [] fun _ v _=>v = iV r):=by
 refine Fe func61 rfl ntmps61 rfl fun a S=>?_
 unfold Rg at h
 replace S:=S.k2 0 1 rfl
 refine Fr (Vk S rfl rfl fun a S=>Dl (Fs (Fr (Vm S rfl rfl fun a S=>lv S (Ee BL (S.tm rfl) (Ej Ac)) rfl fun a S=>Vq S Jz rfl rfl rfl ?_))));clear S;intro a S
 refine Dl (Fc h (S.tm rfl) (fun hb1 h=>?_) (fun hb1 h=>?_))
 ·refine Fr (Vm S rfl rfl fun a S=>Va S rfl rfl fun a S=>Dl (wp_ret (Cx ?_)))
  obtain rfl:=Option.some.inj h
  exact Dx S results61 rfl rfl
 ·refine wp_skip (Tn (Fr (Vm S rfl rfl fun a S=>Vm S rfl rfl fun a S=>lv S (Ee BL (S.tm rfl) (Ej Ac)) rfl fun a S=>Vq S Jb rfl rfl rfl ?_)));clear S;intro a S
  obtain ⟨hc1,h⟩:=Hl h
  obtain ⟨b1,o1,hm1,hr1⟩:=Eb (a:=a) (x:=.tmp 9) (y:=.tmp 12) (ty:=0) BL Ac (Db hc1).1 (Db hc1).2 (S.tm rfl) (S.tm rfl)
  refine lv S (hr1 _) rfl ?_;clear S;intro a S
  clear hr1
  refine Vf ID S rfl rfl fun a S=>Vf IC S rfl rfl fun a S=>lv S (Gk isAgg3 (off:=o1) (o:=3) (S.tm rfl) (hm1.at S.emb0) rfl) rfl fun a S=>Va S rfl rfl fun a S=>Dl (wp_ret ?_)
  obtain rfl:=Option.some.inj h
  exact Dx S results61 rfl rfl
theorem Xe (w : World) (Ab : Value) (Ad : List Js) (Ac : Slc (view w []) 5 Ab (Ad.map Js.enc)) (Ap : Int) (r : (List Hr) × Int) (h : Rt Ad Ap = some r) :
    Calls prog 93 [Ab,iV Ap].toArray w (Ret w [] fun τ v _=>∃ u1 : Value,v = .tuple #[u1,iV r.2] ∧ Pu τ 150 4 u1 r.1.length (r.1.flatMap Hr.enc)):=by
 refine Fe func93 rfl ntmps93 rfl fun a S=>?_
 unfold Rt at h
 replace S:=S.k2 0 1 rfl
 refine Fr (Vk S rfl rfl fun a S=>Vk S rfl rfl fun a S=>Dl (Fs (Fr (Vm S rfl rfl fun a S=>Dc S (fun _=>Cw (vs:=[iV Ap]) ⟨(S.tm rfl),trivial⟩ call124) (Rk _ Ap _ rfl) rfl ?_))));clear S;intro v1 a w1 hv1 hk1 hn1 S
 subst hv1
 refine Vu S Hp rfl rfl fun a S=>Dl (Fc h (S.tm rfl) (fun hb1 h=>?_) (fun hb1 h=>?_))
 ·refine Fr (Vk S rfl rfl fun a S=>Vk S rfl rfl fun a S=>Dl (wp_ret (Cx ?_)))
  obtain rfl:=Option.some.inj h
  exact Kj S results93 rfl rfl ⟨_,rfl,(Ob _ _ _)⟩
 ·refine wp_skip (Tn (Fr (Vm S rfl rfl fun a S=>Vm S rfl rfl ?_)));clear S;intro a S
  obtain ⟨r1,hr1,h⟩:=Eg h
  have hz1:=S.keep.size
  refine Dc S (fun _=>Cw (vs:=[Ab,iV Ap]) ⟨(S.tm rfl),(S.tm rfl),trivial⟩ call125) (Uc _ Ab Ad (Ac.mono (S.le_arg Eo)) Ap _ hr1) rfl ?_;clear S;intro v2 a w2 hv2 hk2 hn2 S
  obtain ⟨φ1,hl1,hm1,S⟩:=S.see' hn2 hz1
  have hs1:=hv2.mono hm1
  refine Va S rfl rfl fun a S=>Dl (Fs (Fr (Vm S rfl rfl fun a S=>Vm S rfl rfl ?_)));clear S;intro a S
  obtain ⟨r2,hr2,h⟩:=Eg h
  refine Dc S (fun _=>Cw (vs:=[v2,iV Ap]) ⟨(S.tm rfl),(S.tm rfl),trivial⟩ call61) (Ud _ v2 r1 ((Ha Hr.enc_ok hs1).mono (S.le_new Eo)) Ap _ hr2) rfl ?_;clear S;intro v3 a w3 hv3 hk3 hn3 S
  subst hv3
  refine Vq S Ji rfl rfl rfl fun a S=>Ld ?_
  replace S:=S.k2 6 16 rfl
  refine Tn (Fc h (S.tm rfl) (fun hb2 h=>?_) (fun hb2 h=>?_))
  ·refine Fr (Vk S rfl rfl fun a S=>Vk S rfl rfl fun a S=>Dl (wp_ret (Cx ?_)))
   obtain rfl:=Option.some.inj h
   exact Kj S results93 rfl rfl ⟨_,rfl,(Ob _ _ _)⟩
  ·refine wp_skip (Tn (Fr (Vm S rfl rfl fun a S=>Va S rfl rfl fun a S=>Vk S rfl rfl fun a S=>Dl (wp_ret ?_))))
   obtain rfl:=Option.some.inj h
   exact Kj S results93 rfl rfl ⟨_,rfl,((hs1).mono S.le_newer)⟩
theorem Ue (w : World) (Ab : Value) (Ad : List Js) (Ac : Slc (view w []) 5 Ab (Ad.map Js.enc)) (Ap : Int) (r : (List Hr) × Int) (h : Pe Ad Ap = some r) :
    Calls prog 60 [Ab,iV Ap].toArray w (Ret w [] fun τ v _=>∃ u1 : Value,v = .tuple #[u1,iV r.2] ∧ Pu τ 150 4 u1 r.1.length (r.1.flatMap Hr.enc)):=by
 refine Fe func60 rfl ntmps60 rfl fun a S=>?_
 unfold Pe at h
 replace S:=S.k2 0 1 rfl
 refine Fr (Vk S rfl rfl fun a S=>Vk S rfl rfl fun a S=>Dl (Fs (Fr (Vm S rfl rfl ?_))));clear S;intro a S
 obtain ⟨r1,hr1,h⟩:=Eg h
 refine Dc S (fun _=>Cw (vs:=[Ab]) ⟨(S.tm rfl),trivial⟩ call92) (Ti _ Ab Ad (Ac.mono (S.le_arg Eo)) _ hr1) rfl ?_;clear S;intro v1 a w1 hv1 hk1 hn1 S
 subst hv1
 refine Va S rfl rfl fun a S=>Dz (Vm S rfl rfl fun a S=>Vq S Lo rfl rfl rfl fun a S=>Dl (Fc h (S.tm rfl) (fun hb1 h=>?_) (fun hb1 h=>?_)))
 ·refine Fr (Vm S rfl rfl fun a S=>Vk S rfl rfl fun a S=>Va S rfl rfl fun a S=>Dl (wp_ret (Cx ?_)))
  obtain rfl:=Option.some.inj h
  exact Kj S results60 rfl rfl ⟨_,rfl,(Ob _ _ _)⟩
 ·refine wp_skip (Tn (Fr (Vm S rfl rfl fun a S=>Vm S rfl rfl ?_)));clear S;intro a S
  obtain ⟨r2,hr2,h⟩:=Eg h
  have hz1:=S.keep.size
  refine Dc S (fun _=>Cw (vs:=[Ab,iV Ap]) ⟨(S.tm rfl),(S.tm rfl),trivial⟩ call93) (Xe _ Ab Ad (Ac.mono (S.le_arg Eo)) Ap _ hr2) rfl ?_;clear S;intro v2 a w2 hv2 hk2 hn2 S
  obtain ⟨u1,rfl,ho1⟩:=hv2
  obtain ⟨φ1,hl1,hm1,S⟩:=S.see' hn2 hz1
  have hs1:=ho1.mono hm1
  refine Vq S Er rfl rfl rfl fun a S=>Vq S Er rfl rfl rfl fun a S=>Va S rfl rfl fun a S=>Va S rfl rfl fun a S=>Dl (wp_ret ?_)
  obtain rfl:=Option.some.inj h
  exact Kj S results60 rfl rfl ⟨_,rfl,((hs1).mono S.le_newer)⟩
theorem Xw (w : World) (Ab : Value) (Ad : List Js) (Ac : Slc (view w []) 5 Ab (Ad.map Js.enc)) (Ap : Int) (r : Int × Int) (h : Sq Ad Ap = some r) :
    Calls prog 34 [Ab,iV Ap].toArray w (Ret w [] fun _ v _=>v = .tuple #[iV r.1,iV r.2]):=by
 refine Fe func34 rfl ntmps34 rfl fun a S=>?_
 unfold Sq at h
 replace S:=S.k2 0 1 rfl
 refine Fr (Vk S rfl rfl fun a S=>Vk S rfl rfl fun a S=>Dz (Vm S rfl rfl fun a S=>Vm S rfl rfl ?_));clear S;intro a S
 obtain ⟨r1,hr1,h⟩:=Eg h
 have hz1:=S.keep.size
 refine Dc S (fun _=>Cw (vs:=[Ab,iV Ap]) ⟨(S.tm rfl),(S.tm rfl),trivial⟩ call60) (Ue _ Ab Ad (Ac.mono (S.le_arg Eo)) Ap _ hr1) rfl ?_;clear S;intro v1 a w1 hv1 hk1 hn1 S
 obtain ⟨u1,rfl,ho1⟩:=hv1
 obtain ⟨φ1,hl1,hm1,S⟩:=S.see' hn1 hz1
 have hs1:=ho1.mono hm1
 refine Vm S rfl rfl fun a S=>Vq S Er rfl rfl rfl fun a S=>Vq S Er rfl rfl rfl fun a S=>Va S rfl rfl fun a S=>Va S rfl rfl fun a S=>Dl (Fs (Fr (Vm S rfl rfl ?_)));clear S;intro a S
 refine Vq S Lo rfl rfl rfl fun a S=>Dl (Fc h (S.tm rfl) (fun hb1 h=>?_) (fun hb1 h=>?_))
 ·refine Fr (Vm S rfl rfl fun a S=>Vk S rfl rfl fun a S=>Va S rfl rfl fun a S=>Ld ?_)
  replace S:=S.k2 4 5 rfl
  refine Tn (wp_ret (Cx ?_))
  obtain rfl:=Option.some.inj h
  exact Kj S results34 rfl rfl rfl
 ·refine wp_skip (Tn (Fr (Vm S rfl rfl fun a S=>Vm S rfl rfl ?_)));clear S;intro a S
  obtain ⟨r2,hr2,h⟩:=Eg h
  refine Dc S (fun _=>Cw (vs:=[u1,iV Ap]) ⟨(S.tm rfl),(S.tm rfl),trivial⟩ call61) (Ud _ u1 r1.1 ((Ha Hr.enc_ok hs1).mono (S.le_new Eo)) Ap _ hr2) rfl ?_;clear S;intro v2 a w2 hv2 hk2 hn2 S
  subst hv2
  refine Va S rfl rfl fun a S=>Vk S rfl rfl fun a S=>Ld ?_
  replace S:=S.k2 4 5 rfl
  refine Tn (wp_ret ?_)
  obtain rfl:=Option.some.inj h
  exact Kj S results34 rfl rfl rfl
theorem Xf (w : World) (Ab : Value) (Ad : List Jr) (Ac : Slc (view w []) 2 Ab (Ad.map Jr.enc)) (Bl : ByteArray) (Bf : Int) (r : Int × Int) (h : Ru Ad Bl Bf = some r) :
    Calls prog 35 [Ab,sV Bl,iV Bf].toArray w (Ret w [] fun _ v _=>v = .tuple #[iV r.1,iV r.2]):=by
 refine Fe func35 rfl ntmps35 rfl fun a S=>?_
 unfold Ru at h
 replace S:=S.k3 0 1 2 rfl
 refine Fr (Vk S rfl rfl fun a S=>Vk S rfl rfl fun a S=>Dl (Fs (Fr (Vm S rfl rfl ?_))));clear S;intro a S
 obtain ⟨r1,hr1,h⟩:=Eg h
 refine Dc S (fun _=>Cw (vs:=[Ab]) ⟨(S.tm rfl),trivial⟩ call26) (Qi _ Ab Ad (Ac.mono (S.le_arg Eo)) _ hr1) rfl ?_;clear S;intro v1 a w1 hv1 hk1 hn1 S
 subst hv1
 refine Va S rfl rfl fun a S=>Dz (Vm S rfl rfl fun a S=>Vq S Lo rfl rfl rfl fun a S=>Dl (Fc h (S.tm rfl) (fun hb1 h=>?_) (fun hb1 h=>?_)))
 ·refine Fr (Vm S rfl rfl fun a S=>Vk S rfl rfl fun a S=>Va S rfl rfl fun a S=>Dl (wp_ret (Cx ?_)))
  obtain rfl:=Option.some.inj h
  exact Kj S results35 rfl rfl rfl
 ·refine wp_skip (Tn (Fr (Vm S rfl rfl fun a S=>Vm S rfl rfl fun a S=>Dc S (fun _=>Cw (vs:=[Ab,sV Bl]) ⟨(S.tm rfl),(S.tm rfl),trivial⟩ call29) (Sa _ Ab Ad (Ac.mono (S.le_arg Eo)) Bl _ rfl) rfl ?_)));clear S;intro v2 a w2 hv2 hk2 hn2 S
  subst hv2
  refine Va S rfl rfl fun a S=>Dl (Fs (Fr (Vm S rfl rfl fun a S=>Vq S Jz rfl rfl rfl fun a S=>Ld ?_)))
  replace S:=S.k3 2 9 19 rfl
  refine Tn (Fc h (S.tm rfl) (fun hb2 h=>?_) (fun hb2 h=>?_))
  ·refine Fr (Vk S rfl rfl fun a S=>Vk S rfl rfl fun a S=>Dl (wp_ret (Cx ?_)))
   obtain rfl:=Option.some.inj h
   exact Kj S results35 rfl rfl rfl
  ·refine wp_skip (Tn (Fs (Fr (Vm S rfl rfl fun a S=>Dc S (fun _=>Cw (vs:=[iV Bf]) ⟨(S.tm rfl),trivial⟩ call53) (Pp _ Bf _ rfl) rfl ?_))));clear S;intro v3 a w3 hv3 hk3 hn3 S
   subst hv3
   refine Vu S Hp rfl rfl fun a S=>Dl (Fc h (S.tm rfl) (fun hb3 h=>?_) (fun hb3 h=>?_))
   ·refine Fr (Vk S rfl rfl fun a S=>Vk S rfl rfl fun a S=>Dl (wp_ret (Cx ?_)))
    obtain rfl:=Option.some.inj h
    exact Kj S results35 rfl rfl rfl
   ·refine wp_skip (Tn (Fr (Vm S rfl rfl fun a S=>Vm S rfl rfl ?_)));clear S;intro a S
    obtain ⟨r2,hr2,h⟩:=Eg h
    refine Dc S (fun _=>Cw (vs:=[iV (Fy Ad Bl),iV Bf]) ⟨(S.tm rfl),(S.tm rfl),trivial⟩ call30) (Sb _ (Fy Ad Bl) Bf _ hr2) rfl ?_;clear S;intro v4 a w4 hv4 hk4 hn4 S
    subst hv4
    refine Va S rfl rfl fun a S=>Vk S rfl rfl fun a S=>Dl (wp_ret ?_)
    obtain rfl:=Option.some.inj h
    exact Kj S results35 rfl rfl rfl
set_option maxRecDepth 20000 in
theorem Uf (w : World) (Ab : Value) (Ad : List Od) (By : List R91) (Ac : Slc (view w []) 5 Ab (By.map R91.enc)) (Bq : Kd (Tu (view w [])) Ad By) (r : Int) (h : Pf Ad = some r) :
    Calls prog 62 [Ab].toArray w (Ret w [] fun _ v _=>v = iV r):=by
 refine Fe func62 rfl ntmps62 rfl fun a S=>?_
 unfold Pf at h
 replace S:=S.k1 0 rfl
 refine Fr (Vk S rfl rfl fun a S=>Dl (Fs (Fr (Vm S rfl rfl fun a S=>lv S (Ee AI (S.tm rfl) (Qv Ac Bq)) rfl fun a S=>Vq S Ji rfl rfl rfl ?_))));clear S;intro a S
 refine Dl (Fc h (S.tm rfl) (fun hb1 h=>?_) (fun hb1 h=>?_))
 ·refine Fr (Vk S rfl rfl fun a S=>Dl (wp_ret (Cx ?_)))
  obtain rfl:=Option.some.inj h
  exact Dx S results62 rfl rfl
 ·refine wp_skip (Tn (Fs (Fr (Vm S rfl rfl fun a S=>lv S (Ee AI (S.tm rfl) (Qv Ac Bq)) rfl fun a S=>lv S (Rm rfl) rfl fun a S=>Dl ?_))))
  replace S:=S.k4 0 10 11 12 rfl
  obtain ⟨j1,hj1,h⟩:=Ec h
  refine Ds (fun a w'=>j1 = some r ∧ Sx w [] nov [] [] 87 a w') ?_ ?_
  ·refine wp_block (Fi (fun (ys1 : List Od) a w'=>∃ i1 : Nat,(∃ dn,Ad = dn ++ ys1 ∧ dn.length = i1) ∧ Im Ad j1 ys1 i1 = some r ∧ Sx w [] nov [] [(0,Ab),(10,Ab),(11,iV (Ad.length : Int)),(12,iV (i1 : Int))] 87 a w') List.length Ad ⟨0,⟨[],rfl,rfl⟩,h,S.nf [] rfl (subR rfl)⟩ ?_)
   clear S h;rintro ys1 a w1 ⟨i1,⟨dn,hd1,hi1⟩,h,S⟩
   cases ys1 with
   | nil =>
    rw [Im.eq_1] at h
    refine Fr (Vb S Dt rfl rfl rfl fun a S=>Ld ?_)
    replace S:=S.k5 0 10 11 12 13 rfl
    exact Tn (Fs (wp_cond_false ((S.tm rfl).trans (congrArg Value.bool (Hq hd1 hi1))) (wp_exit (Dj (Dj (Fj (Tn (⟨h,S.nf [] rfl trivial⟩))))))))
   | cons y1 ys1 =>
    rw [Im.eq_2] at h
    refine Fr (Vb S Dt rfl rfl rfl fun a S=>Ld ?_)
    replace S:=S.k5 0 10 11 12 13 rfl
    refine Tn (Fs (wp_cond_true ((S.tm rfl).trans (congrArg Value.bool (Gb hd1 hi1))) (wp_skip (Tn (Fs (wp_block (Fr (Vm S rfl rfl ?_))))))));clear S;intro a S
    obtain ⟨r1,hg1,hl1⟩:=Kd.at Bq (Hz hd1 hi1)
    obtain ⟨u1,rfl,hs1⟩:=hl1
    obtain ⟨b1,o1,hm1,hr1⟩:=Eb (a:=a) (x:=.tmp 10) (y:=.tmp 12) (ty:=0) AI Ac hg1 rfl (S.tm rfl) (S.tm rfl)
    refine lv S (hr1 _) rfl ?_;clear S;intro a S
    clear hr1
    refine lv S (Fp isAgg91 sizeOf91 (off:=o1) (o:=0) (part:=[sV y1.Key,sV y1.Race,u1.val,iV y1.Young,iV y1.Old]) rfl rfl (S.tm rfl) (hm1.at S.emb0)) rfl fun a S=>It S zeroValue91 (cs:=[sV Cy,sV Cy,.slice none 0 0,iV 0,iV 0]) rfl rfl ?_;clear S;intro a w3 b2 hz1 hk1 S
    refine Va S rfl rfl fun a S=>Gl S (S.tm rfl) (S.tm rfl) (i:=0) (off:=0) rfl sizeOf91 (vs:=[sV y1.Key,sV y1.Race,u1.val,iV y1.Young,iV y1.Old]) rfl rfl rfl (Rq rfl (Rq rfl (Rq (Kl.one (Ej hs1)) (Rq rfl (Rq rfl rfl))))) ?_;clear S;intro w4 hk2 S
    refine Dl (Fs (wp_block (Fr (Vf Yj S rfl rfl fun a S=>Vl isAgg9 0 S rfl rfl rfl rfl ?_))));clear S;intro a S
    obtain ⟨r2,hr2,h⟩:=Eg h
    refine Dc S (fun _=>Cw (vs:=[sV y1.Key]) ⟨(S.tm rfl),trivial⟩ call52) (Ht _ y1.Key _ hr2) rfl ?_;clear S;intro v1 a w5 hv1 hk3 hn1 S
    subst hv1
    refine Vu S Hp rfl rfl fun a S=>Vm S rfl rfl ?_;clear S;intro a S
    obtain ⟨j2,hj2,h⟩:=Ec h
    refine Hw 5 (fun a w'=>∃ c1,j2 c1 = some r ∧ Keep [] w5 w' ∧ Sx w [] nov [.blk b2 [sV y1.Key,sV y1.Race,u1.val,iV y1.Young,iV y1.Old] 91] [(0,Ab),(3,iV (i1 : Int)),(4,.pointer (some ⟨b2,0,none⟩)),(10,Ab),(11,iV (Ad.length : Int)),(12,iV (i1 : Int)),(27,bV c1)] 87 a w') ?_ ?_
    ·rcases Bool.eq_false_or_eq_true (!r2) with hb2 | hb2
     ·replace h:=Om h hb2
      iterate 4 (refine Gm S rfl rfl rfl (Md hb2) rfl ?_ rfl;clear S;intro a S)
      exact Vq S (Kt true hb2) rfl rfl rfl fun a S=>Dl (⟨_,h,Keep.refl _ _,S.nf [true] rfl (subR rfl)⟩)
     ·replace h:=On h hb2
      refine Cz S rfl rfl rfl hb2 (Vf EX S rfl rfl fun a S=>Cz S rfl rfl rfl hb2 (Vl isAgg9 0 S rfl rfl rfl rfl fun a S=>Cz S rfl rfl rfl hb2 ?_))
      obtain ⟨r3,hr3,h⟩:=Eg h
      refine Dc S (fun _=>Cw (vs:=[sV y1.Race]) ⟨(S.tm rfl),trivial⟩ call52) (Ht _ y1.Race _ hr3) rfl ?_;clear S;intro v2 a w7 hv2 hk4 hn2 S
      subst hv2
      exact Cz S rfl rfl rfl hb2 (Vu S Hp rfl rfl fun a S=>lv S (Ku hb2 (S.tm rfl) (S.tm rfl)) rfl fun a S=>Dl (⟨_,h,hk4,S.nf [true] rfl (subR rfl)⟩))
    clear S h;rintro a w6 ⟨c1,h,hk5,S⟩;rw [hj2] at h;clear hj2 j2
    refine Va S rfl rfl fun a S=>Dl (Fc h (S.tm rfl) (fun hb3 h=>?_) (fun hb3 h=>?_))
    ·refine Fr (Vk S rfl rfl fun a S=>Dl (wp_ret (Em (Cx (Em (Cx (Cx ?_)))))))
     refine Em (Cx (Cx ?_))
     obtain rfl:=Option.some.inj h
     exact Dx S results62 rfl rfl
    ·refine Fs (Fw [] ([]) Tryz.mixed S rfl (by kernel_rfl) ?_);clear S;intro w8 hk6 hsel S
     refine Kc [0,1,2,3,4,5,6,7,8,9,10,11,12,13] hsel (by kernel_rfl) rfl ?_
     clear hsel
     refine En S rfl (Rm (S.tm rfl)) rfl fun a S=>En S rfl (Ji (S.tm rfl) rfl) rfl fun a S=>En S rfl (Rm (S.tm rfl)) rfl ?_;clear S;intro a S
     obtain ⟨j3,hj3,h⟩:=Ec h
     refine Ts 10 (fun a w'=>∃ c2,j3 c2 = some r ∧ Keep [] w8 w' ∧ Sx w [] nov [.blk b2 [sV y1.Key,sV y1.Race,u1.val,iV y1.Young,iV y1.Old] 91] [(0,Ab),(4,.pointer (some ⟨b2,0,none⟩)),(10,Ab),(11,iV (Ad.length : Int)),(12,iV (i1 : Int)),(41,bV c2)] 87 a w') ?_ ?_
     ·rcases Bool.eq_false_or_eq_true (decide (0 < (i1 : Int))) with hb4 | hb4
      ·replace h:=Om h hb4
       refine Ef S rfl rfl rfl rfl hb4 (Fa S (Fk Yj (S.tm rfl)) rfl fun a S=>Ef S rfl rfl rfl rfl hb4 (Fa S (Oh isAgg9 (S.tm rfl) (S.cell (i:=0) rfl rfl)) rfl fun a S=>Ef S rfl rfl rfl rfl hb4 (Fa S (Rm (S.tm rfl)) rfl fun a S=>Ef S rfl rfl rfl rfl hb4 (Fa S (Rm (S.tm rfl)) rfl fun a S=>Ef S rfl rfl rfl rfl hb4 (Fa S (Jb (S.tm rfl) rfl) rfl fun a S=>Ef S rfl rfl rfl rfl hb4 ?_)))))
       obtain ⟨hc1,h⟩:=Hl h
       obtain ⟨r4,hg2,hl2⟩:=HW Bq hc1
       obtain ⟨u2,rfl,hs2⟩:=hl2
       obtain ⟨b3,o2,hm2,hr4⟩:=Eb (a:=a) (x:=.tmp 34) (y:=.tmp 36) (ty:=0) AI Ac hg2 (Db hc1).2 (S.tm rfl) (S.tm rfl)
       refine Fa S (hr4 _) rfl ?_;clear S;intro a S
       clear hr4
       exact Ef S rfl rfl rfl rfl hb4 (Fa S (Fk Yj (S.tm rfl)) rfl fun a S=>Ef S rfl rfl rfl rfl hb4 (Fa S (Gk isAgg9 (off:=o2) (o:=0) (S.tm rfl) (hm2.at S.emb0) rfl) rfl fun a S=>Ef S rfl rfl rfl rfl hb4 (Fa S (AX (S.tm rfl) (S.tm rfl)) rfl fun a S=>En S rfl (Hg hb4 (S.tm rfl) (S.tm rfl)) rfl fun a S=>Hk (⟨_,h,Keep.refl _ _,S.nf [true] rfl (subR rfl)⟩))))
      ·replace h:=On h hb4
       iterate 9 (refine Nx S rfl rfl rfl rfl (Jt hb4) rfl ?_ rfl;clear S;intro a S)
       exact En S rfl (Hh true hb4 (S.tm rfl) rfl) rfl fun a S=>Hk (⟨_,h,Keep.refl _ _,S.nf [true] rfl (subR rfl)⟩)
     clear S h;rintro a w9 ⟨c2,h,hk7,S⟩;rw [hj3] at h;clear hj3 j3
     refine En S rfl (Ra (S.tm rfl)) rfl fun a S=>Hk ?_
     replace S:=(S.nl [.blk b2 [sV y1.Key,sV y1.Race,u1.val,iV y1.Young,iV y1.Old] 91] [true] rfl).k6 0 4 10 11 12 28 rfl
     refine Tn (Fc h (S.tm rfl) (fun hb5 h=>?_) (fun hb5 h=>?_))
     ·refine Fr (Vk S rfl rfl fun a S=>Dl (wp_ret (Em (Cx (Em (Cx (Cx ?_)))))))
      refine Em (Cx (Cx ?_))
      obtain rfl:=Option.some.inj h
      exact Dx S results62 rfl rfl
     ·refine Fr (Vf Wi S rfl rfl fun a S=>Vl isAgg57 0 S rfl rfl rfl rfl fun a S=>lv S (Ee Rb (S.tm rfl) (Ej hs1)) rfl fun a S=>Vq S Ji rfl rfl rfl fun a S=>Va S rfl rfl fun a S=>Dl (Fc h (S.tm rfl) (fun hb6 h=>?_) (fun hb6 h=>?_)))
      ·refine Fr (Vk S rfl rfl fun a S=>Dl (wp_ret (Em (Cx (Em (Cx (Cx ?_)))))))
       refine Em (Cx (Cx ?_))
       obtain rfl:=Option.some.inj h
       exact Dx S results62 rfl rfl
      ·refine wp_skip (Gx (Tn (Fs (Fr (Vf Wi S rfl rfl fun a S=>Vl isAgg57 0 S rfl rfl rfl rfl fun a S=>lv S (Ee Rb (S.tm rfl) (Ej hs1)) rfl fun a S=>lv S (Rm rfl) rfl fun a S=>Ld ?_)))))
       replace S:=S.k8 0 4 10 11 12 48 49 50 rfl
       refine Tn ?_
       obtain ⟨j4,hj4,h⟩:=Ec h
       refine Ds (fun a w'=>j4 = some r ∧ Sx w [] nov [.blk b2 [sV y1.Key,sV y1.Race,u1.val,iV y1.Young,iV y1.Old] 91] [(0,Ab),(4,.pointer (some ⟨b2,0,none⟩)),(10,Ab),(11,iV (Ad.length : Int)),(12,iV (i1 : Int))] 87 a w') ?_ ?_
       ·refine wp_block (Fi (fun (ys2 : List ByteArray) a w'=>∃ i2 : Nat,(∃ dn,y1.Clubs = dn ++ ys2 ∧ dn.length = i2) ∧ Il y1 j4 ys2 i2 = some r ∧ Sx w [] nov [.blk b2 [sV y1.Key,sV y1.Race,u1.val,iV y1.Young,iV y1.Old] 91] [(0,Ab),(4,.pointer (some ⟨b2,0,none⟩)),(10,Ab),(11,iV (Ad.length : Int)),(12,iV (i1 : Int)),(48,u1.val),(49,iV (y1.Clubs.length : Int)),(50,iV (i2 : Int))] 87 a w') List.length y1.Clubs ⟨0,⟨[],rfl,rfl⟩,h,S.nf [true] rfl (subR rfl)⟩ ?_)
        clear S h;rintro ys2 a w10 ⟨i2,⟨dn,hd2,hi2⟩,h,S⟩
        cases ys2 with
        | nil =>
         rw [Il.eq_1] at h
         refine Fr (Vb S Dt rfl rfl rfl fun a S=>Ld ?_)
         replace S:=S.k9 0 4 10 11 12 48 49 50 51 rfl
         exact Tn (Fs (wp_cond_false ((S.tm rfl).trans (congrArg Value.bool (Hq hd2 hi2))) (wp_exit (Dj (Dj (Fj (Tn (⟨h,S.nf [true] rfl (subR rfl)⟩))))))))
        | cons y2 ys2 =>
         rw [Il.eq_2] at h
         refine Fr (Vb S Dt rfl rfl rfl fun a S=>Ld ?_)
         replace S:=S.k9 0 4 10 11 12 48 49 50 51 rfl
         refine Tn (Fs (wp_cond_true ((S.tm rfl).trans (congrArg Value.bool (Gb hd2 hi2))) (wp_skip (Tn (Fs (wp_block (Fr (Vm S rfl rfl ?_))))))));clear S;intro a S
         obtain ⟨b4,o3,hm3,hr5⟩:=Eb (a:=a) (x:=.tmp 48) (y:=.tmp 50) (ty:=0) Rb hs1 (Hz hd2 hi2) rfl (S.tm rfl) (S.tm rfl)
         refine lv S (hr5 _) rfl ?_;clear S;intro a S
         clear hr5
         refine lv S (Gk isAgg9 (off:=o3) (o:=0) (S.tm rfl) (hm3.at S.emb0) rfl) rfl fun a S=>Va S rfl rfl fun a S=>Va S rfl rfl fun a S=>Dl (Fs (Fr (Vm S rfl rfl ?_)));clear S;intro a S
         obtain ⟨r5,hr6,h⟩:=Eg h
         refine Dc S (fun _=>Cw (vs:=[sV y2]) ⟨(S.tm rfl),trivial⟩ call52) (Ht _ y2 _ hr6) rfl ?_;clear S;intro v3 a w12 hv3 hk8 hn3 S
         subst hv3
         refine Vu S Hp rfl rfl fun a S=>Ld ?_
         replace S:=S.k11 0 4 5 6 10 11 12 48 49 50 57 rfl
         refine Tn (Fc h (S.tm rfl) (fun hb7 h=>?_) (fun hb7 h=>?_))
         ·refine Fr (Vk S rfl rfl fun a S=>Dl (wp_ret (Cx (Em (Cx (Cx (Em ?_)))))))
          refine Cx (Cx (Em (Cx (Cx (Em (Cx (Cx ?_)))))))
          obtain rfl:=Option.some.inj h
          exact Dx S results62 rfl rfl
         ·refine wp_skip (Tn (Fr (Vm S rfl rfl fun a S=>Vq S Ji rfl rfl rfl fun a S=>Vm S rfl rfl ?_)));clear S;intro a S
          obtain ⟨j5,hj5,h⟩:=Ec h
          refine Hw 9 (fun a w'=>∃ c3,j5 c3 = some r ∧ Keep [] w12 w' ∧ Sx w [] nov [.blk b2 [sV y1.Key,sV y1.Race,u1.val,iV y1.Young,iV y1.Old] 91] [(0,Ab),(4,.pointer (some ⟨b2,0,none⟩)),(10,Ab),(11,iV (Ad.length : Int)),(12,iV (i1 : Int)),(48,u1.val),(49,iV (y1.Clubs.length : Int)),(50,iV (i2 : Int)),(69,bV c3)] 87 a w') ?_ ?_
          ·rcases Bool.eq_false_or_eq_true (decide (0 < (i2 : Int))) with hb8 | hb8
           ·replace h:=Om h hb8
            refine Cz S rfl rfl rfl hb8 (Vm S rfl rfl fun a S=>Cz S rfl rfl rfl hb8 (Vf Wi S rfl rfl fun a S=>Cz S rfl rfl rfl hb8 (Vl isAgg57 0 S rfl rfl rfl rfl fun a S=>Cz S rfl rfl rfl hb8 (Vm S rfl rfl fun a S=>Cz S rfl rfl rfl hb8 (Vq S Jb rfl rfl rfl fun a S=>Cz S rfl rfl rfl hb8 ?_)))))
            obtain ⟨hc2,h⟩:=Hl h
            obtain ⟨b5,o4,hm4,hr7⟩:=Eb (a:=a) (x:=.tmp 63) (y:=.tmp 65) (ty:=0) Rb hs1 (Db hc2).1 (Db hc2).2 (S.tm rfl) (S.tm rfl)
            refine lv S (hr7 _) rfl ?_;clear S;intro a S
            clear hr7
            exact Cz S rfl rfl rfl hb8 (lv S (Gk isAgg9 (off:=o4) (o:=0) (S.tm rfl) (hm4.at S.emb0) rfl) rfl fun a S=>Cz S rfl rfl rfl hb8 (Vb S AX rfl rfl rfl fun a S=>lv S (Hg hb8 (S.tm rfl) (S.tm rfl)) rfl fun a S=>Dl (⟨_,h,Keep.refl _ _,S.nf [true] rfl (subR rfl)⟩)))
           ·replace h:=On h hb8
            iterate 8 (refine Gm S rfl rfl rfl (Jt hb8) rfl ?_ rfl;clear S;intro a S)
            exact Vq S (Hh true hb8) rfl rfl rfl fun a S=>Dl (⟨_,h,Keep.refl _ _,S.nf [true] rfl (subR rfl)⟩)
          clear S h;rintro a w13 ⟨c3,h,hk9,S⟩;rw [hj5] at h;clear hj5 j5
          refine Dl (Fc h (S.tm rfl) (fun hb9 h=>?_) (fun hb9 h=>?_))
          ·refine Fr (Vk S rfl rfl fun a S=>Dl (wp_ret (Em (Cx (Cx (Em (Cx ?_)))))))
           refine Cx (Em (Cx (Cx (Em (Cx (Cx ?_))))))
           obtain rfl:=Option.some.inj h
           exact Dx S results62 rfl rfl
          ·exact wp_skip (Gx (Tn (Fg (Vq S Ek rfl rfl rfl fun a S=>Vm S rfl rfl fun a S=>Dl (⟨ys2,⟨i2 + 1,⟨_,(hd2).trans (List.append_cons _ _ _),by simp [hi2]⟩,h,S.nf [true] rfl ⟨rfl,rfl,rfl,rfl,rfl,rfl,rfl,(congrArg (fun z=>some (Value.int .i64 z)) (Gc hd2 hi2 (Jk hs1))),trivial⟩⟩,Nat.lt_succ_self _⟩)))))
       clear S h;rintro a w11 ⟨h,S⟩;rw [hj4] at h;clear hj4 j4
       refine Tn (Fr (Vf BS S rfl rfl fun a S=>Vl isAgg3 0 S rfl rfl rfl rfl fun a S=>Vq S Dt rfl rfl rfl fun a S=>Vm S rfl rfl fun a S=>Hw 6 (fun a w'=>Keep [] w11 w' ∧ Sx w [] nov [.blk b2 [sV y1.Key,sV y1.Race,u1.val,iV y1.Young,iV y1.Old] 91] [(0,Ab),(4,.pointer (some ⟨b2,0,none⟩)),(10,Ab),(11,iV (Ad.length : Int)),(12,iV (i1 : Int)),(80,bV ((decide (y1.Young < 0)) || (decide (y1.Old < y1.Young))))] 87 a w') ?_ ?_))
       ·rcases Bool.eq_false_or_eq_true (decide (y1.Young < 0)) with hb10 | hb10
        ·iterate 5 (refine Gm S rfl rfl rfl (Md hb10) rfl ?_ rfl;clear S;intro a S)
         exact lv S (Kt (decide (y1.Old < y1.Young)) hb10 (S.tm rfl) rfl) rfl fun a S=>Dl (⟨Keep.refl _ _,S.nf [true] rfl (subR rfl)⟩)
        ·refine Cz S rfl rfl rfl hb10 (Vf BS S rfl rfl fun a S=>Cz S rfl rfl rfl hb10 (Vl isAgg3 0 S rfl rfl rfl rfl fun a S=>Cz S rfl rfl rfl hb10 (Vf BT S rfl rfl fun a S=>Cz S rfl rfl rfl hb10 (Vl isAgg3 0 S rfl rfl rfl rfl fun a S=>Cz S rfl rfl rfl hb10 (Vb S Ji rfl rfl rfl fun a S=>lv S (Ku hb10 (S.tm rfl) (S.tm rfl)) rfl ?_)))));clear S;intro a S
         exact Dl (⟨Keep.refl _ _,S.nf [true] rfl (subR rfl)⟩)
       clear S;rintro a w14 ⟨hk10,S⟩
       refine Vm S rfl rfl fun a S=>Hw 4 (fun a w'=>Keep [] w14 w' ∧ Sx w [] nov [.blk b2 [sV y1.Key,sV y1.Race,u1.val,iV y1.Young,iV y1.Old] 91] [(0,Ab),(10,Ab),(11,iV (Ad.length : Int)),(12,iV (i1 : Int)),(85,bV (((decide (y1.Young < 0)) || (decide (y1.Old < y1.Young))) || (decide (150 < y1.Old))))] 87 a w') ?_ ?_
       ·rcases Bool.eq_false_or_eq_true ((decide (y1.Young < 0)) || (decide (y1.Old < y1.Young))) with hb11 | hb11
        ·iterate 3 (refine Gm S rfl rfl rfl (Md hb11) rfl ?_ rfl;clear S;intro a S)
         exact lv S (Kt (decide (150 < y1.Old)) hb11 (S.tm rfl) rfl) rfl fun a S=>Dl (⟨Keep.refl _ _,S.nf [true] rfl (subR rfl)⟩)
        ·exact Cz S rfl rfl rfl hb11 (Vf BT S rfl rfl fun a S=>Cz S rfl rfl rfl hb11 (Vl isAgg3 0 S rfl rfl rfl rfl fun a S=>Cz S rfl rfl rfl hb11 (Vq S Ji rfl rfl rfl fun a S=>lv S (Ku hb11 (S.tm rfl) (S.tm rfl)) rfl fun a S=>Dl (⟨Keep.refl _ _,S.nf [true] rfl (subR rfl)⟩))))
       clear S;rintro a w15 ⟨hk11,S⟩
       refine Dl (Fc h (S.tm rfl) (fun hb12 h=>?_) (fun hb12 h=>?_))
       ·refine Fr (Vk S rfl rfl fun a S=>Dl (wp_ret (Em (Cx (Cx (Em (Cx ?_)))))))
        refine Cx ?_
        obtain rfl:=Option.some.inj h
        exact Dx S results62 rfl rfl
       ·exact wp_skip (Gx (Tn (Fg (Vq S Ek rfl rfl rfl fun a S=>Vm S rfl rfl fun a S=>Dl (⟨ys1,⟨i1 + 1,⟨_,(hd1).trans (List.append_cons _ _ _),by simp [hi1]⟩,h,S.nf [false] rfl ⟨rfl,rfl,rfl,(congrArg (fun z=>some (Value.int .i64 z)) (Gc hd1 hi1 (Rx Ac Bq))),trivial⟩⟩,Nat.lt_succ_self _⟩)))))
  clear S h;rintro a w2 ⟨h,S⟩;rw [hj1] at h;clear hj1 j1
  refine Tn (Fr (Vk S rfl rfl fun a S=>Dl (wp_ret ?_)))
  obtain rfl:=Option.some.inj h
  exact Dx S results62 rfl rfl
theorem Uy (w : World) (Al : Hi) (r : Int) (h : Pn Al = some r) :
    Calls prog 94 [.agg (Hi.enc Al).toArray].toArray w (Ret w [] fun _ v _=>v = iV r):=by
 refine Fe func94 rfl ntmps94 rfl fun a S=>?_
 unfold Pn at h
 replace S:=S.k1 0 rfl
 refine Fr (Nj S (S.tm rfl) (cs:=(Hi.enc Al)) rfl rfl ?_);clear S;intro a w1 b1 hz1 hk1 S
 refine Vk S rfl rfl fun a S=>Dl (Fs ?_)
 obtain ⟨j1,hj1,h⟩:=Ec h
 refine Ds (fun a w'=>j1 = some r ∧ Sx w [] nov [] [] 64 a w') ?_ ?_
 ·refine wp_block (Fr (Vf EY S rfl rfl fun a S=>Vl isAgg3 0 S rfl rfl rfl rfl fun a S=>Dc S (fun _=>Cw (vs:=[iV Al.At]) ⟨(S.tm rfl),trivial⟩ call124) (Rk _ Al.At _ rfl) rfl ?_));clear S;intro v1 a w3 hv1 hk2 hn1 S
  subst hv1
  refine Vu S Hp rfl rfl fun a S=>Va S rfl rfl fun a S=>Dl (Fc h (S.tm rfl) (fun hb1 h=>?_) (fun hb1 h=>?_))
  ·refine Fr (Vk S rfl rfl fun a S=>Dl (wp_ret (Em (Cx (Cx ?_)))))
   obtain rfl:=Option.some.inj h
   exact Dx S results94 rfl rfl
  ·refine Fr (Vf Yk S rfl rfl fun a S=>Vl isAgg3 0 S rfl rfl rfl rfl fun a S=>Dc S (fun _=>Cw (vs:=[iV Al.Kind,iV 1,iV 3]) ⟨(S.tm rfl),rfl,rfl,trivial⟩ call28) (El _ Al.Kind 1 3 _ rfl) rfl ?_);clear S;intro v2 a w4 hv2 hk3 hn2 S
   subst hv2
   refine Vu S Hp rfl rfl fun a S=>Va S rfl rfl fun a S=>Dl (Fc h (S.tm rfl) (fun hb2 h=>?_) (fun hb2 h=>?_))
   ·refine Fr (Vk S rfl rfl fun a S=>Dl (wp_ret (Em (Cx (Cx ?_)))))
    obtain rfl:=Option.some.inj h
    exact Dx S results94 rfl rfl
   ·refine Fr (Vf EZ S rfl rfl fun a S=>Vl isAgg9 0 S rfl rfl rfl rfl ?_);clear S;intro a S
    obtain ⟨r1,hr1,h⟩:=Eg h
    refine Dc S (fun _=>Cw (vs:=[sV Al.Id]) ⟨(S.tm rfl),trivial⟩ call52) (Ht _ Al.Id _ hr1) rfl ?_;clear S;intro v3 a w5 hv3 hk4 hn3 S
    subst hv3
    refine Vu S Hp rfl rfl fun a S=>Va S rfl rfl fun a S=>Ld ?_
    replace S:=(S.nl [.blk b1 (Hi.enc Al) 94] [true] rfl).k2 1 13 rfl
    refine Tn (Fc h (S.tm rfl) (fun hb3 h=>?_) (fun hb3 h=>?_))
    ·refine Fr (Vk S rfl rfl fun a S=>Dl (wp_ret (Em (Cx (Cx ?_)))))
     obtain rfl:=Option.some.inj h
     exact Dx S results94 rfl rfl
    ·refine Fr (Vf Yk S rfl rfl fun a S=>Vl isAgg3 0 S rfl rfl rfl rfl fun a S=>Vq S Lo rfl rfl rfl fun a S=>Va S rfl rfl fun a S=>Dl ?_)
     obtain ⟨j2,hj2,h⟩:=Ec h
     refine Ds (fun a w'=>j2 = some r ∧ Sx w [] nov [] [] 64 a w') ?_ ?_
     ·refine Fc h (S.tm rfl) (fun hb4 h=>?_) (fun hb4 h=>?_)
      ·refine Fr (lv S (Fp isAgg94 sizeOf94 (off:=0) (o:=0) (part:=(Hi.enc Al)) rfl rfl (S.tm rfl) (S.cellsAt (i:=0) rfl)) rfl fun a S=>Vf EY S rfl rfl fun a S=>Vl isAgg3 0 S rfl rfl rfl rfl fun a S=>Vf Yk S rfl rfl fun a S=>Vl isAgg3 0 S rfl rfl rfl rfl fun a S=>Vf EZ S rfl rfl fun a S=>Vl isAgg9 0 S rfl rfl rfl rfl fun a S=>lv S (Lp bt_94 (pv:=[(0,iV Al.At),(1,iV Al.Kind),(2,sV Al.Id)]) ⟨rfl,(S.tm rfl),rfl,(S.tm rfl),rfl,(S.tm rfl),trivial⟩ (cs:=[iV Al.At,iV Al.Kind,sV Al.Id,sV Cy,sV Cy,sV Cy,iV 0,iV 0]) (by kernel_rfl)) rfl fun a S=>lv S (GQ (m:=Al) (n:=(Hi.mk Al.At Al.Kind Al.Id Cy Cy Cy 0 0)) (S.tm rfl) (S.tm rfl)) rfl ?_);clear S;intro a S
       refine Ld ?_
       replace S:=S.n0.k1 30 rfl
       refine Tn (Fc h (S.tm rfl) (fun hb5 h=>?_) (fun hb5 h=>?_))
       ·refine Fr (Vk S rfl rfl fun a S=>Dl (wp_ret (Cx (Em (Cx (Cx ?_))))))
        obtain rfl:=Option.some.inj h
        exact Dx S results94 rfl rfl
       ·exact wp_skip (Tn (⟨h,S.nf [] rfl trivial⟩))
      ·refine Fr (Vf fa_94_3 S rfl rfl fun a S=>Vl isAgg9 0 S rfl rfl rfl rfl ?_);clear S;intro a S
       obtain ⟨r2,hr2,h⟩:=Eg h
       refine Dc S (fun _=>Cw (vs:=[sV Al.Who]) ⟨(S.tm rfl),trivial⟩ call52) (Ht _ Al.Who _ hr2) rfl ?_;clear S;intro v4 a w7 hv4 hk5 hn4 S
       subst hv4
       refine Vu S Hp rfl rfl fun a S=>Vm S rfl rfl ?_;clear S;intro a S
       obtain ⟨j3,hj3,h⟩:=Ec h
       refine Hw 5 (fun a w'=>∃ c1,j3 c1 = some r ∧ Keep [] w7 w' ∧ Sx w [] nov [.blk b1 (Hi.enc Al) 94] [(1,.pointer (some ⟨b1,0,none⟩)),(41,bV c1)] 64 a w') ?_ ?_
       ·rcases Bool.eq_false_or_eq_true (!r2) with hb6 | hb6
        ·replace h:=Om h hb6
         iterate 4 (refine Gm S rfl rfl rfl (Md hb6) rfl ?_ rfl;clear S;intro a S)
         exact Vq S (Kt true hb6) rfl rfl rfl fun a S=>Dl (⟨_,h,Keep.refl _ _,S.nf [true] rfl (subR rfl)⟩)
        ·replace h:=On h hb6
         refine Cz S rfl rfl rfl hb6 (Vf FA S rfl rfl fun a S=>Cz S rfl rfl rfl hb6 (Vl isAgg9 0 S rfl rfl rfl rfl fun a S=>Cz S rfl rfl rfl hb6 ?_))
         obtain ⟨r3,hr3,h⟩:=Eg h
         refine Dc S (fun _=>Cw (vs:=[sV Al.Race]) ⟨(S.tm rfl),trivial⟩ call52) (Ht _ Al.Race _ hr3) rfl ?_;clear S;intro v5 a w9 hv5 hk6 hn5 S
         subst hv5
         exact Cz S rfl rfl rfl hb6 (Vu S Hp rfl rfl fun a S=>lv S (Ku hb6 (S.tm rfl) (S.tm rfl)) rfl fun a S=>Dl (⟨_,h,hk6,S.nf [true] rfl (subR rfl)⟩))
       clear S h;rintro a w8 ⟨c1,h,hk7,S⟩;rw [hj3] at h;clear hj3 j3
       refine Vm S rfl rfl ?_;clear S;intro a S
       obtain ⟨j4,hj4,h⟩:=Ec h
       refine Hw 10 (fun a w'=>∃ c2,j4 c2 = some r ∧ Keep [] w8 w' ∧ Sx w [] nov [.blk b1 (Hi.enc Al) 94] [(1,.pointer (some ⟨b1,0,none⟩)),(52,bV c2)] 64 a w') ?_ ?_
       ·rcases Bool.eq_false_or_eq_true c1 with hb7 | hb7
        ·replace h:=Om h hb7
         iterate 4 (refine Gm S rfl rfl rfl (Md hb7) rfl ?_ rfl;clear S;intro a S)
         iterate 4 (refine Ya S rfl rfl rfl rfl ?_;clear S;intro a S)
         exact Gm S rfl rfl rfl (Md hb7) rfl (fun a S=>Vq S (Kt true hb7) rfl rfl rfl fun a S=>Dl (⟨_,h,Keep.refl _ _,S.nf [true] rfl (subR rfl)⟩)) rfl
        ·replace h:=On h hb7
         refine Cz S rfl rfl rfl hb7 (Vf BU S rfl rfl fun a S=>Cz S rfl rfl rfl hb7 (Vl isAgg9 0 S rfl rfl rfl rfl fun a S=>Cz S rfl rfl rfl hb7 (Vq S Xz rfl rfl rfl fun a S=>Cz S rfl rfl rfl hb7 (Vm S rfl rfl ?_))));clear S;intro a S
         obtain ⟨j5,hj5,h⟩:=Ec h
         refine Hw 5 (fun a w'=>∃ c3,j5 c3 = some r ∧ Keep [] w8 w' ∧ Sx w [] nov [.blk b1 (Hi.enc Al) 94] [(1,.pointer (some ⟨b1,0,none⟩)),(42,bV c1),(51,bV c3)] 64 a w') ?_ ?_
         ·rcases Bool.eq_false_or_eq_true (!decide (Al.Club = Cy)) with hb8 | hb8
          ·replace h:=Om h hb8
           refine Cz S rfl rfl rfl hb8 (Vf BU S rfl rfl fun a S=>Cz S rfl rfl rfl hb8 (Vl isAgg9 0 S rfl rfl rfl rfl fun a S=>Cz S rfl rfl rfl hb8 ?_))
           obtain ⟨r4,hr4,h⟩:=Eg h
           refine Dc S (fun _=>Cw (vs:=[sV Al.Club]) ⟨(S.tm rfl),trivial⟩ call52) (Ht _ Al.Club _ hr4) rfl ?_;clear S;intro v6 a w12 hv6 hk8 hn6 S
           subst hv6
           exact Cz S rfl rfl rfl hb8 (Vu S Hp rfl rfl fun a S=>Cz S rfl rfl rfl hb7 (lv S (Hg hb8 (S.tm rfl) (S.tm rfl)) rfl fun a S=>Dl (⟨_,h,hk8,S.nf [true] rfl (subR rfl)⟩)))
          ·replace h:=On h hb8
           iterate 4 (refine Gm S rfl rfl rfl (Jt hb8) rfl ?_ rfl;clear S;intro a S)
           exact Cz S rfl rfl rfl hb7 (Vq S (Hh true hb8) rfl rfl rfl fun a S=>Dl (⟨_,h,Keep.refl _ _,S.nf [true] rfl (subR rfl)⟩))
         clear S h;rintro a w11 ⟨c3,h,hk9,S⟩;rw [hj5] at h;clear hj5 j5
         exact lv S (Ku hb7 (S.tm rfl) (S.tm rfl)) rfl fun a S=>Dl (⟨_,h,hk9,S.nf [true] rfl (subR rfl)⟩)
       clear S h;rintro a w10 ⟨c2,h,hk10,S⟩;rw [hj4] at h;clear hj4 j4
       refine Va S rfl rfl fun a S=>Dl (Fc h (S.tm rfl) (fun hb9 h=>?_) (fun hb9 h=>?_))
       ·refine Fr (Vk S rfl rfl fun a S=>Dl (wp_ret (Cx (Em (Cx (Cx ?_))))))
        obtain rfl:=Option.some.inj h
        exact Dx S results94 rfl rfl
       ·refine Fr (Vf FB S rfl rfl fun a S=>Vl isAgg3 0 S rfl rfl rfl rfl fun a S=>Dc S (fun _=>Cw (vs:=[iV Al.Age,iV 0,iV 150]) ⟨(S.tm rfl),rfl,rfl,trivial⟩ call28) (El _ Al.Age 0 150 _ rfl) rfl ?_);clear S;intro v7 a w13 hv7 hk11 hn7 S
        subst hv7
        refine Vu S Hp rfl rfl fun a S=>Vm S rfl rfl fun a S=>Hw 5 (fun a w'=>Keep [] w13 w' ∧ Sx w [] nov [.blk b1 (Hi.enc Al) 94] [(63,bV ((!(Dd Al.Age 0 150)) || (!(Mn Al.Time))))] 64 a w') ?_ ?_
        ·rcases Bool.eq_false_or_eq_true (!(Dd Al.Age 0 150)) with hb10 | hb10
         ·iterate 4 (refine Gm S rfl rfl rfl (Md hb10) rfl ?_ rfl;clear S;intro a S)
          exact lv S (Kt (!(Mn Al.Time)) hb10 (S.tm rfl) rfl) rfl fun a S=>Dl (⟨Keep.refl _ _,S.nf [true] rfl ⟨rfl,trivial⟩⟩)
         ·refine Cz S rfl rfl rfl hb10 (Vf fa_94_7 S rfl rfl fun a S=>Cz S rfl rfl rfl hb10 (Vl isAgg3 0 S rfl rfl rfl rfl fun a S=>Cz S rfl rfl rfl hb10 (Dc S (fun _=>Cw (vs:=[iV Al.Time]) ⟨(S.tm rfl),trivial⟩ call53) (Pp _ Al.Time _ rfl) rfl ?_)));clear S;intro v8 a w15 hv8 hk12 hn8 S
          subst hv8
          exact Cz S rfl rfl rfl hb10 (Vu S Hp rfl rfl fun a S=>lv S (Ku hb10 (S.tm rfl) (S.tm rfl)) rfl fun a S=>Dl (⟨hk12,S.nf [true] rfl ⟨rfl,trivial⟩⟩))
        clear S;rintro a w14 ⟨hk13,S⟩
        refine Va S rfl rfl fun a S=>Dl (Fc h (S.tm rfl) (fun hb11 h=>?_) (fun hb11 h=>?_))
        ·refine Fr (Vk S rfl rfl fun a S=>Dl (wp_ret (Cx (Em (Cx (Cx ?_))))))
         obtain rfl:=Option.some.inj h
         exact Dx S results94 rfl rfl
        ·exact wp_skip (Tn (⟨h,S.nf [false] rfl trivial⟩))
     clear S h;rintro a w6 ⟨h,S⟩;rw [hj2] at h;clear hj2 j2
     exact Gx (Tn (⟨h,S.nf [] rfl trivial⟩))
 clear S h;rintro a w2 ⟨h,S⟩;rw [hj1] at h;clear hj1 j1
 refine Tn (Fr (Vk S rfl rfl fun a S=>Dl (wp_ret ?_)))
 obtain rfl:=Option.some.inj h
 exact Dx S results94 rfl rfl
theorem Uz (w : World) (Am : Hi) (r : Int) (h : Po Am = some r) :
    Calls prog 63 [.agg (Hi.enc Am).toArray].toArray w (Ret w [] fun _ v _=>v = iV r):=by
 refine Fe func63 rfl ntmps63 rfl fun a S=>?_
 unfold Po at h
 replace S:=S.k1 0 rfl
 refine Fr (Nj S (S.tm rfl) (cs:=(Hi.enc Am)) rfl rfl ?_);clear S;intro a w1 b1 hz1 hk1 S
 refine Vk S rfl rfl fun a S=>Dl (Fs (Fr (lv S (Fp isAgg94 sizeOf94 (off:=0) (o:=0) (part:=(Hi.enc Am)) rfl rfl (S.tm rfl) (S.cellsAt (i:=0) rfl)) rfl ?_)));clear S;intro a S
 obtain ⟨r1,hr1,h⟩:=Eg h
 refine Dc S (fun _=>Cw (vs:=[.agg (Hi.enc Am).toArray]) ⟨(S.tm rfl),trivial⟩ call94) (Uy _ Am _ hr1) rfl ?_;clear S;intro v1 a w2 hv1 hk2 hn1 S
 subst hv1
 refine Va S rfl rfl fun a S=>Dz (Vm S rfl rfl fun a S=>Vq S Lo rfl rfl rfl fun a S=>Dl (Fc h (S.tm rfl) (fun hb1 h=>?_) (fun hb1 h=>?_)))
 ·refine Fr (Vm S rfl rfl fun a S=>Va S rfl rfl fun a S=>Dl (wp_ret (Cx ?_)))
  obtain rfl:=Option.some.inj h
  exact Dx S results63 rfl rfl
 ·refine wp_skip (Tn (Fs (Fr (Vf Yk S rfl rfl fun a S=>Vl isAgg3 0 S rfl rfl rfl rfl fun a S=>Vq S Lo rfl rfl rfl fun a S=>Dl (Fc h (S.tm rfl) (fun hb2 h=>?_) (fun hb2 h=>?_))))))
  ·refine Fr (Vk S rfl rfl fun a S=>Dl (wp_ret (Cx ?_)))
   obtain rfl:=Option.some.inj h
   exact Dx S results63 rfl rfl
  ·refine wp_skip (Tn (Fr (Vk S rfl rfl fun a S=>Dl (wp_ret ?_))))
   obtain rfl:=Option.some.inj h
   exact Dx S results63 rfl rfl
theorem Tb (w : World) (Bg : Value) (Am : List ByteArray) (Bk : Slc (view w []) 1 Bg (Am.map Tp)) (Ch : ByteArray) (r : Int) (h : Nz Am Ch = r) :
    Calls prog 126 [Bg,sV Ch].toArray w (Ret w [] fun _ v _=>v = iV r):=by
 refine Fe func126 rfl ntmps126 rfl fun a S=>?_
 unfold Nz at h
 replace S:=S.k2 0 1 rfl
 refine Fr (Vk S rfl rfl fun a S=>Dl (Fs (Fr (Vm S rfl rfl fun a S=>lv S (Ee Rb (S.tm rfl) (Ej Bk)) rfl fun a S=>lv S (Rm rfl) rfl ?_))));clear S;intro a S
 refine Dl ?_
 replace S:=S.k4 0 1 7 8 rfl
 obtain ⟨j1,hj1,h⟩:=Ec h
 refine Ds (fun a w'=>j1 = r ∧ Sx w [] nov [] [] 19 a w') ?_ ?_
 ·refine wp_block (Fi (fun (ys1 : List ByteArray) a w'=>∃ i1 : Nat,(∃ dn,Am = dn ++ ys1 ∧ dn.length = i1) ∧ Hs Ch j1 ys1 i1 = r ∧ Sx w [] nov [] [(0,Bg),(1,sV Ch),(7,iV (Am.length : Int)),(8,iV (i1 : Int))] 19 a w') List.length Am ⟨0,⟨[],rfl,rfl⟩,h,S.nf [] rfl (subR rfl)⟩ ?_)
  clear S h;rintro ys1 a w1 ⟨i1,⟨dn,hd1,hi1⟩,h,S⟩
  cases ys1 with
  | nil =>
   rw [Hs.eq_1] at h
   refine Fr (Vb S Dt rfl rfl rfl fun a S=>Ld ?_)
   replace S:=S.k5 0 1 7 8 9 rfl
   exact Tn (Fs (wp_cond_false ((S.tm rfl).trans (congrArg Value.bool (Hq hd1 hi1))) (wp_exit (Dj (Dj (Fj (Tn (⟨h,S.nf [] rfl trivial⟩))))))))
  | cons y1 ys1 =>
   rw [Hs.eq_2] at h
   refine Fr (Vb S Dt rfl rfl rfl fun a S=>Ld ?_)
   replace S:=S.k5 0 1 7 8 9 rfl
   refine Tn (Fs (wp_cond_true ((S.tm rfl).trans (congrArg Value.bool (Gb hd1 hi1))) (wp_skip (Tn (Fs (wp_block (Fr (Vm S rfl rfl fun a S=>Va S rfl rfl ?_))))))));clear S;intro a S
   refine Dl (Fs (Fg ?_))
   iterate 3 (refine Vm S rfl rfl ?_;clear S;intro a S)
   obtain ⟨b1,o1,hm1,hr1⟩:=Eb (a:=a) (x:=.tmp 12) (y:=.tmp 13) (ty:=0) Rb Bk (Hz hd1 hi1) rfl (S.tm rfl) (S.tm rfl)
   refine lv S (hr1 _) rfl ?_;clear S;intro a S
   clear hr1
   refine lv S (Gk isAgg9 (off:=o1) (o:=0) (S.tm rfl) (hm1.at S.emb0) rfl) rfl fun a S=>Vb S Uk rfl rfl rfl fun a S=>Dl (Fc h (S.tm rfl) (fun hb1 h=>?_) (fun hb1 h=>?_))
   ·refine Fr (Vm S rfl rfl fun a S=>Va S rfl rfl fun a S=>Ld ?_)
    replace S:=S.k1 4 rfl
    refine Tn (wp_ret (Em (Cx (Cx (Em (Cx (Cx ?_)))))))
    subst h
    exact Dx S results126 rfl rfl
   ·exact wp_skip (Gx (Tn (Fg (Vq S Ek rfl rfl rfl fun a S=>Vm S rfl rfl fun a S=>Dl (⟨ys1,⟨i1 + 1,⟨_,(hd1).trans (List.append_cons _ _ _),by simp [hi1]⟩,h,S.nf [] rfl ⟨rfl,rfl,rfl,(congrArg (fun z=>some (Value.int .i64 z)) (Gc hd1 hi1 (Jk Bk))),trivial⟩⟩,Nat.lt_succ_self _⟩)))))
 clear S h;rintro a w2 ⟨h,S⟩;rw [hj1] at h;clear hj1 j1
 refine Tn (Fr (Vk S rfl rfl fun a S=>Dl (wp_ret ?_)))
 subst h
 exact Dx S results126 rfl rfl
theorem Rd (w : World) (Bg : Value) (Am : List ByteArray) (Bk : Slc (view w []) 1 Bg (Am.map Tp)) (Ch : ByteArray) (r : Bool) (h : Gw Am Ch = r) :
    Calls prog 95 [Bg,sV Ch].toArray w (Ret w [] fun _ v _=>v = bV r):=by
 refine Fe func95 rfl ntmps95 rfl fun a S=>?_
 unfold Gw at h
 replace S:=S.k2 0 1 rfl
 refine Fr (Vk S rfl rfl fun a S=>Dz (Vm S rfl rfl fun a S=>Vm S rfl rfl fun a S=>Dc S (fun _=>Cw (vs:=[Bg,sV Ch]) ⟨(S.tm rfl),(S.tm rfl),trivial⟩ call126) (Tb _ Bg Am (Bk.mono (S.le_arg Eo)) Ch _ rfl) rfl ?_));clear S;intro v1 a w1 hv1 hk1 hn1 S
 subst hv1
 refine Vq S Nr rfl rfl rfl fun a S=>Va S rfl rfl fun a S=>Dl (wp_ret ?_)
 subst h
 exact Dx S results95 rfl rfl
end Go.Proofs.YtfdcgchgkojfiaaGreatDoor
