/- Each Go function computes its plain twin,by program. -/
import Derived.Test.YthlielagemkjcaaGreatDoorWk6
namespace Go.Proofs.YthlielagemkjcaaGreatDoor
open Go
open Go.Proofs.Tryz
set_option maxHeartbeats 4000000
set_option maxRecDepth 100000
variable {vs:List Go.Value}
theorem Pu(w:World)(Af:Value)(Am:List An)(Bn:Slc (view w []) 11 Af (Am.map An.enc))(Bf:Nat)(Ar:An)(Bv:(view w []) Bf=some (.cells [sV Ar.Site,iV Ar.No,iV Ar.At,iV Ar.Kind,sV Ar.Who,sV Ar.Club,sV Ar.Race,iV Ar.Time,iV Ar.Fault,sV Ar.Of,iV Ar.Other].toArray 87 (0,0)))(r:Bool)(h:Jw Am Ar=r):
 Calls prog 44 [Af,.func (.func 45) #[] #[bW Bf]].toArray w (Ret w [] λ_ v _=>v=bV r):=by
 unfold Jw at h;refine Fe2 h func44 rfl ntmps44 rfl ?_;exact Au
instance {v0:Go.Value}{c:Array Go.Value}:FnT prog 44 [v0,.func (.func 45) #[] c] (type_of% Pu):=⟨call44,Pu⟩
theorem FK(w:World)(Ad:Value)(Ai:List An)(As:Slc (view w []) 11 Ad (Ai.map An.enc))(r:Int)(h:Ql Ai=some r):
 Calls prog 12 [Ad].toArray w (Ret w [] λ_ v _=>v=iV r):=by
 unfold Ql at h;refine Fe2 h func12 rfl ntmps12 rfl ?_;refine Yv 0 Kz.eq_1 Kz.eq_2 [] [0,11,12] [] (λi1 d p L K=>d p L ((13,iV i1)::K)) (λd p L K=>d p L K) ?_ ?_
 ·refine J [_] 1 [] [0,11,12,13] [false] (λx1 d p L K=>d p L ((34,bV x1)::K)) ?_ ?_
  ·exact Au
  exact Au
 refine Yv 0 Nl.eq_1 Nl.eq_2 [] [0,36,37] [] (λi2 d p L K=>d p L ((38,iV i2)::K)) (λd p L K=>d p L K) ?_ ?_
 ·exact Au
 exact Au
instance:FnT prog 12 vs (type_of% FK):=⟨call12,FK⟩
theorem NR(w:World)(Ad:Value)(Ai:List Int)(As:Slc (view w []) 1 Ad (Ai.map eInt))(r:Int)(h:Nz Ai=r):
 Calls prog 9 [Ad].toArray w (Ret w [] λ_ v _=>v=iV r):=by
 unfold Nz at h;refine Fe2 h func9 rfl ntmps9 rfl ?_;refine Yv 0 Qd.eq_1 Qd.eq_2 [] [5,6] [] (λi1 d p L K=>d p L ((7,iV i1)::K)) (λd p L K=>d p L K) ?_ ?_
 ·exact Au
 exact Au
instance:FnT prog 9 vs (type_of% NR):=⟨call9,NR⟩
theorem IE(w:World)(Ae:Ge)(Av:R32)(Bc:Lb (view w []) Ae Av)(Ad:Value)(Ai:List An)(As:Slc (view w []) 11 Ad (Ai.map An.enc))(Bb:ByteArray)(Aw:Int)(r:(List Fi)×Int)(h:JE Ae Ai Bb Aw=some r):
 Calls prog 47 [.agg (R32.enc Av).toArray,Ad,sV Bb,iV Aw].toArray w (Ret w [] λτ v _=>∃u1:Value,v= .tuple #[u1,iV r.2]/\Kr τ 97 2 u1 r.1.length (r.1.flatMap Fi.enc)):=by
 obtain⟨u1,u2,rfl,hs1,⟨u3,rfl,hs2⟩⟩:=Bc;unfold JE at h;refine Fe2 h func47 rfl ntmps47 rfl ?_;exact Au
instance:FnT prog 47 vs (type_of% IE):=⟨call47,IE⟩
theorem PX(w:World)(r:Bool)(h:CT=some r):
 Calls prog 13 [].toArray w (Ret w [] λ_ v _=>v=bV r):=by
 refine Fe func13 rfl ntmps13 rfl λa S=>?_;unfold CT at h;replace S:=S.k0;refine Fr (Vk S rfl rfl λa S=>Dz (lw S (IA bt_79 (pv:=[(0,sV k_r),(1,iV 50),(2,iV 1),(3,iV 50),(4,iV 1)]) ⟨rfl,rfl,rfl,rfl,rfl,rfl,rfl,rfl,rfl,rfl,trivial⟩ (cs:=[sV k_r,iV 50,iV 1,iV 50,iV 1,iV 0,iV 0,iV 0]) aF) λa S=>Ni S underlying26 sizeOf79 zeroValue79 rfl rfl (pv:=[(0,.agg (Fp.enc (Fp.mk k_r 50 1 50 1 0 0 0)).toArray)]) ⟨rfl,(S.tm rfl),trivial⟩ (cs:=[sV k_r,iV 50,iV 1,iV 50,iV 1,iV 0,iV 0,iV 0]) aF rfl λa w1 b1 hz1 hk1 S=>lw S (IA bt_28 (pv:=[(1,iV 1)]) ⟨rfl,rfl,trivial⟩ (cs:=[.slice none 0 0,iV 1,iV 0]) aF) λa S=>lw S (IA bt_30 (pv:=[(0,iV 1),(1,iV 1)]) ⟨rfl,rfl,rfl,rfl,trivial⟩ (cs:=[iV 1,iV 1,iV 0]) aF) ?_));refine λa S=>lw S (IA bt_32 (pv:=[(0,.slice (some ⟨b1,0,none⟩) 1 1),(1,.agg #[.slice none 0 0,iV 1,iV 0]),(2,.agg #[iV 1,iV 1,iV 0])]) ⟨rfl,(S.tm rfl),rfl,(S.tm rfl),rfl,(S.tm rfl),trivial⟩ (cs:=[.slice (some ⟨b1,0,none⟩) 1 1,.slice none 0 0,iV 1,iV 0,iV 1,iV 1,iV 0]) aF) λa S=>AA S zeroValue32 (cs:=[.slice none 0 0,.slice none 0 0,iV 0,iV 0,iV 0,iV 0,iV 0]) rfl rfl λa w2 b2 hz2 hk2 S=>Qq S (S.tm rfl) (S.tm rfl) (i:=0) (off:=0) rfl sizeOf32 (vs:=[.slice (some ⟨b1,0,none⟩) 1 1,.slice none 0 0,iV 1,iV 0,iV 1,iV 1,iV 0]) rfl rfl rfl rfl λw3 hk3 S=>Dz (lw S (Wv isAgg32 sizeOf32 (off:=0) (o:=0) (part:=[.slice (some ⟨b1,0,none⟩) 1 1,.slice none 0 0,iV 1,iV 0,iV 1,iV 1,iV 0]) rfl rfl (S.tm rfl) (S.cellsAt (i:=0) rfl)) λa S=>lw S (IA bt_87 (pv:=[(0,sV k_s),(1,iV 1),(3,iV 1),(4,sV k_a),(6,sV k_r),(7,iV 5)]) ⟨rfl,rfl,rfl,rfl,rfl,rfl,rfl,rfl,rfl,rfl,rfl,rfl,trivial⟩ (cs:=[sV k_s,iV 1,iV 0,iV 1,sV k_a,sV Ff,sV k_r,iV 5,iV 0,sV Ff,iV 0]) aF) λa S=>Ni S underlying37 sizeOf87 zeroValue87 rfl rfl (pv:=[(0,.agg (An.enc (An.mk k_s 1 0 1 k_a Ff k_r 5 0 Ff 0)).toArray)]) ⟨rfl,(S.tm rfl),trivial⟩ (cs:=[sV k_s,iV 1,iV 0,iV 1,sV k_a,sV Ff,sV k_r,iV 5,iV 0,sV Ff,iV 0]) aF rfl ?_);clear S;intro a w4 b3 hz3 hk4 S;replace S:=S.litOwn (i:=2) (xs:=[(Fp.mk k_r 50 1 50 1 0 0 0)]) rfl Fp.enc_ok rfl rfl rfl;replace S:=S.nk [.blk b3 (An.enc (An.mk k_s 1 0 1 k_a Ff k_r 5 0 Ff 0)) 87,.blk b2 [(.slice (some ⟨b1,0,none⟩) 1 1),.slice none 0 0,iV 1,iV 0,iV 1,iV 1,iV 0] 32,.own (.slice (some ⟨b1,0,none⟩) 1 1) 79 8 ([(Fp.mk k_r 50 1 50 1 0 0 0)]:List Fp).length (([(Fp.mk k_r 50 1 50 1 0 0 0)]:List Fp).flatMap Fp.enc)] [(0,bV false),(1,bW b2),(4,.agg (Fp.enc (Fp.mk k_r 50 1 50 1 0 0 0)).toArray),(5,(.slice (some ⟨b1,0,none⟩) 1 1)),(6,.agg #[.slice none 0 0,iV 1,iV 0]),(7,.agg #[iV 1,iV 1,iV 0]),(8,.agg #[(.slice (some ⟨b1,0,none⟩) 1 1),.slice none 0 0,iV 1,iV 0,iV 1,iV 1,iV 0]),(10,.agg #[(.slice (some ⟨b1,0,none⟩) 1 1),.slice none 0 0,iV 1,iV 0,iV 1,iV 1,iV 0]),(11,.agg (An.enc (An.mk k_s 1 0 1 k_a Ff k_r 5 0 Ff 0)).toArray),(12,.slice (some ⟨b3,0,none⟩) 1 1)] [] rfl (subR rfl);obtain⟨r1,hr1,h⟩:=Rw h;have hz4:=S.keep.size;refine l_cl S (evl4 (S.tm rfl) (S.tm rfl) rfl rfl) call47 (IE _ (Ge.mk ([(Fp.mk k_r 50 1 50 1 0 0 0)]:List Fp) (Il.mk ([]:List Int) 1 0) (Mp.mk 1 1 0)) (R32.mk ⟨(.slice (some ⟨b1,0,none⟩) 1 1),Jc.one (Li (S.own_at (i:=2) rfl))⟩ (R28.mk ⟨.slice none 0 0,rfl⟩ 1 0) (Mp.mk 1 1 0)) ⟨⟨(.slice (some ⟨b1,0,none⟩) 1 1),Jc.one (Li (S.own_at (i:=2) rfl))⟩,(R28.mk ⟨.slice none 0 0,rfl⟩ 1 0),rfl,(EP Fp.enc_ok S (i:=2) rfl (IB (e':=.own (.slice (some ⟨b1,0,none⟩) 1 1) 79 8 ([(Fp.mk k_r 50 1 50 1 0 0 0)]:List Fp).length (([(Fp.mk k_r 50 1 50 1 0 0 0)]:List Fp).flatMap Fp.enc)))),⟨⟨.slice none 0 0,rfl⟩,rfl,(LE _ _)⟩⟩ (.slice (some ⟨b3,0,none⟩) 1 1) [(An.mk k_s 1 0 1 k_a Ff k_r 5 0 Ff 0)] (QL An.enc_ok S (i:=0) rfl rfl rfl rfl ((IB (e':=.blk b3 (An.enc (An.mk k_s 1 0 1 k_a Ff k_r 5 0 Ff 0)) 87)) _ rfl)) k_r 0 _ hr1) rfl ?_;clear S;intro v1 a w5 hv1 hk5 hn1 S;obtain⟨u1,rfl,ho1⟩:=hv1;obtain⟨φ1,hl1,hm1,S⟩:=S.see' hn1 hz4;have hs1:=ho1.mono hm1;refine Sg 5 S ?_;refine λa S=>Ld ?_;replace S:=S.n0.k2 2 3 rfl;refine Tn (Fr (Sg 3 S ?_));refine λa S=>f_ct 4 (Sx w [] φ1 [] [(2,u1),(22,bV ((decide (r1.2=0)) && (decide ((r1.1.length:Int)=1))))] 30) ?_ ?_
 ·rcases bG (decide (r1.2=0)) with hb1|hb1
  ·refine Sg 3 S ?_;refine λa S=>lw S (Uo NB (S.tm rfl) (Ku (Iw Fi.enc_ok hs1))) λa S=>Sg 2 S ?_;exact λa S=>lw S (ZK hb1 (S.tm rfl) (S.tm rfl)) λa S=>Dl (⟨Keep.refl _ _,S.nf [] rfl (subR rfl)⟩)
  ·iterate 3 (refine JP S rfl rfl rfl (UL hb1) rfl ?_ rfl;clear S;intro a S)
   exact lw S (ZL (decide ((r1.1.length:Int)=1)) hb1 (S.tm rfl) rfl) λa S=>Dl (⟨Keep.refl _ _,S.nf [] rfl (subR rfl)⟩)
 clear S;intro a w6 hk6 S;refine Vm S rfl rfl ?_;clear S;intro a S;refine f_ctj 6 h (λc1=>Sx w [] φ1 [] [(29,bV c1)] 30) (λj1 h=>?_) ?_
 ·rcases bG ((decide (r1.2=0)) && (decide ((r1.1.length:Int)=1))) with hb2|hb2
  ·replace h:=ZH h hb2;refine Sg 3 S ?_;clear S;intro a S;obtain⟨hc1,h⟩:=On h;obtain⟨b4,o1,hm2,hr2⟩:=Rx (a:=a) (x:=.tmp 24) (y:=.const (iV 0)) (ty:=0) NB (Iw Fi.enc_ok hs1) (Gd hc1).1 (Gd hc1).2 (S.tm rfl) rfl;refine lw S (hr2 _) ?_;clear S;intro a S;clear hr2;refine Sg 3 S ?_;refine λa S=>lw S (To isAgg3 (off:=o1) (o:=1) (S.tm rfl) (hm2.at S.emb) rfl) λa S=>Sg 2 S ?_;exact λa S=>lw S (ZK hb2 (S.tm rfl) (S.tm rfl)) λa S=>Dl (⟨_,h,Keep.refl _ _,S.nf [] rfl ⟨rfl,trivial⟩⟩)
  ·replace h:=ZI h hb2
   iterate 5 (refine JP S rfl rfl rfl (UL hb2) rfl ?_ rfl;clear S;intro a S)
   exact Vq S (ZL true hb2) rfl rfl rfl λa S=>Dl (⟨_,h,Keep.refl _ _,S.nf [] rfl ⟨rfl,trivial⟩⟩)
 clear S h;intro c1 a w7 h hk7 S;refine Va S rfl rfl λa S=>Dl (Tl ?_);obtain rfl:=BT h;exact BQ S results13 rfl rfl
instance:FnT prog 13 vs (type_of% PX):=⟨call13,PX⟩
theorem DB(w:World)(Am:ByteArray)(By:ByteArray)(r:ByteArray)(h:AG Am By=some r):
 Calls prog 95 [sV Am,sV By].toArray w (Ret w [] λ_ v _=>v=sV r):=by
 unfold AG at h;refine Fe2 h func95 rfl ntmps95 rfl ?_;exact Au
instance:FnT prog 95 vs (type_of% DB):=⟨call95,DB⟩
theorem GI(w:World)(Am:ByteArray)(By:ByteArray)(r:ByteArray)(h:Jm Am By=some r):
 Calls prog 50 [sV Am,sV By].toArray w (Ret w [] λ_ v _=>v=sV r):=by
 unfold Jm at h;refine Fe2 h func50 rfl ntmps50 rfl ?_;exact Au
instance:FnT prog 50 vs (type_of% GI):=⟨call50,GI⟩
theorem FL(w:World)(Af:Value)(Am:List ByteArray)(Bn:Slc (view w []) 1 Af (Am.map Io))(Ck:ByteArray)(r:Int)(h:DI Am Ck=r):
 Calls prog 133 [Af,sV Ck].toArray w (Ret w [] λ_ v _=>v=iV r):=by
 unfold DI at h;refine Fe2 h func133 rfl ntmps133 rfl ?_;refine Yv 0 Wj.eq_1 Wj.eq_2 [] [0,1,7] [] (λi1 d p L K=>d p L ((8,iV i1)::K)) (λd p L K=>d p L K) ?_ ?_
 ·exact Au
 exact Au
instance:FnT prog 133 vs (type_of% FL):=⟨call133,FL⟩
theorem DC(w:World)(Af:Value)(Am:List ByteArray)(Bn:Slc (view w []) 1 Af (Am.map Io))(Ck:ByteArray)(r:Bool)(h:AH Am Ck=r):
 Calls prog 94 [Af,sV Ck].toArray w (Ret w [] λ_ v _=>v=bV r):=by
 unfold AH at h;refine Fe2 h func94 rfl ntmps94 rfl ?_;exact Au
instance:FnT prog 94 vs (type_of% DC):=⟨call94,DC⟩
theorem LV(w:World)(Co:ByteArray)(hg_maxlen:CZ (view w []) 0)(r:(List ByteArray)×Bool)(h:Ke Co=some r):
 Calls prog 49 [sV Co].toArray w (Ret w [] λτ v _=>∃u1:Value,v= .tuple #[u1,bV r.2]/\Kr τ 9 1 u1 r.1.length (r.1.flatMap Io)):=by
 unfold Ke at h;refine Fe2 h func49 rfl ntmps49 rfl ?_;exact Au
instance:FnT prog 49 vs (type_of% LV):=⟨call49,LV⟩
theorem JH(self:Int->(List An)->Option Bool)(hself:∀(w:World) (Dh:Int) (Be:Nat) (Bu:Value) (Bh:List An) (_:Slc (view w []) 11 Bu (Bh.map An.enc)) (_:(view w []) Be=some (.cells [Bu].toArray 37 (0,0))) (Bm:Nat) (_:(view w []) Bm=some (.cells [.func (.func 287) #[] #[bW Be,bW Bm]].toArray 49 (0,0))) (r:Bool) (_:self Dh Bh=some r),
 Calls prog 287 [iV Dh,bW Be,bW Bm].toArray w (Ret w [] λ_ v _=>v=bV r))(w:World)(Dh:Int)(Be:Nat)(Bu:Value)(Bh:List An)(Df:Slc (view w []) 11 Bu (Bh.map An.enc))(Ca:(view w []) Be=some (.cells [Bu].toArray 37 (0,0)))(Bm:Nat)(Cq:(view w []) Bm=some (.cells [.func (.func 287) #[] #[bW Be,bW Bm]].toArray 49 (0,0)))(r:Bool)(h:Rh self Dh Bh=some r):
 Calls prog 287 [iV Dh,bW Be,bW Bm].toArray w (Ret w [] λ_ v _=>v=bV r):=by
 have egs:VH prog 287:=call287;unfold Rh at h;refine Fe2 h func287 rfl ntmps287 rfl ?_;refine Aal 0 Jd.eq_1 Jd.eq_2 [] [0,1,2] [] (λx1 d p L K=>d p L ((5,iV x1)::K)) (λd p L K=>d p L K) ?_ ?_
 ·refine J [_] 1 [] [0,1,2,5] [] (λx2 d p L K=>d p L ((50,bV x2)::K)) ?_ ?_
  ·exact Au
  exact Au
 exact Au
theorem DD(m:Nat):∀(w:World) (Dh:Int) (Be:Nat) (Bu:Value) (Bh:List An) (_:Slc (view w []) 11 Bu (Bh.map An.enc)) (_:(view w []) Be=some (.cells [Bu].toArray 37 (0,0))) (Bm:Nat) (_:(view w []) Bm=some (.cells [.func (.func 287) #[] #[bW Be,bW Bm]].toArray 49 (0,0))) (r:Bool) (_:La m Dh Bh=some r),
 Calls prog 287 [iV Dh,bW Be,bW Bm].toArray w (Ret w [] λ_ v _=>v=bV r):=by
 induction m with
 |zero=>intros;rename_i h;rw[La] at h;cases h
 |succ m ih=>exact λw Dh Be Bu Bh Df Ca Bm Cq r h=>JH (La m) ih w Dh Be Bu Bh Df Ca Bm Cq r h
instance:FnT prog 287 vs (type_of% (DD 16)):=⟨call287,(DD 16)⟩
theorem FN(w:World)(Ad:Value)(Ai:List An)(As:Slc (view w []) 11 Ad (Ai.map An.enc))(Aw:Int)(r:(List Int))(h:Qm Ai Aw=some r):
 Calls prog 244 [Ad,iV Aw].toArray w (Ret w [] λτ v _=>Kr τ 3 1 v r.length (r.flatMap eInt)):=by
 unfold Qm at h;refine Fe2 h func244 rfl ntmps244 rfl ?_;refine Ov 0 Nm.eq_1 Nm.eq_2 [(87,11)] [1,5,11,12] [] (λi1 (x1:List An) d p L K a w=>∃v1,d p (rB 1 (λb1=>.blk b1 [v1] 37) (rO 0 (λ_=>.own v1 87 11 x1.length (x1.flatMap An.enc)) L)) ((13,iV i1)::K) a w) (fun(x1:List An) d p L K a w=>∃v1,d p (rB 1 (λb1=>.blk b1 [v1] 37) (rO 0 (λ_=>.own v1 87 11 x1.length (x1.flatMap An.enc)) L)) K a w) ?_ ?_
 ·refine J [_] 0 [] [1,5,11,12,13] [] (fun(x2:List An) d p L K a w=>∃v2,d p (rB 1 (λb1=>.blk b1 [v2] 37) (rO 0 (λ_=>.own v2 87 11 x2.length (x2.flatMap An.enc)) L)) K a w) ?_ ?_
  ·refine J [_] 1 [] [1,5,11,12,13] [false,true,true] (fun(x3:List An) d p L K a w=>∃v3,d p (rB 1 (λb1=>.blk b1 [v3] 37) (rO 0 (λ_=>.own v3 87 11 x3.length (x3.flatMap An.enc)) L)) K a w) ?_ ?_
   ·exact Au
   exact Au
  exact Au
 refine Xk 0 Kb.eq_1 Kb.eq_2 [(3,1)] [8,28] [] (fun(x4:List Int) x5 d p L K a w=>∃v5,d p (rO 0 (λ_=>.own v5 3 1 x4.length (x4.flatMap eInt)) L) ((9,v5)::(29,iV x5)::K) a w) (fun(x4:List Int) d p L K a w=>∃v5,d p (rO 0 (λ_=>.own v5 3 1 x4.length (x4.flatMap eInt)) L) ((9,v5)::K) a w) ?_ ?_
 ·refine J [_] 0 [] [8,28,29] [] (fun(x6:List Int) d p L K a w=>∃v6,d p (rO 0 (λ_=>.own v6 3 1 x6.length (x6.flatMap eInt)) L) ((9,v6)::K) a w) ?_ ?_
  ·refine J [_] 1 [] [8,28,29] [] (fun(x7:List Int) d p L K a w=>∃v8,d p (rO 0 (λ_=>.own v8 3 1 x7.length (x7.flatMap eInt)) L) ((9,v8)::K) a w) ?_ ?_
   ·exact Au
   exact Au
  exact Au
 exact Au
instance:FnT prog 244 vs (type_of% FN):=⟨call244,FN⟩
theorem LW(w:World)(Ad:Value)(Ai:List An)(As:Slc (view w []) 11 Ad (Ai.map An.enc))(Aw:Int)(r:(List An))(h:Zo Ai Aw=some r):
 Calls prog 186 [Ad,iV Aw].toArray w (Ret w [] λτ v _=>Kr τ 87 11 v r.length (r.flatMap An.enc)):=by
 unfold Zo at h;refine Fe2 h func186 rfl ntmps186 rfl ?_;refine Ov 0 Ta.eq_1 Ta.eq_2 [(87,11)] [0,10,11] [] (λi1 (x1:List An) d p L K a w=>∃v2,d p (rO 0 (λ_=>.own v2 87 11 x1.length (x1.flatMap An.enc)) L) ((12,iV i1)::(5,v2)::K) a w) (fun(x1:List An) d p L K a w=>∃v2,d p (rO 0 (λ_=>.own v2 87 11 x1.length (x1.flatMap An.enc)) L) ((5,v2)::K) a w) ?_ ?_
 ·exact Au
 exact Au
instance:FnT prog 186 vs (type_of% LW):=⟨call186,LW⟩
theorem FO(w:World)(Ef:An)(Be:Nat)(Bh:ByteArray)(Ca:(view w []) Be=some (.cells [sV Bh].toArray 9 (0,0)))(Bm:Nat)(Ci:An)(Cq:(view w []) Bm=some (.cells [sV Ci.Site,iV Ci.No,iV Ci.At,iV Ci.Kind,sV Ci.Who,sV Ci.Club,sV Ci.Race,iV Ci.Time,iV Ci.Fault,sV Ci.Of,iV Ci.Other].toArray 87 (0,0)))(r:Bool)(h:Jq Ef Bh Ci=r):
 Calls prog 187 [.agg (An.enc Ef).toArray,bW Be,bW Bm].toArray w (Ret w [] λ_ v _=>v=bV r):=by
 unfold Jq at h;refine Fe2 h func187 rfl ntmps187 rfl ?_;exact Au
instance:FnT prog 187 vs (type_of% FO):=⟨call187,FO⟩
theorem Sh(w:World)(Af:Value)(Am:List An)(Bn:Slc (view w []) 11 Af (Am.map An.enc))(Bf:Nat)(Ar:ByteArray)(Bv:(view w []) Bf=some (.cells [sV Ar].toArray 9 (0,0)))(Cw:Nat)(Bp:An)(Dw:(view w []) Cw=some (.cells [sV Bp.Site,iV Bp.No,iV Bp.At,iV Bp.Kind,sV Bp.Who,sV Bp.Club,sV Bp.Race,iV Bp.Time,iV Bp.Fault,sV Bp.Of,iV Bp.Other].toArray 87 (0,0)))(r:Int)(h:Ln Am Ar Bp=r):
 Calls prog 88 [Af,.func (.func 187) #[] #[bW Bf,bW Cw]].toArray w (Ret w [] λ_ v _=>v=iV r):=by
 unfold Ln at h;refine Fe2 h func88 rfl ntmps88 rfl ?_;refine Yv 0 Hz.eq_1 Hz.eq_2 [] [0,1,7] [] (λi1 d p L K=>d p L ((8,iV i1)::K)) (λd p L K=>d p L K) ?_ ?_
 ·exact Au
 exact Au
instance {v0:Go.Value}{c:Array Go.Value}:FnT prog 88 [v0,.func (.func 187) #[] c] (type_of% Sh):=⟨call88,Sh⟩
theorem Rc(w:World)(Af:Value)(Am:List An)(Bn:Slc (view w []) 11 Af (Am.map An.enc))(Bf:Nat)(Ar:ByteArray)(Bv:(view w []) Bf=some (.cells [sV Ar].toArray 9 (0,0)))(Cw:Nat)(Bp:An)(Dw:(view w []) Cw=some (.cells [sV Bp.Site,iV Bp.No,iV Bp.At,iV Bp.Kind,sV Bp.Who,sV Bp.Club,sV Bp.Race,iV Bp.Time,iV Bp.Fault,sV Bp.Of,iV Bp.Other].toArray 87 (0,0)))(r:Bool)(h:Jh Am Ar Bp=r):
 Calls prog 44 [Af,.func (.func 187) #[] #[bW Bf,bW Cw]].toArray w (Ret w [] λ_ v _=>v=bV r):=by
 unfold Jh at h;refine Fe2 h func44 rfl ntmps44 rfl ?_;exact Au
instance {v0:Go.Value}{c:Array Go.Value}:FnT prog 44 [v0,.func (.func 187) #[] c] (type_of% Rc):=⟨call44,Rc⟩
open Go.Sort Go.Shelf in
theorem NS(x y:An)(W:World):Calls prog 188 #[.agg #[.string x.Site,.int .i64 x.No,.int .i64 x.At,.int .i64 x.Kind,.string x.Who,.string x.Club,.string x.Race,.int .i64 x.Time,.int .i64 x.Fault,.string x.Of,.int .i64 x.Other],.agg #[.string y.Site,.int .i64 y.No,.int .i64 y.At,.int .i64 y.Kind,.string y.Who,.string y.Club,.string y.Race,.int .i64 y.Time,.int .i64 y.Fault,.string y.Of,.int .i64 y.Other]] W λe w'=>e= .returned (.int .i64 (Yz x y))/\∃q os',w'=grow (W.drewN q) os':=by
 have hcon:=λW'=>Any.strings_Compare Tryz.lays106 x.Who y.Who W';change ∀W',Calls prog 87 _ _ _ at hcon;unfold Yz Ic;generalize Lib.compareBytes x.Who.data.toList y.Who.data.toList=r at hcon ⊢
 go_enter func188,ntmps188
 go_wp2_with (go_at_call 87;refine(hcon _).mono ?_;rintro e w' ⟨rfl,rfl⟩)
 go_ret
 exact⟨rfl,0,_,by rw[alloc_eq_grow,alloc_eq_grow,grow_grow];rfl⟩
theorem Sk(w:World)(Ao:Value)(Ap:List An)(Bo:(LEnt.own Ao 87 11 Ap.length (Ap.flatMap An.enc)).holds w)(r:(List An))(h:Iy Ap=some r):
 Calls prog 180 [Ao,.func (.func 188) #[] #[]].toArray w (Ret w (Ao.ownBlock.toList) λ_ v w'=>(LEnt.own Ao 87 11 r.length (r.flatMap An.enc)).holds w'/\v= .tuple #[]):=by
 unfold Iy at h
 split at h
 ·rename_i hc;obtain rfl:=bH h;exact NC (enc:=An.enc) Tryz.laysg180 isAgg87 sizeOf87 An.enc_ok (enters_of func188 aF rfl) NS hc.1 hc.2 Bo
 ·cases h
instance {v0:Go.Value}{c:Array Go.Value}:FnT prog 180 [v0,.func (.func 188) #[] c] (type_of% Sk):=⟨call180,Sk⟩
theorem IM(w:World)(Ad:Value)(Ai:List An)(As:Slc (view w []) 11 Ad (Ai.map An.enc))(Bb:ByteArray)(Aw:Int)(r:(List An))(h:Oa Ai Bb Aw=some r):
 Calls prog 134 [Ad,sV Bb,iV Aw].toArray w (Ret w [] λτ v _=>Kr τ 87 11 v r.length (r.flatMap An.enc)):=by
 unfold Oa at h;refine Fe2 h func134 rfl ntmps134 rfl ?_;refine Ov 0 Qn.eq_1 Qn.eq_2 [(87,11)] [4,7,15,16] [] (λi1 (x1:List An) d p L K a w=>∃v2,d p (rO 0 (λ_=>.own v2 87 11 x1.length (x1.flatMap An.enc)) L) ((17,iV i1)::(8,v2)::K) a w) (fun(x1:List An) d p L K a w=>∃v2,d p (rO 0 (λ_=>.own v2 87 11 x1.length (x1.flatMap An.enc)) L) ((8,v2)::K) a w) ?_ ?_
 ·refine J [_] 0 [] [4,7,15,16,17] [] (fun(x2:List An) d p L K a w=>∃v3,d p (rO 0 (λ_=>.own v3 87 11 x2.length (x2.flatMap An.enc)) L) ((8,v3)::K) a w) ?_ ?_
  ·refine J [_] 1 [] [4,7,15,16,17] [] (fun(x3:List An) d p L K a w=>∃v6,d p (rO 1 (λ_=>.own v6 87 11 x3.length (x3.flatMap An.enc)) L) ((8,v6)::K) a w) ?_ ?_
   ·exact Au
   exact Au
  exact Au
 exact Au
instance:FnT prog 134 vs (type_of% IM):=⟨call134,IM⟩
theorem GJ(w:World)(Ae:Ge)(Av:R32)(Bc:Lb (view w []) Ae Av)(Ad:Value)(Ai:List An)(As:Slc (view w []) 11 Ad (Ai.map An.enc))(Bb:ByteArray)(Aw:Int)(r:Int)(h:Jn Ae Ai Bb Aw=some r):
 Calls prog 97 [.agg (R32.enc Av).toArray,Ad,sV Bb,iV Aw].toArray w (Ret w [] λ_ v _=>v=iV r):=by
 obtain⟨u1,u2,rfl,hs1,⟨u3,rfl,hs2⟩⟩:=Bc;unfold Jn at h;refine Fe2 h func97 rfl ntmps97 rfl ?_;exact Au
instance:FnT prog 97 vs (type_of% GJ):=⟨call97,GJ⟩
theorem HU(w:World)(Ae:Ge)(Av:R32)(Bc:Lb (view w []) Ae Av)(Ad:Value)(Ai:List An)(As:Slc (view w []) 11 Ad (Ai.map An.enc))(Aw:Int)(r:Int)(h:Kn Ae Ai Aw=some r):
 Calls prog 96 [.agg (R32.enc Av).toArray,Ad,iV Aw].toArray w (Ret w [] λ_ v _=>v=iV r):=by
 obtain⟨u1,u2,rfl,hs1,⟨u3,rfl,hs2⟩⟩:=Bc;unfold Kn at h;refine Fe2 h func96 rfl ntmps96 rfl ?_;refine Yv 0 Pi.eq_1 Pi.eq_2 [] [1,2,3,11,12] [] (λi1 d p L K=>d p L ((13,iV i1)::K)) (λd p L K=>d p L K) ?_ ?_
 ·exact Au
 exact Au
instance:FnT prog 96 vs (type_of% HU):=⟨call96,HU⟩
theorem NT(w:World)(v_l:Value)(l:List An)(hs_l:Slc (view w []) 11 v_l (l.map An.enc))(race who:ByteArray)(at_:Int)(r:An×Bool)(h:BC l race who at_=some r):
 Calls prog 146 [v_l,sV race,sV who,iV at_].toArray w (Ret w [] λ_ v _=>v= .tuple #[.agg (An.enc r.1).toArray,bV r.2]):=by
 have zQ:∀fn a w',¬bodyPostM (WF none) 3 prog fn (Ret w [] λ_ v _=>v= .tuple #[.agg (An.enc r.1).toArray,bV r.2]) .outgrown a w':=λ_ _ _ ⟨_,e,_⟩=>by cases e
 replace zQ:=zQ f146;unfold BC at h;refine Aad 3 func146 rfl ntmps146 rfl λa S=>?_;rw[Re]
 revert h S
 refine St 205 ?_
 intros
 rename_i b5 b6 b8 b9 f _ _ _ _ v1 φ1 hv hl h S;replace h:=bH h;have hs1:=Iw An.enc_ok hv;have hz6:=S.keep.size;refine YN S (λ_=>Oq (vs:=[v1]) ⟨(S.tm rfl),trivial⟩ call205) (YV _ v1 _ (Ku hs1)) rfl λv2 a w6 hv2 hk6 hn2 S=>?_;obtain⟨φ2,hl2,hm2,S⟩:=S.see' hn2 hz6;obtain⟨Bs,rfl,hB⟩:=hv2;replace hB:=hm2 _ _ hB;replace hs1:=hs1.mono hl2;refine Ld (Tn (wpIn_block ?_))
 let ZC:=[sV Ff,iV 0,iV 0,iV 0,sV Ff,sV Ff,sV Ff,iV 0,iV 0,sV Ff,iV 0]
 let LC:=fun(cs:List Value) (f:Bool)=>[LEnt.blk b9 [bV f] 4,.blk b8 cs 87,.blk b6 [sV who] 9,.blk b5 [sV race] 9]
 replace S:=S.nk (LC ZC false) [(5,bW b5),(6,bW b6),(8,bW b8),(9,bW b9),(15,.func (.func 251) #[] #[bW Bs])] [true,true,true,true] rfl (subR rfl);refine Ahs (n:=3) (FW f.length) (Aap f) S (S.tm rfl) (λargs w=>call251 args w) (λ_=>rfl)
  (λll J Jx W hJ h0 hr=>Anp φ2 φ2 (3-1) Bs v1 f hB hs1 ll J Jx W (λk w h=>⟨(hJ k w h).1,(hJ k w h).1⟩) h0 hr)
  (λk L'=>(∃dn is,FW f.length=dn++is/\dn.length=k/\Uh f race who is=r)/\L'=LC ZC false) (λL'=>L'=LC (An.enc r.1) r.2)
  ⟨⟨[],_,rfl,rfl,h⟩,rfl⟩ ?_ ?_ ?_
 ·clear h;rintro ll D rec k i L' w7 hst hss hx ⟨⟨dn,is,g1,g2,h⟩,rfl⟩ S0;obtain⟨is,rfl⟩:∃is',is=i::is':=by
   cases is with
   |nil=>rw[g1,List.append_nil,←g2] at hx;simp at hx
   |cons j is'=>
    rw[g1,←g2] at hx;exact⟨is',by simpa using hx⟩
  unfold Aap;have hact:=prms2 a 16 17 (iV i) (.agg (An.enc (nth f i)).toArray) S0.nodefer;rw[hact];have S:=(S0.put (d:=16) (v:=iV i) aC).put (d:=17) (v:=.agg (An.enc (nth f i)).toArray) aC;generalize ((a.put (some 16) _).put (some 17) _)=a' at S;rw[Uh] at h;refine Yp (λ_ _ h=>h) rfl (AA S zeroValue87 (cs:=ZC) rfl rfl λa w8 b11 hz8 hk8 S=>
   Qq S (S.tm rfl) (S.tm rfl) (i:=0) (off:=0) rfl sizeOf87 (vs:=An.enc (nth f i)) rfl rfl rfl rfl λw9 hk9 S=>Ld (Tn (Afl S (i:=1) rfl (hst _) λw10 S=>wpIn_block (i_mid (λa w'=>Sx w [] φ2 (.blk b11 (An.enc (nth f i)) 87:: .obj ll (.loop (rec .busy)):: .obj D (.deferred (some []))::LC ZC false) [(8,bW b8),(9,bW b9),(11,bW b11),(32,bV (Zp (nth f i) race who))] 35 a w') ?_ ?_))))
  ·rw[hss] at S;rw[Re];refine Acb rfl (λ_ _ h=>h) ?_;exact Au
  ·clear S;intro a w11 S;rw[←Re a];refine TQ (S.tm rfl) (λhb=>?_) (λhb=>?_)
   ·rw[aQ hb] at h;subst h;exact JV (Yp (λ_ _ h=>h) rfl (lv S (Wv isAgg87 sizeOf87 (off:=0) (o:=0) (part:=(An.enc (nth f i))) rfl rfl (S.tm rfl) (S.cellsAt (i:=0) rfl)) rfl λa S=>Qq S (S.tm rfl) (S.tm rfl) (i:=4) (off:=0) rfl sizeOf87 (vs:=(An.enc (nth f i))) rfl rfl rfl rfl λw12 hk12 S=>
     Qq S (S.tm rfl) rfl (i:=3) (off:=0) rfl sizeOf4 (vs:=[bV true]) rfl rfl rfl rfl λw13 hk13 S=>Ld (Tn (wpIn_ret (LH ⟨_,rfl,S0.back (S.nm [false,true,true,true,true,true,true])⟩)))))
   ·rw[aP (by rw[hb];simp)] at h;exact wpIn_skip (AQ ⟨_,⟨⟨dn++[i],is,by simp[g1],by simp[g2],h⟩,rfl⟩,S0.back (S.nm [false,true,true,true,true,true,true])⟩)
 ·rintro D ll o L' w7 ⟨⟨dn,is,g1,g2,h⟩,rfl⟩ S;obtain rfl:is=[]:=by
   have h1:=congrArg List.length g1;rw[aU] at h1;exact List.length_eq_zero_iff.1 aA
  rw[Uh] at h;subst h;refine AQ (Tn (JV (Yp (λa w h=>zQ a w h) rfl (lv S (IA bt_87 (pv:=[]) trivial (cs:=ZC) aF) rfl λa S=>Qq S (S.tm rfl) (S.tm rfl) (i:=3) (off:=0) rfl sizeOf87 (vs:=ZC) rfl rfl rfl rfl λw8 hk8 S=>
   Qq S (S.tm rfl) rfl (i:=2) (off:=0) rfl sizeOf4 (vs:=[bV false]) rfl rfl rfl rfl λw9 hk9 S=>Ld (Tn (wpIn_ret ?_))))))
  exact Afk S (i:=1) rfl (rs:=[.cell 8 87,.cell 9 4]) (vs:=[.agg ZC.toArray,bV false]) results146 rfl (λw' S=>⟨⟨MQ (off:=0) S rfl isAgg87 sizeOf87 rfl (S.cellsAt (i:=3) rfl),WM S rfl isAgg4 (S.cellsAt (i:=2) rfl) rfl,trivial⟩,rfl⟩)
 ·rintro D ll o L' w7 rfl S;refine LH (Vo ?_);exact Afk S (i:=1) rfl (rs:=[.cell 8 87,.cell 9 4]) (vs:=[.agg (An.enc r.1).toArray,bV r.2]) results146 rfl (λw' S=>⟨⟨MQ (off:=0) S rfl isAgg87 sizeOf87 rfl (S.cellsAt (i:=3) rfl),WM S rfl isAgg4 (S.cellsAt (i:=2) rfl) rfl,trivial⟩,rfl⟩)
instance:FnT prog 146 vs (type_of% NT):=⟨call146,NT⟩
theorem EI(w:World)(Ap:Fo)(r:Bool)(h:Gp Ap=r):
 Calls prog 189 [.agg (Fo.enc Ap).toArray].toArray w (Ret w [] λ_ v _=>v=bV r):=by
 unfold Gp at h;refine Fe2 h func189 rfl ntmps189 rfl ?_;exact Au
instance:FnT prog 189 vs (type_of% EI):=⟨call189,EI⟩
theorem EJ(w:World)(Az:Fo)(Ba:Fo)(Bm:Nat)(Cq:(view w []) Bm=some (.cells [.func (.func 189) #[] #[]].toArray 226 (0,0)))(r:Int)(h:Uy Az Ba=r):
 Calls prog 191 [.agg (Fo.enc Az).toArray,.agg (Fo.enc Ba).toArray,bW Bm].toArray w (Ret w [] λ_ v _=>v=iV r):=by
 unfold Uy at h;refine Fe2 h func191 rfl ntmps191 rfl ?_;exact Au
instance:FnT prog 191 vs (type_of% EJ):=⟨call191,EJ⟩
theorem Nh(w:World)(Ac:Value)(Ah:List Fo)(Bd:(LEnt.own Ac 155 7 Ah.length (Ah.flatMap Fo.enc)).holds w)(Az:Int)(Ba:Int)(Bj:Nat)(Ce:(view w (Ac.ownBlock.toList)) Bj=some (.cells [.func (.func 189) #[] #[]].toArray 226 (0,0)))(r:(List Fo))(h:Gw Ah Az Ba=some r):
 Calls prog 288 [Ac,iV Az,iV Ba,.func (.func 191) #[] #[bW Bj]].toArray w (Ret w (Ac.ownBlock.toList) λ_ v w'=>(LEnt.own Ac 155 7 r.length (r.flatMap Fo.enc)).holds w'/\v= .tuple #[]):=by
 have zr0:ED 6 [15,17] [] [] []:=⟨⟩;unfold Gw at h;refine Ka (Ac.ownBlock.toList) [.own Ac 155 7 Ah.length (Ah.flatMap Fo.enc)] func288 rfl ntmps288 rfl (λe he=>by simp only[bA] at he;subst he;exact Bd) (Jj _) (Le _) λa S=>?_
 revert h S
 refine Xk 0 Hi.eq_1 Hi.eq_2 [] [0,1,2,3] [] (fun(x1:List Fo) x2 d p L K=>d p (rO 0 (λ_=>.own Ac 155 7 x1.length (x1.flatMap Fo.enc)) L) ((8,iV x2)::K)) (fun(x1:List Fo) d p L K=>d p (rO 0 (λ_=>.own Ac 155 7 x1.length (x1.flatMap Fo.enc)) L) K) ?_ ?_
 ·refine Xk 1 Gi.eq_1 Gi.eq_2 [] [0,1,2,3,8] [] (fun(x3:List Fo) x4 d p L K=>d p (rO 0 (λ_=>.own Ac 155 7 x3.length (x3.flatMap Fo.enc)) L) ((9,iV x4)::K)) (fun(x3:List Fo) d p L K=>d p (rO 0 (λ_=>.own Ac 155 7 x3.length (x3.flatMap Fo.enc)) L) K) ?_ ?_
  ·refine J [_] 0 [] [0,1,2,3,8,9] [] (λx5 d p L K=>d p L ((34,bV x5)::K)) ?_ ?_
   ·exact Au
   exact Au
  exact Au
 exact Au
instance:FnT prog 288 vs (type_of% Nh):=⟨call288,Nh⟩
theorem Px(w:World)(Ac:Value)(Ah:List Fo)(Bd:(LEnt.own Ac 155 7 Ah.length (Ah.flatMap Fo.enc)).holds w)(Bi:Int)(Bj:Nat)(Ce:(view w (Ac.ownBlock.toList)) Bj=some (.cells [.func (.func 189) #[] #[]].toArray 226 (0,0)))(r:(List Fo))(h:Kc Ah Bi=some r):
 Calls prog 245 [Ac,iV Bi,.func (.func 191) #[] #[bW Bj]].toArray w (Ret w (Ac.ownBlock.toList) λ_ v w'=>(LEnt.own Ac 155 7 r.length (r.flatMap Fo.enc)).holds w'/\v= .tuple #[]):=by
 unfold Kc at h;refine Ka (Ac.ownBlock.toList) [.own Ac 155 7 Ah.length (Ah.flatMap Fo.enc)] func245 rfl ntmps245 rfl (λe he=>by simp only[bA] at he;subst he;exact Bd) (Jj _) (Le _) λa S=>?_
 revert h S
 refine Aam 0 Ig.eq_1 Ig.eq_2 [] [0,1,2,6] [] (fun(x1:List Fo) x2 x3 d p L K=>d p (rO 0 (λ_=>.own Ac 155 7 x1.length (x1.flatMap Fo.enc)) L) ((7,iV x2)::(8,iV x3)::K)) (fun(x1:List Fo) x2 d p L K=>d p (rO 0 (λ_=>.own Ac 155 7 x1.length (x1.flatMap Fo.enc)) L) ((7,iV x2)::K)) ?_ ?_
 ·exact Au
 refine Aal 0 Ih.eq_1 Ih.eq_2 [] [1] [] (λx4 d p L K=>d p L ((6,iV x4)::K)) (λd p L K=>d p L K) ?_ ?_
 ·refine Xk 1 Ma.eq_1 Ma.eq_2 [] [1,6] [] (λx5 x6 d p L K=>d p L ((7,iV x5)::(8,iV x6)::K)) (λx5 d p L K=>d p L ((7,iV x5)::K)) ?_ ?_
  ·exact Au
  exact Au
 exact Au
instance:FnT prog 245 vs (type_of% Px):=⟨call245,Px⟩
theorem Pv(w:World)(Ao:Value)(Ap:List Fo)(Bo:(LEnt.own Ao 155 7 Ap.length (Ap.flatMap Fo.enc)).holds w)(Bj:Nat)(Ce:(view w (Ao.ownBlock.toList)) Bj=some (.cells [.func (.func 189) #[] #[]].toArray 226 (0,0)))(r:(List Fo))(h:Ho Ap=some r):
 Calls prog 190 [Ao,.func (.func 191) #[] #[bW Bj]].toArray w (Ret w (Ao.ownBlock.toList) λ_ v w'=>(LEnt.own Ao 155 7 r.length (r.flatMap Fo.enc)).holds w'/\v= .tuple #[]):=by
 unfold Ho at h;refine Ka (Ao.ownBlock.toList) [.own Ao 155 7 Ap.length (Ap.flatMap Fo.enc)] func190 rfl ntmps190 rfl (λe he=>by simp only[bA] at he;subst he;exact Bo) (Jj _) (Le _) λa S=>?_
 revert h S
 exact Au
instance:FnT prog 190 vs (type_of% Pv):=⟨call190,Pv⟩
theorem HV(w:World)(Ae:Ge)(Av:R32)(Bc:Lb (view w []) Ae Av)(Ad:Value)(Ai:List An)(As:Slc (view w []) 11 Ad (Ai.map An.enc))(Bb:ByteArray)(Aw:Int)(r:(List Fo))(h:Ym Ae Ai Bb Aw=some r):
 Calls prog 135 [.agg (R32.enc Av).toArray,Ad,sV Bb,iV Aw].toArray w (Ret w [] λτ v _=>Kr τ 155 7 v r.length (r.flatMap Fo.enc)):=by
 obtain⟨u1,u2,rfl,hs1,⟨u3,rfl,hs2⟩⟩:=Bc;unfold Ym at h;refine Fe2 h func135 rfl ntmps135 rfl ?_;refine Ov 0 Pj.eq_1 Pj.eq_2 [(155,7)] [1,2,3,22,23] [true,false] (λi1 (x1:List Fo) d p L K a w=>∃v2,d p (rO 0 (λ_=>.own v2 155 7 x1.length (x1.flatMap Fo.enc)) L) ((24,iV i1)::(9,v2)::K) a w) (fun(x1:List Fo) d p L K a w=>∃v2,d p (rO 0 (λ_=>.own v2 155 7 x1.length (x1.flatMap Fo.enc)) L) ((9,v2)::K) a w) ?_ ?_
 ·refine J [_] 0 [] [1,2,3,22,23,24] [] (fun(x2:List Fo) d p L K a w=>∃v3,d p (rO 0 (λ_=>.own v3 155 7 x2.length (x2.flatMap Fo.enc)) L) ((9,v3)::K) a w) ?_ ?_
  ·refine J [_] 1 [] [1,2,3,22,23,24] [false,false,true] (fun(x3:List Fo) d p L K a w=>∃v5,d p (rO 0 (λ_=>.own v5 155 7 x3.length (x3.flatMap Fo.enc)) L) ((9,v5)::K) a w) ?_ ?_
   ·exact Au
   exact Au
  exact Au
 refine Ov 0 Nf.eq_1 Nf.eq_2 [] [14,53] [] (λi2 (x4:List Fo) d p L K a w=>∃v7,d p (rO 1 (λ_=>.own v7 155 7 x4.length (x4.flatMap Fo.enc)) L) ((54,iV i2)::(9,v7)::(52,v7)::K) a w) (fun(x4:List Fo) d p L K a w=>∃v7,d p (rO 1 (λ_=>.own v7 155 7 x4.length (x4.flatMap Fo.enc)) L) ((9,v7)::K) a w) ?_ ?_
 ·refine J [_] 0 [] [14,53,54] [] (fun(x5:List Fo) d p L K a w=>∃v8,d p (rO 1 (λ_=>.own v8 155 7 x5.length (x5.flatMap Fo.enc)) L) ((9,v8)::(52,v8)::K) a w) ?_ ?_
  ·refine Ov 1 Pk.eq_1 Pk.eq_2 [] [14,15,16,53,54,68] [] (λi3 (x6:List Fo) d p L K a w=>∃v10,d p (rO 2 (λ_=>.own v10 155 7 x6.length (x6.flatMap Fo.enc)) L) ((69,iV i3)::(9,v10)::(52,v10)::(67,v10)::K) a w) (fun(x6:List Fo) d p L K a w=>∃v10,d p (rO 2 (λ_=>.own v10 155 7 x6.length (x6.flatMap Fo.enc)) L) ((9,v10)::(52,v10)::K) a w) ?_ ?_
   ·refine J [_] 0 [] [9,14,15,16,52,53,54,67,68,69] [] (fun(x7:List Fo) d p L K=>d p (rO 2 (λv10=>.own v10 155 7 x7.length (x7.flatMap Fo.enc)) L) K) ?_ ?_
    ·refine J [_] 1 [] [9,14,15,16,52,53,54,67,68,69] [false,true,true,true] (fun(x8:List Fo) d p L K=>d p (rO 2 (λv10=>.own v10 155 7 x8.length (x8.flatMap Fo.enc)) L) K) ?_ ?_
     ·exact Au
     exact Au
    exact Au
   exact Au
  exact Au
 exact Au
instance:FnT prog 135 vs (type_of% HV):=⟨call135,HV⟩
theorem CE(w:World)(Am:Fd)(r:Int)(h:Lx Am=r):
 Calls prog 246 [.agg (Fd.enc Am).toArray].toArray w (Ret w [] λ_ v _=>v=iV r):=by
 unfold Lx at h;refine Fe2 h func246 rfl ntmps246 rfl ?_;exact Au
instance:FnT prog 246 vs (type_of% CE):=⟨call246,CE⟩
theorem EK(w:World)(Az:Fd)(Ba:Fd)(r:Int)(h:Ng Az Ba=r):
 Calls prog 192 [.agg (Fd.enc Az).toArray,.agg (Fd.enc Ba).toArray].toArray w (Ret w [] λ_ v _=>v=iV r):=by
 unfold Ng at h;refine Fe2 h func192 rfl ntmps192 rfl ?_;exact Au
instance:FnT prog 192 vs (type_of% EK):=⟨call192,EK⟩
end Go.Proofs.YthlielagemkjcaaGreatDoor
