/- Each Go function computes its plain twin,by program. -/
import Derived.Test.YthlielagemkjcaaGreatDoorWk9
namespace Go.Proofs.YthlielagemkjcaaGreatDoor
open Go
open Go.Proofs.Tryz
set_option maxHeartbeats 4000000
set_option maxRecDepth 100000
variable {vs:List Go.Value}
theorem DU(w:World)(Af:Value)(Am:List ByteArray)(Da:(LEnt.own Af 9 1 Am.length (Am.flatMap Io)).holds w)(r:(List ByteArray))(h:Tr Am=some r):
 Calls prog 204 [Af].toArray w (Ret w (Af.ownBlock.toList) λ_ v w'=>(LEnt.own v 9 1 r.length (r.flatMap Io)).holds w'/\v.ownBlock=Af.ownBlock):=by
 refine Ka (Af.ownBlock.toList) [.own Af 9 1 Am.length (Am.flatMap Io)] func204 rfl ntmps204 rfl (λe he=>by simp only[bA] at he;subst he;exact Da) (Jj _) (Le _) λa S=>?_;unfold Tr at h;replace S:=S.k1 0 rfl;refine Fr (Sg 9 S ?_);refine λa S=>Dl (Fc h (S.tm rfl) (λhb1 h=>?_) (λhb1 h=>?_))
 ·refine Fr (Sg 2 S ?_);refine λa S=>Dl (Tl (Vo ?_));obtain rfl:=BT h;exact BQ S results204 rfl ⟨(S.hd 0 rfl),rfl⟩
 ·refine Mf (Tn (Fs (Fr (Vk S rfl rfl λa S=>Dl ?_))));replace S:=S.k2 0 3 rfl;refine f_jn0 h (Sx w (Af.ownBlock.toList) nov [.own Af 9 1 Am.length (Am.flatMap Io)] [(0,Af)] 61) (λj1 h=>?_) ?_
  ·refine Ia (Sn (fun(m1:Nat) a w'=>∃x1:Int,Lg Am j1 m1 x1=some r/\Sx w (Af.ownBlock.toList) nov [.own Af 9 1 Am.length (Am.flatMap Io)] [(0,Af),(3,iV x1)] 61 a w') id (((Am.length:Int)-1).toNat+2) ⟨1,h,S.nf [true] rfl (subR rfl)⟩ ?_);clear S h;rintro m1 a w1 ⟨x1,h,S⟩
   cases m1 with
   |zero=>rw[Lg.eq_1] at h;cases h
   |succ m1=>
    rw[Lg.eq_2] at h;refine Fs (Fr (Sg 4 S ?_));refine λa S=>Dl (Fc h (S.tm rfl) (λhb2 h=>?_) (λhb2 h=>?_))
    ·refine Mf (Tn (Fs (Ia (Fs (Wu [] ([]) Tryz.mixed S rfl aF λw3 hk1 hsel S=>OL [0,1,2,3,4,5,6,7,8,9] hsel aF rfl ?_)))));clear hsel;refine Rz S rfl (Rm (S.tm rfl)) rfl λa S=>Rz S rfl (Rm (S.tm rfl)) rfl ?_;clear S;intro a S;obtain⟨hc1,h⟩:=On h;obtain⟨b1,hg1,hr1⟩:=Mt (a:=a) (x:=.tmp 16) (y:=.tmp 17) (ty:=0) AV Tm S (i:=0) rfl (Gd hc1).1 (Gd hc1).2 (S.tm rfl) (S.tm rfl);refine Rz S rfl (hr1 _) rfl ?_;clear S;intro a S;clear hr1;refine Rz S rfl (To isAgg9 (off:=x1.toNat*1) (o:=0) (S.tm rfl) (Xv Tm S (i:=0) rfl hg1 (Gd hc1).1) rfl) rfl λa S=>Rz S rfl (Rm (S.tm rfl)) rfl λa S=>Rz S rfl (Rm (S.tm rfl)) rfl λa S=>Rz S rfl (JO (S.tm rfl) rfl) rfl ?_;clear S;intro a S;obtain⟨hc2,h⟩:=On h;obtain⟨b2,hg2,hr2⟩:=Mt (a:=a) (x:=.tmp 20) (y:=.tmp 22) (ty:=0) AV Tm S (i:=0) rfl (Gd hc2).1 (Gd hc2).2 (S.tm rfl) (S.tm rfl);refine Rz S rfl (hr2 _) rfl ?_;clear S;intro a S;clear hr2;refine Rz S rfl (To isAgg9 (off:=((W (x1-1)).toNat)*1) (o:=0) (S.tm rfl) (Xv Tm S (i:=0) rfl hg2 (Gd hc2).1) rfl) rfl λa S=>Rz S rfl (Aes (S.tm rfl) (S.tm rfl)) rfl λa S=>QQ ?_;replace S:=S.k3 0 3 25 rfl;refine Tn (Fc h (S.tm rfl) (λhb3 h=>?_) (λhb3 h=>?_))
     ·refine Fr (Sg 2 S ?_);clear S;intro a S;obtain⟨hc3,h⟩:=On h;obtain⟨u1,hu1,hr3⟩:=Amy (a:=a) (x:=.tmp 26) (y:=.tmp 27) (ty:=68) AV S (i:=0) rfl (S.tm rfl) (S.tm rfl) hc3;refine lw S (hr3 _) ?_;clear S;intro a S;clear hr3;refine Sg 7 S ?_;refine λa S=>Dl ?_;replace S:=S.k4 0 3 4 5 rfl;refine f_jn2 h (λx2 x3=>Sx w (Af.ownBlock.toList) nov [.own Af 9 1 x2.length (x2.flatMap Io)] [(0,Af),(3,iV x3)] 61) (λj2 h=>?_) ?_
      ·refine Ia (Sn (fun(m2:Nat) a w'=>∃x2:List ByteArray,∃x3:Int,∃x4:Int,Ob Am x1 j2 m2 x2 x3 x4=some r/\Sx w (Af.ownBlock.toList) nov [.own Af 9 1 x2.length (x2.flatMap Io)] [(0,Af),(3,iV x3),(4,u1),(5,iV x4)] 61 a w') id (((((Am.length:Int).toNat-x1.toNat:Nat):Int)-1).toNat+2) ⟨Am,x1,1,h,S.nf [true] rfl (subR rfl)⟩ ?_);clear S h;rintro m2 a w4 ⟨x2,x3,x4,h,S⟩
       cases m2 with
       |zero=>rw[Ob.eq_1] at h;cases h
       |succ m2=>
        rw[Ob.eq_2] at h;refine Fs (Fr (Sg 2 S ?_));refine λa S=>lw S (Uo AV (S.tm rfl) (subLen hu1)) λa S=>Vb S BE rfl rfl rfl λa S=>Dl (Fc h (S.tm rfl) (λhb4 h=>?_) (λhb4 h=>?_))
        ·refine Mf (Tn (Fs ?_));refine f_jn2 h (λx5 x6=>Sx w (Af.ownBlock.toList) nov [.own Af 9 1 x5.length (x5.flatMap Io)] [(0,Af),(3,iV x6),(4,u1),(5,iV x4)] 61) (λj3 h=>?_) ?_
         ·refine Ia (Fs (Wu [] ([]) Tryz.mixed S rfl aF λw7 hk2 hsel S=>OL [0,1,2,3,4,5,6,7,8,9] hsel aF rfl ?_));clear hsel;refine Rz S rfl (Rm (S.tm rfl)) rfl λa S=>Rz S rfl (Rm (S.tm rfl)) rfl ?_;clear S;intro a S;obtain⟨hc4,h⟩:=On h;have hj4:=(YS (ZU S (i:=0) rfl hu1) hc4).1;obtain⟨b3,hg3,hr4⟩:=LI (a:=a) (x:=.tmp 35) (y:=.tmp 36) (ty:=0) AV Tm S (i:=0) rfl hu1 hc4 (S.tm rfl) (S.tm rfl);refine Rz S rfl (hr4 _) rfl ?_;clear S;intro a S;clear hr4;refine Rz S rfl (To isAgg9 (off:=(x1.toNat+x4.toNat)*1) (o:=0) (S.tm rfl) (Xv Tm S (i:=0) rfl hg3 hj4) rfl) rfl λa S=>Rz S rfl (Rm (S.tm rfl)) rfl λa S=>Rz S rfl (Rm (S.tm rfl)) rfl λa S=>Rz S rfl (JO (S.tm rfl) rfl) rfl ?_;clear S;intro a S;obtain⟨hc5,h⟩:=On h;have hj5:=(YS (ZU S (i:=0) rfl hu1) hc5).1;obtain⟨b4,hg4,hr5⟩:=LI (a:=a) (x:=.tmp 39) (y:=.tmp 41) (ty:=0) AV Tm S (i:=0) rfl hu1 hc5 (S.tm rfl) (S.tm rfl);refine Rz S rfl (hr5 _) rfl ?_;clear S;intro a S;clear hr5;refine Rz S rfl (To isAgg9 (off:=(x1.toNat+(W (x4-1)).toNat)*1) (o:=0) (S.tm rfl) (Xv Tm S (i:=0) rfl hg4 hj5) rfl) rfl λa S=>Rz S rfl (YM (S.tm rfl) (S.tm rfl)) rfl λa S=>QQ ?_;replace S:=S.k5 0 3 4 5 44 rfl;refine Tn ?_;refine f_jn2 h (λx7 x8=>Sx w (Af.ownBlock.toList) nov [.own Af 9 1 x7.length (x7.flatMap Io)] [(0,Af),(3,iV x8),(4,u1),(5,iV x4)] 61) (λj4 h=>?_) ?_
          ·refine Fc h (S.tm rfl) (λhb5 h=>?_) (λhb5 h=>?_)
           ·refine Fr (Sg 4 S ?_);clear S;intro a S;obtain⟨hc6,h⟩:=On h;have hj7:=(YS (ZU S (i:=0) rfl hu1) hc6).1;obtain⟨b5,hg5,hr6⟩:=LI (a:=a) (x:=.tmp 47) (y:=.tmp 48) (ty:=0) AV Tm S (i:=0) rfl hu1 hc6 (S.tm rfl) (S.tm rfl);refine lw S (hr6 _) ?_;clear S;intro a S;clear hr6;refine lw S (To isAgg9 (off:=(x1.toNat+x4.toNat)*1) (o:=0) (S.tm rfl) (Xv Tm S (i:=0) rfl hg5 hj7) rfl) ?_;clear S;intro a S;obtain⟨hc7,h⟩:=On h;obtain⟨b6,hg6,hr7⟩:=Mt (a:=a) (x:=.tmp 45) (y:=.tmp 46) (ty:=0) AV Tm S (i:=0) rfl (Gd hc7).1 (Gd hc7).2 (S.tm rfl) (S.tm rfl);refine lw S (hr7 _) ?_;clear S;intro a S;clear hr7;refine BS (c:=0) (j:=x3.toNat) (nth (cut x2 x1 (Am.length:Int)) x4) Tm S (S.tm rfl) (S.tm rfl) (i:=0) rfl hg6 (Gd hc7).1 sizeOf9 (vs:=[sV (nth (cut x2 x1 (Am.length:Int)) x4)]) rfl rfl rfl rfl rfl λw10 hk4 S=>Dl (Fg (Sg 3 S ?_));exact λa S=>Dl (⟨(x2.set x3.toNat (nth (cut x2 x1 (Am.length:Int)) x4)),W (x3+1),h,S.nf [true] rfl (subR rfl)⟩)
           ·exact Mf (Tn (⟨x2,x3,h,S.nf [true] rfl (subR rfl)⟩))
          clear S h;intro x7 x8 a w8 h S;exact AQ (Tn (⟨x7,x8,h,S.nf [true] rfl (subR rfl)⟩))
         clear S h;intro x5 x6 a w6 h S;refine Tn (Fg (Sg 3 S ?_));exact λa S=>Dl (⟨m2,⟨x5,x6,W (x4+1),h,S.nf [true] rfl ⟨rfl,rfl,rfl,rfl,trivial⟩⟩,bF _⟩)
        ·exact Xm (Nq (Nq (Zc (Tn (⟨x2,x3,h,S.nf [true] rfl (subR rfl)⟩)))))
      clear S h;intro x2 x3 a w5 h S;refine Tn (Fr (Sg 2 S ?_));clear S;intro a S;obtain⟨hc8,h⟩:=On h;obtain⟨u2,hu2,hr8⟩:=Amy (a:=a) (x:=.tmp 54) (y:=.tmp 55) (ty:=68) AV S (i:=0) rfl (S.tm rfl) (S.tm rfl) hc8;refine lw S (hr8 _) ?_;clear S;intro a S;clear hr8;refine l_clear (zl:=x3) (zh:=(x2.length:Int)) (z:=Ff) AV rfl Tm S (i:=0) rfl hu2 (S.tm rfl) zeroValue9 rfl λw11 hk5 S=>Dz (Sg 2 S ?_);clear S;intro a S;obtain⟨hc9,h⟩:=On h;obtain⟨u3,hu3,hr9⟩:=rn_subh (a:=a) (x:=.tmp 57) (y':=.tmp 58) (ty:=68) AV S (i:=0) rfl (S.tm rfl) (S.tm rfl) hc9;refine lw S (hr9 _) ?_;clear S;intro a S;clear hr9;refine Va S rfl rfl λa S=>Dl (Tl (LH (Vo (Vo (LH (Vo (Vo ?_)))))));obtain⟨S,hz1⟩:=S.ownCut (zh:=x3) Tm (i:=0) rfl hu3;obtain rfl:=BT h;exact BQ S results204 rfl ⟨(S.hd 0 rfl),(SS.block hu3)⟩
     ·refine Mf (AQ (Tn (Fg (Sg 3 S ?_))));exact λa S=>Dl (⟨m1,⟨W (x1+1),h,S.nf [true] rfl ⟨rfl,rfl,trivial⟩⟩,bF _⟩)
    ·exact Xm (Nq (Nq (Zc (Tn (⟨h,S.nf [true] rfl ⟨rfl,trivial⟩⟩)))))
  clear S h;intro a w2 h S;refine Tn (Fr (Sg 2 S ?_));refine λa S=>Dl (Tl ?_);obtain rfl:=BT h;exact BQ S results204 rfl ⟨(S.hd 0 rfl),rfl⟩
instance:FnT prog 204 vs (type_of% DU):=⟨call204,DU⟩
theorem NU(w:World)(Az:Fh)(Ba:Fh)(r:Fh)(h:BD Az Ba=some r):
 Calls prog 145 [.agg (Fh.enc Az).toArray,.agg (Fh.enc Ba).toArray].toArray w (Ret w [] λ_ v _=>v= .agg (Fh.enc r).toArray):=by
 unfold BD at h;refine Fe2 h func145 rfl ntmps145 rfl ?_;exact Au
instance:FnT prog 145 vs (type_of% NU):=⟨call145,NU⟩
theorem FQ(w:World)(Eg:ByteArray)(Be:Nat)(Bu:Value)(Bh:List Fo)(Df:Slc (view w []) 7 Bu (Bh.map Fo.enc))(Ca:(view w []) Be=some (.cells [Bu].toArray 151 (0,0)))(r:Fh)(h:Wb Eg Bh=some r):
 Calls prog 144 [sV Eg,bW Be].toArray w (Ret w [] λ_ v _=>v= .agg (Fh.enc r).toArray):=by
 unfold Wb at h;refine Fe2 h func144 rfl ntmps144 rfl ?_;refine XV 0 Np.eq_1 Np.eq_2 [] [0,3,4,8,9] [] (λi1 x1 x2 d p L K=>d p (rB 0 (λb2=>.blk b2 [iV x1,iV x2] 129) L) ((10,iV i1)::K)) (λx1 x2 d p L K=>d p (rB 0 (λb2=>.blk b2 [iV x1,iV x2] 129) L) K) ?_ ?_
 ·refine J [_,_] 0 [] [0,3,4,8,9,10] [] (λx3 x4 d p L K=>d p (rB 0 (λb2=>.blk b2 [iV x3,iV x4] 129) L) K) ?_ ?_
  ·refine J [_,_] 1 [] [0,3,4,8,9,10] [false,true,true] (λx5 x6 d p L K=>d p (rB 0 (λb2=>.blk b2 [iV x5,iV x6] 129) L) K) ?_ ?_
   ·exact Au
   exact Au
  exact Au
 exact Au
instance:FnT prog 144 vs (type_of% FQ):=⟨call144,FQ⟩
theorem Wd(w:World)(Cf:Value)(Cx:List ByteArray)(Dx:(LEnt.own Cf 9 1 Cx.length (Cx.flatMap Io)).holds w)(Dq:Nat)(Ds:Value)(Eh:List Fo)(Ey:Slc (view w (Cf.ownBlock.toList)) 7 Ds (Eh.map Fo.enc))(Et:(view w (Cf.ownBlock.toList)) Dq=some (.cells [Ds].toArray 151 (0,0)))(r:(List Fx))(h:Mb Cx Eh=some r):
 Calls prog 143 [Cf,.func (.func 144) #[] #[bW Dq]].toArray w (Ret w (Cf.ownBlock.toList) λτ v _=>Kr τ 131 3 v r.length (r.flatMap Fx.enc)):=by
 unfold Mb at h;refine Ka (Cf.ownBlock.toList) [.own Cf 9 1 Cx.length (Cx.flatMap Io)] func143 rfl ntmps143 rfl (λe he=>by simp only[bA] at he;subst he;exact Dx) (Jj _) (Le _) λa S=>?_
 revert h S
 refine Ov 0 Hs.eq_1 Hs.eq_2 [(131,3)] [1,11,12] [] (λi1 (x1:List Fx) d p L K a w=>∃v3,d p (rO 0 (λ_=>.own v3 131 3 x1.length (x1.flatMap Fx.enc)) L) ((13,iV i1)::(5,v3)::K) a w) (fun(x1:List Fx) d p L K a w=>∃v3,d p (rO 0 (λ_=>.own v3 131 3 x1.length (x1.flatMap Fx.enc)) L) ((5,v3)::K) a w) ?_ ?_
 ·exact Au
 exact Au
instance:FnT prog 143 vs (type_of% Wd):=⟨call143,Wd⟩
theorem IU(w:World)(Ae:Ge)(Av:R32)(Bc:Lb (view w []) Ae Av)(Ad:Value)(Ai:List An)(As:Slc (view w []) 11 Ad (Ai.map An.enc))(Aw:Int)(r:(List Fx)×Int)(h:Wt Ae Ai Aw=some r):
 Calls prog 103 [.agg (R32.enc Av).toArray,Ad,iV Aw].toArray w (Ret w [] λτ v _=>∃u1:Value,v= .tuple #[u1,iV r.2]/\Kr τ 131 3 u1 r.1.length (r.1.flatMap Fx.enc)):=by
 obtain⟨u1,u2,rfl,hs1,⟨u3,rfl,hs2⟩⟩:=Bc;unfold Wt at h;refine Fe2 h func103 rfl ntmps103 rfl ?_;refine XV 0 Qp.eq_1 Qp.eq_2 [(155,7),(9,1)] [1,2,3,9,17,18] [] (λi1 (x1:List Fo) (x2:List ByteArray) d p L K a w=>∃φ1 v1 v2,View.le p φ1/\d φ1 (rB 2 (λb2=>.blk b2 [v1] 151) (rO 1 (λ_=>.own v2 9 1 x2.length (x2.flatMap Io)) (rO 0 (λ_=>.own v1 155 7 x1.length (x1.flatMap Fo.enc)) L))) ((19,iV i1)::(8,v2)::K) a w) (fun(x1:List Fo) (x2:List ByteArray) d p L K a w=>∃φ1 v1 v2,View.le p φ1/\d φ1 (rB 2 (λb2=>.blk b2 [v1] 151) (rO 1 (λ_=>.own v2 9 1 x2.length (x2.flatMap Io)) (rO 0 (λ_=>.own v1 155 7 x1.length (x1.flatMap Fo.enc)) L))) ((8,v2)::K) a w) ?_ ?_
 ·refine Ov 1 Qo.eq_1 Qo.eq_2 [] [1,2,3,9,11,17,18,19,27,28] [] (λi2 (x3:List ByteArray) d p L K a w=>∃v4,d p (rO 2 (λ_=>.own v4 9 1 x3.length (x3.flatMap Io)) L) ((29,iV i2)::(8,v4)::K) a w) (fun(x3:List ByteArray) d p L K a w=>∃v4,d p (rO 2 (λ_=>.own v4 9 1 x3.length (x3.flatMap Io)) L) ((8,v4)::K) a w) ?_ ?_
  ·refine J [_] 0 [] [1,2,3,9,11,17,18,19,27,28,29] [] (fun(x4:List ByteArray) d p L K a w=>∃v5,d p (rO 2 (λ_=>.own v5 9 1 x4.length (x4.flatMap Io)) L) ((8,v5)::K) a w) ?_ ?_
   ·refine J [_] 1 [] [1,2,3,9,11,17,18,19,27,28,29] [false,true,true,true,true,true] (fun(x5:List ByteArray) d p L K a w=>∃v6,d p (rO 2 (λ_=>.own v6 9 1 x5.length (x5.flatMap Io)) L) ((8,v6)::K) a w) ?_ ?_
    ·exact Au
    exact Au
   exact Au
  exact Au
 exact Au
instance:FnT prog 103 vs (type_of% IU):=⟨call103,IU⟩
theorem KQ(w:World)(Ae:Ge)(Av:R32)(Bc:Lb (view w []) Ae Av)(Ad:Value)(Ai:List An)(As:Slc (view w []) 11 Ad (Ai.map An.enc))(Ch:ByteArray)(Aw:Int)(hg_pow10:DJ (view w []) 1 Mn)(r:(List ByteArray)×Int)(h:Vu Ae Ai Ch Aw=some r):
 Calls prog 104 [.agg (R32.enc Av).toArray,Ad,sV Ch,iV Aw].toArray w (Ret w [] λτ v _=>∃u1:Value,v= .tuple #[u1,iV r.2]/\Kr τ 9 1 u1 r.1.length (r.1.flatMap Io)):=by
 obtain⟨u1,u2,rfl,hs1,⟨u3,rfl,hs2⟩⟩:=Bc;unfold Vu at h;refine Fe2 h func104 rfl ntmps104 rfl ?_;refine Ov 0 Uk.eq_1 Uk.eq_2 [(9,1)] [1,2,3,4,22,23] [] (λi1 (x1:List ByteArray) d p L K a w=>∃φ1 v1,View.le p φ1/\d φ1 (rO 0 (λ_=>.own v1 9 1 x1.length (x1.flatMap Io)) L) ((24,iV i1)::(10,v1)::K) a w) (fun(x1:List ByteArray) d p L K a w=>∃φ1 v1,View.le p φ1/\d φ1 (rO 0 (λ_=>.own v1 9 1 x1.length (x1.flatMap Io)) L) ((10,v1)::K) a w) ?_ ?_
 ·refine Ov 1 Mm.eq_1 Mm.eq_2 [] [1,2,3,4,12,22,23,24,32,33] [] (λi2 (x2:List ByteArray) d p L K a w=>∃φ3 v3,View.le p φ3/\d φ3 (rO 1 (λ_=>.own v3 9 1 x2.length (x2.flatMap Io)) L) ((34,iV i2)::(10,v3)::K) a w) (fun(x2:List ByteArray) d p L K a w=>∃φ3 v3,View.le p φ3/\d φ3 (rO 1 (λ_=>.own v3 9 1 x2.length (x2.flatMap Io)) L) ((10,v3)::K) a w) ?_ ?_
  ·refine J [_] 0 [] [1,2,3,4,12,22,23,24,32,33,34] [] (fun(x3:List ByteArray) d p L K a w=>∃φ4 v4,View.le p φ4/\d φ4 (rO 1 (λ_=>.own v4 9 1 x3.length (x3.flatMap Io)) L) ((10,v4)::K) a w) ?_ ?_
   ·refine Ov 2 Pm.eq_1 Pm.eq_2 [] [1,2,3,4,10,12,22,23,24,32,33,34,61,62] [false,true,true,true] (λi3 (x4:ByteArray) d p L K=>d p L ((63,iV i3)::(17,sV x4)::K)) (fun(x4:ByteArray) d p L K=>d p L ((17,sV x4)::K)) ?_ ?_
    ·refine J [_] 0 [] [1,2,3,4,10,12,22,23,24,32,33,34,61,62,63] [] (fun(x5:ByteArray) d p L K=>d p L ((17,sV x5)::K)) ?_ ?_
     ·refine J [_] 1 [] [1,2,3,4,10,12,19,22,23,24,32,33,34,61,62,63] [] (fun(x6:ByteArray) d p L K=>d p L ((20,sV x6)::K)) ?_ ?_
      ·exact Au
      exact Au
     exact Au
    exact Au
   exact Au
  exact Au
 exact Au
instance:FnT prog 104 vs (type_of% KQ):=⟨call104,KQ⟩
theorem GN(w:World)(Ae:Ge)(Av:R32)(Bc:Lb (view w []) Ae Av)(Ad:Value)(Ai:List An)(As:Slc (view w []) 11 Ad (Ai.map An.enc))(Aw:Int)(r:(List Hu))(h:Ul Ae Ai Aw=some r):
 Calls prog 105 [.agg (R32.enc Av).toArray,Ad,iV Aw].toArray w (Ret w [] λτ v _=>Kr τ 138 2 v r.length (r.flatMap Hu.enc)):=by
 obtain⟨u1,u2,rfl,hs1,⟨u3,rfl,hs2⟩⟩:=Bc;unfold Ul at h;refine Fe2 h func105 rfl ntmps105 rfl ?_;refine Ov 0 Mq.eq_1 Mq.eq_2 [(138,2)] [1,2,15,16] [true,false] (λi1 (x1:List Hu) d p L K a w=>∃φ1 v1,View.le p φ1/\d φ1 (rO 0 (λ_=>.own v1 138 2 x1.length (x1.flatMap Hu.enc)) L) ((17,iV i1)::(7,v1)::K) a w) (fun(x1:List Hu) d p L K a w=>∃φ1 v1,View.le p φ1/\d φ1 (rO 0 (λ_=>.own v1 138 2 x1.length (x1.flatMap Hu.enc)) L) ((7,v1)::K) a w) ?_ ?_
 ·refine Ov 1 Ol.eq_1 Ol.eq_2 [] [1,2,9,15,16,17,25,26] [] (λi2 (x2:List Hu) d p L K a w=>∃v3,d p (rO 1 (λ_=>.own v3 138 2 x2.length (x2.flatMap Hu.enc)) L) ((27,iV i2)::(7,v3)::K) a w) (fun(x2:List Hu) d p L K a w=>∃v3,d p (rO 1 (λ_=>.own v3 138 2 x2.length (x2.flatMap Hu.enc)) L) ((7,v3)::K) a w) ?_ ?_
  ·refine J [_] 0 [] [1,2,9,15,16,17,25,26,27] [] (fun(x3:List Hu) d p L K a w=>∃v4,d p (rO 1 (λ_=>.own v4 138 2 x3.length (x3.flatMap Hu.enc)) L) ((7,v4)::K) a w) ?_ ?_
   ·refine J [_] 1 [] [1,2,9,15,16,17,25,26,27] [false,false,true,true] (fun(x4:List Hu) d p L K a w=>∃v6,d p (rO 1 (λ_=>.own v6 138 2 x4.length (x4.flatMap Hu.enc)) L) ((7,v6)::K) a w) ?_ ?_
    ·exact Au
    exact Au
   exact Au
  exact Au
 exact Au
instance:FnT prog 105 vs (type_of% GN):=⟨call105,GN⟩
set_option maxHeartbeats 8000000 in
theorem KR(w:World)(Ae:Ge)(Av:R32)(Bc:Lb (view w []) Ae Av)(Ed:Gf)(Ad:Value)(Ai:List An)(As:Slc (view w []) 11 Ad (Ai.map An.enc))(Ep:Value)(Ez:List ByteArray)(Fb:Slc (view w []) 1 Ep (Ez.map Io))(Aw:Int)(hg_pow10:DJ (view w []) 1 Mn)(r:(List ByteArray)×Int)(h:Jz Ae Ed Ai Ez Aw=some r):
 Calls prog 51 [.agg (R32.enc Av).toArray,.agg (Gf.enc Ed).toArray,Ad,Ep,iV Aw].toArray w (Ret w [] λτ v _=>∃u1:Value,v= .tuple #[u1,iV r.2]/\Kr τ 9 1 u1 r.1.length (r.1.flatMap Io)):=by
 have zr0:ED 13 [] [] [13] []:=⟨⟩;have zr1:ED 21 [] [] [13] []:=⟨⟩;have zr2:ED 29 [] [] [13] []:=⟨⟩;obtain⟨u1,u2,rfl,hs1,⟨u3,rfl,hs2⟩⟩:=Bc;unfold Jz at h;refine Fe2 h func51 rfl ntmps51 rfl ?_;refine J [_] 0 [] [2,3,4,5,6] [] (λx1 d p L K=>d p L ((12,iV x1)::K)) ?_ ?_
 ·exact Au
 refine Fk 57 ?_ ?_
 ·refine Ov 1 Pn.eq_1 Pn.eq_2 [(9,1)] [15,69,70] [true,false,false] (λi1 (x2:List ByteArray) d p L K a w=>∃v6,d p (rO 0 (λ_=>.own v6 9 1 x2.length (x2.flatMap Io)) L) ((71,iV i1)::(13,v6)::K) a w) (fun(x2:List ByteArray) d p L K a w=>∃v6,d p (rO 0 (λ_=>.own v6 9 1 x2.length (x2.flatMap Io)) L) ((13,v6)::K) a w) ?_ ?_
  ·exact Au
  exact Au
 refine Fk 99 ?_ ?_
 ·refine Ov 1 Po.eq_1 Po.eq_2 [(9,1)] [19,112,113] [true,false,false] (λi2 (x3:List ByteArray) d p L K a w=>∃v19,d p (rO 0 (λ_=>.own v19 9 1 x3.length (x3.flatMap Io)) L) ((114,iV i2)::(13,v19)::K) a w) (fun(x3:List ByteArray) d p L K a w=>∃v19,d p (rO 0 (λ_=>.own v19 9 1 x3.length (x3.flatMap Io)) L) ((13,v19)::K) a w) ?_ ?_
  ·exact Au
  exact Au
 refine Fk 134 ?_ ?_
 ·refine Ov 0 Pp.eq_1 Pp.eq_2 [(9,1)] [23,143,144] [true,false,false] (λi3 (x4:List ByteArray) d p L K a w=>∃v25,d p (rO 0 (λ_=>.own v25 9 1 x4.length (x4.flatMap Io)) L) ((145,iV i3)::(13,v25)::K) a w) (fun(x4:List ByteArray) d p L K a w=>∃v25,d p (rO 0 (λ_=>.own v25 9 1 x4.length (x4.flatMap Io)) L) ((13,v25)::K) a w) ?_ ?_
  ·exact Au
  exact Au
 refine Ov 0 Pq.eq_1 Pq.eq_2 [(9,1)] [188,189] [true,false,false] (λi4 (x5:List ByteArray) d p L K a w=>∃v34,d p (rO 0 (λ_=>.own v34 9 1 x5.length (x5.flatMap Io)) L) ((190,iV i4)::(13,v34)::K) a w) (fun(x5:List ByteArray) d p L K a w=>∃v34,d p (rO 0 (λ_=>.own v34 9 1 x5.length (x5.flatMap Io)) L) ((13,v34)::K) a w) ?_ ?_
 ·exact Au
 exact Au
instance:FnT prog 51 vs (type_of% KR):=⟨call51,KR⟩
theorem GO(w:World)(s:ByteArray)(p:ByteArray)(r:ByteArray)(h:Pt s p=r):Calls prog 106 [sV s,sV p].toArray w (Ret w [] λ_ v _=>v= .string r):=by
 subst h;exact HF (Any.strings_TrimPrefix Tryz.lays101 s p w)
instance:FnT prog 106 vs (type_of% GO):=⟨call106,GO⟩
theorem KS(w:World)(Am:ByteArray)(Dd:Int)(hg_pow10:DJ (view w []) 1 Mn)(r:Int×Bool)(h:Yb Am Dd=some r):
 Calls prog 52 [sV Am,iV Dd].toArray w (Ret w [] λ_ v _=>v= .tuple #[iV r.1,bV r.2]):=by
 unfold Yb at h;refine Fe2 h func52 rfl ntmps52 rfl ?_;exact Au
instance:FnT prog 52 vs (type_of% KS):=⟨call52,KS⟩
theorem Sx.re1{w0 W:World}{X:List Nat}{φ:View}{L:List LEnt}{K:List (Nat×Value)}{nt b T:Nat}{cs:List Value}{a:Act}{w:World}(S:Sx w0 X φ L K nt a w)(h:W.heap[b]? =some (.cells cs.toArray T (0,0))):Sx W [b] nov [.blk b cs T] K nt a W:=
 ⟨Keep.refl _ _,(λ_ _ e=>by cases e),(λ_ _ e=>by cases e),(λe he=>by rw[bA.1 he];exact h),by simp[fps,LEnt.fp],(λc hc=>by
  obtain rfl:c=b:=by simpa[fps,LEnt.fp] using hc
  exact⟨rfl,.inr aN,heap_lt h⟩),S.nodefer,S.size,S.slots⟩
theorem prms1(a:Act)(p:Tmp)(u:Value)(h:a.defers=[]):({tmps:=((#[p]:Array Tmp).zip #[u]).foldl (λt (p,v)=>t.setIfInBounds p v) a.tmps,defers:=[]}:Act)=Vd [] (a.put (some p) u):=by
 rw[Re];cases a;simp only at h;subst h;simp[Act.put]
theorem slmk_ok{W w:World}{L:List LEnt}{t:ByteArray}(hx:Wx W L w):Calls prog 48 [sV t].toArray w (RetW W (λB=>.func (.func 91) #[] #[bW B]) (λB=>.blk B [sV t] 9::L)):=by
 refine Aak hx func48 rfl ntmps48 rfl λa S=>?_;exact Fr (ZM S (S.tm rfl) (cs:=[sV t]) rfl rfl λa w1 b _ _ S=>lv S (Ra rfl) rfl λa S=>Dz (lv S (QI (us:=#[]) (vs:=#[bW b]) aB (by simp[S.tm (t:=1) rfl])) rfl λa S=>Va S rfl rfl λa S=>Dl (Tl (f_retW b S rfl rfl))))
theorem ib_lt{l:List UInt8}{c:UInt8}:Lib.indexByte l c<l.length:=by
 induction l with
 |nil=>simp[Lib.indexByte]
 |cons b l ih=>
  rw[Lib.indexByte,aT]
  split
  ·omega
  ·split<;>omega
theorem ibs_lt(s:ByteArray)(c:Int):Gq s c<s.size:=by
 unfold Gq;have:=ib_lt (l:=s.data.toList) (c:=c.toNat.toUInt8)
 rwa [Array.length_toList] at this
theorem Aie{s:ByteArray}(h0:0<s.size)(h:s.size<=2000):(FY s).size<s.size:=by
 have h1:=ibs_lt s 10;unfold FY
 split
 ·rename_i hc;have hc:=of_decide_eq_true hc;rw[Hl aA aA];unfold KY;rw[ByteArray.size_extract];omega
 ·exact h0
theorem line_chk{s:ByteArray}(h:s.size<=2000):Fq (fun(x y:ByteArray)=>some (x,y)) (λj=>if decide (0<=Gq s 10) then Chk (Tv 0 (W (Gq s 10+1)) s.size) (Chk (Tv (W (Gq s 10+1)) (s.size:Int) s.size) (j (KY s 0 (W (Gq s 10+1))) (KY s (W (Gq s 10+1)) s.size))) else j s Ff)=some (MX s,FY s):=by
 have h1:=ibs_lt s 10;unfold MX FY Fq
 split
 ·rename_i hc;have hc:=of_decide_eq_true hc;rw[Hl aA aA];have c1:Tv 0 (Gq s 10+1) s.size=true:=Lc.2 aA;have c2:Tv (Gq s 10+1) (s.size:Int) s.size=true:=Lc.2 aA;rw[c1,c2];rfl
 ·rfl
theorem Aqk(n B:Nat)(t:ByteArray)(ht:t.size<=2000)(l:Nat)(Jv:ByteArray×ByteArray->World->Prop)(Jx:World->Prop)(w:World)(h0:Jv (t,t) w)(gB:∀i w,Jv i w->w.heap[B]? =some (.cells [sV i.1].toArray 9 (0,0)))
 (hu:∀s b s' w w',Jv (s,b) w->Keep [B] w w'->w'.heap[B]? =some (.cells [sV s'].toArray 9 (0,0))->Jv (s',b) w')
 (hy:∀b w1,0<b.size->Jv (FY b,b) w1->YieldAt (WF none) (n-1) prog l #[sV (MX b)] w1 λe w'=>(e= .returned (.bool true)/\Jv (FY b,FY b) w')\/(e= .returned (.bool false)/\Jx w')):
 CallsIn (WF none) n prog 91 (#[.func (.yield l) #[] #[]]++ #[bW B]) w λe w'=>(∃v,e= .returned v)/\((∃s,s.size=0/\Jv (s,s) w')\/Jx w'):=by
 refine Anh (vs:=[.func (.yield l) #[] #[],bW B]) func91 rfl ntmps91 rfl λa S=>?_;have hQ:∀fn a w,¬bodyPost prog fn (λe w'=>(∃v,e= .returned v)/\((∃s:ByteArray,s.size=0/\Jv (s,s) w')\/Jx w')) .outgrown a w:=λ_ _ _ ⟨⟨_,e⟩,_⟩=>by cases e
 refine wpIn_block (i_loop (λm a w'=>∃s:ByteArray,s.size=m/\m<=2000/\Jv (s,s) w'/\Sx w' [] nov [] [(0,.func (.yield l) #[] #[]),(1,bW B)] 25 a w') t.size ⟨t,rfl,ht,h0,S.k2 0 1 rfl⟩ ?_);clear S;rintro m a w1 ⟨s,rfl,gm,hj,S⟩;replace S:=S.re1 (cs:=[sV s]) (gB _ _ hj);refine JV (JV (Yp (hQ f91) rfl (lv S (To isAgg9 (off:=0) (o:=0) (S.tm rfl) (S.cellsAt (i:=0) rfl) rfl) rfl λa S=>lv S (lenS inferInstance (S.tm rfl)) rfl λa S=>lv S (Aki (S.tm rfl) rfl) rfl λa S=>Ld (Tn (TQ (S.tm rfl) (λgc=>?_) (λgc=>?_))))))
 ·refine wpIn_skip (Tn (wpIn_block (JV (Yp (hQ f91) rfl (lv S (Ra rfl) rfl λa S=>Ld (Tn ?_))))));have gc:=of_decide_eq_true gc;have h:=line_chk gm;replace S:=S.k2 0 1 rfl;refine i_mid (λa' w'=>∃a,a'=Vd [] a/\Sx w1 [B] nov [.blk B [sV (FY s)] 9] [(3,sV (MX s)),(0,.func (.yield l) #[] #[]),(1,bW B)] 25 a w') ?_ ?_
  ·rw[Re];refine Acb rfl (λa w h=>hQ f91 a w h) ?_;have zr0:ED 4 [9] [] [] []:=⟨⟩
   revert h S
   refine J [_,_] 0 [] [0,1] [] (fun(x y:ByteArray) d p L K=>d p (rB 0 (λb=>.blk b [sV y] 9) L) ((3,sV x)::K)) ?_ ?_
   ·exact Au
   ·intros
    rename_i h S;obtain⟨rfl,rfl⟩:=Prod.mk.inj (BT h);exact Tn ⟨_,(Re _).symm,S⟩
  ·clear S h;rintro _ w2 ⟨a,rfl,S⟩;have hj2:=hu _ _ _ _ _ hj S.keep (S.blk_at (i:=0) rfl);refine JV (wpIn_region_lit (YJ S (Rm (S.tm rfl)) (λ_ h=>by cases h) rfl λa S=>YJ S (Rm (S.tm rfl)) (λ_ h=>by cases h) rfl λa S=>Ani S (S.tm rfl) (vs:=#[sV (MX s)]) (by simp[S.tm (t:=22) rfl]) rfl (hy s _ aA hj2) ?_ λe w' h=>h.elim (λh=>⟨_,h.1⟩) λh=>⟨_,h.1⟩));rintro v w3 a (⟨hv,hj3⟩|⟨hv,hj3⟩) S
   ·obtain rfl:v= .bool true:=by injection hv
    refine YJ S (QG (S.tm rfl)) (λ_ h=>by cases h) rfl λa S=>Afm (Tn (TQ (S.tm rfl) (λh=>by cases h) λ_=>wpIn_skip (AQ ?_)));have h1:=Aie aA gm;exact⟨_,a,h1,rfl,FY s,rfl,by omega,hj3,S.k2 0 1 rfl⟩
   ·obtain rfl:v= .bool false:=by injection hv
    refine YJ S (QG (S.tm rfl)) (λ_ h=>by cases h) rfl λa S=>Afm (Tn (TQ (S.tm rfl) (λ_=>wpIn_ret (LH (Vo (LH ?_)))) λh=>by cases h));rw[Re];exact⟨S.nodefer,.tuple #[],by rw[results_none results91],⟨_,rfl⟩,.inr hj3⟩
 ·refine wpIn_exit (Nq (Nq (Zc ?_)));rw[Re];have gc:=of_decide_eq_false gc;exact⟨S.nodefer,.tuple #[],by rw[results_none results91],⟨_,rfl⟩,.inl ⟨s,by omega,hj⟩⟩
theorem GP(w:World)(p:Ge)(q_p:R32)(hq_p:Lb (view w []) p q_p)(q:Gf)(v_l:Value)(l:List An)(hs_l:Slc (view w []) 11 v_l (l.map An.enc))(t:ByteArray)(hg_maxlen:CZ (view w []) 0)(hg_pow10:DJ (view w []) 1 Mn)(r:ByteArray×Int)(h:Xj p q l t=some r):
 Calls prog 14 [.agg (R32.enc q_p).toArray,.agg (Gf.enc q).toArray,v_l,sV t].toArray w (Ret w [] λ_ v _=>v= .tuple #[sV r.1,iV r.2]):=by
 have hQ:=hq_p;obtain⟨u1,u2,rfl,hs1,⟨u3,rfl,hs2⟩⟩:=hq_p;unfold Xj at h;have zQ:∀fn a w',¬bodyPostM (WF none) 3 prog fn (Ret w [] λ_ v _=>v= .tuple #[sV r.1,iV r.2]) .outgrown a w':=λ_ _ _ ⟨_,e,_⟩=>by cases e
 replace zQ:=zQ f14;refine Aad 3 func14 rfl ntmps14 rfl λa S=>?_;rw[Re]
 revert h S
 refine St 48 ?_
 intros
 rename_i b4 b5 b6 b10 b11 rz _ _ _ _ _ _ gr g2 _ h S;obtain rfl:=BT h;have g2:=of_decide_eq_false g2
 let LC:=fun(B:Nat) (s:ByteArray) (at_:Int) (x:ByteArray)=>[LEnt.blk B [sV s] 9,.blk b11 [iV at_] 3,.blk b10 [sV x] 9,.blk b6 [v_l] 37,.blk b5 q.enc 35,.blk b4 (R32.enc ⟨u1,⟨u3,p.Table.Relay,p.Table.Most⟩,p.Final⟩) 32]
 refine l_clW S (λ_=>Oq (S.c1 rfl) call48) (slmk_ok S.wx) rfl λB a w2 S=>?_;refine Ld (Tn (wpIn_block ?_));replace S:=S.nk (LC B t 0 Ff) [(4,bW b4),(5,bW b5),(6,bW b6),(10,bW b10),(11,bW b11),(34,.func (.func 91) #[] #[bW B])] [] rfl (subR rfl);refine Ahr (n:=3) (λx=>#[sV x]) S (S.tm rfl) (λargs w=>call91 args w) (λ_=>rfl)
  (fun(i:ByteArray×ByteArray) L'=>∃m at_ x,i.2.size<=m/\i.2.size<=2000/\Om p q l (TO m i.2) at_ x=some rz/\L'=LC B i.1 at_ x)
  (λ_=>False) (λi x i'=>0<i.2.size/\i.1=FY i.2/\x=MX i.2/\i'=(i.1,i.1)) (λi=>i.2.size=0) (t,t) ⟨t.size,0,Ff,bU _,(by show t.size<=2000;omega),gr,rfl⟩ ?_ ?_ ?_ (λ_ _ _ _ _ h=>h.elim)
 ·intro ll e1 e2 Jv Jx W hJ j0 hy;refine(Aqk (3-1) B t aA ll Jv Jx W j0 (λi w hj=>?_) (λs b s' w w' hj hk hb=>?_) λb w1 h0 hj=>hy (FY b,b) (MX b) (FY b,FY b) w1 ⟨h0,rfl,rfl,rfl⟩ hj).mono λe w' h=>⟨h.1,h.2.imp (fun⟨s,h0,hj⟩=>⟨(s,s),h0,hj⟩) id⟩
  ·obtain⟨L',⟨m,at_,x,_,_,_,rfl⟩,S⟩:=(hJ i w).1 hj;exact S.blk_at (i:=2) rfl
  ·obtain⟨L',⟨m,at_,x,g1,g2,g3,rfl⟩,S⟩:=(hJ _ w).1 hj;exact(hJ _ w').2 ⟨LC B s' at_ x,⟨m,at_,x,g1,g2,g3,rfl⟩,S.change (i:=2) (e':=.blk B [sV s'] 9) rfl hk (λy hy=>by rw[bA.1 hy];rfl) hb λb hb=>.inl hb⟩
 ·rintro ll D rec ⟨s,b⟩ x i' L' W hst hss ⟨h0,g5,rfl,rfl⟩ ⟨m,at_,x,g1,g3,h,rfl⟩ S0;have gs:0<b.size:=h0;have g1:b.size<=m:=g1;have g3:b.size<=2000:=g3;obtain⟨m,rfl⟩:∃m',m=m'+1:=⟨m-1,by omega⟩;rw[TO,aQ (aH aA),Om] at h;have gl:=Aie h0 aA;have hact:=prms1 a 35 (sV (MX b)) S0.nodefer;rw[hact];have S:=S0.put (d:=35) (v:=sV (MX b)) aC;generalize a.put (some 35) (sV (MX b))=a' at S;refine Yp (λ_ _ h=>h) rfl (lv S (Ra (S.tm rfl)) rfl λa S=>Ld (Tn ?_));refine Afl S (i:=0) rfl (hst _) λw2 S=>?_;rw[hss] at S;rw[Re];have zt0:Take 51:=⟨⟩;refine Acb rfl (λ_ _ h=>h) ?_;unfold Yn at h
  revert h S
  refine J [_,_,_] 1 [] [10,11] [false,true,true,true,true,true,true,true,true] (fun(x1:List ByteArray) x2 x3 d p L K a w=>∃v,d p (.own v 9 1 x1.length (x1.flatMap Io)::rB 3 (λb=>.blk b [iV x3] 3) L) ((15,v)::(16,iV x2)::K) a w) ?_ ?_
  ·exact Au
  refine J [_] 0 [] [10] [false,true,true,true,true,true,true,true,true] (fun(x5:List ByteArray) d p L K a w=>∃v5,d p (.own v5 9 1 x5.length (x5.flatMap Io)::L) ((15,v5)::K) a w) ?_ ?_
  ·exact Au
  refine Ov 0 Mr.eq_1 Mr.eq_2 [] [10,93,94] [] (λi (y:ByteArray) d p L K=>d p (rB 5 (λb=>.blk b [sV y] 9) L) ((95,iV i)::K)) (λy d p L K=>d p (rB 5 (λb=>.blk b [sV y] 9) L) K) ?_ ?_
  ·exact Au
  ·intros
   rename_i h S;have g5:s=FY b:=g5;rw[show FY (s,b).snd=s from g5.symm] at h gl;replace S:=S.nm [false,true,true,true,true,true,true,true,true];exact AQ ⟨_,⟨m,_,_,by omega,by omega,h,rfl⟩,S0.back (S.wx.sx S)⟩
 ·rintro D ll o ⟨s,b⟩ L' W g0 ⟨m,at_,x,g1,g3,h,rfl⟩ S;have h:Om p q l [] at_ x=some rz:=by
   cases m with
   |zero=>exact h
   |succ m=>rw[TO,aP (by rw[show b.size=0 from g0];decide)] at h;exact h
  obtain rfl:=BT h;refine AQ (Tn (JV (Yp (λa w h=>zQ a w h) rfl (lv S (OI isAgg9 (S.tm rfl) (S.cell (i:=4) rfl rfl)) rfl λa S=>lv S (Ra (S.tm rfl)) rfl λa S=>lv S (Ra rfl) rfl λa S=>Ld (Tn (wpIn_ret ?_))))));exact Afk S (i:=1) rfl (rs:=[.tmp 8,.tmp 9]) (vs:=[sV x,iV 0]) results14 rfl (λw' S=>⟨⟨YR S rfl,YR S rfl,trivial⟩,rfl⟩)
instance:FnT prog 14 vs (type_of% GP):=⟨call14,GP⟩
theorem Zu(w:World)(Ad:Value)(Ai:List Int)(As:Slc (view w []) 1 Ad (Ai.map eInt))(hg_maxlen:CZ (view w []) 0)(hg_pow10:DJ (view w []) 1 Mn)(r:Bool)(h:Yo Ai=some r):
 Calls prog 3 [Ad].toArray w (Ret w [] λ_ v _=>v=bV r):=by
 unfold Yo at h;refine Fe2 h func3 rfl ntmps3 rfl ?_;exact Au
instance:FnT prog 3 vs (type_of% Zu):=⟨call3,Zu⟩
end Go.Proofs.YthlielagemkjcaaGreatDoor
