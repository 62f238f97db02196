/- Each Go function computes its plain twin,by program. -/
import Derived.Test.YthlielagemkjcaaGreatDoorWk3
namespace Go.Proofs.YthlielagemkjcaaGreatDoor
open Go
open Go.Proofs.Tryz
set_option maxHeartbeats 4000000
set_option maxRecDepth 100000
variable {vs:List Go.Value}
theorem Qz(w:World)(Ac:Value)(Ah:List Fd)(Bd:(LEnt.own Ac 181 5 Ah.length (Ah.flatMap Fd.enc)).holds w)(Bi:Int)(r:(List Fd))(h:Kj Ah Bi=some r):
 Calls prog 262 [Ac,iV Bi,.func (.func 223) #[] #[]].toArray w (Ret w (Ac.ownBlock.toList) λ_ v w'=>(LEnt.own Ac 181 5 r.length (r.flatMap Fd.enc)).holds w'/\v= .tuple #[]):=by
 unfold Kj at h;refine Ka (Ac.ownBlock.toList) [.own Ac 181 5 Ah.length (Ah.flatMap Fd.enc)] func262 rfl ntmps262 rfl (λe he=>by simp only[bA] at he;subst he;exact Bd) (Jj _) (Le _) λa S=>?_
 revert h S
 refine Aam 0 Ir.eq_1 Ir.eq_2 [] [0,1,2,6] [] (fun(x1:List Fd) x2 x3 d p L K=>d p (rO 0 (λ_=>.own Ac 181 5 x1.length (x1.flatMap Fd.enc)) L) ((7,iV x2)::(8,iV x3)::K)) (fun(x1:List Fd) x2 d p L K=>d p (rO 0 (λ_=>.own Ac 181 5 x1.length (x1.flatMap Fd.enc)) L) ((7,iV x2)::K)) ?_ ?_
 ·exact Au
 refine Aal 0 It.eq_1 It.eq_2 [] [1] [] (λx4 d p L K=>d p L ((6,iV x4)::K)) (λd p L K=>d p L K) ?_ ?_
 ·refine Xk 1 Mh.eq_1 Mh.eq_2 [] [1,6] [] (λx5 x6 d p L K=>d p L ((7,iV x5)::(8,iV x6)::K)) (λx5 d p L K=>d p L ((7,iV x5)::K)) ?_ ?_
  ·exact Au
  exact Au
 exact Au
instance:FnT prog 262 vs (type_of% Qz):=⟨call262,Qz⟩
theorem Qh(w:World)(Ao:Value)(Ap:List Fd)(Bo:(LEnt.own Ao 181 5 Ap.length (Ap.flatMap Fd.enc)).holds w)(r:(List Fd))(h:Gz Ap=some r):
 Calls prog 222 [Ao,.func (.func 223) #[] #[]].toArray w (Ret w (Ao.ownBlock.toList) λ_ v w'=>(LEnt.own Ao 181 5 r.length (r.flatMap Fd.enc)).holds w'/\v= .tuple #[]):=by
 unfold Gz at h;refine Ka (Ao.ownBlock.toList) [.own Ao 181 5 Ap.length (Ap.flatMap Fd.enc)] func222 rfl ntmps222 rfl (λe he=>by simp only[bA] at he;subst he;exact Bo) (Jj _) (Le _) λa S=>?_
 revert h S
 exact Au
instance:FnT prog 222 vs (type_of% Qh):=⟨call222,Qh⟩
theorem FI(w:World)(Az:Int)(Ba:Int)(r:Int)(h:Vy Az Ba=r):
 Calls prog 351 [iV Az,iV Ba].toArray w (Ret w [] λ_ v _=>v=iV r):=by
 unfold Vy at h;refine Fe2 h func351 rfl ntmps351 rfl ?_;refine J [_] 0 [] [1] [] (λx1 d p L K=>d p L ((0,iV x1)::K)) ?_ ?_
 ·exact Au
 refine J [_] 0 [] [0] [] (λx2 d p L K=>d p L ((1,iV x2)::K)) ?_ ?_
 ·exact Au
 exact Au
instance:FnT prog 351 vs (type_of% FI):=⟨call351,FI⟩
theorem LQ(w:World)(Az:Fd)(Ba:Fd)(r:Int)(h:Xb Az Ba=r):
 Calls prog 340 [.agg (Fd.enc Az).toArray,.agg (Fd.enc Ba).toArray].toArray w (Ret w [] λ_ v _=>v=iV r):=by
 unfold Xb at h;refine Fe2 h func340 rfl ntmps340 rfl ?_;exact Au
instance:FnT prog 340 vs (type_of% LQ):=⟨call340,LQ⟩
theorem PN(w:World)(ψ:View)(hψ:View.le ψ (view w []))(Ad:Value)(Ai:List Fd)(As:Slc ψ 5 Ad (Ai.map Fd.enc))(r:(List (List Fd)))(h:Wh Ai=some r):
 Calls prog 316 [Ad].toArray w (Ret w [] λτ v _=>SlcD (join ψ τ) 1 RS.enc JG v r):=by
 unfold Wh at h;refine Fe2 h func316 rfl ntmps316 rfl ?_;refine Xk 0 Ti.eq_1 Ti.eq_2 [(179,1)] [0] [] (fun(x1:List (List Fd)) x2 d p L K a w=>∃v1 rs1,Mu (JG (join ψ nov)) x1 rs1/\d p (rO 0 (λ_=>.own v1 179 1 rs1.length (rs1.flatMap RS.enc)) L) ((3,v1)::(4,iV x2)::K) a w) (fun(x1:List (List Fd)) d p L K a w=>∃v1 rs1,Mu (JG (join ψ nov)) x1 rs1/\d p (rO 0 (λ_=>.own v1 179 1 rs1.length (rs1.flatMap RS.enc)) L) ((3,v1)::K) a w) ?_ ?_
 ·refine Lc1_1 1 Xz.eq_1 Xz.eq_2 [] [0,3,4] [] (λx3 d p L K=>d p L ((5,iV x3)::K)) (λx3 d p L K=>d p L ((5,iV x3)::K)) ?_ ?_
  ·exact Au
  exact Au
 exact Au
instance:FnT prog 316 vs (type_of% PN):=⟨call316,PN⟩
theorem GD(w:World)(Ap:Fd)(Be:Nat)(Bu:Value)(Bh:List Fd)(Df:Slc (view w []) 5 Bu (Bh.map Fd.enc))(Ca:(view w []) Be=some (.cells [Bu].toArray 179 (0,0)))(r:Bool)(h:AD Ap Bh=some r):
 Calls prog 353 [.agg (Fd.enc Ap).toArray,bW Be].toArray w (Ret w [] λ_ v _=>v=bV r):=by
 unfold AD at h;refine Fe2 h func353 rfl ntmps353 rfl ?_;exact Au
instance:FnT prog 353 vs (type_of% GD):=⟨call353,GD⟩
theorem Ro(w:World)(Af:Value)(Am:List Fd)(Bn:Slc (view w []) 5 Af (Am.map Fd.enc))(Bf:Nat)(Cu:Value)(Ar:List Fd)(Ei:Slc (view w []) 5 Cu (Ar.map Fd.enc))(Bv:(view w []) Bf=some (.cells [Cu].toArray 179 (0,0)))(r:Int)(h:Ky Am Ar=some r):
 Calls prog 356 [Af,.func (.func 353) #[] #[bW Bf]].toArray w (Ret w [] λ_ v _=>v=iV r):=by
 unfold Ky at h;refine Fe2 h func356 rfl ntmps356 rfl ?_;refine Yv 0 Hw.eq_1 Hw.eq_2 [] [0,1,7] [] (λi1 d p L K=>d p L ((8,iV i1)::K)) (λd p L K=>d p L K) ?_ ?_
 ·exact Au
 exact Au
instance:FnT prog 356 vs (type_of% Ro):=⟨call356,Ro⟩
theorem Qi(w:World)(Af:Value)(Am:List Fd)(Bn:Slc (view w []) 5 Af (Am.map Fd.enc))(Bf:Nat)(Cu:Value)(Ar:List Fd)(Ei:Slc (view w []) 5 Cu (Ar.map Fd.enc))(Bv:(view w []) Bf=some (.cells [Cu].toArray 179 (0,0)))(r:Bool)(h:Kg Am Ar=some r):
 Calls prog 352 [Af,.func (.func 353) #[] #[bW Bf]].toArray w (Ret w [] λ_ v _=>v=bV r):=by
 unfold Kg at h;refine Fe2 h func352 rfl ntmps352 rfl ?_;exact Au
instance:FnT prog 352 vs (type_of% Qi):=⟨call352,Qi⟩
theorem KH(w:World)(Ad:Value)(Ai:List Fd)(As:Slc (view w []) 5 Ad (Ai.map Fd.enc))(r:Int)(h:DX Ai=some r):
 Calls prog 341 [Ad].toArray w (Ret w [] λ_ v _=>v=iV r):=by
 unfold DX at h;refine Fe2 h func341 rfl ntmps341 rfl ?_;refine Ov 0 Pe.eq_1 Pe.eq_2 [] [0,3,17,18] [] (λi1 (x1:List (Fw×Bool)) d p L K=>d p (rM 0 (λb1=>.map b1 (Ht (λx=>Value.agg (Fw.enc x).toArray) Value.bool x1) x1.length) L) ((19,iV i1)::K)) (fun(x1:List (Fw×Bool)) d p L K=>d p (rM 0 (λb1=>.map b1 (Ht (λx=>Value.agg (Fw.enc x).toArray) Value.bool x1) x1.length) L) K) ?_ ?_
 ·exact Au
 refine Yv 0 Rs.eq_1 Rs.eq_2 [] [6,39,40] [false] (λi2 d p L K=>d p L ((41,iV i2)::K)) (λd p L K=>d p L K) ?_ ?_
 ·exact Au
 refine Yv 0 Pf.eq_1 Pf.eq_2 [] [6,49,50] [] (λi3 d p L K=>d p L ((51,iV i3)::K)) (λd p L K=>d p L K) ?_ ?_
 ·refine Yv 1 Rt.eq_1 Rt.eq_2 [] [6,10,49,50,51,55,56] [] (λi4 d p L K=>d p L ((57,iV i4)::K)) (λd p L K=>d p L K) ?_ ?_
  ·exact Au
  exact Au
 refine Yv 0 Pg.eq_1 Pg.eq_2 [] [89,90] [] (λi5 d p L K=>d p L ((91,iV i5)::K)) (λd p L K=>d p L K) ?_ ?_
 ·refine Aal 1 Kt.eq_1 Kt.eq_2 [] [14,89,90,91] [] (λx2 d p L K=>d p L ((15,iV x2)::K)) (λd p L K=>d p L K) ?_ ?_
  ·exact Au
  exact Au
 exact Au
instance:FnT prog 341 vs (type_of% KH):=⟨call341,KH⟩
theorem GE(w:World)(Ad:Value)(Ai:List Fd)(As:Slc (view w []) 5 Ad (Ai.map Fd.enc))(r:Int)(h:Xc Ai=some r):
 Calls prog 315 [Ad].toArray w (Ret w [] λ_ v _=>v=iV r):=by
 unfold Xc at h;refine Fe2 h func315 rfl ntmps315 rfl ?_;refine Yv 0 Hc.eq_1 Hc.eq_2 [] [0,8,9] [] (λi1 d p L K=>d p L ((10,iV i1)::K)) (λd p L K=>d p L K) ?_ ?_
 ·refine J [_] 2 [] [0,8,9,10] [false] (λx1 d p L K=>d p L ((42,bV x1)::K)) ?_ ?_
  ·exact Au
  exact Au
 exact Au
instance:FnT prog 315 vs (type_of% GE):=⟨call315,GE⟩
theorem IL(w:World)(Cj:Il)(Bt:R28)(Cb:Xs (view w []) Cj Bt)(Ad:Value)(Ai:List Fd)(As:Slc (view w []) 5 Ad (Ai.map Fd.enc))(r:Int)(h:Ws Cj Ai=some r):
 Calls prog 263 [.agg (R28.enc Bt).toArray,Ad].toArray w (Ret w [] λ_ v _=>v=iV r):=by
 obtain⟨u1,rfl,hs1⟩:=Cb;unfold Ws at h;refine Fe2 h func263 rfl ntmps263 rfl ?_;exact Au
instance:FnT prog 263 vs (type_of% IL):=⟨call263,IL⟩
theorem RB(w:World)(r:Fh)(h:BV=r):
 Calls prog 342 [].toArray w (Ret w [] λ_ v _=>v= .agg (Fh.enc r).toArray):=by
 unfold BV at h;refine Fe2 h func342 rfl ntmps342 rfl ?_;exact Au
instance:FnT prog 342 vs (type_of% RB):=⟨call342,RB⟩
theorem LR(w:World)(Az:Int)(Ba:Int)(r:Fh)(h:Nr Az Ba=some r):
 Calls prog 233 [iV Az,iV Ba].toArray w (Ret w [] λ_ v _=>v= .agg (Fh.enc r).toArray):=by
 have zr0:ED 4 [] [4] [] []:=⟨⟩;unfold Nr at h;refine Fe2 h func233 rfl ntmps233 rfl ?_;refine Xk 0 Vh.eq_1 Vh.eq_2 [] [0,1,4] [] (λx1 x2 d p L K=>d p L ((5,iV x1)::(6,iV x2)::K)) (λx2 d p L K=>d p L ((6,iV x2)::K)) ?_ ?_
 ·exact Au
 exact Au
instance:FnT prog 233 vs (type_of% LR):=⟨call233,LR⟩
theorem RC(w:World)(Cj:Il)(Bt:R28)(Cb:Xs (view w []) Cj Bt)(Ad:Value)(Ai:List Fd)(As:Slc (view w []) 5 Ad (Ai.map Fd.enc))(r:(List Fl))(h:BW Cj Ai=some r):
 Calls prog 317 [.agg (R28.enc Bt).toArray,Ad].toArray w (Ret w [] λτ v _=>Kr τ 304 7 v r.length (r.flatMap Fl.enc)):=by
 have zr0:ED 11 [] [] [5] []:=⟨⟩;obtain⟨u1,rfl,hs1⟩:=Cb;unfold BW at h;refine Fe2 h func317 rfl ntmps317 rfl ?_;refine Lr3_3 0 Su.eq_1 Su.eq_2 [(3,1),(304,7)] [1,2,7,16,17] [] (λi1 (x1:List (ByteArray×Int)) (x2:List Int) (x3:List Fl) d p L K a w=>∃v1 v2,d p (rM 2 (λb2=>.map b2 (Ht Value.string (Value.int .i64) x1) x1.length) (rO 1 (λ_=>.own v2 304 7 x3.length (x3.flatMap Fl.enc)) (rO 0 (λ_=>.own v1 3 1 x2.length (x2.flatMap eInt)) L))) ((18,iV i1)::(5,v2)::(6,v1)::K) a w) (fun(x1:List (ByteArray×Int)) (x2:List Int) (x3:List Fl) d p L K a w=>∃v1 v2,d p (rM 2 (λb2=>.map b2 (Ht Value.string (Value.int .i64) x1) x1.length) (rO 1 (λ_=>.own v2 304 7 x3.length (x3.flatMap Fl.enc)) (rO 0 (λ_=>.own v1 3 1 x2.length (x2.flatMap eInt)) L))) ((5,v2)::(6,v1)::K) a w) ?_ ?_
 ·refine J [_,_,_] 0 [] [1,2,7,16,17,18] [] (fun(x4:List (ByteArray×Int)) (x5:List Int) (x6:List Fl) d p L K a w=>∃v3 v4,d p (rM 2 (λb2=>.map b2 (Ht Value.string (Value.int .i64) x4) x4.length) (rO 1 (λ_=>.own v4 304 7 x6.length (x6.flatMap Fl.enc)) (rO 0 (λ_=>.own v3 3 1 x5.length (x5.flatMap eInt)) L))) ((5,v4)::(6,v3)::K) a w) ?_ ?_
  ·refine J [_] 1 [] [1,2,5,7,9,16,17,18] [] (fun(x7:List Int) d p L K a w=>∃v5,d p (rO 1 (λ_=>.own v5 3 1 x7.length (x7.flatMap eInt)) L) ((6,v5)::K) a w) ?_ ?_
   ·exact Au
   exact Au
  exact Au
 refine Xk 0 Rg.eq_1 Rg.eq_2 [] [1,2,6] [true,true,false,true] (fun(x8:List Fl) x9 d p L K a w=>∃v11,d p (rO 1 (λ_=>.own v11 304 7 x8.length (x8.flatMap Fl.enc)) L) ((5,v11)::(10,iV x9)::K) a w) (fun(x8:List Fl) d p L K a w=>∃v11,d p (rO 1 (λ_=>.own v11 304 7 x8.length (x8.flatMap Fl.enc)) L) ((5,v11)::K) a w) ?_ ?_
 ·refine Lc2_2 1 Zk.eq_1 Zk.eq_2 [] [1,2,5,6,10] [] (λx10 x11 d p L K=>d p L ((11,iV x10)::(12,iV x11)::K)) (λx10 x11 d p L K=>d p L ((11,iV x10)::(12,iV x11)::K)) ?_ ?_
  ·refine J [_] 1 [] [1,2,5,6,10,11] [] (λx12 d p L K=>d p L ((12,iV x12)::K)) ?_ ?_
   ·refine J [_] 1 [] [1,2,5,6,10,11] [] (λx13 d p L K=>d p L ((12,iV x13)::K)) ?_ ?_
    ·exact Au
    exact Au
   exact Au
  refine J [_] 0 [] [1,2,5,6,10,11] [] (λx14 d p L K=>d p L ((12,iV x14)::K)) ?_ ?_
  ·exact Au
  refine Xk 0 Sv.eq_1 Sv.eq_2 [] [1,2,6,10,11,12,114,115] [] (fun(x15:List Fl) x16 d p L K a w=>∃v12,d p (rO 1 (λ_=>.own v12 304 7 x15.length (x15.flatMap Fl.enc)) L) ((5,v12)::(116,iV x16)::K) a w) (fun(x15:List Fl) d p L K a w=>∃v12,d p (rO 1 (λ_=>.own v12 304 7 x15.length (x15.flatMap Fl.enc)) L) ((5,v12)::K) a w) ?_ ?_
  ·exact Au
  exact Au
 exact Au
instance:FnT prog 317 vs (type_of% RC):=⟨call317,RC⟩
theorem RD(w:World)(Cj:Il)(Bt:R28)(Cb:Xs (view w []) Cj Bt)(Ad:Value)(Ai:List Fd)(As:Slc (view w []) 5 Ad (Ai.map Fd.enc))(r:(List Fl))(h:HH Cj Ai=some r):
 Calls prog 264 [.agg (R28.enc Bt).toArray,Ad].toArray w (Ret w [] λτ v _=>Kr τ 304 7 v r.length (r.flatMap Fl.enc)):=by
 obtain⟨u1,rfl,hs1⟩:=Cb;unfold HH at h;refine Fe2 h func264 rfl ntmps264 rfl ?_;refine Ov 0 Zl.eq_1 Zl.eq_2 [(304,7)] [2,9,10] [] (λi1 (x1:List Fl) d p L K a w=>∃φ2 v2,View.le p φ2/\d φ2 (rO 0 (λ_=>.own v2 304 7 x1.length (x1.flatMap Fl.enc)) L) ((11,iV i1)::(5,v2)::K) a w) (fun(x1:List Fl) d p L K a w=>∃φ2 v2,View.le p φ2/\d φ2 (rO 0 (λ_=>.own v2 304 7 x1.length (x1.flatMap Fl.enc)) L) ((5,v2)::K) a w) ?_ ?_
 ·exact Au
 exact Au
instance:FnT prog 264 vs (type_of% RD):=⟨call264,RD⟩
theorem PO(w:World)(Cj:Il)(Bt:R28)(Cb:Xs (view w []) Cj Bt)(Ad:Value)(Ai:List Fd)(As:Slc (view w []) 5 Ad (Ai.map Fd.enc))(r:(List Fx)×Int)(h:Yf Cj Ai=some r):
 Calls prog 224 [.agg (R28.enc Bt).toArray,Ad].toArray w (Ret w [] λτ v _=>∃u1:Value,v= .tuple #[u1,iV r.2]/\Kr τ 131 3 u1 r.1.length (r.1.flatMap Fx.enc)):=by
 obtain⟨u1,rfl,hs1⟩:=Cb;unfold Yf at h;refine Fe2 h func224 rfl ntmps224 rfl ?_;refine Ov 0 Vt.eq_1 Vt.eq_2 [(131,3)] [18,19] [true,false] (λi1 (x1:List Fx) d p L K a w=>∃v3,d p (rO 0 (λ_=>.own v3 131 3 x1.length (x1.flatMap Fx.enc)) L) ((20,iV i1)::(7,v3)::K) a w) (fun(x1:List Fx) d p L K a w=>∃v3,d p (rO 0 (λ_=>.own v3 131 3 x1.length (x1.flatMap Fx.enc)) L) ((7,v3)::K) a w) ?_ ?_
 ·exact Au
 exact Au
instance:FnT prog 224 vs (type_of% PO):=⟨call224,PO⟩
theorem NN(w:World)(Aa:Nat)(Bl:Ge)(Bg:R32)(Bk:Lb (view w []) Bl Bg)(Aq:Value)(Ax:List An)(Br:Slc (view w []) 11 Aq (Ax.map An.enc))(Ak:(view w []) Aa=some (.cells (R32.enc Bg++[Aq]).toArray 212 (0,0)))(Db:Fp)(r:(List Fo)×Int)(h:Sm Bl Ax Db=some r):
 Calls prog 163 [bW Aa,.agg (Fp.enc Db).toArray].toArray w (Ret w [] λτ v _=>∃u1:Value,v= .tuple #[u1,iV r.2]/\Kr τ 155 7 u1 r.1.length (r.1.flatMap Fo.enc)):=by
 obtain⟨u1,u2,rfl,hs1,⟨u3,rfl,hs2⟩⟩:=Bk;unfold Sm at h;refine Fe2 h func163 rfl ntmps163 rfl ?_;refine Ov 0 Ub.eq_1 Ub.eq_2 [(181,5)] [0,3,6,7,32,33] [] (λi1 (x1:List Fd) d p L K a w=>∃v2,d p (rO 0 (λ_=>.own v2 181 5 x1.length (x1.flatMap Fd.enc)) L) ((34,iV i1)::(9,v2)::K) a w) (fun(x1:List Fd) d p L K a w=>∃v2,d p (rO 0 (λ_=>.own v2 181 5 x1.length (x1.flatMap Fd.enc)) L) ((9,v2)::K) a w) ?_ ?_
 ·exact Au
 refine Ov 0 Uc.eq_1 Uc.eq_2 [] [3,6,7,13,72,73] [true,false,true] (λi2 (x2:List (ByteArray×Fh)) d p L K=>d p (rM 0 (λb6=>.map b6 (Ht Value.string (λx=>Value.agg (Fh.enc x).toArray) x2) x2.length) L) ((74,iV i2)::K)) (fun(x2:List (ByteArray×Fh)) d p L K=>d p (rM 0 (λb6=>.map b6 (Ht Value.string (λx=>Value.agg (Fh.enc x).toArray) x2) x2.length) L) K) ?_ ?_
 ·exact Au
 refine Ov 0 Sd.eq_1 Sd.eq_2 [(155,7)] [3,7,13,84,85] [] (λi3 (x3:List Fo) d p L K a w=>∃v6,d p (rO 0 (λ_=>.own v6 155 7 x3.length (x3.flatMap Fo.enc)) L) ((86,iV i3)::(16,v6)::K) a w) (fun(x3:List Fo) d p L K a w=>∃v6,d p (rO 0 (λ_=>.own v6 155 7 x3.length (x3.flatMap Fo.enc)) L) ((16,v6)::K) a w) ?_ ?_
 ·refine J [_,_] 1 [] [3,7,13,16,18,19,84,85,86] [] (λx4 x5 d p L K=>d p (rB 0 (λb11=>.blk b11 [iV x4,iV x5] 129) L) K) ?_ ?_
  ·exact Au
  exact Au
 exact Au
instance:FnT prog 163 vs (type_of% NN):=⟨call163,NN⟩
theorem PP(w:World)(Ae:Ge)(Av:R32)(Bc:Lb (view w []) Ae Av)(Ad:Value)(Ai:List An)(As:Slc (view w []) 11 Ad (Ai.map An.enc))(Bb:ByteArray)(Aw:Int)(r:(List Fo)×Int)(h:Yg Ae Ai Bb Aw=some r):
 Calls prog 119 [.agg (R32.enc Av).toArray,Ad,sV Bb,iV Aw].toArray w (Ret w [] λτ v _=>∃u1:Value,v= .tuple #[u1,iV r.2]/\Kr τ 155 7 u1 r.1.length (r.1.flatMap Fo.enc)):=by
 obtain⟨u1,u2,rfl,hs1,⟨u3,rfl,hs2⟩⟩:=Bc;unfold Yg at h;refine Fe2 h func119 rfl ntmps119 rfl ?_;exact Au
instance:FnT prog 119 vs (type_of% PP):=⟨call119,PP⟩
theorem PQ(w:World)(n:Int)(hg_pow10:DJ (view w []) 1 Mn)(r:ByteArray)(h:Jb n=some r):Calls prog 34 [iV n].toArray w (Ret w [] λ_ v _=>v= .string r):=by
 unfold Jb at h;obtain⟨hc,h⟩:=On h;simp only[bQ,aK] at hc;obtain rfl:=BT h;exact Ahu (Any.strconv_Itoa Tryz.lays171 n hc.1 hc.2 w (hg_pow10.tab aF))
instance:FnT prog 34 vs (type_of% PQ):=⟨call34,PQ⟩
theorem NO(w:World)(Bi:Int)(r:Bool)(h:DR Bi=r):
 Calls prog 225 [iV Bi].toArray w (Ret w [] λ_ v _=>v=bV r):=by
 unfold DR at h;refine Fe2 h func225 rfl ntmps225 rfl ?_;exact Au
instance:FnT prog 225 vs (type_of% NO):=⟨call225,NO⟩
theorem TF(w:World)(Bi:Int)(r:ByteArray)(h:Ph Bi=r):
 Calls prog 226 [iV Bi].toArray w (Ret w [] λ_ v _=>v=sV r):=by
 unfold Ph at h;refine Fe2 h func226 rfl ntmps226 rfl ?_;exact Au
instance:FnT prog 226 vs (type_of% TF):=⟨call226,TF⟩
theorem PR(w:World)(De:Int)(hg_pow10:DJ (view w []) 1 Mn)(r:ByteArray×Int)(h:JD De=some r):
 Calls prog 164 [iV De].toArray w (Ret w [] λ_ v _=>v= .tuple #[sV r.1,iV r.2]):=by
 unfold JD at h;refine Fe2 h func164 rfl ntmps164 rfl ?_;exact Au
instance:FnT prog 164 vs (type_of% PR):=⟨call164,PR⟩
theorem TG(w:World)(De:Int)(hg_pow10:DJ (view w []) 1 Mn)(r:ByteArray)(h:AE De=some r):
 Calls prog 120 [iV De].toArray w (Ret w [] λ_ v _=>v=sV r):=by
 unfold AE at h;refine Fe2 h func120 rfl ntmps120 rfl ?_;exact Au
instance:FnT prog 120 vs (type_of% TG):=⟨call120,TG⟩
theorem TH(w:World)(Dc:Fh)(hg_pow10:DJ (view w []) 1 Mn)(r:ByteArray)(h:BX Dc=some r):
 Calls prog 78 [.agg (Fh.enc Dc).toArray].toArray w (Ret w [] λ_ v _=>v=sV r):=by
 unfold BX at h;refine Fe2 h func78 rfl ntmps78 rfl ?_;exact Au
instance:FnT prog 78 vs (type_of% TH):=⟨call78,TH⟩
theorem LS(w:World)(Cg:Nat)(Cn:Ge)(Cr:R32)(Cy:Lb (view w []) Cn Cr)(Bx:Gf)(Cm:Value)(Di:List An)(Ej:Slc (view w []) 11 Cm (Di.map An.enc))(Cv:Int)(Dp:(view w []) Cg=some (.cells (R32.enc Cr++[iV Bx.Low,iV Bx.High,iV Bx.Least,iV Bx.Circles,Cm,iV Cv]).toArray 61 (0,0)))(Bb:ByteArray)(hg_pow10:DJ (view w []) 1 Mn)(r:(List ByteArray)×Int)(h:EZ Cn Bx Di Cv Bb=some r):
 Calls prog 75 [bW Cg,sV Bb].toArray w (Ret w [] λτ v _=>∃u1:Value,v= .tuple #[u1,iV r.2]/\Kr τ 9 1 u1 r.1.length (r.1.flatMap Io)):=by
 have zr0:ED 6 [] [] [8] []:=⟨⟩;obtain⟨u1,u2,rfl,hs1,⟨u3,rfl,hs2⟩⟩:=Cy;unfold EZ at h;refine Fe2 h func75 rfl ntmps75 rfl ?_;refine Ov 1 Qt.eq_1 Qt.eq_2 [(9,1)] [7,28,29] [] (λi1 (x1:List ByteArray) d p L K a w=>∃v3,d p (rO 0 (λ_=>.own v3 9 1 x1.length (x1.flatMap Io)) L) ((30,iV i1)::(8,v3)::K) a w) (fun(x1:List ByteArray) d p L K a w=>∃v3,d p (rO 0 (λ_=>.own v3 9 1 x1.length (x1.flatMap Io)) L) ((8,v3)::K) a w) ?_ ?_
 ·exact Au
 exact Au
instance:FnT prog 75 vs (type_of% LS):=⟨call75,LS⟩
theorem RE(w:World)(Aa:Nat)(Bl:Ge)(Bg:R32)(Bk:Lb (view w []) Bl Bg)(Aq:Value)(Ax:List An)(Br:Slc (view w []) 11 Aq (Ax.map An.enc))(Ak:(view w []) Aa=some (.cells (R32.enc Bg++[Aq]).toArray 212 (0,0)))(Bb:ByteArray)(r:(List Fi))(h:BY Bl Ax Bb=some r):
 Calls prog 90 [bW Aa,sV Bb].toArray w (Ret w [] λτ v _=>Kr τ 97 2 v r.length (r.flatMap Fi.enc)):=by
 obtain⟨u1,u2,rfl,hs1,⟨u3,rfl,hs2⟩⟩:=Bk;unfold BY at h;refine Fe2 h func90 rfl ntmps90 rfl ?_;refine Ov 0 Xd.eq_1 Xd.eq_2 [(97,2)] [10,11] [] (λi1 (x1:List Fi) d p L K a w=>∃v2,d p (rO 0 (λ_=>.own v2 97 2 x1.length (x1.flatMap Fi.enc)) L) ((12,iV i1)::(5,v2)::K) a w) (fun(x1:List Fi) d p L K a w=>∃v2,d p (rO 0 (λ_=>.own v2 97 2 x1.length (x1.flatMap Fi.enc)) L) ((5,v2)::K) a w) ?_ ?_
 ·exact Au
 exact Au
instance:FnT prog 90 vs (type_of% RE):=⟨call90,RE⟩
theorem LT(w:World)(Ae:Gf)(Ad:Value)(Ai:List Fi)(As:Slc (view w []) 2 Ad (Ai.map Fi.enc))(r:Int)(h:FA Ae Ai=some r):
 Calls prog 165 [.agg (Gf.enc Ae).toArray,Ad].toArray w (Ret w [] λ_ v _=>v=iV r):=by
 unfold FA at h;refine Fe2 h func165 rfl ntmps165 rfl ?_;exact Au
instance:FnT prog 165 vs (type_of% LT):=⟨call165,LT⟩
theorem MG(w:World)(Ae:Gf)(Cd:Int)(r:(List Int)×Int)(h:JT Ae Cd=some r):
 Calls prog 228 [.agg (Gf.enc Ae).toArray,iV Cd].toArray w (Ret w [] λτ v _=>∃u1:Value,v= .tuple #[u1,iV r.2]/\Kr τ 3 1 u1 r.1.length (r.1.flatMap eInt)):=by
 unfold JT at h;refine Fe2 h func228 rfl ntmps228 rfl ?_;refine Xk 0 Wo.eq_1 Wo.eq_2 [(3,1)] [1,2,6,7,25] [] (fun(x1:List Int) x2 d p L K a w=>∃v1,d p (rO 0 (λ_=>.own v1 3 1 x1.length (x1.flatMap eInt)) L) ((8,v1)::(26,iV x2)::K) a w) (fun(x1:List Int) d p L K a w=>∃v1,d p (rO 0 (λ_=>.own v1 3 1 x1.length (x1.flatMap eInt)) L) ((8,v1)::K) a w) ?_ ?_
 ·refine J [_] 0 [] [1,2,6,7,25,26] [] (fun(x3:List Int) d p L K a w=>∃v2,d p (rO 0 (λ_=>.own v2 3 1 x3.length (x3.flatMap eInt)) L) ((8,v2)::K) a w) ?_ ?_
  ·refine J [_] 1 [] [1,2,6,7,25,26] [] (fun(x4:List Int) d p L K a w=>∃v3,d p (rO 0 (λ_=>.own v3 3 1 x4.length (x4.flatMap eInt)) L) ((8,v3)::K) a w) ?_ ?_
   ·exact Au
   exact Au
  exact Au
 refine J [_] 1 [] [8] [true,false] (fun(x5:List Int) d p L K=>d p (rO 0 (λv1=>.own v1 3 1 x5.length (x5.flatMap eInt)) L) K) ?_ ?_
 ·exact Au
 exact Au
instance:FnT prog 228 vs (type_of% MG):=⟨call228,MG⟩
theorem HQ(w:World)(Af:Value)(Am:List Fi)(Bn:Slc (view w []) 2 Af (Am.map Fi.enc))(r:(List Fi))(h:Vi Am=some r):
 Calls prog 200 [Af].toArray w (Ret w [] λτ v _=>Kr τ 97 2 v r.length (r.flatMap Fi.enc)):=by
 refine Fe func200 rfl ntmps200 rfl λa S=>?_;unfold Vi at h;replace S:=S.k1 0 rfl;refine Fr (Sg 7 S ?_);refine λa S=>lw S (Ahi underlying93 (Ku Bn) (S.tm rfl) rfl) λa S=>Dl (ZN (S.tm rfl) (λhb1=>?_) (λhb1=>?_))
 ·have hx1:=Ahh Bn hb1;subst hx1;replace h:some ([]:List Fi)=some r:=h;refine Fr (Vk S rfl rfl λa S=>Dl (Tl (Vo ?_)));obtain rfl:=BT h;exact BQ S results200 rfl (HE _ _ _)
 ·refine Mf (Tn (Fr (SW S underlying93 sizeOf97 rfl λa w1 b1 hz1 hk1 S=>Vm S rfl rfl ?_)));clear S;intro a S;replace S:=S.litOwn (i:=0) (xs:=([]:List Fi)) rfl Fi.enc_ok rfl rfl rfl;replace S:=S.nk [.own (.slice (some ⟨b1,0,none⟩) 0 0) 97 2 (([]:List Fi):List Fi).length ((([]:List Fi):List Fi).flatMap Fi.enc)] [(0,Af),(2,.slice none 0 0),(3,Af),(4,bV (nilB Af)),(5,(.slice (some ⟨b1,0,none⟩) 0 0)),(6,Af)] [] rfl (subR rfl);obtain⟨hc1,h⟩:=On h;refine RZ (Y:=[]) NB Fi.enc_ok S (S.tm rfl) (i:=0) rfl (S.tm rfl) (Bn.mono (S.le_arg (λ_ h=>by cases h))) rfl rfl (by have:=CL hc1;omega) rfl ?_;clear S;intro v1 a w2 hk2 S;refine Va S rfl rfl λa S=>Dl (Tl ?_);obtain rfl:=BT h;exact BQ S results200 rfl (Ot S (i:=0) rfl rfl)
instance:FnT prog 200 vs (type_of% HQ):=⟨call200,HQ⟩
theorem HR(w:World)(Az:Int)(Ba:Int)(r:Int)(h:Yh Az Ba=r):
 Calls prog 266 [iV Az,iV Ba].toArray w (Ret w [] λ_ v _=>v=iV r):=by
 unfold Yh at h;refine Fe2 h func266 rfl ntmps266 rfl ?_;exact Au
instance:FnT prog 266 vs (type_of% HR):=⟨call266,HR⟩
theorem AL(w:World)(Az:Fi)(Ba:Fi)(r:Int)(h:Tj Az Ba=r):
 Calls prog 265 [.agg (Fi.enc Az).toArray,.agg (Fi.enc Ba).toArray].toArray w (Ret w [] λ_ v _=>v=iV r):=by
 unfold Tj at h;refine Fe2 h func265 rfl ntmps265 rfl ?_;exact Au
instance:FnT prog 265 vs (type_of% AL):=⟨call265,AL⟩
theorem Vn(pc:Fi->Fi->Int)(gf:Nat)(eg:∀args w,(callFunc gf args).run prog w= .ok (.enter gf args) w)(hpc:∀(w:World) (Az Ba:Fi) (r:Int),pc Az Ba=r->Calls prog gf [.agg (Fi.enc Az).toArray,.agg (Fi.enc Ba).toArray].toArray w (Ret w [] λ_ v _=>v=iV r))(w:World)(Ac:Value)(Ah:List Fi)(Bd:(LEnt.own Ac 97 2 Ah.length (Ah.flatMap Fi.enc)).holds w)(Az:Int)(Ba:Int)(r:(List Fi))(h:Hk pc Ah Az Ba=some r):
 Calls prog 298 [Ac,iV Az,iV Ba,.func (.func gf) #[] #[]].toArray w (Ret w (Ac.ownBlock.toList) λ_ v w'=>(LEnt.own Ac 97 2 r.length (r.flatMap Fi.enc)).holds w'/\v= .tuple #[]):=by
 have zr0:ED 6 [15,17] [] [] []:=⟨⟩;unfold Hk at h;refine Ka (Ac.ownBlock.toList) [.own Ac 97 2 Ah.length (Ah.flatMap Fi.enc)] func298 rfl ntmps298 rfl (λe he=>by simp only[bA] at he;subst he;exact Bd) (Jj _) (Le _) λa S=>?_
 revert h S
 refine Xk 0 Ij.eq_1 Ij.eq_2 [] [0,1,2,3] [] (fun(x1:List Fi) x2 d p L K=>d p (rO 0 (λ_=>.own Ac 97 2 x1.length (x1.flatMap Fi.enc)) L) ((8,iV x2)::K)) (fun(x1:List Fi) d p L K=>d p (rO 0 (λ_=>.own Ac 97 2 x1.length (x1.flatMap Fi.enc)) L) K) ?_ ?_
 ·refine Xk 1 Hn.eq_1 Hn.eq_2 [] [0,1,2,3,8] [] (fun(x3:List Fi) x4 d p L K=>d p (rO 0 (λ_=>.own Ac 97 2 x3.length (x3.flatMap Fi.enc)) L) ((9,iV x4)::K)) (fun(x3:List Fi) d p L K=>d p (rO 0 (λ_=>.own Ac 97 2 x3.length (x3.flatMap Fi.enc)) L) K) ?_ ?_
  ·refine J [_] 0 [] [0,1,2,3,8,9] [] (λx5 d p L K=>d p L ((34,bV x5)::K)) ?_ ?_
   ·exact Au
   exact Au
  exact Au
 exact Au
instance:FnT prog 298 vs (type_of% Vn):=⟨call298,Vn⟩
theorem EE(pc:Fi->Fi->Int)(gf:Nat)(eg:∀args w,(callFunc gf args).run prog w= .ok (.enter gf args) w)(hpc:∀(w:World) (Az Ba:Fi) (r:Int),pc Az Ba=r->Calls prog gf [.agg (Fi.enc Az).toArray,.agg (Fi.enc Ba).toArray].toArray w (Ret w [] λ_ v _=>v=iV r))(self:(List Fi)->Int->Int->Int->Option (List Fi))(hself:∀(w:World) (Ac:Value) (Ah:List Fi) (_:(LEnt.own Ac 97 2 Ah.length (Ah.flatMap Fi.enc)).holds w) (Az:Int) (Dg:Int) (Ba:Int) (r:(List Fi)) (_:self Ah Az Dg Ba=some r),
 Calls prog 299 [Ac,iV Az,iV Dg,iV Ba,.func (.func gf) #[] #[]].toArray w (Ret w (Ac.ownBlock.toList) λ_ v w'=>(LEnt.own Ac 97 2 r.length (r.flatMap Fi.enc)).holds w'/\v= .tuple #[]))(w:World)(Ac:Value)(Ah:List Fi)(Bd:(LEnt.own Ac 97 2 Ah.length (Ah.flatMap Fi.enc)).holds w)(Az:Int)(Dg:Int)(Ba:Int)(r:(List Fi))(h:Pb pc self Ah Az Dg Ba=some r):
 Calls prog 299 [Ac,iV Az,iV Dg,iV Ba,.func (.func gf) #[] #[]].toArray w (Ret w (Ac.ownBlock.toList) λ_ v w'=>(LEnt.own Ac 97 2 r.length (r.flatMap Fi.enc)).holds w'/\v= .tuple #[]):=by
 have zr0:ED 11 [15,17] [] [] []:=⟨⟩;have zr1:ED 23 [15,17] [] [] []:=⟨⟩;have egs:VH prog 299:=call299;unfold Pb at h;refine Ka (Ac.ownBlock.toList) [.own Ac 97 2 Ah.length (Ah.flatMap Fi.enc)] func299 rfl ntmps299 rfl (λe he=>by simp only[bA] at he;subst he;exact Bd) (Jj _) (Le _) λa S=>?_
 revert h S
 refine Fk 28 ?_ ?_
 ·refine Xk 0 Kk.eq_1 Kk.eq_2 [] [0,1,4] [] (λx1 x2 d p L K=>d p L ((10,iV x1)::(11,iV x2)::K)) (λx1 d p L K=>d p L ((10,iV x1)::K)) ?_ ?_
  ·refine J [_,_] 0 [] [0,1,4] [] (λx3 x4 d p L K=>d p L ((10,iV x3)::(11,iV x4)::K)) ?_ ?_
   ·refine J [_,_] 2 [] [0,1,4] [] (λx5 x6 d p L K=>d p L ((10,iV x5)::(11,iV x6)::K)) ?_ ?_
    ·exact Au
    exact Au
   exact Au
  refine Xk 0 Mi.eq_1 Mi.eq_2 [] [0,10] [] (fun(x7:List Fi) x8 d p L K=>d p (rO 0 (λ_=>.own Ac 97 2 x7.length (x7.flatMap Fi.enc)) L) ((13,iV x8)::K)) (fun(x7:List Fi) d p L K=>d p (rO 0 (λ_=>.own Ac 97 2 x7.length (x7.flatMap Fi.enc)) L) K) ?_ ?_
  ·exact Au
  exact Au
 refine Fk 80 ?_ ?_
 ·refine Xk 0 Kl.eq_1 Kl.eq_2 [] [0,2,4] [] (λx9 x10 d p L K=>d p L ((14,iV x9)::(15,iV x10)::K)) (λx9 d p L K=>d p L ((14,iV x9)::K)) ?_ ?_
  ·refine J [_,_] 0 [] [0,2,4] [] (λx11 x12 d p L K=>d p L ((14,iV x11)::(15,iV x12)::K)) ?_ ?_
   ·refine J [_,_] 2 [] [0,2,4] [] (λx13 x14 d p L K=>d p L ((14,iV x13)::(15,iV x14)::K)) ?_ ?_
    ·exact Au
    exact Au
   exact Au
  refine Xk 0 Mj.eq_1 Mj.eq_2 [] [0,14] [] (fun(x15:List Fi) x16 d p L K=>d p (rO 0 (λ_=>.own Ac 97 2 x15.length (x15.flatMap Fi.enc)) L) ((17,iV x16)::K)) (fun(x15:List Fi) d p L K=>d p (rO 0 (λ_=>.own Ac 97 2 x15.length (x15.flatMap Fi.enc)) L) K) ?_ ?_
  ·exact Au
  exact Au
 refine J [_,_] 0 [] [0,1,2,3,4,18,19] [] (λx17 x18 d p L K=>d p L ((20,iV x17)::(21,iV x18)::K)) ?_ ?_
 ·exact Au
 refine Xk 0 Km.eq_1 Km.eq_2 [] [0,1,2,3,4,18,19,22] [] (λx19 x20 d p L K=>d p L ((20,iV x19)::(21,iV x20)::K)) (λx19 d p L K=>d p L ((20,iV x19)::K)) ?_ ?_
 ·refine J [_,_] 0 [] [0,1,2,3,4,18,19,22] [] (λx21 x22 d p L K=>d p L ((20,iV x21)::(21,iV x22)::K)) ?_ ?_
  ·refine J [_,_] 2 [] [0,1,2,3,4,18,19,22] [] (λx23 x24 d p L K=>d p L ((20,iV x23)::(21,iV x24)::K)) ?_ ?_
   ·exact Au
   exact Au
  exact Au
 refine J [_] 0 [] [0,3,4,18,24] [] (fun(x25:List Fi) d p L K=>d p (rO 0 (λ_=>.own Ac 97 2 x25.length (x25.flatMap Fi.enc)) L) K) ?_ ?_
 ·exact Au
 refine J [_] 0 [] [] [] (fun(x26:List Fi) d p L K=>d p (rO 0 (λ_=>.own Ac 97 2 x26.length (x26.flatMap Fi.enc)) L) K) ?_ ?_
 ·exact Au
 exact Au
theorem Yr(pc:Fi->Fi->Int)(gf:Nat)(eg:∀args w,(callFunc gf args).run prog w= .ok (.enter gf args) w)(hpc:∀(w:World) (Az Ba:Fi) (r:Int),pc Az Ba=r->Calls prog gf [.agg (Fi.enc Az).toArray,.agg (Fi.enc Ba).toArray].toArray w (Ret w [] λ_ v _=>v=iV r))(m:Nat):∀(w:World) (Ac:Value) (Ah:List Fi) (_:(LEnt.own Ac 97 2 Ah.length (Ah.flatMap Fi.enc)).holds w) (Az:Int) (Dg:Int) (Ba:Int) (r:(List Fi)) (_:Iu pc m Ah Az Dg Ba=some r),
 Calls prog 299 [Ac,iV Az,iV Dg,iV Ba,.func (.func gf) #[] #[]].toArray w (Ret w (Ac.ownBlock.toList) λ_ v w'=>(LEnt.own Ac 97 2 r.length (r.flatMap Fi.enc)).holds w'/\v= .tuple #[]):=by
 induction m with
 |zero=>intros;rename_i h;rw[Iu] at h;cases h
 |succ m ih=>exact λw Ac Ah Bd Az Dg Ba r h=>EE pc gf eg hpc (Iu pc m) ih w Ac Ah Bd Az Dg Ba r h
instance:FnT prog 299 vs (type_of% (λpc gf eg hpc=>Yr pc gf eg hpc 16)):=⟨call299,(λpc gf eg hpc=>Yr pc gf eg hpc 16)⟩
theorem Zt(pc:Fi->Fi->Int)(gf:Nat)(eg:∀args w,(callFunc gf args).run prog w= .ok (.enter gf args) w)(hpc:∀(w:World) (Az Ba:Fi) (r:Int),pc Az Ba=r->Calls prog gf [.agg (Fi.enc Az).toArray,.agg (Fi.enc Ba).toArray].toArray w (Ret w [] λ_ v _=>v=iV r))(w:World)(Ac:Value)(Ah:List Fi)(Bd:(LEnt.own Ac 97 2 Ah.length (Ah.flatMap Fi.enc)).holds w)(Bi:Int)(r:(List Fi))(h:Ou pc Ah Bi=some r):
 Calls prog 249 [Ac,iV Bi,.func (.func gf) #[] #[]].toArray w (Ret w (Ac.ownBlock.toList) λ_ v w'=>(LEnt.own Ac 97 2 r.length (r.flatMap Fi.enc)).holds w'/\v= .tuple #[]):=by
 unfold Ou at h;refine Ka (Ac.ownBlock.toList) [.own Ac 97 2 Ah.length (Ah.flatMap Fi.enc)] func249 rfl ntmps249 rfl (λe he=>by simp only[bA] at he;subst he;exact Bd) (Jj _) (Le _) λa S=>?_
 revert h S
 refine Aam 0 Jy.eq_1 Jy.eq_2 [] [0,1,2,6] [] (fun(x1:List Fi) x2 x3 d p L K=>d p (rO 0 (λ_=>.own Ac 97 2 x1.length (x1.flatMap Fi.enc)) L) ((7,iV x2)::(8,iV x3)::K)) (fun(x1:List Fi) x2 d p L K=>d p (rO 0 (λ_=>.own Ac 97 2 x1.length (x1.flatMap Fi.enc)) L) ((7,iV x2)::K)) ?_ ?_
 ·exact Au
 refine Xk 0 Hr.eq_1 Hr.eq_2 [] [0,1,2] [] (fun(x4:List Fi) x5 d p L K=>d p (rO 0 (λ_=>.own Ac 97 2 x4.length (x4.flatMap Fi.enc)) L) ((6,iV x5)::K)) (fun(x4:List Fi) d p L K=>d p (rO 0 (λ_=>.own Ac 97 2 x4.length (x4.flatMap Fi.enc)) L) K) ?_ ?_
 ·refine Aam 1 Lh.eq_1 Lh.eq_2 [] [0,1,2,6] [] (fun(x6:List Fi) x7 x8 d p L K=>d p (rO 0 (λ_=>.own Ac 97 2 x6.length (x6.flatMap Fi.enc)) L) ((7,iV x7)::(8,iV x8)::K)) (fun(x6:List Fi) x7 d p L K=>d p (rO 0 (λ_=>.own Ac 97 2 x6.length (x6.flatMap Fi.enc)) L) ((7,iV x7)::K)) ?_ ?_
  ·exact Au
  refine J [_] 0 [] [0,1,2,6] [] (fun(x9:List Fi) d p L K=>d p (rO 0 (λ_=>.own Ac 97 2 x9.length (x9.flatMap Fi.enc)) L) K) ?_ ?_
  ·exact Au
  exact Au
 exact Au
instance:FnT prog 249 vs (type_of% Zt):=⟨call249,Zt⟩
theorem Yw(pc:Fi->Fi->Int)(gf:Nat)(eg:∀args w,(callFunc gf args).run prog w= .ok (.enter gf args) w)(hpc:∀(w:World) (Az Ba:Fi) (r:Int),pc Az Ba=r->Calls prog gf [.agg (Fi.enc Az).toArray,.agg (Fi.enc Ba).toArray].toArray w (Ret w [] λ_ v _=>v=iV r))(w:World)(Ao:Value)(Ap:List Fi)(Bo:(LEnt.own Ao 97 2 Ap.length (Ap.flatMap Fi.enc)).holds w)(r:(List Fi))(h:Ie pc Ap=some r):
 Calls prog 201 [Ao,.func (.func gf) #[] #[]].toArray w (Ret w (Ao.ownBlock.toList) λ_ v w'=>(LEnt.own Ao 97 2 r.length (r.flatMap Fi.enc)).holds w'/\v= .tuple #[]):=by
 unfold Ie at h;refine Ka (Ao.ownBlock.toList) [.own Ao 97 2 Ap.length (Ap.flatMap Fi.enc)] func201 rfl ntmps201 rfl (λe he=>by simp only[bA] at he;subst he;exact Bo) (Jj _) (Le _) λa S=>?_
 revert h S
 exact Au
instance:FnT prog 201 vs (type_of% Yw):=⟨call201,Yw⟩
theorem ID(w:World)(Ad:Value)(Ai:List Fi)(As:Slc (view w []) 2 Ad (Ai.map Fi.enc))(r:(List Fi))(h:CQ Ai=some r):
 Calls prog 229 [Ad].toArray w (Ret w [] λτ v _=>Kr τ 97 2 v r.length (r.flatMap Fi.enc)):=by
 have zt200:Take 200:=⟨⟩;unfold CQ at h;refine Fe2 h func229 rfl ntmps229 rfl ?_;exact Au
instance:FnT prog 229 vs (type_of% ID):=⟨call229,ID⟩
theorem FJ(w:World)(Aw:Int)(Dt:Int)(El:Int)(r:Int)(h:Yi Aw Dt El=r):
 Calls prog 230 [iV Aw,iV Dt,iV El].toArray w (Ret w [] λ_ v _=>v=iV r):=by
 unfold Yi at h;refine Fe2 h func230 rfl ntmps230 rfl ?_;exact Au
instance:FnT prog 230 vs (type_of% FJ):=⟨call230,FJ⟩
theorem PS(w:World)(Ae:Gf)(r:(List Int))(h:Yj Ae=some r):
 Calls prog 267 [.agg (Gf.enc Ae).toArray].toArray w (Ret w [] λτ v _=>Kr τ 3 1 v r.length (r.flatMap eInt)):=by
 unfold Yj at h;refine Fe2 h func267 rfl ntmps267 rfl ?_;refine Xk 0 Tk.eq_1 Tk.eq_2 [] [1,3] [] (fun(x1:List Int) x2 d p L K a w=>∃v1,d p (rO 0 (λ_=>.own v1 3 1 x1.length (x1.flatMap eInt)) L) ((4,v1)::(5,iV x2)::K) a w) (fun(x1:List Int) d p L K a w=>∃v1,d p (rO 0 (λ_=>.own v1 3 1 x1.length (x1.flatMap eInt)) L) ((4,v1)::K) a w) ?_ ?_
 ·refine J [_] 0 [] [1,3,5] [] (fun(x3:List Int) d p L K a w=>∃v2,d p (rO 0 (λ_=>.own v2 3 1 x3.length (x3.flatMap eInt)) L) ((4,v2)::K) a w) ?_ ?_
  ·refine J [_] 1 [] [1,3,5] [] (fun(x4:List Int) d p L K a w=>∃v3,d p (rO 0 (λ_=>.own v3 3 1 x4.length (x4.flatMap eInt)) L) ((4,v3)::K) a w) ?_ ?_
   ·exact Au
   refine J [_] 0 [] [1,3,5] [] (fun(x5:List Int) d p L K a w=>∃v5,d p (rO 0 (λ_=>.own v5 3 1 x5.length (x5.flatMap eInt)) L) ((4,v5)::K) a w) ?_ ?_
   ·exact Au
   exact Au
  exact Au
 exact Au
instance:FnT prog 267 vs (type_of% PS):=⟨call267,PS⟩
end Go.Proofs.YthlielagemkjcaaGreatDoor
