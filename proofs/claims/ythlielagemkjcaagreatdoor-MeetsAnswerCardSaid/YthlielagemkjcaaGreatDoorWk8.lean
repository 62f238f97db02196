/- Each Go function computes its plain twin,by program. -/
import Derived.Test.YthlielagemkjcaaGreatDoorWk7
namespace Go.Proofs.YthlielagemkjcaaGreatDoor
open Go
open Go.Proofs.Tryz
set_option maxHeartbeats 4000000
set_option maxRecDepth 100000
variable {vs:List Go.Value}
set_option maxHeartbeats 8000000 in
theorem EL(w:World)(Ad:Value)(Ai:List Fd)(As:Slc (view w []) 5 Ad (Ai.map Fd.enc))(r:Int)(h:Kf Ai=some r):
 Calls prog 136 [Ad].toArray w (Ret w [] λ_ v _=>v=iV r):=by
 have zf160:Frz 160:=⟨⟩;unfold Kf at h;refine Fe2 h func136 rfl ntmps136 rfl ?_;refine Yv 0 Gc.eq_1 Gc.eq_2 [] [0,20,21] [] (λi1 d p L K=>d p L ((22,iV i1)::K)) (λd p L K=>d p L K) ?_ ?_
 ·refine J [_] 2 [] [0,20,21,22] [false] (λx1 d p L K=>d p L ((54,bV x1)::K)) ?_ ?_
  ·exact Au
  exact Au
 refine Lr4_4 0 Lz.eq_1 Lz.eq_2 [] [0,68,69] [] (λi2 x2 x3 x4 x5 d p L K=>d p L ((70,iV i2)::(5,bV x2)::(6,bV x3)::(7,bV x4)::(8,bV x5)::K)) (λx2 x3 x4 x5 d p L K=>d p L ((5,bV x2)::(6,bV x3)::(7,bV x4)::(8,bV x5)::K)) ?_ ?_
 ·refine Lr4_4 1 Ly.eq_1 Ly.eq_2 [] [0,7,8,9,10,68,69,70,75,76] [] (λi3 x6 x7 x8 x9 d p L K=>d p L ((77,iV i3)::(5,bV x6)::(6,bV x7)::(11,iV x8)::(12,iV x9)::K)) (λx6 x7 x8 x9 d p L K=>d p L ((5,bV x6)::(6,bV x7)::(11,iV x8)::(12,iV x9)::K)) ?_ ?_
  ·refine J [_,_,_,_] 0 [] [0,7,8,9,10,68,69,70,75,76,77] [] (λx10 x11 x12 x13 d p L K=>d p L ((5,bV x10)::(6,bV x11)::(11,iV x12)::(12,iV x13)::K)) ?_ ?_
   ·refine J [_] 1 [] [0,5,6,7,8,9,10,12,14,68,69,70,75,76,77] [] (λx14 d p L K=>d p L ((11,iV x14)::K)) ?_ ?_
    ·exact Au
    refine J [_] 0 [] [0,5,6,7,8,9,10,11,68,69,70,75,76,77] [false,true] (λx15 d p L K=>d p L ((12,iV x15)::K)) ?_ ?_
    ·exact Au
    exact Au
   exact Au
  exact Au
 refine Yv 0 Oz.eq_1 Oz.eq_2 [] [160,161] [] (λi4 d p L K=>d p L ((162,iV i4)::K)) (λd p L K=>d p L K) ?_ ?_
 ·exact Au
 exact Au
instance:FnT prog 136 vs (type_of% EL):=⟨call136,EL⟩
theorem IN(w:World)(Am:Fd)(r:Bool)(h:Gg Am=r):
 Calls prog 137 [.agg (Fd.enc Am).toArray].toArray w (Ret w [] λ_ v _=>v=bV r):=by
 unfold Gg at h;refine Fe2 h func137 rfl ntmps137 rfl ?_;exact Au
instance:FnT prog 137 vs (type_of% IN):=⟨call137,IN⟩
theorem FP(w:World)(Af:Value)(Am:List Fd)(Bn:Slc (view w []) 5 Af (Am.map Fd.enc))(Ck:Fd)(r:Int)(h:Za Am Ck=r):
 Calls prog 247 [Af,.agg (Fd.enc Ck).toArray].toArray w (Ret w [] λ_ v _=>v=iV r):=by
 unfold Za at h;refine Fe2 h func247 rfl ntmps247 rfl ?_;refine Yv 0 Nn.eq_1 Nn.eq_2 [] [0,3,7] [] (λi1 d p L K=>d p L ((8,iV i1)::K)) (λd p L K=>d p L K) ?_ ?_
 ·exact Au
 exact Au
instance:FnT prog 247 vs (type_of% FP):=⟨call247,FP⟩
theorem DE(w:World)(Af:Value)(Am:List Fd)(Bn:Slc (view w []) 5 Af (Am.map Fd.enc))(Ck:Fd)(r:Bool)(h:Qe Am Ck=r):
 Calls prog 193 [Af,.agg (Fd.enc Ck).toArray].toArray w (Ret w [] λ_ v _=>v=bV r):=by
 unfold Qe at h;refine Fe2 h func193 rfl ntmps193 rfl ?_;exact Au
instance:FnT prog 193 vs (type_of% DE):=⟨call193,DE⟩
theorem KO(w:World)(Em:Int)(Eo:Int)(r:Fh)(h:Pw Em Eo=some r):
 Calls prog 194 [iV Em,iV Eo].toArray w (Ret w [] λ_ v _=>v= .agg (Fh.enc r).toArray):=by
 have zr0:ED 6 [] [4] [] []:=⟨⟩;unfold Pw at h;refine Fe2 h func194 rfl ntmps194 rfl ?_;refine Xk 0 Ui.eq_1 Ui.eq_2 [] [0,1,4] [] (λx1 x2 d p L K=>d p L ((5,iV x1)::(6,iV x2)::K)) (λx1 d p L K=>d p L ((5,iV x1)::K)) ?_ ?_
 ·exact Au
 refine J [_] 0 [] [0,1,4] [] (λx3 d p L K=>d p L ((5,iV x3)::K)) ?_ ?_
 ·exact Au
 exact Au
instance:FnT prog 194 vs (type_of% KO):=⟨call194,KO⟩
theorem IP(w:World)(Cj:Il)(Bt:R28)(Cb:Xs (view w []) Cj Bt)(Ad:Value)(Ai:List Fd)(As:Slc (view w []) 5 Ad (Ai.map Fd.enc))(Ap:Fd)(r:Fh)(h:Mz Cj Ai Ap=some r):
 Calls prog 138 [.agg (R28.enc Bt).toArray,Ad,.agg (Fd.enc Ap).toArray].toArray w (Ret w [] λ_ v _=>v= .agg (Fh.enc r).toArray):=by
 obtain⟨u1,rfl,hs1⟩:=Cb;unfold Mz at h;refine Fe2 h func138 rfl ntmps138 rfl ?_;refine XV 0 Gx.eq_1 Gx.eq_2 [(181,5)] [3,5,6,8,16,17] [] (λi1 (x1:List (ByteArray×Int)) (x2:List Fd) d p L K a w=>∃v1,d p (rM 1 (λb4=>.map b4 (Ht Value.string (Value.int .i64) x1) x1.length) (rO 0 (λ_=>.own v1 181 5 x2.length (x2.flatMap Fd.enc)) L)) ((18,iV i1)::(7,v1)::K) a w) (fun(x1:List (ByteArray×Int)) (x2:List Fd) d p L K a w=>∃v1,d p (rM 1 (λb4=>.map b4 (Ht Value.string (Value.int .i64) x1) x1.length) (rO 0 (λ_=>.own v1 181 5 x2.length (x2.flatMap Fd.enc)) L)) ((7,v1)::K) a w) ?_ ?_
 ·refine J [_,_] 0 [] [3,5,6,8,16,17,18] [] (fun(x3:List (ByteArray×Int)) (x4:List Fd) d p L K a w=>∃v2,d p (rM 1 (λb4=>.map b4 (Ht Value.string (Value.int .i64) x3) x3.length) (rO 0 (λ_=>.own v2 181 5 x4.length (x4.flatMap Fd.enc)) L)) ((7,v2)::K) a w) ?_ ?_
  ·refine J [_] 1 [] [3,5,6,8,16,17,18] [false,true,true,true,true,true] (fun(x5:List Fd) d p L K a w=>∃v3,d p (rO 0 (λ_=>.own v3 181 5 x5.length (x5.flatMap Fd.enc)) L) ((7,v3)::K) a w) ?_ ?_
   ·exact Au
   exact Au
  exact Au
 refine XV 0 Oe.eq_1 Oe.eq_2 [] [3,5,6,64,65] [true,false,true,true,true] (λi2 x6 x7 d p L K=>d p L ((66,iV i2)::(11,iV x6)::(12,iV x7)::K)) (λx6 x7 d p L K=>d p L ((11,iV x6)::(12,iV x7)::K)) ?_ ?_
 ·refine J [_,_] 0 [] [3,5,6,64,65,66] [] (λx8 x9 d p L K=>d p L ((11,iV x8)::(12,iV x9)::K)) ?_ ?_
  ·refine J [_,_] 1 [] [3,5,6,64,65,66] [false,true,true,true,true] (λx10 x11 d p L K=>d p L ((11,iV x10)::(12,iV x11)::K)) ?_ ?_
   ·refine J [_] 0 [] [3,5,6,12,64,65,66] [false,true,true,true,true] (λx12 d p L K=>d p L ((11,iV x12)::K)) ?_ ?_
    ·exact Au
    exact Au
   exact Au
  exact Au
 refine J [_] 0 [] [6,12] [] (λx13 d p L K=>d p L ((11,iV x13)::K)) ?_ ?_
 ·exact Au
 exact Au
instance:FnT prog 138 vs (type_of% IP):=⟨call138,IP⟩
theorem GK(w:World)(Ae:Ge)(Av:R32)(Bc:Lb (view w []) Ae Av)(Ad:Value)(Ai:List An)(As:Slc (view w []) 11 Ad (Ai.map An.enc))(Bb:ByteArray)(Aw:Int)(r:(List Fo)×Int)(h:Lq Ae Ai Bb Aw=some r):
 Calls prog 98 [.agg (R32.enc Av).toArray,Ad,sV Bb,iV Aw].toArray w (Ret w [] λτ v _=>∃u1:Value,v= .tuple #[u1,iV r.2]/\Kr τ 155 7 u1 r.1.length (r.1.flatMap Fo.enc)):=by
 have zt135:Take 135:=⟨⟩;obtain⟨u1,u2,rfl,hs1,⟨u3,rfl,hs2⟩⟩:=Bc;unfold Lq at h;refine Fe2 h func98 rfl ntmps98 rfl ?_;refine Ov 0 Ok.eq_1 Ok.eq_2 [(181,5)] [2,4,10,11,31,32] [] (λi1 (x1:List Fd) d p L K a w=>∃v3,d p (rO 0 (λ_=>.own v3 181 5 x1.length (x1.flatMap Fd.enc)) L) ((33,iV i1)::(13,v3)::K) a w) (fun(x1:List Fd) d p L K a w=>∃v3,d p (rO 0 (λ_=>.own v3 181 5 x1.length (x1.flatMap Fd.enc)) L) ((13,v3)::K) a w) ?_ ?_
 ·exact Au
 refine Ov 0 Lv.eq_1 Lv.eq_2 [] [4,13,57,58] [true,false,true,true] (λi2 (x2:List Fo) d p L K a w=>∃v6,d p (rO 1 (λ_=>.own v6 155 7 x2.length (x2.flatMap Fo.enc)) L) ((59,iV i2)::(10,v6)::K) a w) (fun(x2:List Fo) d p L K a w=>∃v6,d p (rO 1 (λ_=>.own v6 155 7 x2.length (x2.flatMap Fo.enc)) L) ((10,v6)::K) a w) ?_ ?_
 ·refine J [_] 0 [] [4,10,13,57,58,59] [] (fun(x3:List Fo) d p L K=>d p (rO 1 (λv6=>.own v6 155 7 x3.length (x3.flatMap Fo.enc)) L) K) ?_ ?_
  ·refine J [_] 1 [] [4,10,13,57,58,59] [false,true,true,true] (fun(x4:List Fo) d p L K=>d p (rO 1 (λv6=>.own v6 155 7 x4.length (x4.flatMap Fo.enc)) L) K) ?_ ?_
   ·exact Au
   exact Au
  exact Au
 exact Au
instance:FnT prog 98 vs (type_of% GK):=⟨call98,GK⟩
theorem PY(w:World)(v_xs:Value)(xs:List ByteArray)(hs_xs:Slc (view w []) 1 v_xs (xs.map Io))(sep:ByteArray)(r:ByteArray)(h:FC xs sep=some r):Calls prog 109 [v_xs,sV sep].toArray w (Ret w [] λ_ v _=>v= .string r):=by
 unfold FC at h;obtain⟨hc,h⟩:=On h;simp only[bQ,aK] at hc;obtain rfl:=BT h;exact join_ret Tryz.lays156 Tryz.bx156 v_xs xs sep w hs_xs hc.1 hc.2
instance:FnT prog 109 vs (type_of% PY):=⟨call109,PY⟩
theorem IQ(w:World)(Ad:Value)(Ai:List Int)(As:Slc (view w []) 1 Ad (Ai.map eInt))(hg_pow10:DJ (view w []) 1 Mn)(r:ByteArray)(h:Ko Ai=some r):
 Calls prog 54 [Ad].toArray w (Ret w [] λ_ v _=>v=sV r):=by
 unfold Ko at h;refine Fe2 h func54 rfl ntmps54 rfl ?_;refine Ov 0 Tf.eq_1 Tf.eq_2 [(9,1)] [6,7] [] (λi1 (x1:List ByteArray) d p L K a w=>∃v1,d p (rO 0 (λ_=>.own v1 9 1 x1.length (x1.flatMap Io)) L) ((8,iV i1)::(3,v1)::K) a w) (fun(x1:List ByteArray) d p L K a w=>∃v1,d p (rO 0 (λ_=>.own v1 9 1 x1.length (x1.flatMap Io)) L) ((3,v1)::K) a w) ?_ ?_
 ·exact Au
 exact Au
instance:FnT prog 54 vs (type_of% IQ):=⟨call54,IQ⟩
theorem PZ(w:World)(Bi:Int)(hg_pow10:DJ (view w []) 1 Mn)(r:ByteArray)(h:AI Bi=some r):
 Calls prog 195 [iV Bi].toArray w (Ret w [] λ_ v _=>v=sV r):=by
 unfold AI at h;refine Fe2 h func195 rfl ntmps195 rfl ?_;exact Au
instance:FnT prog 195 vs (type_of% PZ):=⟨call195,PZ⟩
theorem IR(w:World)(Bi:Int)(hg_pow10:DJ (view w []) 1 Mn)(r:ByteArray)(h:CU Bi=some r):
 Calls prog 139 [iV Bi].toArray w (Ret w [] λ_ v _=>v=sV r):=by
 unfold CU at h;refine Fe2 h func139 rfl ntmps139 rfl ?_;refine J [_] 0 [] [] [] (fun(x1:ByteArray) d p L K=>d p L ((3,sV x1)::K)) ?_ ?_
 ·exact Au
 exact Au
instance:FnT prog 139 vs (type_of% IR):=⟨call139,IR⟩
theorem HW(w:World)(Bi:Int)(hg_pow10:DJ (view w []) 1 Mn)(r:ByteArray)(h:Qx Bi=some r):
 Calls prog 99 [iV Bi].toArray w (Ret w [] λ_ v _=>v=sV r):=by
 unfold Qx at h;refine Fe2 h func99 rfl ntmps99 rfl ?_;exact Au
instance:FnT prog 99 vs (type_of% HW):=⟨call99,HW⟩
theorem HX(w:World)(Dc:Fh)(hg_pow10:DJ (view w []) 1 Mn)(r:ByteArray)(h:Vj Dc=some r):
 Calls prog 100 [.agg (Fh.enc Dc).toArray].toArray w (Ret w [] λ_ v _=>v=sV r):=by
 unfold Vj at h;refine Fe2 h func100 rfl ntmps100 rfl ?_;refine J [_] 0 [] [] [false] (fun(x1:ByteArray) d p L K=>d p L ((2,sV x1)::K)) ?_ ?_
 ·exact Au
 exact Au
instance:FnT prog 100 vs (type_of% HX):=⟨call100,HX⟩
theorem GL(w:World)(Ad:Value)(Ai:List An)(As:Slc (view w []) 11 Ad (Ai.map An.enc))(Bb:ByteArray)(Aw:Int)(r:(List Fi))(h:Uj Ai Bb Aw=some r):
 Calls prog 102 [Ad,sV Bb,iV Aw].toArray w (Ret w [] λτ v _=>Kr τ 97 2 v r.length (r.flatMap Fi.enc)):=by
 unfold Uj at h;refine Fe2 h func102 rfl ntmps102 rfl ?_;refine Ov 0 Tq.eq_1 Tq.eq_2 [(97,2)] [13,14] [] (λi1 (x1:List Fi) d p L K a w=>∃v2,d p (rO 0 (λ_=>.own v2 97 2 x1.length (x1.flatMap Fi.enc)) L) ((15,iV i1)::(7,v2)::K) a w) (fun(x1:List Fi) d p L K a w=>∃v2,d p (rO 0 (λ_=>.own v2 97 2 x1.length (x1.flatMap Fi.enc)) L) ((7,v2)::K) a w) ?_ ?_
 ·exact Au
 exact Au
instance:FnT prog 102 vs (type_of% GL):=⟨call102,GL⟩
theorem IS(w:World)(Ae:Gf)(Cd:Int)(r:(List Int)×Int)(h:Zq Ae Cd=some r):
 Calls prog 140 [.agg (Gf.enc Ae).toArray,iV Cd].toArray w (Ret w [] λτ v _=>∃u1:Value,v= .tuple #[u1,iV r.2]/\Kr τ 3 1 u1 r.1.length (r.1.flatMap eInt)):=by
 unfold Zq at h;refine Fe2 h func140 rfl ntmps140 rfl ?_;refine Xk 0 Ms.eq_1 Ms.eq_2 [(3,1)] [2,6] [] (fun(x1:List Int) x2 d p L K a w=>∃v1,d p (rO 0 (λ_=>.own v1 3 1 x1.length (x1.flatMap eInt)) L) ((7,v1)::(8,iV x2)::K) a w) (fun(x1:List Int) d p L K a w=>∃v1,d p (rO 0 (λ_=>.own v1 3 1 x1.length (x1.flatMap eInt)) L) ((7,v1)::K) a w) ?_ ?_
 ·exact Au
 refine Lc1_1 0 Kx.eq_1 Kx.eq_2 [] [2] [] (fun(x3:List Int) d p L K a w=>∃v4,d p (rO 0 (λ_=>.own v4 3 1 x3.length (x3.flatMap eInt)) L) ((7,v4)::K) a w) (fun(x3:List Int) d p L K a w=>∃v4,d p (rO 0 (λ_=>.own v4 3 1 x3.length (x3.flatMap eInt)) L) ((7,v4)::K) a w) ?_ ?_
 ·exact Au
 exact Au
instance:FnT prog 140 vs (type_of% IS):=⟨call140,IS⟩
theorem Wk(w:World)(Az:Fi)(Ba:Fi)(r:Int)(h:Tg Az Ba=r):
 Calls prog 202 [.agg (Fi.enc Az).toArray,.agg (Fi.enc Ba).toArray].toArray w (Ret w [] λ_ v _=>v=iV r):=by
 unfold Tg at h;refine Fe2 h func202 rfl ntmps202 rfl ?_;exact Au
instance:FnT prog 202 vs (type_of% Wk):=⟨call202,Wk⟩
theorem IT(w:World)(Ad:Value)(Ai:List Fi)(As:Slc (view w []) 2 Ad (Ai.map Fi.enc))(r:(List ByteArray))(h:Zr Ai=some r):
 Calls prog 142 [Ad].toArray w (Ret w [] λτ v _=>Kr τ 9 1 v r.length (r.flatMap Io)):=by
 have zt200:Take 200:=⟨⟩;unfold Zr at h;refine Fe2 h func142 rfl ntmps142 rfl ?_;refine Ov 0 Wa.eq_1 Wa.eq_2 [(9,1)] [10,11] [] (λi1 (x1:List ByteArray) d p L K a w=>∃v3,d p (rO 0 (λ_=>.own v3 9 1 x1.length (x1.flatMap Io)) L) ((12,iV i1)::(3,v3)::K) a w) (fun(x1:List ByteArray) d p L K a w=>∃v3,d p (rO 0 (λ_=>.own v3 9 1 x1.length (x1.flatMap Io)) L) ((3,v3)::K) a w) ?_ ?_
 ·exact Au
 exact Au
instance:FnT prog 142 vs (type_of% IT):=⟨call142,IT⟩
theorem DM(w:World)(Ae:Gf)(r:(List Int))(h:Qf Ae=some r):
 Calls prog 197 [.agg (Gf.enc Ae).toArray].toArray w (Ret w [] λτ v _=>Kr τ 3 1 v r.length (r.flatMap eInt)):=by
 unfold Qf at h;refine Fe2 h func197 rfl ntmps197 rfl ?_;refine Lc3_1 1 Og.eq_1 Og.eq_2 [] [1] [] (fun(x1:List Int) x2 x3 d p L K a w=>∃v1,d p (rO 0 (λ_=>.own v1 3 1 x1.length (x1.flatMap eInt)) L) ((3,iV x2)::(4,iV x3)::(5,v1)::K) a w) (fun(x1:List Int) d p L K a w=>∃v1,d p (rO 0 (λ_=>.own v1 3 1 x1.length (x1.flatMap eInt)) L) ((5,v1)::K) a w) ?_ ?_
 ·refine J [_,_,_] 0 [] [1] [] (fun(x4:List Int) x5 x6 d p L K a w=>∃v2,d p (rO 0 (λ_=>.own v2 3 1 x4.length (x4.flatMap eInt)) L) ((3,iV x5)::(4,iV x6)::(5,v2)::K) a w) ?_ ?_
  ·refine J [_,_] 1 [] [1,3] [] (fun(x7:List Int) x8 d p L K a w=>∃v3,d p (rO 0 (λ_=>.own v3 3 1 x7.length (x7.flatMap eInt)) L) ((4,iV x8)::(5,v3)::K) a w) ?_ ?_
   ·exact Au
   refine J [_,_] 0 [] [1,4] [] (fun(x9:List Int) x10 d p L K a w=>∃v5,d p (rO 0 (λ_=>.own v5 3 1 x9.length (x9.flatMap eInt)) L) ((3,iV x10)::(5,v5)::K) a w) ?_ ?_
   ·exact Au
   exact Au
  exact Au
 exact Au
instance:FnT prog 197 vs (type_of% DM):=⟨call197,DM⟩
open Go.Sort in
theorem RK(x y:Ft)(W:World):Calls prog 199 #[.agg #[.string x.Who,.int .i64 x.Heat,.int .i64 x.Lane],.agg #[.string y.Who,.int .i64 y.Heat,.int .i64 y.Lane]] W λe w'=>e= .returned (.int .i64 (Zs x y))/\∃q os',w'=grow (W.drewN q) os':=by
 have hcon:=λa b W'=>AnyG.cmp_Compare_int Tryz.laysg115 a b W';change ∀a b W',Calls prog 115 _ _ _ at hcon;unfold Zs;rw[or2_is,SG,SG];generalize hR:(if Lib.compareInt x.Heat y.Heat=0 then Lib.compareInt x.Lane y.Lane else Lib.compareInt x.Heat y.Heat)=R;obtain⟨W2,hW⟩:∃W2,W2=(W.alloc (Obj.cells #[Value.string x.Who,Value.int IntKind.i64 x.Heat,Value.int IntKind.i64 x.Lane] 124)).alloc (Obj.cells #[Value.string y.Who,Value.int IntKind.i64 y.Heat,Value.int IntKind.i64 y.Lane] 124):=⟨_,rfl⟩;have k1:W2.cell? ⟨W.heap.size,1,none⟩=some (.int .i64 x.Heat):=by rw[hW];exact World.cell?_alloc2_first _ _ _ _
 have k2:W2.cell? ⟨W.heap.size+1,1,none⟩=some (.int .i64 y.Heat):=by rw[hW];exact World.cell?_alloc2_new _ _ _ _
 have k3:W2.cell? ⟨W.heap.size,2,none⟩=some (.int .i64 x.Lane):=by rw[hW];exact World.cell?_alloc2_first _ _ _ _
 have k4:W2.cell? ⟨W.heap.size+1,2,none⟩=some (.int .i64 y.Lane):=by rw[hW];exact World.cell?_alloc2_new _ _ _ _
 go_enter func199,ntmps199
 go_wp2
 change Code.wp _ _ _ _ ((W.alloc (Obj.cells #[Value.string x.Who,Value.int IntKind.i64 x.Heat,Value.int IntKind.i64 x.Lane] 124)).alloc (Obj.cells #[Value.string y.Who,Value.int IntKind.i64 y.Heat,Value.int IntKind.i64 y.Lane] 124));rw[←hW];have hg:∃os',W2=grow W os':=⟨_,by rw[hW,alloc_eq_grow,alloc_eq_grow,grow_grow]⟩;clear hW;have n1:=World.new_ne W2 _ k1;have n2:=World.new_ne W2 _ k2;have n3:=World.new_ne W2 _ k3;have n4:=World.new_ne W2 _ k4
 go_region_held3 (λw'=>w'.cell? ⟨W.heap.size,1,none⟩=some (.int .i64 x.Heat)/\w'.cell? ⟨W.heap.size+1,1,none⟩=some (.int .i64 y.Heat)/\w'.cell? ⟨W.heap.size,2,none⟩=some (.int .i64 x.Lane)/\w'.cell? ⟨W.heap.size+1,2,none⟩=some (.int .i64 y.Lane)) (first|go_keep|exact⟨HS _ _ k1,HS _ _ k2,HS _ _ k3,HS _ _ k4⟩)
  (first|(go_at_call 115;refine(hcon _ _ _).mono ?_;rintro e w' ⟨rfl,rfl⟩)|(go_at_call 114;refine(or2p W2 _ _ _).mono ?_;rw[hR];rintro e w' ⟨rfl,rfl⟩))
 obtain⟨os',rfl⟩:=hg
 go_wp2
 go_ret
 exact⟨rfl,1,_,(alloc_eq_grow (grow (W.drewN 1) os') _).trans (grow_grow _ _ _)⟩
theorem Nv(w:World)(Ao:Value)(Ap:List Ft)(Bo:(LEnt.own Ao 124 3 Ap.length (Ap.flatMap Ft.enc)).holds w)(r:(List Ft))(h:Ib Ap=some r):
 Calls prog 198 [Ao,.func (.func 199) #[] #[]].toArray w (Ret w (Ao.ownBlock.toList) λ_ v w'=>(LEnt.own Ao 124 3 r.length (r.flatMap Ft.enc)).holds w'/\v= .tuple #[]):=by
 unfold Ib at h
 split at h
 ·rename_i hc;obtain rfl:=bH h;exact NC (enc:=Ft.enc) Tryz.laysg198 isAgg124 sizeOf124 Ft.enc_ok (enters_of func199 aF rfl) RK hc.1 hc.2 Bo
 ·cases h
instance {v0:Go.Value}{c:Array Go.Value}:FnT prog 198 [v0,.func (.func 199) #[] c] (type_of% Nv):=⟨call198,Nv⟩
end Go.Proofs.YthlielagemkjcaaGreatDoor
