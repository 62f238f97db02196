/- Each Go function computes its plain twin,by program. -/
import Derived.Test.YthlielagemkjcaaGreatDoorWk5
namespace Go.Proofs.YthlielagemkjcaaGreatDoor
open Go
open Go.Proofs.Tryz
set_option maxHeartbeats 4000000
set_option maxRecDepth 100000
variable {vs:List Go.Value}
open Go.Sort Go.Shelf in
theorem TV(x y:Fx)(W:World):Calls prog 171 #[.agg #[.string x.Key,.int .i64 x.Points.Num,.int .i64 x.Points.Den],.agg #[.string y.Key,.int .i64 y.Points.Num,.int .i64 y.Points.Den]] W λe w'=>e= .returned (.int .i64 (BZ x y))/\∃q os',w'=grow (W.drewN q) os':=by
 have hcon:=λW'=>Any.strings_Compare Tryz.lays106 x.Key y.Key W';change ∀W',Calls prog 87 _ _ _ at hcon;unfold BZ Ic;generalize Lib.compareBytes x.Key.data.toList y.Key.data.toList=r at hcon ⊢
 go_enter func171,ntmps171
 go_wp2_with (go_at_call 87;refine(hcon _).mono ?_;rintro e w' ⟨rfl,rfl⟩)
 go_ret
 exact⟨rfl,0,_,by rw[alloc_eq_grow,alloc_eq_grow,grow_grow];rfl⟩
theorem Um(w:World)(Ao:Value)(Ap:List Fx)(Bo:(LEnt.own Ao 131 3 Ap.length (Ap.flatMap Fx.enc)).holds w)(r:(List Fx))(h:Jp Ap=some r):
 Calls prog 170 [Ao,.func (.func 171) #[] #[]].toArray w (Ret w (Ao.ownBlock.toList) λ_ v w'=>(LEnt.own Ao 131 3 r.length (r.flatMap Fx.enc)).holds w'/\v= .tuple #[]):=by
 unfold Jp at h
 split at h
 ·rename_i hc;obtain rfl:=bH h;exact NC (enc:=Fx.enc) Tryz.laysg170 isAgg131 sizeOf131 Fx.enc_ok (enters_of func171 aF rfl) TV hc.1 hc.2 Bo
 ·cases h
instance:FnT prog 170 vs (type_of% Um):=⟨call170,Um⟩
theorem RG(w:World)(Aa:Nat)(Bl:Ge)(Bg:R32)(Bk:Lb (view w []) Bl Bg)(Aq:Value)(Ax:List An)(Br:Slc (view w []) 11 Aq (Ax.map An.enc))(Ak:(view w []) Aa=some (.cells (R32.enc Bg++[Aq]).toArray 212 (0,0)))(r:(List Fx)×Int)(h:HJ Bl Ax=some r):
 Calls prog 123 [bW Aa].toArray w (Ret w [] λτ v _=>∃u1:Value,v= .tuple #[u1,iV r.2]/\Kr τ 131 3 u1 r.1.length (r.1.flatMap Fx.enc)):=by
 have zr0:ED 22 [10] [] [] []:=⟨⟩;obtain⟨u1,u2,rfl,hs1,⟨u3,rfl,hs2⟩⟩:=Bk;unfold HJ at h;refine Fe2 h func123 rfl ntmps123 rfl ?_;refine Ov 0 Sy.eq_1 Sy.eq_2 [] [0,5,29,30] [] (λi1 (x1:List (ByteArray×Fh)) d p L K a w=>∃φ1,View.le p φ1/\d φ1 (rM 0 (λb1=>.map b1 (Ht Value.string (λx=>Value.agg (Fh.enc x).toArray) x1) x1.length) L) ((31,iV i1)::K) a w) (fun(x1:List (ByteArray×Fh)) d p L K a w=>∃φ1,View.le p φ1/\d φ1 (rM 0 (λb1=>.map b1 (Ht Value.string (λx=>Value.agg (Fh.enc x).toArray) x1) x1.length) L) K a w) ?_ ?_
 ·refine Ov 1 Zm.eq_1 Zm.eq_2 [] [0,5,7,29,30,31,38,39] [] (λi2 (x2:List (ByteArray×Fh)) d p L K=>d p (rM 1 (λb1=>.map b1 (Ht Value.string (λx=>Value.agg (Fh.enc x).toArray) x2) x2.length) L) ((40,iV i2)::K)) (fun(x2:List (ByteArray×Fh)) d p L K=>d p (rM 1 (λb1=>.map b1 (Ht Value.string (λx=>Value.agg (Fh.enc x).toArray) x2) x2.length) L) K) ?_ ?_
  ·refine J [_] 0 [] [0,5,7,29,30,31,38,39,40] [] (fun(x3:List (ByteArray×Fh)) d p L K=>d p (rM 1 (λb1=>.map b1 (Ht Value.string (λx=>Value.agg (Fh.enc x).toArray) x3) x3.length) L) K) ?_ ?_
   ·refine J [_] 1 [] [0,5,7,29,30,31,38,39,40] [false,false,true,true] (fun(x4:List (ByteArray×Fh)) d p L K=>d p (rM 1 (λb1=>.map b1 (Ht Value.string (λx=>Value.agg (Fh.enc x).toArray) x4) x4.length) L) K) ?_ ?_
    ·exact Au
    exact Au
   exact Au
  refine Ov 0 Xg.eq_1 Xg.eq_2 [] [0,5,29,30,31,72,73] [false,true] (λi3 (x5:List (ByteArray×Fh)) d p L K=>d p (rM 0 (λb1=>.map b1 (Ht Value.string (λx=>Value.agg (Fh.enc x).toArray) x5) x5.length) L) ((74,iV i3)::K)) (fun(x5:List (ByteArray×Fh)) d p L K=>d p (rM 0 (λb1=>.map b1 (Ht Value.string (λx=>Value.agg (Fh.enc x).toArray) x5) x5.length) L) K) ?_ ?_
  ·refine J [_] 0 [] [0,5,29,30,31,72,73,74] [] (fun(x6:List (ByteArray×Fh)) d p L K=>d p (rM 0 (λb1=>.map b1 (Ht Value.string (λx=>Value.agg (Fh.enc x).toArray) x6) x6.length) L) K) ?_ ?_
   ·refine J [_] 1 [] [0,5,29,30,31,72,73,74] [false,true] (fun(x7:List (ByteArray×Fh)) d p L K=>d p (rM 0 (λb1=>.map b1 (Ht Value.string (λx=>Value.agg (Fh.enc x).toArray) x7) x7.length) L) K) ?_ ?_
    ·exact Au
    exact Au
   exact Au
  exact Au
 refine Lm 0 [(131,3)] [94] [] (λsn1 (x8:List Fx) d p L K a w=>∃v6,d p (rI 1 sn1 (rO 0 (λ_=>.own v6 131 3 x8.length (x8.flatMap Fx.enc)) L)) ((16,v6)::K) a w) (fun(x8:List Fx) d p L K a w=>∃v6,d p (rD 1 (rO 0 (λ_=>.own v6 131 3 x8.length (x8.flatMap Fx.enc)) L)) ((16,v6)::K) a w) ?_ ?_
 ·exact Au
 exact Au
instance:FnT prog 123 vs (type_of% RG):=⟨call123,RG⟩
theorem TI(w:World)(Ae:Ge)(Av:R32)(Bc:Lb (view w []) Ae Av)(Ad:Value)(Ai:List An)(As:Slc (view w []) 11 Ad (Ai.map An.enc))(Aw:Int)(r:(List Fx)×Int)(h:JU Ae Ai Aw=some r):
 Calls prog 77 [.agg (R32.enc Av).toArray,Ad,iV Aw].toArray w (Ret w [] λτ v _=>∃u1:Value,v= .tuple #[u1,iV r.2]/\Kr τ 131 3 u1 r.1.length (r.1.flatMap Fx.enc)):=by
 have zf14:Frz 14:=⟨⟩;obtain⟨u1,u2,rfl,hs1,⟨u3,rfl,hs2⟩⟩:=Bc;unfold JU at h;refine Fe2 h func77 rfl ntmps77 rfl ?_;exact Au
instance:FnT prog 77 vs (type_of% TI):=⟨call77,TI⟩
theorem RH(w:World)(Ap:An)(Be:Nat)(Bh:ByteArray)(Ca:(view w []) Be=some (.cells [sV Bh].toArray 9 (0,0)))(r:Bool)(h:EF Ap Bh=r):
 Calls prog 172 [.agg (An.enc Ap).toArray,bW Be].toArray w (Ret w [] λ_ v _=>v=bV r):=by
 unfold EF at h;refine Fe2 h func172 rfl ntmps172 rfl ?_;exact Au
instance:FnT prog 172 vs (type_of% RH):=⟨call172,RH⟩
theorem Wc(w:World)(Af:Value)(Am:List An)(Bn:Slc (view w []) 11 Af (Am.map An.enc))(Bf:Nat)(Ar:ByteArray)(Bv:(view w []) Bf=some (.cells [sV Ar].toArray 9 (0,0)))(r:Int)(h:Ji Am Ar=r):
 Calls prog 88 [Af,.func (.func 172) #[] #[bW Bf]].toArray w (Ret w [] λ_ v _=>v=iV r):=by
 unfold Ji at h;refine Fe2 h func88 rfl ntmps88 rfl ?_;refine Yv 0 He.eq_1 He.eq_2 [] [0,1,7] [] (λi1 d p L K=>d p L ((8,iV i1)::K)) (λd p L K=>d p L K) ?_ ?_
 ·exact Au
 exact Au
instance {v0:Go.Value}{c:Array Go.Value}:FnT prog 88 [v0,.func (.func 172) #[] c] (type_of% Wc):=⟨call88,Wc⟩
theorem XY(w:World)(Aa:Nat)(Bl:Ge)(Bg:R32)(Bk:Lb (view w []) Bl Bg)(Aq:Value)(Ax:List An)(Br:Slc (view w []) 11 Aq (Ax.map An.enc))(Ak:(view w []) Aa=some (.cells (R32.enc Bg++[Aq]).toArray 212 (0,0)))(Ch:ByteArray)(hg_pow10:DJ (view w []) 1 Mn)(r:(List ByteArray)×Int)(h:VB Bl Ax Ch=some r):
 Calls prog 124 [bW Aa,sV Ch].toArray w (Ret w [] λτ v _=>∃u1:Value,v= .tuple #[u1,iV r.2]/\Kr τ 9 1 u1 r.1.length (r.1.flatMap Io)):=by
 obtain⟨u1,u2,rfl,hs1,⟨u3,rfl,hs2⟩⟩:=Bk;unfold VB at h;refine Fe2 h func124 rfl ntmps124 rfl ?_;refine Ov 0 EG.eq_1 EG.eq_2 [(9,1)] [0,3,27,28] [] (λi1 (x1:List ByteArray) d p L K a w=>∃φ1 v2,View.le p φ1/\d φ1 (rO 0 (λ_=>.own v2 9 1 x1.length (x1.flatMap Io)) L) ((29,iV i1)::(7,v2)::K) a w) (fun(x1:List ByteArray) d p L K a w=>∃φ1 v2,View.le p φ1/\d φ1 (rO 0 (λ_=>.own v2 9 1 x1.length (x1.flatMap Io)) L) ((7,v2)::K) a w) ?_ ?_
 ·refine J [_] 0 [] [0,3,27,28,29] [] (fun(x2:List ByteArray) d p L K a w=>∃φ2 v3,View.le p φ2/\d φ2 (rO 0 (λ_=>.own v3 9 1 x2.length (x2.flatMap Io)) L) ((7,v3)::K) a w) ?_ ?_
  ·refine Ov 2 Zy.eq_1 Zy.eq_2 [] [0,3,7,9,27,28,29,61,62] [] (λi2 (x3:ByteArray) d p L K=>d p L ((63,iV i2)::(14,sV x3)::K)) (fun(x3:ByteArray) d p L K=>d p L ((14,sV x3)::K)) ?_ ?_
   ·refine J [_] 0 [] [0,3,7,9,27,28,29,61,62,63] [] (fun(x4:ByteArray) d p L K=>d p L ((14,sV x4)::K)) ?_ ?_
    ·refine J [_] 1 [] [0,3,7,9,27,28,29,61,62,63] [false,true,true,true] (fun(x5:ByteArray) d p L K=>d p L ((14,sV x5)::K)) ?_ ?_
     ·refine J [_] 0 [] [0,3,7,9,16,27,28,29,61,62,63] [] (fun(x6:ByteArray) d p L K=>d p L ((17,sV x6)::K)) ?_ ?_
      ·exact Au
      exact Au
     exact Au
    exact Au
   exact Au
  exact Au
 exact Au
instance:FnT prog 124 vs (type_of% XY):=⟨call124,XY⟩
theorem Aaq(w:World)(Ae:Ge)(Av:R32)(Bc:Lb (view w []) Ae Av)(Ad:Value)(Ai:List An)(As:Slc (view w []) 11 Ad (Ai.map An.enc))(Ch:ByteArray)(Aw:Int)(hg_pow10:DJ (view w []) 1 Mn)(r:(List ByteArray)×Int)(h:ON Ae Ai Ch Aw=some r):
 Calls prog 79 [.agg (R32.enc Av).toArray,Ad,sV Ch,iV Aw].toArray w (Ret w [] λτ v _=>∃u1:Value,v= .tuple #[u1,iV r.2]/\Kr τ 9 1 u1 r.1.length (r.1.flatMap Io)):=by
 have zf17:Frz 17:=⟨⟩;obtain⟨u1,u2,rfl,hs1,⟨u3,rfl,hs2⟩⟩:=Bc;unfold ON at h;refine Fe2 h func79 rfl ntmps79 rfl ?_;exact Au
instance:FnT prog 79 vs (type_of% Aaq):=⟨call79,Aaq⟩
theorem NP(w:World)(Aa:Nat)(Bl:Ge)(Bg:R32)(Bk:Lb (view w []) Bl Bg)(Aq:Value)(Ax:List An)(Br:Slc (view w []) 11 Aq (Ax.map An.enc))(Ak:(view w []) Aa=some (.cells (R32.enc Bg++[Aq]).toArray 212 (0,0)))(r:(List Hu)×Int)(h:DS Bl Ax=some r):
 Calls prog 125 [bW Aa].toArray w (Ret w [] λτ v _=>∃u1:Value,v= .tuple #[u1,iV r.2]/\Kr τ 138 2 u1 r.1.length (r.1.flatMap Hu.enc)):=by
 obtain⟨u1,u2,rfl,hs1,⟨u3,rfl,hs2⟩⟩:=Bk;unfold DS at h;refine Fe2 h func125 rfl ntmps125 rfl ?_;refine Ov 0 Se.eq_1 Se.eq_2 [(138,2)] [0,22,23] [] (λi1 (x1:List Hu) d p L K a w=>∃φ1 v2,View.le p φ1/\d φ1 (rO 0 (λ_=>.own v2 138 2 x1.length (x1.flatMap Hu.enc)) L) ((24,iV i1)::(5,v2)::K) a w) (fun(x1:List Hu) d p L K a w=>∃φ1 v2,View.le p φ1/\d φ1 (rO 0 (λ_=>.own v2 138 2 x1.length (x1.flatMap Hu.enc)) L) ((5,v2)::K) a w) ?_ ?_
 ·refine Ov 1 Uf.eq_1 Uf.eq_2 [] [0,7,8,22,23,24,35,36] [] (λi2 (x2:List Hu) d p L K a w=>∃v5,d p (rO 1 (λ_=>.own v5 138 2 x2.length (x2.flatMap Hu.enc)) L) ((37,iV i2)::(5,v5)::K) a w) (fun(x2:List Hu) d p L K a w=>∃v5,d p (rO 1 (λ_=>.own v5 138 2 x2.length (x2.flatMap Hu.enc)) L) ((5,v5)::K) a w) ?_ ?_
  ·refine J [_] 0 [] [0,7,8,22,23,24,35,36,37] [] (fun(x3:List Hu) d p L K a w=>∃v6,d p (rO 1 (λ_=>.own v6 138 2 x3.length (x3.flatMap Hu.enc)) L) ((5,v6)::K) a w) ?_ ?_
   ·refine J [_] 1 [] [0,7,8,22,23,24,35,36,37] [false,false,true,true] (fun(x4:List Hu) d p L K a w=>∃v7,d p (rO 1 (λ_=>.own v7 138 2 x4.length (x4.flatMap Hu.enc)) L) ((5,v7)::K) a w) ?_ ?_
    ·exact Au
    exact Au
   exact Au
  exact Au
 exact Au
instance:FnT prog 125 vs (type_of% NP):=⟨call125,NP⟩
theorem PT(w:World)(Ae:Ge)(Av:R32)(Bc:Lb (view w []) Ae Av)(Ad:Value)(Ai:List An)(As:Slc (view w []) 11 Ad (Ai.map An.enc))(Aw:Int)(r:(List Hu)×Int)(h:FB Ae Ai Aw=some r):
 Calls prog 80 [.agg (R32.enc Av).toArray,Ad,iV Aw].toArray w (Ret w [] λτ v _=>∃u1:Value,v= .tuple #[u1,iV r.2]/\Kr τ 138 2 u1 r.1.length (r.1.flatMap Hu.enc)):=by
 have zf14:Frz 14:=⟨⟩;obtain⟨u1,u2,rfl,hs1,⟨u3,rfl,hs2⟩⟩:=Bc;unfold FB at h;refine Fe2 h func80 rfl ntmps80 rfl ?_;exact Au
instance:FnT prog 80 vs (type_of% PT):=⟨call80,PT⟩
set_option maxHeartbeats 8000000 in
theorem LU(w:World)(Cg:Nat)(Cn:Ge)(Cr:R32)(Cy:Lb (view w [Cg]) Cn Cr)(Bx:Gf)(Cm:Value)(Di:List An)(Ej:Slc (view w [Cg]) 11 Cm (Di.map An.enc))(Cv:Int)(Dp:(LEnt.blk Cg (R32.enc Cr++[iV Bx.Low,iV Bx.High,iV Bx.Least,iV Bx.Circles,Cm,iV Cv]) 61).holds w)(Co:ByteArray)(hg_maxlen:CZ (view w [Cg]) 0)(hg_pow10:DJ (view w [Cg]) 1 Mn)(r:(List ByteArray)×Int×Int)(h:Ns Cn Bx Di Cv Co=some r):
 Calls prog 33 [bW Cg,sV Co].toArray w (Ret w [Cg] λτ v w'=>(LEnt.blk Cg (R32.enc Cr++[iV Bx.Low,iV Bx.High,iV Bx.Least,iV Bx.Circles,Cm,iV r.2.2]) 61).holds w'/\(∃u1:Value,v= .tuple #[u1,iV r.2.1]/\Kr τ 9 1 u1 r.1.length (r.1.flatMap Io))):=by
 have zr0:ED 20 [] [] [12] []:=⟨⟩;have zr1:ED 29 [] [] [17] []:=⟨⟩;have hQ:=Cy;obtain⟨u1,u2,rfl,hs1,⟨u3,rfl,hs2⟩⟩:=Cy;unfold Ns at h;refine Ka [Cg] [.blk Cg [u1.val,u3.val,iV Cn.Table.Relay,iV Cn.Table.Most,iV Cn.Final.Size,iV Cn.Final.Many,iV Cn.Final.Reserves,iV Bx.Low,iV Bx.High,iV Bx.Least,iV Bx.Circles,Cm,iV Cv] 61] func33 rfl ntmps33 rfl (λe he=>by simp only[bA] at he;subst he;exact Dp) (by simp[fps,LEnt.fp]) (by simp[fps,LEnt.fp]) λa S=>?_
 revert h S
 refine Fk 76 ?_ ?_
 ·refine Ov 1 Qu.eq_1 Qu.eq_2 [(9,1)] [11,109,110] [] (λi1 (x1:List ByteArray) d p L K a w=>∃v7,d p (rO 0 (λ_=>.own v7 9 1 x1.length (x1.flatMap Io)) L) ((111,iV i1)::(12,v7)::K) a w) (fun(x1:List ByteArray) d p L K a w=>∃v7,d p (rO 0 (λ_=>.own v7 9 1 x1.length (x1.flatMap Io)) L) ((12,v7)::K) a w) ?_ ?_
  ·exact Au
  exact Au
 refine Fk 133 ?_ ?_
 ·refine Ov 1 Qv.eq_1 Qv.eq_2 [(9,1)] [16,159,160] [] (λi2 (x2:List ByteArray) d p L K a w=>∃v16,d p (rO 0 (λ_=>.own v16 9 1 x2.length (x2.flatMap Io)) L) ((161,iV i2)::(17,v16)::K) a w) (fun(x2:List ByteArray) d p L K a w=>∃v16,d p (rO 0 (λ_=>.own v16 9 1 x2.length (x2.flatMap Io)) L) ((17,v16)::K) a w) ?_ ?_
  ·exact Au
  exact Au
 refine Ov 1 Qw.eq_1 Qw.eq_2 [(9,1)] [21,232,233] [] (λi3 (x3:List ByteArray) d p L K a w=>∃v25,d p (rO 0 (λ_=>.own v25 9 1 x3.length (x3.flatMap Io)) L) ((234,iV i3)::(22,v25)::K) a w) (fun(x3:List ByteArray) d p L K a w=>∃v25,d p (rO 0 (λ_=>.own v25 9 1 x3.length (x3.flatMap Io)) L) ((22,v25)::K) a w) ?_ ?_
 ·exact Au
 exact Au
instance:FnT prog 33 vs (type_of% LU):=⟨call33,LU⟩
theorem KL(w:World)(s:ByteArray)(sep:ByteArray)(hg_maxlen:CZ (view w []) 0)(r:ByteArray×ByteArray×Bool)(h:HK s sep=some r):Calls prog 71 [sV s,sV sep].toArray w (Ret w [] λ_ v _=>v= .tuple #[.string r.1,.string r.2.1,.bool r.2.2]):=by
 unfold HK at h;obtain⟨hc,h⟩:=On h;simp only[aK] at hc;obtain rfl:=BT h;exact cut_ret {Tryz.lays145 with} s sep w hg_maxlen hc
instance:FnT prog 71 vs (type_of% KL):=⟨call71,KL⟩
def Lcon(b:Nat)(dd:Bool)(v:Value)(x:ByteArray)(bc1 bc:Nat)(q:R32)(g:Gf)(vl:Value)(at_:Int):List LEnt:=[.blk b [QW b dd,v] 65,.ownF v 5 x.size (Lib.strCells x),.blk bc1 [bW bc] 59,.blk bc (R32.enc q++[iV g.Low,iV g.High,iV g.Least,iV g.Circles,vl,iV at_]) 61]
theorem Aqj{W w:World}{L:List LEnt}{q:Prop}{f:FuncId}{fn:Func}{c:Code}{vs:List Value}{R:Ending->World->Prop}{nt:Nat}(h:q)(hx:Wx W L w)(hf:prog.funcs[f]? =some fn)(hb:fn.body=some c)(hnt:fn.ntmps=nt)(hn:Nat.ble vs.length nt=true)
 (k:∀a,q->Sx W [] nov L (ZO 0 vs) nt a w->Wq prog c (bodyPost prog fn R) a w):Calls prog f vs.toArray w R:=Aak hx hf hb hnt hn λa S=>k a h S
theorem TW{W w:World}{b bc1 bc:Nat}{dd:Bool}{v:Value}{x:ByteArray}{p:Ge}{q:R32}(hq:Lb (view W []) p q){g:Gf}{vl:Value}{l:List An}(hsL:Slc (view W []) 11 vl (l.map An.enc)){at_:Int}{line:ByteArray}(hx:Wx W (Lcon b dd v x bc1 bc q g vl at_) w)(hg_maxlen:CZ (view W []) 0)(hg_pow10:DJ (view W []) 1 Mn){r:ByteArray×Int}(h:DZ p g l at_ line x=some r):
 Calls prog 32 [sV line,bW bc1,bW b].toArray w (RetW W (λ_=>.bool true) (fun(z:Bool×Value)=>Lcon b z.1 z.2 r.1 bc1 bc q g vl r.2)):=by
 have zt0:Take 33:=⟨⟩;have zb:Bw prog 35 65 5 [1,2] [0,3,4] [2] [0,1,3,4]:=⟨_,Tryz.lays166,Tryz.bx166,rfl,rfl,rfl,call35⟩;have hQ:=hq;obtain⟨u1,u2,rfl,hs1,⟨u3,rfl,hs2⟩⟩:=hq;unfold DZ at h;refine Aqj h hx func32 rfl ntmps32 rfl ?_;refine J [_] 0 [] [2] [false,true,true,true,true] (fun(x5:List ByteArray) d p L K a w=>∃v5,d p (.own v5 9 1 x5.length (x5.flatMap Io)::L) ((5,v5)::K) a w) ?_ ?_
 ·exact Au
 refine Ov 0 Ru.eq_1 Ru.eq_2 [] [2,21,22] [] (λi (y:ByteArray) d p L K a w=>∃dd' v',d p ((L.set 1 (.blk b [QW b dd',v'] 65)).set 2 (.ownF v' 5 y.size (Lib.strCells y))) ((23,iV i)::K) a w) (fun(y:ByteArray) d p L K a w=>∃dd' v',d p ((L.set 1 (.blk b [QW b dd',v'] 65)).set 2 (.ownF v' 5 y.size (Lib.strCells y))) K a w) ?_ ?_
 ·exact Au
 ·intros
  rename_i h S;obtain rfl:=BT h;refine Tn (Fs (Fg (lv S (Ra rfl) rfl ?_)));clear S;intro a S;exact Ld (Tn (Tl (f_retW (_,_) (S.nk (Lcon b _ _ _ bc1 bc _ g vl _) [(4,.bool true)] [false,true,true,true,true] rfl (subR rfl)) rfl rfl)))
theorem VS{W w:World}{b bc1 bc:Nat}{dd:Bool}{v:Value}{x t:ByteArray}{p:Ge}{q:R32}(hq:Lb (view W []) p q){g:Gf}{vl:Value}{l:List An}(hsL:Slc (view W []) 11 vl (l.map An.enc)){at_:Int}(hx:Wx W (Lcon b dd v x bc1 bc q g vl at_) w)(hg_maxlen:CZ (view W []) 0)(hg_pow10:DJ (view W []) 1 Mn){m0:Nat}{r:ByteArray×Int}(h:Ux p g l m0 t at_ x=some r):
 Calls prog 31 [sV t,.func (.func 32) #[] #[bW bc1,bW b]].toArray w (RetW W (λz:(Bool×Value)×Value=>z.2) (λz=>Lcon b z.1.1 z.1.2 r.1 bc1 bc q g vl r.2)):=by
 refine Aak hx func31 rfl ntmps31 rfl λa S=>?_;replace S:=S.k2 0 1 rfl
 let J0:=fun(a:Act) w'=>∃dd v,Sx W [] nov (Lcon b dd v r.1 bc1 bc q g vl r.2) [] 30 a w'
 refine Fr (lv S (Ra rfl) rfl λa S=>lv S (Ra rfl) rfl λa S=>Dl (Fs (Fr (lv S (Ra rfl) rfl λa S=>Dl (Qk J0 (Ia (Sn (fun(m:Nat) a w'=>∃t at_ x dd v,∃i:Int,Ux p g l m t at_ x=some r/\Sx W [] nov (Lcon b dd v x bc1 bc q g vl at_) [(0,sV t),(1,.func (.func 32) #[] #[bW bc1,bW b]),(6,iV i)] 30 a w') id m0 ⟨t,at_,x,dd,v,0,h,S.k3 0 1 6 rfl⟩ ?_)) ?_)))))
 ·clear S h;rintro m a w1 ⟨t,at_,x,dd,v,i,h,S⟩
  cases m with
  |zero=>rw[Ux] at h;cases h
  |succ m=>
   rw[Ux] at h;refine Fs (Fr (lv S (Rm (S.tm rfl)) rfl λa S=>lv S (YM (S.tm rfl) rfl) rfl λa S=>Dl (Fc h (S.tm rfl) (λ_ h=>?_) (λ_ h=>?_))))
   ·refine Mf (Tn (Fs (Ia (Fr (lv S (Rm (S.tm rfl)) rfl λa S=>?_)))));obtain⟨r1,hr1,h⟩:=Rw h;refine XP S (vs:=[sV t,sV Kw]) ⟨S.tm rfl,rfl,trivial⟩ call71 (KL _ _ _ (hg_maxlen.mono (S.le_arg Gb)) _ hr1) rfl λa w2 _ _ S=>?_;refine lv S (Rm (S.tm rfl)) rfl λa S=>lv S (Qj (S.tm rfl) rfl) rfl λa S=>lv S (Qj (S.tm rfl) rfl) rfl λa S=>lv S (Qj (S.tm rfl) rfl) rfl λa S=>Va S rfl rfl λa S=>Va S rfl rfl λa S=>Va S rfl rfl λa S=>Dl (Fs (Fr ?_));refine lv S (Rm (S.tm rfl)) rfl λa S=>lv S (QG (S.tm rfl)) rfl λa S=>lv S (Rm (S.tm rfl)) rfl λa S=>?_;generalize (!r1.2.2)=c at S h
    cases c with
    |true=>
     obtain rfl:=BT h;refine JP S rfl rfl rfl rfl rfl (λa S=>JP S rfl rfl rfl rfl rfl (λa S=>JP S rfl rfl rfl rfl rfl (λa S=>JP S rfl rfl rfl rfl rfl (λa S=>lv S (WJ (S.tm rfl) rfl) rfl λa S=>Dl (IX (S.tm rfl) (Fr (lv S (Rm (S.tm rfl)) rfl λa S=>Va S rfl rfl λa S=>lv S (Ra rfl) rfl λa S=>Dl (Tl ?_))))) rfl) rfl) rfl) rfl;exact Ann ((dd,v),_) S rfl rfl rfl rfl
    |false=>
     obtain⟨r2,hr2,h⟩:=Rw h;refine TM S rfl rfl rfl rfl (lv S (Rm (S.tm rfl)) rfl λa S=>TM S rfl rfl rfl rfl (lv S (Rm (S.tm rfl)) rfl λa S=>TM S rfl rfl rfl rfl (l_clW S (λ_=>Abz (S.tm rfl) (S.c1 rfl) call32) (TW hq hsL S.wx hg_maxlen hg_pow10 hr2) rfl λz a w3 S=>?_)));refine TM S rfl rfl rfl rfl (lv S (QG (S.tm rfl)) rfl λa S=>lv S (WK (S.tm rfl) (S.tm rfl)) rfl λa S=>Dl (GW (S.tm rfl) (Mf (Tn (Fg (lv S (Rm (S.tm rfl)) rfl λa S=>Va S rfl rfl λa S=>Ld (AQ (Tn ?_))))))));exact Fg (lv S (Rm (S.tm rfl)) rfl λa S=>lv S (QH (S.tm rfl) rfl) rfl λa S=>Va S rfl rfl λa S=>Dl ⟨m,⟨_,_,_,_,_,_,h,S.k3 0 1 6 rfl⟩,bF _⟩)
   ·obtain rfl:=BT h;exact Xm (Nq (Nq (Zc ⟨dd,v,S.k0⟩)))
 ·rintro a w1 ⟨dd,v,S⟩;exact Tn (Fr (lv S (Ra rfl) rfl λa S=>lv S (Ra rfl) rfl λa S=>Dl (Tl (Ann ((dd,v),_) S rfl rfl rfl rfl))))
theorem PU(w:World)(p:Ge)(q_p:R32)(hq_p:Lb (view w []) p q_p)(q:Gf)(v_l:Value)(l:List An)(hs_l:Slc (view w []) 11 v_l (l.map An.enc))(t:ByteArray)(hg_maxlen:CZ (view w []) 0)(hg_pow10:DJ (view w []) 1 Mn)(r:ByteArray×Int)(h:AF p q l t=some r):
 Calls prog 8 [.agg (R32.enc q_p).toArray,.agg (Gf.enc q).toArray,v_l,sV t].toArray w (Ret w [] λ_ v _=>v= .tuple #[sV r.1,iV r.2]):=by
 have hQ:=hq_p;obtain⟨u1,u2,rfl,hs1,⟨u3,rfl,hs2⟩⟩:=hq_p;unfold AF at h;refine Fe2 h func8 rfl ntmps8 rfl ?_;refine St 31 ?_
 intros
 rename_i hr _ _ _ _ _ h S;obtain rfl:=BT h;replace S:=((S.newB 5).pk [1,0] [2,3,4,5] rfl rfl rfl).nm [true,true,true,true,false,false];rw[show Ff=ByteArray.empty from rfl] at hr;have hx:Wx w (Lcon _ false (.slice none 0 0) ByteArray.empty _ _ ⟨u1,⟨u3,p.Table.Relay,p.Table.Most⟩,p.Final⟩ q v_l 0) _:=S.wx;refine l_clW S (λ_=>Oq (S.c2 rfl) call31) (VS hQ hs_l hx hg_maxlen hg_pow10 hr) rfl λz a w2 S=>Ld (Tn (Fr (l_bstr Tryz.lays169 Tryz.bx169 [0,1] [2,3] S rfl rfl rfl rfl (λ_=>Oq (S.c1 rfl) call36) rfl λa w3 S=>Va S rfl rfl λa S=>lv S (Ra rfl) rfl λa S=>Dl (Tl (MC S rfl rfl rfl rfl)))))
instance:FnT prog 8 vs (type_of% PU):=⟨call8,PU⟩
theorem RI(w:World)(Bi:Int)(Cc:Int)(Bz:Int)(r:Bool)(h:Hd Bi Cc Bz=r):
 Calls prog 41 [iV Bi,iV Cc,iV Bz].toArray w (Ret w [] λ_ v _=>v=bV r):=by
 unfold Hd at h;refine Fe2 h func41 rfl ntmps41 rfl ?_;exact Au
instance:FnT prog 41 vs (type_of% RI):=⟨call41,RI⟩
theorem HT(w:World)(s:ByteArray)(c:Int)(r:Int)(h:Gq s c=r):Calls prog 92 [.string s,.int .u8 c].toArray w (Ret w [] λ_ v _=>v= .int .i64 r):=by
 subst h;exact HF (Any.strings_IndexByte Tryz.lays137 s c w)
instance:FnT prog 92 vs (type_of% HT):=⟨call92,HT⟩
theorem PV(w:World)(Am:ByteArray)(r:Bool)(h:CS Am=some r):
 Calls prog 83 [sV Am].toArray w (Ret w [] λ_ v _=>v=bV r):=by
 unfold CS at h;refine Fe2 h func83 rfl ntmps83 rfl ?_;exact Au
instance:FnT prog 83 vs (type_of% PV):=⟨call83,PV⟩
theorem BH(w:World)(Db:Fp)(r:Int)(h:Xh Db=some r):
 Calls prog 37 [.agg (Fp.enc Db).toArray].toArray w (Ret w [] λ_ v _=>v=iV r):=by
 unfold Xh at h;refine Fe2 h func37 rfl ntmps37 rfl ?_;refine J [_] 1 [] [1] [] (λx1 d p L K=>d p L ((19,bV x1)::K)) ?_ ?_
 ·refine J [_] 0 [] [1] [] (λx2 d p L K=>d p L ((19,bV x2)::K)) ?_ ?_
  ·refine J [_] 0 [] [1] [] (λx3 d p L K=>d p L ((19,bV x3)::K)) ?_ ?_
   ·refine J [_] 0 [] [1] [] (λx4 d p L K=>d p L ((19,bV x4)::K)) ?_ ?_
    ·exact Au
    exact Au
   exact Au
  exact Au
 exact Au
instance:FnT prog 37 vs (type_of% BH):=⟨call37,BH⟩
theorem AM(w:World)(Ad:Value)(Ai:List Fp)(As:Slc (view w []) 8 Ad (Ai.map Fp.enc))(Cs:ByteArray)(r:Fp×Bool)(h:Ju Ai Cs=r):
 Calls prog 38 [Ad,sV Cs].toArray w (Ret w [] λ_ v _=>v= .tuple #[.agg (Fp.enc r.1).toArray,bV r.2]):=by
 unfold Ju at h;refine Fe2 h func38 rfl ntmps38 rfl ?_;refine Yv 0 Ml.eq_1 Ml.eq_2 [] [1,4,8,9] [] (λi1 d p L K=>d p L ((10,iV i1)::K)) (λd p L K=>d p L K) ?_ ?_
 ·exact Au
 exact Au
instance:FnT prog 38 vs (type_of% AM):=⟨call38,AM⟩
theorem RJ(w:World)(Bi:Int)(Cc:Int)(Bz:Int)(r:Bool)(h:Ik Bi Cc Bz=r):
 Calls prog 84 [iV Bi,iV Cc,iV Bz].toArray w (Ret w [] λ_ v _=>v=bV r):=by
 unfold Ik at h;refine Fe2 h func84 rfl ntmps84 rfl ?_;exact Au
instance:FnT prog 84 vs (type_of% RJ):=⟨call84,RJ⟩
theorem AN(w:World)(Cj:Il)(Bt:R28)(Cb:Xs (view w []) Cj Bt)(r:Int)(h:Vz Cj=some r):
 Calls prog 39 [.agg (R28.enc Bt).toArray].toArray w (Ret w [] λ_ v _=>v=iV r):=by
 obtain⟨u1,rfl,hs1⟩:=Cb;unfold Vz at h;refine Fe2 h func39 rfl ntmps39 rfl ?_;refine Yv 0 Qc.eq_1 Qc.eq_2 [] [1,10,11] [] (λi1 d p L K=>d p L ((12,iV i1)::K)) (λd p L K=>d p L K) ?_ ?_
 ·exact Au
 exact Au
instance:FnT prog 39 vs (type_of% AN):=⟨call39,AN⟩
theorem AO(w:World)(Dc:Mp)(r:Int)(h:Te Dc=r):
 Calls prog 40 [.agg (Mp.enc Dc).toArray].toArray w (Ret w [] λ_ v _=>v=iV r):=by
 unfold Te at h;refine Fe2 h func40 rfl ntmps40 rfl ?_;exact Au
instance:FnT prog 40 vs (type_of% AO):=⟨call40,AO⟩
theorem GF(w:World)(Ae:Ge)(Av:R32)(Bc:Lb (view w []) Ae Av)(r:Int)(h:Rv Ae=some r):
 Calls prog 10 [.agg (R32.enc Av).toArray].toArray w (Ret w [] λ_ v _=>v=iV r):=by
 obtain⟨u1,u2,rfl,hs1,⟨u3,rfl,hs2⟩⟩:=Bc;refine Fe func10 rfl ntmps10 rfl λa S=>?_;unfold Rv at h;replace S:=S.k1 0 rfl;refine Fr (ZM S (S.tm rfl) (cs:=[u1.val,u3.val,iV Ae.Table.Relay,iV Ae.Table.Most,iV Ae.Final.Size,iV Ae.Final.Many,iV Ae.Final.Reserves]) rfl rfl λa w1 b1 hz1 hk1 S=>Sg 10 S ?_);refine λa S=>Dl (Fc h (S.tm rfl) (λhb1 h=>?_) (λhb1 h=>?_))
 ·refine Fr (Vk S rfl rfl λa S=>Dl (Tl (Vo ?_)));obtain rfl:=BT h;exact BQ S results10 rfl rfl
 ·refine Mf (Tn (Fs (Fr (Sg 4 S ?_))));refine λa S=>Dl ?_;replace S:=S.k4 1 14 15 16 rfl;refine f_jn0 h (Sx w [] nov [.blk b1 [u1.val,u3.val,iV Ae.Table.Relay,iV Ae.Table.Most,iV Ae.Final.Size,iV Ae.Final.Many,iV Ae.Final.Reserves] 32] [(1,bW b1)] 47) (λj1 h=>?_) ?_
  ·refine Ia (Sn (fun(ys1:List Fp) a w'=>∃i1:Nat,(∃dn,Ae.Races=dn++ys1/\dn.length=i1)/\Oj Ae j1 ys1 i1=some r/\Sx w [] nov [.blk b1 [u1.val,u3.val,iV Ae.Table.Relay,iV Ae.Table.Most,iV Ae.Final.Size,iV Ae.Final.Many,iV Ae.Final.Reserves] 32] [(1,bW b1),(14,u1.val),(15,iV (Ae.Races.length:Int)),(16,iV i1)] 47 a w') List.length Ae.Races ⟨0,⟨[],rfl,rfl⟩,h,S.nf [true] rfl (subR rfl)⟩ ?_);clear S h;rintro ys1 a w2 ⟨i1,⟨dn,hd1,hi1⟩,h,S⟩
   cases ys1 with
   |nil=>
    rw[Oj.eq_1] at h;refine Fr (Vb S BE rfl rfl rfl λa S=>Ld ?_);replace S:=S.k5 1 14 15 16 17 rfl;exact Tn (Fs (S.wf (OJ hd1 hi1) rfl (Xm (Nq (Nq (Zc (Tn (⟨h,S.nf [true] rfl ⟨rfl,trivial⟩⟩))))))))
   |cons y1 ys1=>
    rw[Oj.eq_2] at h;refine Fr (Vb S BE rfl rfl rfl λa S=>Ld ?_);replace S:=S.k5 1 14 15 16 17 rfl;refine Tn (Fs (S.wt (JQ hd1 hi1) rfl (Mf (Tn (Fs (Ia (Fr (Vm S rfl rfl ?_))))))));clear S;intro a S;refine Aaa S Ahq hs1 (CK hd1 hi1) rfl rfl rfl rfl ?_;clear S;intro a b2 o1 hm1 S;refine lw S (Wv isAgg79 sizeOf79 (off:=o1) (o:=0) (part:=(Fp.enc y1)) rfl rfl (S.tm rfl) (hm1.at S.emb0)) λa S=>AA S zeroValue79 (cs:=[sV Ff,iV 0,iV 0,iV 0,iV 0,iV 0,iV 0,iV 0]) rfl rfl λa w4 b3 hz2 hk2 S=>Va S rfl rfl λa S=>Qq S (S.tm rfl) (S.tm rfl) (i:=0) (off:=0) rfl sizeOf79 (vs:=(Fp.enc y1)) rfl rfl rfl rfl λw5 hk3 S=>Dl (Fs (Fr (lw S (Wv isAgg79 sizeOf79 (off:=0) (o:=0) (part:=(Fp.enc y1)) rfl rfl (S.tm rfl) (S.cellsAt (i:=0) rfl)) ?_)));clear S;intro a S;obtain⟨r1,hr2,h⟩:=Rw h;refine XP S (S.c1 rfl) call37 (BH _ y1 _ hr2) rfl ?_;clear S;intro a w6 hk4 hn1 S;refine Sg 7 S ?_;refine λa S=>Ld ?_;replace S:=S.k8 1 3 4 5 14 15 16 24 rfl;refine Tn (Fc h (S.tm rfl) (λhb2 h=>?_) (λhb2 h=>?_))
    ·refine Fr (Sg 2 S ?_);refine λa S=>Dl (Tl (Vo (LH (Vo (Vo (LH (Vo (Vo ?_))))))));obtain rfl:=BT h;exact BQ S results10 rfl rfl
    ·refine Mf (Tn (Fs ?_));refine f_jn0 h (Sx w [] nov [.blk b1 [u1.val,u3.val,iV Ae.Table.Relay,iV Ae.Table.Most,iV Ae.Final.Size,iV Ae.Final.Many,iV Ae.Final.Reserves] 32] [(1,bW b1),(7,bV ((Ju (cut Ae.Races 0 (i1:Int)) y1.Key).2)),(14,u1.val),(15,iV (Ae.Races.length:Int)),(16,iV i1)] 47) (λj2 h=>?_) ?_
     ·obtain⟨hc1,h⟩:=On h;refine Wu [] ([]) Tryz.mixed S rfl aF λw11 hk8 hsel S=>dq 0 S hsel rfl (λ_ hw=>(ME YU (S.tm rfl))) λa S=>dq 1 S hsel rfl (λ_ hw=>(To isAgg26 (off:=0) (o:=0) (S.tm rfl) ((S.blk_mem (i:=1) (cells:=[u1.val,u3.val,iV Ae.Table.Relay,iV Ae.Table.Most,iV Ae.Final.Size,iV Ae.Final.Many,iV Ae.Final.Reserves]) (b:=b1) (T:=32) rfl (IB (e':=.blk b1 [u1.val,u3.val,iV Ae.Table.Relay,iV Ae.Table.Most,iV Ae.Final.Size,iV Ae.Final.Many,iV Ae.Final.Reserves] 32))).kept hw) rfl)) λa S=>dq 2 S hsel rfl (λ_ hw=>(Rm (S.tm rfl))) ?_;clear S;intro a S;obtain⟨v4,hs4,hr4⟩:=UP (a:=a) (x:=.tmp 28) (y':=.tmp 29) (ty:=26) Ahq hs1 (S.tm rfl) (S.tm rfl) hc1;refine dq 3 S hsel rfl (λ_ hw=>(hr4 _)) ?_;clear S;intro a S;clear hr4;refine dq 4 S hsel rfl (λ_ hw=>(ME Ang (S.tm rfl))) λa S=>dq 5 S hsel rfl (λ_ hw=>(To isAgg9 (off:=0) (o:=0) (S.tm rfl) ((S.blk_mem (i:=0) (cells:=(Fp.enc y1)) (b:=b3) (T:=79) rfl (IB (e':=.blk b3 (Fp.enc y1) 79))).kept hw) rfl)) λa S=>Amv 6 10 aF rfl rfl ?_ ?_
      ·refine XP S (S.c2 rfl) call38 (AM _ v4 (cut Ae.Races 0 (i1:Int)) (hs4.mono (S.le_arg Gb)) y1.Key _ rfl) rfl ?_;clear S;intro a w12 hk9 hn3 S;refine Ld (EQ hk9 (dq 7 S hsel rfl (λ_ hw=>(Rm (S.tm rfl))) λa S=>dq 8 S hsel rfl (λ_ hw=>(Qj (S.tm rfl) rfl)) λa S=>dq 9 S hsel rfl (λ_ hw=>(Qj (S.tm rfl) rfl)) λa S=>Yy 10 aF rfl (AA S zeroValue79 (cs:=[sV Ff,iV 0,iV 0,iV 0,iV 0,iV 0,iV 0,iV 0]) rfl rfl λa w13 b5 hz4 hk10 S=>Ld (Amu ([b5]) hk10 (new1 hz4) (Yy 11 aF rfl (Qq S (S.tm rfl) (S.tm rfl) (i:=0) (off:=0) rfl sizeOf79 (vs:=(Fp.enc ((Ju (cut Ae.Races 0 (i1:Int)) y1.Key).1))) rfl rfl rfl rfl ?_))))));refine λw14 hk11 S=>Ld (EQ hk11 (OL [12] hsel aF rfl ?_));clear hsel;refine Rz S rfl (Ra (S.tm rfl)) rfl λa S=>QQ ?_;replace S:=(S.nm [false,false]).k5 1 7 14 15 16 rfl;exact Tn (⟨h,S.nf [true] rfl (subR rfl)⟩)
      ·refine AA S zeroValue79 (cs:=[sV Ff,iV 0,iV 0,iV 0,iV 0,iV 0,iV 0,iV 0]) rfl rfl λa w15 b6 hz5 hk12 S=>Ld (Amu ([b6]) hk12 (new1 hz5) (Yy 6 aF rfl (XP S (S.c2 rfl) call38 (AM _ v4 (cut Ae.Races 0 (i1:Int)) (hs4.mono (S.le_arg Gb)) y1.Key _ rfl) rfl ?_)));clear S;intro a w16 hk13 hn4 S;refine Ld (EQ (Keep.none hk13) (dq 7 S hsel rfl (λ_ hw=>(Rm (S.tm rfl))) λa S=>dq 8 S hsel rfl (λ_ hw=>(Qj (S.tm rfl) rfl)) λa S=>dq 9 S hsel rfl (λ_ hw=>(Qj (S.tm rfl) rfl)) λa S=>Yy 11 aF rfl (Qq S (S.tm rfl) (S.tm rfl) (i:=0) (off:=0) rfl sizeOf79 (vs:=(Fp.enc ((Ju (cut Ae.Races 0 (i1:Int)) y1.Key).1))) rfl rfl rfl rfl λw17 hk14 S=>Ld (EQ hk14 (OL [12] hsel aF rfl ?_)))));clear hsel;refine Rz S rfl (Ra (S.tm rfl)) rfl λa S=>QQ ?_;replace S:=(S.nm [false,false]).k5 1 7 14 15 16 rfl;exact Tn (⟨h,S.nf [true] rfl (subR rfl)⟩)
     clear S h;intro a w7 h S;refine Tn (Fr (Vm S rfl rfl λa S=>Dl (Fc h (S.tm rfl) (λhb3 h=>?_) (λhb3 h=>?_))))
     ·refine Fr (Vk S rfl rfl λa S=>Dl (Tl (LH (Vo (Vo (LH (Vo ?_)))))));refine Vo ?_;obtain rfl:=BT h;exact BQ S results10 rfl rfl
     ·refine Mf (AQ (Tn (Fg (Sg 2 S ?_))));exact λa S=>Dl (⟨ys1,⟨i1+1,⟨_,(hd1).trans (bE _ _ _),by simp[hi1]⟩,h,S.nf [true] rfl ⟨rfl,rfl,rfl,(congrArg (λz=>some (Value.int .i64 z)) (JR hd1 hi1 (GX hs1))),trivial⟩⟩,bF _⟩)
  clear S h;intro a w3 h S;refine Tn (Fs (Fr (Vf Aff S rfl rfl λa S=>lw S (Wv isAgg28 sizeOf28 (off:=0) (o:=1) (part:=[u3.val,iV Ae.Table.Relay,iV Ae.Table.Most]) rfl rfl (S.tm rfl) (S.cellsAt (i:=0) rfl)) ?_)));clear S;intro a S;obtain⟨r2,hr5,h⟩:=Rw h;refine XP S (S.c1 rfl) call39 (AN _ Ae.Table (R28.mk u3 Ae.Table.Relay Ae.Table.Most) ⟨u3,rfl,(hs2.mono (S.le_arg Gb))⟩ _ hr5) rfl ?_;clear S;intro a w18 hk15 hn5 S;refine Sg 7 S ?_;refine λa S=>Dl (Fc h (S.tm rfl) (λhb4 h=>?_) (λhb4 h=>?_))
  ·refine Fr (Sg 2 S ?_);refine λa S=>Dl (Tl (Vo ?_));obtain rfl:=BT h;exact BQ S results10 rfl rfl
  ·refine Mf (Tn (Fr (Vf Afg S rfl rfl λa S=>lw S (Wv isAgg30 sizeOf30 (off:=0) (o:=4) (part:=(Mp.enc Ae.Final)) rfl rfl (S.tm rfl) (S.cellsAt (i:=0) rfl)) λa S=>XP S (S.c1 rfl) call40 (AO _ Ae.Final _ rfl) rfl ?_)));clear S;intro a w19 hk16 hn6 S;refine Va S rfl rfl λa S=>Dl (Tl ?_);obtain rfl:=BT h;exact BQ S results10 rfl rfl
instance:FnT prog 10 vs (type_of% GF):=⟨call10,GF⟩
theorem GG(w:World)(Ae:Gf)(r:Int)(h:Nk Ae=r):
 Calls prog 11 [.agg (Gf.enc Ae).toArray].toArray w (Ret w [] λ_ v _=>v=iV r):=by
 unfold Nk at h;refine Fe2 h func11 rfl ntmps11 rfl ?_;exact Au
instance:FnT prog 11 vs (type_of% GG):=⟨call11,GG⟩
theorem NQ(w:World)(Am:ByteArray)(Ee:ByteArray)(r:Bool)(h:Yu Am Ee=some r):
 Calls prog 107 [sV Am,sV Ee].toArray w (Ret w [] λ_ v _=>v=bV r):=by
 unfold Yu at h;refine Fe2 h func107 rfl ntmps107 rfl ?_;refine Aal 0 Ug.eq_1 Ug.eq_2 [] [0,1,7] [] (λx1 d p L K=>d p L ((8,iV x1)::K)) (λd p L K=>d p L K) ?_ ?_
 ·exact Au
 exact Au
instance:FnT prog 107 vs (type_of% NQ):=⟨call107,NQ⟩
theorem PW(w:World)(Am:ByteArray)(r:Bool)(h:Lu Am=some r):
 Calls prog 85 [sV Am].toArray w (Ret w [] λ_ v _=>v=bV r):=by
 unfold Lu at h;refine Fe2 h func85 rfl ntmps85 rfl ?_;exact Au
instance:FnT prog 85 vs (type_of% PW):=⟨call85,PW⟩
theorem KM(w:World)(Aw:Int)(r:Bool)(h:Me Aw=r):
 Calls prog 53 [iV Aw].toArray w (Ret w [] λ_ v _=>v=bV r):=by
 unfold Me at h;refine Fe2 h func53 rfl ntmps53 rfl ?_;exact Au
instance:FnT prog 53 vs (type_of% KM):=⟨call53,KM⟩
theorem GH(w:World)(Dv:An)(r:Int)(h:Xi Dv=some r):
 Calls prog 42 [.agg (An.enc Dv).toArray].toArray w (Ret w [] λ_ v _=>v=iV r):=by
 have zr0:ED 9 [] [3] [] []:=⟨⟩;have zr1:ED 14 [] [3] [] []:=⟨⟩;unfold Xi at h;refine Fe2 h func42 rfl ntmps42 rfl ?_;refine J [_,_,_,_] 1 [] [1,3] [] (fun(x1:ByteArray) (x2:ByteArray) (x3:ByteArray) x4 d p L K=>d p (rB 0 (λb2=>.blk b2 (An.enc (An.mk Dv.Site Dv.No Dv.At Dv.Kind x1 Ff x2 0 0 x3 x4)) 87) L) K) ?_ ?_
 ·exact Au
 refine J [_] 0 [] [1,3] [] (fun(x5:ByteArray) d p L K=>d p (rC 0 [(5,sV x5)] L) K) ?_ ?_
 ·exact Au
 refine J [_] 0 [] [1,3] [] (λx6 d p L K=>d p (rC 0 [(7,iV x6)] L) K) ?_ ?_
 ·exact Au
 refine J [_] 0 [] [1,3] [] (λx7 d p L K=>d p (rC 0 [(8,iV x7)] L) K) ?_ ?_
 ·exact Au
 exact Au
instance:FnT prog 42 vs (type_of% GH):=⟨call42,GH⟩
theorem KN(w:World)(Az:An)(Ba:An)(r:Bool)(h:EA Az Ba=r):
 Calls prog 46 [.agg (An.enc Az).toArray,.agg (An.enc Ba).toArray].toArray w (Ret w [] λ_ v _=>v=bV r):=by
 unfold EA at h;refine Fe2 h func46 rfl ntmps46 rfl ?_;exact Au
instance:FnT prog 46 vs (type_of% KN):=⟨call46,KN⟩
theorem DA(w:World)(Ef:An)(Be:Nat)(Bh:An)(Ca:(view w []) Be=some (.cells [sV Bh.Site,iV Bh.No,iV Bh.At,iV Bh.Kind,sV Bh.Who,sV Bh.Club,sV Bh.Race,iV Bh.Time,iV Bh.Fault,sV Bh.Of,iV Bh.Other].toArray 87 (0,0)))(r:Bool)(h:Sz Ef Bh=r):
 Calls prog 45 [.agg (An.enc Ef).toArray,bW Be].toArray w (Ret w [] λ_ v _=>v=bV r):=by
 unfold Sz at h;refine Fe2 h func45 rfl ntmps45 rfl ?_;exact Au
instance:FnT prog 45 vs (type_of% DA):=⟨call45,DA⟩
theorem Rb(w:World)(Af:Value)(Am:List An)(Bn:Slc (view w []) 11 Af (Am.map An.enc))(Bf:Nat)(Ar:An)(Bv:(view w []) Bf=some (.cells [sV Ar.Site,iV Ar.No,iV Ar.At,iV Ar.Kind,sV Ar.Who,sV Ar.Club,sV Ar.Race,iV Ar.Time,iV Ar.Fault,sV Ar.Of,iV Ar.Other].toArray 87 (0,0)))(r:Int)(h:My Am Ar=r):
 Calls prog 88 [Af,.func (.func 45) #[] #[bW Bf]].toArray w (Ret w [] λ_ v _=>v=iV r):=by
 unfold My at h;refine Fe2 h func88 rfl ntmps88 rfl ?_;refine Yv 0 Gu.eq_1 Gu.eq_2 [] [0,1,7] [] (λi1 d p L K=>d p L ((8,iV i1)::K)) (λd p L K=>d p L K) ?_ ?_
 ·exact Au
 exact Au
instance {v0:Go.Value}{c:Array Go.Value}:FnT prog 88 [v0,.func (.func 45) #[] c] (type_of% Rb):=⟨call88,Rb⟩
end Go.Proofs.YthlielagemkjcaaGreatDoor
