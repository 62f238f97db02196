/- The program's tables,by program. -/
import Derived.Test.YtbicihdhkkjigaaGreatDoorTw
import Derived.Test.YtbicihdhkkjigaaGreatDoorSim
import Derived.Test.YtbicihdhkkjigaaGreatDoorProg
namespace Go.Proofs.YtbicihdhkkjigaaGreatDoor
open Go
theorem aF{p:Prop}(h:p:=by kernel_rfl):p:=h
abbrev bW:= @wp_skip
abbrev bX:= @wp_block
abbrev bY:= @wp_ret
abbrev bZ:= @wp_exit
abbrev cA(b:Nat):Value:= .pointer (some ⟨b,0,none⟩)
def Ek.enc(x:Ek):List Value:=[sV x.Key,iV x.Metres,iV x.Stroke,iV x.Course,iV x.Legs,iV x.Sex,iV x.Young,iV x.Old]
theorem Ek.enc_ok:Enc 8 Ek.enc:=⟨λ_=>rfl,λ_ u h=>by simp[Ek.enc] at h;rcases h with rfl|rfl|rfl|rfl|rfl|rfl|rfl|rfl<;>rfl⟩
def Hn.enc(x:Hn):List Value:=[iV x.Size,iV x.Many,iV x.Reserves]
theorem Hn.enc_ok:Enc 3 Hn.enc:=⟨λ_=>rfl,λ_ u h=>by simp[Hn.enc] at h;rcases h with rfl|rfl|rfl<;>rfl⟩
def Fq.enc(x:Fq):List Value:=[iV x.Low,iV x.High,iV x.Least,iV x.Circles]
theorem Fq.enc_ok:Enc 4 Fq.enc:=⟨λ_=>rfl,λ_ u h=>by simp[Fq.enc] at h;rcases h with rfl|rfl|rfl|rfl<;>rfl⟩
def An.enc(x:An):List Value:=[sV x.Site,iV x.No,iV x.At,iV x.Kind,sV x.Who,sV x.Club,sV x.Race,iV x.Time,iV x.Fault,sV x.Of,iV x.Other]
theorem An.enc_ok:Enc 11 An.enc:=⟨λ_=>rfl,λ_ u h=>by simp[An.enc] at h;rcases h with rfl|rfl|rfl|rfl|rfl|rfl|rfl|rfl|rfl|rfl|rfl<;>rfl⟩
def Fh.enc(x:Fh):List Value:=[sV x.site_,iV x.no_]
theorem Fh.enc_ok:Enc 2 Fh.enc:=⟨λ_=>rfl,λ_ u h=>by simp[Fh.enc] at h;rcases h with rfl|rfl<;>rfl⟩
def Ee.enc(x:Ee):List Value:=[sV x.Who,iV x.Time]
theorem Ee.enc_ok:Enc 2 Ee.enc:=⟨λ_=>rfl,λ_ u h=>by simp[Ee.enc] at h;rcases h with rfl|rfl<;>rfl⟩
def Eo.enc(x:Eo):List Value:=[sV x.Who,iV x.Heat,iV x.Lane]
theorem Eo.enc_ok:Enc 3 Eo.enc:=⟨λ_=>rfl,λ_ u h=>by simp[Eo.enc] at h;rcases h with rfl|rfl|rfl<;>rfl⟩
def Gh.enc(x:Gh):List Value:=[sV x.Who,iV x.Final,iV x.Rank]
theorem Gh.enc_ok:Enc 3 Gh.enc:=⟨λ_=>rfl,λ_ u h=>by simp[Gh.enc] at h;rcases h with rfl|rfl|rfl<;>rfl⟩
def Eg.enc(x:Eg):List Value:=[sV x.Who,iV x.Rank,iV x.Time,iV x.Fault]
theorem Eg.enc_ok:Enc 4 Eg.enc:=⟨λ_=>rfl,λ_ u h=>by simp[Eg.enc] at h;rcases h with rfl|rfl|rfl|rfl<;>rfl⟩
def Ky.enc(x:Ky):List Value:=[iV x.Num,iV x.Den]
theorem Ky.enc_ok:Enc 2 Ky.enc:=⟨λ_=>rfl,λ_ u h=>by simp[Ky.enc] at h;rcases h with rfl|rfl<;>rfl⟩
def El.enc(x:El):List Value:=[iV x.Rank,sV x.Who,sV x.Club,iV x.Time,iV x.Fault,iV x.Points.Num,iV x.Points.Den]
theorem El.enc_ok:Enc 7 El.enc:=⟨λ_=>rfl,λ_ u h=>by simp[El.enc] at h;rcases h with rfl|rfl|rfl|rfl|rfl|rfl|rfl<;>rfl⟩
structure R28 where
 mk::
 (Points:RS)
 (Relay:Int)
 (Most:Int)
def R28.enc(x:R28):List Value:=[x.Points.val,iV x.Relay,iV x.Most]
theorem R28.enc_ok:Enc 3 R28.enc:=⟨λ_=>rfl,λx u h=>by
 simp only[R28.enc,bB,bM,or_false] at h
 rcases h with rfl|rfl|rfl
 ·exact x.Points.property
 ·exact rfl
 ·exact rfl⟩
def DH(φ:View)(x:Qy)(r:R28):Prop:=∃u1:RS,r=⟨u1,x.Relay,x.Most⟩/\Slc φ 1 u1.val (x.Points.map eInt)
theorem Xf{φ ψ:View}(l:View.le φ ψ)(x:Qy)(r:R28)(h:DH φ x r):DH ψ x r:=by
 obtain⟨u1,e,h1⟩:=h;exact⟨u1,e,h1.mono l⟩
theorem rels_28{φ ψ:View}(l:View.le φ ψ){xs:List Qy}{rs:List R28}(h:Pg (DH φ) xs rs):Pg (DH ψ) xs rs:=h.chg (Xf l)
structure R32 where
 mk::
 (Races:RS)
 (Table:R28)
 (Final:Hn)
def R32.enc(x:R32):List Value:=[x.Races.val]++R28.enc x.Table++[iV x.Final.Size,iV x.Final.Many,iV x.Final.Reserves]
theorem R32.enc_ok:Enc 7 R32.enc:=⟨λx=>by simp[R32.enc,R28.enc_ok.len],λx u h=>by
 simp only[R32.enc,bC,bB,bM,or_false] at h
 first
 |(rcases h with (h|h)|h
   ·rcases h with rfl
    ·exact x.Races.property
   ·exact R28.enc_ok.one _ u h
   ·rcases h with rfl|rfl|rfl
    ·exact rfl
    ·exact rfl
    ·exact rfl)⟩
def Tb(φ:View)(x:Lc)(r:R32):Prop:=∃u1:RS,∃u2:R28,r=⟨u1,u2,x.Final⟩/\Slc φ 8 u1.val (x.Races.map Ek.enc)/\DH φ x.Table u2
theorem Yo{φ ψ:View}(l:View.le φ ψ)(x:Lc)(r:R32)(h:Tb φ x r):Tb ψ x r:=by
 obtain⟨u1,u2,e,h1,h2⟩:=h;exact⟨u1,u2,e,h1.mono l,Xf l _ _ h2⟩
theorem rels_32{φ ψ:View}(l:View.le φ ψ){xs:List Lc}{rs:List R32}(h:Pg (Tb φ) xs rs):Pg (Tb ψ) xs rs:=h.chg (Yo l)
structure IL where
 mk::
 (p_:R32)
 (deeds_:RS)
def IL.enc(x:IL):List Value:=R32.enc x.p_++[x.deeds_.val]
theorem IL.enc_ok:Enc 8 IL.enc:=⟨λx=>by simp[IL.enc,R32.enc_ok.len],λx u h=>by
 simp only[IL.enc,bC,bB,bM,or_false] at h
 first
 |(rcases h with h|h
   ·exact R32.enc_ok.one _ u h
   ·rcases h with rfl
    ·exact x.deeds_.property)⟩
def DI(φ:View)(x:Mp)(r:IL):Prop:=∃u1:R32,∃u2:RS,r=⟨u1,u2⟩/\Tb φ x.p_ u1/\Slc φ 11 u2.val (x.deeds_.map An.enc)
theorem Tc{φ ψ:View}(l:View.le φ ψ)(x:Mp)(r:IL)(h:DI φ x r):DI ψ x r:=by
 obtain⟨u1,u2,e,h1,h2⟩:=h;exact⟨u1,u2,e,Yo l _ _ h1,h2.mono l⟩
theorem rels_164{φ ψ:View}(l:View.le φ ψ){xs:List Mp}{rs:List IL}(h:Pg (DI φ) xs rs):Pg (DI ψ) xs rs:=h.chg (Tc l)
def HH(φ:View)(x:(List ByteArray))(r:RS):Prop:=Slc φ 1 r.val (x.map Rt)
theorem SH{φ ψ:View}(l:View.le φ ψ)(x:(List ByteArray))(r:RS)(h:HH φ x r):HH ψ x r:=Slc.mono h l
theorem rels_80{φ ψ:View}(l:View.le φ ψ){xs:List (List ByteArray)}{rs:List RS}(h:Pg (HH φ) xs rs):Pg (HH ψ) xs rs:=h.chg (SH l)
structure Zh where
 mk::
 (Who:ByteArray)
 (Fault:Int)
 (Reports:RS)
def Zh.enc(x:Zh):List Value:=[sV x.Who,iV x.Fault,x.Reports.val]
theorem Zh.enc_ok:Enc 3 Zh.enc:=⟨λ_=>rfl,λx u h=>by
 simp only[Zh.enc,bB,bM,or_false] at h
 rcases h with rfl|rfl|rfl
 ·exact rfl
 ·exact rfl
 ·exact x.Reports.property⟩
def Yg(φ:View)(x:Js)(r:Zh):Prop:=∃u1:RS,r=⟨x.Who,x.Fault,u1⟩/\Slc φ 1 u1.val (x.Reports.map Rt)
theorem QP{φ ψ:View}(l:View.le φ ψ)(x:Js)(r:Zh)(h:Yg φ x r):Yg ψ x r:=by
 obtain⟨u1,e,h1⟩:=h;exact⟨u1,e,h1.mono l⟩
theorem MH{φ ψ:View}(l:View.le φ ψ){xs:List Js}{rs:List Zh}(h:Pg (Yg φ) xs rs):Pg (Yg ψ) xs rs:=h.chg (QP l)
theorem Tryz.mixed:Tryz.prog.follows .mixedOrders=true:=by kernel_rfl
theorem Mi:SlT Tryz.prog 22 3 1 8:=AU (z:=(iV 0)) Tryz.underlying22 Tryz.sizeOf3 (by kernel_rfl) rfl
theorem AX:SlT Tryz.prog 26 83 8 72:=AU (z:=(.agg #[sV Ed,iV 0,iV 0,iV 0,iV 0,iV 0,iV 0,iV 0])) Tryz.underlying26 Tryz.sizeOf83 (by kernel_rfl) rfl
theorem Nh:SlT Tryz.prog 37 102 11 128:=AU (z:=(.agg #[sV Ed,iV 0,iV 0,iV 0,sV Ed,sV Ed,sV Ed,iV 0,iV 0,sV Ed,iV 0])) Tryz.underlying37 Tryz.sizeOf102 (by kernel_rfl) rfl
theorem Ni:SlT Tryz.prog 41 63 2 24:=AU (z:=(.agg #[sV Ed,iV 0])) Tryz.underlying41 Tryz.sizeOf63 (by kernel_rfl) rfl
theorem SI:SlT Tryz.prog 45 66 3 32:=AU (z:=(.agg #[sV Ed,iV 0,iV 0])) Tryz.underlying45 Tryz.sizeOf66 (by kernel_rfl) rfl
theorem SJ:SlT Tryz.prog 48 69 3 32:=AU (z:=(.agg #[sV Ed,iV 0,iV 0])) Tryz.underlying48 Tryz.sizeOf69 (by kernel_rfl) rfl
theorem Zi:SlT Tryz.prog 80 9 1 16:=AU (z:=(sV Ed)) Tryz.underlying80 Tryz.sizeOf9 (by kernel_rfl) rfl
theorem AK:SlT Tryz.prog 87 92 4 40:=AU (z:=(.agg #[sV Ed,iV 0,iV 0,iV 0])) Tryz.underlying87 Tryz.sizeOf92 (by kernel_rfl) rfl
theorem sl_94:SlT Tryz.prog 94 42 1 8:=AU (z:=(iV 0)) Tryz.underlying94 Tryz.sizeOf42 (by kernel_rfl) rfl
theorem Yi:SlT Tryz.prog 110 115 7 72:=AU (z:=(.agg #[iV 0,sV Ed,sV Ed,iV 0,iV 0,iV 0,iV 0])) Tryz.underlying110 Tryz.sizeOf115 (by kernel_rfl) rfl
theorem EP:SlT Tryz.prog 136 139 3 48:=AU (z:=(.agg #[sV Ed,iV 0,.slice none 0 0])) Tryz.underlying136 Tryz.sizeOf139 (by kernel_rfl) rfl
theorem Wc:SlT Tryz.prog 154 80 1 24:=AU (z:=(.slice none 0 0)) Tryz.underlying154 Tryz.sizeOf80 (by kernel_rfl) rfl
theorem QQ:Sh Tryz.prog 25 0 0:=⟨_,_,_,Tryz.underlying25,rfl,Tryz.sizeOf22,rfl,rfl⟩
theorem QR:Sh Tryz.prog 25 1 1:=⟨_,_,_,Tryz.underlying25,rfl,Tryz.sizeOf3,rfl,rfl⟩
theorem QS:Sh Tryz.prog 28 0 0:=⟨_,_,_,Tryz.underlying28,rfl,Tryz.sizeOf22,rfl,rfl⟩
theorem VO:Sh Tryz.prog 28 1 1:=⟨_,_,_,Tryz.underlying28,rfl,Tryz.sizeOf3,rfl,rfl⟩
theorem VP:Sh Tryz.prog 28 2 2:=⟨_,_,_,Tryz.underlying28,rfl,Tryz.sizeOf3,rfl,rfl⟩
theorem VQ:Sh Tryz.prog 30 0 0:=⟨_,_,_,Tryz.underlying30,rfl,Tryz.sizeOf3,rfl,rfl⟩
theorem fa_30_1:Sh Tryz.prog 30 1 1:=⟨_,_,_,Tryz.underlying30,rfl,Tryz.sizeOf3,rfl,rfl⟩
theorem fa_30_2:Sh Tryz.prog 30 2 2:=⟨_,_,_,Tryz.underlying30,rfl,Tryz.sizeOf3,rfl,rfl⟩
theorem LL:Sh Tryz.prog 32 0 0:=⟨_,_,_,Tryz.underlying32,rfl,Tryz.sizeOf26,rfl,rfl⟩
theorem LM:Sh Tryz.prog 32 1 1:=⟨_,_,_,Tryz.underlying32,rfl,Tryz.sizeOf28,rfl,rfl⟩
theorem FZ:Sh Tryz.prog 32 2 4:=⟨_,_,_,Tryz.underlying32,rfl,Tryz.sizeOf30,rfl,rfl⟩
theorem LN:Sh Tryz.prog 35 0 0:=⟨_,_,_,Tryz.underlying35,rfl,Tryz.sizeOf3,rfl,rfl⟩
theorem QT:Sh Tryz.prog 35 1 1:=⟨_,_,_,Tryz.underlying35,rfl,Tryz.sizeOf3,rfl,rfl⟩
theorem GA:Sh Tryz.prog 35 2 2:=⟨_,_,_,Tryz.underlying35,rfl,Tryz.sizeOf3,rfl,rfl⟩
theorem VR:Sh Tryz.prog 35 3 3:=⟨_,_,_,Tryz.underlying35,rfl,Tryz.sizeOf3,rfl,rfl⟩
theorem IM:Sh Tryz.prog 63 0 0:=⟨_,_,_,Tryz.underlying63,rfl,Tryz.sizeOf9,rfl,rfl⟩
theorem VS:Sh Tryz.prog 63 1 1:=⟨_,_,_,Tryz.underlying63,rfl,Tryz.sizeOf3,rfl,rfl⟩
theorem fa_66_1:Sh Tryz.prog 66 1 1:=⟨_,_,_,Tryz.underlying66,rfl,Tryz.sizeOf3,rfl,rfl⟩
theorem fa_66_2:Sh Tryz.prog 66 2 2:=⟨_,_,_,Tryz.underlying66,rfl,Tryz.sizeOf3,rfl,rfl⟩
theorem VT:Sh Tryz.prog 69 1 1:=⟨_,_,_,Tryz.underlying69,rfl,Tryz.sizeOf3,rfl,rfl⟩
theorem VU:Sh Tryz.prog 83 0 0:=⟨_,_,_,Tryz.underlying83,rfl,Tryz.sizeOf9,rfl,rfl⟩
theorem fa_83_1:Sh Tryz.prog 83 1 1:=⟨_,_,_,Tryz.underlying83,rfl,Tryz.sizeOf3,rfl,rfl⟩
theorem fa_83_2:Sh Tryz.prog 83 2 2:=⟨_,_,_,Tryz.underlying83,rfl,Tryz.sizeOf3,rfl,rfl⟩
theorem fa_83_3:Sh Tryz.prog 83 3 3:=⟨_,_,_,Tryz.underlying83,rfl,Tryz.sizeOf3,rfl,rfl⟩
theorem fa_83_4:Sh Tryz.prog 83 4 4:=⟨_,_,_,Tryz.underlying83,rfl,Tryz.sizeOf3,rfl,rfl⟩
theorem fa_83_5:Sh Tryz.prog 83 5 5:=⟨_,_,_,Tryz.underlying83,rfl,Tryz.sizeOf3,rfl,rfl⟩
theorem VV:Sh Tryz.prog 83 6 6:=⟨_,_,_,Tryz.underlying83,rfl,Tryz.sizeOf3,rfl,rfl⟩
theorem VW:Sh Tryz.prog 83 7 7:=⟨_,_,_,Tryz.underlying83,rfl,Tryz.sizeOf3,rfl,rfl⟩
theorem fa_92_0:Sh Tryz.prog 92 0 0:=⟨_,_,_,Tryz.underlying92,rfl,Tryz.sizeOf9,rfl,rfl⟩
theorem LO:Sh Tryz.prog 92 1 1:=⟨_,_,_,Tryz.underlying92,rfl,Tryz.sizeOf3,rfl,rfl⟩
theorem IP:Sh Tryz.prog 92 2 2:=⟨_,_,_,Tryz.underlying92,rfl,Tryz.sizeOf3,rfl,rfl⟩
theorem fa_92_3:Sh Tryz.prog 92 3 3:=⟨_,_,_,Tryz.underlying92,rfl,Tryz.sizeOf3,rfl,rfl⟩
theorem BN:Sh Tryz.prog 102 0 0:=⟨_,_,_,Tryz.underlying102,rfl,Tryz.sizeOf9,rfl,rfl⟩
theorem BO:Sh Tryz.prog 102 1 1:=⟨_,_,_,Tryz.underlying102,rfl,Tryz.sizeOf3,rfl,rfl⟩
theorem EQ:Sh Tryz.prog 102 2 2:=⟨_,_,_,Tryz.underlying102,rfl,Tryz.sizeOf3,rfl,rfl⟩
theorem Xg:Sh Tryz.prog 102 3 3:=⟨_,_,_,Tryz.underlying102,rfl,Tryz.sizeOf3,rfl,rfl⟩
theorem Wi:Sh Tryz.prog 102 4 4:=⟨_,_,_,Tryz.underlying102,rfl,Tryz.sizeOf9,rfl,rfl⟩
theorem ER:Sh Tryz.prog 102 5 5:=⟨_,_,_,Tryz.underlying102,rfl,Tryz.sizeOf9,rfl,rfl⟩
theorem Wj:Sh Tryz.prog 102 6 6:=⟨_,_,_,Tryz.underlying102,rfl,Tryz.sizeOf9,rfl,rfl⟩
theorem AL:Sh Tryz.prog 102 7 7:=⟨_,_,_,Tryz.underlying102,rfl,Tryz.sizeOf3,rfl,rfl⟩
theorem ES:Sh Tryz.prog 102 8 8:=⟨_,_,_,Tryz.underlying102,rfl,Tryz.sizeOf3,rfl,rfl⟩
theorem Xz:Sh Tryz.prog 102 9 9:=⟨_,_,_,Tryz.underlying102,rfl,Tryz.sizeOf9,rfl,rfl⟩
theorem Wp:Sh Tryz.prog 102 10 10:=⟨_,_,_,Tryz.underlying102,rfl,Tryz.sizeOf3,rfl,rfl⟩
theorem IQ:Sh Tryz.prog 115 0 0:=⟨_,_,_,Tryz.underlying115,rfl,Tryz.sizeOf3,rfl,rfl⟩
theorem ZU:Sh Tryz.prog 115 1 1:=⟨_,_,_,Tryz.underlying115,rfl,Tryz.sizeOf9,rfl,rfl⟩
theorem ZV:Sh Tryz.prog 115 3 3:=⟨_,_,_,Tryz.underlying115,rfl,Tryz.sizeOf3,rfl,rfl⟩
theorem ZW:Sh Tryz.prog 115 4 4:=⟨_,_,_,Tryz.underlying115,rfl,Tryz.sizeOf3,rfl,rfl⟩
theorem MI:Sh Tryz.prog 139 0 0:=⟨_,_,_,Tryz.underlying139,rfl,Tryz.sizeOf9,rfl,rfl⟩
theorem ZX:Sh Tryz.prog 139 1 1:=⟨_,_,_,Tryz.underlying139,rfl,Tryz.sizeOf3,rfl,rfl⟩
theorem ZY:Sh Tryz.prog 164 0 0:=⟨_,_,_,Tryz.underlying164,rfl,Tryz.sizeOf32,rfl,rfl⟩
theorem MJ:Sh Tryz.prog 164 1 7:=⟨_,_,_,Tryz.underlying164,rfl,Tryz.sizeOf37,rfl,rfl⟩
theorem eq_63(dd:Nat)(x y:Ee)(w:World):(Op.equalIn (dd+2) 63 (.agg (Ee.enc x).toArray) (.agg (Ee.enc y).toArray)).run Tryz.prog w= .ok (decide (x=y)) w:=by
 refine Yz (dd:=dd+1) (fs:=(Tryz.prog.fieldsOf 63).toList) (by kernel_rfl) rfl (by kernel_rfl) (?_:_=Result.ok (decide (x.Who=y.Who) && (decide (x.Time=y.Time) && true)) w) (by cases x;cases y;simp[Bool.decide_and]);simp only[Program.fieldsOf,Tryz.underlying63];exact(Qe aC (Io Tryz.isAgg9 rfl) (Io Tryz.isAgg9 rfl) (Ub Tryz.underlying9) (Qe aC (Io Tryz.isAgg3 rfl) (Io Tryz.isAgg3 rfl) (Rv Tryz.underlying3) IF))
theorem rn_eql_63{a:Act}{w:World}{x y:Operand}{u ty:TypeId}{m n:Ee}(hx:a.eval x= .agg (Ee.enc m).toArray)(hy:a.eval y= .agg (Ee.enc n).toArray):Rn Tryz.prog a w (.binOp .eql 63 x y u) ty (.bool (decide (m=n))):=
 IG 2 (by kernel_rfl) (λw=>eq_63 _ m n w) rfl hx hy
theorem XZ{a:Act}{w:World}{x y:Operand}{u ty:TypeId}{m n:Ee}(hx:a.eval x= .agg (Ee.enc m).toArray)(hy:a.eval y= .agg (Ee.enc n).toArray):Rn Tryz.prog a w (.binOp .neq 63 x y u) ty (.bool (!decide (m=n))):=
 IH 2 (by kernel_rfl) (λw=>eq_63 _ m n w) rfl hx hy
theorem eq_66(dd:Nat)(x y:Eo)(w:World):(Op.equalIn (dd+2) 66 (.agg (Eo.enc x).toArray) (.agg (Eo.enc y).toArray)).run Tryz.prog w= .ok (decide (x=y)) w:=by
 refine Yz (dd:=dd+1) (fs:=(Tryz.prog.fieldsOf 66).toList) (by kernel_rfl) rfl (by kernel_rfl) (?_:_=Result.ok (decide (x.Who=y.Who) && (decide (x.Heat=y.Heat) && (decide (x.Lane=y.Lane) && true))) w) (by cases x;cases y;simp[Bool.decide_and]);simp only[Program.fieldsOf,Tryz.underlying66];exact(Qe aC (Io Tryz.isAgg9 rfl) (Io Tryz.isAgg9 rfl) (Ub Tryz.underlying9) (Qe aC (Io Tryz.isAgg3 rfl) (Io Tryz.isAgg3 rfl) (Rv Tryz.underlying3) (Qe aC (Io Tryz.isAgg3 rfl) (Io Tryz.isAgg3 rfl) (Rv Tryz.underlying3) IF)))
theorem rn_eql_66{a:Act}{w:World}{x y:Operand}{u ty:TypeId}{m n:Eo}(hx:a.eval x= .agg (Eo.enc m).toArray)(hy:a.eval y= .agg (Eo.enc n).toArray):Rn Tryz.prog a w (.binOp .eql 66 x y u) ty (.bool (decide (m=n))):=
 IG 2 (by kernel_rfl) (λw=>eq_66 _ m n w) rfl hx hy
theorem YA{a:Act}{w:World}{x y:Operand}{u ty:TypeId}{m n:Eo}(hx:a.eval x= .agg (Eo.enc m).toArray)(hy:a.eval y= .agg (Eo.enc n).toArray):Rn Tryz.prog a w (.binOp .neq 66 x y u) ty (.bool (!decide (m=n))):=
 IH 2 (by kernel_rfl) (λw=>eq_66 _ m n w) rfl hx hy
theorem eq_69(dd:Nat)(x y:Gh)(w:World):(Op.equalIn (dd+2) 69 (.agg (Gh.enc x).toArray) (.agg (Gh.enc y).toArray)).run Tryz.prog w= .ok (decide (x=y)) w:=by
 refine Yz (dd:=dd+1) (fs:=(Tryz.prog.fieldsOf 69).toList) (by kernel_rfl) rfl (by kernel_rfl) (?_:_=Result.ok (decide (x.Who=y.Who) && (decide (x.Final=y.Final) && (decide (x.Rank=y.Rank) && true))) w) (by cases x;cases y;simp[Bool.decide_and]);simp only[Program.fieldsOf,Tryz.underlying69];exact(Qe aC (Io Tryz.isAgg9 rfl) (Io Tryz.isAgg9 rfl) (Ub Tryz.underlying9) (Qe aC (Io Tryz.isAgg3 rfl) (Io Tryz.isAgg3 rfl) (Rv Tryz.underlying3) (Qe aC (Io Tryz.isAgg3 rfl) (Io Tryz.isAgg3 rfl) (Rv Tryz.underlying3) IF)))
theorem rn_eql_69{a:Act}{w:World}{x y:Operand}{u ty:TypeId}{m n:Gh}(hx:a.eval x= .agg (Gh.enc m).toArray)(hy:a.eval y= .agg (Gh.enc n).toArray):Rn Tryz.prog a w (.binOp .eql 69 x y u) ty (.bool (decide (m=n))):=
 IG 2 (by kernel_rfl) (λw=>eq_69 _ m n w) rfl hx hy
theorem YB{a:Act}{w:World}{x y:Operand}{u ty:TypeId}{m n:Gh}(hx:a.eval x= .agg (Gh.enc m).toArray)(hy:a.eval y= .agg (Gh.enc n).toArray):Rn Tryz.prog a w (.binOp .neq 69 x y u) ty (.bool (!decide (m=n))):=
 IH 2 (by kernel_rfl) (λw=>eq_69 _ m n w) rfl hx hy
theorem ZZ(dd:Nat)(x y:An)(w:World):(Op.equalIn (dd+2) 102 (.agg (An.enc x).toArray) (.agg (An.enc y).toArray)).run Tryz.prog w= .ok (decide (x=y)) w:=by
 refine Yz (dd:=dd+1) (fs:=(Tryz.prog.fieldsOf 102).toList) (by kernel_rfl) rfl (by kernel_rfl) (?_:_=Result.ok (decide (x.Site=y.Site) && (decide (x.No=y.No) && (decide (x.At=y.At) && (decide (x.Kind=y.Kind) && (decide (x.Who=y.Who) && (decide (x.Club=y.Club) && (decide (x.Race=y.Race) && (decide (x.Time=y.Time) && (decide (x.Fault=y.Fault) && (decide (x.Of=y.Of) && (decide (x.Other=y.Other) && true))))))))))) w) (by cases x;cases y;simp[Bool.decide_and]);simp only[Program.fieldsOf,Tryz.underlying102];exact(Qe aC (Io Tryz.isAgg9 rfl) (Io Tryz.isAgg9 rfl) (Ub Tryz.underlying9) (Qe aC (Io Tryz.isAgg3 rfl) (Io Tryz.isAgg3 rfl) (Rv Tryz.underlying3) (Qe aC (Io Tryz.isAgg3 rfl) (Io Tryz.isAgg3 rfl) (Rv Tryz.underlying3) (Qe aC (Io Tryz.isAgg3 rfl) (Io Tryz.isAgg3 rfl) (Rv Tryz.underlying3) (Qe aC (Io Tryz.isAgg9 rfl) (Io Tryz.isAgg9 rfl) (Ub Tryz.underlying9) (Qe aC (Io Tryz.isAgg9 rfl) (Io Tryz.isAgg9 rfl) (Ub Tryz.underlying9) (Qe aC (Io Tryz.isAgg9 rfl) (Io Tryz.isAgg9 rfl) (Ub Tryz.underlying9) (Qe aC (Io Tryz.isAgg3 rfl) (Io Tryz.isAgg3 rfl) (Rv Tryz.underlying3) (Qe aC (Io Tryz.isAgg3 rfl) (Io Tryz.isAgg3 rfl) (Rv Tryz.underlying3) (Qe aC (Io Tryz.isAgg9 rfl) (Io Tryz.isAgg9 rfl) (Ub Tryz.underlying9) (Qe aC (Io Tryz.isAgg3 rfl) (Io Tryz.isAgg3 rfl) (Rv Tryz.underlying3) IF)))))))))))
theorem rn_eql_102{a:Act}{w:World}{x y:Operand}{u ty:TypeId}{m n:An}(hx:a.eval x= .agg (An.enc m).toArray)(hy:a.eval y= .agg (An.enc n).toArray):Rn Tryz.prog a w (.binOp .eql 102 x y u) ty (.bool (decide (m=n))):=
 IG 2 (by kernel_rfl) (λw=>ZZ _ m n w) rfl hx hy
theorem MK{a:Act}{w:World}{x y:Operand}{u ty:TypeId}{m n:An}(hx:a.eval x= .agg (An.enc m).toArray)(hy:a.eval y= .agg (An.enc n).toArray):Rn Tryz.prog a w (.binOp .neq 102 x y u) ty (.bool (!decide (m=n))):=
 IH 2 (by kernel_rfl) (λw=>ZZ _ m n w) rfl hx hy
theorem UJ(dd:Nat)(x y:Fh)(w:World):(Op.equalIn (dd+2) 189 (.agg (Fh.enc x).toArray) (.agg (Fh.enc y).toArray)).run Tryz.prog w= .ok (decide (x=y)) w:=by
 refine Yz (dd:=dd+1) (fs:=(Tryz.prog.fieldsOf 189).toList) (by kernel_rfl) rfl (by kernel_rfl) (?_:_=Result.ok (decide (x.site_=y.site_) && (decide (x.no_=y.no_) && true)) w) (by cases x;cases y;simp[Bool.decide_and]);simp only[Program.fieldsOf,Tryz.underlying189];exact(Qe aC (Io Tryz.isAgg9 rfl) (Io Tryz.isAgg9 rfl) (Ub Tryz.underlying9) (Qe aC (Io Tryz.isAgg3 rfl) (Io Tryz.isAgg3 rfl) (Rv Tryz.underlying3) IF))
theorem rn_eql_189{a:Act}{w:World}{x y:Operand}{u ty:TypeId}{m n:Fh}(hx:a.eval x= .agg (Fh.enc m).toArray)(hy:a.eval y= .agg (Fh.enc n).toArray):Rn Tryz.prog a w (.binOp .eql 189 x y u) ty (.bool (decide (m=n))):=
 IG 2 (by kernel_rfl) (λw=>UJ _ m n w) rfl hx hy
theorem rn_neq_189{a:Act}{w:World}{x y:Operand}{u ty:TypeId}{m n:Fh}(hx:a.eval x= .agg (Fh.enc m).toArray)(hy:a.eval y= .agg (Fh.enc n).toArray):Rn Tryz.prog a w (.binOp .neq 189 x y u) ty (.bool (!decide (m=n))):=
 IH 2 (by kernel_rfl) (λw=>UJ _ m n w) rfl hx hy
theorem IR:LX Tryz.prog 189 (λx=>Value.agg (Fh.enc x).toArray):=
 ZN 2 rfl Tryz.underlying189 (λem x w=>chk_agg Tryz.underlying189 (by
  intro f hf _
  simp only[bB,bM,or_false] at hf
  rcases hf with rfl|rfl
  ·exact⟨_,λw=>Io Tryz.isAgg9 rfl,λw=>chk_str Tryz.underlying9⟩
  ·exact⟨_,λw=>Io Tryz.isAgg3 rfl,λw=>chk_int Tryz.underlying3⟩)) UJ (λx=>by simp[Instr.sameBits,Fh.enc,XU])
theorem bt_25:EK Tryz.prog 25 (.agg #[.slice none 0 0,iV 0]) [(0,1),(1,1)]:=⟨_,Tryz.underlying25,Tryz.zeroValue25,λ_=>by kernel_rfl⟩
theorem bt_28:EK Tryz.prog 28 (.agg #[.slice none 0 0,iV 0,iV 0]) [(0,1),(1,1),(2,1)]:=⟨_,Tryz.underlying28,Tryz.zeroValue28,λ_=>by kernel_rfl⟩
theorem bt_30:EK Tryz.prog 30 (.agg #[iV 0,iV 0,iV 0]) [(0,1),(1,1),(2,1)]:=⟨_,Tryz.underlying30,Tryz.zeroValue30,λ_=>by kernel_rfl⟩
theorem bt_32:EK Tryz.prog 32 (.agg #[.slice none 0 0,.slice none 0 0,iV 0,iV 0,iV 0,iV 0,iV 0]) [(0,1),(1,3),(4,3)]:=⟨_,Tryz.underlying32,Tryz.zeroValue32,λ_=>by kernel_rfl⟩
theorem bt_35:EK Tryz.prog 35 (.agg #[iV 0,iV 0,iV 0,iV 0]) [(0,1),(1,1),(2,1),(3,1)]:=⟨_,Tryz.underlying35,Tryz.zeroValue35,λ_=>by kernel_rfl⟩
theorem SK:EK Tryz.prog 63 (.agg #[sV Ed,iV 0]) [(0,1),(1,1)]:=⟨_,Tryz.underlying63,Tryz.zeroValue63,λ_=>by kernel_rfl⟩
theorem bt_66:EK Tryz.prog 66 (.agg #[sV Ed,iV 0,iV 0]) [(0,1),(1,1),(2,1)]:=⟨_,Tryz.underlying66,Tryz.zeroValue66,λ_=>by kernel_rfl⟩
theorem bt_69:EK Tryz.prog 69 (.agg #[sV Ed,iV 0,iV 0]) [(0,1),(1,1),(2,1)]:=⟨_,Tryz.underlying69,Tryz.zeroValue69,λ_=>by kernel_rfl⟩
theorem PC:EK Tryz.prog 83 (.agg #[sV Ed,iV 0,iV 0,iV 0,iV 0,iV 0,iV 0,iV 0]) [(0,1),(1,1),(2,1),(3,1),(4,1),(5,1),(6,1),(7,1)]:=⟨_,Tryz.underlying83,Tryz.zeroValue83,λ_=>by kernel_rfl⟩
theorem bt_92:EK Tryz.prog 92 (.agg #[sV Ed,iV 0,iV 0,iV 0]) [(0,1),(1,1),(2,1),(3,1)]:=⟨_,Tryz.underlying92,Tryz.zeroValue92,λ_=>by kernel_rfl⟩
theorem ET:EK Tryz.prog 102 (.agg #[sV Ed,iV 0,iV 0,iV 0,sV Ed,sV Ed,sV Ed,iV 0,iV 0,sV Ed,iV 0]) [(0,1),(1,1),(2,1),(3,1),(4,1),(5,1),(6,1),(7,1),(8,1),(9,1),(10,1)]:=⟨_,Tryz.underlying102,Tryz.zeroValue102,λ_=>by kernel_rfl⟩
theorem bt_113:EK Tryz.prog 113 (.agg #[iV 0,iV 0]) [(0,1),(1,1)]:=⟨_,Tryz.underlying113,Tryz.zeroValue113,λ_=>by kernel_rfl⟩
theorem bt_115:EK Tryz.prog 115 (.agg #[iV 0,sV Ed,sV Ed,iV 0,iV 0,iV 0,iV 0]) [(0,1),(1,1),(2,1),(3,1),(4,1),(5,2)]:=⟨_,Tryz.underlying115,Tryz.zeroValue115,λ_=>by kernel_rfl⟩
theorem bt_139:EK Tryz.prog 139 (.agg #[sV Ed,iV 0,.slice none 0 0]) [(0,1),(1,1),(2,1)]:=⟨_,Tryz.underlying139,Tryz.zeroValue139,λ_=>by kernel_rfl⟩
theorem bt_164:EK Tryz.prog 164 (.agg #[.slice none 0 0,.slice none 0 0,iV 0,iV 0,iV 0,iV 0,iV 0,.slice none 0 0]) [(0,7),(7,1)]:=⟨_,Tryz.underlying164,Tryz.zeroValue164,λ_=>by kernel_rfl⟩
theorem bt_189:EK Tryz.prog 189 (.agg #[sV Ed,iV 0]) [(0,1),(1,1)]:=⟨_,Tryz.underlying189,Tryz.zeroValue189,λ_=>by kernel_rfl⟩
instance:FldI Tryz.prog 25 0 0:=⟨QQ⟩
instance:FldI Tryz.prog 25 1 1:=⟨QR⟩
instance:FldI Tryz.prog 28 0 0:=⟨QS⟩
instance:FldI Tryz.prog 28 1 1:=⟨VO⟩
instance:FldI Tryz.prog 28 2 2:=⟨VP⟩
instance:FldI Tryz.prog 30 0 0:=⟨VQ⟩
instance:FldI Tryz.prog 30 1 1:=⟨fa_30_1⟩
instance:FldI Tryz.prog 30 2 2:=⟨fa_30_2⟩
instance:FldI Tryz.prog 32 0 0:=⟨LL⟩
instance:FldI Tryz.prog 32 1 1:=⟨LM⟩
instance:FldI Tryz.prog 32 2 4:=⟨FZ⟩
instance:FldI Tryz.prog 35 0 0:=⟨LN⟩
instance:FldI Tryz.prog 35 1 1:=⟨QT⟩
instance:FldI Tryz.prog 35 2 2:=⟨GA⟩
instance:FldI Tryz.prog 35 3 3:=⟨VR⟩
instance:FldI Tryz.prog 63 0 0:=⟨IM⟩
instance:FldI Tryz.prog 63 1 1:=⟨VS⟩
instance:FldI Tryz.prog 66 1 1:=⟨fa_66_1⟩
instance:FldI Tryz.prog 66 2 2:=⟨fa_66_2⟩
instance:FldI Tryz.prog 69 1 1:=⟨VT⟩
instance:FldI Tryz.prog 83 0 0:=⟨VU⟩
instance:FldI Tryz.prog 83 1 1:=⟨fa_83_1⟩
instance:FldI Tryz.prog 83 2 2:=⟨fa_83_2⟩
instance:FldI Tryz.prog 83 3 3:=⟨fa_83_3⟩
instance:FldI Tryz.prog 83 4 4:=⟨fa_83_4⟩
instance:FldI Tryz.prog 83 5 5:=⟨fa_83_5⟩
instance:FldI Tryz.prog 83 6 6:=⟨VV⟩
instance:FldI Tryz.prog 83 7 7:=⟨VW⟩
instance:FldI Tryz.prog 92 0 0:=⟨fa_92_0⟩
instance:FldI Tryz.prog 92 1 1:=⟨LO⟩
instance:FldI Tryz.prog 92 2 2:=⟨IP⟩
instance:FldI Tryz.prog 92 3 3:=⟨fa_92_3⟩
instance:FldI Tryz.prog 102 0 0:=⟨BN⟩
instance:FldI Tryz.prog 102 1 1:=⟨BO⟩
instance:FldI Tryz.prog 102 2 2:=⟨EQ⟩
instance:FldI Tryz.prog 102 3 3:=⟨Xg⟩
instance:FldI Tryz.prog 102 4 4:=⟨Wi⟩
instance:FldI Tryz.prog 102 5 5:=⟨ER⟩
instance:FldI Tryz.prog 102 6 6:=⟨Wj⟩
instance:FldI Tryz.prog 102 7 7:=⟨AL⟩
instance:FldI Tryz.prog 102 8 8:=⟨ES⟩
instance:FldI Tryz.prog 102 9 9:=⟨Xz⟩
instance:FldI Tryz.prog 102 10 10:=⟨Wp⟩
instance:FldI Tryz.prog 115 0 0:=⟨IQ⟩
instance:FldI Tryz.prog 115 1 1:=⟨ZU⟩
instance:FldI Tryz.prog 115 3 3:=⟨ZV⟩
instance:FldI Tryz.prog 115 4 4:=⟨ZW⟩
instance:FldI Tryz.prog 139 0 0:=⟨MI⟩
instance:FldI Tryz.prog 139 1 1:=⟨ZX⟩
instance:FldI Tryz.prog 164 0 0:=⟨ZY⟩
instance:FldI Tryz.prog 164 1 7:=⟨MJ⟩
instance:AgF Tryz.prog 3:=⟨Tryz.isAgg3⟩
instance:AgF Tryz.prog 9:=⟨Tryz.isAgg9⟩
instance:AgF Tryz.prog 22:=⟨Tryz.isAgg22⟩
instance:AgF Tryz.prog 26:=⟨Tryz.isAgg26⟩
instance:AgF Tryz.prog 37:=⟨Tryz.isAgg37⟩
instance:AgF Tryz.prog 72:=⟨Tryz.isAgg72⟩
instance:AgF Tryz.prog 149:=⟨Tryz.isAgg149⟩
instance:AgF Tryz.prog 187:=⟨Tryz.isAgg187⟩
instance:SlI Tryz.prog 22 3 1 8:=⟨Mi⟩
instance:SlI Tryz.prog 26 83 8 72:=⟨AX⟩
instance:SlI Tryz.prog 37 102 11 128:=⟨Nh⟩
instance:SlI Tryz.prog 41 63 2 24:=⟨Ni⟩
instance:SlI Tryz.prog 45 66 3 32:=⟨SI⟩
instance:SlI Tryz.prog 48 69 3 32:=⟨SJ⟩
instance:SlI Tryz.prog 80 9 1 16:=⟨Zi⟩
instance:SlI Tryz.prog 87 92 4 40:=⟨AK⟩
instance:SlI Tryz.prog 94 42 1 8:=⟨sl_94⟩
instance:SlI Tryz.prog 110 115 7 72:=⟨Yi⟩
instance:SlI Tryz.prog 136 139 3 48:=⟨EP⟩
instance:SlI Tryz.prog 154 80 1 24:=⟨Wc⟩
end Go.Proofs.YtbicihdhkkjigaaGreatDoor
