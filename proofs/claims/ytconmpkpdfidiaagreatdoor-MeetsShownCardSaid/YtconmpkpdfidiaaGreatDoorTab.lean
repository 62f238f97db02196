/- The program's tables,by program. -/
import Derived.Test.YtconmpkpdfidiaaGreatDoorTw
import Derived.Test.YtconmpkpdfidiaaGreatDoorSim
import Derived.Test.YtconmpkpdfidiaaGreatDoorProg
namespace Go.Proofs.YtconmpkpdfidiaaGreatDoor
open Go
theorem aF{p:Prop}(h:p:=by kernel_rfl):p:=h
abbrev bW:= @wp_skip
abbrev bX:= @wp_block
abbrev bY:= @wp_ret
abbrev bZ:= @wp_exit
abbrev cA(b:Nat):Value:= .pointer (some ⟨b,0,none⟩)
def Ea.enc(x:Ea):List Value:=[sV x.Key,iV x.Metres,iV x.Stroke,iV x.Course,iV x.Legs,iV x.Sex,iV x.Young,iV x.Old]
theorem Ea.enc_ok:Enc 8 Ea.enc:=⟨λ_=>rfl,λ_ u h=>by simp[Ea.enc] at h;rcases h with rfl|rfl|rfl|rfl|rfl|rfl|rfl|rfl<;>rfl⟩
def Qe.enc(x:Qe):List Value:=[iV x.Size,iV x.Many,iV x.Reserves]
theorem Qe.enc_ok:Enc 3 Qe.enc:=⟨λ_=>rfl,λ_ u h=>by simp[Qe.enc] at h;rcases h with rfl|rfl|rfl<;>rfl⟩
def Dt.enc(x:Dt):List Value:=[sV x.Site,iV x.No,iV x.At,iV x.Kind,sV x.Who,sV x.Club,sV x.Race,iV x.Time,iV x.Fault,sV x.Of,iV x.Other]
theorem Dt.enc_ok:Enc 11 Dt.enc:=⟨λ_=>rfl,λ_ u h=>by simp[Dt.enc] at h;rcases h with rfl|rfl|rfl|rfl|rfl|rfl|rfl|rfl|rfl|rfl|rfl<;>rfl⟩
def Ev.enc(x:Ev):List Value:=[sV x.site_,iV x.no_]
theorem Ev.enc_ok:Enc 2 Ev.enc:=⟨λ_=>rfl,λ_ u h=>by simp[Ev.enc] at h;rcases h with rfl|rfl<;>rfl⟩
def Jn.enc(x:Jn):List Value:=[sV x.Who,iV x.Time]
theorem Jn.enc_ok:Enc 2 Jn.enc:=⟨λ_=>rfl,λ_ u h=>by simp[Jn.enc] at h;rcases h with rfl|rfl<;>rfl⟩
def Dw.enc(x:Dw):List Value:=[sV x.Who,iV x.Rank,iV x.Time,iV x.Fault]
theorem Dw.enc_ok:Enc 4 Dw.enc:=⟨λ_=>rfl,λ_ u h=>by simp[Dw.enc] at h;rcases h with rfl|rfl|rfl|rfl<;>rfl⟩
def Ef.enc(x:Ef):List Value:=[iV x.Num,iV x.Den]
theorem Ef.enc_ok:Enc 2 Ef.enc:=⟨λ_=>rfl,λ_ u h=>by simp[Ef.enc] at h;rcases h with rfl|rfl<;>rfl⟩
def Dy.enc(x:Dy):List Value:=[iV x.Rank,sV x.Who,sV x.Club,iV x.Time,iV x.Fault,iV x.Points.Num,iV x.Points.Den]
theorem Dy.enc_ok:Enc 7 Dy.enc:=⟨λ_=>rfl,λ_ u h=>by simp[Dy.enc] at h;rcases h with rfl|rfl|rfl|rfl|rfl|rfl|rfl<;>rfl⟩
def Du.enc(x:Du):List Value:=[sV x.Race,sV x.Who,sV x.Club,iV x.Rank,bV x.Relay]
theorem Du.enc_ok:Enc 5 Du.enc:=⟨λ_=>rfl,λ_ u h=>by simp[Du.enc] at h;rcases h with rfl|rfl|rfl|rfl|rfl<;>rfl⟩
def Fl.enc(x:Fl):List Value:=[sV x.race_,sV x.who_]
theorem Fl.enc_ok:Enc 2 Fl.enc:=⟨λ_=>rfl,λ_ u h=>by simp[Fl.enc] at h;rcases h with rfl|rfl<;>rfl⟩
def Od.enc(x:Od):List Value:=[sV x.Key,iV x.Points.Num,iV x.Points.Den]
theorem Od.enc_ok:Enc 3 Od.enc:=⟨λ_=>rfl,λ_ u h=>by simp[Od.enc] at h;rcases h with rfl|rfl|rfl<;>rfl⟩
def Ec.enc(x:Ec):List Value:=[sV x.x_.Race,sV x.x_.Who,sV x.x_.Club,iV x.x_.Rank,bV x.x_.Relay,iV x.points_.Num,iV x.points_.Den]
theorem Ec.enc_ok:Enc 7 Ec.enc:=⟨λ_=>rfl,λ_ u h=>by simp[Ec.enc] at h;rcases h with rfl|rfl|rfl|rfl|rfl|rfl|rfl<;>rfl⟩
def Gx.enc(x:Gx):List Value:=[bV x.is_,iV x.e_]
theorem Gx.enc_ok:Enc 2 Gx.enc:=⟨λ_=>rfl,λ_ u h=>by simp[Gx.enc] at h;rcases h with rfl|rfl<;>rfl⟩
structure R28 where
 mk::
 (Points:RS)
 (Relay:Int)
 (Most:Int)
def R28.enc(x:R28):List Value:=[x.Points.val,iV x.Relay,iV x.Most]
theorem R28.enc_ok:Enc 3 R28.enc:=⟨λ_=>rfl,λx u h=>by
 simp only[R28.enc,bB,bM,or_false] at h
 rcases h with rfl|rfl|rfl
 ·exact x.Points.property
 ·exact rfl
 ·exact rfl⟩
def Zo(φ:View)(x:Jh)(r:R28):Prop:=∃u1:RS,r=⟨u1,x.Relay,x.Most⟩/\Slc φ 1 u1.val (x.Points.map eInt)
theorem Xo{φ ψ:View}(l:View.le φ ψ)(x:Jh)(r:R28)(h:Zo φ x r):Zo ψ x r:=by
 obtain⟨u1,e,h1⟩:=h;exact⟨u1,e,h1.mono l⟩
theorem rels_28{φ ψ:View}(l:View.le φ ψ){xs:List Jh}{rs:List R28}(h:Ox (Zo φ) xs rs):Ox (Zo ψ) xs rs:=h.chg (Xo l)
structure R32 where
 mk::
 (Races:RS)
 (Table:R28)
 (Final:Qe)
def R32.enc(x:R32):List Value:=[x.Races.val]++R28.enc x.Table++[iV x.Final.Size,iV x.Final.Many,iV x.Final.Reserves]
theorem R32.enc_ok:Enc 7 R32.enc:=⟨λx=>by simp[R32.enc,R28.enc_ok.len],λx u h=>by
 simp only[R32.enc,bC,bB,bM,or_false] at h
 first
 |(rcases h with (h|h)|h
   ·rcases h with rfl
    ·exact x.Races.property
   ·exact R28.enc_ok.one _ u h
   ·rcases h with rfl|rfl|rfl
    ·exact rfl
    ·exact rfl
    ·exact rfl)⟩
def Rc(φ:View)(x:Iq)(r:R32):Prop:=∃u1:RS,∃u2:R28,r=⟨u1,u2,x.Final⟩/\Slc φ 8 u1.val (x.Races.map Ea.enc)/\Zo φ x.Table u2
theorem Zc{φ ψ:View}(l:View.le φ ψ)(x:Iq)(r:R32)(h:Rc φ x r):Rc ψ x r:=by
 obtain⟨u1,u2,e,h1,h2⟩:=h;exact⟨u1,u2,e,h1.mono l,Xo l _ _ h2⟩
theorem rels_32{φ ψ:View}(l:View.le φ ψ){xs:List Iq}{rs:List R32}(h:Ox (Rc φ) xs rs):Ox (Rc ψ) xs rs:=h.chg (Zc l)
structure R99 where
 mk::
 (p_:R32)
 (deeds_:RS)
def R99.enc(x:R99):List Value:=R32.enc x.p_++[x.deeds_.val]
theorem R99.enc_ok:Enc 8 R99.enc:=⟨λx=>by simp[R99.enc,R32.enc_ok.len],λx u h=>by
 simp only[R99.enc,bC,bB,bM,or_false] at h
 first
 |(rcases h with h|h
   ·exact R32.enc_ok.one _ u h
   ·rcases h with rfl
    ·exact x.deeds_.property)⟩
def IA(φ:View)(x:Kq)(r:R99):Prop:=∃u1:R32,∃u2:RS,r=⟨u1,u2⟩/\Rc φ x.p_ u1/\Slc φ 11 u2.val (x.deeds_.map Dt.enc)
theorem Tr{φ ψ:View}(l:View.le φ ψ)(x:Kq)(r:R99)(h:IA φ x r):IA ψ x r:=by
 obtain⟨u1,u2,e,h1,h2⟩:=h;exact⟨u1,u2,e,Zc l _ _ h1,h2.mono l⟩
theorem rels_99{φ ψ:View}(l:View.le φ ψ){xs:List Kq}{rs:List R99}(h:Ox (IA φ) xs rs):Ox (IA ψ) xs rs:=h.chg (Tr l)
structure Zp where
 mk::
 (Who:ByteArray)
 (Fault:Int)
 (Reports:RS)
def Zp.enc(x:Zp):List Value:=[sV x.Who,iV x.Fault,x.Reports.val]
theorem Zp.enc_ok:Enc 3 Zp.enc:=⟨λ_=>rfl,λx u h=>by
 simp only[Zp.enc,bB,bM,or_false] at h
 rcases h with rfl|rfl|rfl
 ·exact rfl
 ·exact rfl
 ·exact x.Reports.property⟩
def Yw(φ:View)(x:Jg)(r:Zp):Prop:=∃u1:RS,r=⟨x.Who,x.Fault,u1⟩/\Slc φ 1 u1.val (x.Reports.map Sh)
theorem RW{φ ψ:View}(l:View.le φ ψ)(x:Jg)(r:Zp)(h:Yw φ x r):Yw ψ x r:=by
 obtain⟨u1,e,h1⟩:=h;exact⟨u1,e,h1.mono l⟩
theorem NB{φ ψ:View}(l:View.le φ ψ){xs:List Jg}{rs:List Zp}(h:Ox (Yw φ) xs rs):Ox (Yw ψ) xs rs:=h.chg (RW l)
def CI(φ:View)(x:(List Du))(r:RS):Prop:=Slc φ 5 r.val (x.map Du.enc)
theorem RX{φ ψ:View}(l:View.le φ ψ)(x:(List Du))(r:RS)(h:CI φ x r):CI ψ x r:=Slc.mono h l
theorem JI{φ ψ:View}(l:View.le φ ψ){xs:List (List Du)}{rs:List RS}(h:Ox (CI φ) xs rs):Ox (CI ψ) xs rs:=h.chg (RX l)
theorem Tryz.mixed:Tryz.prog.follows .mixedOrders=true:=by kernel_rfl
theorem Sl:SlT Tryz.prog 22 3 1 8:=Zg (z:=(iV 0)) Tryz.underlying22 Tryz.sizeOf3 (by kernel_rfl) rfl
theorem Ye:SlT Tryz.prog 26 65 8 72:=Zg (z:=(.agg #[sV An,iV 0,iV 0,iV 0,iV 0,iV 0,iV 0,iV 0])) Tryz.underlying26 Tryz.sizeOf65 (by kernel_rfl) rfl
theorem Kt:SlT Tryz.prog 34 81 11 128:=Zg (z:=(.agg #[sV An,iV 0,iV 0,iV 0,sV An,sV An,sV An,iV 0,iV 0,sV An,iV 0])) Tryz.underlying34 Tryz.sizeOf81 (by kernel_rfl) rfl
theorem FQ:SlT Tryz.prog 38 9 1 16:=Zg (z:=(sV An)) Tryz.underlying38 Tryz.sizeOf9 (by kernel_rfl) rfl
theorem Yf:SlT Tryz.prog 66 73 7 72:=Zg (z:=(.agg #[iV 0,sV An,sV An,iV 0,iV 0,iV 0,iV 0])) Tryz.underlying66 Tryz.sizeOf73 (by kernel_rfl) rfl
theorem sl_77:SlT Tryz.prog 77 39 1 8:=Zg (z:=(iV 0)) Tryz.underlying77 Tryz.sizeOf39 (by kernel_rfl) rfl
theorem NC:SlT Tryz.prog 87 91 2 24:=Zg (z:=(.agg #[sV An,iV 0])) Tryz.underlying87 Tryz.sizeOf91 (by kernel_rfl) rfl
theorem Wk:SlT Tryz.prog 107 113 4 40:=Zg (z:=(.agg #[sV An,iV 0,iV 0,iV 0])) Tryz.underlying107 Tryz.sizeOf113 (by kernel_rfl) rfl
theorem Pv:SlT Tryz.prog 111 115 5 64:=Zg (z:=(.agg #[sV An,sV An,sV An,iV 0,bV false])) Tryz.underlying111 Tryz.sizeOf115 (by kernel_rfl) rfl
theorem RY:SlT Tryz.prog 119 124 3 32:=Zg (z:=(.agg #[sV An,iV 0,iV 0])) Tryz.underlying119 Tryz.sizeOf124 (by kernel_rfl) rfl
theorem FR:SlT Tryz.prog 168 171 3 48:=Zg (z:=(.agg #[sV An,iV 0,.slice none 0 0])) Tryz.underlying168 Tryz.sizeOf171 (by kernel_rfl) rfl
theorem FT:SlT Tryz.prog 176 179 7 80:=Zg (z:=(.agg #[sV An,sV An,sV An,iV 0,bV false,iV 0,iV 0])) Tryz.underlying176 Tryz.sizeOf179 (by kernel_rfl) rfl
theorem WA:SlT Tryz.prog 188 187 2 16:=Zg (z:=(.agg #[bV false,iV 0])) Tryz.underlying188 Tryz.sizeOf187 (by kernel_rfl) rfl
theorem CS:SlT Tryz.prog 211 111 1 24:=Zg (z:=(.slice none 0 0)) Tryz.underlying211 Tryz.sizeOf111 (by kernel_rfl) rfl
theorem RZ:Re Tryz.prog 25 0 0:=⟨_,_,_,Tryz.underlying25,rfl,Tryz.sizeOf22,rfl,rfl⟩
theorem SA:Re Tryz.prog 25 1 1:=⟨_,_,_,Tryz.underlying25,rfl,Tryz.sizeOf3,rfl,rfl⟩
theorem SB:Re Tryz.prog 28 0 0:=⟨_,_,_,Tryz.underlying28,rfl,Tryz.sizeOf22,rfl,rfl⟩
theorem XQ:Re Tryz.prog 28 1 1:=⟨_,_,_,Tryz.underlying28,rfl,Tryz.sizeOf3,rfl,rfl⟩
theorem XR:Re Tryz.prog 28 2 2:=⟨_,_,_,Tryz.underlying28,rfl,Tryz.sizeOf3,rfl,rfl⟩
theorem fa_30_0:Re Tryz.prog 30 0 0:=⟨_,_,_,Tryz.underlying30,rfl,Tryz.sizeOf3,rfl,rfl⟩
theorem fa_30_1:Re Tryz.prog 30 1 1:=⟨_,_,_,Tryz.underlying30,rfl,Tryz.sizeOf3,rfl,rfl⟩
theorem fa_30_2:Re Tryz.prog 30 2 2:=⟨_,_,_,Tryz.underlying30,rfl,Tryz.sizeOf3,rfl,rfl⟩
theorem MJ:Re Tryz.prog 32 0 0:=⟨_,_,_,Tryz.underlying32,rfl,Tryz.sizeOf26,rfl,rfl⟩
theorem MK:Re Tryz.prog 32 1 1:=⟨_,_,_,Tryz.underlying32,rfl,Tryz.sizeOf28,rfl,rfl⟩
theorem ML:Re Tryz.prog 32 2 4:=⟨_,_,_,Tryz.underlying32,rfl,Tryz.sizeOf30,rfl,rfl⟩
theorem GW:Re Tryz.prog 65 0 0:=⟨_,_,_,Tryz.underlying65,rfl,Tryz.sizeOf9,rfl,rfl⟩
theorem fa_65_1:Re Tryz.prog 65 1 1:=⟨_,_,_,Tryz.underlying65,rfl,Tryz.sizeOf3,rfl,rfl⟩
theorem fa_65_2:Re Tryz.prog 65 2 2:=⟨_,_,_,Tryz.underlying65,rfl,Tryz.sizeOf3,rfl,rfl⟩
theorem fa_65_3:Re Tryz.prog 65 3 3:=⟨_,_,_,Tryz.underlying65,rfl,Tryz.sizeOf3,rfl,rfl⟩
theorem fa_65_4:Re Tryz.prog 65 4 4:=⟨_,_,_,Tryz.underlying65,rfl,Tryz.sizeOf3,rfl,rfl⟩
theorem fa_65_5:Re Tryz.prog 65 5 5:=⟨_,_,_,Tryz.underlying65,rfl,Tryz.sizeOf3,rfl,rfl⟩
theorem XS:Re Tryz.prog 65 6 6:=⟨_,_,_,Tryz.underlying65,rfl,Tryz.sizeOf3,rfl,rfl⟩
theorem XT:Re Tryz.prog 65 7 7:=⟨_,_,_,Tryz.underlying65,rfl,Tryz.sizeOf3,rfl,rfl⟩
theorem MM:Re Tryz.prog 73 0 0:=⟨_,_,_,Tryz.underlying73,rfl,Tryz.sizeOf3,rfl,rfl⟩
theorem fa_73_1:Re Tryz.prog 73 1 1:=⟨_,_,_,Tryz.underlying73,rfl,Tryz.sizeOf9,rfl,rfl⟩
theorem fa_73_2:Re Tryz.prog 73 2 2:=⟨_,_,_,Tryz.underlying73,rfl,Tryz.sizeOf9,rfl,rfl⟩
theorem SC:Re Tryz.prog 73 3 3:=⟨_,_,_,Tryz.underlying73,rfl,Tryz.sizeOf3,rfl,rfl⟩
theorem fa_73_4:Re Tryz.prog 73 4 4:=⟨_,_,_,Tryz.underlying73,rfl,Tryz.sizeOf3,rfl,rfl⟩
theorem XU:Re Tryz.prog 73 5 5:=⟨_,_,_,Tryz.underlying73,rfl,Tryz.sizeOf71,rfl,rfl⟩
theorem CK:Re Tryz.prog 81 0 0:=⟨_,_,_,Tryz.underlying81,rfl,Tryz.sizeOf9,rfl,rfl⟩
theorem BI:Re Tryz.prog 81 1 1:=⟨_,_,_,Tryz.underlying81,rfl,Tryz.sizeOf3,rfl,rfl⟩
theorem JJ:Re Tryz.prog 81 2 2:=⟨_,_,_,Tryz.underlying81,rfl,Tryz.sizeOf3,rfl,rfl⟩
theorem Wl:Re Tryz.prog 81 3 3:=⟨_,_,_,Tryz.underlying81,rfl,Tryz.sizeOf3,rfl,rfl⟩
theorem Yx:Re Tryz.prog 81 4 4:=⟨_,_,_,Tryz.underlying81,rfl,Tryz.sizeOf9,rfl,rfl⟩
theorem JK:Re Tryz.prog 81 5 5:=⟨_,_,_,Tryz.underlying81,rfl,Tryz.sizeOf9,rfl,rfl⟩
theorem Yy:Re Tryz.prog 81 6 6:=⟨_,_,_,Tryz.underlying81,rfl,Tryz.sizeOf9,rfl,rfl⟩
theorem AI:Re Tryz.prog 81 7 7:=⟨_,_,_,Tryz.underlying81,rfl,Tryz.sizeOf3,rfl,rfl⟩
theorem JL:Re Tryz.prog 81 8 8:=⟨_,_,_,Tryz.underlying81,rfl,Tryz.sizeOf3,rfl,rfl⟩
theorem Zq:Re Tryz.prog 81 9 9:=⟨_,_,_,Tryz.underlying81,rfl,Tryz.sizeOf9,rfl,rfl⟩
theorem Ws:Re Tryz.prog 81 10 10:=⟨_,_,_,Tryz.underlying81,rfl,Tryz.sizeOf3,rfl,rfl⟩
theorem fa_91_0:Re Tryz.prog 91 0 0:=⟨_,_,_,Tryz.underlying91,rfl,Tryz.sizeOf9,rfl,rfl⟩
theorem fa_91_1:Re Tryz.prog 91 1 1:=⟨_,_,_,Tryz.underlying91,rfl,Tryz.sizeOf3,rfl,rfl⟩
theorem fa_99_0:Re Tryz.prog 99 0 0:=⟨_,_,_,Tryz.underlying99,rfl,Tryz.sizeOf32,rfl,rfl⟩
theorem SD:Re Tryz.prog 99 1 7:=⟨_,_,_,Tryz.underlying99,rfl,Tryz.sizeOf34,rfl,rfl⟩
theorem fa_113_0:Re Tryz.prog 113 0 0:=⟨_,_,_,Tryz.underlying113,rfl,Tryz.sizeOf9,rfl,rfl⟩
theorem JM:Re Tryz.prog 113 1 1:=⟨_,_,_,Tryz.underlying113,rfl,Tryz.sizeOf3,rfl,rfl⟩
theorem FU:Re Tryz.prog 113 2 2:=⟨_,_,_,Tryz.underlying113,rfl,Tryz.sizeOf3,rfl,rfl⟩
theorem fa_113_3:Re Tryz.prog 113 3 3:=⟨_,_,_,Tryz.underlying113,rfl,Tryz.sizeOf3,rfl,rfl⟩
theorem FV:Re Tryz.prog 115 0 0:=⟨_,_,_,Tryz.underlying115,rfl,Tryz.sizeOf9,rfl,rfl⟩
theorem ND:Re Tryz.prog 115 1 1:=⟨_,_,_,Tryz.underlying115,rfl,Tryz.sizeOf9,rfl,rfl⟩
theorem fa_115_2:Re Tryz.prog 115 2 2:=⟨_,_,_,Tryz.underlying115,rfl,Tryz.sizeOf9,rfl,rfl⟩
theorem Wt:Re Tryz.prog 115 3 3:=⟨_,_,_,Tryz.underlying115,rfl,Tryz.sizeOf3,rfl,rfl⟩
theorem JN:Re Tryz.prog 115 4 4:=⟨_,_,_,Tryz.underlying115,rfl,Tryz.sizeOf4,rfl,rfl⟩
theorem fa_124_0:Re Tryz.prog 124 0 0:=⟨_,_,_,Tryz.underlying124,rfl,Tryz.sizeOf9,rfl,rfl⟩
theorem fa_124_1:Re Tryz.prog 124 1 1:=⟨_,_,_,Tryz.underlying124,rfl,Tryz.sizeOf71,rfl,rfl⟩
theorem NE:Re Tryz.prog 171 0 0:=⟨_,_,_,Tryz.underlying171,rfl,Tryz.sizeOf9,rfl,rfl⟩
theorem fa_171_1:Re Tryz.prog 171 1 1:=⟨_,_,_,Tryz.underlying171,rfl,Tryz.sizeOf3,rfl,rfl⟩
theorem NF:Re Tryz.prog 179 0 0:=⟨_,_,_,Tryz.underlying179,rfl,Tryz.sizeOf115,rfl,rfl⟩
theorem NG:Re Tryz.prog 179 1 5:=⟨_,_,_,Tryz.underlying179,rfl,Tryz.sizeOf71,rfl,rfl⟩
theorem fa_187_0:Re Tryz.prog 187 0 0:=⟨_,_,_,Tryz.underlying187,rfl,Tryz.sizeOf4,rfl,rfl⟩
theorem fa_187_1:Re Tryz.prog 187 1 1:=⟨_,_,_,Tryz.underlying187,rfl,Tryz.sizeOf39,rfl,rfl⟩
theorem eq_71(dd:Nat)(x y:Ef)(w:World):(Op.equalIn (dd+2) 71 (.agg (Ef.enc x).toArray) (.agg (Ef.enc y).toArray)).run Tryz.prog w= .ok (decide (x=y)) w:=by
 refine Xs (dd:=dd+1) (fs:=(Tryz.prog.fieldsOf 71).toList) (by kernel_rfl) rfl (by kernel_rfl) (?_:_=Result.ok (decide (x.Num=y.Num) && (decide (x.Den=y.Den) && true)) w) (by cases x;cases y;simp[Bool.decide_and]);simp only[Program.fieldsOf,Tryz.underlying71];exact(Nf aC (Gz Tryz.isAgg3 rfl) (Gz Tryz.isAgg3 rfl) (Qt Tryz.underlying3) (Nf aC (Gz Tryz.isAgg3 rfl) (Gz Tryz.isAgg3 rfl) (Qt Tryz.underlying3) GP))
theorem rn_eql_71{a:Act}{w:World}{x y:Operand}{u ty:TypeId}{m n:Ef}(hx:a.eval x= .agg (Ef.enc m).toArray)(hy:a.eval y= .agg (Ef.enc n).toArray):Rn Tryz.prog a w (.binOp .eql 71 x y u) ty (.bool (decide (m=n))):=
 GQ 2 (by kernel_rfl) (λw=>eq_71 _ m n w) rfl hx hy
theorem rn_neq_71{a:Act}{w:World}{x y:Operand}{u ty:TypeId}{m n:Ef}(hx:a.eval x= .agg (Ef.enc m).toArray)(hy:a.eval y= .agg (Ef.enc n).toArray):Rn Tryz.prog a w (.binOp .neq 71 x y u) ty (.bool (!decide (m=n))):=
 GR 2 (by kernel_rfl) (λw=>eq_71 _ m n w) rfl hx hy
theorem eq_73(dd:Nat)(x y:Dy)(w:World):(Op.equalIn (dd+3) 73 (.agg (Dy.enc x).toArray) (.agg (Dy.enc y).toArray)).run Tryz.prog w= .ok (decide (x=y)) w:=by
 refine Xs (dd:=dd+2) (fs:=(Tryz.prog.fieldsOf 73).toList) (by kernel_rfl) rfl (by kernel_rfl) (?_:_=Result.ok (decide (x.Rank=y.Rank) && (decide (x.Who=y.Who) && (decide (x.Club=y.Club) && (decide (x.Time=y.Time) && (decide (x.Fault=y.Fault) && (decide (x.Points=y.Points) && true)))))) w) (by cases x;cases y;simp[Bool.decide_and]);simp only[Program.fieldsOf,Tryz.underlying73];exact(Nf aC (Gz Tryz.isAgg3 rfl) (Gz Tryz.isAgg3 rfl) (Qt Tryz.underlying3) (Nf aC (Gz Tryz.isAgg9 rfl) (Gz Tryz.isAgg9 rfl) (Qu Tryz.underlying9) (Nf aC (Gz Tryz.isAgg9 rfl) (Gz Tryz.isAgg9 rfl) (Qu Tryz.underlying9) (Nf aC (Gz Tryz.isAgg3 rfl) (Gz Tryz.isAgg3 rfl) (Qt Tryz.underlying3) (Nf aC (Gz Tryz.isAgg3 rfl) (Gz Tryz.isAgg3 rfl) (Qt Tryz.underlying3) (Nf aC (TJ (cs:=Ef.enc x.Points) Tryz.isAgg71 Tryz.sizeOf71 rfl) (TJ (cs:=Ef.enc y.Points) Tryz.isAgg71 Tryz.sizeOf71 rfl) (eq_71 (dd+0) x.Points y.Points w) GP))))))
theorem rn_eql_73{a:Act}{w:World}{x y:Operand}{u ty:TypeId}{m n:Dy}(hx:a.eval x= .agg (Dy.enc m).toArray)(hy:a.eval y= .agg (Dy.enc n).toArray):Rn Tryz.prog a w (.binOp .eql 73 x y u) ty (.bool (decide (m=n))):=
 GQ 3 (by kernel_rfl) (λw=>eq_73 _ m n w) rfl hx hy
theorem ZZ{a:Act}{w:World}{x y:Operand}{u ty:TypeId}{m n:Dy}(hx:a.eval x= .agg (Dy.enc m).toArray)(hy:a.eval y= .agg (Dy.enc n).toArray):Rn Tryz.prog a w (.binOp .neq 73 x y u) ty (.bool (!decide (m=n))):=
 GR 3 (by kernel_rfl) (λw=>eq_73 _ m n w) rfl hx hy
theorem eq_81(dd:Nat)(x y:Dt)(w:World):(Op.equalIn (dd+2) 81 (.agg (Dt.enc x).toArray) (.agg (Dt.enc y).toArray)).run Tryz.prog w= .ok (decide (x=y)) w:=by
 refine Xs (dd:=dd+1) (fs:=(Tryz.prog.fieldsOf 81).toList) (by kernel_rfl) rfl (by kernel_rfl) (?_:_=Result.ok (decide (x.Site=y.Site) && (decide (x.No=y.No) && (decide (x.At=y.At) && (decide (x.Kind=y.Kind) && (decide (x.Who=y.Who) && (decide (x.Club=y.Club) && (decide (x.Race=y.Race) && (decide (x.Time=y.Time) && (decide (x.Fault=y.Fault) && (decide (x.Of=y.Of) && (decide (x.Other=y.Other) && true))))))))))) w) (by cases x;cases y;simp[Bool.decide_and]);simp only[Program.fieldsOf,Tryz.underlying81];exact(Nf aC (Gz Tryz.isAgg9 rfl) (Gz Tryz.isAgg9 rfl) (Qu Tryz.underlying9) (Nf aC (Gz Tryz.isAgg3 rfl) (Gz Tryz.isAgg3 rfl) (Qt Tryz.underlying3) (Nf aC (Gz Tryz.isAgg3 rfl) (Gz Tryz.isAgg3 rfl) (Qt Tryz.underlying3) (Nf aC (Gz Tryz.isAgg3 rfl) (Gz Tryz.isAgg3 rfl) (Qt Tryz.underlying3) (Nf aC (Gz Tryz.isAgg9 rfl) (Gz Tryz.isAgg9 rfl) (Qu Tryz.underlying9) (Nf aC (Gz Tryz.isAgg9 rfl) (Gz Tryz.isAgg9 rfl) (Qu Tryz.underlying9) (Nf aC (Gz Tryz.isAgg9 rfl) (Gz Tryz.isAgg9 rfl) (Qu Tryz.underlying9) (Nf aC (Gz Tryz.isAgg3 rfl) (Gz Tryz.isAgg3 rfl) (Qt Tryz.underlying3) (Nf aC (Gz Tryz.isAgg3 rfl) (Gz Tryz.isAgg3 rfl) (Qt Tryz.underlying3) (Nf aC (Gz Tryz.isAgg9 rfl) (Gz Tryz.isAgg9 rfl) (Qu Tryz.underlying9) (Nf aC (Gz Tryz.isAgg3 rfl) (Gz Tryz.isAgg3 rfl) (Qt Tryz.underlying3) GP)))))))))))
theorem rn_eql_81{a:Act}{w:World}{x y:Operand}{u ty:TypeId}{m n:Dt}(hx:a.eval x= .agg (Dt.enc m).toArray)(hy:a.eval y= .agg (Dt.enc n).toArray):Rn Tryz.prog a w (.binOp .eql 81 x y u) ty (.bool (decide (m=n))):=
 GQ 2 (by kernel_rfl) (λw=>eq_81 _ m n w) rfl hx hy
theorem PW{a:Act}{w:World}{x y:Operand}{u ty:TypeId}{m n:Dt}(hx:a.eval x= .agg (Dt.enc m).toArray)(hy:a.eval y= .agg (Dt.enc n).toArray):Rn Tryz.prog a w (.binOp .neq 81 x y u) ty (.bool (!decide (m=n))):=
 GR 2 (by kernel_rfl) (λw=>eq_81 _ m n w) rfl hx hy
theorem eq_115(dd:Nat)(x y:Du)(w:World):(Op.equalIn (dd+2) 115 (.agg (Du.enc x).toArray) (.agg (Du.enc y).toArray)).run Tryz.prog w= .ok (decide (x=y)) w:=by
 refine Xs (dd:=dd+1) (fs:=(Tryz.prog.fieldsOf 115).toList) (by kernel_rfl) rfl (by kernel_rfl) (?_:_=Result.ok (decide (x.Race=y.Race) && (decide (x.Who=y.Who) && (decide (x.Club=y.Club) && (decide (x.Rank=y.Rank) && (decide (x.Relay=y.Relay) && true))))) w) (by cases x;cases y;simp[Bool.decide_and]);simp only[Program.fieldsOf,Tryz.underlying115];exact(Nf aC (Gz Tryz.isAgg9 rfl) (Gz Tryz.isAgg9 rfl) (Qu Tryz.underlying9) (Nf aC (Gz Tryz.isAgg9 rfl) (Gz Tryz.isAgg9 rfl) (Qu Tryz.underlying9) (Nf aC (Gz Tryz.isAgg9 rfl) (Gz Tryz.isAgg9 rfl) (Qu Tryz.underlying9) (Nf aC (Gz Tryz.isAgg3 rfl) (Gz Tryz.isAgg3 rfl) (Qt Tryz.underlying3) (Nf aC (Gz Tryz.isAgg4 rfl) (Gz Tryz.isAgg4 rfl) (RN Tryz.underlying4) GP)))))
theorem WB{a:Act}{w:World}{x y:Operand}{u ty:TypeId}{m n:Du}(hx:a.eval x= .agg (Du.enc m).toArray)(hy:a.eval y= .agg (Du.enc n).toArray):Rn Tryz.prog a w (.binOp .eql 115 x y u) ty (.bool (decide (m=n))):=
 GQ 2 (by kernel_rfl) (λw=>eq_115 _ m n w) rfl hx hy
theorem rn_neq_115{a:Act}{w:World}{x y:Operand}{u ty:TypeId}{m n:Du}(hx:a.eval x= .agg (Du.enc m).toArray)(hy:a.eval y= .agg (Du.enc n).toArray):Rn Tryz.prog a w (.binOp .neq 115 x y u) ty (.bool (!decide (m=n))):=
 GR 2 (by kernel_rfl) (λw=>eq_115 _ m n w) rfl hx hy
theorem WC(dd:Nat)(x y:Ev)(w:World):(Op.equalIn (dd+2) 150 (.agg (Ev.enc x).toArray) (.agg (Ev.enc y).toArray)).run Tryz.prog w= .ok (decide (x=y)) w:=by
 refine Xs (dd:=dd+1) (fs:=(Tryz.prog.fieldsOf 150).toList) (by kernel_rfl) rfl (by kernel_rfl) (?_:_=Result.ok (decide (x.site_=y.site_) && (decide (x.no_=y.no_) && true)) w) (by cases x;cases y;simp[Bool.decide_and]);simp only[Program.fieldsOf,Tryz.underlying150];exact(Nf aC (Gz Tryz.isAgg9 rfl) (Gz Tryz.isAgg9 rfl) (Qu Tryz.underlying9) (Nf aC (Gz Tryz.isAgg3 rfl) (Gz Tryz.isAgg3 rfl) (Qt Tryz.underlying3) GP))
theorem rn_eql_150{a:Act}{w:World}{x y:Operand}{u ty:TypeId}{m n:Ev}(hx:a.eval x= .agg (Ev.enc m).toArray)(hy:a.eval y= .agg (Ev.enc n).toArray):Rn Tryz.prog a w (.binOp .eql 150 x y u) ty (.bool (decide (m=n))):=
 GQ 2 (by kernel_rfl) (λw=>WC _ m n w) rfl hx hy
theorem rn_neq_150{a:Act}{w:World}{x y:Operand}{u ty:TypeId}{m n:Ev}(hx:a.eval x= .agg (Ev.enc m).toArray)(hy:a.eval y= .agg (Ev.enc n).toArray):Rn Tryz.prog a w (.binOp .neq 150 x y u) ty (.bool (!decide (m=n))):=
 GR 2 (by kernel_rfl) (λw=>WC _ m n w) rfl hx hy
theorem WD(dd:Nat)(x y:Fl)(w:World):(Op.equalIn (dd+2) 261 (.agg (Fl.enc x).toArray) (.agg (Fl.enc y).toArray)).run Tryz.prog w= .ok (decide (x=y)) w:=by
 refine Xs (dd:=dd+1) (fs:=(Tryz.prog.fieldsOf 261).toList) (by kernel_rfl) rfl (by kernel_rfl) (?_:_=Result.ok (decide (x.race_=y.race_) && (decide (x.who_=y.who_) && true)) w) (by cases x;cases y;simp[Bool.decide_and]);simp only[Program.fieldsOf,Tryz.underlying261];exact(Nf aC (Gz Tryz.isAgg9 rfl) (Gz Tryz.isAgg9 rfl) (Qu Tryz.underlying9) (Nf aC (Gz Tryz.isAgg9 rfl) (Gz Tryz.isAgg9 rfl) (Qu Tryz.underlying9) GP))
theorem rn_eql_261{a:Act}{w:World}{x y:Operand}{u ty:TypeId}{m n:Fl}(hx:a.eval x= .agg (Fl.enc m).toArray)(hy:a.eval y= .agg (Fl.enc n).toArray):Rn Tryz.prog a w (.binOp .eql 261 x y u) ty (.bool (decide (m=n))):=
 GQ 2 (by kernel_rfl) (λw=>WD _ m n w) rfl hx hy
theorem rn_neq_261{a:Act}{w:World}{x y:Operand}{u ty:TypeId}{m n:Fl}(hx:a.eval x= .agg (Fl.enc m).toArray)(hy:a.eval y= .agg (Fl.enc n).toArray):Rn Tryz.prog a w (.binOp .neq 261 x y u) ty (.bool (!decide (m=n))):=
 GR 2 (by kernel_rfl) (λw=>WD _ m n w) rfl hx hy
theorem JO:LQ Tryz.prog 150 (λx=>Value.agg (Ev.enc x).toArray):=
 TP 2 rfl Tryz.underlying150 (λem x w=>XM Tryz.underlying150 (by
  intro f hf _
  simp only[bB,bM,or_false] at hf
  rcases hf with rfl|rfl
  ·exact⟨_,λw=>Gz Tryz.isAgg9 rfl,λw=>RV Tryz.underlying9⟩
  ·exact⟨_,λw=>Gz Tryz.isAgg3 rfl,λw=>chk_int Tryz.underlying3⟩)) WC (λx=>by simp[Instr.sameBits,Ev.enc,PT])
theorem TV:LQ Tryz.prog 261 (λx=>Value.agg (Fl.enc x).toArray):=
 TP 2 rfl Tryz.underlying261 (λem x w=>XM Tryz.underlying261 (by
  intro f hf _
  simp only[bB,bM,or_false] at hf
  rcases hf with rfl|rfl
  ·exact⟨_,λw=>Gz Tryz.isAgg9 rfl,λw=>RV Tryz.underlying9⟩
  ·exact⟨_,λw=>Gz Tryz.isAgg9 rfl,λw=>RV Tryz.underlying9⟩)) WD (λx=>by simp[Instr.sameBits,Fl.enc,PT])
theorem bt_25:DP Tryz.prog 25 (.agg #[.slice none 0 0,iV 0]) [(0,1),(1,1)]:=⟨_,Tryz.underlying25,Tryz.zeroValue25,λ_=>by kernel_rfl⟩
theorem bt_28:DP Tryz.prog 28 (.agg #[.slice none 0 0,iV 0,iV 0]) [(0,1),(1,1),(2,1)]:=⟨_,Tryz.underlying28,Tryz.zeroValue28,λ_=>by kernel_rfl⟩
theorem bt_30:DP Tryz.prog 30 (.agg #[iV 0,iV 0,iV 0]) [(0,1),(1,1),(2,1)]:=⟨_,Tryz.underlying30,Tryz.zeroValue30,λ_=>by kernel_rfl⟩
theorem bt_32:DP Tryz.prog 32 (.agg #[.slice none 0 0,.slice none 0 0,iV 0,iV 0,iV 0,iV 0,iV 0]) [(0,1),(1,3),(4,3)]:=⟨_,Tryz.underlying32,Tryz.zeroValue32,λ_=>by kernel_rfl⟩
theorem PX:DP Tryz.prog 65 (.agg #[sV An,iV 0,iV 0,iV 0,iV 0,iV 0,iV 0,iV 0]) [(0,1),(1,1),(2,1),(3,1),(4,1),(5,1),(6,1),(7,1)]:=⟨_,Tryz.underlying65,Tryz.zeroValue65,λ_=>by kernel_rfl⟩
theorem PY:DP Tryz.prog 71 (.agg #[iV 0,iV 0]) [(0,1),(1,1)]:=⟨_,Tryz.underlying71,Tryz.zeroValue71,λ_=>by kernel_rfl⟩
theorem bt_73:DP Tryz.prog 73 (.agg #[iV 0,sV An,sV An,iV 0,iV 0,iV 0,iV 0]) [(0,1),(1,1),(2,1),(3,1),(4,1),(5,2)]:=⟨_,Tryz.underlying73,Tryz.zeroValue73,λ_=>by kernel_rfl⟩
theorem LK:DP Tryz.prog 81 (.agg #[sV An,iV 0,iV 0,iV 0,sV An,sV An,sV An,iV 0,iV 0,sV An,iV 0]) [(0,1),(1,1),(2,1),(3,1),(4,1),(5,1),(6,1),(7,1),(8,1),(9,1),(10,1)]:=⟨_,Tryz.underlying81,Tryz.zeroValue81,λ_=>by kernel_rfl⟩
theorem bt_91:DP Tryz.prog 91 (.agg #[sV An,iV 0]) [(0,1),(1,1)]:=⟨_,Tryz.underlying91,Tryz.zeroValue91,λ_=>by kernel_rfl⟩
theorem bt_99:DP Tryz.prog 99 (.agg #[.slice none 0 0,.slice none 0 0,iV 0,iV 0,iV 0,iV 0,iV 0,.slice none 0 0]) [(0,7),(7,1)]:=⟨_,Tryz.underlying99,Tryz.zeroValue99,λ_=>by kernel_rfl⟩
theorem bt_113:DP Tryz.prog 113 (.agg #[sV An,iV 0,iV 0,iV 0]) [(0,1),(1,1),(2,1),(3,1)]:=⟨_,Tryz.underlying113,Tryz.zeroValue113,λ_=>by kernel_rfl⟩
theorem bt_115:DP Tryz.prog 115 (.agg #[sV An,sV An,sV An,iV 0,bV false]) [(0,1),(1,1),(2,1),(3,1),(4,1)]:=⟨_,Tryz.underlying115,Tryz.zeroValue115,λ_=>by kernel_rfl⟩
theorem bt_124:DP Tryz.prog 124 (.agg #[sV An,iV 0,iV 0]) [(0,1),(1,2)]:=⟨_,Tryz.underlying124,Tryz.zeroValue124,λ_=>by kernel_rfl⟩
theorem bt_150:DP Tryz.prog 150 (.agg #[sV An,iV 0]) [(0,1),(1,1)]:=⟨_,Tryz.underlying150,Tryz.zeroValue150,λ_=>by kernel_rfl⟩
theorem bt_171:DP Tryz.prog 171 (.agg #[sV An,iV 0,.slice none 0 0]) [(0,1),(1,1),(2,1)]:=⟨_,Tryz.underlying171,Tryz.zeroValue171,λ_=>by kernel_rfl⟩
theorem bt_179:DP Tryz.prog 179 (.agg #[sV An,sV An,sV An,iV 0,bV false,iV 0,iV 0]) [(0,5),(5,2)]:=⟨_,Tryz.underlying179,Tryz.zeroValue179,λ_=>by kernel_rfl⟩
theorem SE:DP Tryz.prog 187 (.agg #[bV false,iV 0]) [(0,1),(1,1)]:=⟨_,Tryz.underlying187,Tryz.zeroValue187,λ_=>by kernel_rfl⟩
theorem bt_261:DP Tryz.prog 261 (.agg #[sV An,sV An]) [(0,1),(1,1)]:=⟨_,Tryz.underlying261,Tryz.zeroValue261,λ_=>by kernel_rfl⟩
instance:FldI Tryz.prog 25 0 0:=⟨RZ⟩
instance:FldI Tryz.prog 25 1 1:=⟨SA⟩
instance:FldI Tryz.prog 28 0 0:=⟨SB⟩
instance:FldI Tryz.prog 28 1 1:=⟨XQ⟩
instance:FldI Tryz.prog 28 2 2:=⟨XR⟩
instance:FldI Tryz.prog 30 0 0:=⟨fa_30_0⟩
instance:FldI Tryz.prog 30 1 1:=⟨fa_30_1⟩
instance:FldI Tryz.prog 30 2 2:=⟨fa_30_2⟩
instance:FldI Tryz.prog 32 0 0:=⟨MJ⟩
instance:FldI Tryz.prog 32 1 1:=⟨MK⟩
instance:FldI Tryz.prog 32 2 4:=⟨ML⟩
instance:FldI Tryz.prog 65 0 0:=⟨GW⟩
instance:FldI Tryz.prog 65 1 1:=⟨fa_65_1⟩
instance:FldI Tryz.prog 65 2 2:=⟨fa_65_2⟩
instance:FldI Tryz.prog 65 3 3:=⟨fa_65_3⟩
instance:FldI Tryz.prog 65 4 4:=⟨fa_65_4⟩
instance:FldI Tryz.prog 65 5 5:=⟨fa_65_5⟩
instance:FldI Tryz.prog 65 6 6:=⟨XS⟩
instance:FldI Tryz.prog 65 7 7:=⟨XT⟩
instance:FldI Tryz.prog 73 0 0:=⟨MM⟩
instance:FldI Tryz.prog 73 1 1:=⟨fa_73_1⟩
instance:FldI Tryz.prog 73 2 2:=⟨fa_73_2⟩
instance:FldI Tryz.prog 73 3 3:=⟨SC⟩
instance:FldI Tryz.prog 73 4 4:=⟨fa_73_4⟩
instance:FldI Tryz.prog 73 5 5:=⟨XU⟩
instance:FldI Tryz.prog 81 0 0:=⟨CK⟩
instance:FldI Tryz.prog 81 1 1:=⟨BI⟩
instance:FldI Tryz.prog 81 2 2:=⟨JJ⟩
instance:FldI Tryz.prog 81 3 3:=⟨Wl⟩
instance:FldI Tryz.prog 81 4 4:=⟨Yx⟩
instance:FldI Tryz.prog 81 5 5:=⟨JK⟩
instance:FldI Tryz.prog 81 6 6:=⟨Yy⟩
instance:FldI Tryz.prog 81 7 7:=⟨AI⟩
instance:FldI Tryz.prog 81 8 8:=⟨JL⟩
instance:FldI Tryz.prog 81 9 9:=⟨Zq⟩
instance:FldI Tryz.prog 81 10 10:=⟨Ws⟩
instance:FldI Tryz.prog 91 0 0:=⟨fa_91_0⟩
instance:FldI Tryz.prog 91 1 1:=⟨fa_91_1⟩
instance:FldI Tryz.prog 99 0 0:=⟨fa_99_0⟩
instance:FldI Tryz.prog 99 1 7:=⟨SD⟩
instance:FldI Tryz.prog 113 0 0:=⟨fa_113_0⟩
instance:FldI Tryz.prog 113 1 1:=⟨JM⟩
instance:FldI Tryz.prog 113 2 2:=⟨FU⟩
instance:FldI Tryz.prog 113 3 3:=⟨fa_113_3⟩
instance:FldI Tryz.prog 115 0 0:=⟨FV⟩
instance:FldI Tryz.prog 115 1 1:=⟨ND⟩
instance:FldI Tryz.prog 115 2 2:=⟨fa_115_2⟩
instance:FldI Tryz.prog 115 3 3:=⟨Wt⟩
instance:FldI Tryz.prog 115 4 4:=⟨JN⟩
instance:FldI Tryz.prog 124 0 0:=⟨fa_124_0⟩
instance:FldI Tryz.prog 124 1 1:=⟨fa_124_1⟩
instance:FldI Tryz.prog 171 0 0:=⟨NE⟩
instance:FldI Tryz.prog 171 1 1:=⟨fa_171_1⟩
instance:FldI Tryz.prog 179 0 0:=⟨NF⟩
instance:FldI Tryz.prog 179 1 5:=⟨NG⟩
instance:FldI Tryz.prog 187 0 0:=⟨fa_187_0⟩
instance:FldI Tryz.prog 187 1 1:=⟨fa_187_1⟩
instance:AgF Tryz.prog 3:=⟨Tryz.isAgg3⟩
instance:AgF Tryz.prog 4:=⟨Tryz.isAgg4⟩
instance:AgF Tryz.prog 9:=⟨Tryz.isAgg9⟩
instance:AgF Tryz.prog 22:=⟨Tryz.isAgg22⟩
instance:AgF Tryz.prog 26:=⟨Tryz.isAgg26⟩
instance:AgF Tryz.prog 34:=⟨Tryz.isAgg34⟩
instance:AgF Tryz.prog 39:=⟨Tryz.isAgg39⟩
instance:AgF Tryz.prog 50:=⟨Tryz.isAgg50⟩
instance:AgF Tryz.prog 111:=⟨Tryz.isAgg111⟩
instance:AgF Tryz.prog 148:=⟨Tryz.isAgg148⟩
instance:AgF Tryz.prog 184:=⟨Tryz.isAgg184⟩
instance:SlI Tryz.prog 22 3 1 8:=⟨Sl⟩
instance:SlI Tryz.prog 26 65 8 72:=⟨Ye⟩
instance:SlI Tryz.prog 34 81 11 128:=⟨Kt⟩
instance:SlI Tryz.prog 38 9 1 16:=⟨FQ⟩
instance:SlI Tryz.prog 66 73 7 72:=⟨Yf⟩
instance:SlI Tryz.prog 77 39 1 8:=⟨sl_77⟩
instance:SlI Tryz.prog 87 91 2 24:=⟨NC⟩
instance:SlI Tryz.prog 107 113 4 40:=⟨Wk⟩
instance:SlI Tryz.prog 111 115 5 64:=⟨Pv⟩
instance:SlI Tryz.prog 119 124 3 32:=⟨RY⟩
instance:SlI Tryz.prog 168 171 3 48:=⟨FR⟩
instance:SlI Tryz.prog 176 179 7 80:=⟨FT⟩
instance:SlI Tryz.prog 188 187 2 16:=⟨WA⟩
instance:SlI Tryz.prog 211 111 1 24:=⟨CS⟩
end Go.Proofs.YtconmpkpdfidiaaGreatDoor
