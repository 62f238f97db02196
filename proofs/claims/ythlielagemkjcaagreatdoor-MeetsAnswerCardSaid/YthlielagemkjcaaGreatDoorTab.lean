/- The program's tables,by program. -/
import Derived.Test.YthlielagemkjcaaGreatDoorTw
import Derived.Test.YthlielagemkjcaaGreatDoorSim
import Derived.Test.YthlielagemkjcaaGreatDoorProg
namespace Go.Proofs.YthlielagemkjcaaGreatDoor
open Go.Proofs.Tryz
open Go
theorem aF{p:Prop}(h:p:=by kernel_rfl):p:=h
abbrev bW(b:Nat):Value:= .pointer (some ⟨b,0,none⟩)
def Fp.enc(x:Fp):List Value:=[sV x.Key,iV x.Metres,iV x.Stroke,iV x.Course,iV x.Legs,iV x.Sex,iV x.Young,iV x.Old]
theorem Fp.enc_ok:Enc 8 Fp.enc:=⟨λ_=>rfl,λ_ u h=>by simp[Fp.enc] at h;rcases h with rfl|rfl|rfl|rfl|rfl|rfl|rfl|rfl<;>rfl⟩
def Mp.enc(x:Mp):List Value:=[iV x.Size,iV x.Many,iV x.Reserves]
theorem Mp.enc_ok:Enc 3 Mp.enc:=⟨λ_=>rfl,λ_ u h=>by simp[Mp.enc] at h;rcases h with rfl|rfl|rfl<;>rfl⟩
def Gf.enc(x:Gf):List Value:=[iV x.Low,iV x.High,iV x.Least,iV x.Circles]
theorem Gf.enc_ok:Enc 4 Gf.enc:=⟨λ_=>rfl,λ_ u h=>by simp[Gf.enc] at h;rcases h with rfl|rfl|rfl|rfl<;>rfl⟩
def An.enc(x:An):List Value:=[sV x.Site,iV x.No,iV x.At,iV x.Kind,sV x.Who,sV x.Club,sV x.Race,iV x.Time,iV x.Fault,sV x.Of,iV x.Other]
theorem An.enc_ok:Enc 11 An.enc:=⟨λ_=>rfl,λ_ u h=>by simp[An.enc] at h;rcases h with rfl|rfl|rfl|rfl|rfl|rfl|rfl|rfl|rfl|rfl|rfl<;>rfl⟩
def Fu.enc(x:Fu):List Value:=[sV x.site_,iV x.no_]
theorem Fu.enc_ok:Enc 2 Fu.enc:=⟨λ_=>rfl,λ_ u h=>by simp[Fu.enc] at h;rcases h with rfl|rfl<;>rfl⟩
def Fh.enc(x:Fh):List Value:=[iV x.Num,iV x.Den]
theorem Fh.enc_ok:Enc 2 Fh.enc:=⟨λ_=>rfl,λ_ u h=>by simp[Fh.enc] at h;rcases h with rfl|rfl<;>rfl⟩
def Fo.enc(x:Fo):List Value:=[iV x.Rank,sV x.Who,sV x.Club,iV x.Time,iV x.Fault,iV x.Points.Num,iV x.Points.Den]
theorem Fo.enc_ok:Enc 7 Fo.enc:=⟨λ_=>rfl,λ_ u h=>by simp[Fo.enc] at h;rcases h with rfl|rfl|rfl|rfl|rfl|rfl|rfl<;>rfl⟩
def Fi.enc(x:Fi):List Value:=[sV x.Who,iV x.Time]
theorem Fi.enc_ok:Enc 2 Fi.enc:=⟨λ_=>rfl,λ_ u h=>by simp[Fi.enc] at h;rcases h with rfl|rfl<;>rfl⟩
def Fj.enc(x:Fj):List Value:=[sV x.Who,iV x.Rank,iV x.Time,iV x.Fault]
theorem Fj.enc_ok:Enc 4 Fj.enc:=⟨λ_=>rfl,λ_ u h=>by simp[Fj.enc] at h;rcases h with rfl|rfl|rfl|rfl<;>rfl⟩
def Fd.enc(x:Fd):List Value:=[sV x.Race,sV x.Who,sV x.Club,iV x.Rank,bV x.Relay]
theorem Fd.enc_ok:Enc 5 Fd.enc:=⟨λ_=>rfl,λ_ u h=>by simp[Fd.enc] at h;rcases h with rfl|rfl|rfl|rfl|rfl<;>rfl⟩
def Fw.enc(x:Fw):List Value:=[sV x.race_,sV x.who_]
theorem Fw.enc_ok:Enc 2 Fw.enc:=⟨λ_=>rfl,λ_ u h=>by simp[Fw.enc] at h;rcases h with rfl|rfl<;>rfl⟩
def Fx.enc(x:Fx):List Value:=[sV x.Key,iV x.Points.Num,iV x.Points.Den]
theorem Fx.enc_ok:Enc 3 Fx.enc:=⟨λ_=>rfl,λ_ u h=>by simp[Fx.enc] at h;rcases h with rfl|rfl|rfl<;>rfl⟩
def Fl.enc(x:Fl):List Value:=[sV x.x_.Race,sV x.x_.Who,sV x.x_.Club,iV x.x_.Rank,bV x.x_.Relay,iV x.points_.Num,iV x.points_.Den]
theorem Fl.enc_ok:Enc 7 Fl.enc:=⟨λ_=>rfl,λ_ u h=>by simp[Fl.enc] at h;rcases h with rfl|rfl|rfl|rfl|rfl|rfl|rfl<;>rfl⟩
def Ft.enc(x:Ft):List Value:=[sV x.Who,iV x.Heat,iV x.Lane]
theorem Ft.enc_ok:Enc 3 Ft.enc:=⟨λ_=>rfl,λ_ u h=>by simp[Ft.enc] at h;rcases h with rfl|rfl|rfl<;>rfl⟩
def Hu.enc(x:Hu):List Go.Value:=[sV x.Name,sV x.Value]
theorem Hu.enc_ok:Enc 2 Hu.enc:=⟨λ_=>rfl,λ_ u h=>by simp[Hu.enc] at h;rcases h with rfl|rfl<;>rfl⟩
def Lf.enc(x:Lf):List Value:=[bV x.is_,iV x.e_]
theorem Lf.enc_ok:Enc 2 Lf.enc:=⟨λ_=>rfl,λ_ u h=>by simp[Lf.enc] at h;rcases h with rfl|rfl<;>rfl⟩
structure R28 where
 mk::
 (Points:RS)
 (Relay:Int)
 (Most:Int)
def R28.enc(x:R28):List Value:=[x.Points.val,iV x.Relay,iV x.Most]
theorem R28.enc_ok:Enc 3 R28.enc:=⟨λ_=>rfl,λx u h=>by
 simp only[R28.enc,bB,bM,or_false] at h
 rcases h with rfl|rfl|rfl
 ·exact x.Points.property
 ·exact rfl
 ·exact rfl⟩
def Xs(φ:View)(x:Il)(r:R28):Prop:=∃u1:RS,r=⟨u1,x.Relay,x.Most⟩/\Slc φ 1 u1.val (x.Points.map eInt)
theorem CB{φ ψ:View}(l:View.le φ ψ)(x:Il)(r:R28)(h:Xs φ x r):Xs ψ x r:=by
 obtain⟨u1,e,h1⟩:=h;exact⟨u1,e,h1.mono l⟩
theorem SE{φ ψ:View}(l:View.le φ ψ){xs:List Il}{rs:List R28}(h:Mu (Xs φ) xs rs):Mu (Xs ψ) xs rs:=h.chg (CB l)
structure R32 where
 mk::
 (Races:RS)
 (Table:R28)
 (Final:Mp)
def R32.enc(x:R32):List Value:=[x.Races.val]++R28.enc x.Table++[iV x.Final.Size,iV x.Final.Many,iV x.Final.Reserves]
theorem R32.enc_ok:Enc 7 R32.enc:=⟨λx=>by simp[R32.enc,R28.enc_ok.len],λx u h=>by
 simp only[R32.enc,bC,bB,bM,or_false] at h
 first
 |(rcases h with (h|h)|h
   ·rcases h with rfl
    ·exact x.Races.property
   ·exact R28.enc_ok.one _ u h
   ·rcases h with rfl|rfl|rfl
    ·exact rfl
    ·exact rfl
    ·exact rfl)⟩
def Lb(φ:View)(x:Ge)(r:R32):Prop:=∃u1:RS,∃u2:R28,r=⟨u1,u2,x.Final⟩/\Slc φ 8 u1.val (x.Races.map Fp.enc)/\Xs φ x.Table u2
theorem EH{φ ψ:View}(l:View.le φ ψ)(x:Ge)(r:R32)(h:Lb φ x r):Lb ψ x r:=by
 obtain⟨u1,u2,e,h1,h2⟩:=h;exact⟨u1,u2,e,h1.mono l,CB l _ _ h2⟩
theorem SF{φ ψ:View}(l:View.le φ ψ){xs:List Ge}{rs:List R32}(h:Mu (Lb φ) xs rs):Mu (Lb ψ) xs rs:=h.chg (EH l)
structure JF where
 mk::
 (p_:R32)
 (deeds_:RS)
def JF.enc(x:JF):List Value:=R32.enc x.p_++[x.deeds_.val]
theorem JF.enc_ok:Enc 8 JF.enc:=⟨λx=>by simp[JF.enc,R32.enc_ok.len],λx u h=>by
 simp only[JF.enc,bC,bB,bM,or_false] at h
 first
 |(rcases h with h|h
   ·exact R32.enc_ok.one _ u h
   ·rcases h with rfl
    ·exact x.deeds_.property)⟩
def CV(φ:View)(x:Jr)(r:JF):Prop:=∃u1:R32,∃u2:RS,r=⟨u1,u2⟩/\Lb φ x.p_ u1/\Slc φ 11 u2.val (x.deeds_.map An.enc)
theorem VD{φ ψ:View}(l:View.le φ ψ)(x:Jr)(r:JF)(h:CV φ x r):CV ψ x r:=by
 obtain⟨u1,u2,e,h1,h2⟩:=h;exact⟨u1,u2,e,EH l _ _ h1,h2.mono l⟩
theorem MY{φ ψ:View}(l:View.le φ ψ){xs:List Jr}{rs:List JF}(h:Mu (CV φ) xs rs):Mu (CV ψ) xs rs:=h.chg (VD l)
structure EM where
 mk::
 (Who:ByteArray)
 (Fault:Int)
 (Reports:RS)
def EM.enc(x:EM):List Value:=[sV x.Who,iV x.Fault,x.Reports.val]
theorem EM.enc_ok:Enc 3 EM.enc:=⟨λ_=>rfl,λx u h=>by
 simp only[EM.enc,bB,bM,or_false] at h
 rcases h with rfl|rfl|rfl
 ·exact rfl
 ·exact rfl
 ·exact x.Reports.property⟩
def Xo(φ:View)(x:Je)(r:EM):Prop:=∃u1:RS,r=⟨x.Who,x.Fault,u1⟩/\Slc φ 1 u1.val (x.Reports.map Io)
theorem VE{φ ψ:View}(l:View.le φ ψ)(x:Je)(r:EM)(h:Xo φ x r):Xo ψ x r:=by
 obtain⟨u1,e,h1⟩:=h;exact⟨u1,e,h1.mono l⟩
theorem MZ{φ ψ:View}(l:View.le φ ψ){xs:List Je}{rs:List EM}(h:Mu (Xo φ) xs rs):Mu (Xo ψ) xs rs:=h.chg (VE l)
def JG(φ:View)(x:(List Fd))(r:RS):Prop:=Slc φ 5 r.val (x.map Fd.enc)
theorem VF{φ ψ:View}(l:View.le φ ψ)(x:(List Fd))(r:RS)(h:JG φ x r):JG ψ x r:=Slc.mono h l
theorem NA{φ ψ:View}(l:View.le φ ψ){xs:List (List Fd)}{rs:List RS}(h:Mu (JG φ) xs rs):Mu (JG ψ) xs rs:=h.chg (VF l)
def OO(φ:View)(x:(List ByteArray))(r:RS):Prop:=Slc φ 1 r.val (x.map Io)
theorem XU{φ ψ:View}(l:View.le φ ψ)(x:(List ByteArray))(r:RS)(h:OO φ x r):OO ψ x r:=Slc.mono h l
theorem OP{φ ψ:View}(l:View.le φ ψ){xs:List (List ByteArray)}{rs:List RS}(h:Mu (OO φ) xs rs):Mu (OO ψ) xs rs:=h.chg (XU l)
theorem Tryz.mixed:prog.follows .mixedOrders=true:=by kernel_rfl
theorem FD:SlT prog 22 3 1 8:=BR (z:=(iV 0)) underlying22 sizeOf3 (by kernel_rfl) rfl
theorem Ahq:SlT prog 26 79 8 72:=BR (z:=(.agg #[sV Ff,iV 0,iV 0,iV 0,iV 0,iV 0,iV 0,iV 0])) underlying26 sizeOf79 (by kernel_rfl) rfl
theorem sl_37:SlT prog 37 87 11 128:=BR (z:=(.agg #[sV Ff,iV 0,iV 0,iV 0,sV Ff,sV Ff,sV Ff,iV 0,iV 0,sV Ff,iV 0])) underlying37 sizeOf87 (by kernel_rfl) rfl
theorem AV:SlT prog 68 9 1 16:=BR (z:=(sV Ff)) underlying68 sizeOf9 (by kernel_rfl) rfl
theorem sl_77:SlT prog 77 40 1 8:=BR (z:=(iV 0)) underlying77 sizeOf40 (by kernel_rfl) rfl
theorem NB:SlT prog 93 97 2 24:=BR (z:=(.agg #[sV Ff,iV 0])) underlying93 sizeOf97 (by kernel_rfl) rfl
theorem sl_120:SlT prog 120 124 3 32:=BR (z:=(.agg #[sV Ff,iV 0,iV 0])) underlying120 sizeOf124 (by kernel_rfl) rfl
theorem sl_125:SlT prog 125 131 3 32:=BR (z:=(.agg #[sV Ff,iV 0,iV 0])) underlying125 sizeOf131 (by kernel_rfl) rfl
theorem sl_134:SlT prog 134 138 2 32:=BR (z:=(.agg #[sV Ff,sV Ff])) underlying134 sizeOf138 (by kernel_rfl) rfl
theorem sl_151:SlT prog 151 155 7 72:=BR (z:=(.agg #[iV 0,sV Ff,sV Ff,iV 0,iV 0,iV 0,iV 0])) underlying151 sizeOf155 (by kernel_rfl) rfl
theorem sl_179:SlT prog 179 181 5 64:=BR (z:=(.agg #[sV Ff,sV Ff,sV Ff,iV 0,bV false])) underlying179 sizeOf181 (by kernel_rfl) rfl
theorem sl_231:SlT prog 231 230 2 16:=BR (z:=(.agg #[bV false,iV 0])) underlying231 sizeOf230 (by kernel_rfl) rfl
theorem CC:SlT prog 236 68 1 24:=BR (z:=(.slice none 0 0)) underlying236 sizeOf68 (by kernel_rfl) rfl
theorem sl_258:SlT prog 258 263 4 40:=BR (z:=(.agg #[sV Ff,iV 0,iV 0,iV 0])) underlying258 sizeOf263 (by kernel_rfl) rfl
theorem sl_294:SlT prog 294 296 3 48:=BR (z:=(.agg #[sV Ff,iV 0,.slice none 0 0])) underlying294 sizeOf296 (by kernel_rfl) rfl
theorem sl_301:SlT prog 301 304 7 80:=BR (z:=(.agg #[sV Ff,sV Ff,sV Ff,iV 0,bV false,iV 0,iV 0])) underlying301 sizeOf304 (by kernel_rfl) rfl
theorem sl_345:SlT prog 345 179 1 24:=BR (z:=(.slice none 0 0)) underlying345 sizeOf179 (by kernel_rfl) rfl
theorem fa_25_0:Oi prog 25 0 0:=⟨_,_,_,underlying25,rfl,sizeOf22,rfl,rfl⟩
theorem fa_25_1:Oi prog 25 1 1:=⟨_,_,_,underlying25,rfl,sizeOf3,rfl,rfl⟩
theorem Anb:Oi prog 28 0 0:=⟨_,_,_,underlying28,rfl,sizeOf22,rfl,rfl⟩
theorem Anc:Oi prog 28 1 1:=⟨_,_,_,underlying28,rfl,sizeOf3,rfl,rfl⟩
theorem Ane:Oi prog 28 2 2:=⟨_,_,_,underlying28,rfl,sizeOf3,rfl,rfl⟩
theorem fa_30_0:Oi prog 30 0 0:=⟨_,_,_,underlying30,rfl,sizeOf3,rfl,rfl⟩
theorem fa_30_1:Oi prog 30 1 1:=⟨_,_,_,underlying30,rfl,sizeOf3,rfl,rfl⟩
theorem fa_30_2:Oi prog 30 2 2:=⟨_,_,_,underlying30,rfl,sizeOf3,rfl,rfl⟩
theorem YU:Oi prog 32 0 0:=⟨_,_,_,underlying32,rfl,sizeOf26,rfl,rfl⟩
theorem Aff:Oi prog 32 1 1:=⟨_,_,_,underlying32,rfl,sizeOf28,rfl,rfl⟩
theorem Afg:Oi prog 32 2 4:=⟨_,_,_,underlying32,rfl,sizeOf30,rfl,rfl⟩
theorem fa_35_0:Oi prog 35 0 0:=⟨_,_,_,underlying35,rfl,sizeOf3,rfl,rfl⟩
theorem fa_35_1:Oi prog 35 1 1:=⟨_,_,_,underlying35,rfl,sizeOf3,rfl,rfl⟩
theorem fa_35_2:Oi prog 35 2 2:=⟨_,_,_,underlying35,rfl,sizeOf3,rfl,rfl⟩
theorem Anf:Oi prog 35 3 3:=⟨_,_,_,underlying35,rfl,sizeOf3,rfl,rfl⟩
theorem fa_61_0:Oi prog 61 0 0:=⟨_,_,_,underlying61,rfl,sizeOf32,rfl,rfl⟩
theorem fa_61_1:Oi prog 61 1 7:=⟨_,_,_,underlying61,rfl,sizeOf35,rfl,rfl⟩
theorem fa_61_2:Oi prog 61 2 11:=⟨_,_,_,underlying61,rfl,sizeOf37,rfl,rfl⟩
theorem fa_61_3:Oi prog 61 3 12:=⟨_,_,_,underlying61,rfl,sizeOf3,rfl,rfl⟩
theorem Ang:Oi prog 79 0 0:=⟨_,_,_,underlying79,rfl,sizeOf9,rfl,rfl⟩
theorem fa_79_1:Oi prog 79 1 1:=⟨_,_,_,underlying79,rfl,sizeOf3,rfl,rfl⟩
theorem fa_79_2:Oi prog 79 2 2:=⟨_,_,_,underlying79,rfl,sizeOf3,rfl,rfl⟩
theorem fa_79_3:Oi prog 79 3 3:=⟨_,_,_,underlying79,rfl,sizeOf3,rfl,rfl⟩
theorem fa_79_4:Oi prog 79 4 4:=⟨_,_,_,underlying79,rfl,sizeOf3,rfl,rfl⟩
theorem fa_79_5:Oi prog 79 5 5:=⟨_,_,_,underlying79,rfl,sizeOf3,rfl,rfl⟩
theorem fa_79_6:Oi prog 79 6 6:=⟨_,_,_,underlying79,rfl,sizeOf3,rfl,rfl⟩
theorem fa_79_7:Oi prog 79 7 7:=⟨_,_,_,underlying79,rfl,sizeOf3,rfl,rfl⟩
theorem fa_87_0:Oi prog 87 0 0:=⟨_,_,_,underlying87,rfl,sizeOf9,rfl,rfl⟩
theorem fa_87_1:Oi prog 87 1 1:=⟨_,_,_,underlying87,rfl,sizeOf3,rfl,rfl⟩
theorem fa_87_2:Oi prog 87 2 2:=⟨_,_,_,underlying87,rfl,sizeOf3,rfl,rfl⟩
theorem fa_87_3:Oi prog 87 3 3:=⟨_,_,_,underlying87,rfl,sizeOf3,rfl,rfl⟩
theorem fa_87_4:Oi prog 87 4 4:=⟨_,_,_,underlying87,rfl,sizeOf9,rfl,rfl⟩
theorem fa_87_5:Oi prog 87 5 5:=⟨_,_,_,underlying87,rfl,sizeOf9,rfl,rfl⟩
theorem fa_87_6:Oi prog 87 6 6:=⟨_,_,_,underlying87,rfl,sizeOf9,rfl,rfl⟩
theorem fa_87_7:Oi prog 87 7 7:=⟨_,_,_,underlying87,rfl,sizeOf3,rfl,rfl⟩
theorem fa_87_8:Oi prog 87 8 8:=⟨_,_,_,underlying87,rfl,sizeOf3,rfl,rfl⟩
theorem fa_87_9:Oi prog 87 9 9:=⟨_,_,_,underlying87,rfl,sizeOf9,rfl,rfl⟩
theorem fa_87_10:Oi prog 87 10 10:=⟨_,_,_,underlying87,rfl,sizeOf3,rfl,rfl⟩
theorem Afh:Oi prog 97 0 0:=⟨_,_,_,underlying97,rfl,sizeOf9,rfl,rfl⟩
theorem fa_97_1:Oi prog 97 1 1:=⟨_,_,_,underlying97,rfl,sizeOf3,rfl,rfl⟩
theorem fa_124_0:Oi prog 124 0 0:=⟨_,_,_,underlying124,rfl,sizeOf9,rfl,rfl⟩
theorem fa_124_1:Oi prog 124 1 1:=⟨_,_,_,underlying124,rfl,sizeOf3,rfl,rfl⟩
theorem fa_124_2:Oi prog 124 2 2:=⟨_,_,_,underlying124,rfl,sizeOf3,rfl,rfl⟩
theorem fa_129_0:Oi prog 129 0 0:=⟨_,_,_,underlying129,rfl,sizeOf3,rfl,rfl⟩
theorem fa_129_1:Oi prog 129 1 1:=⟨_,_,_,underlying129,rfl,sizeOf3,rfl,rfl⟩
theorem fa_131_0:Oi prog 131 0 0:=⟨_,_,_,underlying131,rfl,sizeOf9,rfl,rfl⟩
theorem fa_131_1:Oi prog 131 1 1:=⟨_,_,_,underlying131,rfl,sizeOf129,rfl,rfl⟩
theorem fa_138_0:Oi prog 138 0 0:=⟨_,_,_,underlying138,rfl,sizeOf9,rfl,rfl⟩
theorem fa_138_1:Oi prog 138 1 1:=⟨_,_,_,underlying138,rfl,sizeOf9,rfl,rfl⟩
theorem fa_155_0:Oi prog 155 0 0:=⟨_,_,_,underlying155,rfl,sizeOf3,rfl,rfl⟩
theorem fa_155_1:Oi prog 155 1 1:=⟨_,_,_,underlying155,rfl,sizeOf9,rfl,rfl⟩
theorem fa_155_2:Oi prog 155 2 2:=⟨_,_,_,underlying155,rfl,sizeOf9,rfl,rfl⟩
theorem fa_155_3:Oi prog 155 3 3:=⟨_,_,_,underlying155,rfl,sizeOf3,rfl,rfl⟩
theorem fa_155_4:Oi prog 155 4 4:=⟨_,_,_,underlying155,rfl,sizeOf3,rfl,rfl⟩
theorem fa_155_5:Oi prog 155 5 5:=⟨_,_,_,underlying155,rfl,sizeOf129,rfl,rfl⟩
theorem fa_181_0:Oi prog 181 0 0:=⟨_,_,_,underlying181,rfl,sizeOf9,rfl,rfl⟩
theorem fa_181_1:Oi prog 181 1 1:=⟨_,_,_,underlying181,rfl,sizeOf9,rfl,rfl⟩
theorem fa_181_2:Oi prog 181 2 2:=⟨_,_,_,underlying181,rfl,sizeOf9,rfl,rfl⟩
theorem fa_181_3:Oi prog 181 3 3:=⟨_,_,_,underlying181,rfl,sizeOf3,rfl,rfl⟩
theorem fa_181_4:Oi prog 181 4 4:=⟨_,_,_,underlying181,rfl,sizeOf4,rfl,rfl⟩
theorem fa_212_0:Oi prog 212 0 0:=⟨_,_,_,underlying212,rfl,sizeOf32,rfl,rfl⟩
theorem fa_212_1:Oi prog 212 1 7:=⟨_,_,_,underlying212,rfl,sizeOf37,rfl,rfl⟩
theorem fa_230_0:Oi prog 230 0 0:=⟨_,_,_,underlying230,rfl,sizeOf4,rfl,rfl⟩
theorem fa_230_1:Oi prog 230 1 1:=⟨_,_,_,underlying230,rfl,sizeOf40,rfl,rfl⟩
theorem fa_263_0:Oi prog 263 0 0:=⟨_,_,_,underlying263,rfl,sizeOf9,rfl,rfl⟩
theorem fa_263_1:Oi prog 263 1 1:=⟨_,_,_,underlying263,rfl,sizeOf3,rfl,rfl⟩
theorem fa_263_2:Oi prog 263 2 2:=⟨_,_,_,underlying263,rfl,sizeOf3,rfl,rfl⟩
theorem fa_263_3:Oi prog 263 3 3:=⟨_,_,_,underlying263,rfl,sizeOf3,rfl,rfl⟩
theorem fa_296_0:Oi prog 296 0 0:=⟨_,_,_,underlying296,rfl,sizeOf9,rfl,rfl⟩
theorem fa_296_1:Oi prog 296 1 1:=⟨_,_,_,underlying296,rfl,sizeOf3,rfl,rfl⟩
theorem fa_304_0:Oi prog 304 0 0:=⟨_,_,_,underlying304,rfl,sizeOf181,rfl,rfl⟩
theorem fa_304_1:Oi prog 304 1 5:=⟨_,_,_,underlying304,rfl,sizeOf129,rfl,rfl⟩
theorem eq_87(dd:Nat)(x y:An)(w:World):(Op.equalIn (dd+2) 87 (.agg (An.enc x).toArray) (.agg (An.enc y).toArray)).run prog w= .ok (decide (x=y)) w:=by
 refine JA (dd:=dd+1) (fs:=(prog.fieldsOf 87).toList) (by kernel_rfl) rfl (by kernel_rfl) (?_:_=Result.ok (decide (x.Site=y.Site) && (decide (x.No=y.No) && (decide (x.At=y.At) && (decide (x.Kind=y.Kind) && (decide (x.Who=y.Who) && (decide (x.Club=y.Club) && (decide (x.Race=y.Race) && (decide (x.Time=y.Time) && (decide (x.Fault=y.Fault) && (decide (x.Of=y.Of) && (decide (x.Other=y.Other) && true))))))))))) w) (by cases x;cases y;simp[Bool.decide_and]);simp only[Program.fieldsOf,underlying87];exact(Ry aC (Hm isAgg9 rfl) (Hm isAgg9 rfl) (Uv underlying9) (Ry aC (Hm isAgg3 rfl) (Hm isAgg3 rfl) (Zx underlying3) (Ry aC (Hm isAgg3 rfl) (Hm isAgg3 rfl) (Zx underlying3) (Ry aC (Hm isAgg3 rfl) (Hm isAgg3 rfl) (Zx underlying3) (Ry aC (Hm isAgg9 rfl) (Hm isAgg9 rfl) (Uv underlying9) (Ry aC (Hm isAgg9 rfl) (Hm isAgg9 rfl) (Uv underlying9) (Ry aC (Hm isAgg9 rfl) (Hm isAgg9 rfl) (Uv underlying9) (Ry aC (Hm isAgg3 rfl) (Hm isAgg3 rfl) (Zx underlying3) (Ry aC (Hm isAgg3 rfl) (Hm isAgg3 rfl) (Zx underlying3) (Ry aC (Hm isAgg9 rfl) (Hm isAgg9 rfl) (Uv underlying9) (Ry aC (Hm isAgg3 rfl) (Hm isAgg3 rfl) (Zx underlying3) YO)))))))))))
theorem Apy{a:Act}{w:World}{x y:Operand}{u ty:TypeId}{m n:An}(hx:a.eval x= .agg (An.enc m).toArray)(hy:a.eval y= .agg (An.enc n).toArray):Rn prog a w (.binOp .eql 87 x y u) ty (.bool (decide (m=n))):=
 YP 2 (by kernel_rfl) (λw=>eq_87 _ m n w) rfl hx hy
theorem Apz{a:Act}{w:World}{x y:Operand}{u ty:TypeId}{m n:An}(hx:a.eval x= .agg (An.enc m).toArray)(hy:a.eval y= .agg (An.enc n).toArray):Rn prog a w (.binOp .neq 87 x y u) ty (.bool (!decide (m=n))):=
 YQ 2 (by kernel_rfl) (λw=>eq_87 _ m n w) rfl hx hy
theorem Akx(dd:Nat)(x y:Fu)(w:World):(Op.equalIn (dd+2) 116 (.agg (Fu.enc x).toArray) (.agg (Fu.enc y).toArray)).run prog w= .ok (decide (x=y)) w:=by
 refine JA (dd:=dd+1) (fs:=(prog.fieldsOf 116).toList) (by kernel_rfl) rfl (by kernel_rfl) (?_:_=Result.ok (decide (x.site_=y.site_) && (decide (x.no_=y.no_) && true)) w) (by cases x;cases y;simp[Bool.decide_and]);simp only[Program.fieldsOf,underlying116];exact(Ry aC (Hm isAgg9 rfl) (Hm isAgg9 rfl) (Uv underlying9) (Ry aC (Hm isAgg3 rfl) (Hm isAgg3 rfl) (Zx underlying3) YO))
theorem Aky{a:Act}{w:World}{x y:Operand}{u ty:TypeId}{m n:Fu}(hx:a.eval x= .agg (Fu.enc m).toArray)(hy:a.eval y= .agg (Fu.enc n).toArray):Rn prog a w (.binOp .eql 116 x y u) ty (.bool (decide (m=n))):=
 YP 2 (by kernel_rfl) (λw=>Akx _ m n w) rfl hx hy
theorem Akz{a:Act}{w:World}{x y:Operand}{u ty:TypeId}{m n:Fu}(hx:a.eval x= .agg (Fu.enc m).toArray)(hy:a.eval y= .agg (Fu.enc n).toArray):Rn prog a w (.binOp .neq 116 x y u) ty (.bool (!decide (m=n))):=
 YQ 2 (by kernel_rfl) (λw=>Akx _ m n w) rfl hx hy
theorem eq_181(dd:Nat)(x y:Fd)(w:World):(Op.equalIn (dd+2) 181 (.agg (Fd.enc x).toArray) (.agg (Fd.enc y).toArray)).run prog w= .ok (decide (x=y)) w:=by
 refine JA (dd:=dd+1) (fs:=(prog.fieldsOf 181).toList) (by kernel_rfl) rfl (by kernel_rfl) (?_:_=Result.ok (decide (x.Race=y.Race) && (decide (x.Who=y.Who) && (decide (x.Club=y.Club) && (decide (x.Rank=y.Rank) && (decide (x.Relay=y.Relay) && true))))) w) (by cases x;cases y;simp[Bool.decide_and]);simp only[Program.fieldsOf,underlying181];exact(Ry aC (Hm isAgg9 rfl) (Hm isAgg9 rfl) (Uv underlying9) (Ry aC (Hm isAgg9 rfl) (Hm isAgg9 rfl) (Uv underlying9) (Ry aC (Hm isAgg9 rfl) (Hm isAgg9 rfl) (Uv underlying9) (Ry aC (Hm isAgg3 rfl) (Hm isAgg3 rfl) (Zx underlying3) (Ry aC (Hm isAgg4 rfl) (Hm isAgg4 rfl) (Afa underlying4) YO)))))
theorem Ala{a:Act}{w:World}{x y:Operand}{u ty:TypeId}{m n:Fd}(hx:a.eval x= .agg (Fd.enc m).toArray)(hy:a.eval y= .agg (Fd.enc n).toArray):Rn prog a w (.binOp .eql 181 x y u) ty (.bool (decide (m=n))):=
 YP 2 (by kernel_rfl) (λw=>eq_181 _ m n w) rfl hx hy
theorem Alb{a:Act}{w:World}{x y:Operand}{u ty:TypeId}{m n:Fd}(hx:a.eval x= .agg (Fd.enc m).toArray)(hy:a.eval y= .agg (Fd.enc n).toArray):Rn prog a w (.binOp .neq 181 x y u) ty (.bool (!decide (m=n))):=
 YQ 2 (by kernel_rfl) (λw=>eq_181 _ m n w) rfl hx hy
theorem Alc(dd:Nat)(x y:Fw)(w:World):(Op.equalIn (dd+2) 374 (.agg (Fw.enc x).toArray) (.agg (Fw.enc y).toArray)).run prog w= .ok (decide (x=y)) w:=by
 refine JA (dd:=dd+1) (fs:=(prog.fieldsOf 374).toList) (by kernel_rfl) rfl (by kernel_rfl) (?_:_=Result.ok (decide (x.race_=y.race_) && (decide (x.who_=y.who_) && true)) w) (by cases x;cases y;simp[Bool.decide_and]);simp only[Program.fieldsOf,underlying374];exact(Ry aC (Hm isAgg9 rfl) (Hm isAgg9 rfl) (Uv underlying9) (Ry aC (Hm isAgg9 rfl) (Hm isAgg9 rfl) (Uv underlying9) YO))
theorem Ald{a:Act}{w:World}{x y:Operand}{u ty:TypeId}{m n:Fw}(hx:a.eval x= .agg (Fw.enc m).toArray)(hy:a.eval y= .agg (Fw.enc n).toArray):Rn prog a w (.binOp .eql 374 x y u) ty (.bool (decide (m=n))):=
 YP 2 (by kernel_rfl) (λw=>Alc _ m n w) rfl hx hy
theorem Ale{a:Act}{w:World}{x y:Operand}{u ty:TypeId}{m n:Fw}(hx:a.eval x= .agg (Fw.enc m).toArray)(hy:a.eval y= .agg (Fw.enc n).toArray):Rn prog a w (.binOp .neq 374 x y u) ty (.bool (!decide (m=n))):=
 YQ 2 (by kernel_rfl) (λw=>Alc _ m n w) rfl hx hy
theorem keyT_116:UR prog 116 (λx=>Value.agg (Fu.enc x).toArray):=
 Ahl 2 rfl underlying116 (λem x w=>Amx underlying116 (by
  intro f hf _
  simp only[bB,bM,or_false] at hf
  rcases hf with rfl|rfl
  ·exact⟨_,λw=>Hm isAgg9 rfl,λw=>Afe underlying9⟩
  ·exact⟨_,λw=>Hm isAgg3 rfl,λw=>chk_int underlying3⟩)) Akx (λx=>by simp[Instr.sameBits,Fu.enc,Acq])
theorem keyT_374:UR prog 374 (λx=>Value.agg (Fw.enc x).toArray):=
 Ahl 2 rfl underlying374 (λem x w=>Amx underlying374 (by
  intro f hf _
  simp only[bB,bM,or_false] at hf
  rcases hf with rfl|rfl
  ·exact⟨_,λw=>Hm isAgg9 rfl,λw=>Afe underlying9⟩
  ·exact⟨_,λw=>Hm isAgg9 rfl,λw=>Afe underlying9⟩)) Alc (λx=>by simp[Instr.sameBits,Fw.enc,Acq])
theorem bt_25:IY prog 25 (.agg #[.slice none 0 0,iV 0]) [(0,1),(1,1)]:=⟨_,underlying25,zeroValue25,λ_=>by kernel_rfl⟩
theorem bt_28:IY prog 28 (.agg #[.slice none 0 0,iV 0,iV 0]) [(0,1),(1,1),(2,1)]:=⟨_,underlying28,zeroValue28,λ_=>by kernel_rfl⟩
theorem bt_30:IY prog 30 (.agg #[iV 0,iV 0,iV 0]) [(0,1),(1,1),(2,1)]:=⟨_,underlying30,zeroValue30,λ_=>by kernel_rfl⟩
theorem bt_32:IY prog 32 (.agg #[.slice none 0 0,.slice none 0 0,iV 0,iV 0,iV 0,iV 0,iV 0]) [(0,1),(1,3),(4,3)]:=⟨_,underlying32,zeroValue32,λ_=>by kernel_rfl⟩
theorem bt_35:IY prog 35 (.agg #[iV 0,iV 0,iV 0,iV 0]) [(0,1),(1,1),(2,1),(3,1)]:=⟨_,underlying35,zeroValue35,λ_=>by kernel_rfl⟩
theorem bt_61:IY prog 61 (.agg #[.slice none 0 0,.slice none 0 0,iV 0,iV 0,iV 0,iV 0,iV 0,iV 0,iV 0,iV 0,iV 0,.slice none 0 0,iV 0]) [(0,7),(7,4),(11,1),(12,1)]:=⟨_,underlying61,zeroValue61,λ_=>by kernel_rfl⟩
theorem bt_79:IY prog 79 (.agg #[sV Ff,iV 0,iV 0,iV 0,iV 0,iV 0,iV 0,iV 0]) [(0,1),(1,1),(2,1),(3,1),(4,1),(5,1),(6,1),(7,1)]:=⟨_,underlying79,zeroValue79,λ_=>by kernel_rfl⟩
theorem bt_87:IY prog 87 (.agg #[sV Ff,iV 0,iV 0,iV 0,sV Ff,sV Ff,sV Ff,iV 0,iV 0,sV Ff,iV 0]) [(0,1),(1,1),(2,1),(3,1),(4,1),(5,1),(6,1),(7,1),(8,1),(9,1),(10,1)]:=⟨_,underlying87,zeroValue87,λ_=>by kernel_rfl⟩
theorem bt_97:IY prog 97 (.agg #[sV Ff,iV 0]) [(0,1),(1,1)]:=⟨_,underlying97,zeroValue97,λ_=>by kernel_rfl⟩
theorem bt_116:IY prog 116 (.agg #[sV Ff,iV 0]) [(0,1),(1,1)]:=⟨_,underlying116,zeroValue116,λ_=>by kernel_rfl⟩
theorem bt_124:IY prog 124 (.agg #[sV Ff,iV 0,iV 0]) [(0,1),(1,1),(2,1)]:=⟨_,underlying124,zeroValue124,λ_=>by kernel_rfl⟩
theorem bt_129:IY prog 129 (.agg #[iV 0,iV 0]) [(0,1),(1,1)]:=⟨_,underlying129,zeroValue129,λ_=>by kernel_rfl⟩
theorem bt_131:IY prog 131 (.agg #[sV Ff,iV 0,iV 0]) [(0,1),(1,2)]:=⟨_,underlying131,zeroValue131,λ_=>by kernel_rfl⟩
theorem bt_138:IY prog 138 (.agg #[sV Ff,sV Ff]) [(0,1),(1,1)]:=⟨_,underlying138,zeroValue138,λ_=>by kernel_rfl⟩
theorem bt_155:IY prog 155 (.agg #[iV 0,sV Ff,sV Ff,iV 0,iV 0,iV 0,iV 0]) [(0,1),(1,1),(2,1),(3,1),(4,1),(5,2)]:=⟨_,underlying155,zeroValue155,λ_=>by kernel_rfl⟩
theorem bt_181:IY prog 181 (.agg #[sV Ff,sV Ff,sV Ff,iV 0,bV false]) [(0,1),(1,1),(2,1),(3,1),(4,1)]:=⟨_,underlying181,zeroValue181,λ_=>by kernel_rfl⟩
theorem bt_212:IY prog 212 (.agg #[.slice none 0 0,.slice none 0 0,iV 0,iV 0,iV 0,iV 0,iV 0,.slice none 0 0]) [(0,7),(7,1)]:=⟨_,underlying212,zeroValue212,λ_=>by kernel_rfl⟩
theorem bt_230:IY prog 230 (.agg #[bV false,iV 0]) [(0,1),(1,1)]:=⟨_,underlying230,zeroValue230,λ_=>by kernel_rfl⟩
theorem bt_263:IY prog 263 (.agg #[sV Ff,iV 0,iV 0,iV 0]) [(0,1),(1,1),(2,1),(3,1)]:=⟨_,underlying263,zeroValue263,λ_=>by kernel_rfl⟩
theorem bt_296:IY prog 296 (.agg #[sV Ff,iV 0,.slice none 0 0]) [(0,1),(1,1),(2,1)]:=⟨_,underlying296,zeroValue296,λ_=>by kernel_rfl⟩
theorem bt_304:IY prog 304 (.agg #[sV Ff,sV Ff,sV Ff,iV 0,bV false,iV 0,iV 0]) [(0,5),(5,2)]:=⟨_,underlying304,zeroValue304,λ_=>by kernel_rfl⟩
theorem bt_374:IY prog 374 (.agg #[sV Ff,sV Ff]) [(0,1),(1,1)]:=⟨_,underlying374,zeroValue374,λ_=>by kernel_rfl⟩
instance:FldI prog 25 0 0:=⟨fa_25_0⟩
instance:FldI prog 25 1 1:=⟨fa_25_1⟩
instance:FldI prog 28 0 0:=⟨Anb⟩
instance:FldI prog 28 1 1:=⟨Anc⟩
instance:FldI prog 28 2 2:=⟨Ane⟩
instance:FldI prog 30 0 0:=⟨fa_30_0⟩
instance:FldI prog 30 1 1:=⟨fa_30_1⟩
instance:FldI prog 30 2 2:=⟨fa_30_2⟩
instance:FldI prog 32 0 0:=⟨YU⟩
instance:FldI prog 32 1 1:=⟨Aff⟩
instance:FldI prog 32 2 4:=⟨Afg⟩
instance:FldI prog 35 0 0:=⟨fa_35_0⟩
instance:FldI prog 35 1 1:=⟨fa_35_1⟩
instance:FldI prog 35 2 2:=⟨fa_35_2⟩
instance:FldI prog 35 3 3:=⟨Anf⟩
instance:FldI prog 61 0 0:=⟨fa_61_0⟩
instance:FldI prog 61 1 7:=⟨fa_61_1⟩
instance:FldI prog 61 2 11:=⟨fa_61_2⟩
instance:FldI prog 61 3 12:=⟨fa_61_3⟩
instance:FldI prog 79 0 0:=⟨Ang⟩
instance:FldI prog 79 1 1:=⟨fa_79_1⟩
instance:FldI prog 79 2 2:=⟨fa_79_2⟩
instance:FldI prog 79 3 3:=⟨fa_79_3⟩
instance:FldI prog 79 4 4:=⟨fa_79_4⟩
instance:FldI prog 79 5 5:=⟨fa_79_5⟩
instance:FldI prog 79 6 6:=⟨fa_79_6⟩
instance:FldI prog 79 7 7:=⟨fa_79_7⟩
instance:FldI prog 87 0 0:=⟨fa_87_0⟩
instance:FldI prog 87 1 1:=⟨fa_87_1⟩
instance:FldI prog 87 2 2:=⟨fa_87_2⟩
instance:FldI prog 87 3 3:=⟨fa_87_3⟩
instance:FldI prog 87 4 4:=⟨fa_87_4⟩
instance:FldI prog 87 5 5:=⟨fa_87_5⟩
instance:FldI prog 87 6 6:=⟨fa_87_6⟩
instance:FldI prog 87 7 7:=⟨fa_87_7⟩
instance:FldI prog 87 8 8:=⟨fa_87_8⟩
instance:FldI prog 87 9 9:=⟨fa_87_9⟩
instance:FldI prog 87 10 10:=⟨fa_87_10⟩
instance:FldI prog 97 0 0:=⟨Afh⟩
instance:FldI prog 97 1 1:=⟨fa_97_1⟩
instance:FldI prog 124 0 0:=⟨fa_124_0⟩
instance:FldI prog 124 1 1:=⟨fa_124_1⟩
instance:FldI prog 124 2 2:=⟨fa_124_2⟩
instance:FldI prog 129 0 0:=⟨fa_129_0⟩
instance:FldI prog 129 1 1:=⟨fa_129_1⟩
instance:FldI prog 131 0 0:=⟨fa_131_0⟩
instance:FldI prog 131 1 1:=⟨fa_131_1⟩
instance:FldI prog 138 0 0:=⟨fa_138_0⟩
instance:FldI prog 138 1 1:=⟨fa_138_1⟩
instance:FldI prog 155 0 0:=⟨fa_155_0⟩
instance:FldI prog 155 1 1:=⟨fa_155_1⟩
instance:FldI prog 155 2 2:=⟨fa_155_2⟩
instance:FldI prog 155 3 3:=⟨fa_155_3⟩
instance:FldI prog 155 4 4:=⟨fa_155_4⟩
instance:FldI prog 155 5 5:=⟨fa_155_5⟩
instance:FldI prog 181 0 0:=⟨fa_181_0⟩
instance:FldI prog 181 1 1:=⟨fa_181_1⟩
instance:FldI prog 181 2 2:=⟨fa_181_2⟩
instance:FldI prog 181 3 3:=⟨fa_181_3⟩
instance:FldI prog 181 4 4:=⟨fa_181_4⟩
instance:FldI prog 212 0 0:=⟨fa_212_0⟩
instance:FldI prog 212 1 7:=⟨fa_212_1⟩
instance:FldI prog 230 0 0:=⟨fa_230_0⟩
instance:FldI prog 230 1 1:=⟨fa_230_1⟩
instance:FldI prog 263 0 0:=⟨fa_263_0⟩
instance:FldI prog 263 1 1:=⟨fa_263_1⟩
instance:FldI prog 263 2 2:=⟨fa_263_2⟩
instance:FldI prog 263 3 3:=⟨fa_263_3⟩
instance:FldI prog 296 0 0:=⟨fa_296_0⟩
instance:FldI prog 296 1 1:=⟨fa_296_1⟩
instance:FldI prog 304 0 0:=⟨fa_304_0⟩
instance:FldI prog 304 1 5:=⟨fa_304_1⟩
instance:AgF prog 3:=⟨isAgg3⟩
instance:AgF prog 4:=⟨isAgg4⟩
instance:AgF prog 9:=⟨isAgg9⟩
instance:AgF prog 22:=⟨isAgg22⟩
instance:AgF prog 26:=⟨isAgg26⟩
instance:AgF prog 37:=⟨isAgg37⟩
instance:AgF prog 40:=⟨isAgg40⟩
instance:AgF prog 49:=⟨isAgg49⟩
instance:AgF prog 151:=⟨isAgg151⟩
instance:AgF prog 179:=⟨isAgg179⟩
instance:AgF prog 226:=⟨isAgg226⟩
instance:SlI prog 22 3 1 8:=⟨FD⟩
instance:SlI prog 26 79 8 72:=⟨Ahq⟩
instance:SlI prog 37 87 11 128:=⟨sl_37⟩
instance:SlI prog 68 9 1 16:=⟨AV⟩
instance:SlI prog 77 40 1 8:=⟨sl_77⟩
instance:SlI prog 93 97 2 24:=⟨NB⟩
instance:SlI prog 120 124 3 32:=⟨sl_120⟩
instance:SlI prog 125 131 3 32:=⟨sl_125⟩
instance:SlI prog 134 138 2 32:=⟨sl_134⟩
instance:SlI prog 151 155 7 72:=⟨sl_151⟩
instance:SlI prog 179 181 5 64:=⟨sl_179⟩
instance:SlI prog 231 230 2 16:=⟨sl_231⟩
instance:SlI prog 236 68 1 24:=⟨CC⟩
instance:SlI prog 258 263 4 40:=⟨sl_258⟩
instance:SlI prog 294 296 3 48:=⟨sl_294⟩
instance:SlI prog 301 304 7 80:=⟨sl_301⟩
instance:SlI prog 345 179 1 24:=⟨sl_345⟩
end Go.Proofs.YthlielagemkjcaaGreatDoor
