/- The program's tables,by program. -/
import Derived.Test.YtjlgddkenkpbpaaGreatDoorTw
import Derived.Test.YtjlgddkenkpbpaaGreatDoorSim
import Derived.Test.YtjlgddkenkpbpaaGreatDoorProg
namespace Go.Proofs.YtjlgddkenkpbpaaGreatDoor
open Go
theorem aF{p:Prop}(h:p:=by kernel_rfl):p:=h
abbrev bW:= @wp_skip
abbrev bX:= @wp_block
abbrev bY:= @wp_ret
abbrev bZ:= @wp_exit
abbrev cA(b:Nat):Value:= .pointer (some ⟨b,0,none⟩)
def Eh.enc(x:Eh):List Value:=[sV x.Key,iV x.Metres,iV x.Stroke,iV x.Course,iV x.Legs,iV x.Sex,iV x.Young,iV x.Old]
theorem Eh.enc_ok:Enc 8 Eh.enc:=⟨λ_=>rfl,λ_ u h=>by simp[Eh.enc] at h;rcases h with rfl|rfl|rfl|rfl|rfl|rfl|rfl|rfl<;>rfl⟩
def Qq.enc(x:Qq):List Value:=[iV x.Size,iV x.Many,iV x.Reserves]
theorem Qq.enc_ok:Enc 3 Qq.enc:=⟨λ_=>rfl,λ_ u h=>by simp[Qq.enc] at h;rcases h with rfl|rfl|rfl<;>rfl⟩
def Dy.enc(x:Dy):List Value:=[sV x.Site,iV x.No,iV x.At,iV x.Kind,sV x.Who,sV x.Club,sV x.Race,iV x.Time,iV x.Fault,sV x.Of,iV x.Other]
theorem Dy.enc_ok:Enc 11 Dy.enc:=⟨λ_=>rfl,λ_ u h=>by simp[Dy.enc] at h;rcases h with rfl|rfl|rfl|rfl|rfl|rfl|rfl|rfl|rfl|rfl|rfl<;>rfl⟩
def Fb.enc(x:Fb):List Value:=[sV x.site_,iV x.no_]
theorem Fb.enc_ok:Enc 2 Fb.enc:=⟨λ_=>rfl,λ_ u h=>by simp[Fb.enc] at h;rcases h with rfl|rfl<;>rfl⟩
def Eb.enc(x:Eb):List Value:=[iV x.Num,iV x.Den]
theorem Eb.enc_ok:Enc 2 Eb.enc:=⟨λ_=>rfl,λ_ u h=>by simp[Eb.enc] at h;rcases h with rfl|rfl<;>rfl⟩
def Ec.enc(x:Ec):List Value:=[iV x.Rank,sV x.Who,sV x.Club,iV x.Time,iV x.Fault,iV x.Points.Num,iV x.Points.Den]
theorem Ec.enc_ok:Enc 7 Ec.enc:=⟨λ_=>rfl,λ_ u h=>by simp[Ec.enc] at h;rcases h with rfl|rfl|rfl|rfl|rfl|rfl|rfl<;>rfl⟩
def Jt.enc(x:Jt):List Value:=[sV x.Who,iV x.Time]
theorem Jt.enc_ok:Enc 2 Jt.enc:=⟨λ_=>rfl,λ_ u h=>by simp[Jt.enc] at h;rcases h with rfl|rfl<;>rfl⟩
def Ed.enc(x:Ed):List Value:=[sV x.Who,iV x.Rank,iV x.Time,iV x.Fault]
theorem Ed.enc_ok:Enc 4 Ed.enc:=⟨λ_=>rfl,λ_ u h=>by simp[Ed.enc] at h;rcases h with rfl|rfl|rfl|rfl<;>rfl⟩
def Ea.enc(x:Ea):List Value:=[sV x.Race,sV x.Who,sV x.Club,iV x.Rank,bV x.Relay]
theorem Ea.enc_ok:Enc 5 Ea.enc:=⟨λ_=>rfl,λ_ u h=>by simp[Ea.enc] at h;rcases h with rfl|rfl|rfl|rfl|rfl<;>rfl⟩
def Ft.enc(x:Ft):List Value:=[sV x.race_,sV x.who_]
theorem Ft.enc_ok:Enc 2 Ft.enc:=⟨λ_=>rfl,λ_ u h=>by simp[Ft.enc] at h;rcases h with rfl|rfl<;>rfl⟩
def Et.enc(x:Et):List Value:=[sV x.Key,iV x.Points.Num,iV x.Points.Den]
theorem Et.enc_ok:Enc 3 Et.enc:=⟨λ_=>rfl,λ_ u h=>by simp[Et.enc] at h;rcases h with rfl|rfl|rfl<;>rfl⟩
def Ei.enc(x:Ei):List Value:=[sV x.x_.Race,sV x.x_.Who,sV x.x_.Club,iV x.x_.Rank,bV x.x_.Relay,iV x.points_.Num,iV x.points_.Den]
theorem Ei.enc_ok:Enc 7 Ei.enc:=⟨λ_=>rfl,λ_ u h=>by simp[Ei.enc] at h;rcases h with rfl|rfl|rfl|rfl|rfl|rfl|rfl<;>rfl⟩
def Ig.enc(x:Ig):List Go.Value:=[sV x.Name,sV x.Value]
theorem Ig.enc_ok:Enc 2 Ig.enc:=⟨λ_=>rfl,λ_ u h=>by simp[Ig.enc] at h;rcases h with rfl|rfl<;>rfl⟩
def Hd.enc(x:Hd):List Value:=[bV x.is_,iV x.e_]
theorem Hd.enc_ok:Enc 2 Hd.enc:=⟨λ_=>rfl,λ_ u h=>by simp[Hd.enc] at h;rcases h with rfl|rfl<;>rfl⟩
structure R28 where
 mk::
 (Points:RS)
 (Relay:Int)
 (Most:Int)
def R28.enc(x:R28):List Value:=[x.Points.val,iV x.Relay,iV x.Most]
theorem R28.enc_ok:Enc 3 R28.enc:=⟨λ_=>rfl,λx u h=>by
 simp only[R28.enc,bB,bM,or_false] at h
 rcases h with rfl|rfl|rfl
 ·exact x.Points.property
 ·exact Z
 ·exact Z⟩
def Zp(φ:View)(x:Jn)(r:R28):Prop:=∃u1:RS,r=⟨u1,x.Relay,x.Most⟩/\Slc φ 1 u1.val (x.Points.map eInt)
theorem Yb{φ ψ:View}(l:View.le φ ψ)(x:Jn)(r:R28)(h:Zp φ x r):Zp ψ x r:=by
 obtain⟨u1,e,h1⟩:=h;exact⟨u1,e,h1.mono l⟩
theorem rels_28{φ ψ:View}(l:View.le φ ψ){xs:List Jn}{rs:List R28}(h:Ph (Zp φ) xs rs):Ph (Zp ψ) xs rs:=h.chg (Yb l)
structure R32 where
 mk::
 (Races:RS)
 (Table:R28)
 (Final:Qq)
def R32.enc(x:R32):List Value:=[x.Races.val]++R28.enc x.Table++[iV x.Final.Size,iV x.Final.Many,iV x.Final.Reserves]
theorem R32.enc_ok:Enc 7 R32.enc:=⟨λx=>by simp[R32.enc,R28.enc_ok.len],λx u h=>by
 simp only[R32.enc,bC,bB,bM,or_false] at h
 first
 |(rcases h with (h|h)|h
   ·rcases h with rfl
    ·exact x.Races.property
   ·exact R28.enc_ok.one _ u h
   ·rcases h with rfl|rfl|rfl
    ·exact Z
    ·exact Z
    ·exact Z)⟩
def Rb(φ:View)(x:Ir)(r:R32):Prop:=∃u1:RS,∃u2:R28,r=⟨u1,u2,x.Final⟩/\Slc φ 8 u1.val (x.Races.map Eh.enc)/\Zp φ x.Table u2
theorem Zf{φ ψ:View}(l:View.le φ ψ)(x:Ir)(r:R32)(h:Rb φ x r):Rb ψ x r:=by
 obtain⟨u1,u2,e,h1,h2⟩:=h;exact⟨u1,u2,e,h1.mono l,Yb l _ _ h2⟩
theorem rels_32{φ ψ:View}(l:View.le φ ψ){xs:List Ir}{rs:List R32}(h:Ph (Rb φ) xs rs):Ph (Rb ψ) xs rs:=h.chg (Zf l)
structure JU where
 mk::
 (p_:R32)
 (deeds_:RS)
def JU.enc(x:JU):List Value:=R32.enc x.p_++[x.deeds_.val]
theorem JU.enc_ok:Enc 8 JU.enc:=⟨λx=>by simp[JU.enc,R32.enc_ok.len],λx u h=>by
 simp only[JU.enc,bC,bB,bM,or_false] at h
 first
 |(rcases h with h|h
   ·exact R32.enc_ok.one _ u h
   ·rcases h with rfl
    ·exact x.deeds_.property)⟩
def EM(φ:View)(x:Nn)(r:JU):Prop:=∃u1:R32,∃u2:RS,r=⟨u1,u2⟩/\Rb φ x.p_ u1/\Slc φ 11 u2.val (x.deeds_.map Dy.enc)
theorem Sz{φ ψ:View}(l:View.le φ ψ)(x:Nn)(r:JU)(h:EM φ x r):EM ψ x r:=by
 obtain⟨u1,u2,e,h1,h2⟩:=h;exact⟨u1,u2,e,Zf l _ _ h1,h2.mono l⟩
theorem rels_128{φ ψ:View}(l:View.le φ ψ){xs:List Nn}{rs:List JU}(h:Ph (EM φ) xs rs):Ph (EM ψ) xs rs:=h.chg (Sz l)
structure Zq where
 mk::
 (Who:ByteArray)
 (Fault:Int)
 (Reports:RS)
def Zq.enc(x:Zq):List Value:=[sV x.Who,iV x.Fault,x.Reports.val]
theorem Zq.enc_ok:Enc 3 Zq.enc:=⟨λ_=>rfl,λx u h=>by
 simp only[Zq.enc,bB,bM,or_false] at h
 rcases h with rfl|rfl|rfl
 ·exact Z
 ·exact Z
 ·exact x.Reports.property⟩
def Za(φ:View)(x:Jm)(r:Zq):Prop:=∃u1:RS,r=⟨x.Who,x.Fault,u1⟩/\Slc φ 1 u1.val (x.Reports.map Xw)
theorem TC{φ ψ:View}(l:View.le φ ψ)(x:Jm)(r:Zq)(h:Za φ x r):Za ψ x r:=by
 obtain⟨u1,e,h1⟩:=h;exact⟨u1,e,h1.mono l⟩
theorem OK{φ ψ:View}(l:View.le φ ψ){xs:List Jm}{rs:List Zq}(h:Ph (Za φ) xs rs):Ph (Za ψ) xs rs:=h.chg (TC l)
def GK(φ:View)(x:(List Ea))(r:RS):Prop:=Slc φ 5 r.val (x.map Ea.enc)
theorem UW{φ ψ:View}(l:View.le φ ψ)(x:(List Ea))(r:RS)(h:GK φ x r):GK ψ x r:=Slc.mono h l
theorem NO{φ ψ:View}(l:View.le φ ψ){xs:List (List Ea)}{rs:List RS}(h:Ph (GK φ) xs rs):Ph (GK ψ) xs rs:=h.chg (UW l)
theorem Tryz.mixed:Tryz.prog.follows .mixedOrders=true:=by kernel_rfl
theorem Tj:SlT Tryz.prog 22 3 1 8:=Ze (z:=(iV 0)) Tryz.underlying22 Tryz.sizeOf3 (by kernel_rfl) Z
theorem Yl:SlT Tryz.prog 26 75 8 72:=Ze (z:=(.agg #[sV An,iV 0,iV 0,iV 0,iV 0,iV 0,iV 0,iV 0])) Tryz.underlying26 Tryz.sizeOf75 (by kernel_rfl) Z
theorem Kk:SlT Tryz.prog 34 98 11 128:=Ze (z:=(.agg #[sV An,iV 0,iV 0,iV 0,sV An,sV An,sV An,iV 0,iV 0,sV An,iV 0])) Tryz.underlying34 Tryz.sizeOf98 (by kernel_rfl) Z
theorem Ym:SlT Tryz.prog 38 55 7 72:=Ze (z:=(.agg #[iV 0,sV An,sV An,iV 0,iV 0,iV 0,iV 0])) Tryz.underlying38 Tryz.sizeOf55 (by kernel_rfl) Z
theorem MM:SlT Tryz.prog 42 58 3 32:=Ze (z:=(.agg #[sV An,iV 0,iV 0])) Tryz.underlying42 Tryz.sizeOf58 (by kernel_rfl) Z
theorem UX:SlT Tryz.prog 45 61 2 32:=Ze (z:=(.agg #[sV An,sV An])) Tryz.underlying45 Tryz.sizeOf61 (by kernel_rfl) Z
theorem AR:SlT Tryz.prog 72 9 1 16:=Ze (z:=(sV An)) Tryz.underlying72 Tryz.sizeOf9 (by kernel_rfl) Z
theorem To:SlT Tryz.prog 91 93 5 64:=Ze (z:=(.agg #[sV An,sV An,sV An,iV 0,bV false])) Tryz.underlying91 Tryz.sizeOf93 (by kernel_rfl) Z
theorem IS:SlT Tryz.prog 104 108 2 24:=Ze (z:=(.agg #[sV An,iV 0])) Tryz.underlying104 Tryz.sizeOf108 (by kernel_rfl) Z
theorem Wu:SlT Tryz.prog 117 122 4 40:=Ze (z:=(.agg #[sV An,iV 0,iV 0,iV 0])) Tryz.underlying117 Tryz.sizeOf122 (by kernel_rfl) Z
theorem sl_141:SlT Tryz.prog 141 39 1 8:=Ze (z:=(iV 0)) Tryz.underlying141 Tryz.sizeOf39 (by kernel_rfl) Z
theorem XP:SlT Tryz.prog 154 153 2 16:=Ze (z:=(.agg #[bV false,iV 0])) Tryz.underlying154 Tryz.sizeOf153 (by kernel_rfl) Z
theorem GL:SlT Tryz.prog 167 169 3 48:=Ze (z:=(.agg #[sV An,iV 0,.slice none 0 0])) Tryz.underlying167 Tryz.sizeOf169 (by kernel_rfl) Z
theorem GM:SlT Tryz.prog 174 177 7 80:=Ze (z:=(.agg #[sV An,sV An,sV An,iV 0,bV false,iV 0,iV 0])) Tryz.underlying174 Tryz.sizeOf177 (by kernel_rfl) Z
theorem CY:SlT Tryz.prog 199 91 1 24:=Ze (z:=(.slice none 0 0)) Tryz.underlying199 Tryz.sizeOf91 (by kernel_rfl) Z
theorem TD:Rk Tryz.prog 25 0 0:=⟨_,_,_,Tryz.underlying25,Z,Tryz.sizeOf22,Z,Z⟩
theorem TF:Rk Tryz.prog 25 1 1:=⟨_,_,_,Tryz.underlying25,Z,Tryz.sizeOf3,Z,Z⟩
theorem TG:Rk Tryz.prog 28 0 0:=⟨_,_,_,Tryz.underlying28,Z,Tryz.sizeOf22,Z,Z⟩
theorem ZK:Rk Tryz.prog 28 1 1:=⟨_,_,_,Tryz.underlying28,Z,Tryz.sizeOf3,Z,Z⟩
theorem ZL:Rk Tryz.prog 28 2 2:=⟨_,_,_,Tryz.underlying28,Z,Tryz.sizeOf3,Z,Z⟩
theorem fa_30_0:Rk Tryz.prog 30 0 0:=⟨_,_,_,Tryz.underlying30,Z,Tryz.sizeOf3,Z,Z⟩
theorem fa_30_1:Rk Tryz.prog 30 1 1:=⟨_,_,_,Tryz.underlying30,Z,Tryz.sizeOf3,Z,Z⟩
theorem fa_30_2:Rk Tryz.prog 30 2 2:=⟨_,_,_,Tryz.underlying30,Z,Tryz.sizeOf3,Z,Z⟩
theorem NP:Rk Tryz.prog 32 0 0:=⟨_,_,_,Tryz.underlying32,Z,Tryz.sizeOf26,Z,Z⟩
theorem NQ:Rk Tryz.prog 32 1 1:=⟨_,_,_,Tryz.underlying32,Z,Tryz.sizeOf28,Z,Z⟩
theorem NR:Rk Tryz.prog 32 2 4:=⟨_,_,_,Tryz.underlying32,Z,Tryz.sizeOf30,Z,Z⟩
theorem fa_53_0:Rk Tryz.prog 53 0 0:=⟨_,_,_,Tryz.underlying53,Z,Tryz.sizeOf3,Z,Z⟩
theorem fa_53_1:Rk Tryz.prog 53 1 1:=⟨_,_,_,Tryz.underlying53,Z,Tryz.sizeOf3,Z,Z⟩
theorem NS:Rk Tryz.prog 55 0 0:=⟨_,_,_,Tryz.underlying55,Z,Tryz.sizeOf3,Z,Z⟩
theorem fa_55_1:Rk Tryz.prog 55 1 1:=⟨_,_,_,Tryz.underlying55,Z,Tryz.sizeOf9,Z,Z⟩
theorem TH:Rk Tryz.prog 55 2 2:=⟨_,_,_,Tryz.underlying55,Z,Tryz.sizeOf9,Z,Z⟩
theorem fa_55_3:Rk Tryz.prog 55 3 3:=⟨_,_,_,Tryz.underlying55,Z,Tryz.sizeOf3,Z,Z⟩
theorem fa_55_4:Rk Tryz.prog 55 4 4:=⟨_,_,_,Tryz.underlying55,Z,Tryz.sizeOf3,Z,Z⟩
theorem NT:Rk Tryz.prog 55 5 5:=⟨_,_,_,Tryz.underlying55,Z,Tryz.sizeOf53,Z,Z⟩
theorem fa_58_0:Rk Tryz.prog 58 0 0:=⟨_,_,_,Tryz.underlying58,Z,Tryz.sizeOf9,Z,Z⟩
theorem fa_58_1:Rk Tryz.prog 58 1 1:=⟨_,_,_,Tryz.underlying58,Z,Tryz.sizeOf53,Z,Z⟩
theorem ZM:Rk Tryz.prog 75 0 0:=⟨_,_,_,Tryz.underlying75,Z,Tryz.sizeOf9,Z,Z⟩
theorem fa_75_1:Rk Tryz.prog 75 1 1:=⟨_,_,_,Tryz.underlying75,Z,Tryz.sizeOf3,Z,Z⟩
theorem fa_75_2:Rk Tryz.prog 75 2 2:=⟨_,_,_,Tryz.underlying75,Z,Tryz.sizeOf3,Z,Z⟩
theorem fa_75_3:Rk Tryz.prog 75 3 3:=⟨_,_,_,Tryz.underlying75,Z,Tryz.sizeOf3,Z,Z⟩
theorem fa_75_4:Rk Tryz.prog 75 4 4:=⟨_,_,_,Tryz.underlying75,Z,Tryz.sizeOf3,Z,Z⟩
theorem fa_75_5:Rk Tryz.prog 75 5 5:=⟨_,_,_,Tryz.underlying75,Z,Tryz.sizeOf3,Z,Z⟩
theorem ZN:Rk Tryz.prog 75 6 6:=⟨_,_,_,Tryz.underlying75,Z,Tryz.sizeOf3,Z,Z⟩
theorem ZO:Rk Tryz.prog 75 7 7:=⟨_,_,_,Tryz.underlying75,Z,Tryz.sizeOf3,Z,Z⟩
theorem JV:Rk Tryz.prog 93 0 0:=⟨_,_,_,Tryz.underlying93,Z,Tryz.sizeOf9,Z,Z⟩
theorem TI:Rk Tryz.prog 93 1 1:=⟨_,_,_,Tryz.underlying93,Z,Tryz.sizeOf9,Z,Z⟩
theorem fa_93_2:Rk Tryz.prog 93 2 2:=⟨_,_,_,Tryz.underlying93,Z,Tryz.sizeOf9,Z,Z⟩
theorem Zb:Rk Tryz.prog 93 3 3:=⟨_,_,_,Tryz.underlying93,Z,Tryz.sizeOf3,Z,Z⟩
theorem NU:Rk Tryz.prog 93 4 4:=⟨_,_,_,Tryz.underlying93,Z,Tryz.sizeOf4,Z,Z⟩
theorem CO:Rk Tryz.prog 98 0 0:=⟨_,_,_,Tryz.underlying98,Z,Tryz.sizeOf9,Z,Z⟩
theorem BH:Rk Tryz.prog 98 1 1:=⟨_,_,_,Tryz.underlying98,Z,Tryz.sizeOf3,Z,Z⟩
theorem JW:Rk Tryz.prog 98 2 2:=⟨_,_,_,Tryz.underlying98,Z,Tryz.sizeOf3,Z,Z⟩
theorem Wv:Rk Tryz.prog 98 3 3:=⟨_,_,_,Tryz.underlying98,Z,Tryz.sizeOf3,Z,Z⟩
theorem Zc:Rk Tryz.prog 98 4 4:=⟨_,_,_,Tryz.underlying98,Z,Tryz.sizeOf9,Z,Z⟩
theorem JX:Rk Tryz.prog 98 5 5:=⟨_,_,_,Tryz.underlying98,Z,Tryz.sizeOf9,Z,Z⟩
theorem Zd:Rk Tryz.prog 98 6 6:=⟨_,_,_,Tryz.underlying98,Z,Tryz.sizeOf9,Z,Z⟩
theorem CP:Rk Tryz.prog 98 7 7:=⟨_,_,_,Tryz.underlying98,Z,Tryz.sizeOf3,Z,Z⟩
theorem JY:Rk Tryz.prog 98 8 8:=⟨_,_,_,Tryz.underlying98,Z,Tryz.sizeOf3,Z,Z⟩
theorem Zr:Rk Tryz.prog 98 9 9:=⟨_,_,_,Tryz.underlying98,Z,Tryz.sizeOf9,Z,Z⟩
theorem Xb:Rk Tryz.prog 98 10 10:=⟨_,_,_,Tryz.underlying98,Z,Tryz.sizeOf3,Z,Z⟩
theorem fa_108_0:Rk Tryz.prog 108 0 0:=⟨_,_,_,Tryz.underlying108,Z,Tryz.sizeOf9,Z,Z⟩
theorem fa_108_1:Rk Tryz.prog 108 1 1:=⟨_,_,_,Tryz.underlying108,Z,Tryz.sizeOf3,Z,Z⟩
theorem fa_122_0:Rk Tryz.prog 122 0 0:=⟨_,_,_,Tryz.underlying122,Z,Tryz.sizeOf9,Z,Z⟩
theorem JZ:Rk Tryz.prog 122 1 1:=⟨_,_,_,Tryz.underlying122,Z,Tryz.sizeOf3,Z,Z⟩
theorem GN:Rk Tryz.prog 122 2 2:=⟨_,_,_,Tryz.underlying122,Z,Tryz.sizeOf3,Z,Z⟩
theorem fa_122_3:Rk Tryz.prog 122 3 3:=⟨_,_,_,Tryz.underlying122,Z,Tryz.sizeOf3,Z,Z⟩
theorem fa_128_0:Rk Tryz.prog 128 0 0:=⟨_,_,_,Tryz.underlying128,Z,Tryz.sizeOf32,Z,Z⟩
theorem OL:Rk Tryz.prog 128 1 7:=⟨_,_,_,Tryz.underlying128,Z,Tryz.sizeOf34,Z,Z⟩
theorem fa_153_0:Rk Tryz.prog 153 0 0:=⟨_,_,_,Tryz.underlying153,Z,Tryz.sizeOf4,Z,Z⟩
theorem fa_153_1:Rk Tryz.prog 153 1 1:=⟨_,_,_,Tryz.underlying153,Z,Tryz.sizeOf39,Z,Z⟩
theorem OM:Rk Tryz.prog 169 0 0:=⟨_,_,_,Tryz.underlying169,Z,Tryz.sizeOf9,Z,Z⟩
theorem fa_169_1:Rk Tryz.prog 169 1 1:=⟨_,_,_,Tryz.underlying169,Z,Tryz.sizeOf3,Z,Z⟩
theorem ON:Rk Tryz.prog 177 0 0:=⟨_,_,_,Tryz.underlying177,Z,Tryz.sizeOf93,Z,Z⟩
theorem OO:Rk Tryz.prog 177 1 5:=⟨_,_,_,Tryz.underlying177,Z,Tryz.sizeOf53,Z,Z⟩
theorem ZP(dd:Nat)(x y:Eb)(w:World):(Op.equalIn (dd+2) 53 (.agg (Eb.enc x).toArray) (.agg (Eb.enc y).toArray)).run Tryz.prog w= .ok (decide (x=y)) w:=by
 refine Vd (dd:=dd+1) (fs:=(Tryz.prog.fieldsOf 53).toList) (by kernel_rfl) Z (by kernel_rfl) (?_:_=Result.ok (decide (x.Num=y.Num) && (decide (x.Den=y.Den) && true)) w) (by cases x;cases y;simp[Bool.decide_and]);simp only[Program.fieldsOf,Tryz.underlying53];exact(Lw aC (Gf Tryz.isAgg3 Z) (Gf Tryz.isAgg3 Z) (Rl Tryz.underlying3) (Lw aC (Gf Tryz.isAgg3 Z) (Gf Tryz.isAgg3 Z) (Rl Tryz.underlying3) CG))
theorem rn_eql_53{a:Act}{w:World}{x y:Operand}{u ty:TypeId}{m n:Eb}(hx:a.eval x= .agg (Eb.enc m).toArray)(hy:a.eval y= .agg (Eb.enc n).toArray):Rn Tryz.prog a w (.binOp .eql 53 x y u) ty (.bool (decide (m=n))):=
 CH 2 (by kernel_rfl) (λw=>ZP _ m n w) Z hx hy
theorem rn_neq_53{a:Act}{w:World}{x y:Operand}{u ty:TypeId}{m n:Eb}(hx:a.eval x= .agg (Eb.enc m).toArray)(hy:a.eval y= .agg (Eb.enc n).toArray):Rn Tryz.prog a w (.binOp .neq 53 x y u) ty (.bool (!decide (m=n))):=
 CI 2 (by kernel_rfl) (λw=>ZP _ m n w) Z hx hy
theorem eq_55(dd:Nat)(x y:Ec)(w:World):(Op.equalIn (dd+3) 55 (.agg (Ec.enc x).toArray) (.agg (Ec.enc y).toArray)).run Tryz.prog w= .ok (decide (x=y)) w:=by
 refine Vd (dd:=dd+2) (fs:=(Tryz.prog.fieldsOf 55).toList) (by kernel_rfl) Z (by kernel_rfl) (?_:_=Result.ok (decide (x.Rank=y.Rank) && (decide (x.Who=y.Who) && (decide (x.Club=y.Club) && (decide (x.Time=y.Time) && (decide (x.Fault=y.Fault) && (decide (x.Points=y.Points) && true)))))) w) (by cases x;cases y;simp[Bool.decide_and]);simp only[Program.fieldsOf,Tryz.underlying55];exact(Lw aC (Gf Tryz.isAgg3 Z) (Gf Tryz.isAgg3 Z) (Rl Tryz.underlying3) (Lw aC (Gf Tryz.isAgg9 Z) (Gf Tryz.isAgg9 Z) (Pd Tryz.underlying9) (Lw aC (Gf Tryz.isAgg9 Z) (Gf Tryz.isAgg9 Z) (Pd Tryz.underlying9) (Lw aC (Gf Tryz.isAgg3 Z) (Gf Tryz.isAgg3 Z) (Rl Tryz.underlying3) (Lw aC (Gf Tryz.isAgg3 Z) (Gf Tryz.isAgg3 Z) (Rl Tryz.underlying3) (Lw aC (JQ (cs:=Eb.enc x.Points) Tryz.isAgg53 Tryz.sizeOf53 Z) (JQ (cs:=Eb.enc y.Points) Tryz.isAgg53 Tryz.sizeOf53 Z) (ZP (dd+0) x.Points y.Points w) CG))))))
theorem rn_eql_55{a:Act}{w:World}{x y:Operand}{u ty:TypeId}{m n:Ec}(hx:a.eval x= .agg (Ec.enc m).toArray)(hy:a.eval y= .agg (Ec.enc n).toArray):Rn Tryz.prog a w (.binOp .eql 55 x y u) ty (.bool (decide (m=n))):=
 CH 3 (by kernel_rfl) (λw=>eq_55 _ m n w) Z hx hy
theorem Abu{a:Act}{w:World}{x y:Operand}{u ty:TypeId}{m n:Ec}(hx:a.eval x= .agg (Ec.enc m).toArray)(hy:a.eval y= .agg (Ec.enc n).toArray):Rn Tryz.prog a w (.binOp .neq 55 x y u) ty (.bool (!decide (m=n))):=
 CI 3 (by kernel_rfl) (λw=>eq_55 _ m n w) Z hx hy
theorem eq_58(dd:Nat)(x y:Et)(w:World):(Op.equalIn (dd+3) 58 (.agg (Et.enc x).toArray) (.agg (Et.enc y).toArray)).run Tryz.prog w= .ok (decide (x=y)) w:=by
 refine Vd (dd:=dd+2) (fs:=(Tryz.prog.fieldsOf 58).toList) (by kernel_rfl) Z (by kernel_rfl) (?_:_=Result.ok (decide (x.Key=y.Key) && (decide (x.Points=y.Points) && true)) w) (by cases x;cases y;simp[Bool.decide_and]);simp only[Program.fieldsOf,Tryz.underlying58];exact(Lw aC (Gf Tryz.isAgg9 Z) (Gf Tryz.isAgg9 Z) (Pd Tryz.underlying9) (Lw aC (JQ (cs:=Eb.enc x.Points) Tryz.isAgg53 Tryz.sizeOf53 Z) (JQ (cs:=Eb.enc y.Points) Tryz.isAgg53 Tryz.sizeOf53 Z) (ZP (dd+0) x.Points y.Points w) CG))
theorem rn_eql_58{a:Act}{w:World}{x y:Operand}{u ty:TypeId}{m n:Et}(hx:a.eval x= .agg (Et.enc m).toArray)(hy:a.eval y= .agg (Et.enc n).toArray):Rn Tryz.prog a w (.binOp .eql 58 x y u) ty (.bool (decide (m=n))):=
 CH 3 (by kernel_rfl) (λw=>eq_58 _ m n w) Z hx hy
theorem Abv{a:Act}{w:World}{x y:Operand}{u ty:TypeId}{m n:Et}(hx:a.eval x= .agg (Et.enc m).toArray)(hy:a.eval y= .agg (Et.enc n).toArray):Rn Tryz.prog a w (.binOp .neq 58 x y u) ty (.bool (!decide (m=n))):=
 CI 3 (by kernel_rfl) (λw=>eq_58 _ m n w) Z hx hy
theorem eq_61(dd:Nat)(x y:Ig)(w:World):(Op.equalIn (dd+2) 61 (.agg (Ig.enc x).toArray) (.agg (Ig.enc y).toArray)).run Tryz.prog w= .ok (decide (x=y)) w:=by
 refine Vd (dd:=dd+1) (fs:=(Tryz.prog.fieldsOf 61).toList) (by kernel_rfl) Z (by kernel_rfl) (?_:_=Result.ok (decide (x.Name=y.Name) && (decide (x.Value=y.Value) && true)) w) (by cases x;cases y;simp[Bool.decide_and]);simp only[Program.fieldsOf,Tryz.underlying61];exact(Lw aC (Gf Tryz.isAgg9 Z) (Gf Tryz.isAgg9 Z) (Pd Tryz.underlying9) (Lw aC (Gf Tryz.isAgg9 Z) (Gf Tryz.isAgg9 Z) (Pd Tryz.underlying9) CG))
theorem rn_eql_61{a:Act}{w:World}{x y:Operand}{u ty:TypeId}{m n:Ig}(hx:a.eval x= .agg (Ig.enc m).toArray)(hy:a.eval y= .agg (Ig.enc n).toArray):Rn Tryz.prog a w (.binOp .eql 61 x y u) ty (.bool (decide (m=n))):=
 CH 2 (by kernel_rfl) (λw=>eq_61 _ m n w) Z hx hy
theorem Abw{a:Act}{w:World}{x y:Operand}{u ty:TypeId}{m n:Ig}(hx:a.eval x= .agg (Ig.enc m).toArray)(hy:a.eval y= .agg (Ig.enc n).toArray):Rn Tryz.prog a w (.binOp .neq 61 x y u) ty (.bool (!decide (m=n))):=
 CI 2 (by kernel_rfl) (λw=>eq_61 _ m n w) Z hx hy
theorem eq_93(dd:Nat)(x y:Ea)(w:World):(Op.equalIn (dd+2) 93 (.agg (Ea.enc x).toArray) (.agg (Ea.enc y).toArray)).run Tryz.prog w= .ok (decide (x=y)) w:=by
 refine Vd (dd:=dd+1) (fs:=(Tryz.prog.fieldsOf 93).toList) (by kernel_rfl) Z (by kernel_rfl) (?_:_=Result.ok (decide (x.Race=y.Race) && (decide (x.Who=y.Who) && (decide (x.Club=y.Club) && (decide (x.Rank=y.Rank) && (decide (x.Relay=y.Relay) && true))))) w) (by cases x;cases y;simp[Bool.decide_and]);simp only[Program.fieldsOf,Tryz.underlying93];exact(Lw aC (Gf Tryz.isAgg9 Z) (Gf Tryz.isAgg9 Z) (Pd Tryz.underlying9) (Lw aC (Gf Tryz.isAgg9 Z) (Gf Tryz.isAgg9 Z) (Pd Tryz.underlying9) (Lw aC (Gf Tryz.isAgg9 Z) (Gf Tryz.isAgg9 Z) (Pd Tryz.underlying9) (Lw aC (Gf Tryz.isAgg3 Z) (Gf Tryz.isAgg3 Z) (Rl Tryz.underlying3) (Lw aC (Gf Tryz.isAgg4 Z) (Gf Tryz.isAgg4 Z) (SW Tryz.underlying4) CG)))))
theorem Abx{a:Act}{w:World}{x y:Operand}{u ty:TypeId}{m n:Ea}(hx:a.eval x= .agg (Ea.enc m).toArray)(hy:a.eval y= .agg (Ea.enc n).toArray):Rn Tryz.prog a w (.binOp .eql 93 x y u) ty (.bool (decide (m=n))):=
 CH 2 (by kernel_rfl) (λw=>eq_93 _ m n w) Z hx hy
theorem rn_neq_93{a:Act}{w:World}{x y:Operand}{u ty:TypeId}{m n:Ea}(hx:a.eval x= .agg (Ea.enc m).toArray)(hy:a.eval y= .agg (Ea.enc n).toArray):Rn Tryz.prog a w (.binOp .neq 93 x y u) ty (.bool (!decide (m=n))):=
 CI 2 (by kernel_rfl) (λw=>eq_93 _ m n w) Z hx hy
theorem eq_98(dd:Nat)(x y:Dy)(w:World):(Op.equalIn (dd+2) 98 (.agg (Dy.enc x).toArray) (.agg (Dy.enc y).toArray)).run Tryz.prog w= .ok (decide (x=y)) w:=by
 refine Vd (dd:=dd+1) (fs:=(Tryz.prog.fieldsOf 98).toList) (by kernel_rfl) Z (by kernel_rfl) (?_:_=Result.ok (decide (x.Site=y.Site) && (decide (x.No=y.No) && (decide (x.At=y.At) && (decide (x.Kind=y.Kind) && (decide (x.Who=y.Who) && (decide (x.Club=y.Club) && (decide (x.Race=y.Race) && (decide (x.Time=y.Time) && (decide (x.Fault=y.Fault) && (decide (x.Of=y.Of) && (decide (x.Other=y.Other) && true))))))))))) w) (by cases x;cases y;simp[Bool.decide_and]);simp only[Program.fieldsOf,Tryz.underlying98];exact(Lw aC (Gf Tryz.isAgg9 Z) (Gf Tryz.isAgg9 Z) (Pd Tryz.underlying9) (Lw aC (Gf Tryz.isAgg3 Z) (Gf Tryz.isAgg3 Z) (Rl Tryz.underlying3) (Lw aC (Gf Tryz.isAgg3 Z) (Gf Tryz.isAgg3 Z) (Rl Tryz.underlying3) (Lw aC (Gf Tryz.isAgg3 Z) (Gf Tryz.isAgg3 Z) (Rl Tryz.underlying3) (Lw aC (Gf Tryz.isAgg9 Z) (Gf Tryz.isAgg9 Z) (Pd Tryz.underlying9) (Lw aC (Gf Tryz.isAgg9 Z) (Gf Tryz.isAgg9 Z) (Pd Tryz.underlying9) (Lw aC (Gf Tryz.isAgg9 Z) (Gf Tryz.isAgg9 Z) (Pd Tryz.underlying9) (Lw aC (Gf Tryz.isAgg3 Z) (Gf Tryz.isAgg3 Z) (Rl Tryz.underlying3) (Lw aC (Gf Tryz.isAgg3 Z) (Gf Tryz.isAgg3 Z) (Rl Tryz.underlying3) (Lw aC (Gf Tryz.isAgg9 Z) (Gf Tryz.isAgg9 Z) (Pd Tryz.underlying9) (Lw aC (Gf Tryz.isAgg3 Z) (Gf Tryz.isAgg3 Z) (Rl Tryz.underlying3) CG)))))))))))
theorem rn_eql_98{a:Act}{w:World}{x y:Operand}{u ty:TypeId}{m n:Dy}(hx:a.eval x= .agg (Dy.enc m).toArray)(hy:a.eval y= .agg (Dy.enc n).toArray):Rn Tryz.prog a w (.binOp .eql 98 x y u) ty (.bool (decide (m=n))):=
 CH 2 (by kernel_rfl) (λw=>eq_98 _ m n w) Z hx hy
theorem RD{a:Act}{w:World}{x y:Operand}{u ty:TypeId}{m n:Dy}(hx:a.eval x= .agg (Dy.enc m).toArray)(hy:a.eval y= .agg (Dy.enc n).toArray):Rn Tryz.prog a w (.binOp .neq 98 x y u) ty (.bool (!decide (m=n))):=
 CI 2 (by kernel_rfl) (λw=>eq_98 _ m n w) Z hx hy
theorem XQ(dd:Nat)(x y:Fb)(w:World):(Op.equalIn (dd+2) 181 (.agg (Fb.enc x).toArray) (.agg (Fb.enc y).toArray)).run Tryz.prog w= .ok (decide (x=y)) w:=by
 refine Vd (dd:=dd+1) (fs:=(Tryz.prog.fieldsOf 181).toList) (by kernel_rfl) Z (by kernel_rfl) (?_:_=Result.ok (decide (x.site_=y.site_) && (decide (x.no_=y.no_) && true)) w) (by cases x;cases y;simp[Bool.decide_and]);simp only[Program.fieldsOf,Tryz.underlying181];exact(Lw aC (Gf Tryz.isAgg9 Z) (Gf Tryz.isAgg9 Z) (Pd Tryz.underlying9) (Lw aC (Gf Tryz.isAgg3 Z) (Gf Tryz.isAgg3 Z) (Rl Tryz.underlying3) CG))
theorem rn_eql_181{a:Act}{w:World}{x y:Operand}{u ty:TypeId}{m n:Fb}(hx:a.eval x= .agg (Fb.enc m).toArray)(hy:a.eval y= .agg (Fb.enc n).toArray):Rn Tryz.prog a w (.binOp .eql 181 x y u) ty (.bool (decide (m=n))):=
 CH 2 (by kernel_rfl) (λw=>XQ _ m n w) Z hx hy
theorem rn_neq_181{a:Act}{w:World}{x y:Operand}{u ty:TypeId}{m n:Fb}(hx:a.eval x= .agg (Fb.enc m).toArray)(hy:a.eval y= .agg (Fb.enc n).toArray):Rn Tryz.prog a w (.binOp .neq 181 x y u) ty (.bool (!decide (m=n))):=
 CI 2 (by kernel_rfl) (λw=>XQ _ m n w) Z hx hy
theorem XR(dd:Nat)(x y:Ft)(w:World):(Op.equalIn (dd+2) 253 (.agg (Ft.enc x).toArray) (.agg (Ft.enc y).toArray)).run Tryz.prog w= .ok (decide (x=y)) w:=by
 refine Vd (dd:=dd+1) (fs:=(Tryz.prog.fieldsOf 253).toList) (by kernel_rfl) Z (by kernel_rfl) (?_:_=Result.ok (decide (x.race_=y.race_) && (decide (x.who_=y.who_) && true)) w) (by cases x;cases y;simp[Bool.decide_and]);simp only[Program.fieldsOf,Tryz.underlying253];exact(Lw aC (Gf Tryz.isAgg9 Z) (Gf Tryz.isAgg9 Z) (Pd Tryz.underlying9) (Lw aC (Gf Tryz.isAgg9 Z) (Gf Tryz.isAgg9 Z) (Pd Tryz.underlying9) CG))
theorem rn_eql_253{a:Act}{w:World}{x y:Operand}{u ty:TypeId}{m n:Ft}(hx:a.eval x= .agg (Ft.enc m).toArray)(hy:a.eval y= .agg (Ft.enc n).toArray):Rn Tryz.prog a w (.binOp .eql 253 x y u) ty (.bool (decide (m=n))):=
 CH 2 (by kernel_rfl) (λw=>XR _ m n w) Z hx hy
theorem rn_neq_253{a:Act}{w:World}{x y:Operand}{u ty:TypeId}{m n:Ft}(hx:a.eval x= .agg (Ft.enc m).toArray)(hy:a.eval y= .agg (Ft.enc n).toArray):Rn Tryz.prog a w (.binOp .neq 253 x y u) ty (.bool (!decide (m=n))):=
 CI 2 (by kernel_rfl) (λw=>XR _ m n w) Z hx hy
theorem KA:MX Tryz.prog 181 (λx=>Value.agg (Fb.enc x).toArray):=
 UT 2 Z Tryz.underlying181 (λem x w=>ZG Tryz.underlying181 (by
  intro f hf _
  simp only[bB,bM,or_false] at hf
  rcases hf with rfl|rfl
  ·exact⟨_,λw=>Gf Tryz.isAgg9 Z,λw=>TA Tryz.underlying9⟩
  ·exact⟨_,λw=>Gf Tryz.isAgg3 Z,λw=>chk_int Tryz.underlying3⟩)) XQ (λx=>by simp[Instr.sameBits,Fb.enc,QZ])
theorem UY:MX Tryz.prog 253 (λx=>Value.agg (Ft.enc x).toArray):=
 UT 2 Z Tryz.underlying253 (λem x w=>ZG Tryz.underlying253 (by
  intro f hf _
  simp only[bB,bM,or_false] at hf
  rcases hf with rfl|rfl
  ·exact⟨_,λw=>Gf Tryz.isAgg9 Z,λw=>TA Tryz.underlying9⟩
  ·exact⟨_,λw=>Gf Tryz.isAgg9 Z,λw=>TA Tryz.underlying9⟩)) XR (λx=>by simp[Instr.sameBits,Ft.enc,QZ])
theorem bt_25:DE Tryz.prog 25 (.agg #[.slice none 0 0,iV 0]) [(0,1),(1,1)]:=⟨_,Tryz.underlying25,Tryz.zeroValue25,λ_=>by kernel_rfl⟩
theorem bt_28:DE Tryz.prog 28 (.agg #[.slice none 0 0,iV 0,iV 0]) [(0,1),(1,1),(2,1)]:=⟨_,Tryz.underlying28,Tryz.zeroValue28,λ_=>by kernel_rfl⟩
theorem bt_30:DE Tryz.prog 30 (.agg #[iV 0,iV 0,iV 0]) [(0,1),(1,1),(2,1)]:=⟨_,Tryz.underlying30,Tryz.zeroValue30,λ_=>by kernel_rfl⟩
theorem bt_32:DE Tryz.prog 32 (.agg #[.slice none 0 0,.slice none 0 0,iV 0,iV 0,iV 0,iV 0,iV 0]) [(0,1),(1,3),(4,3)]:=⟨_,Tryz.underlying32,Tryz.zeroValue32,λ_=>by kernel_rfl⟩
theorem MN:DE Tryz.prog 53 (.agg #[iV 0,iV 0]) [(0,1),(1,1)]:=⟨_,Tryz.underlying53,Tryz.zeroValue53,λ_=>by kernel_rfl⟩
theorem bt_55:DE Tryz.prog 55 (.agg #[iV 0,sV An,sV An,iV 0,iV 0,iV 0,iV 0]) [(0,1),(1,1),(2,1),(3,1),(4,1),(5,2)]:=⟨_,Tryz.underlying55,Tryz.zeroValue55,λ_=>by kernel_rfl⟩
theorem bt_58:DE Tryz.prog 58 (.agg #[sV An,iV 0,iV 0]) [(0,1),(1,2)]:=⟨_,Tryz.underlying58,Tryz.zeroValue58,λ_=>by kernel_rfl⟩
theorem bt_61:DE Tryz.prog 61 (.agg #[sV An,sV An]) [(0,1),(1,1)]:=⟨_,Tryz.underlying61,Tryz.zeroValue61,λ_=>by kernel_rfl⟩
theorem RE:DE Tryz.prog 75 (.agg #[sV An,iV 0,iV 0,iV 0,iV 0,iV 0,iV 0,iV 0]) [(0,1),(1,1),(2,1),(3,1),(4,1),(5,1),(6,1),(7,1)]:=⟨_,Tryz.underlying75,Tryz.zeroValue75,λ_=>by kernel_rfl⟩
theorem bt_93:DE Tryz.prog 93 (.agg #[sV An,sV An,sV An,iV 0,bV false]) [(0,1),(1,1),(2,1),(3,1),(4,1)]:=⟨_,Tryz.underlying93,Tryz.zeroValue93,λ_=>by kernel_rfl⟩
theorem MO:DE Tryz.prog 98 (.agg #[sV An,iV 0,iV 0,iV 0,sV An,sV An,sV An,iV 0,iV 0,sV An,iV 0]) [(0,1),(1,1),(2,1),(3,1),(4,1),(5,1),(6,1),(7,1),(8,1),(9,1),(10,1)]:=⟨_,Tryz.underlying98,Tryz.zeroValue98,λ_=>by kernel_rfl⟩
theorem bt_108:DE Tryz.prog 108 (.agg #[sV An,iV 0]) [(0,1),(1,1)]:=⟨_,Tryz.underlying108,Tryz.zeroValue108,λ_=>by kernel_rfl⟩
theorem bt_122:DE Tryz.prog 122 (.agg #[sV An,iV 0,iV 0,iV 0]) [(0,1),(1,1),(2,1),(3,1)]:=⟨_,Tryz.underlying122,Tryz.zeroValue122,λ_=>by kernel_rfl⟩
theorem bt_128:DE Tryz.prog 128 (.agg #[.slice none 0 0,.slice none 0 0,iV 0,iV 0,iV 0,iV 0,iV 0,.slice none 0 0]) [(0,7),(7,1)]:=⟨_,Tryz.underlying128,Tryz.zeroValue128,λ_=>by kernel_rfl⟩
theorem TJ:DE Tryz.prog 153 (.agg #[bV false,iV 0]) [(0,1),(1,1)]:=⟨_,Tryz.underlying153,Tryz.zeroValue153,λ_=>by kernel_rfl⟩
theorem bt_169:DE Tryz.prog 169 (.agg #[sV An,iV 0,.slice none 0 0]) [(0,1),(1,1),(2,1)]:=⟨_,Tryz.underlying169,Tryz.zeroValue169,λ_=>by kernel_rfl⟩
theorem bt_177:DE Tryz.prog 177 (.agg #[sV An,sV An,sV An,iV 0,bV false,iV 0,iV 0]) [(0,5),(5,2)]:=⟨_,Tryz.underlying177,Tryz.zeroValue177,λ_=>by kernel_rfl⟩
theorem bt_181:DE Tryz.prog 181 (.agg #[sV An,iV 0]) [(0,1),(1,1)]:=⟨_,Tryz.underlying181,Tryz.zeroValue181,λ_=>by kernel_rfl⟩
theorem bt_253:DE Tryz.prog 253 (.agg #[sV An,sV An]) [(0,1),(1,1)]:=⟨_,Tryz.underlying253,Tryz.zeroValue253,λ_=>by kernel_rfl⟩
instance:FldI Tryz.prog 25 0 0:=⟨TD⟩
instance:FldI Tryz.prog 25 1 1:=⟨TF⟩
instance:FldI Tryz.prog 28 0 0:=⟨TG⟩
instance:FldI Tryz.prog 28 1 1:=⟨ZK⟩
instance:FldI Tryz.prog 28 2 2:=⟨ZL⟩
instance:FldI Tryz.prog 30 0 0:=⟨fa_30_0⟩
instance:FldI Tryz.prog 30 1 1:=⟨fa_30_1⟩
instance:FldI Tryz.prog 30 2 2:=⟨fa_30_2⟩
instance:FldI Tryz.prog 32 0 0:=⟨NP⟩
instance:FldI Tryz.prog 32 1 1:=⟨NQ⟩
instance:FldI Tryz.prog 32 2 4:=⟨NR⟩
instance:FldI Tryz.prog 53 0 0:=⟨fa_53_0⟩
instance:FldI Tryz.prog 53 1 1:=⟨fa_53_1⟩
instance:FldI Tryz.prog 55 0 0:=⟨NS⟩
instance:FldI Tryz.prog 55 1 1:=⟨fa_55_1⟩
instance:FldI Tryz.prog 55 2 2:=⟨TH⟩
instance:FldI Tryz.prog 55 3 3:=⟨fa_55_3⟩
instance:FldI Tryz.prog 55 4 4:=⟨fa_55_4⟩
instance:FldI Tryz.prog 55 5 5:=⟨NT⟩
instance:FldI Tryz.prog 58 0 0:=⟨fa_58_0⟩
instance:FldI Tryz.prog 58 1 1:=⟨fa_58_1⟩
instance:FldI Tryz.prog 75 0 0:=⟨ZM⟩
instance:FldI Tryz.prog 75 1 1:=⟨fa_75_1⟩
instance:FldI Tryz.prog 75 2 2:=⟨fa_75_2⟩
instance:FldI Tryz.prog 75 3 3:=⟨fa_75_3⟩
instance:FldI Tryz.prog 75 4 4:=⟨fa_75_4⟩
instance:FldI Tryz.prog 75 5 5:=⟨fa_75_5⟩
instance:FldI Tryz.prog 75 6 6:=⟨ZN⟩
instance:FldI Tryz.prog 75 7 7:=⟨ZO⟩
instance:FldI Tryz.prog 93 0 0:=⟨JV⟩
instance:FldI Tryz.prog 93 1 1:=⟨TI⟩
instance:FldI Tryz.prog 93 2 2:=⟨fa_93_2⟩
instance:FldI Tryz.prog 93 3 3:=⟨Zb⟩
instance:FldI Tryz.prog 93 4 4:=⟨NU⟩
instance:FldI Tryz.prog 98 0 0:=⟨CO⟩
instance:FldI Tryz.prog 98 1 1:=⟨BH⟩
instance:FldI Tryz.prog 98 2 2:=⟨JW⟩
instance:FldI Tryz.prog 98 3 3:=⟨Wv⟩
instance:FldI Tryz.prog 98 4 4:=⟨Zc⟩
instance:FldI Tryz.prog 98 5 5:=⟨JX⟩
instance:FldI Tryz.prog 98 6 6:=⟨Zd⟩
instance:FldI Tryz.prog 98 7 7:=⟨CP⟩
instance:FldI Tryz.prog 98 8 8:=⟨JY⟩
instance:FldI Tryz.prog 98 9 9:=⟨Zr⟩
instance:FldI Tryz.prog 98 10 10:=⟨Xb⟩
instance:FldI Tryz.prog 108 0 0:=⟨fa_108_0⟩
instance:FldI Tryz.prog 108 1 1:=⟨fa_108_1⟩
instance:FldI Tryz.prog 122 0 0:=⟨fa_122_0⟩
instance:FldI Tryz.prog 122 1 1:=⟨JZ⟩
instance:FldI Tryz.prog 122 2 2:=⟨GN⟩
instance:FldI Tryz.prog 122 3 3:=⟨fa_122_3⟩
instance:FldI Tryz.prog 128 0 0:=⟨fa_128_0⟩
instance:FldI Tryz.prog 128 1 7:=⟨OL⟩
instance:FldI Tryz.prog 153 0 0:=⟨fa_153_0⟩
instance:FldI Tryz.prog 153 1 1:=⟨fa_153_1⟩
instance:FldI Tryz.prog 169 0 0:=⟨OM⟩
instance:FldI Tryz.prog 169 1 1:=⟨fa_169_1⟩
instance:FldI Tryz.prog 177 0 0:=⟨ON⟩
instance:FldI Tryz.prog 177 1 5:=⟨OO⟩
instance:AgF Tryz.prog 3:=⟨Tryz.isAgg3⟩
instance:AgF Tryz.prog 4:=⟨Tryz.isAgg4⟩
instance:AgF Tryz.prog 9:=⟨Tryz.isAgg9⟩
instance:AgF Tryz.prog 22:=⟨Tryz.isAgg22⟩
instance:AgF Tryz.prog 26:=⟨Tryz.isAgg26⟩
instance:AgF Tryz.prog 34:=⟨Tryz.isAgg34⟩
instance:AgF Tryz.prog 38:=⟨Tryz.isAgg38⟩
instance:AgF Tryz.prog 39:=⟨Tryz.isAgg39⟩
instance:AgF Tryz.prog 64:=⟨Tryz.isAgg64⟩
instance:AgF Tryz.prog 91:=⟨Tryz.isAgg91⟩
instance:AgF Tryz.prog 148:=⟨Tryz.isAgg148⟩
instance:AgF Tryz.prog 179:=⟨Tryz.isAgg179⟩
instance:SlI Tryz.prog 22 3 1 8:=⟨Tj⟩
instance:SlI Tryz.prog 26 75 8 72:=⟨Yl⟩
instance:SlI Tryz.prog 34 98 11 128:=⟨Kk⟩
instance:SlI Tryz.prog 38 55 7 72:=⟨Ym⟩
instance:SlI Tryz.prog 42 58 3 32:=⟨MM⟩
instance:SlI Tryz.prog 45 61 2 32:=⟨UX⟩
instance:SlI Tryz.prog 72 9 1 16:=⟨AR⟩
instance:SlI Tryz.prog 91 93 5 64:=⟨To⟩
instance:SlI Tryz.prog 104 108 2 24:=⟨IS⟩
instance:SlI Tryz.prog 117 122 4 40:=⟨Wu⟩
instance:SlI Tryz.prog 141 39 1 8:=⟨sl_141⟩
instance:SlI Tryz.prog 154 153 2 16:=⟨XP⟩
instance:SlI Tryz.prog 167 169 3 48:=⟨GL⟩
instance:SlI Tryz.prog 174 177 7 80:=⟨GM⟩
instance:SlI Tryz.prog 199 91 1 24:=⟨CY⟩
end Go.Proofs.YtjlgddkenkpbpaaGreatDoor
