/- Instances for the walks. No statement here. -/
import Derived.Test.YthlielagemkjcaaGreatDoorAu
namespace Go.Proofs.YthlielagemkjcaaGreatDoor
open Go
open Go.Proofs.Tryz
theorem WT {φ:View} {x:Il} {u1:RS} (h0:Slc φ 1 u1.val (x.Points.map eInt)):Xs φ x ⟨u1,x.Relay,x.Most⟩:=⟨u1,rfl,h0⟩
theorem WU {φ:View} {x:Ge} {u1:RS} {u2:R28} (h0:Slc φ 8 u1.val (x.Races.map Fp.enc)) (h1:Xs φ x.Table u2):Lb φ x ⟨u1,u2,x.Final⟩:=⟨u1,u2,rfl,h0,h1⟩
theorem TT {φ:View} {x:Jr} {u1:R32} {u2:RS} (h0:Lb φ x.p_ u1) (h1:Slc φ 11 u2.val (x.deeds_.map An.enc)):CV φ x ⟨u1,u2⟩:=⟨u1,u2,rfl,h0,h1⟩
theorem TU {φ:View} {x:Je} {u1:RS} (h0:Slc φ 1 u1.val (x.Reports.map Io)):Xo φ x ⟨x.Who,x.Fault,u1⟩:=⟨u1,rfl,h0⟩
instance:AgF prog 5:=⟨isAgg5⟩
instance:AgF prog 59:=⟨isAgg59⟩
instance:AgF prog 62:=⟨isAgg62⟩
instance:AgF prog 63:=⟨isAgg63⟩
instance:AgF prog 68:=⟨isAgg68⟩
instance:AgF prog 73:=⟨isAgg73⟩
instance:AgF prog 114:=⟨isAgg114⟩
instance:AgF prog 219:=⟨isAgg219⟩
instance:AgF prog 347:=⟨isAgg347⟩
instance:AgT prog 25:=⟨isAgg25⟩
instance:AgT prog 28:=⟨isAgg28⟩
instance:AgT prog 30:=⟨isAgg30⟩
instance:AgT prog 32:=⟨isAgg32⟩
instance:AgT prog 35:=⟨isAgg35⟩
instance:AgT prog 61:=⟨isAgg61⟩
instance:AgT prog 79:=⟨isAgg79⟩
instance:AgT prog 87:=⟨isAgg87⟩
instance:AgT prog 97:=⟨isAgg97⟩
instance:AgT prog 116:=⟨isAgg116⟩
instance:AgT prog 124:=⟨isAgg124⟩
instance:AgT prog 129:=⟨isAgg129⟩
instance:AgT prog 131:=⟨isAgg131⟩
instance:AgT prog 138:=⟨isAgg138⟩
instance:AgT prog 155:=⟨isAgg155⟩
instance:AgT prog 181:=⟨isAgg181⟩
instance:AgT prog 200:=⟨isAgg200⟩
instance:AgT prog 212:=⟨isAgg212⟩
instance:AgT prog 230:=⟨isAgg230⟩
instance:AgT prog 263:=⟨isAgg263⟩
instance:AgT prog 296:=⟨isAgg296⟩
instance:AgT prog 304:=⟨isAgg304⟩
instance:AgT prog 339:=⟨isAgg339⟩
instance:AgT prog 374:=⟨isAgg374⟩
instance:SzI prog 3 1:=⟨sizeOf3⟩
instance:SzI prog 4 1:=⟨sizeOf4⟩
instance:SzI prog 5 1:=⟨sizeOf5⟩
instance:SzI prog 9 1:=⟨sizeOf9⟩
instance:SzI prog 22 1:=⟨sizeOf22⟩
instance:SzI prog 25 2:=⟨sizeOf25⟩
instance:SzI prog 26 1:=⟨sizeOf26⟩
instance:SzI prog 28 3:=⟨sizeOf28⟩
instance:SzI prog 30 3:=⟨sizeOf30⟩
instance:SzI prog 32 7:=⟨sizeOf32⟩
instance:SzI prog 35 4:=⟨sizeOf35⟩
instance:SzI prog 37 1:=⟨sizeOf37⟩
instance:SzI prog 40 1:=⟨sizeOf40⟩
instance:SzI prog 49 1:=⟨sizeOf49⟩
instance:SzI prog 59 1:=⟨sizeOf59⟩
instance:SzI prog 61 13:=⟨sizeOf61⟩
instance:SzI prog 62 1:=⟨sizeOf62⟩
instance:SzI prog 63 1:=⟨sizeOf63⟩
instance:SzI prog 68 1:=⟨sizeOf68⟩
instance:SzI prog 73 1:=⟨sizeOf73⟩
instance:SzI prog 79 8:=⟨sizeOf79⟩
instance:SzI prog 87 11:=⟨sizeOf87⟩
instance:SzI prog 97 2:=⟨sizeOf97⟩
instance:SzI prog 114 1:=⟨sizeOf114⟩
instance:SzI prog 116 2:=⟨sizeOf116⟩
instance:SzI prog 124 3:=⟨sizeOf124⟩
instance:SzI prog 129 2:=⟨sizeOf129⟩
instance:SzI prog 131 3:=⟨sizeOf131⟩
instance:SzI prog 138 2:=⟨sizeOf138⟩
instance:SzI prog 151 1:=⟨sizeOf151⟩
instance:SzI prog 155 7:=⟨sizeOf155⟩
instance:SzI prog 179 1:=⟨sizeOf179⟩
instance:SzI prog 181 5:=⟨sizeOf181⟩
instance:SzI prog 200 256:=⟨sizeOf200⟩
instance:SzI prog 212 8:=⟨sizeOf212⟩
instance:SzI prog 226 1:=⟨sizeOf226⟩
instance:SzI prog 230 2:=⟨sizeOf230⟩
instance:SzI prog 263 4:=⟨sizeOf263⟩
instance:SzI prog 273 20:=⟨sizeOf273⟩
instance:SzI prog 296 3:=⟨sizeOf296⟩
instance:SzI prog 304 7:=⟨sizeOf304⟩
instance:SzI prog 339 2:=⟨sizeOf339⟩
instance:SzI prog 340 32:=⟨sizeOf340⟩
instance:SzI prog 347 1:=⟨sizeOf347⟩
instance:SzI prog 353 32:=⟨sizeOf353⟩
instance:SzI prog 354 64:=⟨sizeOf354⟩
instance:SzI prog 374 2:=⟨sizeOf374⟩
instance:ZvI prog 3 (iV 0):=⟨zeroValue3⟩
instance:ZvI prog 4 (bV false):=⟨zeroValue4⟩
instance:ZvI prog 5 (.int .u8 0):=⟨zeroValue5⟩
instance:ZvI prog 9 (sV Ff):=⟨zeroValue9⟩
instance:ZvI prog 22 (.slice none 0 0):=⟨zeroValue22⟩
instance:ZvI prog 28 (.agg #[.slice none 0 0,iV 0,iV 0]):=⟨zeroValue28⟩
instance:ZvI prog 32 (.agg #[.slice none 0 0,.slice none 0 0,iV 0,iV 0,iV 0,iV 0,iV 0]):=⟨zeroValue32⟩
instance:ZvI prog 35 (.agg #[iV 0,iV 0,iV 0,iV 0]):=⟨zeroValue35⟩
instance:ZvI prog 37 (.slice none 0 0):=⟨zeroValue37⟩
instance:ZvI prog 40 (iV 0):=⟨zeroValue40⟩
instance:ZvI prog 49 (.nilFunc):=⟨zeroValue49⟩
instance:ZvI prog 59 (.pointer none):=⟨zeroValue59⟩
instance:ZvI prog 65 (.agg #[.pointer none,.slice none 0 0]):=⟨zeroValue65⟩
instance:ZvI prog 79 (.agg #[sV Ff,iV 0,iV 0,iV 0,iV 0,iV 0,iV 0,iV 0]):=⟨zeroValue79⟩
instance:ZvI prog 87 (.agg #[sV Ff,iV 0,iV 0,iV 0,sV Ff,sV Ff,sV Ff,iV 0,iV 0,sV Ff,iV 0]):=⟨zeroValue87⟩
instance:ZvI prog 97 (.agg #[sV Ff,iV 0]):=⟨zeroValue97⟩
instance:ZvI prog 114 (.map none):=⟨zeroValue114⟩
instance:ZvI prog 116 (.agg #[sV Ff,iV 0]):=⟨zeroValue116⟩
instance:ZvI prog 124 (.agg #[sV Ff,iV 0,iV 0]):=⟨zeroValue124⟩
instance:ZvI prog 129 (.agg #[iV 0,iV 0]):=⟨zeroValue129⟩
instance:ZvI prog 131 (.agg #[sV Ff,iV 0,iV 0]):=⟨zeroValue131⟩
instance:ZvI prog 138 (.agg #[sV Ff,sV Ff]):=⟨zeroValue138⟩
instance:ZvI prog 151 (.slice none 0 0):=⟨zeroValue151⟩
instance:ZvI prog 155 (.agg #[iV 0,sV Ff,sV Ff,iV 0,iV 0,iV 0,iV 0]):=⟨zeroValue155⟩
instance:ZvI prog 179 (.slice none 0 0):=⟨zeroValue179⟩
instance:ZvI prog 181 (.agg #[sV Ff,sV Ff,sV Ff,iV 0,bV false]):=⟨zeroValue181⟩
instance:ZvI prog 226 (.nilFunc):=⟨zeroValue226⟩
instance:ZvI prog 230 (.agg #[bV false,iV 0]):=⟨zeroValue230⟩
instance:ZvI prog 263 (.agg #[sV Ff,iV 0,iV 0,iV 0]):=⟨zeroValue263⟩
instance:ZvI prog 296 (.agg #[sV Ff,iV 0,.slice none 0 0]):=⟨zeroValue296⟩
instance:ZvI prog 304 (.agg #[sV Ff,sV Ff,sV Ff,iV 0,bV false,iV 0,iV 0]):=⟨zeroValue304⟩
instance:ZvI prog 339 (.agg #[.int .u8 0,.int .u8 0]):=⟨zeroValue339⟩
instance:ZvI prog 347 (.int .u64 0):=⟨zeroValue347⟩
instance:UnI prog 73 (.interface #[("Error",39)]):=⟨underlying73⟩
instance:UnI prog 2 (.int .i64):=⟨underlying2⟩
instance:UnI prog 3 (.int .i64):=⟨underlying3⟩
instance:UnI prog 5 (.int .u8):=⟨underlying5⟩
instance:UnI prog 9 .string:=⟨underlying9⟩
instance:UnI prog 21 (.int .i32):=⟨underlying21⟩
instance:UnI prog 63 (.slice 5):=⟨underlying63⟩
instance:UnI prog 219 (.int .u64):=⟨underlying219⟩
instance:UnI prog 253 (.int .u64):=⟨underlying253⟩
instance:UnI prog 274 (.int .u32):=⟨underlying274⟩
instance:UnI prog 347 (.int .u64):=⟨underlying347⟩
instance:MixI prog:=⟨Tryz.mixed⟩
instance:EncI 8 Fp.enc:=⟨Fp.enc_ok⟩
instance:EncI 3 Mp.enc:=⟨Mp.enc_ok⟩
instance:EncI 4 Gf.enc:=⟨Gf.enc_ok⟩
instance:EncI 11 An.enc:=⟨An.enc_ok⟩
instance:EncI 2 Fu.enc:=⟨Fu.enc_ok⟩
instance:EncI 2 Fh.enc:=⟨Fh.enc_ok⟩
instance:EncI 7 Fo.enc:=⟨Fo.enc_ok⟩
instance:EncI 2 Fi.enc:=⟨Fi.enc_ok⟩
instance:EncI 4 Fj.enc:=⟨Fj.enc_ok⟩
instance:EncI 5 Fd.enc:=⟨Fd.enc_ok⟩
instance:EncI 2 Fw.enc:=⟨Fw.enc_ok⟩
instance:EncI 3 Fx.enc:=⟨Fx.enc_ok⟩
instance:EncI 7 Fl.enc:=⟨Fl.enc_ok⟩
instance:EncI 3 Ft.enc:=⟨Ft.enc_ok⟩
instance:EncI 2 Hu.enc:=⟨Hu.enc_ok⟩
instance:EncI 2 Lf.enc:=⟨Lf.enc_ok⟩
instance:EncI 3 R28.enc:=⟨R28.enc_ok⟩
instance:EncI 7 R32.enc:=⟨R32.enc_ok⟩
instance:EncI 8 JF.enc:=⟨JF.enc_ok⟩
instance:EncI 3 EM.enc:=⟨EM.enc_ok⟩
instance:BldI prog 25 (.agg #[.slice none 0 0,iV 0]) [(0,1),(1,1)]:=⟨bt_25⟩
instance:BldI prog 28 (.agg #[.slice none 0 0,iV 0,iV 0]) [(0,1),(1,1),(2,1)]:=⟨bt_28⟩
instance:BldI prog 30 (.agg #[iV 0,iV 0,iV 0]) [(0,1),(1,1),(2,1)]:=⟨bt_30⟩
instance:BldI prog 32 (.agg #[.slice none 0 0,.slice none 0 0,iV 0,iV 0,iV 0,iV 0,iV 0]) [(0,1),(1,3),(4,3)]:=⟨bt_32⟩
instance:BldI prog 35 (.agg #[iV 0,iV 0,iV 0,iV 0]) [(0,1),(1,1),(2,1),(3,1)]:=⟨bt_35⟩
instance:BldI prog 61 (.agg #[.slice none 0 0,.slice none 0 0,iV 0,iV 0,iV 0,iV 0,iV 0,iV 0,iV 0,iV 0,iV 0,.slice none 0 0,iV 0]) [(0,7),(7,4),(11,1),(12,1)]:=⟨bt_61⟩
instance:BldI prog 79 (.agg #[sV Ff,iV 0,iV 0,iV 0,iV 0,iV 0,iV 0,iV 0]) [(0,1),(1,1),(2,1),(3,1),(4,1),(5,1),(6,1),(7,1)]:=⟨bt_79⟩
instance:BldI prog 87 (.agg #[sV Ff,iV 0,iV 0,iV 0,sV Ff,sV Ff,sV Ff,iV 0,iV 0,sV Ff,iV 0]) [(0,1),(1,1),(2,1),(3,1),(4,1),(5,1),(6,1),(7,1),(8,1),(9,1),(10,1)]:=⟨bt_87⟩
instance:BldI prog 97 (.agg #[sV Ff,iV 0]) [(0,1),(1,1)]:=⟨bt_97⟩
instance:BldI prog 116 (.agg #[sV Ff,iV 0]) [(0,1),(1,1)]:=⟨bt_116⟩
instance:BldI prog 124 (.agg #[sV Ff,iV 0,iV 0]) [(0,1),(1,1),(2,1)]:=⟨bt_124⟩
instance:BldI prog 129 (.agg #[iV 0,iV 0]) [(0,1),(1,1)]:=⟨bt_129⟩
instance:BldI prog 131 (.agg #[sV Ff,iV 0,iV 0]) [(0,1),(1,2)]:=⟨bt_131⟩
instance:BldI prog 138 (.agg #[sV Ff,sV Ff]) [(0,1),(1,1)]:=⟨bt_138⟩
instance:BldI prog 155 (.agg #[iV 0,sV Ff,sV Ff,iV 0,iV 0,iV 0,iV 0]) [(0,1),(1,1),(2,1),(3,1),(4,1),(5,2)]:=⟨bt_155⟩
instance:BldI prog 181 (.agg #[sV Ff,sV Ff,sV Ff,iV 0,bV false]) [(0,1),(1,1),(2,1),(3,1),(4,1)]:=⟨bt_181⟩
instance:BldI prog 212 (.agg #[.slice none 0 0,.slice none 0 0,iV 0,iV 0,iV 0,iV 0,iV 0,.slice none 0 0]) [(0,7),(7,1)]:=⟨bt_212⟩
instance:BldI prog 230 (.agg #[bV false,iV 0]) [(0,1),(1,1)]:=⟨bt_230⟩
instance:BldI prog 263 (.agg #[sV Ff,iV 0,iV 0,iV 0]) [(0,1),(1,1),(2,1),(3,1)]:=⟨bt_263⟩
instance:BldI prog 296 (.agg #[sV Ff,iV 0,.slice none 0 0]) [(0,1),(1,1),(2,1)]:=⟨bt_296⟩
instance:BldI prog 304 (.agg #[sV Ff,sV Ff,sV Ff,iV 0,bV false,iV 0,iV 0]) [(0,5),(5,2)]:=⟨bt_304⟩
instance:BldI prog 374 (.agg #[sV Ff,sV Ff]) [(0,1),(1,1)]:=⟨bt_374⟩
instance:EqI prog 87 instDecidableEqAn An.enc:=⟨Apy,Apz⟩
instance:EqI prog 116 instDecidableEqFu Fu.enc:=⟨Aky,Akz⟩
instance:EqI prog 181 instDecidableEqFd Fd.enc:=⟨Ala,Alb⟩
instance:EqI prog 374 instDecidableEqFw Fw.enc:=⟨Ald,Ale⟩
instance:UnI prog 4 .bool:=⟨underlying4⟩
instance:MapI prog 104 ByteArray.instDecidableEq 9 3 Value.string (Value.int .i64) (0):=⟨underlying104,(QM underlying9),zeroValue3⟩
instance:MapI prog 114 instDecidableEqFu 116 4 (λx=>Value.agg (Fu.enc x).toArray) Value.bool (false):=⟨underlying114,keyT_116,zeroValue4⟩
instance:MapI prog 210 ByteArray.instDecidableEq 9 129 Value.string (λx=>Value.agg (Fh.enc x).toArray) ((Fh.mk 0 0)):=⟨underlying210,(QM underlying9),zeroValue129⟩
instance:MapI prog 216 ByteArray.instDecidableEq 9 87 Value.string (λx=>Value.agg (An.enc x).toArray) ((An.mk Ff 0 0 0 Ff Ff Ff 0 0 Ff 0)):=⟨underlying216,(QM underlying9),zeroValue87⟩
instance:MapI prog 259 ByteArray.instDecidableEq 9 9 Value.string Value.string (Ff):=⟨underlying259,(QM underlying9),zeroValue9⟩
instance:MapI prog 305 ByteArray.instDecidableEq 9 4 Value.string Value.bool (false):=⟨underlying305,(QM underlying9),zeroValue4⟩
instance:MapI prog 372 instDecidableEqFw 374 4 (λx=>Value.agg (Fw.enc x).toArray) Value.bool (false):=⟨underlying372,keyT_374,zeroValue4⟩
def Mp.dec:List Go.Value->Option Mp
 |[Go.Value.int .i64 x1,Go.Value.int .i64 x2,Go.Value.int .i64 x3]=>some (Mp.mk x1 x2 x3)
 |_=>none
instance:DecI prog 30 3 Mp.enc Mp.dec:=⟨isAgg30,sizeOf30,λ_=>rfl,λcs x h=>by
 unfold Mp.dec at h
 split at h
 ·cases h;rfl
 ·cases h⟩
def Gf.dec:List Go.Value->Option Gf
 |[Go.Value.int .i64 x1,Go.Value.int .i64 x2,Go.Value.int .i64 x3,Go.Value.int .i64 x4]=>some (Gf.mk x1 x2 x3 x4)
 |_=>none
instance:DecI prog 35 4 Gf.enc Gf.dec:=⟨isAgg35,sizeOf35,λ_=>rfl,λcs x h=>by
 unfold Gf.dec at h
 split at h
 ·cases h;rfl
 ·cases h⟩
def Fp.dec:List Go.Value->Option Fp
 |[Go.Value.string x1,Go.Value.int .i64 x2,Go.Value.int .i64 x3,Go.Value.int .i64 x4,Go.Value.int .i64 x5,Go.Value.int .i64 x6,Go.Value.int .i64 x7,Go.Value.int .i64 x8]=>some (Fp.mk x1 x2 x3 x4 x5 x6 x7 x8)
 |_=>none
instance:DecI prog 79 8 Fp.enc Fp.dec:=⟨isAgg79,sizeOf79,λ_=>rfl,λcs x h=>by
 unfold Fp.dec at h
 split at h
 ·cases h;rfl
 ·cases h⟩
def An.dec:List Go.Value->Option An
 |[Go.Value.string x1,Go.Value.int .i64 x2,Go.Value.int .i64 x3,Go.Value.int .i64 x4,Go.Value.string x5,Go.Value.string x6,Go.Value.string x7,Go.Value.int .i64 x8,Go.Value.int .i64 x9,Go.Value.string x10,Go.Value.int .i64 x11]=>some (An.mk x1 x2 x3 x4 x5 x6 x7 x8 x9 x10 x11)
 |_=>none
instance:DecI prog 87 11 An.enc An.dec:=⟨isAgg87,sizeOf87,λ_=>rfl,λcs x h=>by
 unfold An.dec at h
 split at h
 ·cases h;rfl
 ·cases h⟩
def Fi.dec:List Go.Value->Option Fi
 |[Go.Value.string x1,Go.Value.int .i64 x2]=>some (Fi.mk x1 x2)
 |_=>none
instance:DecI prog 97 2 Fi.enc Fi.dec:=⟨isAgg97,sizeOf97,λ_=>rfl,λcs x h=>by
 unfold Fi.dec at h
 split at h
 ·cases h;rfl
 ·cases h⟩
def Fu.dec:List Go.Value->Option Fu
 |[Go.Value.string x1,Go.Value.int .i64 x2]=>some (Fu.mk x1 x2)
 |_=>none
instance:DecI prog 116 2 Fu.enc Fu.dec:=⟨isAgg116,sizeOf116,λ_=>rfl,λcs x h=>by
 unfold Fu.dec at h
 split at h
 ·cases h;rfl
 ·cases h⟩
def Ft.dec:List Go.Value->Option Ft
 |[Go.Value.string x1,Go.Value.int .i64 x2,Go.Value.int .i64 x3]=>some (Ft.mk x1 x2 x3)
 |_=>none
instance:DecI prog 124 3 Ft.enc Ft.dec:=⟨isAgg124,sizeOf124,λ_=>rfl,λcs x h=>by
 unfold Ft.dec at h
 split at h
 ·cases h;rfl
 ·cases h⟩
def Fh.dec:List Go.Value->Option Fh
 |[Go.Value.int .i64 x1,Go.Value.int .i64 x2]=>some (Fh.mk x1 x2)
 |_=>none
instance:DecI prog 129 2 Fh.enc Fh.dec:=⟨isAgg129,sizeOf129,λ_=>rfl,λcs x h=>by
 unfold Fh.dec at h
 split at h
 ·cases h;rfl
 ·cases h⟩
def Fx.dec:List Go.Value->Option Fx
 |[Go.Value.string x1,Go.Value.int .i64 x2,Go.Value.int .i64 x3]=>some (Fx.mk x1 (Fh.mk x2 x3))
 |_=>none
instance:DecI prog 131 3 Fx.enc Fx.dec:=⟨isAgg131,sizeOf131,λ_=>rfl,λcs x h=>by
 unfold Fx.dec at h
 split at h
 ·cases h;rfl
 ·cases h⟩
def Hu.dec:List Go.Value->Option Hu
 |[Go.Value.string x1,Go.Value.string x2]=>some (Hu.mk x1 x2)
 |_=>none
instance:DecI prog 138 2 Hu.enc Hu.dec:=⟨isAgg138,sizeOf138,λ_=>rfl,λcs x h=>by
 unfold Hu.dec at h
 split at h
 ·cases h;rfl
 ·cases h⟩
def Fo.dec:List Go.Value->Option Fo
 |[Go.Value.int .i64 x1,Go.Value.string x2,Go.Value.string x3,Go.Value.int .i64 x4,Go.Value.int .i64 x5,Go.Value.int .i64 x6,Go.Value.int .i64 x7]=>some (Fo.mk x1 x2 x3 x4 x5 (Fh.mk x6 x7))
 |_=>none
instance:DecI prog 155 7 Fo.enc Fo.dec:=⟨isAgg155,sizeOf155,λ_=>rfl,λcs x h=>by
 unfold Fo.dec at h
 split at h
 ·cases h;rfl
 ·cases h⟩
def Fd.dec:List Go.Value->Option Fd
 |[Go.Value.string x1,Go.Value.string x2,Go.Value.string x3,Go.Value.int .i64 x4,Go.Value.bool x5]=>some (Fd.mk x1 x2 x3 x4 x5)
 |_=>none
instance:DecI prog 181 5 Fd.enc Fd.dec:=⟨isAgg181,sizeOf181,λ_=>rfl,λcs x h=>by
 unfold Fd.dec at h
 split at h
 ·cases h;rfl
 ·cases h⟩
def Lf.dec:List Go.Value->Option Lf
 |[Go.Value.bool x1,Go.Value.int .i64 x2]=>some (Lf.mk x1 x2)
 |_=>none
instance:DecI prog 230 2 Lf.enc Lf.dec:=⟨isAgg230,sizeOf230,λ_=>rfl,λcs x h=>by
 unfold Lf.dec at h
 split at h
 ·cases h;rfl
 ·cases h⟩
def Fj.dec:List Go.Value->Option Fj
 |[Go.Value.string x1,Go.Value.int .i64 x2,Go.Value.int .i64 x3,Go.Value.int .i64 x4]=>some (Fj.mk x1 x2 x3 x4)
 |_=>none
instance:DecI prog 263 4 Fj.enc Fj.dec:=⟨isAgg263,sizeOf263,λ_=>rfl,λcs x h=>by
 unfold Fj.dec at h
 split at h
 ·cases h;rfl
 ·cases h⟩
def Fl.dec:List Go.Value->Option Fl
 |[Go.Value.string x1,Go.Value.string x2,Go.Value.string x3,Go.Value.int .i64 x4,Go.Value.bool x5,Go.Value.int .i64 x6,Go.Value.int .i64 x7]=>some (Fl.mk (Fd.mk x1 x2 x3 x4 x5) (Fh.mk x6 x7))
 |_=>none
instance:DecI prog 304 7 Fl.enc Fl.dec:=⟨isAgg304,sizeOf304,λ_=>rfl,λcs x h=>by
 unfold Fl.dec at h
 split at h
 ·cases h;rfl
 ·cases h⟩
def Fw.dec:List Go.Value->Option Fw
 |[Go.Value.string x1,Go.Value.string x2]=>some (Fw.mk x1 x2)
 |_=>none
instance:DecI prog 374 2 Fw.enc Fw.dec:=⟨isAgg374,sizeOf374,λ_=>rfl,λcs x h=>by
 unfold Fw.dec at h
 split at h
 ·cases h;rfl
 ·cases h⟩
instance:DcI Mp.enc Mp.dec:=⟨(inferInstance:DecI prog 30 3 Mp.enc Mp.dec).out⟩
instance:DcI Gf.enc Gf.dec:=⟨(inferInstance:DecI prog 35 4 Gf.enc Gf.dec).out⟩
instance:DcI Fp.enc Fp.dec:=⟨(inferInstance:DecI prog 79 8 Fp.enc Fp.dec).out⟩
instance:DcI An.enc An.dec:=⟨(inferInstance:DecI prog 87 11 An.enc An.dec).out⟩
instance:DcI Fi.enc Fi.dec:=⟨(inferInstance:DecI prog 97 2 Fi.enc Fi.dec).out⟩
instance:DcI Fu.enc Fu.dec:=⟨(inferInstance:DecI prog 116 2 Fu.enc Fu.dec).out⟩
instance:DcI Ft.enc Ft.dec:=⟨(inferInstance:DecI prog 124 3 Ft.enc Ft.dec).out⟩
instance:DcI Fh.enc Fh.dec:=⟨(inferInstance:DecI prog 129 2 Fh.enc Fh.dec).out⟩
instance:DcI Fx.enc Fx.dec:=⟨(inferInstance:DecI prog 131 3 Fx.enc Fx.dec).out⟩
instance:DcI Hu.enc Hu.dec:=⟨(inferInstance:DecI prog 138 2 Hu.enc Hu.dec).out⟩
instance:DcI Fo.enc Fo.dec:=⟨(inferInstance:DecI prog 155 7 Fo.enc Fo.dec).out⟩
instance:DcI Fd.enc Fd.dec:=⟨(inferInstance:DecI prog 181 5 Fd.enc Fd.dec).out⟩
instance:DcI Lf.enc Lf.dec:=⟨(inferInstance:DecI prog 230 2 Lf.enc Lf.dec).out⟩
instance:DcI Fj.enc Fj.dec:=⟨(inferInstance:DecI prog 263 4 Fj.enc Fj.dec).out⟩
instance:DcI Fl.enc Fl.dec:=⟨(inferInstance:DecI prog 304 7 Fl.enc Fl.dec).out⟩
instance:DcI Fw.enc Fw.dec:=⟨(inferInstance:DecI prog 374 2 Fw.enc Fw.dec).out⟩
instance:EncT Mp Mp.enc:=⟨⟩
instance:EncT Gf Gf.enc:=⟨⟩
instance:EncT Fp Fp.enc:=⟨⟩
instance:EncT An An.enc:=⟨⟩
instance:EncT Fi Fi.enc:=⟨⟩
instance:EncT Fu Fu.enc:=⟨⟩
instance:EncT Ft Ft.enc:=⟨⟩
instance:EncT Fh Fh.enc:=⟨⟩
instance:EncT Fx Fx.enc:=⟨⟩
instance:EncT Hu Hu.enc:=⟨⟩
instance:EncT Fo Fo.enc:=⟨⟩
instance:EncT Fd Fd.enc:=⟨⟩
instance:EncT Lf Lf.enc:=⟨⟩
instance:EncT Fj Fj.enc:=⟨⟩
instance:EncT Fl Fl.enc:=⟨⟩
instance:EncT Fw Fw.enc:=⟨⟩
instance:SubI R32.enc 1 3 R28.enc (·.Table):=⟨λ_=>rfl,λ_=>rfl⟩
instance:SubI R32.enc 4 3 Mp.enc (·.Final):=⟨λ_=>rfl,λ_=>rfl⟩
instance:SubI Fx.enc 1 2 Fh.enc (·.Points):=⟨λ_=>rfl,λ_=>rfl⟩
instance:SubI Fo.enc 5 2 Fh.enc (·.Points):=⟨λ_=>rfl,λ_=>rfl⟩
instance:SubI JF.enc 0 7 R32.enc (·.p_):=⟨λ_=>rfl,λ_=>rfl⟩
instance:SubI Fl.enc 0 5 Fd.enc (·.x_):=⟨λ_=>rfl,λ_=>rfl⟩
instance:SubI Fl.enc 5 2 Fh.enc (·.points_):=⟨λ_=>rfl,λ_=>rfl⟩
instance:SubI R28.enc 0 3 R28.enc (λx=>x):=⟨λ_=>rfl,λ_=>rfl⟩
instance:SubI R32.enc 0 7 R32.enc (λx=>x):=⟨λ_=>rfl,λ_=>rfl⟩
instance:SubI JF.enc 0 8 JF.enc (λx=>x):=⟨λ_=>rfl,λ_=>rfl⟩
instance:SubI EM.enc 0 3 EM.enc (λx=>x):=⟨λ_=>rfl,λ_=>rfl⟩
theorem Aan {φ:View} {x:Il} {q:R28} {G:Prop} (h:Xs φ x q) (k:∀(u1:RS),q=⟨u1,x.Relay,x.Most⟩->Slc φ 1 u1.val (x.Points.map eInt)->G):G:=by
 obtain⟨_,rfl,_⟩:=h;exact k _ rfl (by assumption)
theorem rel_28_i {τ:View} {x:Il} {v:Value} {u1:Value} {o_u1:u1.oneCell'=true} (e:v= .agg (R28.enc ⟨⟨u1,o_u1⟩,x.Relay,x.Most⟩).toArray) (f1:Slc τ 1 u1 (x.Points.map eInt)):∃q:R28,v= .agg (R28.enc q).toArray/\Xs τ x q:=⟨_,e,_,rfl,f1⟩
theorem ptr_28_i {τ:View} {x:Il} {b:Nat} {cs:List Value} {u1:Value} {o_u1:u1.oneCell'=true} (h:τ b=some (.cells cs.toArray 28 (0,0))) (e:cs=R28.enc ⟨⟨u1,o_u1⟩,x.Relay,x.Most⟩) (f1:Slc τ 1 u1 (x.Points.map eInt)):JS τ 28 R28.enc Xs (.pointer (some ⟨b,0,none⟩)) (some x):=by
 subst e;exact JS.mk _ ⟨_,rfl,f1⟩ h
theorem Aao {φ:View} {x:Ge} {q:R32} {G:Prop} (h:Lb φ x q) (k:∀(u1:RS) (u2:RS),q=⟨u1,(⟨u2,x.Table.Relay,x.Table.Most⟩:R28),x.Final⟩->Slc φ 8 u1.val (x.Races.map Fp.enc)->Slc φ 1 u2.val (x.Table.Points.map eInt)->G):G:=by
 obtain⟨_,_,rfl,_,⟨_,rfl,_⟩⟩:=h;exact k _ _ rfl (by assumption) (by assumption)
theorem rel_32_i {τ:View} {x:Ge} {v:Value} {u1 u2:Value} {o_u1:u1.oneCell'=true} {o_u2:u2.oneCell'=true} (e:v= .agg (R32.enc ⟨⟨u1,o_u1⟩,(⟨⟨u2,o_u2⟩,x.Table.Relay,x.Table.Most⟩:R28),x.Final⟩).toArray) (f1:Slc τ 8 u1 (x.Races.map Fp.enc)) (f2:Slc τ 1 u2 (x.Table.Points.map eInt)):∃q:R32,v= .agg (R32.enc q).toArray/\Lb τ x q:=⟨_,e,_,_,rfl,f1,⟨_,rfl,f2⟩⟩
theorem ptr_32_i {τ:View} {x:Ge} {b:Nat} {cs:List Value} {u1 u2:Value} {o_u1:u1.oneCell'=true} {o_u2:u2.oneCell'=true} (h:τ b=some (.cells cs.toArray 32 (0,0))) (e:cs=R32.enc ⟨⟨u1,o_u1⟩,(⟨⟨u2,o_u2⟩,x.Table.Relay,x.Table.Most⟩:R28),x.Final⟩) (f1:Slc τ 8 u1 (x.Races.map Fp.enc)) (f2:Slc τ 1 u2 (x.Table.Points.map eInt)):JS τ 32 R32.enc Lb (.pointer (some ⟨b,0,none⟩)) (some x):=by
 subst e;exact JS.mk _ ⟨_,_,rfl,f1,⟨_,rfl,f2⟩⟩ h
theorem WV {φ:View} {x:Jr} {q:JF} {G:Prop} (h:CV φ x q) (k:∀(u1:RS) (u2:RS) (u3:RS),q=⟨(⟨u1,(⟨u2,x.p_.Table.Relay,x.p_.Table.Most⟩:R28),x.p_.Final⟩:R32),u3⟩->Slc φ 8 u1.val (x.p_.Races.map Fp.enc)->Slc φ 1 u2.val (x.p_.Table.Points.map eInt)->Slc φ 11 u3.val (x.deeds_.map An.enc)->G):G:=by
 obtain⟨_,_,rfl,⟨_,_,rfl,_,⟨_,rfl,_⟩⟩,_⟩:=h;exact k _ _ _ rfl (by assumption) (by assumption) (by assumption)
theorem Aqf {τ:View} {x:Jr} {v:Value} {u1 u2 u3:Value} {o_u1:u1.oneCell'=true} {o_u2:u2.oneCell'=true} {o_u3:u3.oneCell'=true} (e:v= .agg (JF.enc ⟨(⟨⟨u1,o_u1⟩,(⟨⟨u2,o_u2⟩,x.p_.Table.Relay,x.p_.Table.Most⟩:R28),x.p_.Final⟩:R32),⟨u3,o_u3⟩⟩).toArray) (f1:Slc τ 8 u1 (x.p_.Races.map Fp.enc)) (f2:Slc τ 1 u2 (x.p_.Table.Points.map eInt)) (f3:Slc τ 11 u3 (x.deeds_.map An.enc)):∃q:JF,v= .agg (JF.enc q).toArray/\CV τ x q:=⟨_,e,_,_,rfl,⟨_,_,rfl,f1,⟨_,rfl,f2⟩⟩,f3⟩
theorem Aqg {τ:View} {x:Jr} {b:Nat} {cs:List Value} {u1 u2 u3:Value} {o_u1:u1.oneCell'=true} {o_u2:u2.oneCell'=true} {o_u3:u3.oneCell'=true} (h:τ b=some (.cells cs.toArray 212 (0,0))) (e:cs=JF.enc ⟨(⟨⟨u1,o_u1⟩,(⟨⟨u2,o_u2⟩,x.p_.Table.Relay,x.p_.Table.Most⟩:R28),x.p_.Final⟩:R32),⟨u3,o_u3⟩⟩) (f1:Slc τ 8 u1 (x.p_.Races.map Fp.enc)) (f2:Slc τ 1 u2 (x.p_.Table.Points.map eInt)) (f3:Slc τ 11 u3 (x.deeds_.map An.enc)):JS τ 212 JF.enc CV (.pointer (some ⟨b,0,none⟩)) (some x):=by
 subst e;exact JS.mk _ ⟨_,_,rfl,⟨_,_,rfl,f1,⟨_,rfl,f2⟩⟩,f3⟩ h
theorem WW {φ:View} {x:Je} {q:EM} {G:Prop} (h:Xo φ x q) (k:∀(u1:RS),q=⟨x.Who,x.Fault,u1⟩->Slc φ 1 u1.val (x.Reports.map Io)->G):G:=by
 obtain⟨_,rfl,_⟩:=h;exact k _ rfl (by assumption)
theorem Aqh {τ:View} {x:Je} {v:Value} {u1:Value} {o_u1:u1.oneCell'=true} (e:v= .agg (EM.enc ⟨x.Who,x.Fault,⟨u1,o_u1⟩⟩).toArray) (f1:Slc τ 1 u1 (x.Reports.map Io)):∃q:EM,v= .agg (EM.enc q).toArray/\Xo τ x q:=⟨_,e,_,rfl,f1⟩
theorem Aqi {τ:View} {x:Je} {b:Nat} {cs:List Value} {u1:Value} {o_u1:u1.oneCell'=true} (h:τ b=some (.cells cs.toArray 296 (0,0))) (e:cs=EM.enc ⟨x.Who,x.Fault,⟨u1,o_u1⟩⟩) (f1:Slc τ 1 u1 (x.Reports.map Io)):JS τ 296 EM.enc Xo (.pointer (some ⟨b,0,none⟩)) (some x):=by
 subst e;exact JS.mk _ ⟨_,rfl,f1⟩ h
theorem row_28 {φ:View} {x_Points:List Int} {x_Relay:Int} {x_Most:Int} {u:Value} {cs:List Value} (e:cs=[u,.int .i64 x_Relay,.int .i64 x_Most]) (q:u.oneCell'=true) (f:Slc φ 1 u (x_Points.map eInt)):∃r,R28.enc r=cs/\Xs φ ⟨x_Points,x_Relay,x_Most⟩ r:=⟨⟨⟨u,q⟩,x_Relay,x_Most⟩,e.symm,⟨_,rfl,f⟩⟩
theorem row_68 {φ:View} {xs:List ByteArray} {u:Value} {cs:List Value} (e:cs=[u]) (q:u.oneCell'=true) (f:Slc φ 1 u (xs.map Io)):∃r,RS.enc r=cs/\OO φ xs r:=⟨⟨u,q⟩,e.symm,f⟩
theorem row_179 {φ:View} {xs:List Fd} {u:Value} {cs:List Value} (e:cs=[u]) (q:u.oneCell'=true) (f:Slc φ 5 u (xs.map Fd.enc)):∃r,RS.enc r=cs/\JG φ xs r:=⟨⟨u,q⟩,e.symm,f⟩
theorem row_296 {φ:View} {x_Who:ByteArray} {x_Fault:Int} {x_Reports:List ByteArray} {u:Value} {cs:List Value} (e:cs=[.string x_Who,.int .i64 x_Fault,u]) (q:u.oneCell'=true) (f:Slc φ 1 u (x_Reports.map Io)):∃r,EM.enc r=cs/\Xo φ ⟨x_Who,x_Fault,x_Reports⟩ r:=⟨⟨x_Who,x_Fault,⟨u,q⟩⟩,e.symm,⟨_,rfl,f⟩⟩
instance:RelT 28 3 Xs R28.enc:=⟨inferInstance⟩
instance:RelT 32 7 Lb R32.enc:=⟨inferInstance⟩
instance:RelT 212 8 CV JF.enc:=⟨inferInstance⟩
instance:RelT 296 3 Xo EM.enc:=⟨inferInstance⟩
instance:RelM Xs:=⟨CB⟩
instance:RelM Lb:=⟨EH⟩
instance:RelM OO:=⟨XU⟩
instance:RelM JG:=⟨VF⟩
instance:RelM CV:=⟨VD⟩
instance:RelM Xo:=⟨VE⟩
instance:LtI 3 1 eInt Afp:=⟨inferInstance,inferInstance⟩
instance:LtI 9 1 Io Alj:=⟨inferInstance,inferInstance⟩
instance:LtI 40 1 eInt Afp:=⟨inferInstance,inferInstance⟩
instance:LtI 79 8 Fp.enc Fp.dec:=⟨inferInstance,inferInstance⟩
instance:LtI 87 11 An.enc An.dec:=⟨inferInstance,inferInstance⟩
instance:LtI 97 2 Fi.enc Fi.dec:=⟨inferInstance,inferInstance⟩
instance:LtI 124 3 Ft.enc Ft.dec:=⟨inferInstance,inferInstance⟩
instance:LtI 131 3 Fx.enc Fx.dec:=⟨inferInstance,inferInstance⟩
instance:LtI 138 2 Hu.enc Hu.dec:=⟨inferInstance,inferInstance⟩
instance:LtI 155 7 Fo.enc Fo.dec:=⟨inferInstance,inferInstance⟩
instance:LtI 181 5 Fd.enc Fd.dec:=⟨inferInstance,inferInstance⟩
instance:LtI 230 2 Lf.enc Lf.dec:=⟨inferInstance,inferInstance⟩
instance:LtI 263 4 Fj.enc Fj.dec:=⟨inferInstance,inferInstance⟩
instance:LtI 304 7 Fl.enc Fl.dec:=⟨inferInstance,inferInstance⟩
end Go.Proofs.YthlielagemkjcaaGreatDoor
